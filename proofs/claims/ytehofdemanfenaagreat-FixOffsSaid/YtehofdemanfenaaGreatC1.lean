/- The code comes to the plain functions. -/
import Derived.Test.YtehofdemanfenaaGreatY
import Derived.Test.YtehofdemanfenaaGreatD
import Derived.Test.YtehofdemanfenaaGreatK6
set_option linter.unusedSectionVars false
set_option linter.unusedVariables false
set_option linter.unusedSimpArgs false
set_option maxRecDepth 100000
open Go Go.Ab Go.Proofs Go.Proofs.YtehofdemanfenaaGreat
open Go.Ab.Tr renaming node→N,leaf→L
namespace Nore
abbrev t1d:Type:=List (Zh×Int)
abbrev t1c:Type:=Int×(List Int)×Int
abbrev t1b:Type:=List (ByteArray×Int)
abbrev t1a:Type:=Int×Int×Int×Zw
abbrev t19:Type:=Int×(List Zt)×Int
abbrev t18:Type:=(Int×Int×Zt)⊕Unit
abbrev t17:Type:=(List Zn)×Int×ZJ
abbrev t16:Type:=Int×(List ByteArray)×ZJ
abbrev t15:Type:=Int×Int×(List Zu)×Int
abbrev t14:Type:=Int×(List Zu)×Int×Int
abbrev t13:Type:=(List ZE)×Int×(List ZE)
abbrev t12:Type:=(Int×Int×Int)⊕(Int×Int)
abbrev t11:Type:=Int×(List ByteArray)×Zl
abbrev t10:Type:=Int×Zl×(List ByteArray)
abbrev tZ:Type:=Int×(List Zt)×Int×Zu
abbrev tY:Type:=(Nat→Zu)×Int×Int×Zu
abbrev tX:Type:=Int×ByteArray×ByteArray×Nat
abbrev tW:Type:=ByteArray×Int×(List ByteArray)
abbrev tV:Type:=Int×(List Int)×Int×Int×Int
abbrev tU:Type:=Int×Int×(List ZE)×Int×Int
abbrev tT:Type:=Int×(List Z5)×Int×ZJ
abbrev tS:Type:=Int×Int×Int×(List Zk)×(List Int)
abbrev tR:Type:=Int×(List Z5)×Int×Z5
abbrev tQ:Type:=Int×(List Zn)×(List ZE)×Zu×ZJ
abbrev tP:Type:=(Int×Z5×Z5)⊕Z5
abbrev tO:Type:=Int×Int×Int×t1b×CtSand
abbrev tN:Type:=(Int×(List Int)×Zu×(List Int)×Zt)⊕Zu
abbrev tM:Type:=(Int×Int×Z5×Z5×ZJ)⊕ZJ
abbrev tL:Type:=Int×Int×Int×(List ByteArray)×Zw×(List ByteArray)
abbrev tK:Type:=ZJ×(List Zn)×(Nat→Nat)×t1d
abbrev tJ:Type:=Int×(List CtSand)×Int×Zl×t1b
abbrev tI:Type:=Int×Int×(List Zw)×Zl×t1b
abbrev tH:Type:=(Bool×ByteArray×Nat)⊕tX
abbrev tG:Type:=Int×ZJ×(List Zn)×(Nat→Nat)×t1d
abbrev tF:Type:=Int×(List Zn)×(List Bool)×Int×Zu×ZJ×(List Int)
abbrev tE:Type:=(Int×Int×Int×(List ByteArray)×ZJ)⊕((List ByteArray)×ZJ)
abbrev tD:Type:=(Nat→Int)×ZJ×(List Zn)×(Nat→Nat)×t1d
abbrev tC:Type:=Int×(List Zn)×Bool×(List Bool)×Int×Zu×ZJ×(List Int)
abbrev tB:Type:=(List Zu)×ZJ×(List Zn)×(Nat→Nat)×t1d
abbrev tA:Type:=(Int×(List ZE)×Zu×(List Bool)×ZJ)⊕((List ZE)×Zu×ZJ)
abbrev tz:Type:=Int×(List Zn)×Bool×(List Bool)×Int×Int×Zu×ZJ×(List Int)
abbrev ty:Type:=(Int×Bool×ZJ×(List Zn)×(Nat→Nat)×Int×t1d)
abbrev tx:Type:=Int×(List Zu)×ZJ×(List Zn)×(Nat→Nat)×t1d
abbrev tw:Type:=Int×ZJ×(List Zn)×(Nat→Nat)×t1d×(List Zu)
abbrev tv:Type:=Int×Int×Int×ZJ×(List Zn)×(Nat→Nat)×Int×t1d
abbrev tu:Type:=(List Zn)×ZJ×ZJ×(List Zn)×(Nat→Nat)×t1d
abbrev tt:Type:=tv
abbrev ts:Type:=Int×Z8×Bool×Int×Bool×Z8×Bool×Int×Z8×Z6
abbrev tr:Type:=Int×Int×ZJ×(List Zn)×(Nat→Nat)×t1d×(List Zu)
abbrev tq:Type:=Int×(List Zn)×Int×ZJ×(List Zn)×(Nat→Nat)×t1d
abbrev tp:Type:=Int×Int×ZJ×(List Zn)×(Nat→Nat)×t1d×Bool×Int×Int
abbrev to:Type:=Int×Int×Int×(List Zn)×ZJ×(List Zn)×(Nat→Nat)×t1d
abbrev tn:Type:=Int×Int×(Nat→ZE)×ZJ×(List Zn)×(Nat→Nat)×t1d×Zu
abbrev tm:Type:=Int×Int×Int×ZJ×(List Zn)×(Nat→Nat)×t1d×Bool×Int×Int
abbrev tl:Type:=Int×Int×(List Zu)×Int×Int×(Nat→Int)×ZJ×(List Zn)×(Nat→Nat)×t1d
abbrev tk:Type:=Int×Int×(List Zu)×Int×Z8×Bool×Int×Bool×Z8×Bool×Int×Z8×Z6
abbrev tj:Type:=Int×Int×(List Zu)×Z8×Bool×Int×Bool×Z8×Bool×Int×Z8×(List Int)×Zu
abbrev ti:Type:=(List Z5)×(List Zn)×Int×Int×ZJ×ZJ×(List Zn)×(Nat→Nat)×t1d
abbrev th:Type:=Int×Int×(List Zn)×Int×Int×(Nat→ZE)×ZJ×(List Zn)×(Nat→Nat)×t1d×Zu
abbrev tg:Type:=Int×Int×Int×Zl×(List Int)×Bool×Int×Bool×Zl×Int×Bool×(List Int)×Int×(List Zk)×Zw
abbrev tf:Type:=Int×Int×Int×Int×(List Z5)×(Nat→ZE)×ZJ×(List Zn)×(Nat→Nat)×t1d×Zu
abbrev te:Type:=Int×Int×(List Zu)×Int×Int×(Nat→Int)×ZJ×(List Zn)×(Nat→Nat)×t1d×(Nat→ZE)×Zu
abbrev td:Type:=Int×Int×Int×(List Zu)×Int×Int×Int×Int×(Nat→Int)×ZJ×(List Zn)×(Nat→Nat)×t1d×(Nat→ZE)×Zu
abbrev tc:Type:=(Int×Bool×ZJ×(List Zn)×(Nat→Nat)×Int×t1d)⊕(ZJ×(List Zn)×(Nat→Nat)×Int×t1d)
abbrev tb:Type:=(Int×Int×ZJ×(List Zn)×(Nat→Nat)×Zn×Zn×t1d)⊕tK
abbrev ta:Type:=(Int×Int×Int×(List ByteArray)×(List ByteArray)×Zl)⊕(Int×Int×Int×(List ByteArray)×(List ByteArray)×Zl)⊕((List ByteArray)×Zl)
abbrev t9:Type:=(Int×(List Int)×(List Int)×Zk)⊕(Int×(List Int)×(List Int)×(List Int)×Zk)⊕(Int×(List Int)×(List Int)×(List Int)×Zk)⊕(List Int)
abbrev t8:Type:=(Int×Int×Int×(List ByteArray)×ZJ×(List ByteArray)×Z5)⊕(Int×Int×Int×(List ByteArray)×ZJ×(List ByteArray)×Z5)⊕((List ByteArray)×ZJ)
abbrev t7:Type:=(Int×ZJ×(List Zn)×(Nat→Nat)×(Nat→ZE)×Zu×t1d×Bool×Int×Int)⊕(Int×ZJ×(List Zn)×(Nat→Nat)×t1d×Bool×Int×Int)
abbrev t6:Type:=(Z8×Bool×Int×Bool×Z8×Bool×Int×Z8×Zu×Z6×(List Int)×Zu)⊕(Z8×Bool×Int×Bool×Z8×Bool×Int×Z8×(List Int)×Zu)
abbrev t5:Type:=(Int×ZJ×(List Zn)×(Nat→Nat)×(Nat→ZE)×Zu×t1d×Bool×Int×Int)⊕tp
abbrev t4:Type:=(Int×Int×Int×Zl×t1b×CtSand)⊕(Int×Int×Int×Zl×t1b×CtSand)⊕(Int×Int×Int×Zl×t1b×CtSand)⊕(Zl×t1b)
abbrev t3:Type:=(Zk×Int×Int×Zl×(List Int)×Bool×Int×Bool×Zl×Int×Bool×(List Int)×Int×(List Zk)×Zw)⊕(Int×Int×Zl×(List Int)×Bool×Int×Bool×Zl×Int×Bool×(List Int)×Int×(List Zk)×Zw)
abbrev t2:Type:=(Int×Int×Int×(List ByteArray)×Zw×Zl×(List ByteArray))⊕(Int×Int×Int×(List ByteArray)×Zw×Zl×(List ByteArray))⊕(Int×Int×Int×(List ByteArray)×Zw×Zl×(List ByteArray))⊕(Zl×(List ByteArray))
abbrev t1:Type:=(Bool×(Nat→ZE)×ZJ×(List Zn)×(Nat→Nat)×ZE×t1d×Zu×Zn)⊕(Bool×(Nat→ZE)×ZJ×(List Zn)×(Nat→Nat)×ZE×t1d×Zu×Zn)⊕((Nat→ZE)×ZJ×(List Zn)×(Nat→Nat)×t1d×Zu)
abbrev t0:Type:=(Int×Int×Int×Zw×Zl×t1b)⊕(Int×Int×Int×Zw×Zl×t1b)⊕(Int×Int×Int×Zw×Zl×t1b×(List Zu))⊕(Int×Int×Int×Zw×Zl×t1b×(List Zu))⊕(Zl×t1b)
abbrev vM:Option (TV S):=some (.int .i64 0)
abbrev vL:Option (TV S):=some (.bool false)
abbrev vK:Option (TV S):=some (.sl (.st 2) [])
abbrev vJ:Option (TV S):=some (.sl (.st 21) [])
abbrev vI:Option (TV S):=some (.sl (.st 18) [])
abbrev oH:Option (Zi S):=some (.row 9 .str [] 1 1)
abbrev oG:Option (Zi S):=some (.row 9 .str [] 0 0)
abbrev oF:Option (Zi S):=some (.row 9 .str [] 1 0)
abbrev vE:Option (TV S):=some (.str ByteArray.empty)
abbrev oD:Option (Zi S):=some (.cells 163 [(.map 4)])
abbrev oC:Option (Zi S):=some (.row 37 (.st 5) [] 1 0)
abbrev oB:Option (Zi S):=some (.cells 80 [(.ptr 3 0)])
abbrev oA:Option (Zi S):=some (.cells 80 [(.ptr 1 0)])
abbrev oz:Option (Zi S):=some (.row 57 (.st 2) [] 1 0)
abbrev oy:Option (Zi S):=some (.cells 80 [(.ptr 20 0)])
abbrev ox:Option (Zi S):=some (.cells 4 [(.bool false)])
abbrev ow:Option (Zi S):=some (.map .str (.int .i64) [])
abbrev ov:Option (Zi S):=some (.cells 3 [(.int .i64 0)])
abbrev ou:Option (Zi S):=some (.siter ByteArray.empty 0)
abbrev ot:Option (Zi S):=some (.cells 32 [(.int .i64 0)])
abbrev os:Option (Zi S):=some (.row 3 (.int .i64) [] 1 0)
abbrev vr:Option (TV S):=some (.agg [(.stc 2 (T.dflt 2))])
abbrev vq:Option (TV S):=some (.agg [(.stc 8 (T.dflt 8))])
abbrev vp:Option (TV S):=some (.agg [(.stc 21 (T.dflt 21))])
abbrev oo:Option (Zi S):=some (.map (.st 23) (.int .i64) [])
abbrev vn:Option (TV S):=some (.agg [(.stc 15 (T.dflt 15))])
abbrev om:Option (Zi S):=some (.cells 107 [(.sl (.st 3) [])])
abbrev vl:Option (TV S):=some (.fn (.func 91) [] [(.ptr 5 0)])
abbrev ok:Option (Zi S):=some (.cells 25 [(.stc 8 (T.dflt 8))])
abbrev oj:Option (Zi S):=some (.cells 57 [(.stc 2 (T.dflt 2))])
abbrev vi:Option (TV S):=some (.fn (.func 132) [] [(.ptr 36 0)])
abbrev oh:Option (Zi S):=some (.cells 169 [(.stc 7 (T.dflt 7))])
abbrev og:Option (Zi S):=some (.cells 109 [(.stc 4 (T.dflt 4))])
abbrev vf:Option (TV S):=some (.fn (.func 131) [] [(.ptr 23 0)])
abbrev oe:Option (Zi S):=some (.cells 148 [(.stc 3 (T.dflt 3))])
abbrev od:Option (Zi S):=some (.cells 72 [(.stc 21 (T.dflt 21))])
abbrev oc:Option (Zi S):=some (.cells 29 [(.stc 20 (T.dflt 20))])
abbrev ob:Option (Zi S):=some (.cells 70 [(.stc 18 (T.dflt 18))])
abbrev oa:Option (Zi S):=some (.cells 115 [(.stc 19 (T.dflt 19))])
abbrev o9:Option (Zi S):=some (.cells 196 [(.stc 17 (T.dflt 17))])
abbrev o8:Option (Zi S):=some (.cells 171 [(.stc 15 (T.dflt 15))])
abbrev o7:Option (Zi S):=some (.cells 119 [(.arr (.st 5) 4 (fun _=>tdf T (.st 5)))])
abbrev o6:Option (Zi S):=some (.cells 151 [(.arr (.int .i64) 32 (fun _=>tdf T (.int .i64)))])
abbrev o5:Option (Zi S):=some (.cells 90 [(.fn (.func 45) [] [(.ptr 4 0),(.ptr 1 0),(.ptr 0 0)])])
abbrev o4:Option (Zi S):=some (.cells 104 [(.stc 20 (T.dflt 20)),(.sl (.st 21) []),(.earr [97,159] 3 4 (fun _=>0)),(.map 2)])
abbrev o3:Option (Zi S):=some (.cells 104 [(.stc 20 (T.dflt 20)),(.sl (.st 21) []),(.earr [97,159] 1 4 (fun _=>0)),(.map 0)])
abbrev o2:Option (Zi S):=some (.cells 104 [(.stc 20 (T.dflt 20)),(.sl (.st 21) []),(.earr [97,159] 20 4 (fun _=>0)),(.map 18)])
abbrev o1:Option (Zi S):=some (.loop 36 (N (N (N (N L (some (.fn (.func 108) [] [(.ptr 6 0)])) L) none L) (some (.ptr 2 0)) L) (some (.ptr 1 0)) (N L (some (.ptr 3 0)) L)) (8::[]) .skip .skip 0 .normal (0::(36::[])) (0::(1::(0::(1::[])))))
abbrev o0:Option (Zi S):=some (.loop 46 (N (N (N L (some (.ptr 3 0)) (N (N L (some (.fn (.func 108) [] [(.ptr 18 0)])) L) none L)) vM (N L (some (.ptr 14 0)) L)) (some (.ptr 1 0)) (N (N L (some (.ptr 4 0)) L) (some (.ptr 2 0)) L)) (20::[]) .skip .skip 0 .normal (0::(46::[])) (0::(1::(0::(1::(1::[]))))))
abbrev o1w:Tr (Zi S):=N (N L none (N L oC L)) none L
abbrev o1v:Tr (Zi S):=N L none (N (N L oF L) none L)
abbrev o1u:Tr (Zi S):=N (N L none (N L os L)) none L
abbrev v1t:Tr (TV S):=N (N L none (N L vM L)) none L
abbrev o1s:Tr (Zi S):=N (N (N L oj L) none L) none L
abbrev o1r:Tr (Zi S):=N (N (N L os L) none L) none L
abbrev v1q:Tr (TV S):=N L none (N (N L vM L) none L)
abbrev v1p:Tr (TV S):=N (N (N L vM L) none L) none L
abbrev o1o:Tr (Zi S):=N (N (N L ou L) none L) none L
abbrev v1n:Tr (TV S):=N (N L (some (.ptr 3 0)) L) none L
abbrev o1m:Tr (Zi S):=N (N (N L o7 L) o3 L) oo (N L oj L)
abbrev v1l:Tr (TV S):=N L (some (.sl .bool [])) (N L vM L)
abbrev o1k:Tr (Zi S):=N (N (N L o4 L) ov L) o5 (N (N L oB L) oo L)
abbrev v1j:Tr (TV S):=N (N (N L vM L) none L) none (N (N L vM L) vM L)
abbrev o1i:Tr (Zi S):=N (N L none (N L oD L)) ok (N (N L ow L) none L)
abbrev v1h:Tr (TV S):=N (N L none (N L vM L)) none (N (N L vM L) none L)
abbrev v1g:Tr (TV S):=N (N L vJ L) (some (.agg [(.stc 20 (T.dflt 20))])) L
abbrev o1f:Tr (Zi S):=N L none (N (N (N (N L ob L) none L) none L) none L)
abbrev v1e:Tr (TV S):=N (N (N L vM L) (some (.ptr 6 0)) L) (some (.yld 11)) L
abbrev v1d:Tr (TV S):=N (N (N L vM L) (some (.ptr 18 0)) L) (some (.yld 22)) L
abbrev o1c:Tr (Zi S):=N (N L oj L) oc (N o1u none L)
abbrev o1b:Tr (Zi S):=N (N (N o1v none L) none L) oc L
abbrev v1a:Tr (TV S):=N L (some (.tup [(.agg [(.stc 5 (T.dflt 5))]),(.bool false)])) L
abbrev o19:Tr (Zi S):=N (N (N L o6 L) o3 L) oo (N L none (N (N (N L o7 L) oj L) none L))
abbrev o18:Tr (Zi S):=N (N L none (N L oD (N (N L og L) none L))) ok (N (N L ow L) none L)
abbrev o17:Tr (Zi S):=N (N L none (N L oD L)) ok (N (N L ow L) none (N L none (N L none (N L oh L))))
abbrev v16:Tr (TV S):=N (N L none (N (N L vL L) none L)) none (N v1n none L)
abbrev o15:Tr (Zi S):=N L none (N (N (N (N L (some (.cells 37 [(.stc 5 (T.dflt 5))])) L) none L) none L) none L)
abbrev o14:Tr (Zi S):=N (N L oy L) oc (N (N L none (N (N L o2 L) none L)) none (N (N (N L oo L) none L) none L))
abbrev o13:Tr (Zi S):=N (N (N L (some (.cells 31 [(.rs 19 0)])) (N (N L oz L) o1 L)) o3 L) oo (N L oA (N L oA L))
abbrev o12:Tr (Zi S):=N (N (N L none (N L none (N (N L oG L) none L))) none (N L none (N (N L oH L) none L))) ok L
abbrev o11:Tr (Zi S):=N (N L oy L) none (N (N L none (N (N L o2 L) none L)) none (N (N (N L oo L) none L) none L))
abbrev o10:Tr (Zi S):=N (N (N L ov L) o3 L) oo (N (N L ox L) oA (N (N (N L oA L) none L) none (N (N L o0 L) ov L)))
abbrev vZ:Tr (TV S):=N (N (N L (some (.ptr 1 0)) L) vM (N L (some (.rs 24 0)) L)) vJ (N L (some (.ptr 0 0)) (N L vL L))
abbrev vY:Tr (TV S):=N (N (N (N L vM L) none L) (some (.fn (.func 97) [] [(.ptr 0 0)])) L) vI v1p
abbrev oX:Tr (Zi S):=N (N L none (N L oD (N (N L og L) none L))) ok (N (N L ow L) none (N (N (N L none (N L oz L)) none L) none L))
abbrev oW:Tr (Zi S):=N (N (N L os L) none (N L none (N (N L os L) none L))) none (N (N (N (N L os L) none L) none (N L oe L)) none L)
abbrev oV:Tr (Zi S):=N (N (N L (some (.cells 31 [(.rs 34 0)])) (N L o1 L)) o3 L) oo (N L oA (N (N (N (N L oz L) none L) none L) oA L))
abbrev oU:Tr (Zi S):=N (N (N (N (N (N L oG L) none L) none L) none L) none (N L none (N (N L og L) none L))) ok (N L none (N (N L oH L) none L))
abbrev vT:Tr (TV S):=N (N (N L none (N L vM L)) (some (.fn (.func 66) [] [])) (N (N L (some (.sl (.st 19) [])) L) none L)) none v1q
abbrev oS:Tr (Zi S):=N (N (N (N L none (N (N L oH L) none L)) none L) none L) oc (N (N L none (N L none (N L none (N L oG L)))) none (N (N (N L none (N L ob L)) none L) none L))
abbrev vR:Tr (TV S):=N (N (N L vM L) none (N (N (N L vM L) (some (.ptr 3 0)) L) none L)) (some (.ptr 1 0)) (N (N (N (N L vK L) none L) none L) vM v1p)
abbrev oQ:Tr (Zi S):=N (N (N (N L none (N L o8 L)) none (N L none (N L (some (.loop 95 (N (N (N (N (N L vL L) none L) vM L) (some (.ptr 0 0)) (N (N L none (N L vL L)) none L)) vn (N (N (N L vL L) none (N L none (N L vf L))) (some (.ptr 1 0)) L)) (29::[]) .skip .skip 1 .normal (1::(95::[])) (0::(1::(0::(1::(1::(1::[])))))))) L))) ot L) o8 (N L none (N L os o1s))
abbrev oP:Tr (Zi S):=N (N (N (N L none (N L o8 L)) none (N L none (N L (some (.loop 95 (N (N (N (N (N L vL L) none L) vM L) (some (.ptr 0 0)) (N (N L none (N L vL L)) none L)) vn (N (N (N L vL L) none (N L none (N L vf L))) (some (.ptr 1 0)) L)) (29::[]) .skip .skip 1 .busy (1::(95::[])) (0::(1::(0::(1::(1::(1::[])))))))) L))) ot L) o8 (N L none (N (N L none (N L none (N L o9 L))) none L))
abbrev oO:Tr (Zi S):=N (N (N L ov L) ov L) ok (N (N (N (N L os L) none (N (N L (some (.loop 109 (N (N (N (N L (some (.ptr 3 0)) L) (some (.ptr 0 0)) (N L none (N (N L vi L) vL L))) vM (N (N (N L vL L) none L) none L)) vq (N (N (N L (some (.ptr 4 0)) L) (some (.ptr 1 0)) L) vM (N L (some (.ptr 2 0)) (N (N L vL L) none L)))) (44::(45::[])) .skip .skip 1 .normal (1::(109::[])) (0::(1::(0::(1::(1::(1::(1::[]))))))))) L) os L)) ot (N (N (N L om L) none L) none L)) og L)
abbrev oN:Tr (Zi S):=N (N (N L ov L) o3 (N (N L none (N L none (N (N L o7 L) none L))) none (N o1s none L))) oo (N (N L ox L) oA (N (N (N L oA L) none L) none (N (N L (some (.loop 46 (N (N (N L (some (.ptr 3 0)) (N (N L (some (.fn (.func 108) [] [(.ptr 18 0)])) L) none L)) vM (N L (some (.ptr 14 0)) L)) (some (.ptr 1 0)) (N (N L (some (.ptr 4 0)) L) (some (.ptr 2 0)) L)) (20::[]) .skip .skip 0 .ret (0::(46::[])) (0::(1::(0::(1::(1::[]))))))) L) ov L)))
noncomputable def q0 {R:Type}:Prs S R:=Zhf
theorem q1 {R:Type}:Z7R X (q0 (R:=R)):=Zhg X
noncomputable def q2:List (Nat×F7 S):=[]
theorem q3:Z9n X (q2):=trivial
abbrev q4 {R:Type}:Z27 S R:=Zgi
theorem q5 {R:Type}:Z3J X (q4 (R:=R)):=ZgQ X
def q6:Key:=⟨[92],92,none,[0,0,1,0,1,1],0,4⟩
def q7:StT S:=⟨(N (N (N (N L (some (.iter 3)) L) (some (.int .i32 0)) L) none L) vE L),o1o,4⟩
def q8:Way S:=⟨.ret,⟨(N L none (N L vL L)),o1o,23⟩,[.bool,.str,.nat]⟩
def q9:Way S:=⟨(.exit 0),⟨(N (N (N L (some (.int .i32 0)) L) none L) vE L),o1o,6⟩,[.int,.str,.str,.nat]⟩
def qa:LE S:=⟨q6,q7,[.int,.str,.str,.nat],[q8,q9]⟩
def qb (x:tX):((Bool×Nat)⊕(Int×Nat))→tH:=Sum.elim (fun y0=>(.inl (y0.1,x.2.2.1,y0.2))) (fun y1=>(.inr (y1.1,x.2.1,x.2.2.1,y1.2)))
noncomputable def qc {R:Type} (x:tX) (k:tH→Option R):Option R:=(X4f x.2.1 x.2.2.1 (x.1,x.2.2.2)).bind (Sum.elim (fun y0=>k (.inl (y0.1,x.2.2.1,y0.2))) (fun y1=>k (.inr (y1.1,x.2.1,x.2.2.1,y1.2))))
def qd (x:tX) (v:(Int×Nat)):tX:=(v.1,x.2.1,x.2.2.1,v.2)
theorem qe (x:tX):LE.step X qa q2 q0 q4 12 x=WL x.2.1 x.2.2.1 x.1 x.2.2.2 (fun w0 w1=>(Sum.inl (w0,x.2.1,x.2.2.1,w1))) (fun p0 p1=>(Sum.inr (.inl (p0,x.2.2.1,p1)))) (fun p0 p1=>(Sum.inr (.inr (p0,x.2.1,x.2.2.1,p1)))):=by kernel_rfl
theorem qg {R:Type} (x:tX) (k:tH→Option R) (r:R) (h:qc x k=some r):∃ o,Z5s (LE.step X qa q2 q0 q4 12) x o∧k o=some r:=by
 obtain ⟨o,h1,h2⟩:=Z0 h
 exact ⟨qb x o,Zhl (st:=fun (x:tX)=>WI x.2.1 x.2.2.1) (prj:=fun x=>(x.1,x.2.2.2)) (emb:=qd) (embO:=qb) (fun x=>(qe x).trans (by unfold WI WL;simp only [Zhd,Zh8,Zhe,Option.map_some,Option.map_none];rfl)) (fun _ _=>rfl) (fun _ _=>rfl) (fun _ _ _=>rfl) (fun _ _ _=>rfl) (fun _=>rfl) (Z1S.1 h1),by
  first
  | exact h2
  | (rcases o with o|o<;>exact h2)⟩
noncomputable def qh {R:Type}:Z27 S R:=LE.ls X qa qc q4
theorem qi {R:Type}:Z3J X (qh (R:=R)):=Zhq xok q3 (e:=qa) q1 q5 qg q5
theorem qj (x0:ByteArray):Zhs X q2 [.str] [.bool] q0 qh 12 92 (x0,())=X2D x0:=by kernel_rfl
noncomputable def qk:F7 S:=⟨[.str],[.bool],fun xs=>X2D xs.1⟩
theorem ql:Z7Q X 92 qk:=Zho (Zhn xok q3 q1 qi 12 92) fun xs _ h=>(qj xs.1).trans h
noncomputable def qm:List (Nat×F7 S):=[]
theorem qn:Z9n X (qm):=trivial
abbrev qo {R:Type}:Z27 S R:=Zgi
theorem qp {R:Type}:Z3J X (qo (R:=R)):=ZgQ X
def qq:Key:=⟨[114,2,1,89,2,1,117],114,none,[0,0,1,0,1],0,17⟩
def qr:StT S:=⟨(N (N (N (N L vM L) none L) (some (.fn (.func 130) [] [(.ptr 0 0),(.ptr 1 0)])) L) (some (.sl (.int .i64) [])) v1p),(N (N L ov L) ov L),17⟩
def qs:Way S:=⟨.ret,⟨v1q,(N (N L ov L) ov L),38⟩,[.int,.int,.int]⟩
def qt:Way S:=⟨(.exit 0),⟨L,(N (N L ov L) ov L),18⟩,[.int,.int]⟩
def qu:LE S:=⟨qq,qr,[.int,(.lst (.int .i64)),.int,.int,.int],[qs,qt]⟩
def qv (x:tV):(Int⊕Unit)→t12:=Sum.elim (fun y0=>(.inl (y0,x.2.2.2.1,x.2.2.2.2))) (fun y1=>(.inr (x.2.2.2.1,x.2.2.2.2)))
noncomputable def qw {R:Type} (x:tV) (k:t12→Option R):Option R:=(X4z x.1 x.2.1 x.2.2.2.1 x.2.2.2.2 x.2.2.1).bind (Sum.elim (fun y0=>k (.inl (y0,x.2.2.2.1,x.2.2.2.2))) (fun y1=>k (.inr (x.2.2.2.1,x.2.2.2.2))))
def qx (x:tV) (v:Int):tV:=(x.1,x.2.1,v,x.2.2.2.1,x.2.2.2.2)
theorem qy (x:tV):LE.step X qu qm q0 qo 12 x=X1f x.1 x.2.1 x.2.2.2.1 x.2.2.2.2 x.2.2.1 (fun w0=>(Sum.inl (x.1,x.2.1,w0,x.2.2.2.1,x.2.2.2.2))) (fun p0=>(Sum.inr (.inl (p0,x.2.2.2.1,x.2.2.2.2)))) (Sum.inr (.inr (x.2.2.2.1,x.2.2.2.2))):=by kernel_rfl
theorem qA {R:Type} (x:tV) (k:t12→Option R) (r:R) (h:qw x k=some r):∃ o,Z5s (LE.step X qu qm q0 qo 12) x o∧k o=some r:=by
 obtain ⟨o,h1,h2⟩:=Z0 h
 exact ⟨qv x o,Zhl (st:=fun (x:tV)=>X1a x.1 x.2.1 x.2.2.2.1 x.2.2.2.2) (prj:=fun x=>x.2.2.1) (emb:=qx) (embO:=qv) (fun x=>(qy x).trans (by unfold X1a X1f;simp only [Zhd,Zh8,Zhe,Option.map_some,Option.map_none];rfl)) (fun _ _=>rfl) (fun _ _=>rfl) (fun _ _ _=>rfl) (fun _ _ _=>rfl) (fun _=>rfl) (Z1S.1 h1),by
  first
  | exact h2
  | (rcases o with o|o<;>exact h2)⟩
noncomputable def qB {R:Type}:Z27 S R:=LE.ls X qu qw qo
theorem qC {R:Type}:Z3J X (qB (R:=R)):=Zhq xok qn (e:=qu) q1 qp qA qp
theorem qD (x0:Int) (x1:Int) (x2:List Int):Zhs X qm [(.int .i64),(.int .i64),(.sl (.int .i64))] [.bool] q0 qB 12 117 (x0,x1,x2,())=X19 x0 x1 x2:=by kernel_rfl
noncomputable def qE:F7 S:=⟨[(.int .i64),(.int .i64),(.sl (.int .i64))],[.bool],fun xs=>X19 xs.1 xs.2.1 xs.2.2.1⟩
theorem qF:Z7Q X 117 qE:=Zho (Zhn xok qn q1 qC 12 117) fun xs _ h=>(qD xs.1 xs.2.1 xs.2.2.1).trans h
noncomputable def qG:List (Nat×F7 S):=[(117,qE)]
theorem qH:Z9n X (qG):=⟨qF,trivial⟩
abbrev qI {R:Type}:Z27 S R:=Zgi
theorem qJ {R:Type}:Z3J X (qI (R:=R)):=ZgQ X
def qK:Key:=⟨[129,2,1,115,2,1,93],129,none,[0,0,1,0,1],0,16⟩
def qL:StT S:=⟨(N (N (N (N L vM L) none L) (some (.fn (.func 116) [] [(.ptr 0 0)])) L) vK v1p),(N L ov L),16⟩
def qM:Way S:=⟨.ret,⟨v1q,(N (N L none (N (N L none (N L oj L)) none L)) ov (N L none (N o1r none L))),39⟩,[.int,(.st 2),.int,(.lst (.int .i64))]⟩
def qN:Way S:=⟨(.exit 0),⟨L,(N L ov L),17⟩,[.int]⟩
def qO:LE S:=⟨qK,qL,[.int,(.lst (.st 2)),.int,.int],[qM,qN]⟩
def qP (x:t14):((Int×Zu×(List Int))⊕Unit)→((Int×Zu×Int×(List Int))⊕Int):=Sum.elim (fun y0=>(.inl (y0.1,y0.2.1,x.2.2.2,y0.2.2))) (fun y1=>(.inr x.2.2.2))
noncomputable def qQ {R:Type} (x:t14) (k:((Int×Zu×Int×(List Int))⊕Int)→Option R):Option R:=(X4x x.1 x.2.1 x.2.2.2 x.2.2.1).bind (Sum.elim (fun y0=>k (.inl (y0.1,y0.2.1,x.2.2.2,y0.2.2))) (fun y1=>k (.inr x.2.2.2)))
def qR (x:t14) (v:Int):t14:=(x.1,x.2.1,v,x.2.2.2)
theorem qS (x:t14):LE.step X qO qG q0 qI 12 x=X1e x.1 x.2.1 x.2.2.2 x.2.2.1 (fun w0=>(Sum.inl (x.1,x.2.1,w0,x.2.2.2))) (fun p0 p1 p2=>(Sum.inr (.inl (p0,p1,x.2.2.2,p2)))) (Sum.inr (.inr x.2.2.2)):=by kernel_rfl
theorem qU {R:Type} (x:t14) (k:((Int×Zu×Int×(List Int))⊕Int)→Option R) (r:R) (h:qQ x k=some r):∃ o,Z5s (LE.step X qO qG q0 qI 12) x o∧k o=some r:=by
 obtain ⟨o,h1,h2⟩:=Z0 h
 exact ⟨qP x o,Zhl (st:=fun (x:t14)=>X18 x.1 x.2.1 x.2.2.2) (prj:=fun x=>x.2.2.1) (emb:=qR) (embO:=qP) (fun x=>(qS x).trans (by unfold X18 X1e;simp only [Zhd,Zh8,Zhe,Option.map_some,Option.map_none];rfl)) (fun _ _=>rfl) (fun _ _=>rfl) (fun _ _ _=>rfl) (fun _ _ _=>rfl) (fun _=>rfl) (Z1S.1 h1),by
  first
  | exact h2
  | (rcases o with o|o<;>exact h2)⟩
noncomputable def qV {R:Type}:Z27 S R:=LE.ls X qO qQ qI
theorem qW {R:Type}:Z3J X (qV (R:=R)):=Zhq xok qH (e:=qO) q1 qJ qU qJ
theorem qX (x0:Int) (x1:List Zu):Zhs X qG [(.int .i64),(.sl (.st 2))] [.bool] q0 qV 12 93 (x0,x1,())=X3R x0 x1:=by kernel_rfl
noncomputable def qY:F7 S:=⟨[(.int .i64),(.sl (.st 2))],[.bool],fun xs=>X3R xs.1 xs.2.1⟩
theorem qZ:Z7Q X 93 qY:=Zho (Zhn xok qH q1 qW 12 93) fun xs _ h=>(qX xs.1 xs.2.1).trans h
noncomputable def q10:List (Nat×F7 S):=[(117,qE)]
theorem q11:Z9n X (q10):=⟨qF,trivial⟩
abbrev q12 {R:Type}:Z27 S R:=Zgi
theorem q13 {R:Type}:Z3J X (q12 (R:=R)):=ZgQ X
def q14:Key:=⟨[94],94,none,[0,0,1,0,1,1,1],0,9⟩
def q15:StT S:=⟨(N (N (N L vM (N L vM L)) none L) none (N (N L none (N L vM L)) none (N (N L (some (.sl (.st 3) [])) L) none L))),o1r,9⟩
def q16:Way S:=⟨.ret,⟨(N L none (N L vM L)),(N (N (N L os L) none L) none (N (N (N (N L os L) none L) none (N L oe L)) none L)),26⟩,[.int,(.lst (.int .i64)),(.lst (.int .i64)),(.st 3)]⟩
def q17:Way S:=⟨.ret,⟨(N L none (N L vM L)),oW,26⟩,[.int,(.lst (.int .i64)),(.lst (.int .i64)),(.lst (.int .i64)),(.st 3)]⟩
def q18:Way S:=⟨.ret,⟨(N L none (N L vM L)),oW,31⟩,[.int,(.lst (.int .i64)),(.lst (.int .i64)),(.lst (.int .i64)),(.st 3)]⟩
def q19:Way S:=⟨(.exit 0),⟨L,o1r,10⟩,[(.lst (.int .i64))]⟩
def q1a:LE S:=⟨q14,q15,[.int,.int,.int,(.lst (.st 3)),(.lst (.int .i64))],[q16,q17,q18,q19]⟩
def q1b (x:tS):((Int×(List Int)×Zk)⊕(Int×(List Int)×(List Int)×Zk)⊕(Int×(List Int)×(List Int)×Zk)⊕Unit)→t9:=Sum.elim (fun y0=>(.inl (y0.1,x.2.2.2.2,y0.2.1,y0.2.2))) (Sum.elim (fun y1=>(.inr (.inl (y1.1,x.2.2.2.2,y1.2.1,y1.2.2.1,y1.2.2.2)))) (Sum.elim (fun y2=>(.inr (.inr (.inl (y2.1,x.2.2.2.2,y2.2.1,y2.2.2.1,y2.2.2.2))))) (fun y3=>(.inr (.inr (.inr x.2.2.2.2))))))
noncomputable def q1c {R:Type} (x:tS) (k:t9→Option R):Option R:=(X3G x.2.1 x.2.2.2.1 x.2.2.2.2 (x.1,x.2.2.1)).bind (Sum.elim (fun y0=>k (.inl (y0.1,x.2.2.2.2,y0.2.1,y0.2.2))) (Sum.elim (fun y1=>k (.inr (.inl (y1.1,x.2.2.2.2,y1.2.1,y1.2.2.1,y1.2.2.2)))) (Sum.elim (fun y2=>k (.inr (.inr (.inl (y2.1,x.2.2.2.2,y2.2.1,y2.2.2.1,y2.2.2.2))))) (fun y3=>k (.inr (.inr (.inr x.2.2.2.2)))))))
def q1d (x:tS) (v:(Int×Int)):tS:=(v.1,x.2.1,v.2,x.2.2.2.1,x.2.2.2.2)
theorem q1e (x:tS):LE.step X q1a q10 q0 q12 12 x=XX x.2.1 x.2.2.2.1 x.2.2.2.2 x.1 x.2.2.1 (fun w0 w1=>(Sum.inl (w0,x.2.1,w1,x.2.2.2.1,x.2.2.2.2))) (fun p0 p1 p2=>(Sum.inr (.inl (p0,x.2.2.2.2,p1,p2)))) (fun p0 p1 p2 p3=>(Sum.inr (.inr (.inl (p0,x.2.2.2.2,p1,p2,p3))))) (fun p0 p1 p2 p3=>(Sum.inr (.inr (.inr (.inl (p0,x.2.2.2.2,p1,p2,p3)))))) (Sum.inr (.inr (.inr (.inr x.2.2.2.2)))):=by kernel_rfl
theorem q1g {R:Type} (x:tS) (k:t9→Option R) (r:R) (h:q1c x k=some r):∃ o,Z5s (LE.step X q1a q10 q0 q12 12) x o∧k o=some r:=by
 obtain ⟨o,h1,h2⟩:=Z0 h
 exact ⟨q1b x o,Zhl (st:=fun (x:tS)=>XM x.2.1 x.2.2.2.1 x.2.2.2.2) (prj:=fun x=>(x.1,x.2.2.1)) (emb:=q1d) (embO:=q1b) (fun x=>(q1e x).trans (by unfold XM XX;simp only [Zhd,Zh8,Zhe,Option.map_some,Option.map_none];rfl)) (fun _ _=>rfl) (fun _ _=>rfl) (fun _ _ _=>rfl) (fun _ _ _=>rfl) (fun _=>rfl) (Z1S.1 h1),by
  first
  | exact h2
  | (rcases o with o|o|o|o<;>exact h2)⟩
noncomputable def q1h {R:Type}:Z27 S R:=LE.ls X q1a q1c q12
theorem q1i {R:Type}:Z3J X (q1h (R:=R)):=Zhq xok q11 (e:=q1a) q1 q13 q1g q13
theorem q1j (x0:List Zk):Zhs X q10 [(.sl (.st 3))] [(.int .i64)] q0 q1h 12 94 (x0,())=X2T x0:=by kernel_rfl
noncomputable def q1k:F7 S:=⟨[(.sl (.st 3))],[(.int .i64)],fun xs=>X2T xs.1⟩
theorem q1l:Z7Q X 94 q1k:=Zho (Zhn xok q11 q1 q1i 12 94) fun xs _ h=>(q1j xs.1).trans h
noncomputable def q1m:List (Nat×F7 S):=[(117,qE)]
theorem q1n:Z9n X (q1m):=⟨qF,trivial⟩
abbrev q1o {R:Type}:Z27 S R:=Zgi
theorem q1p {R:Type}:Z3J X (q1o (R:=R)):=ZgQ X
theorem q1q (x0:ZB) (x1:Int):Zhs X q1m [(.st 6),(.int .i64)] [(.int .i64)] q0 q1o 12 118 (x0,x1,())=X4w x0 x1:=by kernel_rfl
noncomputable def q1r:F7 S:=⟨[(.st 6),(.int .i64)],[(.int .i64)],fun xs=>X4w xs.1 xs.2.1⟩
theorem q1s:Z7Q X 118 q1r:=Zho (Zhn xok q1n q1 q1p 12 118) fun xs _ h=>(q1q xs.1 xs.2.1).trans h
noncomputable def q1t:List (Nat×F7 S):=[]
theorem q1u:Z9n X (q1t):=trivial
abbrev q1v {R:Type}:Z27 S R:=Zgi
theorem q1w {R:Type}:Z3J X (q1v (R:=R)):=ZgQ X
theorem q1x (x0:Zu) (x1:Zu):Zhs X q1t [(.st 2),(.st 2)] [(.st 2)] q0 q1v 12 121 (x0,x1,())=X6x x0 x1:=by kernel_rfl
noncomputable def q1y:F7 S:=⟨[(.st 2),(.st 2)],[(.st 2)],fun xs=>X6x xs.1 xs.2.1⟩
theorem q1z:Z7Q X 121 q1y:=Zho (Zhn xok q1u q1 q1w 12 121) fun xs _ h=>(q1x xs.1 xs.2.1).trans h
noncomputable def q1A:List (Nat×F7 S):=[]
theorem q1B:Z9n X (q1A):=trivial
abbrev q1C {R:Type}:Z27 S R:=Zgi
theorem q1D {R:Type}:Z3J X (q1C (R:=R)):=ZgQ X
theorem q1E (x0:Zu) (x1:Zu):Zhs X q1A [(.st 2),(.st 2)] [(.int .i64)] q0 q1C 12 120 (x0,x1,())=X6y x0 x1:=by kernel_rfl
noncomputable def q1F:F7 S:=⟨[(.st 2),(.st 2)],[(.int .i64)],fun xs=>X6y xs.1 xs.2.1⟩
theorem q1G:Z7Q X 120 q1F:=Zho (Zhn xok q1B q1 q1D 12 120) fun xs _ h=>(q1E xs.1 xs.2.1).trans h
noncomputable def q1H:List (Nat×F7 S):=[(117,qE),(93,qY),(118,q1r),(121,q1y),(120,q1F)]
theorem q1I:Z9n X (q1H):=⟨qF,qZ,q1s,q1z,q1G,trivial⟩
abbrev q1J {R:Type}:Z27 S R:=Zgi
theorem q1K {R:Type}:Z3J X (q1J (R:=R)):=ZgQ X
def q1L:Key:=⟨[27,6,4,131,1,95],95,(some 27),[0,0,1,0,1,0,1,0,1,0,1,1,1],3,66⟩
def q1M:StT S:=⟨(N (N L none (N v1p vM L)) none (N (N (N (N (N L vK L) none L) none L) (some (.ptr 58 0)) L) (some (.ptr 1 0)) (N v1p none L))),oP,66⟩
def q1N:Way S:=⟨(.exit 3),⟨(N (N L none (N L vM L)) none (N (N L (some (.ptr 58 0)) L) (some (.ptr 1 0)) L)),oP,67⟩,[.int,(.st 15),.bool,.int,.bool,(.st 15),.bool,.int,(.st 15),(.st 17)]⟩
def q1O:LE S:=⟨q1L,q1M,[.int,.int,(.lst (.st 2)),.int,(.st 15),.bool,.int,.bool,(.st 15),.bool,.int,(.st 15),(.st 17)],[q1N]⟩
def q1P (x:tk):Int→ts:=fun y0=>(y0,x.2.2.2.2.1,x.2.2.2.2.2.1,x.2.2.2.2.2.2.1,x.2.2.2.2.2.2.2.1,x.2.2.2.2.2.2.2.2.1,x.2.2.2.2.2.2.2.2.2.1,x.2.2.2.2.2.2.2.2.2.2.1,x.2.2.2.2.2.2.2.2.2.2.2.1,x.2.2.2.2.2.2.2.2.2.2.2.2)
noncomputable def q1Q {R:Type} (x:tk) (k:ts→Option R):Option R:=(W6 x.1 x.2.2.1 x.2.2.2.2.1 x.2.2.2.2.2.1 x.2.2.2.2.2.2.1 x.2.2.2.2.2.2.2.1 x.2.2.2.2.2.2.2.2.1 x.2.2.2.2.2.2.2.2.2.1 x.2.2.2.2.2.2.2.2.2.2.1 x.2.2.2.2.2.2.2.2.2.2.2.1 x.2.2.2.2.2.2.2.2.2.2.2.2 (x.2.1,x.2.2.2.1)).bind (fun y0=>k (y0,x.2.2.2.2.1,x.2.2.2.2.2.1,x.2.2.2.2.2.2.1,x.2.2.2.2.2.2.2.1,x.2.2.2.2.2.2.2.2.1,x.2.2.2.2.2.2.2.2.2.1,x.2.2.2.2.2.2.2.2.2.2.1,x.2.2.2.2.2.2.2.2.2.2.2.1,x.2.2.2.2.2.2.2.2.2.2.2.2))
def q1R (x:tk) (v:(Int×Int)):tk:=(x.1,v.1,x.2.2.1,v.2,x.2.2.2.2.1,x.2.2.2.2.2.1,x.2.2.2.2.2.2.1,x.2.2.2.2.2.2.2.1,x.2.2.2.2.2.2.2.2.1,x.2.2.2.2.2.2.2.2.2.1,x.2.2.2.2.2.2.2.2.2.2.1,x.2.2.2.2.2.2.2.2.2.2.2.1,x.2.2.2.2.2.2.2.2.2.2.2.2)
theorem q1S (x:tk):LE.step X q1O q1H q0 q1J 12 x=Xk x.1 x.2.2.1 x.2.2.2.2.1 x.2.2.2.2.2.1 x.2.2.2.2.2.2.1 x.2.2.2.2.2.2.2.1 x.2.2.2.2.2.2.2.2.1 x.2.2.2.2.2.2.2.2.2.1 x.2.2.2.2.2.2.2.2.2.2.1 x.2.2.2.2.2.2.2.2.2.2.2.1 x.2.2.2.2.2.2.2.2.2.2.2.2 x.2.1 x.2.2.2.1 (fun w0 w1=>(Sum.inl (x.1,w0,x.2.2.1,w1,x.2.2.2.2.1,x.2.2.2.2.2.1,x.2.2.2.2.2.2.1,x.2.2.2.2.2.2.2.1,x.2.2.2.2.2.2.2.2.1,x.2.2.2.2.2.2.2.2.2.1,x.2.2.2.2.2.2.2.2.2.2.1,x.2.2.2.2.2.2.2.2.2.2.2.1,x.2.2.2.2.2.2.2.2.2.2.2.2))) (fun p0=>(Sum.inr (p0,x.2.2.2.2.1,x.2.2.2.2.2.1,x.2.2.2.2.2.2.1,x.2.2.2.2.2.2.2.1,x.2.2.2.2.2.2.2.2.1,x.2.2.2.2.2.2.2.2.2.1,x.2.2.2.2.2.2.2.2.2.2.1,x.2.2.2.2.2.2.2.2.2.2.2.1,x.2.2.2.2.2.2.2.2.2.2.2.2))):=by kernel_rfl
theorem q1U {R:Type} (x:tk) (k:ts→Option R) (r:R) (h:q1Q x k=some r):∃ o,Z5s (LE.step X q1O q1H q0 q1J 12) x o∧k o=some r:=by
 obtain ⟨o,h1,h2⟩:=Z0 h
 exact ⟨q1P x o,Zhl (st:=fun (x:tk)=>Xc x.1 x.2.2.1 x.2.2.2.2.1 x.2.2.2.2.2.1 x.2.2.2.2.2.2.1 x.2.2.2.2.2.2.2.1 x.2.2.2.2.2.2.2.2.1 x.2.2.2.2.2.2.2.2.2.1 x.2.2.2.2.2.2.2.2.2.2.1 x.2.2.2.2.2.2.2.2.2.2.2.1 x.2.2.2.2.2.2.2.2.2.2.2.2) (prj:=fun x=>(x.2.1,x.2.2.2.1)) (emb:=q1R) (embO:=q1P) (fun x=>(q1S x).trans (by unfold Xc Xk;simp only [Zhd,Zh8,Zhe,Option.map_some,Option.map_none];rfl)) (fun _ _=>rfl) (fun _ _=>rfl) (fun _ _ _=>rfl) (fun _ _ _=>rfl) (fun _=>rfl) (Z1S.1 h1),by
  first
  | exact h2
  | (rcases o with o<;>exact h2)⟩
noncomputable def q1V {R:Type}:Z27 S R:=LE.ls X q1O q1Q q1J
theorem q1W {R:Type}:Z3J X (q1V (R:=R)):=Zhq xok q1I (e:=q1O) q1 q1K q1U q1K
def q1X:Key:=⟨[131,1,95],131,none,[0,0,1,1],0,45⟩
def q1Y:StT S:=⟨(N (N (N L (some (.ptr 38 0)) (N (N L vM L) none L)) none L) (some (.yld 27)) (N v1q none (N (N (N L vK L) none L) none L))),oQ,45⟩
def q1Z:Way S:=⟨.ret,⟨L,(N (N (N (N L none (N L o8 L)) none (N L none (N L (some (.loop 95 (N (N (N (N (N L vL L) none L) vM L) (some (.ptr 0 0)) (N (N L none (N L vL L)) none L)) vn (N (N (N L vL L) none (N L none (N L vf L))) (some (.ptr 1 0)) L)) (29::[]) .skip .skip 1 .ret (1::(95::[])) (0::(1::(0::(1::(1::(1::[])))))))) L))) ot L) o8 (N (N (N (N L none (N L oj L)) none L) none L) none (N (N L none (N L none (N L o9 L))) os o1s))),76⟩,[(.st 15),.bool,.int,.bool,(.st 15),.bool,.int,(.st 15),(.st 2),(.st 17),(.lst (.int .i64)),(.st 2)]⟩
def q20:Way S:=⟨(.exit 0),⟨L,oQ,46⟩,[(.st 15),.bool,.int,.bool,(.st 15),.bool,.int,(.st 15),(.lst (.int .i64)),(.st 2)]⟩
def q21:LE S:=⟨q1X,q1Y,[.int,.int,(.lst (.st 2)),(.st 15),.bool,.int,.bool,(.st 15),.bool,.int,(.st 15),(.lst (.int .i64)),(.st 2)],[q1Z,q20]⟩
def q22 (x:tj):((Int×Zu×Z6×Zu)⊕Zu)→t6:=Sum.elim (fun y0=>(.inl (x.2.2.2.1,x.2.2.2.2.1,x.2.2.2.2.2.1,x.2.2.2.2.2.2.1,x.2.2.2.2.2.2.2.1,x.2.2.2.2.2.2.2.2.1,y0.1,x.2.2.2.2.2.2.2.2.2.2.1,y0.2.1,y0.2.2.1,x.2.2.2.2.2.2.2.2.2.2.2.1,y0.2.2.2))) (fun y1=>(.inr (x.2.2.2.1,x.2.2.2.2.1,x.2.2.2.2.2.1,x.2.2.2.2.2.2.1,x.2.2.2.2.2.2.2.1,x.2.2.2.2.2.2.2.2.1,x.2.2.2.2.2.2.2.2.2.1,x.2.2.2.2.2.2.2.2.2.2.1,x.2.2.2.2.2.2.2.2.2.2.2.1,y1)))
noncomputable def q23 {R:Type} (x:tj) (k:t6→Option R):Option R:=(X2N x.1 x.2.2.1 x.2.2.2.1 x.2.2.2.2.1 x.2.2.2.2.2.1 x.2.2.2.2.2.2.1 x.2.2.2.2.2.2.2.1 x.2.2.2.2.2.2.2.2.1 x.2.2.2.2.2.2.2.2.2.1 x.2.2.2.2.2.2.2.2.2.2.1 x.2.2.2.2.2.2.2.2.2.2.2.1 (x.2.1,x.2.2.2.2.2.2.2.2.2.2.2.2)).bind (Sum.elim (fun y0=>k (.inl (x.2.2.2.1,x.2.2.2.2.1,x.2.2.2.2.2.1,x.2.2.2.2.2.2.1,x.2.2.2.2.2.2.2.1,x.2.2.2.2.2.2.2.2.1,y0.1,x.2.2.2.2.2.2.2.2.2.2.1,y0.2.1,y0.2.2.1,x.2.2.2.2.2.2.2.2.2.2.2.1,y0.2.2.2))) (fun y1=>k (.inr (x.2.2.2.1,x.2.2.2.2.1,x.2.2.2.2.2.1,x.2.2.2.2.2.2.1,x.2.2.2.2.2.2.2.1,x.2.2.2.2.2.2.2.2.1,x.2.2.2.2.2.2.2.2.2.1,x.2.2.2.2.2.2.2.2.2.2.1,x.2.2.2.2.2.2.2.2.2.2.2.1,y1))))
def q24 (x:tj) (v:(Int×Zu)):tj:=(x.1,v.1,x.2.2.1,x.2.2.2.1,x.2.2.2.2.1,x.2.2.2.2.2.1,x.2.2.2.2.2.2.1,x.2.2.2.2.2.2.2.1,x.2.2.2.2.2.2.2.2.1,x.2.2.2.2.2.2.2.2.2.1,x.2.2.2.2.2.2.2.2.2.2.1,x.2.2.2.2.2.2.2.2.2.2.2.1,v.2)
theorem q25 (x:tj):LE.step X q21 q1H q0 q1V 12 x=Xj x.1 x.2.2.1 x.2.2.2.1 x.2.2.2.2.1 x.2.2.2.2.2.1 x.2.2.2.2.2.2.1 x.2.2.2.2.2.2.2.1 x.2.2.2.2.2.2.2.2.1 x.2.2.2.2.2.2.2.2.2.1 x.2.2.2.2.2.2.2.2.2.2.1 x.2.2.2.2.2.2.2.2.2.2.2.1 x.2.1 x.2.2.2.2.2.2.2.2.2.2.2.2 (fun w0 w1=>(Sum.inl (x.1,w0,x.2.2.1,x.2.2.2.1,x.2.2.2.2.1,x.2.2.2.2.2.1,x.2.2.2.2.2.2.1,x.2.2.2.2.2.2.2.1,x.2.2.2.2.2.2.2.2.1,x.2.2.2.2.2.2.2.2.2.1,x.2.2.2.2.2.2.2.2.2.2.1,x.2.2.2.2.2.2.2.2.2.2.2.1,w1))) (fun p0 p1 p2 p3=>(Sum.inr (.inl (x.2.2.2.1,x.2.2.2.2.1,x.2.2.2.2.2.1,x.2.2.2.2.2.2.1,x.2.2.2.2.2.2.2.1,x.2.2.2.2.2.2.2.2.1,p0,x.2.2.2.2.2.2.2.2.2.2.1,p1,p2,x.2.2.2.2.2.2.2.2.2.2.2.1,p3)))) (fun p0=>(Sum.inr (.inr (x.2.2.2.1,x.2.2.2.2.1,x.2.2.2.2.2.1,x.2.2.2.2.2.2.1,x.2.2.2.2.2.2.2.1,x.2.2.2.2.2.2.2.2.1,x.2.2.2.2.2.2.2.2.2.1,x.2.2.2.2.2.2.2.2.2.2.1,x.2.2.2.2.2.2.2.2.2.2.2.1,p0)))):=by kernel_rfl
theorem q27 {R:Type} (x:tj) (k:t6→Option R) (r:R) (h:q23 x k=some r):∃ o,Z5s (LE.step X q21 q1H q0 q1V 12) x o∧k o=some r:=by
 obtain ⟨o,h1,h2⟩:=Z0 h
 exact ⟨q22 x o,Zhl (st:=fun (x:tj)=>Xb x.1 x.2.2.1 x.2.2.2.1 x.2.2.2.2.1 x.2.2.2.2.2.1 x.2.2.2.2.2.2.1 x.2.2.2.2.2.2.2.1 x.2.2.2.2.2.2.2.2.1 x.2.2.2.2.2.2.2.2.2.1 x.2.2.2.2.2.2.2.2.2.2.1 x.2.2.2.2.2.2.2.2.2.2.2.1) (prj:=fun x=>(x.2.1,x.2.2.2.2.2.2.2.2.2.2.2.2)) (emb:=q24) (embO:=q22) (fun x=>(q25 x).trans (by unfold Xb Xj;simp only [Zhd,Zh8,Zhe,Option.map_some,Option.map_none];rfl)) (fun _ _=>rfl) (fun _ _=>rfl) (fun _ _ _=>rfl) (fun _ _ _=>rfl) (fun _=>rfl) (Z1S.1 h1),by
  first
  | exact h2
  | (rcases o with o|o<;>exact h2)⟩
noncomputable def q28 {R:Type}:Z27 S R:=LE.ls X q21 q23 q1V
theorem q29 {R:Type}:Z3J X (q28 (R:=R)):=Zhq xok q1I (e:=q21) q1 q1W q27 q1W
theorem q2a (x0:Z8):Zhs X q1H [(.st 15)] [(.int .i64)] q0 q28 12 95 (x0,())=X1w x0:=by kernel_rfl
noncomputable def q2b:F7 S:=⟨[(.st 15)],[(.int .i64)],fun xs=>X1w xs.1⟩
theorem q2c:Z7Q X 95 q2b:=Zho (Zhn xok q1I q1 q29 12 95) fun xs _ h=>(q2a xs.1).trans h
noncomputable def q2d:List (Nat×F7 S):=[(92,qk),(93,qY),(94,q1k),(95,q2b)]
theorem q2e:Z9n X (q2d):=⟨ql,qZ,q1l,q2c,trivial⟩
abbrev q2f {R:Type}:Z27 S R:=Zgi
theorem q2g {R:Type}:Z3J X (q2f (R:=R)):=ZgQ X
def q2h:Key:=⟨[61],61,none,[0,0,1,0,1,1,1,1],0,17⟩
def q2i:StT S:=⟨(N (N v1q (some (.ptr 0 0)) L) none (N v1q none (N (N (N L (some (.sl (.st 4) [])) L) none L) vl L))),o1i,17⟩
def q2j:Way S:=⟨.ret,⟨v1j,o18,57⟩,[.int,.int,.int,(.st 4),(.st 8),(.mp .str (.int .i64))]⟩
def q2k:Way S:=⟨.ret,⟨v1j,o18,62⟩,[.int,.int,.int,(.st 4),(.st 8),(.mp .str (.int .i64))]⟩
def q2l:Way S:=⟨.ret,⟨v1j,oX,63⟩,[.int,.int,.int,(.st 4),(.st 8),(.mp .str (.int .i64)),(.lst (.st 2))]⟩
def q2m:Way S:=⟨.ret,⟨v1j,oX,66⟩,[.int,.int,.int,(.st 4),(.st 8),(.mp .str (.int .i64)),(.lst (.st 2))]⟩
def q2n:Way S:=⟨(.exit 0),⟨(N (N L (some (.ptr 0 0)) L) none (N L none (N L vl L))),o1i,18⟩,[(.st 8),(.mp .str (.int .i64))]⟩
def q2o:LE S:=⟨q2h,q2i,[.int,.int,(.lst (.st 4)),(.st 8),(.mp .str (.int .i64))],[q2j,q2k,q2l,q2m,q2n]⟩
def q2p (x:tI):((Int×Int×Int×Zw×t1b)⊕(Int×Int×Int×Zw×t1b)⊕(Int×Int×Int×Zw×t1b×(List Zu))⊕(Int×Int×Int×Zw×t1b×(List Zu))⊕t1b)→t0:=Sum.elim (fun y0=>(.inl (y0.1,y0.2.1,y0.2.2.1,y0.2.2.2.1,x.2.2.2.1,y0.2.2.2.2))) (Sum.elim (fun y1=>(.inr (.inl (y1.1,y1.2.1,y1.2.2.1,y1.2.2.2.1,x.2.2.2.1,y1.2.2.2.2)))) (Sum.elim (fun y2=>(.inr (.inr (.inl (y2.1,y2.2.1,y2.2.2.1,y2.2.2.2.1,x.2.2.2.1,y2.2.2.2.2.1,y2.2.2.2.2.2))))) (Sum.elim (fun y3=>(.inr (.inr (.inr (.inl (y3.1,y3.2.1,y3.2.2.1,y3.2.2.2.1,x.2.2.2.1,y3.2.2.2.2.1,y3.2.2.2.2.2)))))) (fun y4=>(.inr (.inr (.inr (.inr (x.2.2.2.1,y4)))))))))
noncomputable def q2q {R:Type} (x:tI) (k:t0→Option R):Option R:=(X3T x.1 x.2.2.1 x.2.2.2.1 (x.2.1,x.2.2.2.2)).bind (Sum.elim (fun y0=>k (.inl (y0.1,y0.2.1,y0.2.2.1,y0.2.2.2.1,x.2.2.2.1,y0.2.2.2.2))) (Sum.elim (fun y1=>k (.inr (.inl (y1.1,y1.2.1,y1.2.2.1,y1.2.2.2.1,x.2.2.2.1,y1.2.2.2.2)))) (Sum.elim (fun y2=>k (.inr (.inr (.inl (y2.1,y2.2.1,y2.2.2.1,y2.2.2.2.1,x.2.2.2.1,y2.2.2.2.2.1,y2.2.2.2.2.2))))) (Sum.elim (fun y3=>k (.inr (.inr (.inr (.inl (y3.1,y3.2.1,y3.2.2.1,y3.2.2.2.1,x.2.2.2.1,y3.2.2.2.2.1,y3.2.2.2.2.2)))))) (fun y4=>k (.inr (.inr (.inr (.inr (x.2.2.2.1,y4))))))))))
def q2r (x:tI) (v:(Int×t1b)):tI:=(x.1,v.1,x.2.2.1,x.2.2.2.1,v.2)
theorem q2s (x:tI):LE.step X q2o q2d q0 q2f 12 x=Wn x.1 x.2.2.1 x.2.2.2.1 x.2.1 x.2.2.2.2 (fun w0 w1=>(Sum.inl (x.1,w0,x.2.2.1,x.2.2.2.1,w1))) (fun p0 p1 p2 p3 p4=>(Sum.inr (.inl (p0,p1,p2,p3,x.2.2.2.1,p4)))) (fun p0 p1 p2 p3 p4=>(Sum.inr (.inr (.inl (p0,p1,p2,p3,x.2.2.2.1,p4))))) (fun p0 p1 p2 p3 p4 p5=>(Sum.inr (.inr (.inr (.inl (p0,p1,p2,p3,x.2.2.2.1,p4,p5)))))) (fun p0 p1 p2 p3 p4 p5=>(Sum.inr (.inr (.inr (.inr (.inl (p0,p1,p2,p3,x.2.2.2.1,p4,p5))))))) (fun p0=>(Sum.inr (.inr (.inr (.inr (.inr (x.2.2.2.1,p0))))))):=by kernel_rfl
theorem q2u {R:Type} (x:tI) (k:t0→Option R) (r:R) (h:q2q x k=some r):∃ o,Z5s (LE.step X q2o q2d q0 q2f 12) x o∧k o=some r:=by
 obtain ⟨o,h1,h2⟩:=Z0 h
 exact ⟨q2p x o,Zhl (st:=fun (x:tI)=>W4 x.1 x.2.2.1 x.2.2.2.1) (prj:=fun x=>(x.2.1,x.2.2.2.2)) (emb:=q2r) (embO:=q2p) (fun x=>(q2s x).trans (by unfold W4 Wn;simp only [Zhd,Zh8,Zhe,Option.map_some,Option.map_none];rfl)) (fun _ _=>rfl) (fun _ _=>rfl) (fun _ _ _=>rfl) (fun _ _ _=>rfl) (fun _=>rfl) (Z1S.1 h1),by
  first
  | exact h2
  | (rcases o with o|o|o|o|o<;>exact h2)⟩
noncomputable def q2v {R:Type}:Z27 S R:=LE.ls X q2o q2q q2f
theorem q2w {R:Type}:Z3J X (q2v (R:=R)):=Zhq xok q2e (e:=q2o) q1 q2g q2u q2g
def q2x:Key:=⟨[61],61,none,[0,0,1,0,1,1,1,1,1,1],2,26⟩
def q2y:StT S:=⟨(N (N L none (N L none v1t)) none (N (N L none (N (N L none (N L (some (.sl (.st 7) [])) L)) none L)) none (N L vl v1t))),o1i,26⟩
def q2z:Way S:=⟨.ret,⟨v1j,o17,58⟩,[.int,.int,.int,(.st 8),(.mp .str (.int .i64)),(.st 7)]⟩
def q2A:Way S:=⟨.ret,⟨v1j,o17,63⟩,[.int,.int,.int,(.st 8),(.mp .str (.int .i64)),(.st 7)]⟩
def q2B:Way S:=⟨.ret,⟨v1j,o17,67⟩,[.int,.int,.int,(.st 8),(.mp .str (.int .i64)),(.st 7)]⟩
def q2C:Way S:=⟨(.exit 2),⟨L,o1i,27⟩,[(.st 8),(.mp .str (.int .i64))]⟩
def q2D:LE S:=⟨q2x,q2y,[.int,(.lst (.st 7)),.int,(.st 8),(.mp .str (.int .i64))],[q2z,q2A,q2B,q2C]⟩
def q2E (x:tJ):(tO⊕tO⊕tO⊕t1b)→t4:=Sum.elim (fun y0=>(.inl (y0.1,y0.2.1,y0.2.2.1,x.2.2.2.1,y0.2.2.2.1,y0.2.2.2.2))) (Sum.elim (fun y1=>(.inr (.inl (y1.1,y1.2.1,y1.2.2.1,x.2.2.2.1,y1.2.2.2.1,y1.2.2.2.2)))) (Sum.elim (fun y2=>(.inr (.inr (.inl (y2.1,y2.2.1,y2.2.2.1,x.2.2.2.1,y2.2.2.2.1,y2.2.2.2.2))))) (fun y3=>(.inr (.inr (.inr (x.2.2.2.1,y3)))))))
noncomputable def q2F {R:Type} (x:tJ) (k:t4→Option R):Option R:=(X1H x.1 x.2.1 x.2.2.2.1 (x.2.2.1,x.2.2.2.2)).bind (Sum.elim (fun y0=>k (.inl (y0.1,y0.2.1,y0.2.2.1,x.2.2.2.1,y0.2.2.2.1,y0.2.2.2.2))) (Sum.elim (fun y1=>k (.inr (.inl (y1.1,y1.2.1,y1.2.2.1,x.2.2.2.1,y1.2.2.2.1,y1.2.2.2.2)))) (Sum.elim (fun y2=>k (.inr (.inr (.inl (y2.1,y2.2.1,y2.2.2.1,x.2.2.2.1,y2.2.2.2.1,y2.2.2.2.2))))) (fun y3=>k (.inr (.inr (.inr (x.2.2.2.1,y3))))))))
def q2G (x:tJ) (v:(Int×t1b)):tJ:=(x.1,x.2.1,v.1,x.2.2.2.1,v.2)
theorem q2H (x:tJ):LE.step X q2D q2d q0 q2v 12 x=Wo x.1 x.2.1 x.2.2.2.1 x.2.2.1 x.2.2.2.2 (fun w0 w1=>(Sum.inl (x.1,x.2.1,w0,x.2.2.2.1,w1))) (fun p0 p1 p2 p3 p4=>(Sum.inr (.inl (p0,p1,p2,x.2.2.2.1,p3,p4)))) (fun p0 p1 p2 p3 p4=>(Sum.inr (.inr (.inl (p0,p1,p2,x.2.2.2.1,p3,p4))))) (fun p0 p1 p2 p3 p4=>(Sum.inr (.inr (.inr (.inl (p0,p1,p2,x.2.2.2.1,p3,p4)))))) (fun p0=>(Sum.inr (.inr (.inr (.inr (x.2.2.2.1,p0)))))):=by kernel_rfl
theorem q2J {R:Type} (x:tJ) (k:t4→Option R) (r:R) (h:q2F x k=some r):∃ o,Z5s (LE.step X q2D q2d q0 q2v 12) x o∧k o=some r:=by
 obtain ⟨o,h1,h2⟩:=Z0 h
 exact ⟨q2E x o,Zhl (st:=fun (x:tJ)=>W5 x.1 x.2.1 x.2.2.2.1) (prj:=fun x=>(x.2.2.1,x.2.2.2.2)) (emb:=q2G) (embO:=q2E) (fun x=>(q2H x).trans (by unfold W5 Wo;simp only [Zhd,Zh8,Zhe,Option.map_some,Option.map_none];rfl)) (fun _ _=>rfl) (fun _ _=>rfl) (fun _ _ _=>rfl) (fun _ _ _=>rfl) (fun _=>rfl) (Z1S.1 h1),by
  first
  | exact h2
  | (rcases o with o|o|o|o<;>exact h2)⟩
noncomputable def q2K {R:Type}:Z27 S R:=LE.ls X q2D q2F q2v
theorem q2L {R:Type}:Z3J X (q2K (R:=R)):=Zhq xok q2e (e:=q2D) q1 q2w q2J q2w
theorem q2M (x0:Zl):Zhs X q2d [(.st 8)] [(.int .i64),(.int .i64),(.int .i64)] q0 q2K 12 61 (x0,())=X2M x0:=by kernel_rfl
noncomputable def q2N:F7 S:=⟨[(.st 8)],[(.int .i64),(.int .i64),(.int .i64)],fun xs=>X2M xs.1⟩
theorem q2O:Z7Q X 61 q2N:=Zho (Zhn xok q2e q1 q2L 12 61) fun xs _ h=>(q2M xs.1).trans h
noncomputable def q2P:List (Nat×F7 S):=[]
theorem q2Q:Z9n X (q2P):=trivial
abbrev q2R {R:Type}:Z27 S R:=Zgi
theorem q2S {R:Type}:Z3J X (q2R (R:=R)):=ZgQ X
def q2T:Key:=⟨[114,2,1,89,2,1,57],114,none,[0,0,1,0,1],0,17⟩
def q2U:StT S:=⟨(N (N (N (N L vM L) none L) (some (.fn (.func 90) [] [(.ptr 0 0),(.ptr 1 0)])) L) (some (.sl (.int .i64) [])) v1p),(N (N L ov L) ov L),17⟩
def q2V:Way S:=⟨.ret,⟨v1q,(N (N L ov L) ov L),38⟩,[.int,.int,.int]⟩
def q2W:Way S:=⟨(.exit 0),⟨L,(N (N L ov L) ov L),18⟩,[.int,.int]⟩
def q2X:LE S:=⟨q2T,q2U,[.int,(.lst (.int .i64)),.int,.int,.int],[q2V,q2W]⟩
def q2Y (x:tV):(Int⊕Unit)→t12:=Sum.elim (fun y0=>(.inl (y0,x.2.2.2.1,x.2.2.2.2))) (fun y1=>(.inr (x.2.2.2.1,x.2.2.2.2)))
noncomputable def q2Z {R:Type} (x:tV) (k:t12→Option R):Option R:=(X43 x.1 x.2.1 x.2.2.2.1 x.2.2.2.2 x.2.2.1).bind (Sum.elim (fun y0=>k (.inl (y0,x.2.2.2.1,x.2.2.2.2))) (fun y1=>k (.inr (x.2.2.2.1,x.2.2.2.2))))
def q30 (x:tV) (v:Int):tV:=(x.1,x.2.1,v,x.2.2.2.1,x.2.2.2.2)
theorem q31 (x:tV):LE.step X q2X q2P q0 q2R 12 x=Wt x.1 x.2.1 x.2.2.2.1 x.2.2.2.2 x.2.2.1 (fun w0=>(Sum.inl (x.1,x.2.1,w0,x.2.2.2.1,x.2.2.2.2))) (fun p0=>(Sum.inr (.inl (p0,x.2.2.2.1,x.2.2.2.2)))) (Sum.inr (.inr (x.2.2.2.1,x.2.2.2.2))):=by kernel_rfl
theorem q33 {R:Type} (x:tV) (k:t12→Option R) (r:R) (h:q2Z x k=some r):∃ o,Z5s (LE.step X q2X q2P q0 q2R 12) x o∧k o=some r:=by
 obtain ⟨o,h1,h2⟩:=Z0 h
 exact ⟨q2Y x o,Zhl (st:=fun (x:tV)=>Wd x.1 x.2.1 x.2.2.2.1 x.2.2.2.2) (prj:=fun x=>x.2.2.1) (emb:=q30) (embO:=q2Y) (fun x=>(q31 x).trans (by unfold Wd Wt;simp only [Zhd,Zh8,Zhe,Option.map_some,Option.map_none];rfl)) (fun _ _=>rfl) (fun _ _=>rfl) (fun _ _ _=>rfl) (fun _ _ _=>rfl) (fun _=>rfl) (Z1S.1 h1),by
  first
  | exact h2
  | (rcases o with o|o<;>exact h2)⟩
noncomputable def q34 {R:Type}:Z27 S R:=LE.ls X q2X q2Z q2R
theorem q35 {R:Type}:Z3J X (q34 (R:=R)):=Zhq xok q2Q (e:=q2X) q1 q2S q33 q2S
theorem q36 (x0:Int) (x1:Int) (x2:List Int):Zhs X q2P [(.int .i64),(.int .i64),(.sl (.int .i64))] [.bool] q0 q34 12 57 (x0,x1,x2,())=X1Q x0 x1 x2:=by kernel_rfl
noncomputable def q37:F7 S:=⟨[(.int .i64),(.int .i64),(.sl (.int .i64))],[.bool],fun xs=>X1 xs.1 xs.2.1 xs.2.2.1⟩
theorem q38:Z7Q X 57 q37:=Zho (Zhn xok q2Q q1 q35 12 57) fun xs _ h=>((q36 xs.1 xs.2.1 xs.2.2.1).trans (X5k xs.1 xs.2.1 xs.2.2.1).symm).trans h
noncomputable def q39:List (Nat×F7 S):=[(92,qk),(57,q37)]
theorem q3a:Z9n X (q39):=⟨ql,q38,trivial⟩
abbrev q3b {R:Type}:Z27 S R:=Zgi
theorem q3c {R:Type}:Z3J X (q3b (R:=R)):=ZgQ X
def q3d:Key:=⟨[122,2,1,96,2,6,64],122,none,[0,0,1,0,1],0,25⟩
def q3e:StT S:=⟨vY,(N L ob L),25⟩
def q3f:Way S:=⟨.ret,⟨v1q,(N L ob o1f),44⟩,[.int,(.st 18),(.st 18)]⟩
def q3g:Way S:=⟨(.exit 0),⟨L,(N L ob L),26⟩,[(.st 18)]⟩
def q3h:LE S:=⟨q3d,q3e,[.int,(.lst (.st 18)),.int,(.st 18)],[q3f,q3g]⟩
def q3i (x:tR):((Int×Z5)⊕Unit)→tP:=Sum.elim (fun y0=>(.inl (y0.1,x.2.2.2,y0.2))) (fun y1=>(.inr x.2.2.2))
noncomputable def q3j {R:Type} (x:tR) (k:tP→Option R):Option R:=(X1V x.1 x.2.1 x.2.2.2 x.2.2.1).bind (Sum.elim (fun y0=>k (.inl (y0.1,x.2.2.2,y0.2))) (fun y1=>k (.inr x.2.2.2)))
def q3k (x:tR) (v:Int):tR:=(x.1,x.2.1,v,x.2.2.2)
theorem q3l (x:tR):LE.step X q3h q39 q0 q3b 12 x=Xy x.1 x.2.1 x.2.2.2 x.2.2.1 (fun w0=>(Sum.inl (x.1,x.2.1,w0,x.2.2.2))) (fun p0 p1=>(Sum.inr (.inl (p0,x.2.2.2,p1)))) (Sum.inr (.inr x.2.2.2)):=by kernel_rfl
theorem q3n {R:Type} (x:tR) (k:tP→Option R) (r:R) (h:q3j x k=some r):∃ o,Z5s (LE.step X q3h q39 q0 q3b 12) x o∧k o=some r:=by
 obtain ⟨o,h1,h2⟩:=Z0 h
 exact ⟨q3i x o,Zhl (st:=fun (x:tR)=>Xu x.1 x.2.1 x.2.2.2) (prj:=fun x=>x.2.2.1) (emb:=q3k) (embO:=q3i) (fun x=>(q3l x).trans (by unfold Xu Xy;simp only [Zhd,Zh8,Zhe,Option.map_some,Option.map_none];rfl)) (fun _ _=>rfl) (fun _ _=>rfl) (fun _ _ _=>rfl) (fun _ _ _=>rfl) (fun _=>rfl) (Z1S.1 h1),by
  first
  | exact h2
  | (rcases o with o|o<;>exact h2)⟩
noncomputable def q3o {R:Type}:Z27 S R:=LE.ls X q3h q3j q3b
theorem q3p {R:Type}:Z3J X (q3o (R:=R)):=Zhq xok q3a (e:=q3h) q1 q3c q3n q3c
def q3q:Key:=⟨[122,2,1,96,2,6,64],122,none,[0,0,1,0,1],0,24⟩
def q3r:StT S:=⟨vY,(N L ob L),24⟩
def q3s:Way S:=⟨.ret,⟨v1q,(N o1f ob L),43⟩,[.int,(.st 18),(.st 18)]⟩
def q3t:Way S:=⟨(.exit 0),⟨L,(N L ob L),25⟩,[(.st 18)]⟩
def q3u:LE S:=⟨q3q,q3r,[.int,(.lst (.st 18)),.int,(.st 18)],[q3s,q3t]⟩
def q3v (x:tR):((Int×Z5)⊕Unit)→tP:=Sum.elim (fun y0=>(.inl (y0.1,y0.2,x.2.2.2))) (fun y1=>(.inr x.2.2.2))
noncomputable def q3w {R:Type} (x:tR) (k:tP→Option R):Option R:=(X1W x.1 x.2.1 x.2.2.2 x.2.2.1).bind (Sum.elim (fun y0=>k (.inl (y0.1,y0.2,x.2.2.2))) (fun y1=>k (.inr x.2.2.2)))
def q3x (x:tR) (v:Int):tR:=(x.1,x.2.1,v,x.2.2.2)
theorem q3y (x:tR):LE.step X q3u q39 q0 q3o 12 x=Xz x.1 x.2.1 x.2.2.2 x.2.2.1 (fun w0=>(Sum.inl (x.1,x.2.1,w0,x.2.2.2))) (fun p0 p1=>(Sum.inr (.inl (p0,p1,x.2.2.2)))) (Sum.inr (.inr x.2.2.2)):=by kernel_rfl
theorem q3A {R:Type} (x:tR) (k:tP→Option R) (r:R) (h:q3w x k=some r):∃ o,Z5s (LE.step X q3u q39 q0 q3o 12) x o∧k o=some r:=by
 obtain ⟨o,h1,h2⟩:=Z0 h
 exact ⟨q3v x o,Zhl (st:=fun (x:tR)=>Xv x.1 x.2.1 x.2.2.2) (prj:=fun x=>x.2.2.1) (emb:=q3x) (embO:=q3v) (fun x=>(q3y x).trans (by unfold Xv Xz;simp only [Zhd,Zh8,Zhe,Option.map_some,Option.map_none];rfl)) (fun _ _=>rfl) (fun _ _=>rfl) (fun _ _ _=>rfl) (fun _ _ _=>rfl) (fun _=>rfl) (Z1S.1 h1),by
  first
  | exact h2
  | (rcases o with o|o<;>exact h2)⟩
noncomputable def q3B {R:Type}:Z27 S R:=LE.ls X q3u q3w q3o
theorem q3C {R:Type}:Z3J X (q3B (R:=R)):=Zhq xok q3a (e:=q3u) q1 q3p q3A q3p
theorem q3D (x0:Z5) (x1:List Z5):Zhs X q39 [(.st 18),(.sl (.st 18))] [(.int .i64)] q0 q3B 12 64 (x0,x1,())=WQ x0 x1:=by kernel_rfl
noncomputable def q3E:F7 S:=⟨[(.st 18),(.sl (.st 18))],[(.int .i64)],fun xs=>X39 xs.1 xs.2.1⟩
theorem q3F:Z7Q X 64 q3E:=Zho (Zhn xok q3a q1 q3C 12 64) fun xs _ h=>((q3D xs.1 xs.2.1).trans (X4i xs.1 xs.2.1).symm).trans h
noncomputable def q3G:List (Nat×F7 S):=[(57,q37)]
theorem q3H:Z9n X (q3G):=⟨q38,trivial⟩
abbrev q3I {R:Type}:Z27 S R:=Zgi
theorem q3J {R:Type}:Z3J X (q3I (R:=R)):=ZgQ X
theorem q3K (x0:Zt):Zhs X q3G [(.st 19)] [(.int .i64)] q0 q3I 12 67 (x0,())=X2X x0:=by kernel_rfl
noncomputable def q3L:F7 S:=⟨[(.st 19)],[(.int .i64)],fun xs=>X5Y xs.1⟩
theorem q3M:Z7Q X 67 q3L:=Zho (Zhn xok q3H q1 q3J 12 67) fun xs _ h=>((q3K xs.1).trans (X6g xs.1).symm).trans h
noncomputable def q3N:List (Nat×F7 S):=[(67,q3L)]
theorem q3O:Z9n X (q3N):=⟨q3M,trivial⟩
abbrev q3P {R:Type}:Z27 S R:=Zgi
theorem q3Q {R:Type}:Z3J X (q3P (R:=R)):=ZgQ X
theorem q3R (x0:Int) (x1:Zt):Zhs X q3N [(.int .i64),(.st 19)] [(.int .i64)] q0 q3P 12 66 (x0,x1,())=X1P x0 x1:=by kernel_rfl
noncomputable def q3S:F7 S:=⟨[(.int .i64),(.st 19)],[(.int .i64)],fun xs=>X3s xs.1 xs.2.1⟩
theorem q3T:Z7Q X 66 q3S:=Zho (Zhn xok q3O q1 q3Q 12 66) fun xs _ h=>((q3R xs.1 xs.2.1).trans (X5f xs.1 xs.2.1).symm).trans h
noncomputable def q3U:List (Nat×F7 S):=[(61,q2N),(57,q37),(64,q3E),(66,q3S)]
theorem q3V:Z9n X (q3U):=⟨q2O,q38,q3F,q3T,trivial⟩
abbrev q3W {R:Type}:Z27 S R:=Zgi
theorem q3X {R:Type}:Z3J X (q3W (R:=R)):=ZgQ X
def q3Y:Key:=⟨[62,3,8,29],62,none,[0,0,1,0,1],0,51⟩
def q3Z:StT S:=⟨(N (N (N L none (N L vM L)) (some (.fn (.func 63) [] [(.ptr 0 0)])) (N (N L vI L) none L)) none v1q),(N L oc L),51⟩
def q40:Way S:=⟨.ret,⟨v1h,(N (N (N (N (N (N (N L ob L) none L) none L) none (N L none (N L ob L))) none L) none L) oc L),78⟩,[.int,.int,(.st 18),(.st 18),(.st 20)]⟩
def q41:Way S:=⟨(.exit 0),⟨L,(N L oc L),52⟩,[(.st 20)]⟩
def q42:LE S:=⟨q3Y,q3Z,[.int,(.lst (.st 18)),.int,(.st 20)],[q40,q41]⟩
def q43 (x:tT):((Int×Int×Z5×Z5)⊕Unit)→tM:=Sum.elim (fun y0=>(.inl (y0.1,y0.2.1,y0.2.2.1,y0.2.2.2,x.2.2.2))) (fun y1=>(.inr x.2.2.2))
noncomputable def q44 {R:Type} (x:tT) (k:tM→Option R):Option R:=(X3m x.2.1 x.2.2.1 x.2.2.2 x.1).bind (Sum.elim (fun y0=>k (.inl (y0.1,y0.2.1,y0.2.2.1,y0.2.2.2,x.2.2.2))) (fun y1=>k (.inr x.2.2.2)))
def q45 (x:tT) (v:Int):tT:=(v,x.2.1,x.2.2.1,x.2.2.2)
theorem q46 (x:tT):LE.step X q42 q3U q0 q3W 12 x=X1g x.2.1 x.2.2.1 x.2.2.2 x.1 (fun w0=>(Sum.inl (w0,x.2.1,x.2.2.1,x.2.2.2))) (fun p0 p1 p2 p3=>(Sum.inr (.inl (p0,p1,p2,p3,x.2.2.2)))) (Sum.inr (.inr x.2.2.2)):=by kernel_rfl
theorem q48 {R:Type} (x:tT) (k:tM→Option R) (r:R) (h:q44 x k=some r):∃ o,Z5s (LE.step X q42 q3U q0 q3W 12) x o∧k o=some r:=by
 obtain ⟨o,h1,h2⟩:=Z0 h
 exact ⟨q43 x o,Zhl (st:=fun (x:tT)=>X1b x.2.1 x.2.2.1 x.2.2.2) (prj:=fun x=>x.1) (emb:=q45) (embO:=q43) (fun x=>(q46 x).trans (by unfold X1b X1g;simp only [Zhd,Zh8,Zhe,Option.map_some,Option.map_none];rfl)) (fun _ _=>rfl) (fun _ _=>rfl) (fun _ _ _=>rfl) (fun _ _ _=>rfl) (fun _=>rfl) (Z1S.1 h1),by
  first
  | exact h2
  | (rcases o with o|o<;>exact h2)⟩
noncomputable def q49 {R:Type}:Z27 S R:=LE.ls X q42 q44 q3W
theorem q4a {R:Type}:Z3J X (q49 (R:=R)):=Zhq xok q3V (e:=q42) q1 q3X q48 q3X
def q4b:Key:=⟨[65,2,13,29],65,none,[0,0,1,0,1],0,97⟩
def q4c:StT S:=⟨vT,L,97⟩
def q4d:Way S:=⟨.ret,⟨v1h,(N (N L none (N L none (N (N (N L none (N L oa L)) none L) none L))) none L),115⟩,[.int,.int,(.st 19)]⟩
def q4e:Way S:=⟨(.exit 0),⟨L,L,98⟩,[]⟩
def q4f:LE S:=⟨q4b,q4c,[.int,(.lst (.st 19)),.int],[q4d,q4e]⟩
def q4g (x:t19):t18→t18:=Sum.elim (fun y0=>(.inl (y0.1,y0.2.1,y0.2.2))) (fun y1=>(.inr ()))
noncomputable def q4h {R:Type} (x:t19) (k:t18→Option R):Option R:=(X3n x.2.1 x.2.2 x.1).bind (Sum.elim (fun y0=>k (.inl (y0.1,y0.2.1,y0.2.2))) (fun y1=>k (.inr ())))
def q4i (x:t19) (v:Int):t19:=(v,x.2.1,x.2.2)
theorem q4j (x:t19):LE.step X q4f q3U q0 q49 12 x=X1h x.2.1 x.2.2 x.1 (fun w0=>(Sum.inl (w0,x.2.1,x.2.2))) (fun p0 p1 p2=>(Sum.inr (.inl (p0,p1,p2)))) (Sum.inr (.inr ())):=by kernel_rfl
theorem q4l {R:Type} (x:t19) (k:t18→Option R) (r:R) (h:q4h x k=some r):∃ o,Z5s (LE.step X q4f q3U q0 q49 12) x o∧k o=some r:=by
 obtain ⟨o,h1,h2⟩:=Z0 h
 exact ⟨q4g x o,Zhl (st:=fun (x:t19)=>X1c x.2.1 x.2.2) (prj:=fun x=>x.1) (emb:=q4i) (embO:=q4g) (fun x=>(q4j x).trans (by unfold X1c X1h;simp only [Zhd,Zh8,Zhe,Option.map_some,Option.map_none];rfl)) (fun _ _=>rfl) (fun _ _=>rfl) (fun _ _ _=>rfl) (fun _ _ _=>rfl) (fun _=>rfl) (Z1S.1 h1),by
  first
  | exact h2
  | (rcases o with o|o<;>exact h2)⟩
noncomputable def q4m {R:Type}:Z27 S R:=LE.ls X q4f q4h q49
theorem q4n {R:Type}:Z3J X (q4m (R:=R)):=Zhq xok q3V (e:=q4f) q1 q4a q4l q4a
def q4o:Key:=⟨[65,2,13,29],65,none,[0,0,1,0,1],0,73⟩
def q4p:StT S:=⟨vT,L,73⟩
def q4q:Way S:=⟨.ret,⟨v1h,(N (N L none (N L none (N L none (N (N (N L oa L) none L) none L)))) none L),91⟩,[.int,.int,(.st 19)]⟩
def q4r:Way S:=⟨(.exit 0),⟨L,L,74⟩,[]⟩
def q4s:LE S:=⟨q4o,q4p,[.int,(.lst (.st 19)),.int],[q4q,q4r]⟩
def q4t (x:t19):t18→t18:=Sum.elim (fun y0=>(.inl (y0.1,y0.2.1,y0.2.2))) (fun y1=>(.inr ()))
noncomputable def q4u {R:Type} (x:t19) (k:t18→Option R):Option R:=(X2f x.2.1 x.2.2 x.1).bind (Sum.elim (fun y0=>k (.inl (y0.1,y0.2.1,y0.2.2))) (fun y1=>k (.inr ())))
def q4v (x:t19) (v:Int):t19:=(v,x.2.1,x.2.2)
theorem q4w (x:t19):LE.step X q4s q3U q0 q4m 12 x=X2V x.2.1 x.2.2 x.1 (fun w0=>(Sum.inl (w0,x.2.1,x.2.2))) (fun p0 p1 p2=>(Sum.inr (.inl (p0,p1,p2)))) (Sum.inr (.inr ())):=by kernel_rfl
theorem q4y {R:Type} (x:t19) (k:t18→Option R) (r:R) (h:q4u x k=some r):∃ o,Z5s (LE.step X q4s q3U q0 q4m 12) x o∧k o=some r:=by
 obtain ⟨o,h1,h2⟩:=Z0 h
 exact ⟨q4t x o,Zhl (st:=fun (x:t19)=>X3D x.2.1 x.2.2) (prj:=fun x=>x.1) (emb:=q4v) (embO:=q4t) (fun x=>(q4w x).trans (by unfold X3D X2V;simp only [Zhd,Zh8,Zhe,Option.map_some,Option.map_none];rfl)) (fun _ _=>rfl) (fun _ _=>rfl) (fun _ _ _=>rfl) (fun _ _ _=>rfl) (fun _=>rfl) (Z1S.1 h1),by
  first
  | exact h2
  | (rcases o with o|o<;>exact h2)⟩
noncomputable def q4z {R:Type}:Z27 S R:=LE.ls X q4s q4u q4m
theorem q4A {R:Type}:Z3J X (q4z (R:=R)):=Zhq xok q3V (e:=q4s) q1 q4n q4y q4n
theorem q4B (x0:ZJ):Zhs X q3U [(.st 20)] [(.int .i64),(.int .i64),(.int .i64)] q0 q4z 12 29 (x0,())=X2u x0:=by kernel_rfl
noncomputable def q4C:F7 S:=⟨[(.st 20)],[(.int .i64),(.int .i64),(.int .i64)],fun xs=>X4A xs.1⟩
theorem q4D:Z7Q X 29 q4C:=Zho (Zhn xok q3V q1 q4A 12 29) fun xs _ h=>((q4B xs.1).trans (X5V xs.1).symm).trans h
noncomputable def q4E:List (Nat×F7 S):=[(61,q2N),(117,qE)]
theorem q4F:Z9n X (q4E):=⟨q2O,qF,trivial⟩
abbrev q4G {R:Type}:Z27 S R:=Zgi
theorem q4H {R:Type}:Z3J X (q4G (R:=R)):=ZgQ X
def q4I:Key:=⟨[132,1,109],132,none,[0,0,1],0,45⟩
def q4J:StT S:=⟨(N (N (N L vM L) (some (.ptr 36 0)) L) (some (.yld 40)) L),oO,45⟩
def q4K:Way S:=⟨.ret,⟨L,(N (N (N (N L none (N L none (N L oe L))) ov L) ov L) ok (N (N (N (N L os L) none (N (N L (some (.loop 109 (N (N (N (N L (some (.ptr 3 0)) L) (some (.ptr 0 0)) (N L none (N (N L vi L) vL L))) vM (N (N (N L vL L) none L) none L)) vq (N (N (N L (some (.ptr 4 0)) L) (some (.ptr 1 0)) L) vM (N L (some (.ptr 2 0)) (N (N L vL L) none L)))) (44::(45::[])) .skip .skip 1 .ret (1::(109::[])) (0::(1::(0::(1::(1::(1::(1::[]))))))))) L) os L)) ot (N (N (N L om L) none L) none L)) og L)),67⟩,[(.st 3),.int,.int,(.st 8),(.lst (.int .i64)),.bool,.int,.bool,(.st 8),.int,.bool,(.lst (.int .i64)),.int,(.lst (.st 3)),(.st 4)]⟩
def q4L:Way S:=⟨(.exit 0),⟨L,oO,47⟩,[.int,.int,(.st 8),(.lst (.int .i64)),.bool,.int,.bool,(.st 8),.int,.bool,(.lst (.int .i64)),.int,(.lst (.st 3)),(.st 4)]⟩
def q4M:LE S:=⟨q4I,q4J,[.int,.int,.int,(.st 8),(.lst (.int .i64)),.bool,.int,.bool,(.st 8),.int,.bool,(.lst (.int .i64)),.int,(.lst (.st 3)),(.st 4)],[q4K,q4L]⟩
def q4N (x:tg):((Zk×Int×Int)⊕Unit)→t3:=Sum.elim (fun y0=>(.inl (y0.1,y0.2.1,x.2.2.1,x.2.2.2.1,x.2.2.2.2.1,x.2.2.2.2.2.1,x.2.2.2.2.2.2.1,x.2.2.2.2.2.2.2.1,x.2.2.2.2.2.2.2.2.1,x.2.2.2.2.2.2.2.2.2.1,x.2.2.2.2.2.2.2.2.2.2.1,x.2.2.2.2.2.2.2.2.2.2.2.1,y0.2.2,x.2.2.2.2.2.2.2.2.2.2.2.2.2.1,x.2.2.2.2.2.2.2.2.2.2.2.2.2.2))) (fun y1=>(.inr (x.2.1,x.2.2.1,x.2.2.2.1,x.2.2.2.2.1,x.2.2.2.2.2.1,x.2.2.2.2.2.2.1,x.2.2.2.2.2.2.2.1,x.2.2.2.2.2.2.2.2.1,x.2.2.2.2.2.2.2.2.2.1,x.2.2.2.2.2.2.2.2.2.2.1,x.2.2.2.2.2.2.2.2.2.2.2.1,x.2.2.2.2.2.2.2.2.2.2.2.2.1,x.2.2.2.2.2.2.2.2.2.2.2.2.2.1,x.2.2.2.2.2.2.2.2.2.2.2.2.2.2)))
noncomputable def q4O {R:Type} (x:tg) (k:t3→Option R):Option R:=(X1q x.2.2.1 x.2.2.2.2.2.2.2.2.2.2.2.2.2.1 x.1).bind (Sum.elim (fun y0=>k (.inl (y0.1,y0.2.1,x.2.2.1,x.2.2.2.1,x.2.2.2.2.1,x.2.2.2.2.2.1,x.2.2.2.2.2.2.1,x.2.2.2.2.2.2.2.1,x.2.2.2.2.2.2.2.2.1,x.2.2.2.2.2.2.2.2.2.1,x.2.2.2.2.2.2.2.2.2.2.1,x.2.2.2.2.2.2.2.2.2.2.2.1,y0.2.2,x.2.2.2.2.2.2.2.2.2.2.2.2.2.1,x.2.2.2.2.2.2.2.2.2.2.2.2.2.2))) (fun y1=>k (.inr (x.2.1,x.2.2.1,x.2.2.2.1,x.2.2.2.2.1,x.2.2.2.2.2.1,x.2.2.2.2.2.2.1,x.2.2.2.2.2.2.2.1,x.2.2.2.2.2.2.2.2.1,x.2.2.2.2.2.2.2.2.2.1,x.2.2.2.2.2.2.2.2.2.2.1,x.2.2.2.2.2.2.2.2.2.2.2.1,x.2.2.2.2.2.2.2.2.2.2.2.2.1,x.2.2.2.2.2.2.2.2.2.2.2.2.2.1,x.2.2.2.2.2.2.2.2.2.2.2.2.2.2))))
def q4P (x:tg) (v:Int):tg:=(v,x.2.1,x.2.2.1,x.2.2.2.1,x.2.2.2.2.1,x.2.2.2.2.2.1,x.2.2.2.2.2.2.1,x.2.2.2.2.2.2.2.1,x.2.2.2.2.2.2.2.2.1,x.2.2.2.2.2.2.2.2.2.1,x.2.2.2.2.2.2.2.2.2.2.1,x.2.2.2.2.2.2.2.2.2.2.2.1,x.2.2.2.2.2.2.2.2.2.2.2.2.1,x.2.2.2.2.2.2.2.2.2.2.2.2.2.1,x.2.2.2.2.2.2.2.2.2.2.2.2.2.2)
theorem q4Q (x:tg):LE.step X q4M q4E q0 q4G 12 x=XW x.2.2.1 x.2.2.2.2.2.2.2.2.2.2.2.2.2.1 x.1 (fun w0=>(Sum.inl (w0,x.2.1,x.2.2.1,x.2.2.2.1,x.2.2.2.2.1,x.2.2.2.2.2.1,x.2.2.2.2.2.2.1,x.2.2.2.2.2.2.2.1,x.2.2.2.2.2.2.2.2.1,x.2.2.2.2.2.2.2.2.2.1,x.2.2.2.2.2.2.2.2.2.2.1,x.2.2.2.2.2.2.2.2.2.2.2.1,x.2.2.2.2.2.2.2.2.2.2.2.2.1,x.2.2.2.2.2.2.2.2.2.2.2.2.2.1,x.2.2.2.2.2.2.2.2.2.2.2.2.2.2))) (fun p0 p1 p2=>(Sum.inr (.inl (p0,p1,x.2.2.1,x.2.2.2.1,x.2.2.2.2.1,x.2.2.2.2.2.1,x.2.2.2.2.2.2.1,x.2.2.2.2.2.2.2.1,x.2.2.2.2.2.2.2.2.1,x.2.2.2.2.2.2.2.2.2.1,x.2.2.2.2.2.2.2.2.2.2.1,x.2.2.2.2.2.2.2.2.2.2.2.1,p2,x.2.2.2.2.2.2.2.2.2.2.2.2.2.1,x.2.2.2.2.2.2.2.2.2.2.2.2.2.2)))) (Sum.inr (.inr (x.2.1,x.2.2.1,x.2.2.2.1,x.2.2.2.2.1,x.2.2.2.2.2.1,x.2.2.2.2.2.2.1,x.2.2.2.2.2.2.2.1,x.2.2.2.2.2.2.2.2.1,x.2.2.2.2.2.2.2.2.2.1,x.2.2.2.2.2.2.2.2.2.2.1,x.2.2.2.2.2.2.2.2.2.2.2.1,x.2.2.2.2.2.2.2.2.2.2.2.2.1,x.2.2.2.2.2.2.2.2.2.2.2.2.2.1,x.2.2.2.2.2.2.2.2.2.2.2.2.2.2))):=by kernel_rfl
theorem q4S {R:Type} (x:tg) (k:t3→Option R) (r:R) (h:q4O x k=some r):∃ o,Z5s (LE.step X q4M q4E q0 q4G 12) x o∧k o=some r:=by
 obtain ⟨o,h1,h2⟩:=Z0 h
 exact ⟨q4N x o,Zhl (st:=fun (x:tg)=>XK x.2.2.1 x.2.2.2.2.2.2.2.2.2.2.2.2.2.1) (prj:=fun x=>x.1) (emb:=q4P) (embO:=q4N) (fun x=>(q4Q x).trans (by unfold XK XW;simp only [Zhd,Zh8,Zhe,Option.map_some,Option.map_none];rfl)) (fun _ _=>rfl) (fun _ _=>rfl) (fun _ _ _=>rfl) (fun _ _ _=>rfl) (fun _=>rfl) (Z1S.1 h1),by
  first
  | exact h2
  | (rcases o with o|o<;>exact h2)⟩
noncomputable def q4T {R:Type}:Z27 S R:=LE.ls X q4M q4O q4G
theorem q4U {R:Type}:Z3J X (q4T (R:=R)):=Zhq xok q4F (e:=q4M) q1 q4H q4S q4H
theorem q4V (x0:Zl) (x1:Int) (x2:Int):Zhs X q4E [(.st 8),(.int .i64),(.int .i64)] [(.st 4),(.int .i64),(.int .i64)] q0 q4T 12 109 (x0,x1,x2,())=X1v x0 x1 x2:=by kernel_rfl
noncomputable def q4W:F7 S:=⟨[(.st 8),(.int .i64),(.int .i64)],[(.st 4),(.int .i64),(.int .i64)],fun xs=>X2S xs.1 xs.2.1 xs.2.2.1⟩
theorem q4X:Z7Q X 109 q4W:=Zho (Zhn xok q4F q1 q4U 12 109) fun xs _ h=>((q4V xs.1 xs.2.1 xs.2.2.1).trans (X50 xs.1 xs.2.1 xs.2.2.1).symm).trans h
noncomputable def q4Y:List (Nat×F7 S):=[(109,q4W)]
theorem q4Z:Z9n X (q4Y):=⟨q4X,trivial⟩
abbrev q50 {R:Type}:Z27 S R:=Zgi
theorem q51 {R:Type}:Z3J X (q50 (R:=R)):=ZgQ X
theorem q52 (x0:Zl) (x1:Int) (x2:Int):Zhs X q4Y [(.st 8),(.int .i64),(.int .i64)] [(.int .i64),(.int .i64)] q0 q50 12 82 (x0,x1,x2,())=X1u x0 x1 x2:=by kernel_rfl
noncomputable def q53:F7 S:=⟨[(.st 8),(.int .i64),(.int .i64)],[(.int .i64),(.int .i64)],fun xs=>X4N xs.1 xs.2.1 xs.2.2.1⟩
theorem q54:Z7Q X 82 q53:=Zho (Zhn xok q4Z q1 q51 12 82) fun xs _ h=>((q52 xs.1 xs.2.1 xs.2.2.1).trans (X4Y xs.1 xs.2.1 xs.2.2.1).symm).trans h
noncomputable def q55:List (Nat×F7 S):=[(109,q4W)]
theorem q56:Z9n X (q55):=⟨q4X,trivial⟩
abbrev q57 {R:Type}:Z27 S R:=Zgi
theorem q58 {R:Type}:Z3J X (q57 (R:=R)):=ZgQ X
theorem q59 (x0:Zl) (x1:Int) (x2:Int):Zhs X q55 [(.st 8),(.int .i64),(.int .i64)] [(.st 4),(.int .i64)] q0 q57 12 126 (x0,x1,x2,())=WM x0 x1 x2:=by kernel_rfl
noncomputable def q5a:F7 S:=⟨[(.st 8),(.int .i64),(.int .i64)],[(.st 4),(.int .i64)],fun xs=>X3U xs.1 xs.2.1 xs.2.2.1⟩
theorem q5b:Z7Q X 126 q5a:=Zho (Zhn xok q56 q1 q58 12 126) fun xs _ h=>((q59 xs.1 xs.2.1 xs.2.2.1).trans (X4g xs.1 xs.2.1 xs.2.2.1).symm).trans h
noncomputable def q5c:List (Nat×F7 S):=[]
theorem q5d:Z9n X (q5c):=trivial
abbrev q5e {R:Type}:Z27 S R:=Zgi
theorem q5f {R:Type}:Z3J X (q5e (R:=R)):=ZgQ X
theorem q5g:Zhs X q5c [] [(.arr 8 (.st 2))] q0 q5e 12 133 (())=X5F:=by kernel_rfl
noncomputable def q5h:F7 S:=⟨[],[(.arr 8 (.st 2))],fun xs=>X5F⟩
theorem q5i:Z7Q X 133 q5h:=Zho (Zhn xok q5d q1 q5f 12 133) fun xs _ h=>(q5g).trans h
noncomputable def q5j:List (Nat×F7 S):=[(133,q5h),(120,q1F)]
theorem q5k:Z9n X (q5j):=⟨q5i,q1G,trivial⟩
abbrev q5l {R:Type}:Z27 S R:=Zgi
theorem q5m {R:Type}:Z3J X (q5l (R:=R)):=ZgQ X
def q5n:Key:=⟨[127],127,none,[0,0,0,1],0,2⟩
def q5o:StT S:=⟨(N (N L (some (.ptr 0 0)) L) none (N L vM L)),(N L oj L),2⟩
def q5p:Way S:=⟨(.exit 0),⟨(N (N L (some (.ptr 0 0)) L) none (N L vM L)),(N L oj L),10⟩,[.int,(.st 2)]⟩
def q5q:LE S:=⟨q5n,q5o,[.int,(.st 2)],[q5p]⟩
def q5r (x:(Int×Zu)):(Int×Zu)→(Int×Zu):=fun y0=>(y0.1,y0.2)
noncomputable def q5s {R:Type} (x:(Int×Zu)) (k:(Int×Zu)→Option R):Option R:=(X1r (x.1,x.2)).bind (fun y0=>k (y0.1,y0.2))
def q5t (x:(Int×Zu)) (v:(Int×Zu)):(Int×Zu):=(v.1,v.2)
theorem q5u (x:(Int×Zu)):LE.step X q5q q5j q0 q5l 12 x=Xo x.1 x.2 (fun w0 w1=>(Sum.inl (w0,w1))) (fun p0 p1=>(Sum.inr (p0,p1))):=by kernel_rfl
theorem q5w {R:Type} (x:(Int×Zu)) (k:(Int×Zu)→Option R) (r:R) (h:q5s x k=some r):∃ o,Z5s (LE.step X q5q q5j q0 q5l 12) x o∧k o=some r:=by
 obtain ⟨o,h1,h2⟩:=Z0 h
 exact ⟨q5r x o,Zhl (st:=fun (x:(Int×Zu))=>X9) (prj:=fun x=>(x.1,x.2)) (emb:=q5t) (embO:=q5r) (fun x=>(q5u x).trans (by unfold X9 Xo;simp only [Zhd,Zh8,Zhe,Option.map_some,Option.map_none];rfl)) (fun _ _=>rfl) (fun _ _=>rfl) (fun _ _ _=>rfl) (fun _ _ _=>rfl) (fun _=>rfl) (Z1S.1 h1),by
  first
  | exact h2
  | (rcases o with o<;>exact h2)⟩
noncomputable def q5x {R:Type}:Z27 S R:=LE.ls X q5q q5s q5l
theorem q5y {R:Type}:Z3J X (q5x (R:=R)):=Zhq xok q5k (e:=q5q) q1 q5m q5w q5m
def q5z:Key:=⟨[127],127,none,[0,0,1,0,1,1],2,12⟩
def q5A:StT S:=⟨(N (N L (some (.ptr 0 0)) (N L none (N (N L (some (.agg [(.arr (.st 2) 8 (fun _=>tdf T (.st 2)))])) L) none L))) none (N L vM v1q)),(N L oj L),12⟩
def q5B:Way S:=⟨(.exit 2),⟨(N L none (N L vM L)),(N L oj L),13⟩,[.int,(.st 2)]⟩
def q5C:LE S:=⟨q5z,q5A,[(.arr (.st 2)),.int,.int,(.st 2)],[q5B]⟩
def q5D (x:tY):Int→(Int×Zu):=fun y0=>(y0,x.2.2.2)
noncomputable def q5E {R:Type} (x:tY) (k:(Int×Zu)→Option R):Option R:=(X2o x.1 x.2.2.2 (x.2.1,x.2.2.1)).bind (fun y0=>k (y0,x.2.2.2))
def q5F (x:tY) (v:(Int×Int)):tY:=(x.1,v.1,v.2,x.2.2.2)
theorem q5G (x:tY):LE.step X q5C q5j q0 q5x 12 x=XY x.1 x.2.2.2 x.2.1 x.2.2.1 (fun w0 w1=>(Sum.inl (x.1,w0,w1,x.2.2.2))) (fun p0=>(Sum.inr (p0,x.2.2.2))):=by kernel_rfl
theorem q5I {R:Type} (x:tY) (k:(Int×Zu)→Option R) (r:R) (h:q5E x k=some r):∃ o,Z5s (LE.step X q5C q5j q0 q5x 12) x o∧k o=some r:=by
 obtain ⟨o,h1,h2⟩:=Z0 h
 exact ⟨q5D x o,Zhl (st:=fun (x:tY)=>XN x.1 x.2.2.2) (prj:=fun x=>(x.2.1,x.2.2.1)) (emb:=q5F) (embO:=q5D) (fun x=>(q5G x).trans (by unfold XN XY;simp only [Zhd,Zh8,Zhe,Option.map_some,Option.map_none];rfl)) (fun _ _=>rfl) (fun _ _=>rfl) (fun _ _ _=>rfl) (fun _ _ _=>rfl) (fun _=>rfl) (Z1S.1 h1),by
  first
  | exact h2
  | (rcases o with o<;>exact h2)⟩
noncomputable def q5J {R:Type}:Z27 S R:=LE.ls X q5C q5E q5x
theorem q5K {R:Type}:Z3J X (q5J (R:=R)):=Zhq xok q5k (e:=q5C) q1 q5y q5I q5y
theorem q5L (x0:Zu):Zhs X q5j [(.st 2)] [(.int .i64)] q0 q5J 12 127 (x0,())=X1x x0:=by kernel_rfl
noncomputable def q5M:F7 S:=⟨[(.st 2)],[(.int .i64)],fun xs=>X3O xs.1⟩
theorem q5N:Z7Q X 127 q5M:=Zho (Zhn xok q5k q1 q5K 12 127) fun xs _ h=>((q5L xs.1).trans (X52 xs.1).symm).trans h
noncomputable def q5O:List (Nat×F7 S):=[(126,q5a),(93,qY),(121,q1y),(127,q5M)]
theorem q5P:Z9n X (q5O):=⟨q5b,qZ,q1z,q5N,trivial⟩
abbrev q5Q {R:Type}:Z27 S R:=Zgi
theorem q5R {R:Type}:Z3J X (q5Q (R:=R)):=ZgQ X
theorem q5S (x0:Zl) (x1:Int) (x2:Int) (x3:Zu):Zhs X q5O [(.st 8),(.int .i64),(.int .i64),(.st 2)] [(.int .i64),(.int .i64)] q0 q5Q 12 110 (x0,x1,x2,x3,())=X23 x0 x1 x2 x3:=by kernel_rfl
noncomputable def q5T:F7 S:=⟨[(.st 8),(.int .i64),(.int .i64),(.st 2)],[(.int .i64),(.int .i64)],fun xs=>X4O xs.1 xs.2.1 xs.2.2.1 xs.2.2.2.1⟩
theorem q5U:Z7Q X 110 q5T:=Zho (Zhn xok q5P q1 q5R 12 110) fun xs _ h=>((q5S xs.1 xs.2.1 xs.2.2.1 xs.2.2.2.1).trans (X5D xs.1 xs.2.1 xs.2.2.1 xs.2.2.2.1).symm).trans h
def q5V:StT S:=⟨(N (N L vM L) (some (.ptr 1 0)) L),(N (N L o3 L) oo L),2⟩
def q5W:Way S:=⟨.ret,⟨(N L vL L),(N (N L o3 L) oo L),2⟩,[.bool,(.st 20),(.lst (.st 21)),.en,(.mp (.st 23) (.int .i64))]⟩
def q5X:PE S:=⟨49,2,q5V,[.int,(.st 20),(.lst (.st 21)),.en,(.mp (.st 23) (.int .i64))],[q5W]⟩
noncomputable def q5Y:List (Nat×F7 S):=[(82,q53)]
theorem q5Z:Z9n X q5Y:=⟨q54,trivial⟩
abbrev q60 {R:Type}:Z27 S R:=Zgi
theorem q61 {R:Type}:Z3J X (q60 (R:=R)):=ZgQ X
theorem q62 (x:tG):PE.step X q5X q5Y q0 q60 12 x=Xr x.1 x.2.1 x.2.2.1 x.2.2.2.1 x.2.2.2.2:=by kernel_rfl
theorem q63:ZaX X q5X XB:=Zhr (ZgU xok q5Z q1 q61 12) fun x _ h=>((q62 x).trans (X31 x).symm).trans h
noncomputable def q64 {R:Type}:Prs S R:=PE.ps X q5X (fun x q=>(XB x).bind q) q0
theorem q65 {R:Type}:Z7R X (q64 (R:=R)):=Zhi (e:=q5X) q63 q1
def q66:StT S:=⟨(N (N L vp L) (some (.ptr 1 0)) L),(N (N L o3 L) oo L),2⟩
def q67:Way S:=⟨.ret,⟨(N L vM L),(N (N L o3 L) oo L),2⟩,[.int,(.st 20),(.lst (.st 21)),.en,(.mp (.st 23) (.int .i64))]⟩
def q68:PE S:=⟨105,2,q66,[(.st 21),(.st 20),(.lst (.st 21)),.en,(.mp (.st 23) (.int .i64))],[q67]⟩
noncomputable def q69:List (Nat×F7 S):=[(57,q37),(82,q53)]
theorem q6a:Z9n X q69:=⟨q38,q54,trivial⟩
abbrev q6b {R:Type}:Z27 S R:=Zgi
theorem q6c {R:Type}:Z3J X (q6b (R:=R)):=ZgQ X
theorem q6d (x:(Zn×ZJ×(List Zn)×(Nat→Nat)×t1d)):PE.step X q68 q69 q64 q6b 12 x=Xx x.1 x.2.1 x.2.2.1 x.2.2.2.1 x.2.2.2.2:=by kernel_rfl
theorem q6e:ZaX X q68 WN:=Zhr (ZgU xok q6a q65 q6c 12) fun x _ h=>((q6d x).trans (X3g x).symm).trans h
noncomputable def q6f {R:Type}:Prs S R:=PE.ps X q68 (fun x q=>(WN x).bind q) q64
theorem q6g {R:Type}:Z7R X (q6f (R:=R)):=Zhi (e:=q68) q6e q65
def q6h:StT S:=⟨v1g,L,0⟩
def q6i:Way S:=⟨.ret,⟨(N L (some (.tup [.nilp,(.int .i64 0),(.int .i64 0)])) L),L,0⟩,[.int,.int]⟩
def q6j:Way S:=⟨.ret,⟨(N L (some (.tup [(.ptr 1 0),(.int .i64 0),(.int .i64 0)])) L),(N (N L o3 L) oo L),2⟩,[.int,.int,(.st 20),(.lst (.st 21)),.en,(.mp (.st 23) (.int .i64))]⟩
def q6k:PE S:=⟨74,2,q6h,[(.lst (.st 21)),(.st 20)],[q6i,q6j]⟩
noncomputable def q6l:List (Nat×F7 S):=[(29,q4C),(57,q37),(82,q53)]
theorem q6m:Z9n X q6l:=⟨q4D,q38,q54,trivial⟩
abbrev q6n {R:Type}:Z27 S R:=Zgi
theorem q6o {R:Type}:Z3J X (q6n (R:=R)):=ZgQ X
def q6p:Key:=⟨[74],74,none,[0,0,1,0,1,1,1,1],0,26⟩
def q6q:StT S:=⟨(N (N (N L none (N L none (N L vI L))) vJ (N L none (N L none (N L vM L)))) none (N (N L (some (.ptr 1 0)) (N L none (N L vM L))) none L)),o14,26⟩
def q6r:Way S:=⟨(.exit 0),⟨(N (N L vJ L) none (N (N L (some (.ptr 1 0)) L) none L)),o14,27⟩,[(.lst (.st 21)),(.st 20),(.st 20),(.lst (.st 21)),.en,(.mp (.st 23) (.int .i64))]⟩
def q6s:LE S:=⟨q6p,q6q,[(.lst (.st 18)),(.lst (.st 21)),.int,.int,(.st 20),(.st 20),(.lst (.st 21)),.en,(.mp (.st 23) (.int .i64))],[q6r]⟩
def q6t (x:ti):(Nat→Nat)→tu:=fun y0=>(x.2.1,x.2.2.2.2.1,x.2.2.2.2.2.1,x.2.2.2.2.2.2.1,y0,x.2.2.2.2.2.2.2.2)
noncomputable def q6u {R:Type} (x:ti) (k:tu→Option R):Option R:=(X2E x.1 x.2.2.2.1 (x.2.2.1,x.2.2.2.2.2.2.2.1)).bind (fun y0=>k (x.2.1,x.2.2.2.2.1,x.2.2.2.2.2.1,x.2.2.2.2.2.2.1,y0,x.2.2.2.2.2.2.2.2))
def q6v (x:ti) (v:(Int×(Nat→Nat))):ti:=(x.1,x.2.1,v.1,x.2.2.2.1,x.2.2.2.2.1,x.2.2.2.2.2.1,x.2.2.2.2.2.2.1,v.2,x.2.2.2.2.2.2.2.2)
theorem q6w (x:ti):LE.step X q6s q6l q0 q6n 12 x=Wr x.1 x.2.2.2.1 x.2.2.1 x.2.2.2.2.2.2.2.1 (fun w0 w1=>(Sum.inl (x.1,x.2.1,w0,x.2.2.2.1,x.2.2.2.2.1,x.2.2.2.2.2.1,x.2.2.2.2.2.2.1,w1,x.2.2.2.2.2.2.2.2))) (fun p0=>(Sum.inr (x.2.1,x.2.2.2.2.1,x.2.2.2.2.2.1,x.2.2.2.2.2.2.1,p0,x.2.2.2.2.2.2.2.2))):=by kernel_rfl
theorem q6y {R:Type} (x:ti) (k:tu→Option R) (r:R) (h:q6u x k=some r):∃ o,Z5s (LE.step X q6s q6l q0 q6n 12) x o∧k o=some r:=by
 obtain ⟨o,h1,h2⟩:=Z0 h
 exact ⟨q6t x o,Zhl (st:=fun (x:ti)=>Wb x.1 x.2.2.2.1) (prj:=fun x=>(x.2.2.1,x.2.2.2.2.2.2.2.1)) (emb:=q6v) (embO:=q6t) (fun x=>(q6w x).trans (by unfold Wb Wr;simp only [Zhd,Zh8,Zhe,Option.map_some,Option.map_none];rfl)) (fun _ _=>rfl) (fun _ _=>rfl) (fun _ _ _=>rfl) (fun _ _ _=>rfl) (fun _=>rfl) (Z1S.1 h1),by
  first
  | exact h2
  | (rcases o with o<;>exact h2)⟩
noncomputable def q6z {R:Type}:Z27 S R:=LE.ls X q6s q6u q6n
theorem q6A {R:Type}:Z3J X (q6z (R:=R)):=Zhq xok q6m (e:=q6s) q1 q6o q6y q6o
def q6B:Key:=⟨[103,2,14,74],103,none,[0,0,1,0,1],0,40⟩
def q6C:StT S:=⟨(N (N (N L none (N L vM L)) (some (.fn (.func 104) [] [(.ptr 1 0)])) (N (N L vJ L) none L)) none v1q),o11,40⟩
def q6D:Way S:=⟨.ret,⟨v1h,(N (N L oy L) none (N (N L none (N (N L o2 (N L od L)) none (N (N L od L) none L))) none (N (N (N L oo L) none L) none L))),64⟩,[.int,.int,(.st 20),(.lst (.st 21)),.en,(.st 21),(.st 21),(.mp (.st 23) (.int .i64))]⟩
def q6E:Way S:=⟨(.exit 0),⟨L,o11,41⟩,[(.st 20),(.lst (.st 21)),.en,(.mp (.st 23) (.int .i64))]⟩
def q6F:LE S:=⟨q6B,q6C,[.int,(.lst (.st 21)),.int,(.st 20),(.lst (.st 21)),.en,(.mp (.st 23) (.int .i64))],[q6D,q6E]⟩
def q6G (x:tq):tb→tb:=Sum.elim (fun y0=>(.inl (y0.1,y0.2.1,y0.2.2.1,y0.2.2.2.1,y0.2.2.2.2.1,y0.2.2.2.2.2.1,y0.2.2.2.2.2.2.1,y0.2.2.2.2.2.2.2))) (fun y1=>(.inr (y1.1,y1.2.1,y1.2.2.1,y1.2.2.2)))
noncomputable def q6H {R:Type} (x:tq) (k:tb→Option R):Option R:=(X2F x.2.1 x.2.2.1 (x.1,x.2.2.2.1,x.2.2.2.2.1,x.2.2.2.2.2.1,x.2.2.2.2.2.2)).bind (Sum.elim (fun y0=>k (.inl (y0.1,y0.2.1,y0.2.2.1,y0.2.2.2.1,y0.2.2.2.2.1,y0.2.2.2.2.2.1,y0.2.2.2.2.2.2.1,y0.2.2.2.2.2.2.2))) (fun y1=>k (.inr (y1.1,y1.2.1,y1.2.2.1,y1.2.2.2))))
def q6I (x:tq) (v:tG):tq:=(v.1,x.2.1,x.2.2.1,v.2.1,v.2.2.1,v.2.2.2.1,v.2.2.2.2)
theorem q6J (x:tq):LE.step X q6F q6l q6f q6z 12 x=Ws x.2.1 x.2.2.1 x.1 x.2.2.2.1 x.2.2.2.2.1 x.2.2.2.2.2.1 x.2.2.2.2.2.2 (fun w0 w1 w2 w3 w4=>(Sum.inl (w0,x.2.1,x.2.2.1,w1,w2,w3,w4))) (fun p0 p1 p2 p3 p4 p5 p6 p7=>(Sum.inr (.inl (p0,p1,p2,p3,p4,p5,p6,p7)))) (fun p0 p1 p2 p3=>(Sum.inr (.inr (p0,p1,p2,p3)))):=by kernel_rfl
theorem q6L {R:Type} (x:tq) (k:tb→Option R) (r:R) (h:q6H x k=some r):∃ o,Z5s (LE.step X q6F q6l q6f q6z 12) x o∧k o=some r:=by
 obtain ⟨o,h1,h2⟩:=Z0 h
 exact ⟨q6G x o,Zhl (st:=fun (x:tq)=>Wc x.2.1 x.2.2.1) (prj:=fun x=>(x.1,x.2.2.2.1,x.2.2.2.2.1,x.2.2.2.2.2.1,x.2.2.2.2.2.2)) (emb:=q6I) (embO:=q6G) (fun x=>(q6J x).trans (by unfold Wc Ws;simp only [Zhd,Zh8,Zhe,Option.map_some,Option.map_none];rfl)) (fun _ _=>rfl) (fun _ _=>rfl) (fun _ _ _=>rfl) (fun _ _ _=>rfl) (fun _=>rfl) (Z1S.1 h1),by
  first
  | exact h2
  | (rcases o with o|o<;>exact h2)⟩
noncomputable def q6M {R:Type}:Z27 S R:=LE.ls X q6F q6H q6z
theorem q6N {R:Type}:Z3J X (q6M (R:=R)):=Zhq xok q6m (e:=q6F) q6g q6A q6L q6A
theorem q6O (x:((List Zn)×ZJ)):PE.step X q6k q6l q6f q6M 12 x=X1d x.1 x.2:=by kernel_rfl
theorem q6P:ZaX X q6k X3u:=Zhr (ZgU xok q6m q6g q6N 12) fun x _ h=>((q6O x).trans (X42 x).symm).trans h
noncomputable def q6Q {R:Type}:Prs S R:=PE.ps X q6k (fun x q=>(X3u x).bind q) q6f
theorem q6R {R:Type}:Z7R X (q6Q (R:=R)):=Zhi (e:=q6k) q6P q6g
def q6S:StT S:=⟨v1g,L,0⟩
def q6T:Way S:=⟨.ret,⟨(N L (some (.tup [.nilp,(.int .i64 0)])) L),L,0⟩,[.int]⟩
def q6U:Way S:=⟨.ret,⟨(N L (some (.tup [(.ptr 1 0),(.int .i64 0)])) L),(N (N L o3 L) oo L),2⟩,[.int,(.st 20),(.lst (.st 21)),.en,(.mp (.st 23) (.int .i64))]⟩
def q6V:PE S:=⟨35,2,q6S,[(.lst (.st 21)),(.st 20)],[q6T,q6U]⟩
noncomputable def q6W:List (Nat×F7 S):=[(29,q4C),(57,q37),(82,q53)]
theorem q6X:Z9n X q6W:=⟨q4D,q38,q54,trivial⟩
abbrev q6Y {R:Type}:Z27 S R:=Zgi
theorem q6Z {R:Type}:Z3J X (q6Y (R:=R)):=ZgQ X
theorem q70 (x:((List Zn)×ZJ)):PE.step X q6V q6W q6Q q6Y 12 x=X1A x.1 x.2:=by kernel_rfl
theorem q71:ZaX X q6V X2g:=Zhr (ZgU xok q6X q6R q6Z 12) fun x _ h=>((q70 x).trans (X54 x).symm).trans h
noncomputable def q72 {R:Type}:Prs S R:=PE.ps X q6V (fun x q=>(X2g x).bind q) q6Q
theorem q73 {R:Type}:Z7R X (q72 (R:=R)):=Zhi (e:=q6V) q71 q6R
def q74:StT S:=⟨(N L (some .nilp) L),L,0⟩
def q75:PE S:=⟨36,1,q74,[],[]⟩
noncomputable def q76:List (Nat×F7 S):=[(110,q5T),(57,q37)]
theorem q77:Z9n X q76:=⟨q5U,q38,trivial⟩
abbrev q78 {R:Type}:Z27 S R:=Zgi
theorem q79 {R:Type}:Z3J X (q78 (R:=R)):=ZgQ X
theorem q7a (x:Unit):PE.step X q75 q76 q72 q78 12 x=W7:=by kernel_rfl
theorem q7b:ZaX X q75 X2p:=Zhr (ZgU xok q77 q73 q79 12) fun x _ h=>((q7a x).trans (X4R x).symm).trans h
noncomputable def q7c {R:Type}:Prs S R:=PE.ps X q75 (fun x q=>(X2p x).bind q) q72
theorem q7d {R:Type}:Z7R X (q7c (R:=R)):=Zhi (e:=q75) q7b q73
def q7e:StT S:=⟨(N (N L vM L) (some (.ptr 1 0)) (N L vr L)),(N (N L o3 L) oo L),2⟩
def q7f:Way S:=⟨.ret,⟨(N L vM L),(N (N L o3 L) oo L),2⟩,[.int,(.st 20),(.lst (.st 21)),.en,(.mp (.st 23) (.int .i64))]⟩
def q7g:PE S:=⟨83,3,q7e,[.int,(.st 2),(.st 20),(.lst (.st 21)),.en,(.mp (.st 23) (.int .i64))],[q7f]⟩
noncomputable def q7h:List (Nat×F7 S):=[(110,q5T)]
theorem q7i:Z9n X q7h:=⟨q5U,trivial⟩
abbrev q7j {R:Type}:Z27 S R:=Zgi
theorem q7k {R:Type}:Z3J X (q7j (R:=R)):=ZgQ X
theorem q7l (x:(Int×Zu×ZJ×(List Zn)×(Nat→Nat)×t1d)):PE.step X q7g q7h q7c q7j 12 x=Xs x.1 x.2.1 x.2.2.1 x.2.2.2.1 x.2.2.2.2.1 x.2.2.2.2.2:=by kernel_rfl
theorem q7m:ZaX X q7g XC:=Zhr (ZgU xok q7i q7d q7k 12) fun x _ h=>((q7l x).trans (X35 x).symm).trans h
noncomputable def q7n {R:Type}:Prs S R:=PE.ps X q7g (fun x q=>(XC x).bind q) q7c
theorem q7o {R:Type}:Z7R X (q7n (R:=R)):=Zhi (e:=q7g) q7m q7d
def q7p:StT S:=⟨(N (N L vr L) (some (.agg [(.ptr 1 0)])) (N L vp L)),(N (N L o3 L) oo L),2⟩
def q7q:Way S:=⟨.ret,⟨v1a,(N (N L o3 L) oo L),2⟩,[(.st 5),.bool,(.st 20),(.lst (.st 21)),.en,(.mp (.st 23) (.int .i64))]⟩
def q7r:PE S:=⟨149,3,q7p,[(.st 2),(.st 21),(.st 20),(.lst (.st 21)),.en,(.mp (.st 23) (.int .i64))],[q7q]⟩
noncomputable def q7s:List (Nat×F7 S):=[(110,q5T)]
theorem q7t:Z9n X q7s:=⟨q5U,trivial⟩
abbrev q7u {R:Type}:Z27 S R:=Zgi
theorem q7v {R:Type}:Z3J X (q7u (R:=R)):=ZgQ X
theorem q7w (x:(Zu×Zn×ZJ×(List Zn)×(Nat→Nat)×t1d)):PE.step X q7r q7s q7n q7u 12 x=Xt x.1 x.2.1 x.2.2.1 x.2.2.2.1 x.2.2.2.2.1 x.2.2.2.2.2:=by kernel_rfl
theorem q7x:ZaX X q7r Xf:=Zhr (ZgU xok q7t q7o q7v 12) fun x _ h=>((q7w x).trans (X37 x).symm).trans h
noncomputable def q7y {R:Type}:Prs S R:=PE.ps X q7r (fun x q=>(Xf x).bind q) q7n
theorem q7z {R:Type}:Z7R X (q7y (R:=R)):=Zhi (e:=q7r) q7x q7o
def q7A:StT S:=⟨(N (N L vr L) (some (.agg [(.ptr 1 0)])) (N L vp L)),(N (N L o3 L) oo L),2⟩
def q7B:Way S:=⟨.ret,⟨v1a,(N (N L o3 L) oo L),2⟩,[(.st 5),.bool,(.st 20),(.lst (.st 21)),.en,(.mp (.st 23) (.int .i64))]⟩
def q7C:PE S:=⟨150,3,q7A,[(.st 2),(.st 21),(.st 20),(.lst (.st 21)),.en,(.mp (.st 23) (.int .i64))],[q7B]⟩
noncomputable def q7D:List (Nat×F7 S):=[(57,q37)]
theorem q7E:Z9n X q7D:=⟨q38,trivial⟩
abbrev q7F {R:Type}:Z27 S R:=Zgi
theorem q7G {R:Type}:Z3J X (q7F (R:=R)):=ZgQ X
def q7H:Key:=⟨[151,7,1,150],151,none,[0,0,1,0,1],0,20⟩
def q7I:StT S:=⟨(N (N (N (N L vM L) none L) (some (.fn (.func 152) [] [(.ptr 3 0)])) L) (some (.sl (.st 19) [])) v1p),o1s,20⟩
def q7J:Way S:=⟨.ret,⟨v1q,(N (N (N (N L none (N (N L os L) none L)) oj o1u) none (N L none (N L none (N L oa L)))) none L),58⟩,[.int,(.lst (.int .i64)),(.st 2),(.lst (.int .i64)),(.st 19)]⟩
def q7K:Way S:=⟨(.exit 0),⟨L,o1s,21⟩,[(.st 2)]⟩
def q7L:LE S:=⟨q7H,q7I,[.int,(.lst (.st 19)),.int,(.st 2)],[q7J,q7K]⟩
def q7M (x:tZ):((Int×(List Int)×(List Int)×Zt)⊕Unit)→tN:=Sum.elim (fun y0=>(.inl (y0.1,y0.2.1,x.2.2.2,y0.2.2.1,y0.2.2.2))) (fun y1=>(.inr x.2.2.2))
noncomputable def q7N {R:Type} (x:tZ) (k:tN→Option R):Option R:=(X2P x.1 x.2.1 x.2.2.2 x.2.2.1).bind (Sum.elim (fun y0=>k (.inl (y0.1,y0.2.1,x.2.2.2,y0.2.2.1,y0.2.2.2))) (fun y1=>k (.inr x.2.2.2)))
def q7O (x:tZ) (v:Int):tZ:=(x.1,x.2.1,v,x.2.2.2)
theorem q7P (x:tZ):LE.step X q7L q7D q7y q7F 12 x=Xl x.1 x.2.1 x.2.2.2 x.2.2.1 (fun w0=>(Sum.inl (x.1,x.2.1,w0,x.2.2.2))) (fun p0 p1 p2 p3=>(Sum.inr (.inl (p0,p1,x.2.2.2,p2,p3)))) (Sum.inr (.inr x.2.2.2)):=by kernel_rfl
theorem q7R {R:Type} (x:tZ) (k:tN→Option R) (r:R) (h:q7N x k=some r):∃ o,Z5s (LE.step X q7L q7D q7y q7F 12) x o∧k o=some r:=by
 obtain ⟨o,h1,h2⟩:=Z0 h
 exact ⟨q7M x o,Zhl (st:=fun (x:tZ)=>Xd x.1 x.2.1 x.2.2.2) (prj:=fun x=>x.2.2.1) (emb:=q7O) (embO:=q7M) (fun x=>(q7P x).trans (by unfold Xd Xl;simp only [Zhd,Zh8,Zhe,Option.map_some,Option.map_none];rfl)) (fun _ _=>rfl) (fun _ _=>rfl) (fun _ _ _=>rfl) (fun _ _ _=>rfl) (fun _=>rfl) (Z1S.1 h1),by
  first
  | exact h2
  | (rcases o with o|o<;>exact h2)⟩
noncomputable def q7S {R:Type}:Z27 S R:=LE.ls X q7L q7N q7F
theorem q7T {R:Type}:Z3J X (q7S (R:=R)):=Zhq xok q7E (e:=q7L) q7z q7G q7R q7G
theorem q7U (x:(Zu×Zn×ZJ×(List Zn)×(Nat→Nat)×t1d)):PE.step X q7C q7D q7y q7S 12 x=XZ x.1 x.2.1 x.2.2.1 x.2.2.2.1 x.2.2.2.2.1 x.2.2.2.2.2:=by kernel_rfl
theorem q7V:ZaX X q7C XO:=Zhr (ZgU xok q7E q7z q7T 12) fun x _ h=>((q7U x).trans (X3H x).symm).trans h
noncomputable def q7W {R:Type}:Prs S R:=PE.ps X q7C (fun x q=>(XO x).bind q) q7y
theorem q7X {R:Type}:Z7R X (q7W (R:=R)):=Zhi (e:=q7C) q7V q7z
def q7Y:StT S:=⟨(N (N (N L vM L) vr L) (some (.ptr 1 0)) (N L vM L)),(N (N L o3 L) oo L),2⟩
def q7Z:Way S:=⟨.ret,⟨(N L (some (.tup [(.agg [(.arr (.st 5) 4 (fun _=>tdf T (.st 5)))]),(.bool false)])) L),(N (N L o3 L) oo L),2⟩,[(.arr (.st 5)),.bool,(.st 20),(.lst (.st 21)),.en,(.mp (.st 23) (.int .i64))]⟩
def q80:PE S:=⟨58,4,q7Y,[.int,(.st 2),.int,(.st 20),(.lst (.st 21)),.en,(.mp (.st 23) (.int .i64))],[q7Z]⟩
noncomputable def q81:List (Nat×F7 S):=[(110,q5T),(57,q37)]
theorem q82:Z9n X q81:=⟨q5U,q38,trivial⟩
abbrev q83 {R:Type}:Z27 S R:=Zgi
theorem q84 {R:Type}:Z3J X (q83 (R:=R)):=ZgQ X
def q85:Key:=⟨[58],58,none,[0,0,1,0,0,1],0,12⟩
def q86:StT S:=⟨(N (N (N (N L none (N L vM L)) vM L) none (N L (some (.ptr 2 0)) L)) (some (.ptr 1 0)) (N (N (N L (some (.ptr 3 0)) (N L vM L)) none L) vM (N L none (N (N L vI L) none L)))),o1m,12⟩
def q87:Way S:=⟨(.exit 0),⟨(N (N (N L vM L) none (N L (some (.ptr 2 0)) L)) (some (.ptr 1 0)) (N v1n vM L)),o1m,13⟩,[.int,.int,(.arr (.st 5)),(.st 20),(.lst (.st 21)),.en,(.mp (.st 23) (.int .i64)),(.st 2)]⟩
def q88:LE S:=⟨q85,q86,[.int,.int,.int,.int,(.lst (.st 18)),(.arr (.st 5)),(.st 20),(.lst (.st 21)),.en,(.mp (.st 23) (.int .i64)),(.st 2)],[q87]⟩
def q89 (x:tf):(Nat→ZE)→tn:=fun y0=>(x.2.1,x.2.2.2.1,y0,x.2.2.2.2.2.2.1,x.2.2.2.2.2.2.2.1,x.2.2.2.2.2.2.2.2.1,x.2.2.2.2.2.2.2.2.2.1,x.2.2.2.2.2.2.2.2.2.2)
noncomputable def q8a {R:Type} (x:tf) (k:tn→Option R):Option R:=(X1J x.1 x.2.1 x.2.2.2.1 x.2.2.2.2.1 x.2.2.2.2.2.2.1 x.2.2.2.2.2.2.2.1 x.2.2.2.2.2.2.2.2.1 x.2.2.2.2.2.2.2.2.2.1 x.2.2.2.2.2.2.2.2.2.2 (x.2.2.1,x.2.2.2.2.2.1)).bind (fun y0=>k (x.2.1,x.2.2.2.1,y0,x.2.2.2.2.2.2.1,x.2.2.2.2.2.2.2.1,x.2.2.2.2.2.2.2.2.1,x.2.2.2.2.2.2.2.2.2.1,x.2.2.2.2.2.2.2.2.2.2))
def q8b (x:tf) (v:(Int×(Nat→ZE))):tf:=(x.1,x.2.1,v.1,x.2.2.2.1,x.2.2.2.2.1,v.2,x.2.2.2.2.2.2.1,x.2.2.2.2.2.2.2.1,x.2.2.2.2.2.2.2.2.1,x.2.2.2.2.2.2.2.2.2.1,x.2.2.2.2.2.2.2.2.2.2)
theorem q8c (x:tf):LE.step X q88 q81 q7c q83 12 x=Xp x.1 x.2.1 x.2.2.2.1 x.2.2.2.2.1 x.2.2.2.2.2.2.1 x.2.2.2.2.2.2.2.1 x.2.2.2.2.2.2.2.2.1 x.2.2.2.2.2.2.2.2.2.1 x.2.2.2.2.2.2.2.2.2.2 x.2.2.1 x.2.2.2.2.2.1 (fun w0 w1=>(Sum.inl (x.1,x.2.1,w0,x.2.2.2.1,x.2.2.2.2.1,w1,x.2.2.2.2.2.2.1,x.2.2.2.2.2.2.2.1,x.2.2.2.2.2.2.2.2.1,x.2.2.2.2.2.2.2.2.2.1,x.2.2.2.2.2.2.2.2.2.2))) (fun p0=>(Sum.inr (x.2.1,x.2.2.2.1,p0,x.2.2.2.2.2.2.1,x.2.2.2.2.2.2.2.1,x.2.2.2.2.2.2.2.2.1,x.2.2.2.2.2.2.2.2.2.1,x.2.2.2.2.2.2.2.2.2.2))):=by kernel_rfl
theorem q8e {R:Type} (x:tf) (k:tn→Option R) (r:R) (h:q8a x k=some r):∃ o,Z5s (LE.step X q88 q81 q7c q83 12) x o∧k o=some r:=by
 obtain ⟨o,h1,h2⟩:=Z0 h
 exact ⟨q89 x o,Zhl (st:=fun (x:tf)=>Xh x.1 x.2.1 x.2.2.2.1 x.2.2.2.2.1 x.2.2.2.2.2.2.1 x.2.2.2.2.2.2.2.1 x.2.2.2.2.2.2.2.2.1 x.2.2.2.2.2.2.2.2.2.1 x.2.2.2.2.2.2.2.2.2.2) (prj:=fun x=>(x.2.2.1,x.2.2.2.2.2.1)) (emb:=q8b) (embO:=q89) (fun x=>(q8c x).trans (by unfold Xh Xp;simp only [Zhd,Zh8,Zhe,Option.map_some,Option.map_none];rfl)) (fun _ _=>rfl) (fun _ _=>rfl) (fun _ _ _=>rfl) (fun _ _ _=>rfl) (fun _=>rfl) (Z1S.1 h1),by
  first
  | exact h2
  | (rcases o with o<;>exact h2)⟩
noncomputable def q8f {R:Type}:Z27 S R:=LE.ls X q88 q8a q83
theorem q8g {R:Type}:Z3J X (q8f (R:=R)):=Zhq xok q82 (e:=q88) q7d q84 q8e q84
def q8h:Key:=⟨[58],58,none,[0,0,1,0,1,1,0,1],2,19⟩
def q8i:StT S:=⟨(N (N (N v1q vM L) none (N L (some (.ptr 2 0)) (N (N (N L vJ L) none L) none L))) (some (.ptr 1 0)) (N v1n vM (N L none v1p))),o1m,19⟩
def q8j:Way S:=⟨.ret,⟨v16,(N (N (N L o7 (N (N (N L (some (.cells 159 [.nilp])) L) none L) none L)) o3 o15) oo (N L oj (N L none (N (N L od L) none L)))),102⟩,[.bool,(.arr (.st 5)),(.st 20),(.lst (.st 21)),.en,(.st 5),(.mp (.st 23) (.int .i64)),(.st 2),(.st 21)]⟩
def q8k:Way S:=⟨.ret,⟨v16,(N (N (N L o7 (N (N (N L (some (.cells 159 [(.ptr 1 0)])) L) none L) none L)) o3 o15) oo (N L oj (N L none (N (N L od L) none L)))),102⟩,[.bool,(.arr (.st 5)),(.st 20),(.lst (.st 21)),.en,(.st 5),(.mp (.st 23) (.int .i64)),(.st 2),(.st 21)]⟩
def q8l:Way S:=⟨(.exit 2),⟨(N L none (N v1n none L)),o1m,20⟩,[(.arr (.st 5)),(.st 20),(.lst (.st 21)),.en,(.mp (.st 23) (.int .i64)),(.st 2)]⟩
def q8m:LE S:=⟨q8h,q8i,[.int,.int,(.lst (.st 21)),.int,.int,(.arr (.st 5)),(.st 20),(.lst (.st 21)),.en,(.mp (.st 23) (.int .i64)),(.st 2)],[q8j,q8k,q8l]⟩
def q8n (x:th):((Bool×(Nat→ZE)×ZJ×(List Zn)×(Nat→Nat)×ZE×t1d×Zn)⊕(Bool×(Nat→ZE)×ZJ×(List Zn)×(Nat→Nat)×ZE×t1d×Zn)⊕((Nat→ZE)×ZJ×(List Zn)×(Nat→Nat)×t1d))→t1:=Sum.elim (fun y0=>(.inl (y0.1,y0.2.1,y0.2.2.1,y0.2.2.2.1,y0.2.2.2.2.1,y0.2.2.2.2.2.1,y0.2.2.2.2.2.2.1,x.2.2.2.2.2.2.2.2.2.2,y0.2.2.2.2.2.2.2))) (Sum.elim (fun y1=>(.inr (.inl (y1.1,y1.2.1,y1.2.2.1,y1.2.2.2.1,y1.2.2.2.2.1,y1.2.2.2.2.2.1,y1.2.2.2.2.2.2.1,x.2.2.2.2.2.2.2.2.2.2,y1.2.2.2.2.2.2.2)))) (fun y2=>(.inr (.inr (y2.1,y2.2.1,y2.2.2.1,y2.2.2.2.1,y2.2.2.2.2,x.2.2.2.2.2.2.2.2.2.2)))))
noncomputable def q8o {R:Type} (x:th) (k:t1→Option R):Option R:=(X1K x.2.1 x.2.2.1 x.2.2.2.1 x.2.2.2.2.1 x.2.2.2.2.2.2.2.2.2.2 (x.1,x.2.2.2.2.2.1,x.2.2.2.2.2.2.1,x.2.2.2.2.2.2.2.1,x.2.2.2.2.2.2.2.2.1,x.2.2.2.2.2.2.2.2.2.1)).bind (Sum.elim (fun y0=>k (.inl (y0.1,y0.2.1,y0.2.2.1,y0.2.2.2.1,y0.2.2.2.2.1,y0.2.2.2.2.2.1,y0.2.2.2.2.2.2.1,x.2.2.2.2.2.2.2.2.2.2,y0.2.2.2.2.2.2.2))) (Sum.elim (fun y1=>k (.inr (.inl (y1.1,y1.2.1,y1.2.2.1,y1.2.2.2.1,y1.2.2.2.2.1,y1.2.2.2.2.2.1,y1.2.2.2.2.2.2.1,x.2.2.2.2.2.2.2.2.2.2,y1.2.2.2.2.2.2.2)))) (fun y2=>k (.inr (.inr (y2.1,y2.2.1,y2.2.2.1,y2.2.2.2.1,y2.2.2.2.2,x.2.2.2.2.2.2.2.2.2.2))))))
def q8p (x:th) (v:(Int×(Nat→ZE)×ZJ×(List Zn)×(Nat→Nat)×t1d)):th:=(v.1,x.2.1,x.2.2.1,x.2.2.2.1,x.2.2.2.2.1,v.2.1,v.2.2.1,v.2.2.2.1,v.2.2.2.2.1,v.2.2.2.2.2,x.2.2.2.2.2.2.2.2.2.2)
theorem q8q (x:th):LE.step X q8m q81 q7W q8f 12 x=Xq x.2.1 x.2.2.1 x.2.2.2.1 x.2.2.2.2.1 x.2.2.2.2.2.2.2.2.2.2 x.1 x.2.2.2.2.2.1 x.2.2.2.2.2.2.1 x.2.2.2.2.2.2.2.1 x.2.2.2.2.2.2.2.2.1 x.2.2.2.2.2.2.2.2.2.1 (fun w0 w1 w2 w3 w4 w5=>(Sum.inl (w0,x.2.1,x.2.2.1,x.2.2.2.1,x.2.2.2.2.1,w1,w2,w3,w4,w5,x.2.2.2.2.2.2.2.2.2.2))) (fun p0 p1 p2 p3 p4 p5 p6 p7=>(Sum.inr (.inl (p0,p1,p2,p3,p4,p5,p6,x.2.2.2.2.2.2.2.2.2.2,p7)))) (fun p0 p1 p2 p3 p4 p5 p6 p7=>(Sum.inr (.inr (.inl (p0,p1,p2,p3,p4,p5,p6,x.2.2.2.2.2.2.2.2.2.2,p7))))) (fun p0 p1 p2 p3 p4=>(Sum.inr (.inr (.inr (p0,p1,p2,p3,p4,x.2.2.2.2.2.2.2.2.2.2))))):=by kernel_rfl
theorem q8s {R:Type} (x:th) (k:t1→Option R) (r:R) (h:q8o x k=some r):∃ o,Z5s (LE.step X q8m q81 q7W q8f 12) x o∧k o=some r:=by
 obtain ⟨o,h1,h2⟩:=Z0 h
 exact ⟨q8n x o,Zhl (st:=fun (x:th)=>Xi x.2.1 x.2.2.1 x.2.2.2.1 x.2.2.2.2.1 x.2.2.2.2.2.2.2.2.2.2) (prj:=fun x=>(x.1,x.2.2.2.2.2.1,x.2.2.2.2.2.2.1,x.2.2.2.2.2.2.2.1,x.2.2.2.2.2.2.2.2.1,x.2.2.2.2.2.2.2.2.2.1)) (emb:=q8p) (embO:=q8n) (fun x=>(q8q x).trans (by unfold Xi Xq;simp only [Zhd,Zh8,Zhe,Option.map_some,Option.map_none];rfl)) (fun _ _=>rfl) (fun _ _=>rfl) (fun _ _ _=>rfl) (fun _ _ _=>rfl) (fun _=>rfl) (Z1S.1 h1),by
  first
  | exact h2
  | (rcases o with o|o|o<;>exact h2)⟩
noncomputable def q8t {R:Type}:Z27 S R:=LE.ls X q8m q8o q8f
theorem q8u {R:Type}:Z3J X (q8t (R:=R)):=Zhq xok q82 (e:=q8m) q7X q8g q8s q8g
theorem q8v (x:(Int×Zu×Int×ZJ×(List Zn)×(Nat→Nat)×t1d)):PE.step X q80 q81 q7W q8t 12 x=Wq x.1 x.2.1 x.2.2.1 x.2.2.2.1 x.2.2.2.2.1 x.2.2.2.2.2.1 x.2.2.2.2.2.2:=by kernel_rfl
theorem q8w:ZaX X q80 Xm:=Zhr (ZgU xok q82 q7X q8u 12) fun x _ h=>((q8v x).trans (X3Z x).symm).trans h
noncomputable def q8x {R:Type}:Prs S R:=PE.ps X q80 (fun x q=>(Xm x).bind q) q7W
theorem q8y {R:Type}:Z7R X (q8x (R:=R)):=Zhi (e:=q80) q8w q7X
def q8z:StT S:=⟨(N L (some (.ptr 1 0)) L),(N (N L o3 L) oo L),2⟩
def q8A:Way S:=⟨.ret,⟨(N L (some (.rs 2 0)) L),(N (N L o3 L) oo (N L oz L)),3⟩,[(.st 20),(.lst (.st 21)),.en,(.mp (.st 23) (.int .i64)),(.lst (.st 2))]⟩
def q8B:PE S:=⟨36,1,q8z,[(.st 20),(.lst (.st 21)),.en,(.mp (.st 23) (.int .i64))],[q8A]⟩
noncomputable def q8C:List (Nat×F7 S):=[(110,q5T),(57,q37)]
theorem q8D:Z9n X q8C:=⟨q5U,q38,trivial⟩
abbrev q8E {R:Type}:Z27 S R:=Zgi
theorem q8F {R:Type}:Z3J X (q8E (R:=R)):=ZgQ X
def q8G:Key:=⟨[108,0,36],108,none,[0,0,1,0,0,1,0,0,1],2,34⟩
def q8H:StT S:=⟨(N (N (N L vM L) (some (.ptr 6 0)) L) (some (.yld 11)) (N (N L vM L) none L)),oV,35⟩
def q8I:Way S:=⟨(.exit 2),⟨v1e,oV,42⟩,[.int,(.st 20),(.lst (.st 21)),.en,(.mp (.st 23) (.int .i64)),(.lst (.st 2))]⟩
def q8J:LE S:=⟨q8G,q8H,[.int,.int,(.st 20),(.lst (.st 21)),.en,(.mp (.st 23) (.int .i64)),(.lst (.st 2))],[q8I]⟩
def q8K (x:tr):(ZJ×(List Zn)×(Nat→Nat)×t1d×(List Zu))→tw:=fun y0=>(x.1,y0.1,y0.2.1,y0.2.2.1,y0.2.2.2.1,y0.2.2.2.2)
noncomputable def q8L {R:Type} (x:tr) (k:tw→Option R):Option R:=(X26 x.1 (x.2.1,x.2.2.1,x.2.2.2.1,x.2.2.2.2.1,x.2.2.2.2.2.1,x.2.2.2.2.2.2)).bind (fun y0=>k (x.1,y0.1,y0.2.1,y0.2.2.1,y0.2.2.2.1,y0.2.2.2.2))
def q8M (x:tr) (v:tw):tr:=(x.1,v.1,v.2.1,v.2.2.1,v.2.2.2.1,v.2.2.2.2.1,v.2.2.2.2.2)
theorem q8N (x:tr):LE.step X q8J q8C q8x q8E 12 x=WF x.1 x.2.1 x.2.2.1 x.2.2.2.1 x.2.2.2.2.1 x.2.2.2.2.2.1 x.2.2.2.2.2.2 (fun w0 w1 w2 w3 w4 w5=>(Sum.inl (x.1,w0,w1,w2,w3,w4,w5))) (fun p0 p1 p2 p3 p4=>(Sum.inr (x.1,p0,p1,p2,p3,p4))):=by kernel_rfl
theorem q8P {R:Type} (x:tr) (k:tw→Option R) (r:R) (h:q8L x k=some r):∃ o,Z5s (LE.step X q8J q8C q8x q8E 12) x o∧k o=some r:=by
 obtain ⟨o,h1,h2⟩:=Z0 h
 exact ⟨q8K x o,Zhl (st:=fun (x:tr)=>X14 x.1) (prj:=fun x=>(x.2.1,x.2.2.1,x.2.2.2.1,x.2.2.2.2.1,x.2.2.2.2.2.1,x.2.2.2.2.2.2)) (emb:=q8M) (embO:=q8K) (fun x=>(q8N x).trans (by unfold X14 WF;simp only [Zhd,Zh8,Zhe,Option.map_some,Option.map_none];rfl)) (fun _ _=>rfl) (fun _ _=>rfl) (fun _ _ _=>rfl) (fun _ _ _=>rfl) (fun _=>rfl) (Z1S.1 h1),by
  first
  | exact h2
  | (rcases o with o<;>exact h2)⟩
noncomputable def q8Q {R:Type}:Z27 S R:=LE.ls X q8J q8L q8E
theorem q8R {R:Type}:Z3J X (q8Q (R:=R)):=Zhq xok q8D (e:=q8J) q8y q8F q8P q8F
def q8S:Key:=⟨[108,0,36],108,none,[0,0,1],0,19⟩
def q8T:StT S:=⟨v1e,o13,20⟩
def q8U:Way S:=⟨(.exit 0),⟨L,o13,27⟩,[(.lst (.st 2)),(.st 20),(.lst (.st 21)),.en,(.mp (.st 23) (.int .i64))]⟩
def q8V:LE S:=⟨q8S,q8T,[.int,(.lst (.st 2)),(.st 20),(.lst (.st 21)),.en,(.mp (.st 23) (.int .i64))],[q8U]⟩
def q8W (x:tx):tB→tB:=fun y0=>(y0.1,y0.2.1,y0.2.2.1,y0.2.2.2.1,y0.2.2.2.2)
noncomputable def q8X {R:Type} (x:tx) (k:tB→Option R):Option R:=(X25 (x.1,x.2.1,x.2.2.1,x.2.2.2.1,x.2.2.2.2.1,x.2.2.2.2.2)).bind (fun y0=>k (y0.1,y0.2.1,y0.2.2.1,y0.2.2.2.1,y0.2.2.2.2))
def q8Y (x:tx) (v:tx):tx:=(v.1,v.2.1,v.2.2.1,v.2.2.2.1,v.2.2.2.2.1,v.2.2.2.2.2)
theorem q8Z (x:tx):LE.step X q8V q8C q8x q8Q 12 x=WE x.1 x.2.1 x.2.2.1 x.2.2.2.1 x.2.2.2.2.1 x.2.2.2.2.2 (fun w0 w1 w2 w3 w4 w5=>(Sum.inl (w0,w1,w2,w3,w4,w5))) (fun p0 p1 p2 p3 p4=>(Sum.inr (p0,p1,p2,p3,p4))):=by kernel_rfl
theorem q91 {R:Type} (x:tx) (k:tB→Option R) (r:R) (h:q8X x k=some r):∃ o,Z5s (LE.step X q8V q8C q8x q8Q 12) x o∧k o=some r:=by
 obtain ⟨o,h1,h2⟩:=Z0 h
 exact ⟨q8W x o,Zhl (st:=fun (x:tx)=>X13) (prj:=fun x=>(x.1,x.2.1,x.2.2.1,x.2.2.2.1,x.2.2.2.2.1,x.2.2.2.2.2)) (emb:=q8Y) (embO:=q8W) (fun x=>(q8Z x).trans (by unfold X13 WE;simp only [Zhd,Zh8,Zhe,Option.map_some,Option.map_none];rfl)) (fun _ _=>rfl) (fun _ _=>rfl) (fun _ _ _=>rfl) (fun _ _ _=>rfl) (fun _=>rfl) (Z1S.1 h1),by
  first
  | exact h2
  | (rcases o with o<;>exact h2)⟩
noncomputable def q92 {R:Type}:Z27 S R:=LE.ls X q8V q8X q8Q
theorem q93 {R:Type}:Z3J X (q92 (R:=R)):=Zhq xok q8D (e:=q8V) q8y q8R q91 q8R
theorem q94 (x:tK):PE.step X q8B q8C q8x q92 12 x=W8 x.1 x.2.1 x.2.2.1 x.2.2.2:=by kernel_rfl
theorem q95:ZaX X q8B X2q:=Zhr (ZgU xok q8D q8y q93 12) fun x _ h=>((q94 x).trans (X4S x).symm).trans h
noncomputable def q96 {R:Type}:Prs S R:=PE.ps X q8B (fun x q=>(X2q x).bind q) q8x
theorem q97 {R:Type}:Z7R X (q96 (R:=R)):=Zhi (e:=q8B) q95 q8y
noncomputable def q98:List (Nat×F7 S):=[]
theorem q99:Z9n X (q98):=trivial
abbrev q9a {R:Type}:Z27 S R:=Zgi
theorem q9b {R:Type}:Z3J X (q9a (R:=R)):=ZgQ X
theorem q9c (x0:Int) (x1:Int) (x2:Int):Zhs X q98 [(.int .i64),(.int .i64),(.int .i64)] [.bool] q96 q9a 12 106 (x0,x1,x2,())=X1D x0 x1 x2:=by kernel_rfl
noncomputable def q9d:F7 S:=⟨[(.int .i64),(.int .i64),(.int .i64)],[.bool],fun xs=>X1D xs.1 xs.2.1 xs.2.2.1⟩
theorem q9e:Z7Q X 106 q9d:=Zho (Zhn xok q99 q97 q9b 12 106) fun xs _ h=>(q9c xs.1 xs.2.1 xs.2.2.1).trans h
noncomputable def q9f:List (Nat×F7 S):=[(106,q9d)]
theorem q9g:Z9n X (q9f):=⟨q9e,trivial⟩
abbrev q9h {R:Type}:Z27 S R:=Zgi
theorem q9i {R:Type}:Z3J X (q9h (R:=R)):=ZgQ X
def q9j:Key:=⟨[100],100,none,[0,0,1,0,1,1],0,6⟩
def q9k:StT S:=⟨(N (N (N L vM L) none L) vE L),L,6⟩
def q9l:Way S:=⟨.ret,⟨(N L none (N L vL L)),L,43⟩,[.bool]⟩
def q9m:Way S:=⟨(.exit 0),⟨L,L,10⟩,[]⟩
def q9n:LE S:=⟨q9j,q9k,[.int,.str],[q9l,q9m]⟩
def q9o (x:(Int×ByteArray)):(Bool⊕Unit)→(Bool⊕Unit):=Sum.elim (fun y0=>(.inl y0)) (fun y1=>(.inr ()))
noncomputable def q9p {R:Type} (x:(Int×ByteArray)) (k:(Bool⊕Unit)→Option R):Option R:=(X4m x.2 x.1).bind (Sum.elim (fun y0=>k (.inl y0)) (fun y1=>k (.inr ())))
def q9q (x:(Int×ByteArray)) (v:Int):(Int×ByteArray):=(v,x.2)
theorem q9r (x:(Int×ByteArray)):LE.step X q9n q9f q96 q9h 12 x=WS x.2 x.1 (fun w0=>(Sum.inl (w0,x.2))) (fun p0=>(Sum.inr (.inl p0))) (Sum.inr (.inr ())):=by kernel_rfl
theorem q9t {R:Type} (x:(Int×ByteArray)) (k:(Bool⊕Unit)→Option R) (r:R) (h:q9p x k=some r):∃ o,Z5s (LE.step X q9n q9f q96 q9h 12) x o∧k o=some r:=by
 obtain ⟨o,h1,h2⟩:=Z0 h
 exact ⟨q9o x o,Zhl (st:=fun (x:(Int×ByteArray))=>WJ x.2) (prj:=fun x=>x.1) (emb:=q9q) (embO:=q9o) (fun x=>(q9r x).trans (by unfold WJ WS;simp only [Zhd,Zh8,Zhe,Option.map_some,Option.map_none];rfl)) (fun _ _=>rfl) (fun _ _=>rfl) (fun _ _ _=>rfl) (fun _ _ _=>rfl) (fun _=>rfl) (Z1S.1 h1),by
  first
  | exact h2
  | (rcases o with o|o<;>exact h2)⟩
noncomputable def q9u {R:Type}:Z27 S R:=LE.ls X q9n q9p q9h
theorem q9v {R:Type}:Z3J X (q9u (R:=R)):=Zhq xok q9g (e:=q9n) q97 q9i q9t q9i
theorem q9w (x0:ByteArray):Zhs X q9f [.str] [.bool] q96 q9u 12 100 (x0,())=X4a x0:=by kernel_rfl
noncomputable def q9x:F7 S:=⟨[.str],[.bool],fun xs=>X4a xs.1⟩
theorem q9y:Z7Q X 100 q9x:=Zho (Zhn xok q9g q97 q9v 12 100) fun xs _ h=>(q9w xs.1).trans h
noncomputable def q9z:List (Nat×F7 S):=[]
theorem q9A:Z9n X (q9z):=trivial
abbrev q9B {R:Type}:Z27 S R:=Zgi
theorem q9C {R:Type}:Z3J X (q9B (R:=R)):=ZgQ X
def q9D:Key:=⟨[101],101,none,[0,0,1,0,1],0,2⟩
def q9E:StT S:=⟨(N (N L vE (N L vM L)) (some (.sl .str [])) L),L,2⟩
def q9F:Way S:=⟨.ret,⟨v1q,L,14⟩,[.int]⟩
def q9G:Way S:=⟨(.exit 0),⟨L,L,6⟩,[]⟩
def q9H:LE S:=⟨q9D,q9E,[.str,.int,(.lst .str)],[q9F,q9G]⟩
def q9I (x:tW):(Int⊕Unit)→(Int⊕Unit):=Sum.elim (fun y0=>(.inl y0)) (fun y1=>(.inr ()))
noncomputable def q9J {R:Type} (x:tW) (k:(Int⊕Unit)→Option R):Option R:=(X2H x.1 x.2.2 x.2.1).bind (Sum.elim (fun y0=>k (.inl y0)) (fun y1=>k (.inr ())))
def q9K (x:tW) (v:Int):tW:=(x.1,v,x.2.2)
theorem q9L (x:tW):LE.step X q9H q9z q96 q9B 12 x=Ww x.1 x.2.2 x.2.1 (fun w0=>(Sum.inl (x.1,w0,x.2.2))) (fun p0=>(Sum.inr (.inl p0))) (Sum.inr (.inr ())):=by kernel_rfl
theorem q9N {R:Type} (x:tW) (k:(Int⊕Unit)→Option R) (r:R) (h:q9J x k=some r):∃ o,Z5s (LE.step X q9H q9z q96 q9B 12) x o∧k o=some r:=by
 obtain ⟨o,h1,h2⟩:=Z0 h
 exact ⟨q9I x o,Zhl (st:=fun (x:tW)=>XA x.1 x.2.2) (prj:=fun x=>x.2.1) (emb:=q9K) (embO:=q9I) (fun x=>(q9L x).trans (by unfold XA Ww;simp only [Zhd,Zh8,Zhe,Option.map_some,Option.map_none];rfl)) (fun _ _=>rfl) (fun _ _=>rfl) (fun _ _ _=>rfl) (fun _ _ _=>rfl) (fun _=>rfl) (Z1S.1 h1),by
  first
  | exact h2
  | (rcases o with o|o<;>exact h2)⟩
noncomputable def q9O {R:Type}:Z27 S R:=LE.ls X q9H q9J q9B
theorem q9P {R:Type}:Z3J X (q9O (R:=R)):=Zhq xok q9A (e:=q9H) q97 q9C q9N q9C
theorem q9Q (x0:List ByteArray) (x1:ByteArray):Zhs X q9z [(.sl .str),.str] [(.int .i64)] q96 q9O 12 101 (x0,x1,())=X4n x0 x1:=by kernel_rfl
noncomputable def q9R:F7 S:=⟨[(.sl .str),.str],[(.int .i64)],fun xs=>X4n xs.1 xs.2.1⟩
theorem q9S:Z7Q X 101 q9R:=Zho (Zhn xok q9A q97 q9P 12 101) fun xs _ h=>(q9Q xs.1 xs.2.1).trans h
noncomputable def q9T:List (Nat×F7 S):=[(100,q9x),(101,q9R)]
theorem q9U:Z9n X (q9T):=⟨q9y,q9S,trivial⟩
abbrev q9V {R:Type}:Z27 S R:=Zgi
theorem q9W {R:Type}:Z3J X (q9V (R:=R)):=ZgQ X
theorem q9X (x0:ByteArray) (x1:List ByteArray):Zhs X q9T [.str,(.sl .str)] [(.int .i64)] q96 q9V 12 70 (x0,x1,())=X28 x0 x1:=by kernel_rfl
noncomputable def q9Y:F7 S:=⟨[.str,(.sl .str)],[(.int .i64)],fun xs=>X28 xs.1 xs.2.1⟩
theorem q9Z:Z7Q X 70 q9Y:=Zho (Zhn xok q9U q97 q9W 12 70) fun xs _ h=>(q9X xs.1 xs.2.1).trans h
noncomputable def qa0:List (Nat×F7 S):=[(106,q9d)]
theorem qa1:Z9n X (qa0):=⟨q9e,trivial⟩
abbrev qa2 {R:Type}:Z27 S R:=Zgi
theorem qa3 {R:Type}:Z3J X (qa2 (R:=R)):=ZgQ X
theorem qa4 (x0:Zu) (x1:Int):Zhs X qa0 [(.st 2),(.int .i64)] [.bool] q96 qa2 12 76 (x0,x1,())=X1N x0 x1:=by kernel_rfl
noncomputable def qa5:F7 S:=⟨[(.st 2),(.int .i64)],[.bool],fun xs=>X1N xs.1 xs.2.1⟩
theorem qa6:Z7Q X 76 qa5:=Zho (Zhn xok qa1 q97 qa3 12 76) fun xs _ h=>(qa4 xs.1 xs.2.1).trans h
noncomputable def qa7:List (Nat×F7 S):=[(106,q9d)]
theorem qa8:Z9n X (qa7):=⟨q9e,trivial⟩
abbrev qa9 {R:Type}:Z27 S R:=Zgi
theorem qaa {R:Type}:Z3J X (qa9 (R:=R)):=ZgQ X
def qab:Key:=⟨[98],98,none,[0,0,1,0,1,1],0,6⟩
def qac:StT S:=⟨(N (N (N L vM L) none L) (some (.sl (.st 3) [])) L),L,6⟩
def qad:Way S:=⟨.ret,⟨(N L none (N L vM L)),L,27⟩,[.int]⟩
def qae:Way S:=⟨.ret,⟨(N L none (N L vM L)),L,43⟩,[.int]⟩
def qaf:Way S:=⟨(.exit 0),⟨L,L,10⟩,[]⟩
def qag:LE S:=⟨qab,qac,[.int,(.lst (.st 3))],[qad,qae,qaf]⟩
def qah (x:(Int×(List Zk))):(Int⊕Int⊕Unit)→(Int⊕Int⊕Unit):=Sum.elim (fun y0=>(.inl y0)) (Sum.elim (fun y1=>(.inr (.inl y1))) (fun y2=>(.inr (.inr ()))))
noncomputable def qai {R:Type} (x:(Int×(List Zk))) (k:(Int⊕Int⊕Unit)→Option R):Option R:=(X3L x.2 x.1).bind (Sum.elim (fun y0=>k (.inl y0)) (Sum.elim (fun y1=>k (.inr (.inl y1))) (fun y2=>k (.inr (.inr ())))))
def qaj (x:(Int×(List Zk))) (v:Int):(Int×(List Zk)):=(v,x.2)
theorem qak (x:(Int×(List Zk))):LE.step X qag qa7 q96 qa9 12 x=W2 x.2 x.1 (fun w0=>(Sum.inl (w0,x.2))) (fun p0=>(Sum.inr (.inl p0))) (fun p0=>(Sum.inr (.inr (.inl p0)))) (Sum.inr (.inr (.inr ()))):=by kernel_rfl
theorem qam {R:Type} (x:(Int×(List Zk))) (k:(Int⊕Int⊕Unit)→Option R) (r:R) (h:qai x k=some r):∃ o,Z5s (LE.step X qag qa7 q96 qa9 12) x o∧k o=some r:=by
 obtain ⟨o,h1,h2⟩:=Z0 h
 exact ⟨qah x o,Zhl (st:=fun (x:(Int×(List Zk)))=>XR x.2) (prj:=fun x=>x.1) (emb:=qaj) (embO:=qah) (fun x=>(qak x).trans (by unfold XR W2;simp only [Zhd,Zh8,Zhe,Option.map_some,Option.map_none];rfl)) (fun _ _=>rfl) (fun _ _=>rfl) (fun _ _ _=>rfl) (fun _ _ _=>rfl) (fun _=>rfl) (Z1S.1 h1),by
  first
  | exact h2
  | (rcases o with o|o|o<;>exact h2)⟩
noncomputable def qan {R:Type}:Z27 S R:=LE.ls X qag qai qa9
theorem qao {R:Type}:Z3J X (qan (R:=R)):=Zhq xok qa8 (e:=qag) q97 qaa qam qaa
theorem qap (x0:List Zk):Zhs X qa7 [(.sl (.st 3))] [(.int .i64)] q96 qan 12 98 (x0,())=X2j x0:=by kernel_rfl
noncomputable def qaq:F7 S:=⟨[(.sl (.st 3))],[(.int .i64)],fun xs=>X2j xs.1⟩
theorem qar:Z7Q X 98 qaq:=Zho (Zhn xok qa8 q97 qao 12 98) fun xs _ h=>(qap xs.1).trans h
noncomputable def qas:List (Nat×F7 S):=[(106,q9d)]
theorem qat:Z9n X (qas):=⟨q9e,trivial⟩
abbrev qau {R:Type}:Z27 S R:=Zgi
theorem qav {R:Type}:Z3J X (qau (R:=R)):=ZgQ X
def qaw:Key:=⟨[102],102,none,[0,0,1,0,1,1],0,3⟩
def qax:StT S:=⟨(N (N (N (N L vM L) none L) vM L) (some (.sl (.st 5) [])) (N (N (N L vM L) none L) vM L)),L,3⟩
def qay:Way S:=⟨.ret,⟨(N L none (N L none (N L vM L))),L,28⟩,[.int]⟩
def qaz:Way S:=⟨(.exit 0),⟨(N v1p none L),L,7⟩,[.int]⟩
def qaA:LE S:=⟨qaw,qax,[.int,.int,(.lst (.st 5)),.int,.int],[qay,qaz]⟩
def qaB (x:tU):(Int⊕Int)→(Int⊕Int):=Sum.elim (fun y0=>(.inl y0)) (fun y1=>(.inr y1))
noncomputable def qaC {R:Type} (x:tU) (k:(Int⊕Int)→Option R):Option R:=(X3J x.2.1 x.2.2.1 x.2.2.2.2 (x.1,x.2.2.2.1)).bind (Sum.elim (fun y0=>k (.inl y0)) (fun y1=>k (.inr y1)))
def qaD (x:tU) (v:(Int×Int)):tU:=(v.1,x.2.1,x.2.2.1,v.2,x.2.2.2.2)
theorem qaE (x:tU):LE.step X qaA qas q96 qau 12 x=W0 x.2.1 x.2.2.1 x.2.2.2.2 x.1 x.2.2.2.1 (fun w0 w1=>(Sum.inl (w0,x.2.1,x.2.2.1,w1,x.2.2.2.2))) (fun p0=>(Sum.inr (.inl p0))) (fun p0=>(Sum.inr (.inr p0))):=by kernel_rfl
theorem qaG {R:Type} (x:tU) (k:(Int⊕Int)→Option R) (r:R) (h:qaC x k=some r):∃ o,Z5s (LE.step X qaA qas q96 qau 12) x o∧k o=some r:=by
 obtain ⟨o,h1,h2⟩:=Z0 h
 exact ⟨qaB x o,Zhl (st:=fun (x:tU)=>XP x.2.1 x.2.2.1 x.2.2.2.2) (prj:=fun x=>(x.1,x.2.2.2.1)) (emb:=qaD) (embO:=qaB) (fun x=>(qaE x).trans (by unfold XP W0;simp only [Zhd,Zh8,Zhe,Option.map_some,Option.map_none];rfl)) (fun _ _=>rfl) (fun _ _=>rfl) (fun _ _ _=>rfl) (fun _ _ _=>rfl) (fun _=>rfl) (Z1S.1 h1),by
  first
  | exact h2
  | (rcases o with o|o<;>exact h2)⟩
noncomputable def qaH {R:Type}:Z27 S R:=LE.ls X qaA qaC qau
theorem qaI {R:Type}:Z3J X (qaH (R:=R)):=Zhq xok qat (e:=qaA) q97 qav qaG qav
theorem qaJ (x0:List ZE) (x1:Int) (x2:Int):Zhs X qas [(.sl (.st 5)),(.int .i64),(.int .i64)] [(.int .i64)] q96 qaH 12 102 (x0,x1,x2,())=X1M x0 x1 x2:=by kernel_rfl
noncomputable def qaK:F7 S:=⟨[(.sl (.st 5)),(.int .i64),(.int .i64)],[(.int .i64)],fun xs=>X1M xs.1 xs.2.1 xs.2.2.1⟩
theorem qaL:Z7Q X 102 qaK:=Zho (Zhn xok qat q97 qaI 12 102) fun xs _ h=>(qaJ xs.1 xs.2.1 xs.2.2.1).trans h
noncomputable def qaM:List (Nat×F7 S):=[(102,qaK)]
theorem qaN:Z9n X (qaM):=⟨qaL,trivial⟩
abbrev qaO {R:Type}:Z27 S R:=Zgi
theorem qaP {R:Type}:Z3J X (qaO (R:=R)):=ZgQ X
theorem qaQ (x0:ZB) (x1:Int) (x2:Int):Zhs X qaM [(.st 6),(.int .i64),(.int .i64)] [(.int .i64)] q96 qaO 12 123 (x0,x1,x2,())=X4G x0 x1 x2:=by kernel_rfl
noncomputable def qaR:F7 S:=⟨[(.st 6),(.int .i64),(.int .i64)],[(.int .i64)],fun xs=>X4G xs.1 xs.2.1 xs.2.2.1⟩
theorem qaS:Z7Q X 123 qaR:=Zho (Zhn xok qaN q97 qaP 12 123) fun xs _ h=>(qaQ xs.1 xs.2.1 xs.2.2.1).trans h
noncomputable def qaT:List (Nat×F7 S):=[]
theorem qaU:Z9n X (qaT):=trivial
abbrev qaV {R:Type}:Z27 S R:=Zgi
theorem qaW {R:Type}:Z3J X (qaV (R:=R)):=ZgQ X
theorem qaX (x0:Zu) (x1:Zu):Zhs X qaT [(.st 2),(.st 2)] [(.st 2)] q96 qaV 12 88 (x0,x1,())=X6E x0 x1:=by kernel_rfl
noncomputable def qaY:F7 S:=⟨[(.st 2),(.st 2)],[(.st 2)],fun xs=>X6E xs.1 xs.2.1⟩
theorem qaZ:Z7Q X 88 qaY:=Zho (Zhn xok qaU q97 qaW 12 88) fun xs _ h=>(qaX xs.1 xs.2.1).trans h
noncomputable def qb0:List (Nat×F7 S):=[]
theorem qb1:Z9n X (qb0):=trivial
abbrev qb2 {R:Type}:Z27 S R:=Zgi
theorem qb3 {R:Type}:Z3J X (qb2 (R:=R)):=ZgQ X
theorem qb4 (x0:Zu) (x1:Zu):Zhs X qb0 [(.st 2),(.st 2)] [(.int .i64)] q96 qb2 12 112 (x0,x1,())=X6D x0 x1:=by kernel_rfl
noncomputable def qb5:F7 S:=⟨[(.st 2),(.st 2)],[(.int .i64)],fun xs=>X6D xs.1 xs.2.1⟩
theorem qb6:Z7Q X 112 qb5:=Zho (Zhn xok qb1 q97 qb3 12 112) fun xs _ h=>(qb4 xs.1 xs.2.1).trans h
noncomputable def qb7:List (Nat×F7 S):=[(88,qaY),(112,qb5)]
theorem qb8:Z9n X (qb7):=⟨qaZ,qb6,trivial⟩
abbrev qb9 {R:Type}:Z27 S R:=Zgi
theorem qba {R:Type}:Z3J X (qb9 (R:=R)):=ZgQ X
def qbb:Key:=⟨[124],124,none,[0,0,1,1,0,0,1,0,0,1,0,1],2,13⟩
def qbc:StT S:=⟨(N (N (N L vM L) none (N L vM L)) vK (N (N L vM L) none L)),L,13⟩
def qbd:Way S:=⟨.ret,⟨(N L none (N L vL L)),L,48⟩,[.bool]⟩
def qbe:Way S:=⟨(.exit 2),⟨(N (N (N L vM L) none L) vK L),L,17⟩,[.int,(.lst (.st 2))]⟩
def qbf:LE S:=⟨qbb,qbc,[.int,.int,(.lst (.st 2)),.int],[qbd,qbe]⟩
def qbg (x:t15):(Bool⊕Unit)→(Bool⊕(Int×(List Zu))):=Sum.elim (fun y0=>(.inl y0)) (fun y1=>(.inr (x.1,x.2.2.1)))
noncomputable def qbh {R:Type} (x:t15) (k:(Bool⊕(Int×(List Zu)))→Option R):Option R:=(X1O x.1 x.2.2.1 x.2.2.2 x.2.1).bind (Sum.elim (fun y0=>k (.inl y0)) (fun y1=>k (.inr (x.1,x.2.2.1))))
def qbi (x:t15) (v:Int):t15:=(x.1,v,x.2.2.1,x.2.2.2)
theorem qbj (x:t15):LE.step X qbf qb7 q96 qb9 12 x=Wz x.1 x.2.2.1 x.2.2.2 x.2.1 (fun w0=>(Sum.inl (x.1,w0,x.2.2.1,x.2.2.2))) (fun p0=>(Sum.inr (.inl p0))) (Sum.inr (.inr (x.1,x.2.2.1))):=by kernel_rfl
theorem qbl {R:Type} (x:t15) (k:(Bool⊕(Int×(List Zu)))→Option R) (r:R) (h:qbh x k=some r):∃ o,Z5s (LE.step X qbf qb7 q96 qb9 12) x o∧k o=some r:=by
 obtain ⟨o,h1,h2⟩:=Z0 h
 exact ⟨qbg x o,Zhl (st:=fun (x:t15)=>Wi x.1 x.2.2.1 x.2.2.2) (prj:=fun x=>x.2.1) (emb:=qbi) (embO:=qbg) (fun x=>(qbj x).trans (by unfold Wi Wz;simp only [Zhd,Zh8,Zhe,Option.map_some,Option.map_none];rfl)) (fun _ _=>rfl) (fun _ _=>rfl) (fun _ _ _=>rfl) (fun _ _ _=>rfl) (fun _=>rfl) (Z1S.1 h1),by
  first
  | exact h2
  | (rcases o with o|o<;>exact h2)⟩
noncomputable def qbm {R:Type}:Z27 S R:=LE.ls X qbf qbh qb9
theorem qbn {R:Type}:Z3J X (qbm (R:=R)):=Zhq xok qb8 (e:=qbf) q97 qba qbl qba
def qbo:Key:=⟨[124],124,none,[0,0,1,0,1],0,2⟩
def qbp:StT S:=⟨(N (N (N L vM L) none L) vK L),L,2⟩
def qbq:Way S:=⟨.ret,⟨(N L none (N L vL L)),L,48⟩,[.bool]⟩
def qbr:Way S:=⟨(.exit 0),⟨L,L,6⟩,[]⟩
def qbs:LE S:=⟨qbo,qbp,[.int,(.lst (.st 2))],[qbq,qbr]⟩
def qbt (x:(Int×(List Zu))):(Bool⊕Unit)→(Bool⊕Unit):=Sum.elim (fun y0=>(.inl y0)) (fun y1=>(.inr ()))
noncomputable def qbu {R:Type} (x:(Int×(List Zu))) (k:(Bool⊕Unit)→Option R):Option R:=(X4b x.2 x.1).bind (Sum.elim (fun y0=>k (.inl y0)) (fun y1=>k (.inr ())))
def qbv (x:(Int×(List Zu))) (v:Int):(Int×(List Zu)):=(v,x.2)
theorem qbw (x:(Int×(List Zu))):LE.step X qbs qb7 q96 qbm 12 x=Wy x.2 x.1 (fun w0=>(Sum.inl (w0,x.2))) (fun p0=>(Sum.inr (.inl p0))) (Sum.inr (.inr ())):=by kernel_rfl
theorem qby {R:Type} (x:(Int×(List Zu))) (k:(Bool⊕Unit)→Option R) (r:R) (h:qbu x k=some r):∃ o,Z5s (LE.step X qbs qb7 q96 qbm 12) x o∧k o=some r:=by
 obtain ⟨o,h1,h2⟩:=Z0 h
 exact ⟨qbt x o,Zhl (st:=fun (x:(Int×(List Zu)))=>Wh x.2) (prj:=fun x=>x.1) (emb:=qbv) (embO:=qbt) (fun x=>(qbw x).trans (by unfold Wh Wy;simp only [Zhd,Zh8,Zhe,Option.map_some,Option.map_none];rfl)) (fun _ _=>rfl) (fun _ _=>rfl) (fun _ _ _=>rfl) (fun _ _ _=>rfl) (fun _=>rfl) (Z1S.1 h1),by
  first
  | exact h2
  | (rcases o with o|o<;>exact h2)⟩
noncomputable def qbz {R:Type}:Z27 S R:=LE.ls X qbs qbu qbm
theorem qbA {R:Type}:Z3J X (qbz (R:=R)):=Zhq xok qb8 (e:=qbs) q97 qbn qby qbn
theorem qbB (x0:List Zu):Zhs X qb7 [(.sl (.st 2))] [.bool] q96 qbz 12 124 (x0,())=X3x x0:=by kernel_rfl
noncomputable def qbC:F7 S:=⟨[(.sl (.st 2))],[.bool],fun xs=>X3x xs.1⟩
theorem qbD:Z7Q X 124 qbC:=Zho (Zhn xok qb8 q97 qbA 12 124) fun xs _ h=>(qbB xs.1).trans h
noncomputable def qbE:List (Nat×F7 S):=[(106,q9d),(76,qa5),(123,qaR),(124,qbC)]
theorem qbF:Z9n X (qbE):=⟨q9e,qa6,qaS,qbD,trivial⟩
abbrev qbG {R:Type}:Z27 S R:=Zgi
theorem qbH {R:Type}:Z3J X (qbG (R:=R)):=ZgQ X
def qbI:Key:=⟨[99],99,none,[0,0,1,0,1,1],0,8⟩
def qbJ:StT S:=⟨(N (N (N L vM L) (some (.ptr 0 0)) L) none L),(N L oh L),8⟩
def qbK:Way S:=⟨.ret,⟨(N L none (N L vM L)),(N L oh L),21⟩,[.int,(.st 7)]⟩
def qbL:Way S:=⟨(.exit 0),⟨(N (N L (some (.ptr 0 0)) L) none L),(N L oh L),13⟩,[(.st 7)]⟩
def qbM:LE S:=⟨qbI,qbJ,[.int,(.st 7)],[qbK,qbL]⟩
def qbN (x:(Int×CtSand)):(Int⊕Unit)→((Int×CtSand)⊕CtSand):=Sum.elim (fun y0=>(.inl (y0,x.2))) (fun y1=>(.inr x.2))
noncomputable def qbO {R:Type} (x:(Int×CtSand)) (k:((Int×CtSand)⊕CtSand)→Option R):Option R:=(X3c x.2 x.1).bind (Sum.elim (fun y0=>k (.inl (y0,x.2))) (fun y1=>k (.inr x.2)))
def qbP (x:(Int×CtSand)) (v:Int):(Int×CtSand):=(v,x.2)
theorem qbQ (x:(Int×CtSand)):LE.step X qbM qbE q96 qbG 12 x=WT x.2 x.1 (fun w0=>(Sum.inl (w0,x.2))) (fun p0=>(Sum.inr (.inl (p0,x.2)))) (Sum.inr (.inr x.2)):=by kernel_rfl
theorem qbS {R:Type} (x:(Int×CtSand)) (k:((Int×CtSand)⊕CtSand)→Option R) (r:R) (h:qbO x k=some r):∃ o,Z5s (LE.step X qbM qbE q96 qbG 12) x o∧k o=some r:=by
 obtain ⟨o,h1,h2⟩:=Z0 h
 exact ⟨qbN x o,Zhl (st:=fun (x:(Int×CtSand))=>XS x.2) (prj:=fun x=>x.1) (emb:=qbP) (embO:=qbN) (fun x=>(qbQ x).trans (by unfold XS WT;simp only [Zhd,Zh8,Zhe,Option.map_some,Option.map_none];rfl)) (fun _ _=>rfl) (fun _ _=>rfl) (fun _ _ _=>rfl) (fun _ _ _=>rfl) (fun _=>rfl) (Z1S.1 h1),by
  first
  | exact h2
  | (rcases o with o|o<;>exact h2)⟩
noncomputable def qbT {R:Type}:Z27 S R:=LE.ls X qbM qbO qbG
theorem qbU {R:Type}:Z3J X (qbT (R:=R)):=Zhq xok qbF (e:=qbM) q97 qbH qbS qbH
theorem qbV (x0:CtSand):Zhs X qbE [(.st 7)] [(.int .i64)] q96 qbT 12 99 (x0,())=X4c x0:=by kernel_rfl
noncomputable def qbW:F7 S:=⟨[(.st 7)],[(.int .i64)],fun xs=>X4c xs.1⟩
theorem qbX:Z7Q X 99 qbW:=Zho (Zhn xok qbF q97 qbU 12 99) fun xs _ h=>(qbV xs.1).trans h
noncomputable def qbY:List (Nat×F7 S):=[(70,q9Y),(76,qa5),(98,qaq),(99,qbW)]
theorem qbZ:Z9n X (qbY):=⟨q9Z,qa6,qar,qbX,trivial⟩
abbrev qc0 {R:Type}:Z27 S R:=Zgi
theorem qc1 {R:Type}:Z3J X (qc0 (R:=R)):=ZgQ X
def qc2:Key:=⟨[68],68,none,[0,0,1,0,1,1,1],0,10⟩
def qc3:StT S:=⟨(N (N L (some (.ptr 0 0)) (N L (some (.rs 10 0)) L)) none (N L none (N L vM L))),(N L ok o1v),11⟩
def qc4:Way S:=⟨.ret,⟨v1j,oU,52⟩,[.int,.int,.int,(.lst .str),(.st 4),(.st 8),(.lst .str)]⟩
def qc5:Way S:=⟨.ret,⟨v1j,oU,55⟩,[.int,.int,.int,(.lst .str),(.st 4),(.st 8),(.lst .str)]⟩
def qc6:Way S:=⟨.ret,⟨v1j,oU,51⟩,[.int,.int,.int,(.lst .str),(.st 4),(.st 8),(.lst .str)]⟩
def qc7:Way S:=⟨(.exit 0),⟨(N (N L (some (.ptr 0 0)) (N L (some (.rs 10 0)) L)) none L),(N L ok o1v),16⟩,[(.st 8),(.lst .str)]⟩
def qc8:LE S:=⟨qc2,qc3,[.int,(.st 8),(.lst .str)],[qc4,qc5,qc6,qc7]⟩
def qc9 (x:t10):(tL⊕tL⊕tL⊕(List ByteArray))→t2:=Sum.elim (fun y0=>(.inl (y0.1,y0.2.1,y0.2.2.1,y0.2.2.2.1,y0.2.2.2.2.1,x.2.1,y0.2.2.2.2.2))) (Sum.elim (fun y1=>(.inr (.inl (y1.1,y1.2.1,y1.2.2.1,y1.2.2.2.1,y1.2.2.2.2.1,x.2.1,y1.2.2.2.2.2)))) (Sum.elim (fun y2=>(.inr (.inr (.inl (y2.1,y2.2.1,y2.2.2.1,y2.2.2.2.1,y2.2.2.2.2.1,x.2.1,y2.2.2.2.2.2))))) (fun y3=>(.inr (.inr (.inr (x.2.1,y3)))))))
noncomputable def qca {R:Type} (x:t10) (k:t2→Option R):Option R:=(X48 x.2.1 (x.1,x.2.2)).bind (Sum.elim (fun y0=>k (.inl (y0.1,y0.2.1,y0.2.2.1,y0.2.2.2.1,y0.2.2.2.2.1,x.2.1,y0.2.2.2.2.2))) (Sum.elim (fun y1=>k (.inr (.inl (y1.1,y1.2.1,y1.2.2.1,y1.2.2.2.1,y1.2.2.2.2.1,x.2.1,y1.2.2.2.2.2)))) (Sum.elim (fun y2=>k (.inr (.inr (.inl (y2.1,y2.2.1,y2.2.2.1,y2.2.2.2.1,y2.2.2.2.2.1,x.2.1,y2.2.2.2.2.2))))) (fun y3=>k (.inr (.inr (.inr (x.2.1,y3))))))))
def qcb (x:t10) (v:(Int×(List ByteArray))):t10:=(v.1,x.2.1,v.2)
theorem qcc (x:t10):LE.step X qc8 qbY q96 qc0 12 x=Wu x.2.1 x.1 x.2.2 (fun w0 w1=>(Sum.inl (w0,x.2.1,w1))) (fun p0 p1 p2 p3 p4 p5=>(Sum.inr (.inl (p0,p1,p2,p3,p4,x.2.1,p5)))) (fun p0 p1 p2 p3 p4 p5=>(Sum.inr (.inr (.inl (p0,p1,p2,p3,p4,x.2.1,p5))))) (fun p0 p1 p2 p3 p4 p5=>(Sum.inr (.inr (.inr (.inl (p0,p1,p2,p3,p4,x.2.1,p5)))))) (fun p0=>(Sum.inr (.inr (.inr (.inr (x.2.1,p0)))))):=by kernel_rfl
theorem qce {R:Type} (x:t10) (k:t2→Option R) (r:R) (h:qca x k=some r):∃ o,Z5s (LE.step X qc8 qbY q96 qc0 12) x o∧k o=some r:=by
 obtain ⟨o,h1,h2⟩:=Z0 h
 exact ⟨qc9 x o,Zhl (st:=fun (x:t10)=>We x.2.1) (prj:=fun x=>(x.1,x.2.2)) (emb:=qcb) (embO:=qc9) (fun x=>(qcc x).trans (by unfold We Wu;simp only [Zhd,Zh8,Zhe,Option.map_some,Option.map_none];rfl)) (fun _ _=>rfl) (fun _ _=>rfl) (fun _ _ _=>rfl) (fun _ _ _=>rfl) (fun _=>rfl) (Z1S.1 h1),by
  first
  | exact h2
  | (rcases o with o|o|o|o<;>exact h2)⟩
noncomputable def qcf {R:Type}:Z27 S R:=LE.ls X qc8 qca qc0
theorem qcg {R:Type}:Z3J X (qcf (R:=R)):=Zhq xok qbZ (e:=qc8) q97 qc1 qce qc1
def qch:Key:=⟨[68],68,none,[0,0,1,0,1,1,1,1,1],2,21⟩
def qci:StT S:=⟨(N (N L (some (.ptr 0 0)) (N (N L vM L) (some (.rs 21 0)) L)) none L),(N (N L none o1v) ok L),22⟩
def qcj:Way S:=⟨.ret,⟨v1j,o12,62⟩,[.int,.int,.int,(.lst .str),(.lst .str),(.st 8)]⟩
def qck:Way S:=⟨.ret,⟨v1j,o12,55⟩,[.int,.int,.int,(.lst .str),(.lst .str),(.st 8)]⟩
def qcl:Way S:=⟨(.exit 2),⟨L,(N (N L none o1v) ok L),27⟩,[(.lst .str),(.st 8)]⟩
def qcm:LE S:=⟨qch,qci,[.int,(.lst .str),(.st 8)],[qcj,qck,qcl]⟩
def qcn (x:t11):((Int×Int×Int×(List ByteArray)×(List ByteArray))⊕(Int×Int×Int×(List ByteArray)×(List ByteArray))⊕(List ByteArray))→ta:=Sum.elim (fun y0=>(.inl (y0.1,y0.2.1,y0.2.2.1,y0.2.2.2.1,y0.2.2.2.2,x.2.2))) (Sum.elim (fun y1=>(.inr (.inl (y1.1,y1.2.1,y1.2.2.1,y1.2.2.2.1,y1.2.2.2.2,x.2.2)))) (fun y2=>(.inr (.inr (y2,x.2.2)))))
noncomputable def qco {R:Type} (x:t11) (k:ta→Option R):Option R:=(X1L x.2.2 (x.1,x.2.1)).bind (Sum.elim (fun y0=>k (.inl (y0.1,y0.2.1,y0.2.2.1,y0.2.2.2.1,y0.2.2.2.2,x.2.2))) (Sum.elim (fun y1=>k (.inr (.inl (y1.1,y1.2.1,y1.2.2.1,y1.2.2.2.1,y1.2.2.2.2,x.2.2)))) (fun y2=>k (.inr (.inr (y2,x.2.2))))))
def qcp (x:t11) (v:(Int×(List ByteArray))):t11:=(v.1,v.2,x.2.2)
theorem qcq (x:t11):LE.step X qcm qbY q96 qcf 12 x=Wv x.2.2 x.1 x.2.1 (fun w0 w1=>(Sum.inl (w0,w1,x.2.2))) (fun p0 p1 p2 p3 p4=>(Sum.inr (.inl (p0,p1,p2,p3,p4,x.2.2)))) (fun p0 p1 p2 p3 p4=>(Sum.inr (.inr (.inl (p0,p1,p2,p3,p4,x.2.2))))) (fun p0=>(Sum.inr (.inr (.inr (p0,x.2.2))))):=by kernel_rfl
theorem qcs {R:Type} (x:t11) (k:ta→Option R) (r:R) (h:qco x k=some r):∃ o,Z5s (LE.step X qcm qbY q96 qcf 12) x o∧k o=some r:=by
 obtain ⟨o,h1,h2⟩:=Z0 h
 exact ⟨qcn x o,Zhl (st:=fun (x:t11)=>Wf x.2.2) (prj:=fun x=>(x.1,x.2.1)) (emb:=qcp) (embO:=qcn) (fun x=>(qcq x).trans (by unfold Wf Wv;simp only [Zhd,Zh8,Zhe,Option.map_some,Option.map_none];rfl)) (fun _ _=>rfl) (fun _ _=>rfl) (fun _ _ _=>rfl) (fun _ _ _=>rfl) (fun _=>rfl) (Z1S.1 h1),by
  first
  | exact h2
  | (rcases o with o|o|o<;>exact h2)⟩
noncomputable def qct {R:Type}:Z27 S R:=LE.ls X qcm qco qcf
theorem qcu {R:Type}:Z3J X (qct (R:=R)):=Zhq xok qbZ (e:=qcm) q97 qcg qcs qcg
theorem qcv (x0:Zl):Zhs X qbY [(.st 8)] [(.int .i64),(.int .i64),(.int .i64)] q96 qct 12 68 (x0,())=X3v x0:=by kernel_rfl
noncomputable def qcw:F7 S:=⟨[(.st 8)],[(.int .i64),(.int .i64),(.int .i64)],fun xs=>X3v xs.1⟩
theorem qcx:Z7Q X 68 qcw:=Zho (Zhn xok qbZ q97 qcu 12 68) fun xs _ h=>(qcv xs.1).trans h
noncomputable def qcy:List (Nat×F7 S):=[]
theorem qcz:Z9n X (qcy):=trivial
abbrev qcA {R:Type}:Z27 S R:=Zgi
theorem qcB {R:Type}:Z3J X (qcA (R:=R)):=ZgQ X
theorem qcC (x0:Int) (x1:Int) (x2:Int):Zhs X qcy [(.int .i64),(.int .i64),(.int .i64)] [.bool] q96 qcA 12 69 (x0,x1,x2,())=X3e x0 x1 x2:=by kernel_rfl
noncomputable def qcD:F7 S:=⟨[(.int .i64),(.int .i64),(.int .i64)],[.bool],fun xs=>WC xs.1 xs.2.1 xs.2.2.1⟩
theorem qcE:Z7Q X 69 qcD:=Zho (Zhn xok qcz q97 qcB 12 69) fun xs _ h=>((qcC xs.1 xs.2.1 xs.2.2.1).trans (X6m xs.1 xs.2.1 xs.2.2.1).symm).trans h
noncomputable def qcF:List (Nat×F7 S):=[]
theorem qcG:Z9n X (qcF):=trivial
abbrev qcH {R:Type}:Z27 S R:=Zgi
theorem qcI {R:Type}:Z3J X (qcH (R:=R)):=ZgQ X
theorem qcJ (x0:Z5):Zhs X qcF [(.st 18)] [(.int .i64)] q96 qcH 12 72 (x0,())=X2x x0:=by kernel_rfl
noncomputable def qcK:F7 S:=⟨[(.st 18)],[(.int .i64)],fun xs=>X4J xs.1⟩
theorem qcL:Z7Q X 72 qcK:=Zho (Zhn xok qcG q97 qcI 12 72) fun xs _ h=>((qcJ xs.1).trans (X64 xs.1).symm).trans h
noncomputable def qcM:List (Nat×F7 S):=[(102,qaK)]
theorem qcN:Z9n X (qcM):=⟨qaL,trivial⟩
abbrev qcO {R:Type}:Z27 S R:=Zgi
theorem qcP {R:Type}:Z3J X (qcO (R:=R)):=ZgQ X
theorem qcQ (x0:ZE) (x1:Int) (x2:Int):Zhs X qcM [(.st 5),(.int .i64),(.int .i64)] [(.int .i64)] q96 qcO 12 71 (x0,x1,x2,())=X2Q x0 x1 x2:=by kernel_rfl
noncomputable def qcR:F7 S:=⟨[(.st 5),(.int .i64),(.int .i64)],[(.int .i64)],fun xs=>X2Q xs.1 xs.2.1 xs.2.2.1⟩
theorem qcS:Z7Q X 71 qcR:=Zho (Zhn xok qcN q97 qcP 12 71) fun xs _ h=>(qcQ xs.1 xs.2.1 xs.2.2.1).trans h
noncomputable def qcT:List (Nat×F7 S):=[(102,qaK),(71,qcR),(69,qcD)]
theorem qcU:Z9n X (qcT):=⟨qaL,qcS,qcE,trivial⟩
abbrev qcV {R:Type}:Z27 S R:=Zgi
theorem qcW {R:Type}:Z3J X (qcV (R:=R)):=ZgQ X
theorem qcX (x0:Zt):Zhs X qcT [(.st 19)] [(.int .i64)] q96 qcV 12 73 (x0,())=X2a x0:=by kernel_rfl
noncomputable def qcY:F7 S:=⟨[(.st 19)],[(.int .i64)],fun xs=>X4W xs.1⟩
theorem qcZ:Z7Q X 73 qcY:=Zho (Zhn xok qcU q97 qcW 12 73) fun xs _ h=>((qcX xs.1).trans (X5I xs.1).symm).trans h
noncomputable def qd0:List (Nat×F7 S):=[(68,qcw),(69,qcD),(70,q9Y),(72,qcK),(71,qcR),(73,qcY)]
theorem qd1:Z9n X (qd0):=⟨qcx,qcE,q9Z,qcL,qcS,qcZ,trivial⟩
abbrev qd2 {R:Type}:Z27 S R:=Zgi
theorem qd3 {R:Type}:Z3J X (qd2 (R:=R)):=ZgQ X
def qd4:Key:=⟨[30],30,none,[0,0,1,0,1,1,1,1,1,1],0,39⟩
def qd5:StT S:=⟨(N (N L (some (.ptr 0 0)) (N (N L vM L) none L)) none (N (N (N L (some (.rs 39 0)) L) none L) none L)),o1b,40⟩
def qd6:Way S:=⟨.ret,⟨v1j,oS,81⟩,[.int,.int,.int,(.lst .str),(.st 20),(.lst .str),(.st 18)]⟩
def qd7:Way S:=⟨.ret,⟨v1j,oS,72⟩,[.int,.int,.int,(.lst .str),(.st 20),(.lst .str),(.st 18)]⟩
def qd8:Way S:=⟨(.exit 0),⟨(N (N L (some (.ptr 0 0)) L) none L),o1b,45⟩,[(.lst .str),(.st 20)]⟩
def qd9:LE S:=⟨qd4,qd5,[.int,(.lst .str),(.st 20)],[qd6,qd7,qd8]⟩
def qda (x:t16):((Int×Int×Int×(List ByteArray)×(List ByteArray)×Z5)⊕(Int×Int×Int×(List ByteArray)×(List ByteArray)×Z5)⊕(List ByteArray))→t8:=Sum.elim (fun y0=>(.inl (y0.1,y0.2.1,y0.2.2.1,y0.2.2.2.1,x.2.2,y0.2.2.2.2.1,y0.2.2.2.2.2))) (Sum.elim (fun y1=>(.inr (.inl (y1.1,y1.2.1,y1.2.2.1,y1.2.2.2.1,x.2.2,y1.2.2.2.2.1,y1.2.2.2.2.2)))) (fun y2=>(.inr (.inr (y2,x.2.2)))))
noncomputable def qdb {R:Type} (x:t16) (k:t8→Option R):Option R:=(X2J x.2.2 (x.1,x.2.1)).bind (Sum.elim (fun y0=>k (.inl (y0.1,y0.2.1,y0.2.2.1,y0.2.2.2.1,x.2.2,y0.2.2.2.2.1,y0.2.2.2.2.2))) (Sum.elim (fun y1=>k (.inr (.inl (y1.1,y1.2.1,y1.2.2.1,y1.2.2.2.1,x.2.2,y1.2.2.2.2.1,y1.2.2.2.2.2)))) (fun y2=>k (.inr (.inr (y2,x.2.2))))))
def qdc (x:t16) (v:(Int×(List ByteArray))):t16:=(v.1,v.2,x.2.2)
theorem qdd (x:t16):LE.step X qd9 qd0 q96 qd2 12 x=WA x.2.2 x.1 x.2.1 (fun w0 w1=>(Sum.inl (w0,w1,x.2.2))) (fun p0 p1 p2 p3 p4 p5=>(Sum.inr (.inl (p0,p1,p2,p3,x.2.2,p4,p5)))) (fun p0 p1 p2 p3 p4 p5=>(Sum.inr (.inr (.inl (p0,p1,p2,p3,x.2.2,p4,p5))))) (fun p0=>(Sum.inr (.inr (.inr (p0,x.2.2))))):=by kernel_rfl
theorem qdf {R:Type} (x:t16) (k:t8→Option R) (r:R) (h:qdb x k=some r):∃ o,Z5s (LE.step X qd9 qd0 q96 qd2 12) x o∧k o=some r:=by
 obtain ⟨o,h1,h2⟩:=Z0 h
 exact ⟨qda x o,Zhl (st:=fun (x:t16)=>Wj x.2.2) (prj:=fun x=>(x.1,x.2.1)) (emb:=qdc) (embO:=qda) (fun x=>(qdd x).trans (by unfold Wj WA;simp only [Zhd,Zh8,Zhe,Option.map_some,Option.map_none];rfl)) (fun _ _=>rfl) (fun _ _=>rfl) (fun _ _ _=>rfl) (fun _ _ _=>rfl) (fun _=>rfl) (Z1S.1 h1),by
  first
  | exact h2
  | (rcases o with o|o|o<;>exact h2)⟩
noncomputable def qdg {R:Type}:Z27 S R:=LE.ls X qd9 qdb qd2
theorem qdh {R:Type}:Z3J X (qdg (R:=R)):=Zhq xok qd1 (e:=qd9) q97 qd3 qdf qd3
def qdi:Key:=⟨[30],30,none,[0,0,1,0,1,1,1,1,1,1,1,1],2,50⟩
def qdj:StT S:=⟨(N (N (N L none (N L vM L)) (some (.ptr 0 0)) L) none L),o1b,50⟩
def qdk:Way S:=⟨.ret,⟨v1j,o1b,69⟩,[.int,.int,.int,(.lst .str),(.st 20)]⟩
def qdl:Way S:=⟨(.exit 2),⟨L,o1b,55⟩,[(.lst .str),(.st 20)]⟩
def qdm:LE S:=⟨qdi,qdj,[.int,(.lst .str),(.st 20)],[qdk,qdl]⟩
def qdn (x:t16):((Int×Int×Int)⊕Unit)→tE:=Sum.elim (fun y0=>(.inl (y0.1,y0.2.1,y0.2.2,x.2.1,x.2.2))) (fun y1=>(.inr (x.2.1,x.2.2)))
noncomputable def qdo {R:Type} (x:t16) (k:tE→Option R):Option R:=(X2K x.2.2 x.1).bind (Sum.elim (fun y0=>k (.inl (y0.1,y0.2.1,y0.2.2,x.2.1,x.2.2))) (fun y1=>k (.inr (x.2.1,x.2.2))))
def qdp (x:t16) (v:Int):t16:=(v,x.2.1,x.2.2)
theorem qdq (x:t16):LE.step X qdm qd0 q96 qdg 12 x=WB x.2.2 x.1 (fun w0=>(Sum.inl (w0,x.2.1,x.2.2))) (fun p0 p1 p2=>(Sum.inr (.inl (p0,p1,p2,x.2.1,x.2.2)))) (Sum.inr (.inr (x.2.1,x.2.2))):=by kernel_rfl
theorem qds {R:Type} (x:t16) (k:tE→Option R) (r:R) (h:qdo x k=some r):∃ o,Z5s (LE.step X qdm qd0 q96 qdg 12) x o∧k o=some r:=by
 obtain ⟨o,h1,h2⟩:=Z0 h
 exact ⟨qdn x o,Zhl (st:=fun (x:t16)=>Wk x.2.2) (prj:=fun x=>x.1) (emb:=qdp) (embO:=qdn) (fun x=>(qdq x).trans (by unfold Wk WB;simp only [Zhd,Zh8,Zhe,Option.map_some,Option.map_none];rfl)) (fun _ _=>rfl) (fun _ _=>rfl) (fun _ _ _=>rfl) (fun _ _ _=>rfl) (fun _=>rfl) (Z1S.1 h1),by
  first
  | exact h2
  | (rcases o with o|o<;>exact h2)⟩
noncomputable def qdt {R:Type}:Z27 S R:=LE.ls X qdm qdo qdg
theorem qdu {R:Type}:Z3J X (qdt (R:=R)):=Zhq xok qd1 (e:=qdm) q97 qdh qds qdh
theorem qdv (x0:ZJ):Zhs X qd0 [(.st 20)] [(.int .i64),(.int .i64),(.int .i64)] q96 qdt 12 30 (x0,())=X1T x0:=by kernel_rfl
noncomputable def qdw:F7 S:=⟨[(.st 20)],[(.int .i64),(.int .i64),(.int .i64)],fun xs=>X3y xs.1⟩
theorem qdx:Z7Q X 30 qdw:=Zho (Zhn xok qd1 q97 qdu 12 30) fun xs _ h=>((qdv xs.1).trans (X5r xs.1).symm).trans h
noncomputable def qdy:List (Nat×F7 S):=[]
theorem qdz:Z9n X (qdy):=trivial
abbrev qdA {R:Type}:Z27 S R:=Zgi
theorem qdB {R:Type}:Z3J X (qdA (R:=R)):=ZgQ X
def qdC:Key:=⟨[51],51,none,[0,0,1,0,1,1],0,4⟩
def qdD:StT S:=⟨(N (N L vM (N L vM L)) none (N L (some (.ptr 0 0)) (N L vM L))),(N L og L),4⟩
def qdE:Way S:=⟨(.exit 0),⟨v1t,(N L og L),9⟩,[.int,(.st 4)]⟩
def qdF:LE S:=⟨qdC,qdD,[.int,.int,.int,(.st 4)],[qdE]⟩
def qdG (x:t1a):Int→(Int×Zw):=fun y0=>(y0,x.2.2.2)
noncomputable def qdH {R:Type} (x:t1a) (k:(Int×Zw)→Option R):Option R:=(X3w x.1 x.2.2.2 (x.2.1,x.2.2.1)).bind (fun y0=>k (y0,x.2.2.2))
def qdI (x:t1a) (v:(Int×Int)):t1a:=(x.1,v.1,v.2,x.2.2.2)
theorem qdJ (x:t1a):LE.step X qdF qdy q96 qdA 12 x=XG x.1 x.2.2.2 x.2.1 x.2.2.1 (fun w0 w1=>(Sum.inl (x.1,w0,w1,x.2.2.2))) (fun p0=>(Sum.inr (p0,x.2.2.2))):=by kernel_rfl
theorem qdL {R:Type} (x:t1a) (k:(Int×Zw)→Option R) (r:R) (h:qdH x k=some r):∃ o,Z5s (LE.step X qdF qdy q96 qdA 12) x o∧k o=some r:=by
 obtain ⟨o,h1,h2⟩:=Z0 h
 exact ⟨qdG x o,Zhl (st:=fun (x:t1a)=>XD x.1 x.2.2.2) (prj:=fun x=>(x.2.1,x.2.2.1)) (emb:=qdI) (embO:=qdG) (fun x=>(qdJ x).trans (by unfold XD XG;simp only [Zhd,Zh8,Zhe,Option.map_some,Option.map_none];rfl)) (fun _ _=>rfl) (fun _ _=>rfl) (fun _ _ _=>rfl) (fun _ _ _=>rfl) (fun _=>rfl) (Z1S.1 h1),by
  first
  | exact h2
  | (rcases o with o<;>exact h2)⟩
noncomputable def qdM {R:Type}:Z27 S R:=LE.ls X qdF qdH qdA
theorem qdN {R:Type}:Z3J X (qdM (R:=R)):=Zhq xok qdz (e:=qdF) q97 qdB qdL qdB
theorem qdO (x0:Zw) (x1:Int):Zhs X qdy [(.st 4),(.int .i64)] [(.int .i64)] q96 qdM 12 51 (x0,x1,())=X1k x0 x1:=by kernel_rfl
noncomputable def qdP:F7 S:=⟨[(.st 4),(.int .i64)],[(.int .i64)],fun xs=>X3r xs.1 xs.2.1⟩
theorem qdQ:Z7Q X 51 qdP:=Zho (Zhn xok qdz q97 qdN 12 51) fun xs _ h=>((qdO xs.1 xs.2.1).trans (X4H xs.1 xs.2.1).symm).trans h
noncomputable def qdR:List (Nat×F7 S):=[(69,qcD),(51,qdP)]
theorem qdS:Z9n X (qdR):=⟨qcE,qdQ,trivial⟩
abbrev qdT {R:Type}:Z27 S R:=Zgi
theorem qdU {R:Type}:Z3J X (qdT (R:=R)):=ZgQ X
theorem qdV (x0:ZJ) (x1:Zn):Zhs X qdR [(.st 20),(.st 21)] [(.int .i64)] q96 qdT 12 75 (x0,x1,())=X1U x0 x1:=by kernel_rfl
noncomputable def qdW:F7 S:=⟨[(.st 20),(.st 21)],[(.int .i64)],fun xs=>X4p xs.1 xs.2.1⟩
theorem qdX:Z7Q X 75 qdW:=Zho (Zhn xok qdS q97 qdU 12 75) fun xs _ h=>((qdV xs.1 xs.2.1).trans (X5t xs.1 xs.2.1).symm).trans h
noncomputable def qdY:List (Nat×F7 S):=[(30,qdw),(75,qdW)]
theorem qdZ:Z9n X (qdY):=⟨qdx,qdX,trivial⟩
abbrev qe0 {R:Type}:Z27 S R:=Zgi
theorem qe1 {R:Type}:Z3J X (qe0 (R:=R)):=ZgQ X
def qe2:Key:=⟨[32],32,none,[0,0,1,0,1,1,1,1],0,22⟩
def qe3:StT S:=⟨(N (N L vJ (N (N L vM L) none L)) none (N L (some (.ptr 0 0)) L)),(N L oc L),22⟩
def qe4:Way S:=⟨.ret,⟨v1h,(N L oc L),39⟩,[.int,.int,(.st 20)]⟩
def qe5:Way S:=⟨(.exit 0),⟨L,(N L oc L),26⟩,[(.st 20)]⟩
def qe6:LE S:=⟨qe2,qe3,[(.lst (.st 21)),.int,(.st 20)],[qe4,qe5]⟩
def qe7 (x:t17):((Int×Int)⊕Unit)→((Int×Int×ZJ)⊕ZJ):=Sum.elim (fun y0=>(.inl (y0.1,y0.2,x.2.2))) (fun y1=>(.inr x.2.2))
noncomputable def qe8 {R:Type} (x:t17) (k:((Int×Int×ZJ)⊕ZJ)→Option R):Option R:=(X1o x.1 x.2.2 x.2.1).bind (Sum.elim (fun y0=>k (.inl (y0.1,y0.2,x.2.2))) (fun y1=>k (.inr x.2.2)))
def qe9 (x:t17) (v:Int):t17:=(x.1,v,x.2.2)
theorem qea (x:t17):LE.step X qe6 qdY q96 qe0 12 x=Xe x.1 x.2.2 x.2.1 (fun w0=>(Sum.inl (x.1,w0,x.2.2))) (fun p0 p1=>(Sum.inr (.inl (p0,p1,x.2.2)))) (Sum.inr (.inr x.2.2)):=by kernel_rfl
theorem qec {R:Type} (x:t17) (k:((Int×Int×ZJ)⊕ZJ)→Option R) (r:R) (h:qe8 x k=some r):∃ o,Z5s (LE.step X qe6 qdY q96 qe0 12) x o∧k o=some r:=by
 obtain ⟨o,h1,h2⟩:=Z0 h
 exact ⟨qe7 x o,Zhl (st:=fun (x:t17)=>Xa x.1 x.2.2) (prj:=fun x=>x.2.1) (emb:=qe9) (embO:=qe7) (fun x=>(qea x).trans (by unfold Xa Xe;simp only [Zhd,Zh8,Zhe,Option.map_some,Option.map_none];rfl)) (fun _ _=>rfl) (fun _ _=>rfl) (fun _ _ _=>rfl) (fun _ _ _=>rfl) (fun _=>rfl) (Z1S.1 h1),by
  first
  | exact h2
  | (rcases o with o|o<;>exact h2)⟩
noncomputable def qed {R:Type}:Z27 S R:=LE.ls X qe6 qe8 qe0
theorem qee {R:Type}:Z3J X (qed (R:=R)):=Zhq xok qdZ (e:=qe6) q97 qe1 qec qe1
theorem qef (x0:ZJ) (x1:List Zn):Zhs X qdY [(.st 20),(.sl (.st 21))] [(.int .i64),(.int .i64)] q96 qed 12 32 (x0,x1,())=XH x0 x1:=by kernel_rfl
noncomputable def qeg:F7 S:=⟨[(.st 20),(.sl (.st 21))],[(.int .i64),(.int .i64)],fun xs=>X1m xs.1 xs.2.1⟩
theorem qeh:Z7Q X 32 qeg:=Zho (Zhn xok qdZ q97 qee 12 32) fun xs _ h=>((qef xs.1 xs.2.1).trans (X3z xs.1 xs.2.1).symm).trans h
noncomputable def qei:List (Nat×F7 S):=[]
theorem qej:Z9n X (qei):=trivial
abbrev qek {R:Type}:Z27 S R:=Zgi
theorem qel {R:Type}:Z3J X (qek (R:=R)):=ZgQ X
theorem qem (x0:Zu):Zhs X qei [(.st 2)] [(.st 2)] q96 qek 12 128 (x0,())=X63 x0:=by kernel_rfl
noncomputable def qen:F7 S:=⟨[(.st 2)],[(.st 2)],fun xs=>X63 xs.1⟩
theorem qeo:Z7Q X 128 qen:=Zho (Zhn xok qej q97 qel 12 128) fun xs _ h=>(qem xs.1).trans h
noncomputable def qep (ih:(Int×Unit)→Option (Zu)):List (Nat×F7 S):=[(128,qen),(113,⟨[(.int .i64)],[(.st 2)],ih⟩)]
theorem qeq (ih:(Int×Unit)→Option (Zu)) (hih:Z7Q X 113 ⟨[(.int .i64)],[(.st 2)],ih⟩):Z9n X (qep ih):=⟨qeo,hih,trivial⟩
abbrev qer (ih:(Int×Unit)→Option (Zu)) {R:Type}:Z27 S R:=Zgi
theorem qes (ih:(Int×Unit)→Option (Zu)) (hih:Z7Q X 113 ⟨[(.int .i64)],[(.st 2)],ih⟩) {R:Type}:Z3J X (qer ih (R:=R)):=ZgQ X
theorem qet (ih:(Int×Unit)→Option (Zu)) (x0:Int):Zhs X (qep ih) [(.int .i64)] [(.st 2)] q96 (qer ih) 12 113 (x0,())=X20 ih x0:=by kernel_rfl
noncomputable def qeu:F7 S:=⟨[(.int .i64)],[(.st 2)],fun xs=>X3q xs.1⟩
theorem qev:Z7Q X 113 qeu:=ZhO (X:=X) (g:=113) (pts:=[(.int .i64)]) (rts:=[(.st 2)]) (t:=X8) fun ih hih=>Zho (Zhn xok (qeq ih hih) q97 (qes ih hih) 12 113) fun xs _ h=>(qet ih xs.1).trans h
noncomputable def qew:List (Nat×F7 S):=[(113,qeu),(112,qb5)]
theorem qex:Z9n X (qew):=⟨qev,qb6,trivial⟩
abbrev qey {R:Type}:Z27 S R:=Zgi
theorem qez {R:Type}:Z3J X (qey (R:=R)):=ZgQ X
def qeA:Key:=⟨[87],87,none,[0,0,0,1,1],0,3⟩
def qeB:StT S:=⟨(N (N (N L vM L) (some (.ptr 0 0)) L) none L),(N L oj L),3⟩
def qeC:Way S:=⟨(.exit 0),⟨v1p,(N L oj L),17⟩,[.int,(.st 2)]⟩
def qeD:LE S:=⟨qeA,qeB,[.int,(.st 2)],[qeC]⟩
def qeE (x:(Int×Zu)):Int→(Int×Zu):=fun y0=>(y0,x.2)
noncomputable def qeF {R:Type} (x:(Int×Zu)) (k:(Int×Zu)→Option R):Option R:=(X3K x.2 x.1).bind (fun y0=>k (y0,x.2))
def qeG (x:(Int×Zu)) (v:Int):(Int×Zu):=(v,x.2)
theorem qeH (x:(Int×Zu)):LE.step X qeD qew q96 qey 12 x=W1 x.2 x.1 (fun w0=>(Sum.inl (w0,x.2))) (fun p0=>(Sum.inr (p0,x.2))):=by kernel_rfl
theorem qeJ {R:Type} (x:(Int×Zu)) (k:(Int×Zu)→Option R) (r:R) (h:qeF x k=some r):∃ o,Z5s (LE.step X qeD qew q96 qey 12) x o∧k o=some r:=by
 obtain ⟨o,h1,h2⟩:=Z0 h
 exact ⟨qeE x o,Zhl (st:=fun (x:(Int×Zu))=>XQ x.2) (prj:=fun x=>x.1) (emb:=qeG) (embO:=qeE) (fun x=>(qeH x).trans (by unfold XQ W1;simp only [Zhd,Zh8,Zhe,Option.map_some,Option.map_none];rfl)) (fun _ _=>rfl) (fun _ _=>rfl) (fun _ _ _=>rfl) (fun _ _ _=>rfl) (fun _=>rfl) (Z1S.1 h1),by
  first
  | exact h2
  | (rcases o with o<;>exact h2)⟩
noncomputable def qeK {R:Type}:Z27 S R:=LE.ls X qeD qeF qey
theorem qeL {R:Type}:Z3J X (qeK (R:=R)):=Zhq xok qex (e:=qeD) q97 qez qeJ qez
theorem qeM (x0:Zu):Zhs X qew [(.st 2)] [(.int .i64)] q96 qeK 12 87 (x0,())=X2i x0:=by kernel_rfl
noncomputable def qeN:F7 S:=⟨[(.st 2)],[(.int .i64)],fun xs=>X2i xs.1⟩
theorem qeO:Z7Q X 87 qeN:=Zho (Zhn xok qex q97 qeL 12 87) fun xs _ h=>(qeM xs.1).trans h
noncomputable def qeP:List (Nat×F7 S):=[(69,qcD)]
theorem qeQ:Z9n X (qeP):=⟨qcE,trivial⟩
abbrev qeR {R:Type}:Z27 S R:=Zgi
theorem qeS {R:Type}:Z3J X (qeR (R:=R)):=ZgQ X
def qeT:Key:=⟨[53],53,none,[0,0,1,0,1],0,4⟩
def qeU:StT S:=⟨(N (N (N L (some (.ptr 1 0)) L) none (N L vM L)) none (N L (some (.ptr 0 0)) L)),(N (N L oj L) oc L),4⟩
def qeV:Way S:=⟨.ret,⟨v1q,(N (N L oj L) oc L),47⟩,[.int,(.st 2),(.st 20)]⟩
def qeW:Way S:=⟨(.exit 0),⟨L,(N (N L oj L) oc L),9⟩,[(.st 2),(.st 20)]⟩
def qeX:LE S:=⟨qeT,qeU,[.int,(.st 2),(.st 20)],[qeV,qeW]⟩
def qeY (x:(Int×Zu×ZJ)):(Int⊕Unit)→((Int×Zu×ZJ)⊕(Zu×ZJ)):=Sum.elim (fun y0=>(.inl (y0,x.2.1,x.2.2))) (fun y1=>(.inr (x.2.1,x.2.2)))
noncomputable def qeZ {R:Type} (x:(Int×Zu×ZJ)) (k:((Int×Zu×ZJ)⊕(Zu×ZJ))→Option R):Option R:=(X2t x.2.1 x.2.2 x.1).bind (Sum.elim (fun y0=>k (.inl (y0,x.2.1,x.2.2))) (fun y1=>k (.inr (x.2.1,x.2.2))))
def qf0 (x:(Int×Zu×ZJ)) (v:Int):(Int×Zu×ZJ):=(v,x.2.1,x.2.2)
theorem qf1 (x:(Int×Zu×ZJ)):LE.step X qeX qeP q96 qeR 12 x=W3 x.2.1 x.2.2 x.1 (fun w0=>(Sum.inl (w0,x.2.1,x.2.2))) (fun p0=>(Sum.inr (.inl (p0,x.2.1,x.2.2)))) (Sum.inr (.inr (x.2.1,x.2.2))):=by kernel_rfl
theorem qf3 {R:Type} (x:(Int×Zu×ZJ)) (k:((Int×Zu×ZJ)⊕(Zu×ZJ))→Option R) (r:R) (h:qeZ x k=some r):∃ o,Z5s (LE.step X qeX qeP q96 qeR 12) x o∧k o=some r:=by
 obtain ⟨o,h1,h2⟩:=Z0 h
 exact ⟨qeY x o,Zhl (st:=fun (x:(Int×Zu×ZJ))=>XT x.2.1 x.2.2) (prj:=fun x=>x.1) (emb:=qf0) (embO:=qeY) (fun x=>(qf1 x).trans (by unfold XT W3;simp only [Zhd,Zh8,Zhe,Option.map_some,Option.map_none];rfl)) (fun _ _=>rfl) (fun _ _=>rfl) (fun _ _ _=>rfl) (fun _ _ _=>rfl) (fun _=>rfl) (Z1S.1 h1),by
  first
  | exact h2
  | (rcases o with o|o<;>exact h2)⟩
noncomputable def qf4 {R:Type}:Z27 S R:=LE.ls X qeX qeZ qeR
theorem qf5 {R:Type}:Z3J X (qf4 (R:=R)):=Zhq xok qeQ (e:=qeX) q97 qeS qf3 qeS
theorem qf6 (x0:ZJ) (x1:Zu):Zhs X qeP [(.st 20),(.st 2)] [(.int .i64)] q96 qf4 12 53 (x0,x1,())=X1F x0 x1:=by kernel_rfl
noncomputable def qf7:F7 S:=⟨[(.st 20),(.st 2)],[(.int .i64)],fun xs=>X3P xs.1 xs.2.1⟩
theorem qf8:Z7Q X 53 qf7:=Zho (Zhn xok qeQ q97 qf5 12 53) fun xs _ h=>((qf6 xs.1 xs.2.1).trans (X58 xs.1 xs.2.1).symm).trans h
noncomputable def qf9:List (Nat×F7 S):=[(88,qaY),(87,qeN),(53,qf7),(69,qcD)]
theorem qfa:Z9n X (qf9):=⟨qaZ,qeO,qf8,qcE,trivial⟩
abbrev qfb {R:Type}:Z27 S R:=Zgi
theorem qfc {R:Type}:Z3J X (qfb (R:=R)):=ZgQ X
theorem qfd (x0:ZJ) (x1:Zn) (x2:Zu) (x3:Int):Zhs X qf9 [(.st 20),(.st 21),(.st 2),(.int .i64)] [.bool] q96 qfb 12 107 (x0,x1,x2,x3,())=X1E x0 x1 x2 x3:=by kernel_rfl
noncomputable def qfe:F7 S:=⟨[(.st 20),(.st 21),(.st 2),(.int .i64)],[.bool],fun xs=>X3d xs.1 xs.2.1 xs.2.2.1 xs.2.2.2.1⟩
theorem qff:Z7Q X 107 qfe:=Zho (Zhn xok qfa q97 qfc 12 107) fun xs _ h=>((qfd xs.1 xs.2.1 xs.2.2.1 xs.2.2.2.1).trans (X56 xs.1 xs.2.1 xs.2.2.1 xs.2.2.2.1).symm).trans h
noncomputable def qfg:List (Nat×F7 S):=[(107,qfe)]
theorem qfh:Z9n X (qfg):=⟨qff,trivial⟩
abbrev qfi {R:Type}:Z27 S R:=Zgi
theorem qfj {R:Type}:Z3J X (qfi (R:=R)):=ZgQ X
def qfk:Key:=⟨[77],77,none,[0,0,1,0,1,0,0,1,0,0,1,0,1,1],2,24⟩
def qfl:StT S:=⟨(N vZ none (N v1l none (N L none (N L vM L)))),o1c,25⟩
def qfm:Way S:=⟨(.exit 2),⟨(N vZ none (N v1l none L)),o1c,32⟩,[.int,(.lst (.st 21)),.bool,(.lst .bool),.int,(.st 2),(.st 20),(.lst (.int .i64))]⟩
def qfn:LE S:=⟨qfk,qfl,[.int,(.lst (.st 21)),.bool,(.lst .bool),.int,.int,(.st 2),(.st 20),(.lst (.int .i64))],[qfm]⟩
def qfo (x:tz):Bool→tC:=fun y0=>(x.1,x.2.1,y0,x.2.2.2.1,x.2.2.2.2.1,x.2.2.2.2.2.2.1,x.2.2.2.2.2.2.2.1,x.2.2.2.2.2.2.2.2)
noncomputable def qfp {R:Type} (x:tz) (k:tC→Option R):Option R:=(X2c x.1 x.2.1 x.2.2.2.1 x.2.2.2.2.1 x.2.2.2.2.2.2.1 x.2.2.2.2.2.2.2.1 (x.2.2.1,x.2.2.2.2.2.1)).bind (fun y0=>k (x.1,x.2.1,y0,x.2.2.2.1,x.2.2.2.2.1,x.2.2.2.2.2.2.1,x.2.2.2.2.2.2.2.1,x.2.2.2.2.2.2.2.2))
def qfq (x:tz) (v:(Bool×Int)):tz:=(x.1,x.2.1,v.1,x.2.2.2.1,x.2.2.2.2.1,v.2,x.2.2.2.2.2.2.1,x.2.2.2.2.2.2.2.1,x.2.2.2.2.2.2.2.2)
theorem qfr (x:tz):LE.step X qfn qfg q96 qfi 12 x=XJ x.1 x.2.1 x.2.2.2.1 x.2.2.2.2.1 x.2.2.2.2.2.2.1 x.2.2.2.2.2.2.2.1 x.2.2.1 x.2.2.2.2.2.1 (fun w0 w1=>(Sum.inl (x.1,x.2.1,w0,x.2.2.2.1,x.2.2.2.2.1,w1,x.2.2.2.2.2.2.1,x.2.2.2.2.2.2.2.1,x.2.2.2.2.2.2.2.2))) (fun p0=>(Sum.inr (x.1,x.2.1,p0,x.2.2.2.1,x.2.2.2.2.1,x.2.2.2.2.2.2.1,x.2.2.2.2.2.2.2.1,x.2.2.2.2.2.2.2.2))):=by kernel_rfl
theorem qft {R:Type} (x:tz) (k:tC→Option R) (r:R) (h:qfp x k=some r):∃ o,Z5s (LE.step X qfn qfg q96 qfi 12) x o∧k o=some r:=by
 obtain ⟨o,h1,h2⟩:=Z0 h
 exact ⟨qfo x o,Zhl (st:=fun (x:tz)=>XF x.1 x.2.1 x.2.2.2.1 x.2.2.2.2.1 x.2.2.2.2.2.2.1 x.2.2.2.2.2.2.2.1) (prj:=fun x=>(x.2.2.1,x.2.2.2.2.2.1)) (emb:=qfq) (embO:=qfo) (fun x=>(qfr x).trans (by unfold XF XJ;simp only [Zhd,Zh8,Zhe,Option.map_some,Option.map_none];rfl)) (fun _ _=>rfl) (fun _ _=>rfl) (fun _ _ _=>rfl) (fun _ _ _=>rfl) (fun _=>rfl) (Z1S.1 h1),by
  first
  | exact h2
  | (rcases o with o<;>exact h2)⟩
noncomputable def qfu {R:Type}:Z27 S R:=LE.ls X qfn qfp qfi
theorem qfv {R:Type}:Z3J X (qfu (R:=R)):=Zhq xok qfh (e:=qfn) q97 qfj qft qfj
def qfw:Key:=⟨[77],77,none,[0,0,1,0,1,1],0,12⟩
def qfx:StT S:=⟨(N (N (N (N L (some (.ptr 1 0)) L) vM (N L (some (.rs 12 0)) L)) vJ (N L (some (.ptr 0 0)) L)) none (N v1l none L)),(N (N L oj L) oc o1u),13⟩
def qfy:Way S:=⟨(.exit 0),⟨(N (N (N L none (N L (some (.rs 12 0)) L)) none L) none L),(N (N L oj L) oc o1u),22⟩,[(.st 2),(.st 20),(.lst (.int .i64))]⟩
def qfz:LE S:=⟨qfw,qfx,[.int,(.lst (.st 21)),(.lst .bool),.int,(.st 2),(.st 20),(.lst (.int .i64))],[qfy]⟩
def qfA (x:tF):(List Int)→(Zu×ZJ×(List Int)):=fun y0=>(x.2.2.2.2.1,x.2.2.2.2.2.1,y0)
noncomputable def qfB {R:Type} (x:tF) (k:(Zu×ZJ×(List Int))→Option R):Option R:=(X2b x.1 x.2.1 x.2.2.1 x.2.2.2.2.1 x.2.2.2.2.2.1 (x.2.2.2.1,x.2.2.2.2.2.2)).bind (fun y0=>k (x.2.2.2.2.1,x.2.2.2.2.2.1,y0))
def qfC (x:tF) (v:(Int×(List Int))):tF:=(x.1,x.2.1,x.2.2.1,v.1,x.2.2.2.2.1,x.2.2.2.2.2.1,v.2)
theorem qfD (x:tF):LE.step X qfz qfg q96 qfu 12 x=XI x.1 x.2.1 x.2.2.1 x.2.2.2.2.1 x.2.2.2.2.2.1 x.2.2.2.1 x.2.2.2.2.2.2 (fun w0 w1=>(Sum.inl (x.1,x.2.1,x.2.2.1,w0,x.2.2.2.2.1,x.2.2.2.2.2.1,w1))) (fun p0=>(Sum.inr (x.2.2.2.2.1,x.2.2.2.2.2.1,p0))):=by kernel_rfl
theorem qfF {R:Type} (x:tF) (k:(Zu×ZJ×(List Int))→Option R) (r:R) (h:qfB x k=some r):∃ o,Z5s (LE.step X qfz qfg q96 qfu 12) x o∧k o=some r:=by
 obtain ⟨o,h1,h2⟩:=Z0 h
 exact ⟨qfA x o,Zhl (st:=fun (x:tF)=>XE x.1 x.2.1 x.2.2.1 x.2.2.2.2.1 x.2.2.2.2.2.1) (prj:=fun x=>(x.2.2.2.1,x.2.2.2.2.2.2)) (emb:=qfC) (embO:=qfA) (fun x=>(qfD x).trans (by unfold XE XI;simp only [Zhd,Zh8,Zhe,Option.map_some,Option.map_none];rfl)) (fun _ _=>rfl) (fun _ _=>rfl) (fun _ _ _=>rfl) (fun _ _ _=>rfl) (fun _=>rfl) (Z1S.1 h1),by
  first
  | exact h2
  | (rcases o with o<;>exact h2)⟩
noncomputable def qfG {R:Type}:Z27 S R:=LE.ls X qfz qfB qfu
theorem qfH {R:Type}:Z3J X (qfG (R:=R)):=Zhq xok qfh (e:=qfz) q97 qfv qfF qfv
theorem qfI (x0:ZJ) (x1:List Zn) (x2:Zu) (x3:Int) (x4:List Bool):Zhs X qfg [(.st 20),(.sl (.st 21)),(.st 2),(.int .i64),(.sl .bool)] [(.sl (.int .i64))] q96 qfG 12 77 (x0,x1,x2,x3,x4,())=X1n x0 x1 x2 x3 x4:=by kernel_rfl
noncomputable def qfJ:F7 S:=⟨[(.st 20),(.sl (.st 21)),(.st 2),(.int .i64),(.sl .bool)],[(.sl (.int .i64))],fun xs=>X2y xs.1 xs.2.1 xs.2.2.1 xs.2.2.2.1 xs.2.2.2.2.1⟩
theorem qfK:Z7Q X 77 qfJ:=Zho (Zhn xok qfh q97 qfH 12 77) fun xs _ h=>((qfI xs.1 xs.2.1 xs.2.2.1 xs.2.2.2.1 xs.2.2.2.2.1).trans (X4K xs.1 xs.2.1 xs.2.2.1 xs.2.2.2.1 xs.2.2.2.2.1).symm).trans h
noncomputable def qfL:List (Nat×F7 S):=[]
theorem qfM:Z9n X (qfL):=trivial
abbrev qfN {R:Type}:Z27 S R:=Zgi
theorem qfO {R:Type}:Z3J X (qfN (R:=R)):=ZgQ X
theorem qfP (x0:List ZE):Zhs X qfL [(.sl (.st 5))] [(.sl (.st 5))] q96 qfN 12 59 (x0,())=X4 x0:=by kernel_rfl
noncomputable def qfQ:F7 S:=⟨[(.sl (.st 5))],[(.sl (.st 5))],fun xs=>XU xs.1⟩
theorem qfR:Z7Q X 59 qfQ:=Zho (Zhn xok qfM q97 qfO 12 59) fun xs _ h=>((qfP xs.1).trans (WZ xs.1).symm).trans h
def qfS:StT S:=⟨(N (N (N L vM L) vr L) (some .nilp) (N L vM L)),L,0⟩
def qfT:PE S:=⟨58,4,qfS,[.int,(.st 2),.int],[]⟩
noncomputable def qfU:List (Nat×F7 S):=[(110,q5T),(57,q37)]
theorem qfV:Z9n X qfU:=⟨q5U,q38,trivial⟩
abbrev qfW {R:Type}:Z27 S R:=Zgi
theorem qfX {R:Type}:Z3J X (qfW (R:=R)):=ZgQ X
theorem qfY (x:(Int×Zu×Int)):PE.step X qfT qfU q96 qfW 12 x=X1t x.1 x.2.1 x.2.2:=by kernel_rfl
theorem qfZ:ZaX X qfT X2A:=Zhr (ZgU xok qfV q97 qfX 12) fun x _ h=>((qfY x).trans (X5N x).symm).trans h
noncomputable def qg0 {R:Type}:Prs S R:=PE.ps X qfT (fun x q=>(X2A x).bind q) q96
theorem qg1 {R:Type}:Z7R X (qg0 (R:=R)):=Zhi (e:=qfT) qfZ q97
noncomputable def qg2:List (Nat×F7 S):=[(29,q4C),(57,q37),(82,q53),(110,q5T),(59,qfQ)]
theorem qg3:Z9n X (qg2):=⟨q4D,q38,q54,q5U,qfR,trivial⟩
abbrev qg4 {R:Type}:Z27 S R:=Zgi
theorem qg5 {R:Type}:Z3J X (qg4 (R:=R)):=ZgQ X
theorem qg6 (x0:ZJ) (x1:List Zn) (x2:Zu):Zhs X qg2 [(.st 20),(.sl (.st 21)),(.st 2)] [(.sl (.st 5)),(.int .i64)] qg0 qg4 12 23 (x0,x1,x2,())=X2W x0 x1 x2:=by kernel_rfl
noncomputable def qg7:F7 S:=⟨[(.st 20),(.sl (.st 21)),(.st 2)],[(.sl (.st 5)),(.int .i64)],fun xs=>X5X xs.1 xs.2.1 xs.2.2.1⟩
theorem qg8:Z7Q X 23 qg7:=Zho (Zhn xok qg3 qg1 qg5 12 23) fun xs _ h=>((qg6 xs.1 xs.2.1 xs.2.2.1).trans (X6e xs.1 xs.2.1 xs.2.2.1).symm).trans h
def qg9:StT S:=⟨(N L (some .nilp) L),L,0⟩
def qga:PE S:=⟨44,1,qg9,[],[]⟩
noncomputable def qgb:List (Nat×F7 S):=[]
theorem qgc:Z9n X qgb:=trivial
abbrev qgd {R:Type}:Z27 S R:=Zgi
theorem qge {R:Type}:Z3J X (qgd (R:=R)):=ZgQ X
theorem qgf (x:Unit):PE.step X qga qgb qg0 qgd 12 x=W9:=by kernel_rfl
theorem qgg:ZaX X qga X2r:=Zhr (ZgU xok qgc qg1 qge 12) fun x _ h=>((qgf x).trans (X4T x).symm).trans h
noncomputable def qgh {R:Type}:Prs S R:=PE.ps X qga (fun x q=>(X2r x).bind q) qg0
theorem qgi {R:Type}:Z7R X (qgh (R:=R)):=Zhi (e:=qga) qgg qg1
def qgj:StT S:=⟨(N L (some (.ptr 1 0)) L),(N (N L o3 L) oo L),2⟩
def qgk:Way S:=⟨.ret,⟨(N L vM L),(N (N L o3 L) oo L),2⟩,[.int,(.st 20),(.lst (.st 21)),.en,(.mp (.st 23) (.int .i64))]⟩
def qgl:PE S:=⟨44,1,qgj,[(.st 20),(.lst (.st 21)),.en,(.mp (.st 23) (.int .i64))],[qgk]⟩
noncomputable def qgm:List (Nat×F7 S):=[]
theorem qgn:Z9n X qgm:=trivial
abbrev qgo {R:Type}:Z27 S R:=Zgi
theorem qgp {R:Type}:Z3J X (qgo (R:=R)):=ZgQ X
def qgq:Key:=⟨[44],44,none,[0,0,1,0,1],0,9⟩
def qgr:StT S:=⟨(N v1t (some (.ptr 1 0)) (N (N L none (N L vM L)) vM (N (N L vJ L) none L))),(N (N L o3 L) oo L),9⟩
def qgs:Way S:=⟨(.exit 0),⟨(N L none (N L vM L)),(N (N L o3 L) oo L),10⟩,[.int,(.st 20),(.lst (.st 21)),.en,(.mp (.st 23) (.int .i64))]⟩
def qgt:LE S:=⟨qgq,qgr,[.int,.int,.int,(.lst (.st 21)),(.st 20),(.lst (.st 21)),.en,(.mp (.st 23) (.int .i64))],[qgs]⟩
def qgu (x:to):Int→tG:=fun y0=>(y0,x.2.2.2.2.1,x.2.2.2.2.2.1,x.2.2.2.2.2.2.1,x.2.2.2.2.2.2.2)
noncomputable def qgv {R:Type} (x:to) (k:tG→Option R):Option R:=(X27 x.1 x.2.2.2.1 x.2.2.2.2.1 x.2.2.2.2.2.2.1 (x.2.1,x.2.2.1)).bind (fun y0=>k (y0,x.2.2.2.2.1,x.2.2.2.2.2.1,x.2.2.2.2.2.2.1,x.2.2.2.2.2.2.2))
def qgw (x:to) (v:(Int×Int)):to:=(x.1,v.1,v.2,x.2.2.2.1,x.2.2.2.2.1,x.2.2.2.2.2.1,x.2.2.2.2.2.2.1,x.2.2.2.2.2.2.2)
theorem qgx (x:to):LE.step X qgt qgm qgh qgo 12 x=WG x.1 x.2.2.2.1 x.2.2.2.2.1 x.2.2.2.2.2.2.1 x.2.1 x.2.2.1 (fun w0 w1=>(Sum.inl (x.1,w0,w1,x.2.2.2.1,x.2.2.2.2.1,x.2.2.2.2.2.1,x.2.2.2.2.2.2.1,x.2.2.2.2.2.2.2))) (fun p0=>(Sum.inr (p0,x.2.2.2.2.1,x.2.2.2.2.2.1,x.2.2.2.2.2.2.1,x.2.2.2.2.2.2.2))):=by kernel_rfl
theorem qgz {R:Type} (x:to) (k:tG→Option R) (r:R) (h:qgv x k=some r):∃ o,Z5s (LE.step X qgt qgm qgh qgo 12) x o∧k o=some r:=by
 obtain ⟨o,h1,h2⟩:=Z0 h
 exact ⟨qgu x o,Zhl (st:=fun (x:to)=>X15 x.1 x.2.2.2.1 x.2.2.2.2.1 x.2.2.2.2.2.2.1) (prj:=fun x=>(x.2.1,x.2.2.1)) (emb:=qgw) (embO:=qgu) (fun x=>(qgx x).trans (by unfold X15 WG;simp only [Zhd,Zh8,Zhe,Option.map_some,Option.map_none];rfl)) (fun _ _=>rfl) (fun _ _=>rfl) (fun _ _ _=>rfl) (fun _ _ _=>rfl) (fun _=>rfl) (Z1S.1 h1),by
  first
  | exact h2
  | (rcases o with o<;>exact h2)⟩
noncomputable def qgA {R:Type}:Z27 S R:=LE.ls X qgt qgv qgo
theorem qgB {R:Type}:Z3J X (qgA (R:=R)):=Zhq xok qgn (e:=qgt) qgi qgp qgz qgp
theorem qgC (x:tK):PE.step X qgl qgm qgh qgA 12 x=Wa x.1 x.2.1 x.2.2.1 x.2.2.2:=by kernel_rfl
theorem qgD:ZaX X qgl X2s:=Zhr (ZgU xok qgn qgi qgB 12) fun x _ h=>((qgC x).trans (X4U x).symm).trans h
noncomputable def qgE {R:Type}:Prs S R:=PE.ps X qgl (fun x q=>(X2s x).bind q) qgh
theorem qgF {R:Type}:Z7R X (qgE (R:=R)):=Zhi (e:=qgl) qgD qgi
def qgG:StT S:=⟨(N (N L vM L) (some (.ptr 1 0)) L),(N (N L o3 L) oo L),2⟩
def qgH:Way S:=⟨.ret,⟨(N L vL L),(N (N L o3 L) oo L),2⟩,[.bool,(.st 20),(.lst (.st 21)),.en,(.mp (.st 23) (.int .i64))]⟩
def qgI:PE S:=⟨46,2,qgG,[.int,(.st 20),(.lst (.st 21)),.en,(.mp (.st 23) (.int .i64))],[qgH]⟩
noncomputable def qgJ:List (Nat×F7 S):=[(110,q5T),(57,q37)]
theorem qgK:Z9n X qgJ:=⟨q5U,q38,trivial⟩
abbrev qgL {R:Type}:Z27 S R:=Zgi
theorem qgM {R:Type}:Z3J X (qgL (R:=R)):=ZgQ X
def qgN:Key:=⟨[108,0,46],108,none,[0,0,1,0,0,1,0,0,1],2,44⟩
def qgO:StT S:=⟨(N (N (N L vM L) (some (.ptr 18 0)) L) (some (.yld 22)) (N (N L vM L) none L)),o10,44⟩
def qgP:Way S:=⟨.ret,⟨L,oN,94⟩,[.int,(.st 20),(.lst (.st 21)),.en,(.arr (.st 5)),(.st 2),(.mp (.st 23) (.int .i64)),.bool,.int,.int]⟩
def qgQ:Way S:=⟨(.exit 2),⟨v1d,o10,51⟩,[.int,.int,(.st 20),(.lst (.st 21)),.en,(.mp (.st 23) (.int .i64)),.bool,.int,.int]⟩
def qgR:LE S:=⟨qgN,qgO,[.int,.int,.int,(.st 20),(.lst (.st 21)),.en,(.mp (.st 23) (.int .i64)),.bool,.int,.int],[qgP,qgQ]⟩
def qgS (x:tm):((ZJ×(List Zn)×(Nat→Nat)×(Nat→ZE)×Zu×t1d×Bool)⊕tK)→t5:=Sum.elim (fun y0=>(.inl (x.2.2.1,y0.1,y0.2.1,y0.2.2.1,y0.2.2.2.1,y0.2.2.2.2.1,y0.2.2.2.2.2.1,y0.2.2.2.2.2.2,x.2.2.2.2.2.2.2.2.1,x.2.2.2.2.2.2.2.2.2))) (fun y1=>(.inr (x.1,x.2.2.1,y1.1,y1.2.1,y1.2.2.1,y1.2.2.2,x.2.2.2.2.2.2.2.1,x.2.2.2.2.2.2.2.2.1,x.2.2.2.2.2.2.2.2.2)))
noncomputable def qgT {R:Type} (x:tm) (k:t5→Option R):Option R:=(X1Y x.1 x.2.2.1 x.2.2.2.2.2.2.2.2.2 (x.2.1,x.2.2.2.1,x.2.2.2.2.1,x.2.2.2.2.2.1,x.2.2.2.2.2.2.1)).bind (Sum.elim (fun y0=>k (.inl (x.2.2.1,y0.1,y0.2.1,y0.2.2.1,y0.2.2.2.1,y0.2.2.2.2.1,y0.2.2.2.2.2.1,y0.2.2.2.2.2.2,x.2.2.2.2.2.2.2.2.1,x.2.2.2.2.2.2.2.2.2))) (fun y1=>k (.inr (x.1,x.2.2.1,y1.1,y1.2.1,y1.2.2.1,y1.2.2.2,x.2.2.2.2.2.2.2.1,x.2.2.2.2.2.2.2.2.1,x.2.2.2.2.2.2.2.2.2))))
def qgU (x:tm) (v:tG):tm:=(x.1,v.1,x.2.2.1,v.2.1,v.2.2.1,v.2.2.2.1,v.2.2.2.2,x.2.2.2.2.2.2.2.1,x.2.2.2.2.2.2.2.2.1,x.2.2.2.2.2.2.2.2.2)
theorem qgV (x:tm):LE.step X qgR qgJ qgE qgL 12 x=Wm x.1 x.2.2.1 x.2.2.2.2.2.2.2.2.2 x.2.1 x.2.2.2.1 x.2.2.2.2.1 x.2.2.2.2.2.1 x.2.2.2.2.2.2.1 (fun w0 w1 w2 w3 w4=>(Sum.inl (x.1,w0,x.2.2.1,w1,w2,w3,w4,x.2.2.2.2.2.2.2.1,x.2.2.2.2.2.2.2.2.1,x.2.2.2.2.2.2.2.2.2))) (fun p0 p1 p2 p3 p4 p5 p6=>(Sum.inr (.inl (x.2.2.1,p0,p1,p2,p3,p4,p5,p6,x.2.2.2.2.2.2.2.2.1,x.2.2.2.2.2.2.2.2.2)))) (fun p0 p1 p2 p3=>(Sum.inr (.inr (x.1,x.2.2.1,p0,p1,p2,p3,x.2.2.2.2.2.2.2.1,x.2.2.2.2.2.2.2.2.1,x.2.2.2.2.2.2.2.2.2)))):=by kernel_rfl
theorem qgX {R:Type} (x:tm) (k:t5→Option R) (r:R) (h:qgT x k=some r):∃ o,Z5s (LE.step X qgR qgJ qgE qgL 12) x o∧k o=some r:=by
 obtain ⟨o,h1,h2⟩:=Z0 h
 exact ⟨qgS x o,Zhl (st:=fun (x:tm)=>WP x.1 x.2.2.1 x.2.2.2.2.2.2.2.2.2) (prj:=fun x=>(x.2.1,x.2.2.2.1,x.2.2.2.2.1,x.2.2.2.2.2.1,x.2.2.2.2.2.2.1)) (emb:=qgU) (embO:=qgS) (fun x=>(qgV x).trans (by unfold WP Wm;simp only [Zhd,Zh8,Zhe,Option.map_some,Option.map_none];rfl)) (fun _ _=>rfl) (fun _ _=>rfl) (fun _ _ _=>rfl) (fun _ _ _=>rfl) (fun _=>rfl) (Z1S.1 h1),by
  first
  | exact h2
  | (rcases o with o|o<;>exact h2)⟩
noncomputable def qgY {R:Type}:Z27 S R:=LE.ls X qgR qgT qgL
theorem qgZ {R:Type}:Z3J X (qgY (R:=R)):=Zhq xok qgK (e:=qgR) qgF qgM qgX qgM
def qh0:Key:=⟨[108,0,46],108,none,[0,0,1],0,30⟩
def qh1:StT S:=⟨v1d,o10,30⟩
def qh2:Way S:=⟨.ret,⟨L,oN,94⟩,[.int,(.st 20),(.lst (.st 21)),.en,(.arr (.st 5)),(.st 2),(.mp (.st 23) (.int .i64)),.bool,.int,.int]⟩
def qh3:Way S:=⟨(.exit 0),⟨L,o10,37⟩,[.int,(.st 20),(.lst (.st 21)),.en,(.mp (.st 23) (.int .i64)),.bool,.int,.int]⟩
def qh4:LE S:=⟨qh0,qh1,[.int,.int,(.st 20),(.lst (.st 21)),.en,(.mp (.st 23) (.int .i64)),.bool,.int,.int],[qh2,qh3]⟩
def qh5 (x:tp):((ZJ×(List Zn)×(Nat→Nat)×(Nat→ZE)×Zu×t1d×Bool)⊕tK)→t7:=Sum.elim (fun y0=>(.inl (x.2.1,y0.1,y0.2.1,y0.2.2.1,y0.2.2.2.1,y0.2.2.2.2.1,y0.2.2.2.2.2.1,y0.2.2.2.2.2.2,x.2.2.2.2.2.2.2.1,x.2.2.2.2.2.2.2.2))) (fun y1=>(.inr (x.2.1,y1.1,y1.2.1,y1.2.2.1,y1.2.2.2,x.2.2.2.2.2.2.1,x.2.2.2.2.2.2.2.1,x.2.2.2.2.2.2.2.2)))
noncomputable def qh6 {R:Type} (x:tp) (k:t7→Option R):Option R:=(X1X x.2.1 x.2.2.2.2.2.2.2.2 (x.1,x.2.2.1,x.2.2.2.1,x.2.2.2.2.1,x.2.2.2.2.2.1)).bind (Sum.elim (fun y0=>k (.inl (x.2.1,y0.1,y0.2.1,y0.2.2.1,y0.2.2.2.1,y0.2.2.2.2.1,y0.2.2.2.2.2.1,y0.2.2.2.2.2.2,x.2.2.2.2.2.2.2.1,x.2.2.2.2.2.2.2.2))) (fun y1=>k (.inr (x.2.1,y1.1,y1.2.1,y1.2.2.1,y1.2.2.2,x.2.2.2.2.2.2.1,x.2.2.2.2.2.2.2.1,x.2.2.2.2.2.2.2.2))))
def qh7 (x:tp) (v:tG):tp:=(v.1,x.2.1,v.2.1,v.2.2.1,v.2.2.2.1,v.2.2.2.2,x.2.2.2.2.2.2.1,x.2.2.2.2.2.2.2.1,x.2.2.2.2.2.2.2.2)
theorem qh8 (x:tp):LE.step X qh4 qgJ qgE qgY 12 x=Wl x.2.1 x.2.2.2.2.2.2.2.2 x.1 x.2.2.1 x.2.2.2.1 x.2.2.2.2.1 x.2.2.2.2.2.1 (fun w0 w1 w2 w3 w4=>(Sum.inl (w0,x.2.1,w1,w2,w3,w4,x.2.2.2.2.2.2.1,x.2.2.2.2.2.2.2.1,x.2.2.2.2.2.2.2.2))) (fun p0 p1 p2 p3 p4 p5 p6=>(Sum.inr (.inl (x.2.1,p0,p1,p2,p3,p4,p5,p6,x.2.2.2.2.2.2.2.1,x.2.2.2.2.2.2.2.2)))) (fun p0 p1 p2 p3=>(Sum.inr (.inr (x.2.1,p0,p1,p2,p3,x.2.2.2.2.2.2.1,x.2.2.2.2.2.2.2.1,x.2.2.2.2.2.2.2.2)))):=by kernel_rfl
theorem qha {R:Type} (x:tp) (k:t7→Option R) (r:R) (h:qh6 x k=some r):∃ o,Z5s (LE.step X qh4 qgJ qgE qgY 12) x o∧k o=some r:=by
 obtain ⟨o,h1,h2⟩:=Z0 h
 exact ⟨qh5 x o,Zhl (st:=fun (x:tp)=>WO x.2.1 x.2.2.2.2.2.2.2.2) (prj:=fun x=>(x.1,x.2.2.1,x.2.2.2.1,x.2.2.2.2.1,x.2.2.2.2.2.1)) (emb:=qh7) (embO:=qh5) (fun x=>(qh8 x).trans (by unfold WO Wl;simp only [Zhd,Zh8,Zhe,Option.map_some,Option.map_none];rfl)) (fun _ _=>rfl) (fun _ _=>rfl) (fun _ _ _=>rfl) (fun _ _ _=>rfl) (fun _=>rfl) (Z1S.1 h1),by
  first
  | exact h2
  | (rcases o with o|o<;>exact h2)⟩
noncomputable def qhb {R:Type}:Z27 S R:=LE.ls X qh4 qh6 qgY
theorem qhc {R:Type}:Z3J X (qhb (R:=R)):=Zhq xok qgK (e:=qh4) qgF qgZ qha qgZ
theorem qhd (x:tG):PE.step X qgI qgJ qgE qhb 12 x=XV x.1 x.2.1 x.2.2.1 x.2.2.2.1 x.2.2.2.2:=by kernel_rfl
theorem qhe:ZaX X qgI X1i:=Zhr (ZgU xok qgK qgF qhc 12) fun x _ h=>((qhd x).trans (X4B x).symm).trans h
noncomputable def qhf {R:Type}:Prs S R:=PE.ps X qgI (fun x q=>(X1i x).bind q) qgE
theorem qhg {R:Type}:Z7R X (qhf (R:=R)):=Zhi (e:=qgI) qhe qgF
def qhh:StT S:=⟨(N (N (N L (some (.ptr 4 0)) L) vM (N L (some (.ptr 0 0)) L)) vM (N (N L (some (.ptr 1 0)) L) vM L)),o1k,5⟩
def qhi:Way S:=⟨.ret,⟨(N L (some (.tup [(.int .i64 0),(.bool false)])) L),o1k,5⟩,[.int,.bool,(.st 20),(.lst (.st 21)),.en,.int,(.mp (.st 23) (.int .i64))]⟩
def qhj:PE S:=⟨45,6,qhh,[.int,.int,.int,(.st 20),(.lst (.st 21)),.en,.int,(.mp (.st 23) (.int .i64))],[qhi]⟩
noncomputable def qhk:List (Nat×F7 S):=[(110,q5T),(57,q37)]
theorem qhl:Z9n X qhk:=⟨q5U,q38,trivial⟩
abbrev qhm (ih:tt→Option ty) {R:Type}:Z27 S R:=Zgi
theorem qhn (ih:tt→Option ty) (hih:ZaX X qhj ih) {R:Type}:Z3J X (qhm ih (R:=R)):=ZgQ X
def qho:Key:=⟨[45],45,none,[0,0,1,0,1,1],0,11⟩
def qhp:StT S:=⟨(N (N (N L none (N L vM L)) none (N L (some (.ptr 0 0)) L)) vM (N (N L (some (.ptr 1 0)) L) vM L)),o1k,11⟩
def qhq:Way S:=⟨.ret,⟨(N v1q none (N L none (N (N L vL L) none L))),o1k,39⟩,[.int,.bool,(.st 20),(.lst (.st 21)),.en,.int,(.mp (.st 23) (.int .i64))]⟩
def qhr:Way S:=⟨(.exit 0),⟨L,o1k,15⟩,[(.st 20),(.lst (.st 21)),.en,.int,(.mp (.st 23) (.int .i64))]⟩
def qhs:LE S:=⟨qho,qhp,[.int,.int,.int,(.st 20),(.lst (.st 21)),.en,.int,(.mp (.st 23) (.int .i64))],[qhq,qhr]⟩
def qht (x:tv):tc→tc:=Sum.elim (fun y0=>(.inl (y0.1,y0.2.1,y0.2.2.1,y0.2.2.2.1,y0.2.2.2.2.1,y0.2.2.2.2.2.1,y0.2.2.2.2.2.2))) (fun y1=>(.inr (y1.1,y1.2.1,y1.2.2.1,y1.2.2.2.1,y1.2.2.2.2)))
noncomputable def qhu (ih:tt→Option ty) {R:Type} (x:tv) (k:tc→Option R):Option R:=(X3f ih x.2.1 x.2.2.1 (x.1,x.2.2.2.1,x.2.2.2.2.1,x.2.2.2.2.2.1,x.2.2.2.2.2.2.1,x.2.2.2.2.2.2.2)).bind (Sum.elim (fun y0=>k (.inl (y0.1,y0.2.1,y0.2.2.1,y0.2.2.2.1,y0.2.2.2.2.1,y0.2.2.2.2.2.1,y0.2.2.2.2.2.2))) (fun y1=>k (.inr (y1.1,y1.2.1,y1.2.2.1,y1.2.2.2.1,y1.2.2.2.2))))
def qhv (x:tv) (v:(Int×ZJ×(List Zn)×(Nat→Nat)×Int×t1d)):tv:=(v.1,x.2.1,x.2.2.1,v.2.1,v.2.2.1,v.2.2.2.1,v.2.2.2.2.1,v.2.2.2.2.2)
theorem qhw (ih:tt→Option ty) (x:tv):LE.step X qhs qhk (PE.ps X qhj (fun x q=>(ih x).bind q) qhf) (qhm ih) 12 x=X1I ih x.2.1 x.2.2.1 x.1 x.2.2.2.1 x.2.2.2.2.1 x.2.2.2.2.2.1 x.2.2.2.2.2.2.1 x.2.2.2.2.2.2.2 (fun w0 w1 w2 w3 w4 w5=>(Sum.inl (w0,x.2.1,x.2.2.1,w1,w2,w3,w4,w5))) (fun p0 p1 p2 p3 p4 p5 p6=>(Sum.inr (.inl (p0,p1,p2,p3,p4,p5,p6)))) (fun p0 p1 p2 p3 p4=>(Sum.inr (.inr (p0,p1,p2,p3,p4)))):=by kernel_rfl
theorem qhy (ih:tt→Option ty) {R:Type} (x:tv) (k:tc→Option R) (r:R) (h:qhu ih x k=some r):∃ o,Z5s (LE.step X qhs qhk (PE.ps X qhj (fun x q=>(ih x).bind q) qhf) (qhm ih) 12) x o∧k o=some r:=by
 obtain ⟨o,h1,h2⟩:=Z0 h
 exact ⟨qht x o,Zhl (st:=fun (x:tv)=>X24 ih x.2.1 x.2.2.1) (prj:=fun x=>(x.1,x.2.2.2.1,x.2.2.2.2.1,x.2.2.2.2.2.1,x.2.2.2.2.2.2.1,x.2.2.2.2.2.2.2)) (emb:=qhv) (embO:=qht) (fun x=>(qhw ih x).trans (by unfold X24 X1I;simp only [Zhd,Zh8,Zhe,Option.map_some,Option.map_none];rfl)) (fun _ _=>rfl) (fun _ _=>rfl) (fun _ _ _=>rfl) (fun _ _ _=>rfl) (fun _=>rfl) (Z1S.1 h1),by
  first
  | exact h2
  | (rcases o with o|o<;>exact h2)⟩
noncomputable def qhz (ih:tt→Option ty) {R:Type}:Z27 S R:=LE.ls X qhs (qhu ih) (qhm ih)
theorem qhA (ih:tt→Option ty) (hih:ZaX X qhj ih) {R:Type}:Z3J X (qhz ih (R:=R)):=Zhq xok qhl (e:=qhs) (Zhi (e:=qhj) hih qhg) (qhn ih hih) (qhy ih) (qhn ih hih)
theorem qhB (ih:tt→Option ty) (x:tv):PE.step X qhj qhk (PE.ps X qhj (fun x q=>(ih x).bind q) qhf) (qhz ih) 12 x=X3X ih x.1 x.2.1 x.2.2.1 x.2.2.2.1 x.2.2.2.2.1 x.2.2.2.2.2.1 x.2.2.2.2.2.2.1 x.2.2.2.2.2.2.2:=by kernel_rfl
theorem qhC:ZaX X qhj X5h:=Zhj (X:=X) (e:=qhj) (t:=X3Y) fun ih hih=>Zhr (ZgU xok qhl (Zhi (e:=qhj) hih qhg) (qhA ih hih) 12) fun x _ h=>(qhB ih x).trans h
noncomputable def qhD {R:Type}:Prs S R:=PE.ps X qhj (fun x q=>(X5h x).bind q) qhf
theorem qhE {R:Type}:Z7R X (qhD (R:=R)):=Zhi (e:=qhj) qhC qhg
noncomputable def qhF:List (Nat×F7 S):=[]
theorem qhG:Z9n X (qhF):=trivial
abbrev qhH {R:Type}:Z27 S R:=Zgi
theorem qhI {R:Type}:Z3J X (qhH (R:=R)):=ZgQ X
def qhJ:Key:=⟨[84],84,none,[0,0,1,0,1,1,1],0,9⟩
def qhK:StT S:=⟨(N (N (N L vM L) none L) (some (.sl (.int .i64) [])) (N (N L vM L) none L)),L,9⟩
def qhL:Way S:=⟨(.exit 0),⟨v1p,L,13⟩,[.int]⟩
def qhM:LE S:=⟨qhJ,qhK,[.int,(.lst (.int .i64)),.int],[qhL]⟩
def qhN (x:t1c):Int→Int:=fun y0=>y0
noncomputable def qhO {R:Type} (x:t1c) (k:Int→Option R):Option R:=(X2n x.2.1 (x.1,x.2.2)).bind (fun y0=>k y0)
def qhP (x:t1c) (v:(Int×Int)):t1c:=(v.1,x.2.1,v.2)
theorem qhQ (x:t1c):LE.step X qhM qhF qhD qhH 12 x=WV x.2.1 x.1 x.2.2 (fun w0 w1=>(Sum.inl (w0,x.2.1,w1))) (fun p0=>(Sum.inr p0)):=by kernel_rfl
theorem qhS {R:Type} (x:t1c) (k:Int→Option R) (r:R) (h:qhO x k=some r):∃ o,Z5s (LE.step X qhM qhF qhD qhH 12) x o∧k o=some r:=by
 obtain ⟨o,h1,h2⟩:=Z0 h
 exact ⟨qhN x o,Zhl (st:=fun (x:t1c)=>X1p x.2.1) (prj:=fun x=>(x.1,x.2.2)) (emb:=qhP) (embO:=qhN) (fun x=>(qhQ x).trans (by unfold X1p WV;simp only [Zhd,Zh8,Zhe,Option.map_some,Option.map_none];rfl)) (fun _ _=>rfl) (fun _ _=>rfl) (fun _ _ _=>rfl) (fun _ _ _=>rfl) (fun _=>rfl) (Z1S.1 h1),by
  first
  | exact h2
  | (rcases o with o<;>exact h2)⟩
noncomputable def qhT {R:Type}:Z27 S R:=LE.ls X qhM qhO qhH
theorem qhU {R:Type}:Z3J X (qhT (R:=R)):=Zhq xok qhG (e:=qhM) qhE qhI qhS qhI
theorem qhV (x0:List Int):Zhs X qhF [(.sl (.int .i64))] [(.int .i64)] qhD qhT 12 84 (x0,())=WH x0:=by kernel_rfl
noncomputable def qhW:F7 S:=⟨[(.sl (.int .i64))],[(.int .i64)],fun xs=>X2L xs.1⟩
theorem qhX:Z7Q X 84 qhW:=Zho (Zhn xok qhG qhE qhU 12 84) fun xs _ h=>((qhV xs.1).trans (X5c xs.1).symm).trans h
def qhY:StT S:=⟨(N (N (N L vM L) vK L) (some (.ptr 1 0)) (N L vM L)),(N (N L o3 L) oo L),2⟩
def qhZ:Way S:=⟨.ret,⟨(N L vM L),(N (N L o3 L) oo L),2⟩,[.int,(.st 20),(.lst (.st 21)),.en,(.mp (.st 23) (.int .i64))]⟩
def qi0:PE S:=⟨50,4,qhY,[.int,(.lst (.st 2)),.int,(.st 20),(.lst (.st 21)),.en,(.mp (.st 23) (.int .i64))],[qhZ]⟩
noncomputable def qi1:List (Nat×F7 S):=[(110,q5T),(57,q37),(84,qhW)]
theorem qi2:Z9n X qi1:=⟨q5U,q38,qhX,trivial⟩
abbrev qi3 {R:Type}:Z27 S R:=Zgi
theorem qi4 {R:Type}:Z3J X (qi3 (R:=R)):=ZgQ X
def qi5:Key:=⟨[50],50,none,[0,0,1,1,1,1,1,0,0,1,1,0,0,1,0,1,1],2,39⟩
def qi6:StT S:=⟨(N (N (N L vM v1q) none (N (N (N L vM L) (some (.ptr 3 0)) L) none L)) (some (.ptr 1 0)) (N (N (N (N L vK L) none L) none (N L (some (.ptr 18 0)) (N (N L vM L) none L))) vM (N (N (N L vM L) none L) none (N L vM L)))),o19,39⟩
def qi7:Way S:=⟨(.exit 2),⟨vR,o19,40⟩,[.int,.int,(.lst (.st 2)),.int,.int,(.arr (.int .i64)),(.st 20),(.lst (.st 21)),.en,(.mp (.st 23) (.int .i64)),(.arr (.st 5)),(.st 2)]⟩
def qi8:LE S:=⟨qi5,qi6,[.int,.int,.int,(.lst (.st 2)),.int,.int,.int,.int,(.arr (.int .i64)),(.st 20),(.lst (.st 21)),.en,(.mp (.st 23) (.int .i64)),(.arr (.st 5)),(.st 2)],[qi7]⟩
def qi9 (x:td):(Nat→Int)→te:=fun y0=>(x.1,x.2.2.1,x.2.2.2.1,x.2.2.2.2.2.1,x.2.2.2.2.2.2.1,y0,x.2.2.2.2.2.2.2.2.2.1,x.2.2.2.2.2.2.2.2.2.2.1,x.2.2.2.2.2.2.2.2.2.2.2.1,x.2.2.2.2.2.2.2.2.2.2.2.2.1,x.2.2.2.2.2.2.2.2.2.2.2.2.2.1,x.2.2.2.2.2.2.2.2.2.2.2.2.2.2)
noncomputable def qia {R:Type} (x:td) (k:te→Option R):Option R:=(X2w x.1 x.2.1 x.2.2.1 x.2.2.2.1 x.2.2.2.2.2.1 x.2.2.2.2.2.2.1 x.2.2.2.2.2.2.2.1 x.2.2.2.2.2.2.2.2.2.1 x.2.2.2.2.2.2.2.2.2.2.1 x.2.2.2.2.2.2.2.2.2.2.2.1 x.2.2.2.2.2.2.2.2.2.2.2.2.1 x.2.2.2.2.2.2.2.2.2.2.2.2.2.1 x.2.2.2.2.2.2.2.2.2.2.2.2.2.2 (x.2.2.2.2.1,x.2.2.2.2.2.2.2.2.1)).bind (fun y0=>k (x.1,x.2.2.1,x.2.2.2.1,x.2.2.2.2.2.1,x.2.2.2.2.2.2.1,y0,x.2.2.2.2.2.2.2.2.2.1,x.2.2.2.2.2.2.2.2.2.2.1,x.2.2.2.2.2.2.2.2.2.2.2.1,x.2.2.2.2.2.2.2.2.2.2.2.2.1,x.2.2.2.2.2.2.2.2.2.2.2.2.2.1,x.2.2.2.2.2.2.2.2.2.2.2.2.2.2))
def qib (x:td) (v:(Int×(Nat→Int))):td:=(x.1,x.2.1,x.2.2.1,x.2.2.2.1,v.1,x.2.2.2.2.2.1,x.2.2.2.2.2.2.1,x.2.2.2.2.2.2.2.1,v.2,x.2.2.2.2.2.2.2.2.2.1,x.2.2.2.2.2.2.2.2.2.2.1,x.2.2.2.2.2.2.2.2.2.2.2.1,x.2.2.2.2.2.2.2.2.2.2.2.2.1,x.2.2.2.2.2.2.2.2.2.2.2.2.2.1,x.2.2.2.2.2.2.2.2.2.2.2.2.2.2)
theorem qic (x:td):LE.step X qi8 qi1 qhD qi3 12 x=X12 x.1 x.2.1 x.2.2.1 x.2.2.2.1 x.2.2.2.2.2.1 x.2.2.2.2.2.2.1 x.2.2.2.2.2.2.2.1 x.2.2.2.2.2.2.2.2.2.1 x.2.2.2.2.2.2.2.2.2.2.1 x.2.2.2.2.2.2.2.2.2.2.2.1 x.2.2.2.2.2.2.2.2.2.2.2.2.1 x.2.2.2.2.2.2.2.2.2.2.2.2.2.1 x.2.2.2.2.2.2.2.2.2.2.2.2.2.2 x.2.2.2.2.1 x.2.2.2.2.2.2.2.2.1 (fun w0 w1=>(Sum.inl (x.1,x.2.1,x.2.2.1,x.2.2.2.1,w0,x.2.2.2.2.2.1,x.2.2.2.2.2.2.1,x.2.2.2.2.2.2.2.1,w1,x.2.2.2.2.2.2.2.2.2.1,x.2.2.2.2.2.2.2.2.2.2.1,x.2.2.2.2.2.2.2.2.2.2.2.1,x.2.2.2.2.2.2.2.2.2.2.2.2.1,x.2.2.2.2.2.2.2.2.2.2.2.2.2.1,x.2.2.2.2.2.2.2.2.2.2.2.2.2.2))) (fun p0=>(Sum.inr (x.1,x.2.2.1,x.2.2.2.1,x.2.2.2.2.2.1,x.2.2.2.2.2.2.1,p0,x.2.2.2.2.2.2.2.2.2.1,x.2.2.2.2.2.2.2.2.2.2.1,x.2.2.2.2.2.2.2.2.2.2.2.1,x.2.2.2.2.2.2.2.2.2.2.2.2.1,x.2.2.2.2.2.2.2.2.2.2.2.2.2.1,x.2.2.2.2.2.2.2.2.2.2.2.2.2.2))):=by kernel_rfl
theorem qie {R:Type} (x:td) (k:te→Option R) (r:R) (h:qia x k=some r):∃ o,Z5s (LE.step X qi8 qi1 qhD qi3 12) x o∧k o=some r:=by
 obtain ⟨o,h1,h2⟩:=Z0 h
 exact ⟨qi9 x o,Zhl (st:=fun (x:td)=>X1z x.1 x.2.1 x.2.2.1 x.2.2.2.1 x.2.2.2.2.2.1 x.2.2.2.2.2.2.1 x.2.2.2.2.2.2.2.1 x.2.2.2.2.2.2.2.2.2.1 x.2.2.2.2.2.2.2.2.2.2.1 x.2.2.2.2.2.2.2.2.2.2.2.1 x.2.2.2.2.2.2.2.2.2.2.2.2.1 x.2.2.2.2.2.2.2.2.2.2.2.2.2.1 x.2.2.2.2.2.2.2.2.2.2.2.2.2.2) (prj:=fun x=>(x.2.2.2.2.1,x.2.2.2.2.2.2.2.2.1)) (emb:=qib) (embO:=qi9) (fun x=>(qic x).trans (by unfold X1z X12;simp only [Zhd,Zh8,Zhe,Option.map_some,Option.map_none];rfl)) (fun _ _=>rfl) (fun _ _=>rfl) (fun _ _ _=>rfl) (fun _ _ _=>rfl) (fun _=>rfl) (Z1S.1 h1),by
  first
  | exact h2
  | (rcases o with o<;>exact h2)⟩
noncomputable def qif {R:Type}:Z27 S R:=LE.ls X qi8 qia qi3
theorem qig {R:Type}:Z3J X (qif (R:=R)):=Zhq xok qi2 (e:=qi8) qhE qi4 qie qi4
def qih:Key:=⟨[50],50,none,[0,0,1,0,1,1],0,7⟩
def qii:StT S:=⟨vR,(N (N (N L o6 L) o3 L) oo L),7⟩
def qij:Way S:=⟨(.exit 0),⟨(N (N L none v1n) none L),(N (N (N L o6 L) o3 L) oo L),8⟩,[(.arr (.int .i64)),(.st 20),(.lst (.st 21)),.en,(.mp (.st 23) (.int .i64))]⟩
def qik:LE S:=⟨qih,qii,[.int,.int,(.lst (.st 2)),.int,.int,(.arr (.int .i64)),(.st 20),(.lst (.st 21)),.en,(.mp (.st 23) (.int .i64))],[qij]⟩
def qil (x:tl):tD→tD:=fun y0=>(y0.1,y0.2.1,y0.2.2.1,y0.2.2.2.1,y0.2.2.2.2)
noncomputable def qim {R:Type} (x:tl) (k:tD→Option R):Option R:=(X2v x.1 x.2.1 x.2.2.1 x.2.2.2.1 (x.2.2.2.2.1,x.2.2.2.2.2.1,x.2.2.2.2.2.2.1,x.2.2.2.2.2.2.2.1,x.2.2.2.2.2.2.2.2.1,x.2.2.2.2.2.2.2.2.2)).bind (fun y0=>k (y0.1,y0.2.1,y0.2.2.1,y0.2.2.2.1,y0.2.2.2.2))
def qin (x:tl) (v:(Int×(Nat→Int)×ZJ×(List Zn)×(Nat→Nat)×t1d)):tl:=(x.1,x.2.1,x.2.2.1,x.2.2.2.1,v.1,v.2.1,v.2.2.1,v.2.2.2.1,v.2.2.2.2.1,v.2.2.2.2.2)
theorem qio (x:tl):LE.step X qik qi1 qhD qif 12 x=X11 x.1 x.2.1 x.2.2.1 x.2.2.2.1 x.2.2.2.2.1 x.2.2.2.2.2.1 x.2.2.2.2.2.2.1 x.2.2.2.2.2.2.2.1 x.2.2.2.2.2.2.2.2.1 x.2.2.2.2.2.2.2.2.2 (fun w0 w1 w2 w3 w4 w5=>(Sum.inl (x.1,x.2.1,x.2.2.1,x.2.2.2.1,w0,w1,w2,w3,w4,w5))) (fun p0 p1 p2 p3 p4=>(Sum.inr (p0,p1,p2,p3,p4))):=by kernel_rfl
theorem qiq {R:Type} (x:tl) (k:tD→Option R) (r:R) (h:qim x k=some r):∃ o,Z5s (LE.step X qik qi1 qhD qif 12) x o∧k o=some r:=by
 obtain ⟨o,h1,h2⟩:=Z0 h
 exact ⟨qil x o,Zhl (st:=fun (x:tl)=>X1y x.1 x.2.1 x.2.2.1 x.2.2.2.1) (prj:=fun x=>(x.2.2.2.2.1,x.2.2.2.2.2.1,x.2.2.2.2.2.2.1,x.2.2.2.2.2.2.2.1,x.2.2.2.2.2.2.2.2.1,x.2.2.2.2.2.2.2.2.2)) (emb:=qin) (embO:=qil) (fun x=>(qio x).trans (by unfold X1y X11;simp only [Zhd,Zh8,Zhe,Option.map_some,Option.map_none];rfl)) (fun _ _=>rfl) (fun _ _=>rfl) (fun _ _ _=>rfl) (fun _ _ _=>rfl) (fun _=>rfl) (Z1S.1 h1),by
  first
  | exact h2
  | (rcases o with o<;>exact h2)⟩
noncomputable def qir {R:Type}:Z27 S R:=LE.ls X qik qim qif
theorem qis {R:Type}:Z3J X (qir (R:=R)):=Zhq xok qi2 (e:=qik) qhE qig qiq qig
theorem qit (x:(Int×(List Zu)×Int×ZJ×(List Zn)×(Nat→Nat)×t1d)):PE.step X qi0 qi1 qhD qir 12 x=WW x.1 x.2.1 x.2.2.1 x.2.2.2.1 x.2.2.2.2.1 x.2.2.2.2.2.1 x.2.2.2.2.2.2:=by kernel_rfl
theorem qiu:ZaX X qi0 X2Y:=Zhr (ZgU xok qi2 qhE qis 12) fun x _ h=>((qit x).trans (X5i x).symm).trans h
noncomputable def qiv {R:Type}:Prs S R:=PE.ps X qi0 (fun x q=>(X2Y x).bind q) qhD
theorem qiw {R:Type}:Z7R X (qiv (R:=R)):=Zhi (e:=qi0) qiu qhE
noncomputable def qix:List (Nat×F7 S):=[]
theorem qiy:Z9n X (qix):=trivial
abbrev qiz {R:Type}:Z27 S R:=Zgi
theorem qiA {R:Type}:Z3J X (qiz (R:=R)):=ZgQ X
def qiB:Key:=⟨[34],34,none,[0,0,1,0,1,1],0,7⟩
def qiC:StT S:=⟨(N (N L (some (.sl (.st 5) [])) (N L vM L)) (some (.sl (.st 5) [])) L),L,7⟩
def qiD:Way S:=⟨.ret,⟨(N L none (N (N L vL L) none L)),L,21⟩,[.bool]⟩
def qiE:Way S:=⟨(.exit 0),⟨L,L,11⟩,[]⟩
def qiF:LE S:=⟨qiB,qiC,[(.lst (.st 5)),.int,(.lst (.st 5))],[qiD,qiE]⟩
def qiG (x:t13):(Bool⊕Unit)→(Bool⊕Unit):=Sum.elim (fun y0=>(.inl y0)) (fun y1=>(.inr ()))
noncomputable def qiH {R:Type} (x:t13) (k:(Bool⊕Unit)→Option R):Option R:=(X2I x.1 x.2.2 x.2.1).bind (Sum.elim (fun y0=>k (.inl y0)) (fun y1=>k (.inr ())))
def qiI (x:t13) (v:Int):t13:=(x.1,v,x.2.2)
theorem qiJ (x:t13):LE.step X qiF qix qiv qiz 12 x=Wx x.1 x.2.2 x.2.1 (fun w0=>(Sum.inl (x.1,w0,x.2.2))) (fun p0=>(Sum.inr (.inl p0))) (Sum.inr (.inr ())):=by kernel_rfl
theorem qiL {R:Type} (x:t13) (k:(Bool⊕Unit)→Option R) (r:R) (h:qiH x k=some r):∃ o,Z5s (LE.step X qiF qix qiv qiz 12) x o∧k o=some r:=by
 obtain ⟨o,h1,h2⟩:=Z0 h
 exact ⟨qiG x o,Zhl (st:=fun (x:t13)=>Wg x.1 x.2.2) (prj:=fun x=>x.2.1) (emb:=qiI) (embO:=qiG) (fun x=>(qiJ x).trans (by unfold Wg Wx;simp only [Zhd,Zh8,Zhe,Option.map_some,Option.map_none];rfl)) (fun _ _=>rfl) (fun _ _=>rfl) (fun _ _ _=>rfl) (fun _ _ _=>rfl) (fun _=>rfl) (Z1S.1 h1),by
  first
  | exact h2
  | (rcases o with o|o<;>exact h2)⟩
noncomputable def qiM {R:Type}:Z27 S R:=LE.ls X qiF qiH qiz
theorem qiN {R:Type}:Z3J X (qiM (R:=R)):=Zhq xok qiy (e:=qiF) qiw qiA qiL qiA
theorem qiO (x0:List ZE) (x1:List ZE):Zhs X qix [(.sl (.st 5)),(.sl (.st 5))] [.bool] qiv qiM 12 34 (x0,x1,())=X1S x0 x1:=by kernel_rfl
noncomputable def qiP:F7 S:=⟨[(.sl (.st 5)),(.sl (.st 5))],[.bool],fun xs=>X4o xs.1 xs.2.1⟩
theorem qiQ:Z7Q X 34 qiP:=Zho (Zhn xok qiy qiw qiN 12 34) fun xs _ h=>((qiO xs.1 xs.2.1).trans (X5p xs.1 xs.2.1).symm).trans h
noncomputable def qiR:F7 S:=⟨[],[.bool],fun _=>X6j⟩
theorem qiS:Z7Q X 14 qiR:=ZeO (X:=X) (F:=X6j) rfl Zdy
noncomputable def qiT:List (Nat×F7 S):=[(29,q4C),(57,q37),(82,q53)]
theorem qiU:Z9n X (qiT):=⟨q4D,q38,q54,trivial⟩
abbrev qiV {R:Type}:Z27 S R:=Zgi
theorem qiW {R:Type}:Z3J X (qiV (R:=R)):=ZgQ X
theorem qiX (x0:ZJ) (x1:List Zn):Zhs X qiT [(.st 20),(.sl (.st 21))] [(.int .i64),(.int .i64)] qiv qiV 12 31 (x0,x1,())=Wp x0 x1:=by kernel_rfl
noncomputable def qiY:F7 S:=⟨[(.st 20),(.sl (.st 21))],[(.int .i64),(.int .i64)],fun xs=>X2z xs.1 xs.2.1⟩
theorem qiZ:Z7Q X 31 qiY:=Zho (Zhn xok qiU qiw qiW 12 31) fun xs _ h=>((qiX xs.1 xs.2.1).trans (X3V xs.1 xs.2.1).symm).trans h
noncomputable def qj0:List (Nat×F7 S):=[(32,qeg),(76,qa5),(77,qfJ)]
theorem qj1:Z9n X (qj0):=⟨qeh,qa6,qfK,trivial⟩
abbrev qj2 {R:Type}:Z27 S R:=Zgi
theorem qj3 {R:Type}:Z3J X (qj2 (R:=R)):=ZgQ X
def qj4:Key:=⟨[33],33,none,[0,0,1,0,1,1,1,1,1],0,23⟩
def qj5:StT S:=⟨(N (N (N L (some (.ptr 0 0)) (N L vM L)) vJ (N L (some (.ptr 1 0)) L)) none (N L none (N (N L (some (.rs 23 0)) L) none L))),(N (N o1w oj L) oc L),24⟩
def qj6:Way S:=⟨.ret,⟨(N v1p none (N L none (N L (some .nils) L))),(N (N o1w oj (N L none (N (N (N L (some (.row 4 .bool [] 1 0)) L) none L) none L))) oc L),45⟩,[.int,(.lst (.st 5)),(.st 2),(.lst .bool),(.st 20)]⟩
def qj7:Way S:=⟨(.exit 0),⟨(N L none (N L none (N (N L (some (.rs 23 0)) L) none L))),(N (N o1w oj L) oc L),29⟩,[(.lst (.st 5)),(.st 2),(.st 20)]⟩
def qj8:LE S:=⟨qj4,qj5,[.int,(.lst (.st 21)),(.lst (.st 5)),(.st 2),(.st 20)],[qj6,qj7]⟩
def qj9 (x:tQ):((Int×(List ZE)×(List Bool))⊕(List ZE))→tA:=Sum.elim (fun y0=>(.inl (y0.1,y0.2.1,x.2.2.2.1,y0.2.2,x.2.2.2.2))) (fun y1=>(.inr (y1,x.2.2.2.1,x.2.2.2.2)))
noncomputable def qja {R:Type} (x:tQ) (k:tA→Option R):Option R:=(X21 x.2.1 x.2.2.2.1 x.2.2.2.2 (x.1,x.2.2.1)).bind (Sum.elim (fun y0=>k (.inl (y0.1,y0.2.1,x.2.2.2.1,y0.2.2,x.2.2.2.2))) (fun y1=>k (.inr (y1,x.2.2.2.1,x.2.2.2.2))))
def qjb (x:tQ) (v:(Int×(List ZE))):tQ:=(v.1,x.2.1,v.2,x.2.2.2.1,x.2.2.2.2)
theorem qjc (x:tQ):LE.step X qj8 qj0 qiv qj2 12 x=WU x.2.1 x.2.2.2.1 x.2.2.2.2 x.1 x.2.2.1 (fun w0 w1=>(Sum.inl (w0,x.2.1,w1,x.2.2.2.1,x.2.2.2.2))) (fun p0 p1 p2=>(Sum.inr (.inl (p0,p1,x.2.2.2.1,p2,x.2.2.2.2)))) (fun p0=>(Sum.inr (.inr (p0,x.2.2.2.1,x.2.2.2.2)))):=by kernel_rfl
theorem qje {R:Type} (x:tQ) (k:tA→Option R) (r:R) (h:qja x k=some r):∃ o,Z5s (LE.step X qj8 qj0 qiv qj2 12) x o∧k o=some r:=by
 obtain ⟨o,h1,h2⟩:=Z0 h
 exact ⟨qj9 x o,Zhl (st:=fun (x:tQ)=>WK x.2.1 x.2.2.2.1 x.2.2.2.2) (prj:=fun x=>(x.1,x.2.2.1)) (emb:=qjb) (embO:=qj9) (fun x=>(qjc x).trans (by unfold WK WU;simp only [Zhd,Zh8,Zhe,Option.map_some,Option.map_none];rfl)) (fun _ _=>rfl) (fun _ _=>rfl) (fun _ _ _=>rfl) (fun _ _ _=>rfl) (fun _=>rfl) (Z1S.1 h1),by
  first
  | exact h2
  | (rcases o with o|o<;>exact h2)⟩
noncomputable def qjf {R:Type}:Z27 S R:=LE.ls X qj8 qja qj2
theorem qjg {R:Type}:Z3J X (qjf (R:=R)):=Zhq xok qj1 (e:=qj8) qiw qj3 qje qj3
theorem qjh (x0:ZJ) (x1:List Zn) (x2:Zu):Zhs X qj0 [(.st 20),(.sl (.st 21)),(.st 2)] [(.sl (.st 5)),(.int .i64)] qiv qjf 12 33 (x0,x1,x2,())=X29 x0 x1 x2:=by kernel_rfl
noncomputable def qji:F7 S:=⟨[(.st 20),(.sl (.st 21)),(.st 2)],[(.sl (.st 5)),(.int .i64)],fun xs=>X4V xs.1 xs.2.1 xs.2.2.1⟩
theorem qjj:Z7Q X 33 qji:=Zho (Zhn xok qj1 qiw qjg 12 33) fun xs _ h=>((qjh xs.1 xs.2.1 xs.2.2.1).trans (X5G xs.1 xs.2.1 xs.2.2.1).symm).trans h
noncomputable def qjk:List (Nat×F7 S):=[(29,q4C),(30,qdw),(31,qiY),(32,qeg),(23,qg7),(33,qji),(34,qiP),(14,qiR)]
theorem qjl:Z9n X (qjk):=⟨q4D,qdx,qiZ,qeh,qg8,qjj,qiQ,qiS,trivial⟩
abbrev qjm {R:Type}:Z27 S R:=Zgi
theorem qjn {R:Type}:Z3J X (qjm (R:=R)):=ZgQ X
theorem qjo (x0:ZJ) (x1:List Zn) (x2:Zu):Zhs X qjk [(.st 20),(.sl (.st 21)),(.st 2)] [.bool] qiv qjm 12 8 (x0,x1,x2,())=X1j x0 x1 x2:=by kernel_rfl
noncomputable def qjp:F7 S:=⟨[(.st 20),(.sl (.st 21)),(.st 2)],[.bool],fun xs=>X3p xs.1 xs.2.1 xs.2.2.1⟩
theorem X5P:Z7Q X 8 qjp:=Zho (Zhn xok qjl qiw qjn 12 8) fun xs _ h=>((qjo xs.1 xs.2.1 xs.2.2.1).trans (X4C xs.1 xs.2.1 xs.2.2.1).symm).trans h
end Nore
