/- The code comes to the plain functions. -/
import Derived.Test.YtehofdemanfenaaY
import Derived.Test.YtehofdemanfenaaD
import Derived.Test.YtehofdemanfenaaK6
set_option linter.unusedSectionVars false
set_option linter.unusedVariables false
set_option linter.unusedSimpArgs false
set_option maxRecDepth 100000
open Go Go.Ab Go.Proofs Go.Proofs.Ytehofdemanfenaa
open Go.Ab.Tr renaming node→N,leaf→L
namespace Nore
abbrev t1k:Type:=List (Zh×Int)
abbrev t1j:Type:=Int×(List Int)×Int
abbrev t1i:Type:=List (ByteArray×Int)
abbrev t1h:Type:=Int×Int×Int×Zw
abbrev t1g:Type:=Int×(List Zt)×Int
abbrev t1f:Type:=(Int×Int×Zt)⊕Unit
abbrev t1e:Type:=(List Zm)×Int×ZJ
abbrev t1d:Type:=Int×(List Zu)×Int×Int
abbrev t1c:Type:=Int×(List ByteArray)×ZJ
abbrev t1b:Type:=Int×Int×(List Zu)×Int
abbrev t1a:Type:=(Int×Int×Int)⊕(Int×Int)
abbrev t19:Type:=(Nat→Int)×(List Int)×ZJ
abbrev t18:Type:=Int×(List ByteArray)×Zl
abbrev t17:Type:=Int×Zl×(List ByteArray)
abbrev t16:Type:=Int×(List Zt)×Int×Zu
abbrev t15:Type:=(Nat→Zu)×Int×Int×Zu
abbrev t14:Type:=Int×ByteArray×ByteArray×Nat
abbrev t13:Type:=Int×(List Int)×Int×Int×Int
abbrev t12:Type:=ByteArray×Int×(List ByteArray)
abbrev t11:Type:=Int×Int×(List ZE)×Int×Int
abbrev t10:Type:=Int×(List Int)×(List Int)×ZJ
abbrev tZ:Type:=Int×(Nat→Int)×(List Int)×ZJ
abbrev tY:Type:=Int×(List Z5)×Int×ZJ
abbrev tX:Type:=Int×Int×Int×(List Zk)×(List Int)
abbrev tW:Type:=Int×(List Z5)×Int×Z5
abbrev tV:Type:=(Int×Z5×Z5)⊕Z5
abbrev tU:Type:=Int×Int×Int×t1i×CtSand
abbrev tT:Type:=(Int×(List Int)×Zu×(List Int)×Zt)⊕Zu
abbrev tS:Type:=(Int×Int×Z5×Z5×ZJ)⊕ZJ
abbrev tR:Type:=(List Zm)×Int×(List Int)×ZJ×(List Zm)
abbrev tQ:Type:=ZJ×(List Zm)×(Nat→Nat)×t1k
abbrev tP:Type:=Int×(List CtSand)×Int×Zl×t1i
abbrev tO:Type:=Int×Int×(List Zw)×Zl×t1i
abbrev tN:Type:=(Bool×ByteArray×Nat)⊕t14
abbrev tM:Type:=Int×Int×Int×(List ByteArray)×Zw×(List ByteArray)
abbrev tL:Type:=(List Zm)×Bool×Int×(List Int)×(List Zm)×ZJ
abbrev tK:Type:=Int×ZJ×(List Zm)×(Nat→Nat)×t1k
abbrev tJ:Type:=(List Zm)×Bool×Int×(List Int)×Int×(List Zm)×ZJ
abbrev tI:Type:=(Int×Int×Int×(List ByteArray)×ZJ)⊕((List ByteArray)×ZJ)
abbrev tH:Type:=(List Int)×Int×(List Zm)×Int×(List Int)×(Nat→Int)×ZJ
abbrev tG:Type:=(List Int)×(List Zm)×Int×(List Int)×Int×(Nat→Int)×ZJ
abbrev tF:Type:=(Nat→Int)×ZJ×(List Zm)×(Nat→Nat)×t1k
abbrev tE:Type:=(List Zu)×ZJ×(List Zm)×(Nat→Nat)×t1k
abbrev tD:Type:=(Int×Bool×ZJ×(List Zm)×(Nat→Nat)×Int×t1k)
abbrev tC:Type:=Int×(List Zu)×ZJ×(List Zm)×(Nat→Nat)×t1k
abbrev tB:Type:=Int×ZJ×(List Zm)×(Nat→Nat)×t1k×(List Zu)
abbrev tA:Type:=Int×Int×Int×ZJ×(List Zm)×(Nat→Nat)×Int×t1k
abbrev tz:Type:=(List Zm)×ZJ×ZJ×(List Zm)×(Nat→Nat)×t1k
abbrev ty:Type:=Int×Int×Int×t1k×ZJ×ZJ×(List Zm)×(Nat→Nat)
abbrev tx:Type:=tA
abbrev tw:Type:=Int×Z8×Bool×Int×Bool×Z8×Bool×Int×Z8×Z6
abbrev tv:Type:=Int×Int×ZJ×(List Zm)×(Nat→Nat)×t1k×(List Zu)
abbrev tu:Type:=Int×(List Zm)×Int×ZJ×(List Zm)×(Nat→Nat)×t1k
abbrev tt:Type:=Int×Int×ZJ×(List Zm)×(Nat→Nat)×t1k×Bool×Int×Int
abbrev ts:Type:=Int×Int×Int×(List Zm)×ZJ×(List Zm)×(Nat→Nat)×t1k
abbrev tr:Type:=Int×Int×(Nat→ZE)×ZJ×(List Zm)×(Nat→Nat)×t1k×Zu
abbrev tq:Type:=Int×Int×Int×ZJ×(List Zm)×(Nat→Nat)×t1k×Bool×Int×Int
abbrev tp:Type:=(Bool×(Nat→Int)×ZJ)⊕((List Int)×(List Zm)×Int×(List Int)×(Nat→Int)×ZJ)
abbrev to:Type:=Int×Int×Int×Bool×Int×t1k×ZJ×ZJ×(List Zm)×(Nat→Nat)
abbrev tn:Type:=Int×(List Int)×t1k×ZJ×(List Int)×ZJ×(List Zm)×(Nat→Nat)
abbrev tm:Type:=Int×Int×(List Zu)×Int×Int×(Nat→Int)×ZJ×(List Zm)×(Nat→Nat)×t1k
abbrev tl:Type:=Int×Int×(List Zu)×Int×Z8×Bool×Int×Bool×Z8×Bool×Int×Z8×Z6
abbrev tk:Type:=Int×Int×(List Zu)×Z8×Bool×Int×Bool×Z8×Bool×Int×Z8×(List Int)×Zu
abbrev tj:Type:=(List Z5)×(List Zm)×Int×Int×ZJ×ZJ×(List Zm)×(Nat→Nat)×t1k
abbrev ti:Type:=Int×Int×Int×Int×Int×(List Int)×t1k×ZJ×(List Int)×ZJ×(List Zm)×(Nat→Nat)
abbrev th:Type:=Int×Int×(List Zm)×Int×Int×(Nat→ZE)×ZJ×(List Zm)×(Nat→Nat)×t1k×Zu
abbrev tg:Type:=Int×Int×Int×Zl×(List Int)×Bool×Int×Bool×Zl×Int×Bool×(List Int)×Int×(List Zk)×Zw
abbrev tf:Type:=Int×Int×Int×Int×(List Z5)×(Nat→ZE)×ZJ×(List Zm)×(Nat→Nat)×t1k×Zu
abbrev te:Type:=Int×Int×(List Zu)×Int×Int×(Nat→Int)×ZJ×(List Zm)×(Nat→Nat)×t1k×(Nat→ZE)×Zu
abbrev td:Type:=Int×Int×Int×(List Zu)×Int×Int×Int×Int×(Nat→Int)×ZJ×(List Zm)×(Nat→Nat)×t1k×(Nat→ZE)×Zu
abbrev tc:Type:=(Int×Bool×ZJ×(List Zm)×(Nat→Nat)×Int×t1k)⊕(ZJ×(List Zm)×(Nat→Nat)×Int×t1k)
abbrev tb:Type:=(Int×Int×ZJ×(List Zm)×(Nat→Nat)×Zm×Zm×t1k)⊕tQ
abbrev ta:Type:=(Int×Int×Int×(List ByteArray)×(List ByteArray)×Zl)⊕(Int×Int×Int×(List ByteArray)×(List ByteArray)×Zl)⊕((List ByteArray)×Zl)
abbrev t9:Type:=(Int×(List Int)×(List Int)×Zk)⊕(Int×(List Int)×(List Int)×(List Int)×Zk)⊕(Int×(List Int)×(List Int)×(List Int)×Zk)⊕(List Int)
abbrev t8:Type:=(Int×Int×Int×(List ByteArray)×ZJ×(List ByteArray)×Z5)⊕(Int×Int×Int×(List ByteArray)×ZJ×(List ByteArray)×Z5)⊕((List ByteArray)×ZJ)
abbrev t7:Type:=(Int×ZJ×(List Zm)×(Nat→Nat)×(Nat→ZE)×Zu×t1k×Bool×Int×Int)⊕(Int×ZJ×(List Zm)×(Nat→Nat)×t1k×Bool×Int×Int)
abbrev t6:Type:=(Z8×Bool×Int×Bool×Z8×Bool×Int×Z8×Zu×Z6×(List Int)×Zu)⊕(Z8×Bool×Int×Bool×Z8×Bool×Int×Z8×(List Int)×Zu)
abbrev t5:Type:=(Int×ZJ×(List Zm)×(Nat→Nat)×(Nat→ZE)×Zu×t1k×Bool×Int×Int)⊕tt
abbrev t4:Type:=(Int×Int×Int×Zl×t1i×CtSand)⊕(Int×Int×Int×Zl×t1i×CtSand)⊕(Int×Int×Int×Zl×t1i×CtSand)⊕(Zl×t1i)
abbrev t3:Type:=(Zk×Int×Int×Zl×(List Int)×Bool×Int×Bool×Zl×Int×Bool×(List Int)×Int×(List Zk)×Zw)⊕(Int×Int×Zl×(List Int)×Bool×Int×Bool×Zl×Int×Bool×(List Int)×Int×(List Zk)×Zw)
abbrev t2:Type:=(Int×Int×Int×(List ByteArray)×Zw×Zl×(List ByteArray))⊕(Int×Int×Int×(List ByteArray)×Zw×Zl×(List ByteArray))⊕(Int×Int×Int×(List ByteArray)×Zw×Zl×(List ByteArray))⊕(Zl×(List ByteArray))
abbrev t1:Type:=(Bool×(Nat→ZE)×ZJ×(List Zm)×(Nat→Nat)×ZE×t1k×Zu×Zm)⊕(Bool×(Nat→ZE)×ZJ×(List Zm)×(Nat→Nat)×ZE×t1k×Zu×Zm)⊕((Nat→ZE)×ZJ×(List Zm)×(Nat→Nat)×t1k×Zu)
abbrev t0:Type:=(Int×Int×Int×Zw×Zl×t1i)⊕(Int×Int×Int×Zw×Zl×t1i)⊕(Int×Int×Int×Zw×Zl×t1i×(List Zu))⊕(Int×Int×Int×Zw×Zl×t1i×(List Zu))⊕(Zl×t1i)
abbrev vR:Option (TV S):=some (.bool false)
abbrev vQ:Option (TV S):=some (.int .i64 0)
abbrev vP:Option (TV S):=some (.sl (.st 2) [])
abbrev vO:Option (TV S):=some (.sl (.st 18) [])
abbrev vN:Option (TV S):=some (.sl (.st 21) [])
abbrev vM:Option (TV S):=some (.sl (.int .i64) [])
abbrev oL:Option (Zi S):=some (.row 9 .str [] 1 1)
abbrev oK:Option (Zi S):=some (.row 9 .str [] 0 0)
abbrev oJ:Option (Zi S):=some (.row 9 .str [] 1 0)
abbrev vI:Option (TV S):=some (.str ByteArray.empty)
abbrev oH:Option (Zi S):=some (.cells 181 [(.map 4)])
abbrev oG:Option (Zi S):=some (.cells 94 [(.ptr 3 0)])
abbrev oF:Option (Zi S):=some (.cells 94 [(.ptr 1 0)])
abbrev oE:Option (Zi S):=some (.row 43 (.st 2) [] 1 0)
abbrev oD:Option (Zi S):=some (.row 36 (.st 21) [] 1 0)
abbrev oC:Option (Zi S):=some (.cells 94 [(.ptr 14 0)])
abbrev oB:Option (Zi S):=some (.cells 94 [(.ptr 20 0)])
abbrev oA:Option (Zi S):=some (.cells 4 [(.bool false)])
abbrev oz:Option (Zi S):=some (.map .str (.int .i64) [])
abbrev oy:Option (Zi S):=some (.cells 3 [(.int .i64 0)])
abbrev ox:Option (Zi S):=some (.siter ByteArray.empty 0)
abbrev ow:Option (Zi S):=some (.cells 23 [(.int .i64 0)])
abbrev ov:Option (Zi S):=some (.row 3 (.int .i64) [] 1 0)
abbrev vu:Option (TV S):=some (.agg [(.stc 2 (T.dflt 2))])
abbrev vt:Option (TV S):=some (.agg [(.stc 8 (T.dflt 8))])
abbrev vs:Option (TV S):=some (.agg [(.stc 21 (T.dflt 21))])
abbrev or:Option (Zi S):=some (.map (.st 23) (.int .i64) [])
abbrev oq:Option (Zi S):=some (.cells 70 [(.sl (.st 3) [])])
abbrev vp:Option (TV S):=some (.agg [(.stc 15 (T.dflt 15))])
abbrev vo:Option (TV S):=some (.fn (.func 101) [] [(.ptr 5 0)])
abbrev on:Option (Zi S):=some (.cells 99 [(.stc 3 (T.dflt 3))])
abbrev om:Option (Zi S):=some (.cells 43 [(.stc 2 (T.dflt 2))])
abbrev ol:Option (Zi S):=some (.cells 72 [(.stc 4 (T.dflt 4))])
abbrev ok:Option (Zi S):=some (.cells 29 [(.stc 8 (T.dflt 8))])
abbrev oj:Option (Zi S):=some (.cells 88 [(.stc 7 (T.dflt 7))])
abbrev vi:Option (TV S):=some (.fn (.func 105) [] [(.ptr 36 0)])
abbrev vh:Option (TV S):=some (.fn (.func 113) [] [(.ptr 23 0)])
abbrev og:Option (Zi S):=some (.cells 36 [(.stc 21 (T.dflt 21))])
abbrev of:Option (Zi S):=some (.cells 84 [(.stc 19 (T.dflt 19))])
abbrev oe:Option (Zi S):=some (.cells 74 [(.stc 18 (T.dflt 18))])
abbrev od:Option (Zi S):=some (.cells 33 [(.stc 20 (T.dflt 20))])
abbrev oc:Option (Zi S):=some (.cells 194 [(.stc 17 (T.dflt 17))])
abbrev ob:Option (Zi S):=some (.cells 184 [(.stc 15 (T.dflt 15))])
abbrev oa:Option (Zi S):=some (.cells 102 [(.arr (.st 5) 4 (fun _=>tdf T (.st 5)))])
abbrev o9:Option (Zi S):=some (.cells 59 [(.arr (.int .u8) 2 (fun _=>tdf T (.int .u8)))])
abbrev o8:Option (Zi S):=some (.cells 141 [(.arr (.int .i64) 32 (fun _=>tdf T (.int .i64)))])
abbrev o7:Option (Zi S):=some (.cells 108 [(.fn (.func 47) [] [(.ptr 4 0),(.ptr 1 0),(.ptr 0 0)])])
abbrev o6:Option (Zi S):=some (.cells 108 [(.fn (.func 47) [] [(.ptr 10 0),(.ptr 23 0),(.ptr 26 0)])])
abbrev o5:Option (Zi S):=some (.cells 119 [(.stc 20 (T.dflt 20)),(.sl (.st 21) []),(.earr [112,135] 3 4 (fun _=>0)),(.map 2)])
abbrev o4:Option (Zi S):=some (.cells 119 [(.stc 20 (T.dflt 20)),(.sl (.st 21) []),(.earr [112,135] 1 4 (fun _=>0)),(.map 0)])
abbrev o3:Option (Zi S):=some (.cells 119 [(.stc 20 (T.dflt 20)),(.sl (.st 21) []),(.earr [112,135] 14 4 (fun _=>0)),(.map 13)])
abbrev o2:Option (Zi S):=some (.cells 119 [(.stc 20 (T.dflt 20)),(.sl (.st 21) []),(.earr [112,135] 20 4 (fun _=>0)),(.map 18)])
abbrev o1:Option (Zi S):=some (.loop 40 (N (N (N (N L (some (.fn (.func 80) [] [(.ptr 6 0)])) L) none L) (some (.ptr 2 0)) L) (some (.ptr 1 0)) (N L (some (.ptr 3 0)) L)) (8::[]) .skip .skip 0 .normal (0::(40::[])) (0::(1::(0::(1::[])))))
abbrev o0:Option (Zi S):=some (.loop 48 (N (N (N L (some (.ptr 3 0)) (N (N L (some (.fn (.func 80) [] [(.ptr 18 0)])) L) none L)) vQ (N L (some (.ptr 14 0)) L)) (some (.ptr 1 0)) (N (N L (some (.ptr 4 0)) L) (some (.ptr 2 0)) L)) (20::[]) .skip .skip 0 .normal (0::(48::[])) (0::(1::(0::(1::(1::[]))))))
abbrev o1C:Tr (Zi S):=N (N (N L om L) none L) none L
abbrev o1B:Tr (Zi S):=N (N (N L ov L) none L) none L
abbrev o1A:Tr (Zi S):=N (N (N L ox L) none L) none L
abbrev v1z:Tr (TV S):=N (N L none (N L vQ L)) none L
abbrev o1y:Tr (Zi S):=N L none (N (N L oJ L) none L)
abbrev v1x:Tr (TV S):=N (N (N L vQ L) none L) none L
abbrev v1w:Tr (TV S):=N L none (N (N L vQ L) none L)
abbrev v1v:Tr (TV S):=N (N L vQ L) (some (.ptr 1 0)) L
abbrev v1u:Tr (TV S):=N (N L (some (.ptr 3 0)) L) none L
abbrev o1t:Tr (Zi S):=N (N (N L oa L) o4 L) or (N L om L)
abbrev o1s:Tr (Zi S):=N (N (N L o5 L) oy L) o7 (N (N L oG L) or L)
abbrev o1r:Tr (Zi S):=N (N L none (N L oH L)) ok (N (N L oz L) none L)
abbrev v1q:Tr (TV S):=N (N (N L vQ L) none L) none (N (N L vQ L) vQ L)
abbrev v1p:Tr (TV S):=N (N L none (N L vQ L)) none (N (N L vQ L) none L)
abbrev v1o:Tr (TV S):=N (N L vN L) (some (.agg [(.stc 20 (T.dflt 20))])) L
abbrev o1n:Tr (Zi S):=N L none (N (N (N (N L oe L) none L) none L) none L)
abbrev v1m:Tr (TV S):=N (N (N L vQ L) (some (.ptr 6 0)) L) (some (.yld 11)) L
abbrev v1l:Tr (TV S):=N (N (N L vQ L) (some (.ptr 18 0)) L) (some (.yld 22)) L
abbrev v1k:Tr (TV S):=N (N L (some (.ptr 1 0)) L) none (N L (some (.rs 5 0)) L)
abbrev o1j:Tr (Zi S):=N (N (N o1y none L) none L) od L
abbrev v1i:Tr (TV S):=N L (some (.tup [(.agg [(.stc 5 (T.dflt 5))]),(.bool false)])) L
abbrev o1h:Tr (Zi S):=N (N (N L o8 L) o4 L) or (N L none (N (N (N L oa L) om L) none L))
abbrev o1g:Tr (Zi S):=N (N L none (N L oH (N (N L ol L) none L))) ok (N (N L oz L) none L)
abbrev v1f:Tr (TV S):=N (N (N L (some (.rs 11 0)) L) (some (.ptr 0 0)) L) vN (N (N L vR L) none L)
abbrev o1e:Tr (Zi S):=N (N L none (N L oH L)) ok (N (N L oz L) none (N L none (N L none (N L oj L))))
abbrev v1d:Tr (TV S):=N (N L none (N (N L vR L) none L)) none (N v1u none L)
abbrev o1c:Tr (Zi S):=N L none (N (N (N (N L (some (.cells 48 [(.stc 5 (T.dflt 5))])) L) none L) none L) none L)
abbrev o1b:Tr (Zi S):=N (N L oB L) od (N (N L none (N (N L o2 L) none L)) none (N (N (N L or L) none L) none L))
abbrev o1a:Tr (Zi S):=N (N (N L (some (.cells 22 [(.rs 19 0)])) (N (N L oE L) o1 L)) o4 L) or (N L oF (N L oF L))
abbrev o19:Tr (Zi S):=N (N L oB L) none (N (N L none (N (N L o2 L) none L)) none (N (N (N L or L) none L) none L))
abbrev o18:Tr (Zi S):=N (N (N L none (N L none (N (N L oK L) none L))) none (N L none (N (N L oL L) none L))) ok L
abbrev o17:Tr (Zi S):=N (N (N L oy L) o4 L) or (N (N L oA L) oF (N (N (N L oF L) none L) none (N (N L o0 L) oy L)))
abbrev v16:Tr (TV S):=N (N (N (N L vQ L) none L) (some (.fn (.func 107) [] [(.ptr 0 0)])) L) vO v1x
abbrev o15:Tr (Zi S):=N (N L none (N L oH (N (N L ol L) none L))) ok (N (N L oz L) none (N (N (N L none (N L oE L)) none L) none L))
abbrev o14:Tr (Zi S):=N (N (N L ov L) none (N L none (N (N L ov L) none L))) none (N (N (N (N L ov L) none L) none (N L on L)) none L)
abbrev o13:Tr (Zi S):=N (N (N L (some (.cells 22 [(.rs 34 0)])) (N L o1 L)) o4 L) or (N L oF (N (N (N (N L oE L) none L) none L) oF L))
abbrev v12:Tr (TV S):=N (N (N (N L vM L) (some (.ptr 0 0)) L) vN v1v) none (N (N (N L vM L) none L) none L)
abbrev o11:Tr (Zi S):=N (N (N (N L none (N L oy L)) none L) none (N L none (N L or L))) od (N L none (N (N L oC (N L o6 L)) none (N L o3 L)))
abbrev o10:Tr (Zi S):=N (N (N (N (N (N L oK L) none L) none L) none L) none (N L none (N (N L ol L) none L))) ok (N L none (N (N L oL L) none L))
abbrev vZ:Tr (TV S):=N (N (N L none (N L vQ L)) (some (.fn (.func 96) [] [])) (N (N L (some (.sl (.st 19) [])) L) none L)) none v1w
abbrev oY:Tr (Zi S):=N (N (N (N L none (N (N L oL L) none L)) none L) none L) od (N (N L none (N L none (N L none (N L oK L)))) none (N (N (N L none (N L oe L)) none L) none L))
abbrev vX:Tr (TV S):=N (N (N L vQ L) none (N (N (N L vQ L) (some (.ptr 3 0)) L) none L)) (some (.ptr 1 0)) (N (N (N (N L vP L) none L) none L) vQ v1x)
abbrev oW:Tr (Zi S):=N (N (N (N L none (N L oy L)) none L) none (N (N L none (N (N L ov L) none L)) none (N L or L))) od (N (N (N L none (N (N L ov L) none L)) none L) none (N (N L oC (N L o6 L)) none (N L o3 L)))
abbrev oV:Tr (Zi S):=N (N (N (N L none (N L ob L)) none (N L none (N L (some (.loop 104 (N (N (N (N (N L vR L) none L) vQ L) (some (.ptr 0 0)) (N (N L none (N L vR L)) none L)) vp (N (N (N L vR L) none (N L none (N L vh L))) (some (.ptr 1 0)) L)) (29::[]) .skip .skip 1 .normal (1::(104::[])) (0::(1::(0::(1::(1::(1::[])))))))) L))) ow L) ob (N L none (N L ov o1C))
abbrev oU:Tr (Zi S):=N (N (N (N L none (N L ob L)) none (N L none (N L (some (.loop 104 (N (N (N (N (N L vR L) none L) vQ L) (some (.ptr 0 0)) (N (N L none (N L vR L)) none L)) vp (N (N (N L vR L) none (N L none (N L vh L))) (some (.ptr 1 0)) L)) (29::[]) .skip .skip 1 .busy (1::(104::[])) (0::(1::(0::(1::(1::(1::[])))))))) L))) ow L) ob (N L none (N (N L none (N L none (N L oc L))) none L))
abbrev oT:Tr (Zi S):=N (N (N L oy L) oy L) ok (N (N (N (N L ov L) none (N (N L (some (.loop 70 (N (N (N (N L (some (.ptr 3 0)) L) (some (.ptr 0 0)) (N L none (N (N L vi L) vR L))) vQ (N (N (N L vR L) none L) none L)) vt (N (N (N L (some (.ptr 4 0)) L) (some (.ptr 1 0)) L) vQ (N L (some (.ptr 2 0)) (N (N L vR L) none L)))) (44::(45::[])) .skip .skip 1 .normal (1::(70::[])) (0::(1::(0::(1::(1::(1::(1::[]))))))))) L) ov L)) ow (N (N (N L oq L) none L) none L)) ol L)
abbrev oS:Tr (Zi S):=N (N (N L oy L) o4 (N (N L none (N L none (N (N L oa L) none L))) none (N o1C none L))) or (N (N L oA L) oF (N (N (N L oF L) none L) none (N (N L (some (.loop 48 (N (N (N L (some (.ptr 3 0)) (N (N L (some (.fn (.func 80) [] [(.ptr 18 0)])) L) none L)) vQ (N L (some (.ptr 14 0)) L)) (some (.ptr 1 0)) (N (N L (some (.ptr 4 0)) L) (some (.ptr 2 0)) L)) (20::[]) .skip .skip 0 .ret (0::(48::[])) (0::(1::(0::(1::(1::[]))))))) L) oy L)))
noncomputable def q0 {R:Type}:Prs S R:=Zhf
theorem q1 {R:Type}:Z7R X (q0 (R:=R)):=Zhg X
noncomputable def q2:List (Nat×F7 S):=[]
theorem q3:Z9n X (q2):=trivial
abbrev q4 {R:Type}:Z27 S R:=Zgi
theorem q5 {R:Type}:Z3J X (q4 (R:=R)):=ZgQ X
theorem q6 (x0:Int) (x1:Int) (x2:Int):Zhs X q2 [(.int .i64),(.int .i64),(.int .i64)] [.bool] q0 q4 12 98 (x0,x1,x2,())=X1R x0 x1 x2:=by kernel_rfl
noncomputable def q7:F7 S:=⟨[(.int .i64),(.int .i64),(.int .i64)],[.bool],fun xs=>X1R xs.1 xs.2.1 xs.2.2.1⟩
theorem q8:Z7Q X 98 q7:=Zho (Zhn xok q3 q1 q5 12 98) fun xs _ h=>(q6 xs.1 xs.2.1 xs.2.2.1).trans h
noncomputable def q9:List (Nat×F7 S):=[(98,q7)]
theorem qa:Z9n X (q9):=⟨q8,trivial⟩
abbrev qb {R:Type}:Z27 S R:=Zgi
theorem qc {R:Type}:Z3J X (qb (R:=R)):=ZgQ X
def qd:Key:=⟨[85],85,none,[0,0,1,0,1,1],0,6⟩
def qe:StT S:=⟨(N (N (N L vQ L) none L) vI L),L,6⟩
def qf:Way S:=⟨.ret,⟨(N L none (N L vR L)),L,43⟩,[.bool]⟩
def qg:Way S:=⟨(.exit 0),⟨L,L,10⟩,[]⟩
def qh:LE S:=⟨qd,qe,[.int,.str],[qf,qg]⟩
def qi (x:(Int×ByteArray)):(Bool⊕Unit)→(Bool⊕Unit):=Sum.elim (fun y0=>(.inl y0)) (fun y1=>(.inr ()))
noncomputable def qj {R:Type} (x:(Int×ByteArray)) (k:(Bool⊕Unit)→Option R):Option R:=(X4p x.2 x.1).bind (Sum.elim (fun y0=>k (.inl y0)) (fun y1=>k (.inr ())))
def qk (x:(Int×ByteArray)) (v:Int):(Int×ByteArray):=(v,x.2)
theorem ql (x:(Int×ByteArray)):LE.step X qh q9 q0 qb 12 x=X1d x.2 x.1 (fun w0=>(Sum.inl (w0,x.2))) (fun p0=>(Sum.inr (.inl p0))) (Sum.inr (.inr ())):=by kernel_rfl
theorem qn {R:Type} (x:(Int×ByteArray)) (k:(Bool⊕Unit)→Option R) (r:R) (h:qj x k=some r):∃ o,Z5s (LE.step X qh q9 q0 qb 12) x o∧k o=some r:=by
 obtain ⟨o,h1,h2⟩:=Z0 h
 exact ⟨qi x o,Zhl (st:=fun (x:(Int×ByteArray))=>X12 x.2) (prj:=fun x=>x.1) (emb:=qk) (embO:=qi) (fun x=>(ql x).trans (by unfold X12 X1d;simp only [Zhd,Zh8,Zhe,Option.map_some,Option.map_none];rfl)) (fun _ _=>rfl) (fun _ _=>rfl) (fun _ _ _=>rfl) (fun _ _ _=>rfl) (fun _=>rfl) (Z1S.1 h1),by
  first
  | exact h2
  | (rcases o with o|o<;>exact h2)⟩
noncomputable def qo {R:Type}:Z27 S R:=LE.ls X qh qj qb
theorem qp {R:Type}:Z3J X (qo (R:=R)):=Zhq xok qa (e:=qh) q1 qc qn qc
theorem qq (x0:ByteArray):Zhs X q9 [.str] [.bool] q0 qo 12 85 (x0,())=X4a x0:=by kernel_rfl
noncomputable def qr:F7 S:=⟨[.str],[.bool],fun xs=>X4a xs.1⟩
theorem qs:Z7Q X 85 qr:=Zho (Zhn xok qa q1 qp 12 85) fun xs _ h=>(qq xs.1).trans h
noncomputable def qt:List (Nat×F7 S):=[]
theorem qu:Z9n X (qt):=trivial
abbrev qv {R:Type}:Z27 S R:=Zgi
theorem qw {R:Type}:Z3J X (qv (R:=R)):=ZgQ X
def qx:Key:=⟨[86],86,none,[0,0,1,0,1],0,2⟩
def qy:StT S:=⟨(N (N L vI (N L vQ L)) (some (.sl .str [])) L),L,2⟩
def qz:Way S:=⟨.ret,⟨v1w,L,14⟩,[.int]⟩
def qA:Way S:=⟨(.exit 0),⟨L,L,6⟩,[]⟩
def qB:LE S:=⟨qx,qy,[.str,.int,(.lst .str)],[qz,qA]⟩
def qC (x:t12):(Int⊕Unit)→(Int⊕Unit):=Sum.elim (fun y0=>(.inl y0)) (fun y1=>(.inr ()))
noncomputable def qD {R:Type} (x:t12) (k:(Int⊕Unit)→Option R):Option R:=(X2M x.1 x.2.2 x.2.1).bind (Sum.elim (fun y0=>k (.inl y0)) (fun y1=>k (.inr ())))
def qE (x:t12) (v:Int):t12:=(x.1,v,x.2.2)
theorem qF (x:t12):LE.step X qB qt q0 qv 12 x=WO x.1 x.2.2 x.2.1 (fun w0=>(Sum.inl (x.1,w0,x.2.2))) (fun p0=>(Sum.inr (.inl p0))) (Sum.inr (.inr ())):=by kernel_rfl
theorem qH {R:Type} (x:t12) (k:(Int⊕Unit)→Option R) (r:R) (h:qD x k=some r):∃ o,Z5s (LE.step X qB qt q0 qv 12) x o∧k o=some r:=by
 obtain ⟨o,h1,h2⟩:=Z0 h
 exact ⟨qC x o,Zhl (st:=fun (x:t12)=>XX x.1 x.2.2) (prj:=fun x=>x.2.1) (emb:=qE) (embO:=qC) (fun x=>(qF x).trans (by unfold XX WO;simp only [Zhd,Zh8,Zhe,Option.map_some,Option.map_none];rfl)) (fun _ _=>rfl) (fun _ _=>rfl) (fun _ _ _=>rfl) (fun _ _ _=>rfl) (fun _=>rfl) (Z1S.1 h1),by
  first
  | exact h2
  | (rcases o with o|o<;>exact h2)⟩
noncomputable def qI {R:Type}:Z27 S R:=LE.ls X qB qD qv
theorem qJ {R:Type}:Z3J X (qI (R:=R)):=Zhq xok qu (e:=qB) q1 qw qH qw
theorem qK (x0:List ByteArray) (x1:ByteArray):Zhs X qt [(.sl .str),.str] [(.int .i64)] q0 qI 12 86 (x0,x1,())=X4q x0 x1:=by kernel_rfl
noncomputable def qL:F7 S:=⟨[(.sl .str),.str],[(.int .i64)],fun xs=>X4q xs.1 xs.2.1⟩
theorem qM:Z7Q X 86 qL:=Zho (Zhn xok qu q1 qJ 12 86) fun xs _ h=>(qK xs.1 xs.2.1).trans h
noncomputable def qN:List (Nat×F7 S):=[(85,qr),(86,qL)]
theorem qO:Z9n X (qN):=⟨qs,qM,trivial⟩
abbrev qP {R:Type}:Z27 S R:=Zgi
theorem qQ {R:Type}:Z3J X (qP (R:=R)):=ZgQ X
theorem qR (x0:ByteArray) (x1:List ByteArray):Zhs X qN [.str,(.sl .str)] [(.int .i64)] q0 qP 12 66 (x0,x1,())=X2l x0 x1:=by kernel_rfl
noncomputable def qS:F7 S:=⟨[.str,(.sl .str)],[(.int .i64)],fun xs=>X2l xs.1 xs.2.1⟩
theorem qT:Z7Q X 66 qS:=Zho (Zhn xok qO q1 qQ 12 66) fun xs _ h=>(qR xs.1 xs.2.1).trans h
noncomputable def qU:List (Nat×F7 S):=[(98,q7)]
theorem qV:Z9n X (qU):=⟨q8,trivial⟩
abbrev qW {R:Type}:Z27 S R:=Zgi
theorem qX {R:Type}:Z3J X (qW (R:=R)):=ZgQ X
theorem qY (x0:Zu) (x1:Int):Zhs X qU [(.st 2),(.int .i64)] [.bool] q0 qW 12 82 (x0,x1,())=X2s x0 x1:=by kernel_rfl
noncomputable def qZ:F7 S:=⟨[(.st 2),(.int .i64)],[.bool],fun xs=>X2s xs.1 xs.2.1⟩
theorem q10:Z7Q X 82 qZ:=Zho (Zhn xok qV q1 qX 12 82) fun xs _ h=>(qY xs.1 xs.2.1).trans h
noncomputable def q11:List (Nat×F7 S):=[(98,q7)]
theorem q12:Z9n X (q11):=⟨q8,trivial⟩
abbrev q13 {R:Type}:Z27 S R:=Zgi
theorem q14 {R:Type}:Z3J X (q13 (R:=R)):=ZgQ X
def q15:Key:=⟨[83],83,none,[0,0,1,0,1,1],0,6⟩
def q16:StT S:=⟨(N (N (N L vQ L) none L) (some (.sl (.st 3) [])) L),L,6⟩
def q17:Way S:=⟨.ret,⟨(N L none (N L vQ L)),L,27⟩,[.int]⟩
def q18:Way S:=⟨.ret,⟨(N L none (N L vQ L)),L,43⟩,[.int]⟩
def q19:Way S:=⟨(.exit 0),⟨L,L,10⟩,[]⟩
def q1a:LE S:=⟨q15,q16,[.int,(.lst (.st 3))],[q17,q18,q19]⟩
def q1b (x:(Int×(List Zk))):(Int⊕Int⊕Unit)→(Int⊕Int⊕Unit):=Sum.elim (fun y0=>(.inl y0)) (Sum.elim (fun y1=>(.inr (.inl y1))) (fun y2=>(.inr (.inr ()))))
noncomputable def q1c {R:Type} (x:(Int×(List Zk))) (k:(Int⊕Int⊕Unit)→Option R):Option R:=(X3R x.2 x.1).bind (Sum.elim (fun y0=>k (.inl y0)) (Sum.elim (fun y1=>k (.inr (.inl y1))) (fun y2=>k (.inr (.inr ())))))
def q1d (x:(Int×(List Zk))) (v:Int):(Int×(List Zk)):=(v,x.2)
theorem q1e (x:(Int×(List Zk))):LE.step X q1a q11 q0 q13 12 x=Wm x.2 x.1 (fun w0=>(Sum.inl (w0,x.2))) (fun p0=>(Sum.inr (.inl p0))) (fun p0=>(Sum.inr (.inr (.inl p0)))) (Sum.inr (.inr (.inr ()))):=by kernel_rfl
theorem q1g {R:Type} (x:(Int×(List Zk))) (k:(Int⊕Int⊕Unit)→Option R) (r:R) (h:q1c x k=some r):∃ o,Z5s (LE.step X q1a q11 q0 q13 12) x o∧k o=some r:=by
 obtain ⟨o,h1,h2⟩:=Z0 h
 exact ⟨q1b x o,Zhl (st:=fun (x:(Int×(List Zk)))=>Wc x.2) (prj:=fun x=>x.1) (emb:=q1d) (embO:=q1b) (fun x=>(q1e x).trans (by unfold Wc Wm;simp only [Zhd,Zh8,Zhe,Option.map_some,Option.map_none];rfl)) (fun _ _=>rfl) (fun _ _=>rfl) (fun _ _ _=>rfl) (fun _ _ _=>rfl) (fun _=>rfl) (Z1S.1 h1),by
  first
  | exact h2
  | (rcases o with o|o|o<;>exact h2)⟩
noncomputable def q1h {R:Type}:Z27 S R:=LE.ls X q1a q1c q13
theorem q1i {R:Type}:Z3J X (q1h (R:=R)):=Zhq xok q12 (e:=q1a) q1 q14 q1g q14
theorem q1j (x0:List Zk):Zhs X q11 [(.sl (.st 3))] [(.int .i64)] q0 q1h 12 83 (x0,())=X2t x0:=by kernel_rfl
noncomputable def q1k:F7 S:=⟨[(.sl (.st 3))],[(.int .i64)],fun xs=>X2t xs.1⟩
theorem q1l:Z7Q X 83 q1k:=Zho (Zhn xok q12 q1 q1i 12 83) fun xs _ h=>(q1j xs.1).trans h
noncomputable def q1m:List (Nat×F7 S):=[(98,q7)]
theorem q1n:Z9n X (q1m):=⟨q8,trivial⟩
abbrev q1o {R:Type}:Z27 S R:=Zgi
theorem q1p {R:Type}:Z3J X (q1o (R:=R)):=ZgQ X
def q1q:Key:=⟨[87],87,none,[0,0,1,0,1,1],0,3⟩
def q1r:StT S:=⟨(N (N (N (N L vQ L) none L) vQ L) (some (.sl (.st 5) [])) (N (N (N L vQ L) none L) vQ L)),L,3⟩
def q1s:Way S:=⟨.ret,⟨(N L none (N L none (N L vQ L))),L,28⟩,[.int]⟩
def q1t:Way S:=⟨(.exit 0),⟨(N v1x none L),L,7⟩,[.int]⟩
def q1u:LE S:=⟨q1q,q1r,[.int,.int,(.lst (.st 5)),.int,.int],[q1s,q1t]⟩
def q1v (x:t11):(Int⊕Int)→(Int⊕Int):=Sum.elim (fun y0=>(.inl y0)) (fun y1=>(.inr y1))
noncomputable def q1w {R:Type} (x:t11) (k:(Int⊕Int)→Option R):Option R:=(X3Q x.2.1 x.2.2.1 x.2.2.2.2 (x.1,x.2.2.2.1)).bind (Sum.elim (fun y0=>k (.inl y0)) (fun y1=>k (.inr y1)))
def q1x (x:t11) (v:(Int×Int)):t11:=(v.1,x.2.1,x.2.2.1,v.2,x.2.2.2.2)
theorem q1y (x:t11):LE.step X q1u q1m q0 q1o 12 x=Wl x.2.1 x.2.2.1 x.2.2.2.2 x.1 x.2.2.2.1 (fun w0 w1=>(Sum.inl (w0,x.2.1,x.2.2.1,w1,x.2.2.2.2))) (fun p0=>(Sum.inr (.inl p0))) (fun p0=>(Sum.inr (.inr p0))):=by kernel_rfl
theorem q1A {R:Type} (x:t11) (k:(Int⊕Int)→Option R) (r:R) (h:q1w x k=some r):∃ o,Z5s (LE.step X q1u q1m q0 q1o 12) x o∧k o=some r:=by
 obtain ⟨o,h1,h2⟩:=Z0 h
 exact ⟨q1v x o,Zhl (st:=fun (x:t11)=>Wb x.2.1 x.2.2.1 x.2.2.2.2) (prj:=fun x=>(x.1,x.2.2.2.1)) (emb:=q1x) (embO:=q1v) (fun x=>(q1y x).trans (by unfold Wb Wl;simp only [Zhd,Zh8,Zhe,Option.map_some,Option.map_none];rfl)) (fun _ _=>rfl) (fun _ _=>rfl) (fun _ _ _=>rfl) (fun _ _ _=>rfl) (fun _=>rfl) (Z1S.1 h1),by
  first
  | exact h2
  | (rcases o with o|o<;>exact h2)⟩
noncomputable def q1B {R:Type}:Z27 S R:=LE.ls X q1u q1w q1o
theorem q1C {R:Type}:Z3J X (q1B (R:=R)):=Zhq xok q1n (e:=q1u) q1 q1p q1A q1p
theorem q1D (x0:List ZE) (x1:Int) (x2:Int):Zhs X q1m [(.sl (.st 5)),(.int .i64),(.int .i64)] [(.int .i64)] q0 q1B 12 87 (x0,x1,x2,())=X23 x0 x1 x2:=by kernel_rfl
noncomputable def q1E:F7 S:=⟨[(.sl (.st 5)),(.int .i64),(.int .i64)],[(.int .i64)],fun xs=>X23 xs.1 xs.2.1 xs.2.2.1⟩
theorem q1F:Z7Q X 87 q1E:=Zho (Zhn xok q1n q1 q1C 12 87) fun xs _ h=>(q1D xs.1 xs.2.1 xs.2.2.1).trans h
noncomputable def q1G:List (Nat×F7 S):=[(87,q1E)]
theorem q1H:Z9n X (q1G):=⟨q1F,trivial⟩
abbrev q1I {R:Type}:Z27 S R:=Zgi
theorem q1J {R:Type}:Z3J X (q1I (R:=R)):=ZgQ X
theorem q1K (x0:ZB) (x1:Int) (x2:Int):Zhs X q1G [(.st 6),(.int .i64),(.int .i64)] [(.int .i64)] q0 q1I 12 99 (x0,x1,x2,())=X4D x0 x1 x2:=by kernel_rfl
noncomputable def q1L:F7 S:=⟨[(.st 6),(.int .i64),(.int .i64)],[(.int .i64)],fun xs=>X4D xs.1 xs.2.1 xs.2.2.1⟩
theorem q1M:Z7Q X 99 q1L:=Zho (Zhn xok q1H q1 q1J 12 99) fun xs _ h=>(q1K xs.1 xs.2.1 xs.2.2.1).trans h
noncomputable def q1N:List (Nat×F7 S):=[]
theorem q1O:Z9n X (q1N):=trivial
abbrev q1P {R:Type}:Z27 S R:=Zgi
theorem q1Q {R:Type}:Z3J X (q1P (R:=R)):=ZgQ X
theorem q1R (x0:Zu) (x1:Zu):Zhs X q1N [(.st 2),(.st 2)] [(.st 2)] q0 q1P 12 109 (x0,x1,())=X6Q x0 x1:=by kernel_rfl
noncomputable def q1S:F7 S:=⟨[(.st 2),(.st 2)],[(.st 2)],fun xs=>X6Q xs.1 xs.2.1⟩
theorem q1T:Z7Q X 109 q1S:=Zho (Zhn xok q1O q1 q1Q 12 109) fun xs _ h=>(q1R xs.1 xs.2.1).trans h
noncomputable def q1U:List (Nat×F7 S):=[]
theorem q1V:Z9n X (q1U):=trivial
abbrev q1W {R:Type}:Z27 S R:=Zgi
theorem q1X {R:Type}:Z3J X (q1W (R:=R)):=ZgQ X
theorem q1Y (x0:Zu) (x1:Zu):Zhs X q1U [(.st 2),(.st 2)] [(.int .i64)] q0 q1W 12 108 (x0,x1,())=X6P x0 x1:=by kernel_rfl
noncomputable def q1Z:F7 S:=⟨[(.st 2),(.st 2)],[(.int .i64)],fun xs=>X6P xs.1 xs.2.1⟩
theorem q20:Z7Q X 108 q1Z:=Zho (Zhn xok q1V q1 q1X 12 108) fun xs _ h=>(q1Y xs.1 xs.2.1).trans h
noncomputable def q21:List (Nat×F7 S):=[(109,q1S),(108,q1Z)]
theorem q22:Z9n X (q21):=⟨q1T,q20,trivial⟩
abbrev q23 {R:Type}:Z27 S R:=Zgi
theorem q24 {R:Type}:Z3J X (q23 (R:=R)):=ZgQ X
def q25:Key:=⟨[100],100,none,[0,0,1,1,0,0,1,0,0,1,0,1],2,13⟩
def q26:StT S:=⟨(N (N (N L vQ L) none (N L vQ L)) vP (N (N L vQ L) none L)),L,13⟩
def q27:Way S:=⟨.ret,⟨(N L none (N L vR L)),L,48⟩,[.bool]⟩
def q28:Way S:=⟨(.exit 2),⟨(N (N (N L vQ L) none L) vP L),L,17⟩,[.int,(.lst (.st 2))]⟩
def q29:LE S:=⟨q25,q26,[.int,.int,(.lst (.st 2)),.int],[q27,q28]⟩
def q2a (x:t1b):(Bool⊕Unit)→(Bool⊕(Int×(List Zu))):=Sum.elim (fun y0=>(.inl y0)) (fun y1=>(.inr (x.1,x.2.2.1)))
noncomputable def q2b {R:Type} (x:t1b) (k:(Bool⊕(Int×(List Zu)))→Option R):Option R:=(X24 x.1 x.2.2.1 x.2.2.2 x.2.1).bind (Sum.elim (fun y0=>k (.inl y0)) (fun y1=>k (.inr (x.1,x.2.2.1))))
def q2c (x:t1b) (v:Int):t1b:=(x.1,v,x.2.2.1,x.2.2.2)
theorem q2d (x:t1b):LE.step X q29 q21 q0 q23 12 x=WQ x.1 x.2.2.1 x.2.2.2 x.2.1 (fun w0=>(Sum.inl (x.1,w0,x.2.2.1,x.2.2.2))) (fun p0=>(Sum.inr (.inl p0))) (Sum.inr (.inr (x.1,x.2.2.1))):=by kernel_rfl
theorem q2f {R:Type} (x:t1b) (k:(Bool⊕(Int×(List Zu)))→Option R) (r:R) (h:q2b x k=some r):∃ o,Z5s (LE.step X q29 q21 q0 q23 12) x o∧k o=some r:=by
 obtain ⟨o,h1,h2⟩:=Z0 h
 exact ⟨q2a x o,Zhl (st:=fun (x:t1b)=>Wy x.1 x.2.2.1 x.2.2.2) (prj:=fun x=>x.2.1) (emb:=q2c) (embO:=q2a) (fun x=>(q2d x).trans (by unfold Wy WQ;simp only [Zhd,Zh8,Zhe,Option.map_some,Option.map_none];rfl)) (fun _ _=>rfl) (fun _ _=>rfl) (fun _ _ _=>rfl) (fun _ _ _=>rfl) (fun _=>rfl) (Z1S.1 h1),by
  first
  | exact h2
  | (rcases o with o|o<;>exact h2)⟩
noncomputable def q2g {R:Type}:Z27 S R:=LE.ls X q29 q2b q23
theorem q2h {R:Type}:Z3J X (q2g (R:=R)):=Zhq xok q22 (e:=q29) q1 q24 q2f q24
def q2i:Key:=⟨[100],100,none,[0,0,1,0,1],0,2⟩
def q2j:StT S:=⟨(N (N (N L vQ L) none L) vP L),L,2⟩
def q2k:Way S:=⟨.ret,⟨(N L none (N L vR L)),L,48⟩,[.bool]⟩
def q2l:Way S:=⟨(.exit 0),⟨L,L,6⟩,[]⟩
def q2m:LE S:=⟨q2i,q2j,[.int,(.lst (.st 2))],[q2k,q2l]⟩
def q2n (x:(Int×(List Zu))):(Bool⊕Unit)→(Bool⊕Unit):=Sum.elim (fun y0=>(.inl y0)) (fun y1=>(.inr ()))
noncomputable def q2o {R:Type} (x:(Int×(List Zu))) (k:(Bool⊕Unit)→Option R):Option R:=(X4b x.2 x.1).bind (Sum.elim (fun y0=>k (.inl y0)) (fun y1=>k (.inr ())))
def q2p (x:(Int×(List Zu))) (v:Int):(Int×(List Zu)):=(v,x.2)
theorem q2q (x:(Int×(List Zu))):LE.step X q2m q21 q0 q2g 12 x=WP x.2 x.1 (fun w0=>(Sum.inl (w0,x.2))) (fun p0=>(Sum.inr (.inl p0))) (Sum.inr (.inr ())):=by kernel_rfl
theorem q2s {R:Type} (x:(Int×(List Zu))) (k:(Bool⊕Unit)→Option R) (r:R) (h:q2o x k=some r):∃ o,Z5s (LE.step X q2m q21 q0 q2g 12) x o∧k o=some r:=by
 obtain ⟨o,h1,h2⟩:=Z0 h
 exact ⟨q2n x o,Zhl (st:=fun (x:(Int×(List Zu)))=>Wx x.2) (prj:=fun x=>x.1) (emb:=q2p) (embO:=q2n) (fun x=>(q2q x).trans (by unfold Wx WP;simp only [Zhd,Zh8,Zhe,Option.map_some,Option.map_none];rfl)) (fun _ _=>rfl) (fun _ _=>rfl) (fun _ _ _=>rfl) (fun _ _ _=>rfl) (fun _=>rfl) (Z1S.1 h1),by
  first
  | exact h2
  | (rcases o with o|o<;>exact h2)⟩
noncomputable def q2t {R:Type}:Z27 S R:=LE.ls X q2m q2o q2g
theorem q2u {R:Type}:Z3J X (q2t (R:=R)):=Zhq xok q22 (e:=q2m) q1 q2h q2s q2h
theorem q2v (x0:List Zu):Zhs X q21 [(.sl (.st 2))] [.bool] q0 q2t 12 100 (x0,())=X3F x0:=by kernel_rfl
noncomputable def q2w:F7 S:=⟨[(.sl (.st 2))],[.bool],fun xs=>X3F xs.1⟩
theorem q2x:Z7Q X 100 q2w:=Zho (Zhn xok q22 q1 q2u 12 100) fun xs _ h=>(q2v xs.1).trans h
noncomputable def q2y:List (Nat×F7 S):=[(98,q7),(82,qZ),(99,q1L),(100,q2w)]
theorem q2z:Z9n X (q2y):=⟨q8,q10,q1M,q2x,trivial⟩
abbrev q2A {R:Type}:Z27 S R:=Zgi
theorem q2B {R:Type}:Z3J X (q2A (R:=R)):=ZgQ X
def q2C:Key:=⟨[84],84,none,[0,0,1,0,1,1],0,8⟩
def q2D:StT S:=⟨(N (N (N L vQ L) (some (.ptr 0 0)) L) none L),(N L oj L),8⟩
def q2E:Way S:=⟨.ret,⟨(N L none (N L vQ L)),(N L oj L),21⟩,[.int,(.st 7)]⟩
def q2F:Way S:=⟨(.exit 0),⟨(N (N L (some (.ptr 0 0)) L) none L),(N L oj L),13⟩,[(.st 7)]⟩
def q2G:LE S:=⟨q2C,q2D,[.int,(.st 7)],[q2E,q2F]⟩
def q2H (x:(Int×CtSand)):(Int⊕Unit)→((Int×CtSand)⊕CtSand):=Sum.elim (fun y0=>(.inl (y0,x.2))) (fun y1=>(.inr x.2))
noncomputable def q2I {R:Type} (x:(Int×CtSand)) (k:((Int×CtSand)⊕CtSand)→Option R):Option R:=(X3l x.2 x.1).bind (Sum.elim (fun y0=>k (.inl (y0,x.2))) (fun y1=>k (.inr x.2)))
def q2J (x:(Int×CtSand)) (v:Int):(Int×CtSand):=(v,x.2)
theorem q2K (x:(Int×CtSand)):LE.step X q2G q2y q0 q2A 12 x=X1e x.2 x.1 (fun w0=>(Sum.inl (w0,x.2))) (fun p0=>(Sum.inr (.inl (p0,x.2)))) (Sum.inr (.inr x.2)):=by kernel_rfl
theorem q2M {R:Type} (x:(Int×CtSand)) (k:((Int×CtSand)⊕CtSand)→Option R) (r:R) (h:q2I x k=some r):∃ o,Z5s (LE.step X q2G q2y q0 q2A 12) x o∧k o=some r:=by
 obtain ⟨o,h1,h2⟩:=Z0 h
 exact ⟨q2H x o,Zhl (st:=fun (x:(Int×CtSand))=>Wd x.2) (prj:=fun x=>x.1) (emb:=q2J) (embO:=q2H) (fun x=>(q2K x).trans (by unfold Wd X1e;simp only [Zhd,Zh8,Zhe,Option.map_some,Option.map_none];rfl)) (fun _ _=>rfl) (fun _ _=>rfl) (fun _ _ _=>rfl) (fun _ _ _=>rfl) (fun _=>rfl) (Z1S.1 h1),by
  first
  | exact h2
  | (rcases o with o|o<;>exact h2)⟩
noncomputable def q2N {R:Type}:Z27 S R:=LE.ls X q2G q2I q2A
theorem q2O {R:Type}:Z3J X (q2N (R:=R)):=Zhq xok q2z (e:=q2G) q1 q2B q2M q2B
theorem q2P (x0:CtSand):Zhs X q2y [(.st 7)] [(.int .i64)] q0 q2N 12 84 (x0,())=X4c x0:=by kernel_rfl
noncomputable def q2Q:F7 S:=⟨[(.st 7)],[(.int .i64)],fun xs=>X4c xs.1⟩
theorem q2R:Z7Q X 84 q2Q:=Zho (Zhn xok q2z q1 q2O 12 84) fun xs _ h=>(q2P xs.1).trans h
noncomputable def q2S:List (Nat×F7 S):=[(66,qS),(82,qZ),(83,q1k),(84,q2Q)]
theorem q2T:Z9n X (q2S):=⟨qT,q10,q1l,q2R,trivial⟩
abbrev q2U {R:Type}:Z27 S R:=Zgi
theorem q2V {R:Type}:Z3J X (q2U (R:=R)):=ZgQ X
def q2W:Key:=⟨[64],64,none,[0,0,1,0,1,1,1],0,10⟩
def q2X:StT S:=⟨(N (N L (some (.ptr 0 0)) (N L (some (.rs 10 0)) L)) none (N L none (N L vQ L))),(N L ok o1y),11⟩
def q2Y:Way S:=⟨.ret,⟨v1q,o10,52⟩,[.int,.int,.int,(.lst .str),(.st 4),(.st 8),(.lst .str)]⟩
def q2Z:Way S:=⟨.ret,⟨v1q,o10,55⟩,[.int,.int,.int,(.lst .str),(.st 4),(.st 8),(.lst .str)]⟩
def q30:Way S:=⟨.ret,⟨v1q,o10,51⟩,[.int,.int,.int,(.lst .str),(.st 4),(.st 8),(.lst .str)]⟩
def q31:Way S:=⟨(.exit 0),⟨(N (N L (some (.ptr 0 0)) (N L (some (.rs 10 0)) L)) none L),(N L ok o1y),16⟩,[(.st 8),(.lst .str)]⟩
def q32:LE S:=⟨q2W,q2X,[.int,(.st 8),(.lst .str)],[q2Y,q2Z,q30,q31]⟩
def q33 (x:t17):(tM⊕tM⊕tM⊕(List ByteArray))→t2:=Sum.elim (fun y0=>(.inl (y0.1,y0.2.1,y0.2.2.1,y0.2.2.2.1,y0.2.2.2.2.1,x.2.1,y0.2.2.2.2.2))) (Sum.elim (fun y1=>(.inr (.inl (y1.1,y1.2.1,y1.2.2.1,y1.2.2.2.1,y1.2.2.2.2.1,x.2.1,y1.2.2.2.2.2)))) (Sum.elim (fun y2=>(.inr (.inr (.inl (y2.1,y2.2.1,y2.2.2.1,y2.2.2.2.1,y2.2.2.2.2.1,x.2.1,y2.2.2.2.2.2))))) (fun y3=>(.inr (.inr (.inr (x.2.1,y3)))))))
noncomputable def q34 {R:Type} (x:t17) (k:t2→Option R):Option R:=(X48 x.2.1 (x.1,x.2.2)).bind (Sum.elim (fun y0=>k (.inl (y0.1,y0.2.1,y0.2.2.1,y0.2.2.2.1,y0.2.2.2.2.1,x.2.1,y0.2.2.2.2.2))) (Sum.elim (fun y1=>k (.inr (.inl (y1.1,y1.2.1,y1.2.2.1,y1.2.2.2.1,y1.2.2.2.2.1,x.2.1,y1.2.2.2.2.2)))) (Sum.elim (fun y2=>k (.inr (.inr (.inl (y2.1,y2.2.1,y2.2.2.1,y2.2.2.2.1,y2.2.2.2.2.1,x.2.1,y2.2.2.2.2.2))))) (fun y3=>k (.inr (.inr (.inr (x.2.1,y3))))))))
def q35 (x:t17) (v:(Int×(List ByteArray))):t17:=(v.1,x.2.1,v.2)
theorem q36 (x:t17):LE.step X q32 q2S q0 q2U 12 x=WM x.2.1 x.1 x.2.2 (fun w0 w1=>(Sum.inl (w0,x.2.1,w1))) (fun p0 p1 p2 p3 p4 p5=>(Sum.inr (.inl (p0,p1,p2,p3,p4,x.2.1,p5)))) (fun p0 p1 p2 p3 p4 p5=>(Sum.inr (.inr (.inl (p0,p1,p2,p3,p4,x.2.1,p5))))) (fun p0 p1 p2 p3 p4 p5=>(Sum.inr (.inr (.inr (.inl (p0,p1,p2,p3,p4,x.2.1,p5)))))) (fun p0=>(Sum.inr (.inr (.inr (.inr (x.2.1,p0)))))):=by kernel_rfl
theorem q38 {R:Type} (x:t17) (k:t2→Option R) (r:R) (h:q34 x k=some r):∃ o,Z5s (LE.step X q32 q2S q0 q2U 12) x o∧k o=some r:=by
 obtain ⟨o,h1,h2⟩:=Z0 h
 exact ⟨q33 x o,Zhl (st:=fun (x:t17)=>Wv x.2.1) (prj:=fun x=>(x.1,x.2.2)) (emb:=q35) (embO:=q33) (fun x=>(q36 x).trans (by unfold Wv WM;simp only [Zhd,Zh8,Zhe,Option.map_some,Option.map_none];rfl)) (fun _ _=>rfl) (fun _ _=>rfl) (fun _ _ _=>rfl) (fun _ _ _=>rfl) (fun _=>rfl) (Z1S.1 h1),by
  first
  | exact h2
  | (rcases o with o|o|o|o<;>exact h2)⟩
noncomputable def q39 {R:Type}:Z27 S R:=LE.ls X q32 q34 q2U
theorem q3a {R:Type}:Z3J X (q39 (R:=R)):=Zhq xok q2T (e:=q32) q1 q2V q38 q2V
def q3b:Key:=⟨[64],64,none,[0,0,1,0,1,1,1,1,1],2,21⟩
def q3c:StT S:=⟨(N (N L (some (.ptr 0 0)) (N (N L vQ L) (some (.rs 21 0)) L)) none L),(N (N L none o1y) ok L),22⟩
def q3d:Way S:=⟨.ret,⟨v1q,o18,62⟩,[.int,.int,.int,(.lst .str),(.lst .str),(.st 8)]⟩
def q3e:Way S:=⟨.ret,⟨v1q,o18,55⟩,[.int,.int,.int,(.lst .str),(.lst .str),(.st 8)]⟩
def q3f:Way S:=⟨(.exit 2),⟨L,(N (N L none o1y) ok L),27⟩,[(.lst .str),(.st 8)]⟩
def q3g:LE S:=⟨q3b,q3c,[.int,(.lst .str),(.st 8)],[q3d,q3e,q3f]⟩
def q3h (x:t18):((Int×Int×Int×(List ByteArray)×(List ByteArray))⊕(Int×Int×Int×(List ByteArray)×(List ByteArray))⊕(List ByteArray))→ta:=Sum.elim (fun y0=>(.inl (y0.1,y0.2.1,y0.2.2.1,y0.2.2.2.1,y0.2.2.2.2,x.2.2))) (Sum.elim (fun y1=>(.inr (.inl (y1.1,y1.2.1,y1.2.2.1,y1.2.2.2.1,y1.2.2.2.2,x.2.2)))) (fun y2=>(.inr (.inr (y2,x.2.2)))))
noncomputable def q3i {R:Type} (x:t18) (k:ta→Option R):Option R:=(X22 x.2.2 (x.1,x.2.1)).bind (Sum.elim (fun y0=>k (.inl (y0.1,y0.2.1,y0.2.2.1,y0.2.2.2.1,y0.2.2.2.2,x.2.2))) (Sum.elim (fun y1=>k (.inr (.inl (y1.1,y1.2.1,y1.2.2.1,y1.2.2.2.1,y1.2.2.2.2,x.2.2)))) (fun y2=>k (.inr (.inr (y2,x.2.2))))))
def q3j (x:t18) (v:(Int×(List ByteArray))):t18:=(v.1,v.2,x.2.2)
theorem q3k (x:t18):LE.step X q3g q2S q0 q39 12 x=WN x.2.2 x.1 x.2.1 (fun w0 w1=>(Sum.inl (w0,w1,x.2.2))) (fun p0 p1 p2 p3 p4=>(Sum.inr (.inl (p0,p1,p2,p3,p4,x.2.2)))) (fun p0 p1 p2 p3 p4=>(Sum.inr (.inr (.inl (p0,p1,p2,p3,p4,x.2.2))))) (fun p0=>(Sum.inr (.inr (.inr (p0,x.2.2))))):=by kernel_rfl
theorem q3m {R:Type} (x:t18) (k:ta→Option R) (r:R) (h:q3i x k=some r):∃ o,Z5s (LE.step X q3g q2S q0 q39 12) x o∧k o=some r:=by
 obtain ⟨o,h1,h2⟩:=Z0 h
 exact ⟨q3h x o,Zhl (st:=fun (x:t18)=>Ww x.2.2) (prj:=fun x=>(x.1,x.2.1)) (emb:=q3j) (embO:=q3h) (fun x=>(q3k x).trans (by unfold Ww WN;simp only [Zhd,Zh8,Zhe,Option.map_some,Option.map_none];rfl)) (fun _ _=>rfl) (fun _ _=>rfl) (fun _ _ _=>rfl) (fun _ _ _=>rfl) (fun _=>rfl) (Z1S.1 h1),by
  first
  | exact h2
  | (rcases o with o|o|o<;>exact h2)⟩
noncomputable def q3n {R:Type}:Z27 S R:=LE.ls X q3g q3i q39
theorem q3o {R:Type}:Z3J X (q3n (R:=R)):=Zhq xok q2T (e:=q3g) q1 q3a q3m q3a
theorem q3p (x0:Zl):Zhs X q2S [(.st 8)] [(.int .i64),(.int .i64),(.int .i64)] q0 q3n 12 64 (x0,())=X3D x0:=by kernel_rfl
noncomputable def q3q:F7 S:=⟨[(.st 8)],[(.int .i64),(.int .i64),(.int .i64)],fun xs=>X3D xs.1⟩
theorem q3r:Z7Q X 64 q3q:=Zho (Zhn xok q2T q1 q3o 12 64) fun xs _ h=>(q3p xs.1).trans h
noncomputable def q3s:List (Nat×F7 S):=[]
theorem q3t:Z9n X (q3s):=trivial
abbrev q3u {R:Type}:Z27 S R:=Zgi
theorem q3v {R:Type}:Z3J X (q3u (R:=R)):=ZgQ X
theorem q3w (x0:Int) (x1:Int) (x2:Int):Zhs X q3s [(.int .i64),(.int .i64),(.int .i64)] [.bool] q0 q3u 12 65 (x0,x1,x2,())=X3m x0 x1 x2:=by kernel_rfl
noncomputable def q3x:F7 S:=⟨[(.int .i64),(.int .i64),(.int .i64)],[.bool],fun xs=>X1S xs.1 xs.2.1 xs.2.2.1⟩
theorem q3y:Z7Q X 65 q3x:=Zho (Zhn xok q3t q1 q3v 12 65) fun xs _ h=>((q3w xs.1 xs.2.1 xs.2.2.1).trans (X6o xs.1 xs.2.1 xs.2.2.1).symm).trans h
noncomputable def q3z:List (Nat×F7 S):=[]
theorem q3A:Z9n X (q3z):=trivial
abbrev q3B {R:Type}:Z27 S R:=Zgi
theorem q3C {R:Type}:Z3J X (q3B (R:=R)):=ZgQ X
theorem q3D (x0:Z5):Zhs X q3z [(.st 18)] [(.int .i64)] q0 q3B 12 68 (x0,())=X2C x0:=by kernel_rfl
noncomputable def q3E:F7 S:=⟨[(.st 18)],[(.int .i64)],fun xs=>X4G xs.1⟩
theorem q3F:Z7Q X 68 q3E:=Zho (Zhn xok q3A q1 q3C 12 68) fun xs _ h=>((q3D xs.1).trans (X66 xs.1).symm).trans h
noncomputable def q3G:List (Nat×F7 S):=[(87,q1E)]
theorem q3H:Z9n X (q3G):=⟨q1F,trivial⟩
abbrev q3I {R:Type}:Z27 S R:=Zgi
theorem q3J {R:Type}:Z3J X (q3I (R:=R)):=ZgQ X
theorem q3K (x0:ZE) (x1:Int) (x2:Int):Zhs X q3G [(.st 5),(.int .i64),(.int .i64)] [(.int .i64)] q0 q3I 12 67 (x0,x1,x2,())=X2W x0 x1 x2:=by kernel_rfl
noncomputable def q3L:F7 S:=⟨[(.st 5),(.int .i64),(.int .i64)],[(.int .i64)],fun xs=>X2W xs.1 xs.2.1 xs.2.2.1⟩
theorem q3M:Z7Q X 67 q3L:=Zho (Zhn xok q3H q1 q3J 12 67) fun xs _ h=>(q3K xs.1 xs.2.1 xs.2.2.1).trans h
noncomputable def q3N:List (Nat×F7 S):=[(87,q1E),(67,q3L),(65,q3x)]
theorem q3O:Z9n X (q3N):=⟨q1F,q3M,q3y,trivial⟩
abbrev q3P {R:Type}:Z27 S R:=Zgi
theorem q3Q {R:Type}:Z3J X (q3P (R:=R)):=ZgQ X
theorem q3R (x0:Zt):Zhs X q3N [(.st 19)] [(.int .i64)] q0 q3P 12 69 (x0,())=X2m x0:=by kernel_rfl
noncomputable def q3S:F7 S:=⟨[(.st 19)],[(.int .i64)],fun xs=>X4R xs.1⟩
theorem q3T:Z7Q X 69 q3S:=Zho (Zhn xok q3O q1 q3Q 12 69) fun xs _ h=>((q3R xs.1).trans (X5L xs.1).symm).trans h
noncomputable def q3U:List (Nat×F7 S):=[(64,q3q),(65,q3x),(66,qS),(68,q3E),(67,q3L),(69,q3S)]
theorem q3V:Z9n X (q3U):=⟨q3r,q3y,qT,q3F,q3M,q3T,trivial⟩
abbrev q3W {R:Type}:Z27 S R:=Zgi
theorem q3X {R:Type}:Z3J X (q3W (R:=R)):=ZgQ X
def q3Y:Key:=⟨[51],51,none,[0,0,1,0,1,1,1,1,1,1],0,39⟩
def q3Z:StT S:=⟨(N (N L (some (.ptr 0 0)) (N (N L vQ L) none L)) none (N (N (N L (some (.rs 39 0)) L) none L) none L)),o1j,40⟩
def q40:Way S:=⟨.ret,⟨v1q,oY,81⟩,[.int,.int,.int,(.lst .str),(.st 20),(.lst .str),(.st 18)]⟩
def q41:Way S:=⟨.ret,⟨v1q,oY,72⟩,[.int,.int,.int,(.lst .str),(.st 20),(.lst .str),(.st 18)]⟩
def q42:Way S:=⟨(.exit 0),⟨(N (N L (some (.ptr 0 0)) L) none L),o1j,45⟩,[(.lst .str),(.st 20)]⟩
def q43:LE S:=⟨q3Y,q3Z,[.int,(.lst .str),(.st 20)],[q40,q41,q42]⟩
def q44 (x:t1c):((Int×Int×Int×(List ByteArray)×(List ByteArray)×Z5)⊕(Int×Int×Int×(List ByteArray)×(List ByteArray)×Z5)⊕(List ByteArray))→t8:=Sum.elim (fun y0=>(.inl (y0.1,y0.2.1,y0.2.2.1,y0.2.2.2.1,x.2.2,y0.2.2.2.2.1,y0.2.2.2.2.2))) (Sum.elim (fun y1=>(.inr (.inl (y1.1,y1.2.1,y1.2.2.1,y1.2.2.2.1,x.2.2,y1.2.2.2.2.1,y1.2.2.2.2.2)))) (fun y2=>(.inr (.inr (y2,x.2.2)))))
noncomputable def q45 {R:Type} (x:t1c) (k:t8→Option R):Option R:=(X2N x.2.2 (x.1,x.2.1)).bind (Sum.elim (fun y0=>k (.inl (y0.1,y0.2.1,y0.2.2.1,y0.2.2.2.1,x.2.2,y0.2.2.2.2.1,y0.2.2.2.2.2))) (Sum.elim (fun y1=>k (.inr (.inl (y1.1,y1.2.1,y1.2.2.1,y1.2.2.2.1,x.2.2,y1.2.2.2.2.1,y1.2.2.2.2.2)))) (fun y2=>k (.inr (.inr (y2,x.2.2))))))
def q46 (x:t1c) (v:(Int×(List ByteArray))):t1c:=(v.1,v.2,x.2.2)
theorem q47 (x:t1c):LE.step X q43 q3U q0 q3W 12 x=WR x.2.2 x.1 x.2.1 (fun w0 w1=>(Sum.inl (w0,w1,x.2.2))) (fun p0 p1 p2 p3 p4 p5=>(Sum.inr (.inl (p0,p1,p2,p3,x.2.2,p4,p5)))) (fun p0 p1 p2 p3 p4 p5=>(Sum.inr (.inr (.inl (p0,p1,p2,p3,x.2.2,p4,p5))))) (fun p0=>(Sum.inr (.inr (.inr (p0,x.2.2))))):=by kernel_rfl
theorem q49 {R:Type} (x:t1c) (k:t8→Option R) (r:R) (h:q45 x k=some r):∃ o,Z5s (LE.step X q43 q3U q0 q3W 12) x o∧k o=some r:=by
 obtain ⟨o,h1,h2⟩:=Z0 h
 exact ⟨q44 x o,Zhl (st:=fun (x:t1c)=>Wz x.2.2) (prj:=fun x=>(x.1,x.2.1)) (emb:=q46) (embO:=q44) (fun x=>(q47 x).trans (by unfold Wz WR;simp only [Zhd,Zh8,Zhe,Option.map_some,Option.map_none];rfl)) (fun _ _=>rfl) (fun _ _=>rfl) (fun _ _ _=>rfl) (fun _ _ _=>rfl) (fun _=>rfl) (Z1S.1 h1),by
  first
  | exact h2
  | (rcases o with o|o|o<;>exact h2)⟩
noncomputable def q4a {R:Type}:Z27 S R:=LE.ls X q43 q45 q3W
theorem q4b {R:Type}:Z3J X (q4a (R:=R)):=Zhq xok q3V (e:=q43) q1 q3X q49 q3X
def q4c:Key:=⟨[51],51,none,[0,0,1,0,1,1,1,1,1,1,1,1],2,50⟩
def q4d:StT S:=⟨(N (N (N L none (N L vQ L)) (some (.ptr 0 0)) L) none L),o1j,50⟩
def q4e:Way S:=⟨.ret,⟨v1q,o1j,69⟩,[.int,.int,.int,(.lst .str),(.st 20)]⟩
def q4f:Way S:=⟨(.exit 2),⟨L,o1j,55⟩,[(.lst .str),(.st 20)]⟩
def q4g:LE S:=⟨q4c,q4d,[.int,(.lst .str),(.st 20)],[q4e,q4f]⟩
def q4h (x:t1c):((Int×Int×Int)⊕Unit)→tI:=Sum.elim (fun y0=>(.inl (y0.1,y0.2.1,y0.2.2,x.2.1,x.2.2))) (fun y1=>(.inr (x.2.1,x.2.2)))
noncomputable def q4i {R:Type} (x:t1c) (k:tI→Option R):Option R:=(X2O x.2.2 x.1).bind (Sum.elim (fun y0=>k (.inl (y0.1,y0.2.1,y0.2.2,x.2.1,x.2.2))) (fun y1=>k (.inr (x.2.1,x.2.2))))
def q4j (x:t1c) (v:Int):t1c:=(v,x.2.1,x.2.2)
theorem q4k (x:t1c):LE.step X q4g q3U q0 q4a 12 x=WS x.2.2 x.1 (fun w0=>(Sum.inl (w0,x.2.1,x.2.2))) (fun p0 p1 p2=>(Sum.inr (.inl (p0,p1,p2,x.2.1,x.2.2)))) (Sum.inr (.inr (x.2.1,x.2.2))):=by kernel_rfl
theorem q4m {R:Type} (x:t1c) (k:tI→Option R) (r:R) (h:q4i x k=some r):∃ o,Z5s (LE.step X q4g q3U q0 q4a 12) x o∧k o=some r:=by
 obtain ⟨o,h1,h2⟩:=Z0 h
 exact ⟨q4h x o,Zhl (st:=fun (x:t1c)=>WA x.2.2) (prj:=fun x=>x.1) (emb:=q4j) (embO:=q4h) (fun x=>(q4k x).trans (by unfold WA WS;simp only [Zhd,Zh8,Zhe,Option.map_some,Option.map_none];rfl)) (fun _ _=>rfl) (fun _ _=>rfl) (fun _ _ _=>rfl) (fun _ _ _=>rfl) (fun _=>rfl) (Z1S.1 h1),by
  first
  | exact h2
  | (rcases o with o|o<;>exact h2)⟩
noncomputable def q4n {R:Type}:Z27 S R:=LE.ls X q4g q4i q4a
theorem q4o {R:Type}:Z3J X (q4n (R:=R)):=Zhq xok q3V (e:=q4g) q1 q4b q4m q4b
theorem q4p (x0:ZJ):Zhs X q3U [(.st 20)] [(.int .i64),(.int .i64),(.int .i64)] q0 q4n 12 51 (x0,())=X29 x0:=by kernel_rfl
noncomputable def q4q:F7 S:=⟨[(.st 20)],[(.int .i64),(.int .i64),(.int .i64)],fun xs=>X4r xs.1⟩
theorem q4r:Z7Q X 51 q4q:=Zho (Zhn xok q3V q1 q4o 12 51) fun xs _ h=>((q4p xs.1).trans (X5n xs.1).symm).trans h
noncomputable def q4s:List (Nat×F7 S):=[]
theorem q4t:Z9n X (q4s):=trivial
abbrev q4u {R:Type}:Z27 S R:=Zgi
theorem q4v {R:Type}:Z3J X (q4u (R:=R)):=ZgQ X
def q4w:Key:=⟨[30],30,none,[0,0,1,0,1,1],0,4⟩
def q4x:StT S:=⟨(N (N L vQ (N L vQ L)) none (N L (some (.ptr 0 0)) (N L vQ L))),(N L ol L),4⟩
def q4y:Way S:=⟨(.exit 0),⟨v1z,(N L ol L),9⟩,[.int,(.st 4)]⟩
def q4z:LE S:=⟨q4w,q4x,[.int,.int,.int,(.st 4)],[q4y]⟩
def q4A (x:t1h):Int→(Int×Zw):=fun y0=>(y0,x.2.2.2)
noncomputable def q4B {R:Type} (x:t1h) (k:(Int×Zw)→Option R):Option R:=(X3E x.1 x.2.2.2 (x.2.1,x.2.2.1)).bind (fun y0=>k (y0,x.2.2.2))
def q4C (x:t1h) (v:(Int×Int)):t1h:=(x.1,v.1,v.2,x.2.2.2)
theorem q4D (x:t1h):LE.step X q4z q4s q0 q4u 12 x=W3 x.1 x.2.2.2 x.2.1 x.2.2.1 (fun w0 w1=>(Sum.inl (x.1,w0,w1,x.2.2.2))) (fun p0=>(Sum.inr (p0,x.2.2.2))):=by kernel_rfl
theorem q4F {R:Type} (x:t1h) (k:(Int×Zw)→Option R) (r:R) (h:q4B x k=some r):∃ o,Z5s (LE.step X q4z q4s q0 q4u 12) x o∧k o=some r:=by
 obtain ⟨o,h1,h2⟩:=Z0 h
 exact ⟨q4A x o,Zhl (st:=fun (x:t1h)=>W0 x.1 x.2.2.2) (prj:=fun x=>(x.2.1,x.2.2.1)) (emb:=q4C) (embO:=q4A) (fun x=>(q4D x).trans (by unfold W0 W3;simp only [Zhd,Zh8,Zhe,Option.map_some,Option.map_none];rfl)) (fun _ _=>rfl) (fun _ _=>rfl) (fun _ _ _=>rfl) (fun _ _ _=>rfl) (fun _=>rfl) (Z1S.1 h1),by
  first
  | exact h2
  | (rcases o with o<;>exact h2)⟩
noncomputable def q4G {R:Type}:Z27 S R:=LE.ls X q4z q4B q4u
theorem q4H {R:Type}:Z3J X (q4G (R:=R)):=Zhq xok q4t (e:=q4z) q1 q4v q4F q4v
theorem q4I (x0:Zw) (x1:Int):Zhs X q4s [(.st 4),(.int .i64)] [(.int .i64)] q0 q4G 12 30 (x0,x1,())=X1x x0 x1:=by kernel_rfl
noncomputable def q4J:F7 S:=⟨[(.st 4),(.int .i64)],[(.int .i64)],fun xs=>X3y xs.1 xs.2.1⟩
theorem q4K:Z7Q X 30 q4J:=Zho (Zhn xok q4t q1 q4H 12 30) fun xs _ h=>((q4I xs.1 xs.2.1).trans (X4E xs.1 xs.2.1).symm).trans h
noncomputable def q4L:List (Nat×F7 S):=[(65,q3x),(30,q4J)]
theorem q4M:Z9n X (q4L):=⟨q3y,q4K,trivial⟩
abbrev q4N {R:Type}:Z27 S R:=Zgi
theorem q4O {R:Type}:Z3J X (q4N (R:=R)):=ZgQ X
theorem q4P (x0:ZJ) (x1:Zm):Zhs X q4L [(.st 20),(.st 21)] [(.int .i64)] q0 q4N 12 60 (x0,x1,())=X2a x0 x1:=by kernel_rfl
noncomputable def q4Q:F7 S:=⟨[(.st 20),(.st 21)],[(.int .i64)],fun xs=>X4s xs.1 xs.2.1⟩
theorem q4R:Z7Q X 60 q4Q:=Zho (Zhn xok q4M q1 q4O 12 60) fun xs _ h=>((q4P xs.1 xs.2.1).trans (X5p xs.1 xs.2.1).symm).trans h
noncomputable def q4S:List (Nat×F7 S):=[(51,q4q),(60,q4Q)]
theorem q4T:Z9n X (q4S):=⟨q4r,q4R,trivial⟩
abbrev q4U {R:Type}:Z27 S R:=Zgi
theorem q4V {R:Type}:Z3J X (q4U (R:=R)):=ZgQ X
def q4W:Key:=⟨[45],45,none,[0,0,1,0,1,1,1,1],0,22⟩
def q4X:StT S:=⟨(N (N L vN (N (N L vQ L) none L)) none (N L (some (.ptr 0 0)) L)),(N L od L),22⟩
def q4Y:Way S:=⟨.ret,⟨v1p,(N L od L),39⟩,[.int,.int,(.st 20)]⟩
def q4Z:Way S:=⟨(.exit 0),⟨L,(N L od L),26⟩,[(.st 20)]⟩
def q50:LE S:=⟨q4W,q4X,[(.lst (.st 21)),.int,(.st 20)],[q4Y,q4Z]⟩
def q51 (x:t1e):((Int×Int)⊕Unit)→((Int×Int×ZJ)⊕ZJ):=Sum.elim (fun y0=>(.inl (y0.1,y0.2,x.2.2))) (fun y1=>(.inr x.2.2))
noncomputable def q52 {R:Type} (x:t1e) (k:((Int×Int×ZJ)⊕ZJ)→Option R):Option R:=(X1z x.1 x.2.2 x.2.1).bind (Sum.elim (fun y0=>k (.inl (y0.1,y0.2,x.2.2))) (fun y1=>k (.inr x.2.2)))
def q53 (x:t1e) (v:Int):t1e:=(x.1,v,x.2.2)
theorem q54 (x:t1e):LE.step X q50 q4S q0 q4U 12 x=Xp x.1 x.2.2 x.2.1 (fun w0=>(Sum.inl (x.1,w0,x.2.2))) (fun p0 p1=>(Sum.inr (.inl (p0,p1,x.2.2)))) (Sum.inr (.inr x.2.2)):=by kernel_rfl
theorem q56 {R:Type} (x:t1e) (k:((Int×Int×ZJ)⊕ZJ)→Option R) (r:R) (h:q52 x k=some r):∃ o,Z5s (LE.step X q50 q4S q0 q4U 12) x o∧k o=some r:=by
 obtain ⟨o,h1,h2⟩:=Z0 h
 exact ⟨q51 x o,Zhl (st:=fun (x:t1e)=>Xh x.1 x.2.2) (prj:=fun x=>x.2.1) (emb:=q53) (embO:=q51) (fun x=>(q54 x).trans (by unfold Xh Xp;simp only [Zhd,Zh8,Zhe,Option.map_some,Option.map_none];rfl)) (fun _ _=>rfl) (fun _ _=>rfl) (fun _ _ _=>rfl) (fun _ _ _=>rfl) (fun _=>rfl) (Z1S.1 h1),by
  first
  | exact h2
  | (rcases o with o|o<;>exact h2)⟩
noncomputable def q57 {R:Type}:Z27 S R:=LE.ls X q50 q52 q4U
theorem q58 {R:Type}:Z3J X (q57 (R:=R)):=Zhq xok q4T (e:=q50) q1 q4V q56 q4V
theorem q59 (x0:ZJ) (x1:List Zm):Zhs X q4S [(.st 20),(.sl (.st 21))] [(.int .i64),(.int .i64)] q0 q57 12 45 (x0,x1,())=W4 x0 x1:=by kernel_rfl
noncomputable def q5a:F7 S:=⟨[(.st 20),(.sl (.st 21))],[(.int .i64),(.int .i64)],fun xs=>X2d xs.1 xs.2.1⟩
theorem q5b:Z7Q X 45 q5a:=Zho (Zhn xok q4T q1 q58 12 45) fun xs _ h=>((q59 xs.1 xs.2.1).trans (X3G xs.1 xs.2.1).symm).trans h
noncomputable def q5c:List (Nat×F7 S):=[(45,q5a)]
theorem q5d:Z9n X (q5c):=⟨q5b,trivial⟩
abbrev q5e {R:Type}:Z27 S R:=Zgi
theorem q5f {R:Type}:Z3J X (q5e (R:=R)):=ZgQ X
theorem q5g (x0:ZJ) (x1:List Zm):Zhs X q5c [(.st 20),(.sl (.st 21))] [.bool] q0 q5e 12 22 (x0,x1,())=X2i x0 x1:=by kernel_rfl
noncomputable def q5h:F7 S:=⟨[(.st 20),(.sl (.st 21))],[.bool],fun xs=>X4P xs.1 xs.2.1⟩
theorem q5i:Z7Q X 22 q5h:=Zho (Zhn xok q5d q1 q5f 12 22) fun xs _ h=>((q5g xs.1 xs.2.1).trans (X5F xs.1 xs.2.1).symm).trans h
noncomputable def q5j:List (Nat×F7 S):=[]
theorem q5k:Z9n X (q5j):=trivial
abbrev q5l {R:Type}:Z27 S R:=Zgi
theorem q5m {R:Type}:Z3J X (q5l (R:=R)):=ZgQ X
def q5n:Key:=⟨[102],102,none,[0,0,1,0,1,1],0,4⟩
def q5o:StT S:=⟨(N (N (N (N L (some (.iter 3)) L) (some (.int .i32 0)) L) none L) vI L),o1A,4⟩
def q5p:Way S:=⟨.ret,⟨(N L none (N L vR L)),o1A,23⟩,[.bool,.str,.nat]⟩
def q5q:Way S:=⟨(.exit 0),⟨(N (N (N L (some (.int .i32 0)) L) none L) vI L),o1A,6⟩,[.int,.str,.str,.nat]⟩
def q5r:LE S:=⟨q5n,q5o,[.int,.str,.str,.nat],[q5p,q5q]⟩
def q5s (x:t14):((Bool×Nat)⊕(Int×Nat))→tN:=Sum.elim (fun y0=>(.inl (y0.1,x.2.2.1,y0.2))) (fun y1=>(.inr (y1.1,x.2.1,x.2.2.1,y1.2)))
noncomputable def q5t {R:Type} (x:t14) (k:tN→Option R):Option R:=(X4g x.2.1 x.2.2.1 (x.1,x.2.2.2)).bind (Sum.elim (fun y0=>k (.inl (y0.1,x.2.2.1,y0.2))) (fun y1=>k (.inr (y1.1,x.2.1,x.2.2.1,y1.2))))
def q5u (x:t14) (v:(Int×Nat)):t14:=(v.1,x.2.1,x.2.2.1,v.2)
theorem q5v (x:t14):LE.step X q5r q5j q0 q5l 12 x=X13 x.2.1 x.2.2.1 x.1 x.2.2.2 (fun w0 w1=>(Sum.inl (w0,x.2.1,x.2.2.1,w1))) (fun p0 p1=>(Sum.inr (.inl (p0,x.2.2.1,p1)))) (fun p0 p1=>(Sum.inr (.inr (p0,x.2.1,x.2.2.1,p1)))):=by kernel_rfl
theorem q5x {R:Type} (x:t14) (k:tN→Option R) (r:R) (h:q5t x k=some r):∃ o,Z5s (LE.step X q5r q5j q0 q5l 12) x o∧k o=some r:=by
 obtain ⟨o,h1,h2⟩:=Z0 h
 exact ⟨q5s x o,Zhl (st:=fun (x:t14)=>WX x.2.1 x.2.2.1) (prj:=fun x=>(x.1,x.2.2.2)) (emb:=q5u) (embO:=q5s) (fun x=>(q5v x).trans (by unfold WX X13;simp only [Zhd,Zh8,Zhe,Option.map_some,Option.map_none];rfl)) (fun _ _=>rfl) (fun _ _=>rfl) (fun _ _ _=>rfl) (fun _ _ _=>rfl) (fun _=>rfl) (Z1S.1 h1),by
  first
  | exact h2
  | (rcases o with o|o<;>exact h2)⟩
noncomputable def q5y {R:Type}:Z27 S R:=LE.ls X q5r q5t q5l
theorem q5z {R:Type}:Z3J X (q5y (R:=R)):=Zhq xok q5k (e:=q5r) q1 q5m q5x q5m
theorem q5A (x0:ByteArray):Zhs X q5j [.str] [.bool] q0 q5y 12 102 (x0,())=X2H x0:=by kernel_rfl
noncomputable def q5B:F7 S:=⟨[.str],[.bool],fun xs=>X2H xs.1⟩
theorem q5C:Z7Q X 102 q5B:=Zho (Zhn xok q5k q1 q5z 12 102) fun xs _ h=>(q5A xs.1).trans h
noncomputable def q5D:List (Nat×F7 S):=[]
theorem q5E:Z9n X (q5D):=trivial
abbrev q5F {R:Type}:Z27 S R:=Zgi
theorem q5G {R:Type}:Z3J X (q5F (R:=R)):=ZgQ X
def q5H:Key:=⟨[81,2,1,58,2,1,73],81,none,[0,0,1,0,1],0,17⟩
def q5I:StT S:=⟨(N (N (N (N L vQ L) none L) (some (.fn (.func 91) [] [(.ptr 0 0),(.ptr 1 0)])) L) vM v1x),(N (N L oy L) oy L),17⟩
def q5J:Way S:=⟨.ret,⟨v1w,(N (N L oy L) oy L),38⟩,[.int,.int,.int]⟩
def q5K:Way S:=⟨(.exit 0),⟨L,(N (N L oy L) oy L),18⟩,[.int,.int]⟩
def q5L:LE S:=⟨q5H,q5I,[.int,(.lst (.int .i64)),.int,.int,.int],[q5J,q5K]⟩
def q5M (x:t13):(Int⊕Unit)→t1a:=Sum.elim (fun y0=>(.inl (y0,x.2.2.2.1,x.2.2.2.2))) (fun y1=>(.inr (x.2.2.2.1,x.2.2.2.2)))
noncomputable def q5N {R:Type} (x:t13) (k:t1a→Option R):Option R:=(X4B x.1 x.2.1 x.2.2.2.1 x.2.2.2.2 x.2.2.1).bind (Sum.elim (fun y0=>k (.inl (y0,x.2.2.2.1,x.2.2.2.2))) (fun y1=>k (.inr (x.2.2.2.1,x.2.2.2.2))))
def q5O (x:t13) (v:Int):t13:=(x.1,x.2.1,v,x.2.2.2.1,x.2.2.2.2)
theorem q5P (x:t13):LE.step X q5L q5D q0 q5F 12 x=X1s x.1 x.2.1 x.2.2.2.1 x.2.2.2.2 x.2.2.1 (fun w0=>(Sum.inl (x.1,x.2.1,w0,x.2.2.2.1,x.2.2.2.2))) (fun p0=>(Sum.inr (.inl (p0,x.2.2.2.1,x.2.2.2.2)))) (Sum.inr (.inr (x.2.2.2.1,x.2.2.2.2))):=by kernel_rfl
theorem q5R {R:Type} (x:t13) (k:t1a→Option R) (r:R) (h:q5N x k=some r):∃ o,Z5s (LE.step X q5L q5D q0 q5F 12) x o∧k o=some r:=by
 obtain ⟨o,h1,h2⟩:=Z0 h
 exact ⟨q5M x o,Zhl (st:=fun (x:t13)=>X1m x.1 x.2.1 x.2.2.2.1 x.2.2.2.2) (prj:=fun x=>x.2.2.1) (emb:=q5O) (embO:=q5M) (fun x=>(q5P x).trans (by unfold X1m X1s;simp only [Zhd,Zh8,Zhe,Option.map_some,Option.map_none];rfl)) (fun _ _=>rfl) (fun _ _=>rfl) (fun _ _ _=>rfl) (fun _ _ _=>rfl) (fun _=>rfl) (Z1S.1 h1),by
  first
  | exact h2
  | (rcases o with o|o<;>exact h2)⟩
noncomputable def q5S {R:Type}:Z27 S R:=LE.ls X q5L q5N q5F
theorem q5T {R:Type}:Z3J X (q5S (R:=R)):=Zhq xok q5E (e:=q5L) q1 q5G q5R q5G
theorem q5U (x0:Int) (x1:Int) (x2:List Int):Zhs X q5D [(.int .i64),(.int .i64),(.sl (.int .i64))] [.bool] q0 q5S 12 73 (x0,x1,x2,())=X1l x0 x1 x2:=by kernel_rfl
noncomputable def q5V:F7 S:=⟨[(.int .i64),(.int .i64),(.sl (.int .i64))],[.bool],fun xs=>X1l xs.1 xs.2.1 xs.2.2.1⟩
theorem q5W:Z7Q X 73 q5V:=Zho (Zhn xok q5E q1 q5T 12 73) fun xs _ h=>(q5U xs.1 xs.2.1 xs.2.2.1).trans h
noncomputable def q5X:List (Nat×F7 S):=[(73,q5V)]
theorem q5Y:Z9n X (q5X):=⟨q5W,trivial⟩
abbrev q5Z {R:Type}:Z27 S R:=Zgi
theorem q60 {R:Type}:Z3J X (q5Z (R:=R)):=ZgQ X
def q61:Key:=⟨[90,2,1,71,2,1,53],90,none,[0,0,1,0,1],0,16⟩
def q62:StT S:=⟨(N (N (N (N L vQ L) none L) (some (.fn (.func 72) [] [(.ptr 0 0)])) L) vP v1x),(N L oy L),16⟩
def q63:Way S:=⟨.ret,⟨v1w,(N (N L none (N (N L none (N L om L)) none L)) oy (N L none (N o1B none L))),39⟩,[.int,(.st 2),.int,(.lst (.int .i64))]⟩
def q64:Way S:=⟨(.exit 0),⟨L,(N L oy L),17⟩,[.int]⟩
def q65:LE S:=⟨q61,q62,[.int,(.lst (.st 2)),.int,.int],[q63,q64]⟩
def q66 (x:t1d):((Int×Zu×(List Int))⊕Unit)→((Int×Zu×Int×(List Int))⊕Int):=Sum.elim (fun y0=>(.inl (y0.1,y0.2.1,x.2.2.2,y0.2.2))) (fun y1=>(.inr x.2.2.2))
noncomputable def q67 {R:Type} (x:t1d) (k:((Int×Zu×Int×(List Int))⊕Int)→Option R):Option R:=(X4z x.1 x.2.1 x.2.2.2 x.2.2.1).bind (Sum.elim (fun y0=>k (.inl (y0.1,y0.2.1,x.2.2.2,y0.2.2))) (fun y1=>k (.inr x.2.2.2)))
def q68 (x:t1d) (v:Int):t1d:=(x.1,x.2.1,v,x.2.2.2)
theorem q69 (x:t1d):LE.step X q65 q5X q0 q5Z 12 x=X1r x.1 x.2.1 x.2.2.2 x.2.2.1 (fun w0=>(Sum.inl (x.1,x.2.1,w0,x.2.2.2))) (fun p0 p1 p2=>(Sum.inr (.inl (p0,p1,x.2.2.2,p2)))) (Sum.inr (.inr x.2.2.2)):=by kernel_rfl
theorem q6b {R:Type} (x:t1d) (k:((Int×Zu×Int×(List Int))⊕Int)→Option R) (r:R) (h:q67 x k=some r):∃ o,Z5s (LE.step X q65 q5X q0 q5Z 12) x o∧k o=some r:=by
 obtain ⟨o,h1,h2⟩:=Z0 h
 exact ⟨q66 x o,Zhl (st:=fun (x:t1d)=>X1k x.1 x.2.1 x.2.2.2) (prj:=fun x=>x.2.2.1) (emb:=q68) (embO:=q66) (fun x=>(q69 x).trans (by unfold X1k X1r;simp only [Zhd,Zh8,Zhe,Option.map_some,Option.map_none];rfl)) (fun _ _=>rfl) (fun _ _=>rfl) (fun _ _ _=>rfl) (fun _ _ _=>rfl) (fun _=>rfl) (Z1S.1 h1),by
  first
  | exact h2
  | (rcases o with o|o<;>exact h2)⟩
noncomputable def q6c {R:Type}:Z27 S R:=LE.ls X q65 q67 q5Z
theorem q6d {R:Type}:Z3J X (q6c (R:=R)):=Zhq xok q5Y (e:=q65) q1 q60 q6b q60
theorem q6e (x0:Int) (x1:List Zu):Zhs X q5X [(.int .i64),(.sl (.st 2))] [.bool] q0 q6c 12 53 (x0,x1,())=X3V x0 x1:=by kernel_rfl
noncomputable def q6f:F7 S:=⟨[(.int .i64),(.sl (.st 2))],[.bool],fun xs=>X3V xs.1 xs.2.1⟩
theorem q6g:Z7Q X 53 q6f:=Zho (Zhn xok q5Y q1 q6d 12 53) fun xs _ h=>(q6e xs.1 xs.2.1).trans h
noncomputable def q6h:List (Nat×F7 S):=[(73,q5V)]
theorem q6i:Z9n X (q6h):=⟨q5W,trivial⟩
abbrev q6j {R:Type}:Z27 S R:=Zgi
theorem q6k {R:Type}:Z3J X (q6j (R:=R)):=ZgQ X
def q6l:Key:=⟨[103],103,none,[0,0,1,0,1,1,1],0,9⟩
def q6m:StT S:=⟨(N (N (N L vQ (N L vQ L)) none L) none (N (N L none (N L vQ L)) none (N (N L (some (.sl (.st 3) [])) L) none L))),o1B,9⟩
def q6n:Way S:=⟨.ret,⟨(N L none (N L vQ L)),(N (N (N L ov L) none L) none (N (N (N (N L ov L) none L) none (N L on L)) none L)),26⟩,[.int,(.lst (.int .i64)),(.lst (.int .i64)),(.st 3)]⟩
def q6o:Way S:=⟨.ret,⟨(N L none (N L vQ L)),o14,26⟩,[.int,(.lst (.int .i64)),(.lst (.int .i64)),(.lst (.int .i64)),(.st 3)]⟩
def q6p:Way S:=⟨.ret,⟨(N L none (N L vQ L)),o14,31⟩,[.int,(.lst (.int .i64)),(.lst (.int .i64)),(.lst (.int .i64)),(.st 3)]⟩
def q6q:Way S:=⟨(.exit 0),⟨L,o1B,10⟩,[(.lst (.int .i64))]⟩
def q6r:LE S:=⟨q6l,q6m,[.int,.int,.int,(.lst (.st 3)),(.lst (.int .i64))],[q6n,q6o,q6p,q6q]⟩
def q6s (x:tX):((Int×(List Int)×Zk)⊕(Int×(List Int)×(List Int)×Zk)⊕(Int×(List Int)×(List Int)×Zk)⊕Unit)→t9:=Sum.elim (fun y0=>(.inl (y0.1,x.2.2.2.2,y0.2.1,y0.2.2))) (Sum.elim (fun y1=>(.inr (.inl (y1.1,x.2.2.2.2,y1.2.1,y1.2.2.1,y1.2.2.2)))) (Sum.elim (fun y2=>(.inr (.inr (.inl (y2.1,x.2.2.2.2,y2.2.1,y2.2.2.1,y2.2.2.2))))) (fun y3=>(.inr (.inr (.inr x.2.2.2.2))))))
noncomputable def q6t {R:Type} (x:tX) (k:t9→Option R):Option R:=(X3N x.2.1 x.2.2.2.1 x.2.2.2.2 (x.1,x.2.2.1)).bind (Sum.elim (fun y0=>k (.inl (y0.1,x.2.2.2.2,y0.2.1,y0.2.2))) (Sum.elim (fun y1=>k (.inr (.inl (y1.1,x.2.2.2.2,y1.2.1,y1.2.2.1,y1.2.2.2)))) (Sum.elim (fun y2=>k (.inr (.inr (.inl (y2.1,x.2.2.2.2,y2.2.1,y2.2.2.1,y2.2.2.2))))) (fun y3=>k (.inr (.inr (.inr x.2.2.2.2)))))))
def q6u (x:tX) (v:(Int×Int)):tX:=(v.1,x.2.1,v.2,x.2.2.2.1,x.2.2.2.2)
theorem q6v (x:tX):LE.step X q6r q6h q0 q6j 12 x=Wg x.2.1 x.2.2.2.1 x.2.2.2.2 x.1 x.2.2.1 (fun w0 w1=>(Sum.inl (w0,x.2.1,w1,x.2.2.2.1,x.2.2.2.2))) (fun p0 p1 p2=>(Sum.inr (.inl (p0,x.2.2.2.2,p1,p2)))) (fun p0 p1 p2 p3=>(Sum.inr (.inr (.inl (p0,x.2.2.2.2,p1,p2,p3))))) (fun p0 p1 p2 p3=>(Sum.inr (.inr (.inr (.inl (p0,x.2.2.2.2,p1,p2,p3)))))) (Sum.inr (.inr (.inr (.inr x.2.2.2.2)))):=by kernel_rfl
theorem q6x {R:Type} (x:tX) (k:t9→Option R) (r:R) (h:q6t x k=some r):∃ o,Z5s (LE.step X q6r q6h q0 q6j 12) x o∧k o=some r:=by
 obtain ⟨o,h1,h2⟩:=Z0 h
 exact ⟨q6s x o,Zhl (st:=fun (x:tX)=>W7 x.2.1 x.2.2.2.1 x.2.2.2.2) (prj:=fun x=>(x.1,x.2.2.1)) (emb:=q6u) (embO:=q6s) (fun x=>(q6v x).trans (by unfold W7 Wg;simp only [Zhd,Zh8,Zhe,Option.map_some,Option.map_none];rfl)) (fun _ _=>rfl) (fun _ _=>rfl) (fun _ _ _=>rfl) (fun _ _ _=>rfl) (fun _=>rfl) (Z1S.1 h1),by
  first
  | exact h2
  | (rcases o with o|o|o|o<;>exact h2)⟩
noncomputable def q6y {R:Type}:Z27 S R:=LE.ls X q6r q6t q6j
theorem q6z {R:Type}:Z3J X (q6y (R:=R)):=Zhq xok q6i (e:=q6r) q1 q6k q6x q6k
theorem q6A (x0:List Zk):Zhs X q6h [(.sl (.st 3))] [(.int .i64)] q0 q6y 12 103 (x0,())=X2Z x0:=by kernel_rfl
noncomputable def q6B:F7 S:=⟨[(.sl (.st 3))],[(.int .i64)],fun xs=>X2Z xs.1⟩
theorem q6C:Z7Q X 103 q6B:=Zho (Zhn xok q6i q1 q6z 12 103) fun xs _ h=>(q6A xs.1).trans h
noncomputable def q6D:List (Nat×F7 S):=[(73,q5V)]
theorem q6E:Z9n X (q6D):=⟨q5W,trivial⟩
abbrev q6F {R:Type}:Z27 S R:=Zgi
theorem q6G {R:Type}:Z3J X (q6F (R:=R)):=ZgQ X
theorem q6H (x0:ZB) (x1:Int):Zhs X q6D [(.st 6),(.int .i64)] [(.int .i64)] q0 q6F 12 110 (x0,x1,())=X4y x0 x1:=by kernel_rfl
noncomputable def q6I:F7 S:=⟨[(.st 6),(.int .i64)],[(.int .i64)],fun xs=>X4y xs.1 xs.2.1⟩
theorem q6J:Z7Q X 110 q6I:=Zho (Zhn xok q6E q1 q6G 12 110) fun xs _ h=>(q6H xs.1 xs.2.1).trans h
noncomputable def q6K:List (Nat×F7 S):=[]
theorem q6L:Z9n X (q6K):=trivial
abbrev q6M {R:Type}:Z27 S R:=Zgi
theorem q6N {R:Type}:Z3J X (q6M (R:=R)):=ZgQ X
theorem q6O (x0:Zu) (x1:Zu):Zhs X q6K [(.st 2),(.st 2)] [(.st 2)] q0 q6M 12 55 (x0,x1,())=X6G x0 x1:=by kernel_rfl
noncomputable def q6P:F7 S:=⟨[(.st 2),(.st 2)],[(.st 2)],fun xs=>X6G xs.1 xs.2.1⟩
theorem q6Q:Z7Q X 55 q6P:=Zho (Zhn xok q6L q1 q6N 12 55) fun xs _ h=>(q6O xs.1 xs.2.1).trans h
noncomputable def q6R:List (Nat×F7 S):=[]
theorem q6S:Z9n X (q6R):=trivial
abbrev q6T {R:Type}:Z27 S R:=Zgi
theorem q6U {R:Type}:Z3J X (q6T (R:=R)):=ZgQ X
theorem q6V (x0:Zu) (x1:Zu):Zhs X q6R [(.st 2),(.st 2)] [(.int .i64)] q0 q6T 12 75 (x0,x1,())=X6H x0 x1:=by kernel_rfl
noncomputable def q6W:F7 S:=⟨[(.st 2),(.st 2)],[(.int .i64)],fun xs=>X6H xs.1 xs.2.1⟩
theorem q6X:Z7Q X 75 q6W:=Zho (Zhn xok q6S q1 q6U 12 75) fun xs _ h=>(q6V xs.1 xs.2.1).trans h
noncomputable def q6Y:List (Nat×F7 S):=[(73,q5V),(53,q6f),(110,q6I),(55,q6P),(75,q6W)]
theorem q6Z:Z9n X (q6Y):=⟨q5W,q6g,q6J,q6Q,q6X,trivial⟩
abbrev q70 {R:Type}:Z27 S R:=Zgi
theorem q71 {R:Type}:Z3J X (q70 (R:=R)):=ZgQ X
def q72:Key:=⟨[27,6,4,113,1,104],104,(some 27),[0,0,1,0,1,0,1,0,1,0,1,1,1],3,66⟩
def q73:StT S:=⟨(N (N L none (N v1x vQ L)) none (N (N (N (N (N L vP L) none L) none L) (some (.ptr 58 0)) L) (some (.ptr 1 0)) (N v1x none L))),oU,66⟩
def q74:Way S:=⟨(.exit 3),⟨(N (N L none (N L vQ L)) none (N (N L (some (.ptr 58 0)) L) (some (.ptr 1 0)) L)),oU,67⟩,[.int,(.st 15),.bool,.int,.bool,(.st 15),.bool,.int,(.st 15),(.st 17)]⟩
def q75:LE S:=⟨q72,q73,[.int,.int,(.lst (.st 2)),.int,(.st 15),.bool,.int,.bool,(.st 15),.bool,.int,(.st 15),(.st 17)],[q74]⟩
def q76 (x:tl):Int→tw:=fun y0=>(y0,x.2.2.2.2.1,x.2.2.2.2.2.1,x.2.2.2.2.2.2.1,x.2.2.2.2.2.2.2.1,x.2.2.2.2.2.2.2.2.1,x.2.2.2.2.2.2.2.2.2.1,x.2.2.2.2.2.2.2.2.2.2.1,x.2.2.2.2.2.2.2.2.2.2.2.1,x.2.2.2.2.2.2.2.2.2.2.2.2)
noncomputable def q77 {R:Type} (x:tl) (k:tw→Option R):Option R:=(Wp x.1 x.2.2.1 x.2.2.2.2.1 x.2.2.2.2.2.1 x.2.2.2.2.2.2.1 x.2.2.2.2.2.2.2.1 x.2.2.2.2.2.2.2.2.1 x.2.2.2.2.2.2.2.2.2.1 x.2.2.2.2.2.2.2.2.2.2.1 x.2.2.2.2.2.2.2.2.2.2.2.1 x.2.2.2.2.2.2.2.2.2.2.2.2 (x.2.1,x.2.2.2.1)).bind (fun y0=>k (y0,x.2.2.2.2.1,x.2.2.2.2.2.1,x.2.2.2.2.2.2.1,x.2.2.2.2.2.2.2.1,x.2.2.2.2.2.2.2.2.1,x.2.2.2.2.2.2.2.2.2.1,x.2.2.2.2.2.2.2.2.2.2.1,x.2.2.2.2.2.2.2.2.2.2.2.1,x.2.2.2.2.2.2.2.2.2.2.2.2))
def q78 (x:tl) (v:(Int×Int)):tl:=(x.1,v.1,x.2.2.1,v.2,x.2.2.2.2.1,x.2.2.2.2.2.1,x.2.2.2.2.2.2.1,x.2.2.2.2.2.2.2.1,x.2.2.2.2.2.2.2.2.1,x.2.2.2.2.2.2.2.2.2.1,x.2.2.2.2.2.2.2.2.2.2.1,x.2.2.2.2.2.2.2.2.2.2.2.1,x.2.2.2.2.2.2.2.2.2.2.2.2)
theorem q79 (x:tl):LE.step X q75 q6Y q0 q70 12 x=Xw x.1 x.2.2.1 x.2.2.2.2.1 x.2.2.2.2.2.1 x.2.2.2.2.2.2.1 x.2.2.2.2.2.2.2.1 x.2.2.2.2.2.2.2.2.1 x.2.2.2.2.2.2.2.2.2.1 x.2.2.2.2.2.2.2.2.2.2.1 x.2.2.2.2.2.2.2.2.2.2.2.1 x.2.2.2.2.2.2.2.2.2.2.2.2 x.2.1 x.2.2.2.1 (fun w0 w1=>(Sum.inl (x.1,w0,x.2.2.1,w1,x.2.2.2.2.1,x.2.2.2.2.2.1,x.2.2.2.2.2.2.1,x.2.2.2.2.2.2.2.1,x.2.2.2.2.2.2.2.2.1,x.2.2.2.2.2.2.2.2.2.1,x.2.2.2.2.2.2.2.2.2.2.1,x.2.2.2.2.2.2.2.2.2.2.2.1,x.2.2.2.2.2.2.2.2.2.2.2.2))) (fun p0=>(Sum.inr (p0,x.2.2.2.2.1,x.2.2.2.2.2.1,x.2.2.2.2.2.2.1,x.2.2.2.2.2.2.2.1,x.2.2.2.2.2.2.2.2.1,x.2.2.2.2.2.2.2.2.2.1,x.2.2.2.2.2.2.2.2.2.2.1,x.2.2.2.2.2.2.2.2.2.2.2.1,x.2.2.2.2.2.2.2.2.2.2.2.2))):=by kernel_rfl
theorem q7b {R:Type} (x:tl) (k:tw→Option R) (r:R) (h:q77 x k=some r):∃ o,Z5s (LE.step X q75 q6Y q0 q70 12) x o∧k o=some r:=by
 obtain ⟨o,h1,h2⟩:=Z0 h
 exact ⟨q76 x o,Zhl (st:=fun (x:tl)=>Xn x.1 x.2.2.1 x.2.2.2.2.1 x.2.2.2.2.2.1 x.2.2.2.2.2.2.1 x.2.2.2.2.2.2.2.1 x.2.2.2.2.2.2.2.2.1 x.2.2.2.2.2.2.2.2.2.1 x.2.2.2.2.2.2.2.2.2.2.1 x.2.2.2.2.2.2.2.2.2.2.2.1 x.2.2.2.2.2.2.2.2.2.2.2.2) (prj:=fun x=>(x.2.1,x.2.2.2.1)) (emb:=q78) (embO:=q76) (fun x=>(q79 x).trans (by unfold Xn Xw;simp only [Zhd,Zh8,Zhe,Option.map_some,Option.map_none];rfl)) (fun _ _=>rfl) (fun _ _=>rfl) (fun _ _ _=>rfl) (fun _ _ _=>rfl) (fun _=>rfl) (Z1S.1 h1),by
  first
  | exact h2
  | (rcases o with o<;>exact h2)⟩
noncomputable def q7c {R:Type}:Z27 S R:=LE.ls X q75 q77 q70
theorem q7d {R:Type}:Z3J X (q7c (R:=R)):=Zhq xok q6Z (e:=q75) q1 q71 q7b q71
def q7e:Key:=⟨[113,1,104],113,none,[0,0,1,1],0,45⟩
def q7f:StT S:=⟨(N (N (N L (some (.ptr 38 0)) (N (N L vQ L) none L)) none L) (some (.yld 27)) (N v1w none (N (N (N L vP L) none L) none L))),oV,45⟩
def q7g:Way S:=⟨.ret,⟨L,(N (N (N (N L none (N L ob L)) none (N L none (N L (some (.loop 104 (N (N (N (N (N L vR L) none L) vQ L) (some (.ptr 0 0)) (N (N L none (N L vR L)) none L)) vp (N (N (N L vR L) none (N L none (N L vh L))) (some (.ptr 1 0)) L)) (29::[]) .skip .skip 1 .ret (1::(104::[])) (0::(1::(0::(1::(1::(1::[])))))))) L))) ow L) ob (N (N (N (N L none (N L om L)) none L) none L) none (N (N L none (N L none (N L oc L))) ov o1C))),76⟩,[(.st 15),.bool,.int,.bool,(.st 15),.bool,.int,(.st 15),(.st 2),(.st 17),(.lst (.int .i64)),(.st 2)]⟩
def q7h:Way S:=⟨(.exit 0),⟨L,oV,46⟩,[(.st 15),.bool,.int,.bool,(.st 15),.bool,.int,(.st 15),(.lst (.int .i64)),(.st 2)]⟩
def q7i:LE S:=⟨q7e,q7f,[.int,.int,(.lst (.st 2)),(.st 15),.bool,.int,.bool,(.st 15),.bool,.int,(.st 15),(.lst (.int .i64)),(.st 2)],[q7g,q7h]⟩
def q7j (x:tk):((Int×Zu×Z6×Zu)⊕Zu)→t6:=Sum.elim (fun y0=>(.inl (x.2.2.2.1,x.2.2.2.2.1,x.2.2.2.2.2.1,x.2.2.2.2.2.2.1,x.2.2.2.2.2.2.2.1,x.2.2.2.2.2.2.2.2.1,y0.1,x.2.2.2.2.2.2.2.2.2.2.1,y0.2.1,y0.2.2.1,x.2.2.2.2.2.2.2.2.2.2.2.1,y0.2.2.2))) (fun y1=>(.inr (x.2.2.2.1,x.2.2.2.2.1,x.2.2.2.2.2.1,x.2.2.2.2.2.2.1,x.2.2.2.2.2.2.2.1,x.2.2.2.2.2.2.2.2.1,x.2.2.2.2.2.2.2.2.2.1,x.2.2.2.2.2.2.2.2.2.2.1,x.2.2.2.2.2.2.2.2.2.2.2.1,y1)))
noncomputable def q7k {R:Type} (x:tk) (k:t6→Option R):Option R:=(X2S x.1 x.2.2.1 x.2.2.2.1 x.2.2.2.2.1 x.2.2.2.2.2.1 x.2.2.2.2.2.2.1 x.2.2.2.2.2.2.2.1 x.2.2.2.2.2.2.2.2.1 x.2.2.2.2.2.2.2.2.2.1 x.2.2.2.2.2.2.2.2.2.2.1 x.2.2.2.2.2.2.2.2.2.2.2.1 (x.2.1,x.2.2.2.2.2.2.2.2.2.2.2.2)).bind (Sum.elim (fun y0=>k (.inl (x.2.2.2.1,x.2.2.2.2.1,x.2.2.2.2.2.1,x.2.2.2.2.2.2.1,x.2.2.2.2.2.2.2.1,x.2.2.2.2.2.2.2.2.1,y0.1,x.2.2.2.2.2.2.2.2.2.2.1,y0.2.1,y0.2.2.1,x.2.2.2.2.2.2.2.2.2.2.2.1,y0.2.2.2))) (fun y1=>k (.inr (x.2.2.2.1,x.2.2.2.2.1,x.2.2.2.2.2.1,x.2.2.2.2.2.2.1,x.2.2.2.2.2.2.2.1,x.2.2.2.2.2.2.2.2.1,x.2.2.2.2.2.2.2.2.2.1,x.2.2.2.2.2.2.2.2.2.2.1,x.2.2.2.2.2.2.2.2.2.2.2.1,y1))))
def q7l (x:tk) (v:(Int×Zu)):tk:=(x.1,v.1,x.2.2.1,x.2.2.2.1,x.2.2.2.2.1,x.2.2.2.2.2.1,x.2.2.2.2.2.2.1,x.2.2.2.2.2.2.2.1,x.2.2.2.2.2.2.2.2.1,x.2.2.2.2.2.2.2.2.2.1,x.2.2.2.2.2.2.2.2.2.2.1,x.2.2.2.2.2.2.2.2.2.2.2.1,v.2)
theorem q7m (x:tk):LE.step X q7i q6Y q0 q7c 12 x=Xv x.1 x.2.2.1 x.2.2.2.1 x.2.2.2.2.1 x.2.2.2.2.2.1 x.2.2.2.2.2.2.1 x.2.2.2.2.2.2.2.1 x.2.2.2.2.2.2.2.2.1 x.2.2.2.2.2.2.2.2.2.1 x.2.2.2.2.2.2.2.2.2.2.1 x.2.2.2.2.2.2.2.2.2.2.2.1 x.2.1 x.2.2.2.2.2.2.2.2.2.2.2.2 (fun w0 w1=>(Sum.inl (x.1,w0,x.2.2.1,x.2.2.2.1,x.2.2.2.2.1,x.2.2.2.2.2.1,x.2.2.2.2.2.2.1,x.2.2.2.2.2.2.2.1,x.2.2.2.2.2.2.2.2.1,x.2.2.2.2.2.2.2.2.2.1,x.2.2.2.2.2.2.2.2.2.2.1,x.2.2.2.2.2.2.2.2.2.2.2.1,w1))) (fun p0 p1 p2 p3=>(Sum.inr (.inl (x.2.2.2.1,x.2.2.2.2.1,x.2.2.2.2.2.1,x.2.2.2.2.2.2.1,x.2.2.2.2.2.2.2.1,x.2.2.2.2.2.2.2.2.1,p0,x.2.2.2.2.2.2.2.2.2.2.1,p1,p2,x.2.2.2.2.2.2.2.2.2.2.2.1,p3)))) (fun p0=>(Sum.inr (.inr (x.2.2.2.1,x.2.2.2.2.1,x.2.2.2.2.2.1,x.2.2.2.2.2.2.1,x.2.2.2.2.2.2.2.1,x.2.2.2.2.2.2.2.2.1,x.2.2.2.2.2.2.2.2.2.1,x.2.2.2.2.2.2.2.2.2.2.1,x.2.2.2.2.2.2.2.2.2.2.2.1,p0)))):=by kernel_rfl
theorem q7o {R:Type} (x:tk) (k:t6→Option R) (r:R) (h:q7k x k=some r):∃ o,Z5s (LE.step X q7i q6Y q0 q7c 12) x o∧k o=some r:=by
 obtain ⟨o,h1,h2⟩:=Z0 h
 exact ⟨q7j x o,Zhl (st:=fun (x:tk)=>Xm x.1 x.2.2.1 x.2.2.2.1 x.2.2.2.2.1 x.2.2.2.2.2.1 x.2.2.2.2.2.2.1 x.2.2.2.2.2.2.2.1 x.2.2.2.2.2.2.2.2.1 x.2.2.2.2.2.2.2.2.2.1 x.2.2.2.2.2.2.2.2.2.2.1 x.2.2.2.2.2.2.2.2.2.2.2.1) (prj:=fun x=>(x.2.1,x.2.2.2.2.2.2.2.2.2.2.2.2)) (emb:=q7l) (embO:=q7j) (fun x=>(q7m x).trans (by unfold Xm Xv;simp only [Zhd,Zh8,Zhe,Option.map_some,Option.map_none];rfl)) (fun _ _=>rfl) (fun _ _=>rfl) (fun _ _ _=>rfl) (fun _ _ _=>rfl) (fun _=>rfl) (Z1S.1 h1),by
  first
  | exact h2
  | (rcases o with o|o<;>exact h2)⟩
noncomputable def q7p {R:Type}:Z27 S R:=LE.ls X q7i q7k q7c
theorem q7q {R:Type}:Z3J X (q7p (R:=R)):=Zhq xok q6Z (e:=q7i) q1 q7d q7o q7d
theorem q7r (x0:Z8):Zhs X q6Y [(.st 15)] [(.int .i64)] q0 q7p 12 104 (x0,())=X1I x0:=by kernel_rfl
noncomputable def q7s:F7 S:=⟨[(.st 15)],[(.int .i64)],fun xs=>X1I xs.1⟩
theorem q7t:Z7Q X 104 q7s:=Zho (Zhn xok q6Z q1 q7q 12 104) fun xs _ h=>(q7r xs.1).trans h
noncomputable def q7u:List (Nat×F7 S):=[(102,q5B),(53,q6f),(103,q6B),(104,q7s)]
theorem q7v:Z9n X (q7u):=⟨q5C,q6g,q6C,q7t,trivial⟩
abbrev q7w {R:Type}:Z27 S R:=Zgi
theorem q7x {R:Type}:Z3J X (q7w (R:=R)):=ZgQ X
def q7y:Key:=⟨[88],88,none,[0,0,1,0,1,1,1,1],0,17⟩
def q7z:StT S:=⟨(N (N v1w (some (.ptr 0 0)) L) none (N v1w none (N (N (N L (some (.sl (.st 4) [])) L) none L) vo L))),o1r,17⟩
def q7A:Way S:=⟨.ret,⟨v1q,o1g,57⟩,[.int,.int,.int,(.st 4),(.st 8),(.mp .str (.int .i64))]⟩
def q7B:Way S:=⟨.ret,⟨v1q,o1g,62⟩,[.int,.int,.int,(.st 4),(.st 8),(.mp .str (.int .i64))]⟩
def q7C:Way S:=⟨.ret,⟨v1q,o15,63⟩,[.int,.int,.int,(.st 4),(.st 8),(.mp .str (.int .i64)),(.lst (.st 2))]⟩
def q7D:Way S:=⟨.ret,⟨v1q,o15,66⟩,[.int,.int,.int,(.st 4),(.st 8),(.mp .str (.int .i64)),(.lst (.st 2))]⟩
def q7E:Way S:=⟨(.exit 0),⟨(N (N L (some (.ptr 0 0)) L) none (N L none (N L vo L))),o1r,18⟩,[(.st 8),(.mp .str (.int .i64))]⟩
def q7F:LE S:=⟨q7y,q7z,[.int,.int,(.lst (.st 4)),(.st 8),(.mp .str (.int .i64))],[q7A,q7B,q7C,q7D,q7E]⟩
def q7G (x:tO):((Int×Int×Int×Zw×t1i)⊕(Int×Int×Int×Zw×t1i)⊕(Int×Int×Int×Zw×t1i×(List Zu))⊕(Int×Int×Int×Zw×t1i×(List Zu))⊕t1i)→t0:=Sum.elim (fun y0=>(.inl (y0.1,y0.2.1,y0.2.2.1,y0.2.2.2.1,x.2.2.2.1,y0.2.2.2.2))) (Sum.elim (fun y1=>(.inr (.inl (y1.1,y1.2.1,y1.2.2.1,y1.2.2.2.1,x.2.2.2.1,y1.2.2.2.2)))) (Sum.elim (fun y2=>(.inr (.inr (.inl (y2.1,y2.2.1,y2.2.2.1,y2.2.2.2.1,x.2.2.2.1,y2.2.2.2.2.1,y2.2.2.2.2.2))))) (Sum.elim (fun y3=>(.inr (.inr (.inr (.inl (y3.1,y3.2.1,y3.2.2.1,y3.2.2.2.1,x.2.2.2.1,y3.2.2.2.2.1,y3.2.2.2.2.2)))))) (fun y4=>(.inr (.inr (.inr (.inr (x.2.2.2.1,y4)))))))))
noncomputable def q7H {R:Type} (x:tO) (k:t0→Option R):Option R:=(X3X x.1 x.2.2.1 x.2.2.2.1 (x.2.1,x.2.2.2.2)).bind (Sum.elim (fun y0=>k (.inl (y0.1,y0.2.1,y0.2.2.1,y0.2.2.2.1,x.2.2.2.1,y0.2.2.2.2))) (Sum.elim (fun y1=>k (.inr (.inl (y1.1,y1.2.1,y1.2.2.1,y1.2.2.2.1,x.2.2.2.1,y1.2.2.2.2)))) (Sum.elim (fun y2=>k (.inr (.inr (.inl (y2.1,y2.2.1,y2.2.2.1,y2.2.2.2.1,x.2.2.2.1,y2.2.2.2.2.1,y2.2.2.2.2.2))))) (Sum.elim (fun y3=>k (.inr (.inr (.inr (.inl (y3.1,y3.2.1,y3.2.2.1,y3.2.2.2.1,x.2.2.2.1,y3.2.2.2.2.1,y3.2.2.2.2.2)))))) (fun y4=>k (.inr (.inr (.inr (.inr (x.2.2.2.1,y4))))))))))
def q7I (x:tO) (v:(Int×t1i)):tO:=(x.1,v.1,x.2.2.1,x.2.2.2.1,v.2)
theorem q7J (x:tO):LE.step X q7F q7u q0 q7w 12 x=WD x.1 x.2.2.1 x.2.2.2.1 x.2.1 x.2.2.2.2 (fun w0 w1=>(Sum.inl (x.1,w0,x.2.2.1,x.2.2.2.1,w1))) (fun p0 p1 p2 p3 p4=>(Sum.inr (.inl (p0,p1,p2,p3,x.2.2.2.1,p4)))) (fun p0 p1 p2 p3 p4=>(Sum.inr (.inr (.inl (p0,p1,p2,p3,x.2.2.2.1,p4))))) (fun p0 p1 p2 p3 p4 p5=>(Sum.inr (.inr (.inr (.inl (p0,p1,p2,p3,x.2.2.2.1,p4,p5)))))) (fun p0 p1 p2 p3 p4 p5=>(Sum.inr (.inr (.inr (.inr (.inl (p0,p1,p2,p3,x.2.2.2.1,p4,p5))))))) (fun p0=>(Sum.inr (.inr (.inr (.inr (.inr (x.2.2.2.1,p0))))))):=by kernel_rfl
theorem q7L {R:Type} (x:tO) (k:t0→Option R) (r:R) (h:q7H x k=some r):∃ o,Z5s (LE.step X q7F q7u q0 q7w 12) x o∧k o=some r:=by
 obtain ⟨o,h1,h2⟩:=Z0 h
 exact ⟨q7G x o,Zhl (st:=fun (x:tO)=>Wn x.1 x.2.2.1 x.2.2.2.1) (prj:=fun x=>(x.2.1,x.2.2.2.2)) (emb:=q7I) (embO:=q7G) (fun x=>(q7J x).trans (by unfold Wn WD;simp only [Zhd,Zh8,Zhe,Option.map_some,Option.map_none];rfl)) (fun _ _=>rfl) (fun _ _=>rfl) (fun _ _ _=>rfl) (fun _ _ _=>rfl) (fun _=>rfl) (Z1S.1 h1),by
  first
  | exact h2
  | (rcases o with o|o|o|o|o<;>exact h2)⟩
noncomputable def q7M {R:Type}:Z27 S R:=LE.ls X q7F q7H q7w
theorem q7N {R:Type}:Z3J X (q7M (R:=R)):=Zhq xok q7v (e:=q7F) q1 q7x q7L q7x
def q7O:Key:=⟨[88],88,none,[0,0,1,0,1,1,1,1,1,1],2,26⟩
def q7P:StT S:=⟨(N (N L none (N L none v1z)) none (N (N L none (N (N L none (N L (some (.sl (.st 7) [])) L)) none L)) none (N L vo v1z))),o1r,26⟩
def q7Q:Way S:=⟨.ret,⟨v1q,o1e,58⟩,[.int,.int,.int,(.st 8),(.mp .str (.int .i64)),(.st 7)]⟩
def q7R:Way S:=⟨.ret,⟨v1q,o1e,63⟩,[.int,.int,.int,(.st 8),(.mp .str (.int .i64)),(.st 7)]⟩
def q7S:Way S:=⟨.ret,⟨v1q,o1e,67⟩,[.int,.int,.int,(.st 8),(.mp .str (.int .i64)),(.st 7)]⟩
def q7T:Way S:=⟨(.exit 2),⟨L,o1r,27⟩,[(.st 8),(.mp .str (.int .i64))]⟩
def q7U:LE S:=⟨q7O,q7P,[.int,(.lst (.st 7)),.int,(.st 8),(.mp .str (.int .i64))],[q7Q,q7R,q7S,q7T]⟩
def q7V (x:tP):(tU⊕tU⊕tU⊕t1i)→t4:=Sum.elim (fun y0=>(.inl (y0.1,y0.2.1,y0.2.2.1,x.2.2.2.1,y0.2.2.2.1,y0.2.2.2.2))) (Sum.elim (fun y1=>(.inr (.inl (y1.1,y1.2.1,y1.2.2.1,x.2.2.2.1,y1.2.2.2.1,y1.2.2.2.2)))) (Sum.elim (fun y2=>(.inr (.inr (.inl (y2.1,y2.2.1,y2.2.2.1,x.2.2.2.1,y2.2.2.2.1,y2.2.2.2.2))))) (fun y3=>(.inr (.inr (.inr (x.2.2.2.1,y3)))))))
noncomputable def q7W {R:Type} (x:tP) (k:t4→Option R):Option R:=(X1U x.1 x.2.1 x.2.2.2.1 (x.2.2.1,x.2.2.2.2)).bind (Sum.elim (fun y0=>k (.inl (y0.1,y0.2.1,y0.2.2.1,x.2.2.2.1,y0.2.2.2.1,y0.2.2.2.2))) (Sum.elim (fun y1=>k (.inr (.inl (y1.1,y1.2.1,y1.2.2.1,x.2.2.2.1,y1.2.2.2.1,y1.2.2.2.2)))) (Sum.elim (fun y2=>k (.inr (.inr (.inl (y2.1,y2.2.1,y2.2.2.1,x.2.2.2.1,y2.2.2.2.1,y2.2.2.2.2))))) (fun y3=>k (.inr (.inr (.inr (x.2.2.2.1,y3))))))))
def q7X (x:tP) (v:(Int×t1i)):tP:=(x.1,x.2.1,v.1,x.2.2.2.1,v.2)
theorem q7Y (x:tP):LE.step X q7U q7u q0 q7M 12 x=WE x.1 x.2.1 x.2.2.2.1 x.2.2.1 x.2.2.2.2 (fun w0 w1=>(Sum.inl (x.1,x.2.1,w0,x.2.2.2.1,w1))) (fun p0 p1 p2 p3 p4=>(Sum.inr (.inl (p0,p1,p2,x.2.2.2.1,p3,p4)))) (fun p0 p1 p2 p3 p4=>(Sum.inr (.inr (.inl (p0,p1,p2,x.2.2.2.1,p3,p4))))) (fun p0 p1 p2 p3 p4=>(Sum.inr (.inr (.inr (.inl (p0,p1,p2,x.2.2.2.1,p3,p4)))))) (fun p0=>(Sum.inr (.inr (.inr (.inr (x.2.2.2.1,p0)))))):=by kernel_rfl
theorem q80 {R:Type} (x:tP) (k:t4→Option R) (r:R) (h:q7W x k=some r):∃ o,Z5s (LE.step X q7U q7u q0 q7M 12) x o∧k o=some r:=by
 obtain ⟨o,h1,h2⟩:=Z0 h
 exact ⟨q7V x o,Zhl (st:=fun (x:tP)=>Wo x.1 x.2.1 x.2.2.2.1) (prj:=fun x=>(x.2.2.1,x.2.2.2.2)) (emb:=q7X) (embO:=q7V) (fun x=>(q7Y x).trans (by unfold Wo WE;simp only [Zhd,Zh8,Zhe,Option.map_some,Option.map_none];rfl)) (fun _ _=>rfl) (fun _ _=>rfl) (fun _ _ _=>rfl) (fun _ _ _=>rfl) (fun _=>rfl) (Z1S.1 h1),by
  first
  | exact h2
  | (rcases o with o|o|o|o<;>exact h2)⟩
noncomputable def q81 {R:Type}:Z27 S R:=LE.ls X q7U q7W q7M
theorem q82 {R:Type}:Z3J X (q81 (R:=R)):=Zhq xok q7v (e:=q7U) q1 q7N q80 q7N
theorem q83 (x0:Zl):Zhs X q7u [(.st 8)] [(.int .i64),(.int .i64),(.int .i64)] q0 q81 12 88 (x0,())=X2R x0:=by kernel_rfl
noncomputable def q84:F7 S:=⟨[(.st 8)],[(.int .i64),(.int .i64),(.int .i64)],fun xs=>X2R xs.1⟩
theorem q85:Z7Q X 88 q84:=Zho (Zhn xok q7v q1 q82 12 88) fun xs _ h=>(q83 xs.1).trans h
noncomputable def q86:List (Nat×F7 S):=[]
theorem q87:Z9n X (q86):=trivial
abbrev q88 {R:Type}:Z27 S R:=Zgi
theorem q89 {R:Type}:Z3J X (q88 (R:=R)):=ZgQ X
def q8a:Key:=⟨[81,2,1,58,2,1,41],81,none,[0,0,1,0,1],0,17⟩
def q8b:StT S:=⟨(N (N (N (N L vQ L) none L) (some (.fn (.func 59) [] [(.ptr 0 0),(.ptr 1 0)])) L) vM v1x),(N (N L oy L) oy L),17⟩
def q8c:Way S:=⟨.ret,⟨v1w,(N (N L oy L) oy L),38⟩,[.int,.int,.int]⟩
def q8d:Way S:=⟨(.exit 0),⟨L,(N (N L oy L) oy L),18⟩,[.int,.int]⟩
def q8e:LE S:=⟨q8a,q8b,[.int,(.lst (.int .i64)),.int,.int,.int],[q8c,q8d]⟩
def q8f (x:t13):(Int⊕Unit)→t1a:=Sum.elim (fun y0=>(.inl (y0,x.2.2.2.1,x.2.2.2.2))) (fun y1=>(.inr (x.2.2.2.1,x.2.2.2.2)))
noncomputable def q8g {R:Type} (x:t13) (k:t1a→Option R):Option R:=(X43 x.1 x.2.1 x.2.2.2.1 x.2.2.2.2 x.2.2.1).bind (Sum.elim (fun y0=>k (.inl (y0,x.2.2.2.1,x.2.2.2.2))) (fun y1=>k (.inr (x.2.2.2.1,x.2.2.2.2))))
def q8h (x:t13) (v:Int):t13:=(x.1,x.2.1,v,x.2.2.2.1,x.2.2.2.2)
theorem q8i (x:t13):LE.step X q8e q86 q0 q88 12 x=WK x.1 x.2.1 x.2.2.2.1 x.2.2.2.2 x.2.2.1 (fun w0=>(Sum.inl (x.1,x.2.1,w0,x.2.2.2.1,x.2.2.2.2))) (fun p0=>(Sum.inr (.inl (p0,x.2.2.2.1,x.2.2.2.2)))) (Sum.inr (.inr (x.2.2.2.1,x.2.2.2.2))):=by kernel_rfl
theorem q8k {R:Type} (x:t13) (k:t1a→Option R) (r:R) (h:q8g x k=some r):∃ o,Z5s (LE.step X q8e q86 q0 q88 12) x o∧k o=some r:=by
 obtain ⟨o,h1,h2⟩:=Z0 h
 exact ⟨q8f x o,Zhl (st:=fun (x:t13)=>Wu x.1 x.2.1 x.2.2.2.1 x.2.2.2.2) (prj:=fun x=>x.2.2.1) (emb:=q8h) (embO:=q8f) (fun x=>(q8i x).trans (by unfold Wu WK;simp only [Zhd,Zh8,Zhe,Option.map_some,Option.map_none];rfl)) (fun _ _=>rfl) (fun _ _=>rfl) (fun _ _ _=>rfl) (fun _ _ _=>rfl) (fun _=>rfl) (Z1S.1 h1),by
  first
  | exact h2
  | (rcases o with o|o<;>exact h2)⟩
noncomputable def q8l {R:Type}:Z27 S R:=LE.ls X q8e q8g q88
theorem q8m {R:Type}:Z3J X (q8l (R:=R)):=Zhq xok q87 (e:=q8e) q1 q89 q8k q89
theorem q8n (x0:Int) (x1:Int) (x2:List Int):Zhs X q86 [(.int .i64),(.int .i64),(.sl (.int .i64))] [.bool] q0 q8l 12 41 (x0,x1,x2,())=X28 x0 x1 x2:=by kernel_rfl
noncomputable def q8o:F7 S:=⟨[(.int .i64),(.int .i64),(.sl (.int .i64))],[.bool],fun xs=>X3 xs.1 xs.2.1 xs.2.2.1⟩
theorem q8p:Z7Q X 41 q8o:=Zho (Zhn xok q87 q1 q8m 12 41) fun xs _ h=>((q8n xs.1 xs.2.1 xs.2.2.1).trans (X5g xs.1 xs.2.1 xs.2.2.1).symm).trans h
noncomputable def q8q:List (Nat×F7 S):=[(102,q5B),(41,q8o)]
theorem q8r:Z9n X (q8q):=⟨q5C,q8p,trivial⟩
abbrev q8s {R:Type}:Z27 S R:=Zgi
theorem q8t {R:Type}:Z3J X (q8s (R:=R)):=ZgQ X
def q8u:Key:=⟨[112,2,1,106,2,6,94],112,none,[0,0,1,0,1],0,25⟩
def q8v:StT S:=⟨v16,(N L oe L),25⟩
def q8w:Way S:=⟨.ret,⟨v1w,(N L oe o1n),44⟩,[.int,(.st 18),(.st 18)]⟩
def q8x:Way S:=⟨(.exit 0),⟨L,(N L oe L),26⟩,[(.st 18)]⟩
def q8y:LE S:=⟨q8u,q8v,[.int,(.lst (.st 18)),.int,(.st 18)],[q8w,q8x]⟩
def q8z (x:tW):((Int×Z5)⊕Unit)→tV:=Sum.elim (fun y0=>(.inl (y0.1,x.2.2.2,y0.2))) (fun y1=>(.inr x.2.2.2))
noncomputable def q8A {R:Type} (x:tW) (k:tV→Option R):Option R:=(X2b x.1 x.2.1 x.2.2.2 x.2.2.1).bind (Sum.elim (fun y0=>k (.inl (y0.1,x.2.2.2,y0.2))) (fun y1=>k (.inr x.2.2.2)))
def q8B (x:tW) (v:Int):tW:=(x.1,x.2.1,v,x.2.2.2)
theorem q8C (x:tW):LE.step X q8y q8q q0 q8s 12 x=XV x.1 x.2.1 x.2.2.2 x.2.2.1 (fun w0=>(Sum.inl (x.1,x.2.1,w0,x.2.2.2))) (fun p0 p1=>(Sum.inr (.inl (p0,x.2.2.2,p1)))) (Sum.inr (.inr x.2.2.2)):=by kernel_rfl
theorem q8E {R:Type} (x:tW) (k:tV→Option R) (r:R) (h:q8A x k=some r):∃ o,Z5s (LE.step X q8y q8q q0 q8s 12) x o∧k o=some r:=by
 obtain ⟨o,h1,h2⟩:=Z0 h
 exact ⟨q8z x o,Zhl (st:=fun (x:tW)=>XJ x.1 x.2.1 x.2.2.2) (prj:=fun x=>x.2.2.1) (emb:=q8B) (embO:=q8z) (fun x=>(q8C x).trans (by unfold XJ XV;simp only [Zhd,Zh8,Zhe,Option.map_some,Option.map_none];rfl)) (fun _ _=>rfl) (fun _ _=>rfl) (fun _ _ _=>rfl) (fun _ _ _=>rfl) (fun _=>rfl) (Z1S.1 h1),by
  first
  | exact h2
  | (rcases o with o|o<;>exact h2)⟩
noncomputable def q8F {R:Type}:Z27 S R:=LE.ls X q8y q8A q8s
theorem q8G {R:Type}:Z3J X (q8F (R:=R)):=Zhq xok q8r (e:=q8y) q1 q8t q8E q8t
def q8H:Key:=⟨[112,2,1,106,2,6,94],112,none,[0,0,1,0,1],0,24⟩
def q8I:StT S:=⟨v16,(N L oe L),24⟩
def q8J:Way S:=⟨.ret,⟨v1w,(N o1n oe L),43⟩,[.int,(.st 18),(.st 18)]⟩
def q8K:Way S:=⟨(.exit 0),⟨L,(N L oe L),25⟩,[(.st 18)]⟩
def q8L:LE S:=⟨q8H,q8I,[.int,(.lst (.st 18)),.int,(.st 18)],[q8J,q8K]⟩
def q8M (x:tW):((Int×Z5)⊕Unit)→tV:=Sum.elim (fun y0=>(.inl (y0.1,y0.2,x.2.2.2))) (fun y1=>(.inr x.2.2.2))
noncomputable def q8N {R:Type} (x:tW) (k:tV→Option R):Option R:=(X2c x.1 x.2.1 x.2.2.2 x.2.2.1).bind (Sum.elim (fun y0=>k (.inl (y0.1,y0.2,x.2.2.2))) (fun y1=>k (.inr x.2.2.2)))
def q8O (x:tW) (v:Int):tW:=(x.1,x.2.1,v,x.2.2.2)
theorem q8P (x:tW):LE.step X q8L q8q q0 q8F 12 x=XW x.1 x.2.1 x.2.2.2 x.2.2.1 (fun w0=>(Sum.inl (x.1,x.2.1,w0,x.2.2.2))) (fun p0 p1=>(Sum.inr (.inl (p0,p1,x.2.2.2)))) (Sum.inr (.inr x.2.2.2)):=by kernel_rfl
theorem q8R {R:Type} (x:tW) (k:tV→Option R) (r:R) (h:q8N x k=some r):∃ o,Z5s (LE.step X q8L q8q q0 q8F 12) x o∧k o=some r:=by
 obtain ⟨o,h1,h2⟩:=Z0 h
 exact ⟨q8M x o,Zhl (st:=fun (x:tW)=>XK x.1 x.2.1 x.2.2.2) (prj:=fun x=>x.2.2.1) (emb:=q8O) (embO:=q8M) (fun x=>(q8P x).trans (by unfold XK XW;simp only [Zhd,Zh8,Zhe,Option.map_some,Option.map_none];rfl)) (fun _ _=>rfl) (fun _ _=>rfl) (fun _ _ _=>rfl) (fun _ _ _=>rfl) (fun _=>rfl) (Z1S.1 h1),by
  first
  | exact h2
  | (rcases o with o|o<;>exact h2)⟩
noncomputable def q8S {R:Type}:Z27 S R:=LE.ls X q8L q8N q8F
theorem q8T {R:Type}:Z3J X (q8S (R:=R)):=Zhq xok q8r (e:=q8L) q1 q8G q8R q8G
theorem q8U (x0:Z5) (x1:List Z5):Zhs X q8q [(.st 18),(.sl (.st 18))] [(.int .i64)] q0 q8S 12 94 (x0,x1,())=X17 x0 x1:=by kernel_rfl
noncomputable def q8V:F7 S:=⟨[(.st 18),(.sl (.st 18))],[(.int .i64)],fun xs=>X3f xs.1 xs.2.1⟩
theorem q8W:Z7Q X 94 q8V:=Zho (Zhn xok q8r q1 q8T 12 94) fun xs _ h=>((q8U xs.1 xs.2.1).trans (X4j xs.1 xs.2.1).symm).trans h
noncomputable def q8X:List (Nat×F7 S):=[(41,q8o)]
theorem q8Y:Z9n X (q8X):=⟨q8p,trivial⟩
abbrev q8Z {R:Type}:Z27 S R:=Zgi
theorem q90 {R:Type}:Z3J X (q8Z (R:=R)):=ZgQ X
theorem q91 (x0:Zt):Zhs X q8X [(.st 19)] [(.int .i64)] q0 q8Z 12 97 (x0,())=X31 x0:=by kernel_rfl
noncomputable def q92:F7 S:=⟨[(.st 19)],[(.int .i64)],fun xs=>X5Z xs.1⟩
theorem q93:Z7Q X 97 q92:=Zho (Zhn xok q8Y q1 q90 12 97) fun xs _ h=>((q91 xs.1).trans (X6g xs.1).symm).trans h
noncomputable def q94:List (Nat×F7 S):=[(97,q92)]
theorem q95:Z9n X (q94):=⟨q93,trivial⟩
abbrev q96 {R:Type}:Z27 S R:=Zgi
theorem q97 {R:Type}:Z3J X (q96 (R:=R)):=ZgQ X
theorem q98 (x0:Int) (x1:Zt):Zhs X q94 [(.int .i64),(.st 19)] [(.int .i64)] q0 q96 12 96 (x0,x1,())=X25 x0 x1:=by kernel_rfl
noncomputable def q99:F7 S:=⟨[(.int .i64),(.st 19)],[(.int .i64)],fun xs=>X3A xs.1 xs.2.1⟩
theorem q9a:Z7Q X 96 q99:=Zho (Zhn xok q95 q1 q97 12 96) fun xs _ h=>((q98 xs.1 xs.2.1).trans (X5a xs.1 xs.2.1).symm).trans h
noncomputable def q9b:List (Nat×F7 S):=[(88,q84),(41,q8o),(94,q8V),(96,q99)]
theorem q9c:Z9n X (q9b):=⟨q85,q8p,q8W,q9a,trivial⟩
abbrev q9d {R:Type}:Z27 S R:=Zgi
theorem q9e {R:Type}:Z3J X (q9d (R:=R)):=ZgQ X
def q9f:Key:=⟨[92,3,8,76],92,none,[0,0,1,0,1],0,51⟩
def q9g:StT S:=⟨(N (N (N L none (N L vQ L)) (some (.fn (.func 93) [] [(.ptr 0 0)])) (N (N L vO L) none L)) none v1w),(N L od L),51⟩
def q9h:Way S:=⟨.ret,⟨v1p,(N (N (N (N (N (N (N L oe L) none L) none L) none (N L none (N L oe L))) none L) none L) od L),78⟩,[.int,.int,(.st 18),(.st 18),(.st 20)]⟩
def q9i:Way S:=⟨(.exit 0),⟨L,(N L od L),52⟩,[(.st 20)]⟩
def q9j:LE S:=⟨q9f,q9g,[.int,(.lst (.st 18)),.int,(.st 20)],[q9h,q9i]⟩
def q9k (x:tY):((Int×Int×Z5×Z5)⊕Unit)→tS:=Sum.elim (fun y0=>(.inl (y0.1,y0.2.1,y0.2.2.1,y0.2.2.2,x.2.2.2))) (fun y1=>(.inr x.2.2.2))
noncomputable def q9l {R:Type} (x:tY) (k:tS→Option R):Option R:=(X3t x.2.1 x.2.2.1 x.2.2.2 x.1).bind (Sum.elim (fun y0=>k (.inl (y0.1,y0.2.1,y0.2.2.1,y0.2.2.2,x.2.2.2))) (fun y1=>k (.inr x.2.2.2)))
def q9m (x:tY) (v:Int):tY:=(v,x.2.1,x.2.2.1,x.2.2.2)
theorem q9n (x:tY):LE.step X q9j q9b q0 q9d 12 x=X1t x.2.1 x.2.2.1 x.2.2.2 x.1 (fun w0=>(Sum.inl (w0,x.2.1,x.2.2.1,x.2.2.2))) (fun p0 p1 p2 p3=>(Sum.inr (.inl (p0,p1,p2,p3,x.2.2.2)))) (Sum.inr (.inr x.2.2.2)):=by kernel_rfl
theorem q9p {R:Type} (x:tY) (k:tS→Option R) (r:R) (h:q9l x k=some r):∃ o,Z5s (LE.step X q9j q9b q0 q9d 12) x o∧k o=some r:=by
 obtain ⟨o,h1,h2⟩:=Z0 h
 exact ⟨q9k x o,Zhl (st:=fun (x:tY)=>X1n x.2.1 x.2.2.1 x.2.2.2) (prj:=fun x=>x.1) (emb:=q9m) (embO:=q9k) (fun x=>(q9n x).trans (by unfold X1n X1t;simp only [Zhd,Zh8,Zhe,Option.map_some,Option.map_none];rfl)) (fun _ _=>rfl) (fun _ _=>rfl) (fun _ _ _=>rfl) (fun _ _ _=>rfl) (fun _=>rfl) (Z1S.1 h1),by
  first
  | exact h2
  | (rcases o with o|o<;>exact h2)⟩
noncomputable def q9q {R:Type}:Z27 S R:=LE.ls X q9j q9l q9d
theorem q9r {R:Type}:Z3J X (q9q (R:=R)):=Zhq xok q9c (e:=q9j) q1 q9e q9p q9e
def q9s:Key:=⟨[95,2,13,76],95,none,[0,0,1,0,1],0,97⟩
def q9t:StT S:=⟨vZ,L,97⟩
def q9u:Way S:=⟨.ret,⟨v1p,(N (N L none (N L none (N (N (N L none (N L of L)) none L) none L))) none L),115⟩,[.int,.int,(.st 19)]⟩
def q9v:Way S:=⟨(.exit 0),⟨L,L,98⟩,[]⟩
def q9w:LE S:=⟨q9s,q9t,[.int,(.lst (.st 19)),.int],[q9u,q9v]⟩
def q9x (x:t1g):t1f→t1f:=Sum.elim (fun y0=>(.inl (y0.1,y0.2.1,y0.2.2))) (fun y1=>(.inr ()))
noncomputable def q9y {R:Type} (x:t1g) (k:t1f→Option R):Option R:=(X3u x.2.1 x.2.2 x.1).bind (Sum.elim (fun y0=>k (.inl (y0.1,y0.2.1,y0.2.2))) (fun y1=>k (.inr ())))
def q9z (x:t1g) (v:Int):t1g:=(v,x.2.1,x.2.2)
theorem q9A (x:t1g):LE.step X q9w q9b q0 q9q 12 x=X1u x.2.1 x.2.2 x.1 (fun w0=>(Sum.inl (w0,x.2.1,x.2.2))) (fun p0 p1 p2=>(Sum.inr (.inl (p0,p1,p2)))) (Sum.inr (.inr ())):=by kernel_rfl
theorem q9C {R:Type} (x:t1g) (k:t1f→Option R) (r:R) (h:q9y x k=some r):∃ o,Z5s (LE.step X q9w q9b q0 q9q 12) x o∧k o=some r:=by
 obtain ⟨o,h1,h2⟩:=Z0 h
 exact ⟨q9x x o,Zhl (st:=fun (x:t1g)=>X1o x.2.1 x.2.2) (prj:=fun x=>x.1) (emb:=q9z) (embO:=q9x) (fun x=>(q9A x).trans (by unfold X1o X1u;simp only [Zhd,Zh8,Zhe,Option.map_some,Option.map_none];rfl)) (fun _ _=>rfl) (fun _ _=>rfl) (fun _ _ _=>rfl) (fun _ _ _=>rfl) (fun _=>rfl) (Z1S.1 h1),by
  first
  | exact h2
  | (rcases o with o|o<;>exact h2)⟩
noncomputable def q9D {R:Type}:Z27 S R:=LE.ls X q9w q9y q9q
theorem q9E {R:Type}:Z3J X (q9D (R:=R)):=Zhq xok q9c (e:=q9w) q1 q9r q9C q9r
def q9F:Key:=⟨[95,2,13,76],95,none,[0,0,1,0,1],0,73⟩
def q9G:StT S:=⟨vZ,L,73⟩
def q9H:Way S:=⟨.ret,⟨v1p,(N (N L none (N L none (N L none (N (N (N L of L) none L) none L)))) none L),91⟩,[.int,.int,(.st 19)]⟩
def q9I:Way S:=⟨(.exit 0),⟨L,L,74⟩,[]⟩
def q9J:LE S:=⟨q9F,q9G,[.int,(.lst (.st 19)),.int],[q9H,q9I]⟩
def q9K (x:t1g):t1f→t1f:=Sum.elim (fun y0=>(.inl (y0.1,y0.2.1,y0.2.2))) (fun y1=>(.inr ()))
noncomputable def q9L {R:Type} (x:t1g) (k:t1f→Option R):Option R:=(X2p x.2.1 x.2.2 x.1).bind (Sum.elim (fun y0=>k (.inl (y0.1,y0.2.1,y0.2.2))) (fun y1=>k (.inr ())))
def q9M (x:t1g) (v:Int):t1g:=(v,x.2.1,x.2.2)
theorem q9N (x:t1g):LE.step X q9J q9b q0 q9D 12 x=X30 x.2.1 x.2.2 x.1 (fun w0=>(Sum.inl (w0,x.2.1,x.2.2))) (fun p0 p1 p2=>(Sum.inr (.inl (p0,p1,p2)))) (Sum.inr (.inr ())):=by kernel_rfl
theorem q9P {R:Type} (x:t1g) (k:t1f→Option R) (r:R) (h:q9L x k=some r):∃ o,Z5s (LE.step X q9J q9b q0 q9D 12) x o∧k o=some r:=by
 obtain ⟨o,h1,h2⟩:=Z0 h
 exact ⟨q9K x o,Zhl (st:=fun (x:t1g)=>X3L x.2.1 x.2.2) (prj:=fun x=>x.1) (emb:=q9M) (embO:=q9K) (fun x=>(q9N x).trans (by unfold X3L X30;simp only [Zhd,Zh8,Zhe,Option.map_some,Option.map_none];rfl)) (fun _ _=>rfl) (fun _ _=>rfl) (fun _ _ _=>rfl) (fun _ _ _=>rfl) (fun _=>rfl) (Z1S.1 h1),by
  first
  | exact h2
  | (rcases o with o|o<;>exact h2)⟩
noncomputable def q9Q {R:Type}:Z27 S R:=LE.ls X q9J q9L q9D
theorem q9R {R:Type}:Z3J X (q9Q (R:=R)):=Zhq xok q9c (e:=q9J) q1 q9E q9P q9E
theorem q9S (x0:ZJ):Zhs X q9b [(.st 20)] [(.int .i64),(.int .i64),(.int .i64)] q0 q9Q 12 76 (x0,())=X2y x0:=by kernel_rfl
noncomputable def q9T:F7 S:=⟨[(.st 20)],[(.int .i64),(.int .i64),(.int .i64)],fun xs=>X5s xs.1⟩
theorem q9U:Z7Q X 76 q9T:=Zho (Zhn xok q9c q1 q9R 12 76) fun xs _ h=>((q9S xs.1).trans (X5V xs.1).symm).trans h
noncomputable def q9V:List (Nat×F7 S):=[(88,q84),(73,q5V)]
theorem q9W:Z9n X (q9V):=⟨q85,q5W,trivial⟩
abbrev q9X {R:Type}:Z27 S R:=Zgi
theorem q9Y {R:Type}:Z3J X (q9X (R:=R)):=ZgQ X
def q9Z:Key:=⟨[105,1,70],105,none,[0,0,1],0,45⟩
def qa0:StT S:=⟨(N (N (N L vQ L) (some (.ptr 36 0)) L) (some (.yld 40)) L),oT,45⟩
def qa1:Way S:=⟨.ret,⟨L,(N (N (N (N L none (N L none (N L on L))) oy L) oy L) ok (N (N (N (N L ov L) none (N (N L (some (.loop 70 (N (N (N (N L (some (.ptr 3 0)) L) (some (.ptr 0 0)) (N L none (N (N L vi L) vR L))) vQ (N (N (N L vR L) none L) none L)) vt (N (N (N L (some (.ptr 4 0)) L) (some (.ptr 1 0)) L) vQ (N L (some (.ptr 2 0)) (N (N L vR L) none L)))) (44::(45::[])) .skip .skip 1 .ret (1::(70::[])) (0::(1::(0::(1::(1::(1::(1::[]))))))))) L) ov L)) ow (N (N (N L oq L) none L) none L)) ol L)),67⟩,[(.st 3),.int,.int,(.st 8),(.lst (.int .i64)),.bool,.int,.bool,(.st 8),.int,.bool,(.lst (.int .i64)),.int,(.lst (.st 3)),(.st 4)]⟩
def qa2:Way S:=⟨(.exit 0),⟨L,oT,47⟩,[.int,.int,(.st 8),(.lst (.int .i64)),.bool,.int,.bool,(.st 8),.int,.bool,(.lst (.int .i64)),.int,(.lst (.st 3)),(.st 4)]⟩
def qa3:LE S:=⟨q9Z,qa0,[.int,.int,.int,(.st 8),(.lst (.int .i64)),.bool,.int,.bool,(.st 8),.int,.bool,(.lst (.int .i64)),.int,(.lst (.st 3)),(.st 4)],[qa1,qa2]⟩
def qa4 (x:tg):((Zk×Int×Int)⊕Unit)→t3:=Sum.elim (fun y0=>(.inl (y0.1,y0.2.1,x.2.2.1,x.2.2.2.1,x.2.2.2.2.1,x.2.2.2.2.2.1,x.2.2.2.2.2.2.1,x.2.2.2.2.2.2.2.1,x.2.2.2.2.2.2.2.2.1,x.2.2.2.2.2.2.2.2.2.1,x.2.2.2.2.2.2.2.2.2.2.1,x.2.2.2.2.2.2.2.2.2.2.2.1,y0.2.2,x.2.2.2.2.2.2.2.2.2.2.2.2.2.1,x.2.2.2.2.2.2.2.2.2.2.2.2.2.2))) (fun y1=>(.inr (x.2.1,x.2.2.1,x.2.2.2.1,x.2.2.2.2.1,x.2.2.2.2.2.1,x.2.2.2.2.2.2.1,x.2.2.2.2.2.2.2.1,x.2.2.2.2.2.2.2.2.1,x.2.2.2.2.2.2.2.2.2.1,x.2.2.2.2.2.2.2.2.2.2.1,x.2.2.2.2.2.2.2.2.2.2.2.1,x.2.2.2.2.2.2.2.2.2.2.2.2.1,x.2.2.2.2.2.2.2.2.2.2.2.2.2.1,x.2.2.2.2.2.2.2.2.2.2.2.2.2.2)))
noncomputable def qa5 {R:Type} (x:tg) (k:t3→Option R):Option R:=(X1B x.2.2.1 x.2.2.2.2.2.2.2.2.2.2.2.2.2.1 x.1).bind (Sum.elim (fun y0=>k (.inl (y0.1,y0.2.1,x.2.2.1,x.2.2.2.1,x.2.2.2.2.1,x.2.2.2.2.2.1,x.2.2.2.2.2.2.1,x.2.2.2.2.2.2.2.1,x.2.2.2.2.2.2.2.2.1,x.2.2.2.2.2.2.2.2.2.1,x.2.2.2.2.2.2.2.2.2.2.1,x.2.2.2.2.2.2.2.2.2.2.2.1,y0.2.2,x.2.2.2.2.2.2.2.2.2.2.2.2.2.1,x.2.2.2.2.2.2.2.2.2.2.2.2.2.2))) (fun y1=>k (.inr (x.2.1,x.2.2.1,x.2.2.2.1,x.2.2.2.2.1,x.2.2.2.2.2.1,x.2.2.2.2.2.2.1,x.2.2.2.2.2.2.2.1,x.2.2.2.2.2.2.2.2.1,x.2.2.2.2.2.2.2.2.2.1,x.2.2.2.2.2.2.2.2.2.2.1,x.2.2.2.2.2.2.2.2.2.2.2.1,x.2.2.2.2.2.2.2.2.2.2.2.2.1,x.2.2.2.2.2.2.2.2.2.2.2.2.2.1,x.2.2.2.2.2.2.2.2.2.2.2.2.2.2))))
def qa6 (x:tg) (v:Int):tg:=(v,x.2.1,x.2.2.1,x.2.2.2.1,x.2.2.2.2.1,x.2.2.2.2.2.1,x.2.2.2.2.2.2.1,x.2.2.2.2.2.2.2.1,x.2.2.2.2.2.2.2.2.1,x.2.2.2.2.2.2.2.2.2.1,x.2.2.2.2.2.2.2.2.2.2.1,x.2.2.2.2.2.2.2.2.2.2.2.1,x.2.2.2.2.2.2.2.2.2.2.2.2.1,x.2.2.2.2.2.2.2.2.2.2.2.2.2.1,x.2.2.2.2.2.2.2.2.2.2.2.2.2.2)
theorem qa7 (x:tg):LE.step X qa3 q9V q0 q9X 12 x=Wf x.2.2.1 x.2.2.2.2.2.2.2.2.2.2.2.2.2.1 x.1 (fun w0=>(Sum.inl (w0,x.2.1,x.2.2.1,x.2.2.2.1,x.2.2.2.2.1,x.2.2.2.2.2.1,x.2.2.2.2.2.2.1,x.2.2.2.2.2.2.2.1,x.2.2.2.2.2.2.2.2.1,x.2.2.2.2.2.2.2.2.2.1,x.2.2.2.2.2.2.2.2.2.2.1,x.2.2.2.2.2.2.2.2.2.2.2.1,x.2.2.2.2.2.2.2.2.2.2.2.2.1,x.2.2.2.2.2.2.2.2.2.2.2.2.2.1,x.2.2.2.2.2.2.2.2.2.2.2.2.2.2))) (fun p0 p1 p2=>(Sum.inr (.inl (p0,p1,x.2.2.1,x.2.2.2.1,x.2.2.2.2.1,x.2.2.2.2.2.1,x.2.2.2.2.2.2.1,x.2.2.2.2.2.2.2.1,x.2.2.2.2.2.2.2.2.1,x.2.2.2.2.2.2.2.2.2.1,x.2.2.2.2.2.2.2.2.2.2.1,x.2.2.2.2.2.2.2.2.2.2.2.1,p2,x.2.2.2.2.2.2.2.2.2.2.2.2.2.1,x.2.2.2.2.2.2.2.2.2.2.2.2.2.2)))) (Sum.inr (.inr (x.2.1,x.2.2.1,x.2.2.2.1,x.2.2.2.2.1,x.2.2.2.2.2.1,x.2.2.2.2.2.2.1,x.2.2.2.2.2.2.2.1,x.2.2.2.2.2.2.2.2.1,x.2.2.2.2.2.2.2.2.2.1,x.2.2.2.2.2.2.2.2.2.2.1,x.2.2.2.2.2.2.2.2.2.2.2.1,x.2.2.2.2.2.2.2.2.2.2.2.2.1,x.2.2.2.2.2.2.2.2.2.2.2.2.2.1,x.2.2.2.2.2.2.2.2.2.2.2.2.2.2))):=by kernel_rfl
theorem qa9 {R:Type} (x:tg) (k:t3→Option R) (r:R) (h:qa5 x k=some r):∃ o,Z5s (LE.step X qa3 q9V q0 q9X 12) x o∧k o=some r:=by
 obtain ⟨o,h1,h2⟩:=Z0 h
 exact ⟨qa4 x o,Zhl (st:=fun (x:tg)=>W6 x.2.2.1 x.2.2.2.2.2.2.2.2.2.2.2.2.2.1) (prj:=fun x=>x.1) (emb:=qa6) (embO:=qa4) (fun x=>(qa7 x).trans (by unfold W6 Wf;simp only [Zhd,Zh8,Zhe,Option.map_some,Option.map_none];rfl)) (fun _ _=>rfl) (fun _ _=>rfl) (fun _ _ _=>rfl) (fun _ _ _=>rfl) (fun _=>rfl) (Z1S.1 h1),by
  first
  | exact h2
  | (rcases o with o|o<;>exact h2)⟩
noncomputable def qaa {R:Type}:Z27 S R:=LE.ls X qa3 qa5 q9X
theorem qab {R:Type}:Z3J X (qaa (R:=R)):=Zhq xok q9W (e:=qa3) q1 q9Y qa9 q9Y
theorem qac (x0:Zl) (x1:Int) (x2:Int):Zhs X q9V [(.st 8),(.int .i64),(.int .i64)] [(.st 4),(.int .i64),(.int .i64)] q0 qaa 12 70 (x0,x1,x2,())=X1H x0 x1 x2:=by kernel_rfl
noncomputable def qad:F7 S:=⟨[(.st 8),(.int .i64),(.int .i64)],[(.st 4),(.int .i64),(.int .i64)],fun xs=>X2Y xs.1 xs.2.1 xs.2.2.1⟩
theorem qae:Z7Q X 70 qad:=Zho (Zhn xok q9W q1 qab 12 70) fun xs _ h=>((qac xs.1 xs.2.1 xs.2.2.1).trans (X4W xs.1 xs.2.1 xs.2.2.1).symm).trans h
noncomputable def qaf:List (Nat×F7 S):=[(70,qad)]
theorem qag:Z9n X (qaf):=⟨qae,trivial⟩
abbrev qah {R:Type}:Z27 S R:=Zgi
theorem qai {R:Type}:Z3J X (qah (R:=R)):=ZgQ X
theorem qaj (x0:Zl) (x1:Int) (x2:Int):Zhs X qaf [(.st 8),(.int .i64),(.int .i64)] [(.int .i64),(.int .i64)] q0 qah 12 61 (x0,x1,x2,())=X1G x0 x1 x2:=by kernel_rfl
noncomputable def qak:F7 S:=⟨[(.st 8),(.int .i64),(.int .i64)],[(.int .i64),(.int .i64)],fun xs=>X4I xs.1 xs.2.1 xs.2.2.1⟩
theorem qal:Z7Q X 61 qak:=Zho (Zhn xok qag q1 qai 12 61) fun xs _ h=>((qaj xs.1 xs.2.1 xs.2.2.1).trans (X4U xs.1 xs.2.1 xs.2.2.1).symm).trans h
noncomputable def qam:List (Nat×F7 S):=[(70,qad)]
theorem qan:Z9n X (qam):=⟨qae,trivial⟩
abbrev qao {R:Type}:Z27 S R:=Zgi
theorem qap {R:Type}:Z3J X (qao (R:=R)):=ZgQ X
theorem qaq (x0:Zl) (x1:Int) (x2:Int):Zhs X qam [(.st 8),(.int .i64),(.int .i64)] [(.st 4),(.int .i64)] q0 qao 12 52 (x0,x1,x2,())=X14 x0 x1 x2:=by kernel_rfl
noncomputable def qar:F7 S:=⟨[(.st 8),(.int .i64),(.int .i64)],[(.st 4),(.int .i64)],fun xs=>X3Y xs.1 xs.2.1 xs.2.2.1⟩
theorem qas:Z7Q X 52 qar:=Zho (Zhn xok qan q1 qap 12 52) fun xs _ h=>((qaq xs.1 xs.2.1 xs.2.2.1).trans (X4h xs.1 xs.2.1 xs.2.2.1).symm).trans h
noncomputable def qat:List (Nat×F7 S):=[]
theorem qau:Z9n X (qat):=trivial
abbrev qav {R:Type}:Z27 S R:=Zgi
theorem qaw {R:Type}:Z3J X (qav (R:=R)):=ZgQ X
theorem qax:Zhs X qat [] [(.arr 8 (.st 2))] q0 qav 12 74 (())=X5C:=by kernel_rfl
noncomputable def qay:F7 S:=⟨[],[(.arr 8 (.st 2))],fun xs=>X5C⟩
theorem qaz:Z7Q X 74 qay:=Zho (Zhn xok qau q1 qaw 12 74) fun xs _ h=>(qax).trans h
noncomputable def qaA:List (Nat×F7 S):=[(74,qay),(75,q6W)]
theorem qaB:Z9n X (qaA):=⟨qaz,q6X,trivial⟩
abbrev qaC {R:Type}:Z27 S R:=Zgi
theorem qaD {R:Type}:Z3J X (qaC (R:=R)):=ZgQ X
def qaE:Key:=⟨[54],54,none,[0,0,0,1],0,2⟩
def qaF:StT S:=⟨(N (N L (some (.ptr 0 0)) L) none (N L vQ L)),(N L om L),2⟩
def qaG:Way S:=⟨(.exit 0),⟨(N (N L (some (.ptr 0 0)) L) none (N L vQ L)),(N L om L),10⟩,[.int,(.st 2)]⟩
def qaH:LE S:=⟨qaE,qaF,[.int,(.st 2)],[qaG]⟩
def qaI (x:(Int×Zu)):(Int×Zu)→(Int×Zu):=fun y0=>(y0.1,y0.2)
noncomputable def qaJ {R:Type} (x:(Int×Zu)) (k:(Int×Zu)→Option R):Option R:=(X1C (x.1,x.2)).bind (fun y0=>k (y0.1,y0.2))
def qaK (x:(Int×Zu)) (v:(Int×Zu)):(Int×Zu):=(v.1,v.2)
theorem qaL (x:(Int×Zu)):LE.step X qaH qaA q0 qaC 12 x=XA x.1 x.2 (fun w0 w1=>(Sum.inl (w0,w1))) (fun p0 p1=>(Sum.inr (p0,p1))):=by kernel_rfl
theorem qaN {R:Type} (x:(Int×Zu)) (k:(Int×Zu)→Option R) (r:R) (h:qaJ x k=some r):∃ o,Z5s (LE.step X qaH qaA q0 qaC 12) x o∧k o=some r:=by
 obtain ⟨o,h1,h2⟩:=Z0 h
 exact ⟨qaI x o,Zhl (st:=fun (x:(Int×Zu))=>Xb) (prj:=fun x=>(x.1,x.2)) (emb:=qaK) (embO:=qaI) (fun x=>(qaL x).trans (by unfold Xb XA;simp only [Zhd,Zh8,Zhe,Option.map_some,Option.map_none];rfl)) (fun _ _=>rfl) (fun _ _=>rfl) (fun _ _ _=>rfl) (fun _ _ _=>rfl) (fun _=>rfl) (Z1S.1 h1),by
  first
  | exact h2
  | (rcases o with o<;>exact h2)⟩
noncomputable def qaO {R:Type}:Z27 S R:=LE.ls X qaH qaJ qaC
theorem qaP {R:Type}:Z3J X (qaO (R:=R)):=Zhq xok qaB (e:=qaH) q1 qaD qaN qaD
def qaQ:Key:=⟨[54],54,none,[0,0,1,0,1,1],2,12⟩
def qaR:StT S:=⟨(N (N L (some (.ptr 0 0)) (N L none (N (N L (some (.agg [(.arr (.st 2) 8 (fun _=>tdf T (.st 2)))])) L) none L))) none (N L vQ v1w)),(N L om L),12⟩
def qaS:Way S:=⟨(.exit 2),⟨(N L none (N L vQ L)),(N L om L),13⟩,[.int,(.st 2)]⟩
def qaT:LE S:=⟨qaQ,qaR,[(.arr (.st 2)),.int,.int,(.st 2)],[qaS]⟩
def qaU (x:t15):Int→(Int×Zu):=fun y0=>(y0,x.2.2.2)
noncomputable def qaV {R:Type} (x:t15) (k:(Int×Zu)→Option R):Option R:=(X2w x.1 x.2.2.2 (x.2.1,x.2.2.1)).bind (fun y0=>k (y0,x.2.2.2))
def qaW (x:t15) (v:(Int×Int)):t15:=(x.1,v.1,v.2,x.2.2.2)
theorem qaX (x:t15):LE.step X qaT qaA q0 qaO 12 x=Wh x.1 x.2.2.2 x.2.1 x.2.2.1 (fun w0 w1=>(Sum.inl (x.1,w0,w1,x.2.2.2))) (fun p0=>(Sum.inr (p0,x.2.2.2))):=by kernel_rfl
theorem qaZ {R:Type} (x:t15) (k:(Int×Zu)→Option R) (r:R) (h:qaV x k=some r):∃ o,Z5s (LE.step X qaT qaA q0 qaO 12) x o∧k o=some r:=by
 obtain ⟨o,h1,h2⟩:=Z0 h
 exact ⟨qaU x o,Zhl (st:=fun (x:t15)=>W8 x.1 x.2.2.2) (prj:=fun x=>(x.2.1,x.2.2.1)) (emb:=qaW) (embO:=qaU) (fun x=>(qaX x).trans (by unfold W8 Wh;simp only [Zhd,Zh8,Zhe,Option.map_some,Option.map_none];rfl)) (fun _ _=>rfl) (fun _ _=>rfl) (fun _ _ _=>rfl) (fun _ _ _=>rfl) (fun _=>rfl) (Z1S.1 h1),by
  first
  | exact h2
  | (rcases o with o<;>exact h2)⟩
noncomputable def qb0 {R:Type}:Z27 S R:=LE.ls X qaT qaV qaO
theorem qb1 {R:Type}:Z3J X (qb0 (R:=R)):=Zhq xok qaB (e:=qaT) q1 qaP qaZ qaP
theorem qb2 (x0:Zu):Zhs X qaA [(.st 2)] [(.int .i64)] q0 qb0 12 54 (x0,())=X1J x0:=by kernel_rfl
noncomputable def qb3:F7 S:=⟨[(.st 2)],[(.int .i64)],fun xs=>X3S xs.1⟩
theorem qb4:Z7Q X 54 qb3:=Zho (Zhn xok qaB q1 qb1 12 54) fun xs _ h=>((qb2 xs.1).trans (X4Y xs.1).symm).trans h
noncomputable def qb5:List (Nat×F7 S):=[(52,qar),(53,q6f),(55,q6P),(54,qb3)]
theorem qb6:Z9n X (qb5):=⟨qas,q6g,q6Q,qb4,trivial⟩
abbrev qb7 {R:Type}:Z27 S R:=Zgi
theorem qb8 {R:Type}:Z3J X (qb7 (R:=R)):=ZgQ X
theorem qb9 (x0:Zl) (x1:Int) (x2:Int) (x3:Zu):Zhs X qb5 [(.st 8),(.int .i64),(.int .i64),(.st 2)] [(.int .i64),(.int .i64)] q0 qb7 12 38 (x0,x1,x2,x3,())=X2f x0 x1 x2 x3:=by kernel_rfl
noncomputable def qba:F7 S:=⟨[(.st 8),(.int .i64),(.int .i64),(.st 2)],[(.int .i64),(.int .i64)],fun xs=>X4J xs.1 xs.2.1 xs.2.2.1 xs.2.2.2.1⟩
theorem qbb:Z7Q X 38 qba:=Zho (Zhn xok qb6 q1 qb8 12 38) fun xs _ h=>((qb9 xs.1 xs.2.1 xs.2.2.1 xs.2.2.2.1).trans (X5A xs.1 xs.2.1 xs.2.2.1 xs.2.2.2.1).symm).trans h
def qbc:StT S:=⟨v1v,(N (N L o4 L) or L),2⟩
def qbd:Way S:=⟨.ret,⟨(N L vR L),(N (N L o4 L) or L),2⟩,[.bool,(.st 20),(.lst (.st 21)),.en,(.mp (.st 23) (.int .i64))]⟩
def qbe:PE S:=⟨49,2,qbc,[.int,(.st 20),(.lst (.st 21)),.en,(.mp (.st 23) (.int .i64))],[qbd]⟩
noncomputable def qbf:List (Nat×F7 S):=[(61,qak)]
theorem qbg:Z9n X qbf:=⟨qal,trivial⟩
abbrev qbh {R:Type}:Z27 S R:=Zgi
theorem qbi {R:Type}:Z3J X (qbh (R:=R)):=ZgQ X
theorem qbj (x:tK):PE.step X qbe qbf q0 qbh 12 x=XF x.1 x.2.1 x.2.2.1 x.2.2.2.1 x.2.2.2.2:=by kernel_rfl
theorem qbk:ZaX X qbe XY:=Zhr (ZgU xok qbg q1 qbi 12) fun x _ h=>((qbj x).trans (X36 x).symm).trans h
noncomputable def qbl {R:Type}:Prs S R:=PE.ps X qbe (fun x q=>(XY x).bind q) q0
theorem qbm {R:Type}:Z7R X (qbl (R:=R)):=Zhi (e:=qbe) qbk q1
def qbn:StT S:=⟨(N (N L vs L) (some (.ptr 1 0)) L),(N (N L o4 L) or L),2⟩
def qbo:Way S:=⟨.ret,⟨(N L vQ L),(N (N L o4 L) or L),2⟩,[.int,(.st 20),(.lst (.st 21)),.en,(.mp (.st 23) (.int .i64))]⟩
def qbp:PE S:=⟨79,2,qbn,[(.st 21),(.st 20),(.lst (.st 21)),.en,(.mp (.st 23) (.int .i64))],[qbo]⟩
noncomputable def qbq:List (Nat×F7 S):=[(41,q8o),(61,qak)]
theorem qbr:Z9n X qbq:=⟨q8p,qal,trivial⟩
abbrev qbs {R:Type}:Z27 S R:=Zgi
theorem qbt {R:Type}:Z3J X (qbs (R:=R)):=ZgQ X
theorem qbu (x:(Zm×ZJ×(List Zm)×(Nat→Nat)×t1k)):PE.step X qbp qbq qbl qbs 12 x=XU x.1 x.2.1 x.2.2.1 x.2.2.2.1 x.2.2.2.2:=by kernel_rfl
theorem qbv:ZaX X qbp X15:=Zhr (ZgU xok qbr qbm qbt 12) fun x _ h=>((qbu x).trans (X3o x).symm).trans h
noncomputable def qbw {R:Type}:Prs S R:=PE.ps X qbp (fun x q=>(X15 x).bind q) qbl
theorem qbx {R:Type}:Z7R X (qbw (R:=R)):=Zhi (e:=qbp) qbv qbm
def qby:StT S:=⟨v1o,L,0⟩
def qbz:Way S:=⟨.ret,⟨(N L (some (.tup [.nilp,(.int .i64 0),(.int .i64 0)])) L),L,0⟩,[.int,.int]⟩
def qbA:Way S:=⟨.ret,⟨(N L (some (.tup [(.ptr 1 0),(.int .i64 0),(.int .i64 0)])) L),(N (N L o4 L) or L),2⟩,[.int,.int,(.st 20),(.lst (.st 21)),.en,(.mp (.st 23) (.int .i64))]⟩
def qbB:PE S:=⟨56,2,qby,[(.lst (.st 21)),(.st 20)],[qbz,qbA]⟩
noncomputable def qbC:List (Nat×F7 S):=[(76,q9T),(41,q8o),(61,qak)]
theorem qbD:Z9n X qbC:=⟨q9U,q8p,qal,trivial⟩
abbrev qbE {R:Type}:Z27 S R:=Zgi
theorem qbF {R:Type}:Z3J X (qbE (R:=R)):=ZgQ X
def qbG:Key:=⟨[56],56,none,[0,0,1,0,1,1,1,1],0,26⟩
def qbH:StT S:=⟨(N (N (N L none (N L none (N L vO L))) vN (N L none (N L none (N L vQ L)))) none (N (N L (some (.ptr 1 0)) (N L none (N L vQ L))) none L)),o1b,26⟩
def qbI:Way S:=⟨(.exit 0),⟨(N (N L vN L) none (N (N L (some (.ptr 1 0)) L) none L)),o1b,27⟩,[(.lst (.st 21)),(.st 20),(.st 20),(.lst (.st 21)),.en,(.mp (.st 23) (.int .i64))]⟩
def qbJ:LE S:=⟨qbG,qbH,[(.lst (.st 18)),(.lst (.st 21)),.int,.int,(.st 20),(.st 20),(.lst (.st 21)),.en,(.mp (.st 23) (.int .i64))],[qbI]⟩
def qbK (x:tj):(Nat→Nat)→tz:=fun y0=>(x.2.1,x.2.2.2.2.1,x.2.2.2.2.2.1,x.2.2.2.2.2.2.1,y0,x.2.2.2.2.2.2.2.2)
noncomputable def qbL {R:Type} (x:tj) (k:tz→Option R):Option R:=(X2I x.1 x.2.2.2.1 (x.2.2.1,x.2.2.2.2.2.2.2.1)).bind (fun y0=>k (x.2.1,x.2.2.2.2.1,x.2.2.2.2.2.1,x.2.2.2.2.2.2.1,y0,x.2.2.2.2.2.2.2.2))
def qbM (x:tj) (v:(Int×(Nat→Nat))):tj:=(x.1,x.2.1,v.1,x.2.2.2.1,x.2.2.2.2.1,x.2.2.2.2.2.1,x.2.2.2.2.2.2.1,v.2,x.2.2.2.2.2.2.2.2)
theorem qbN (x:tj):LE.step X qbJ qbC q0 qbE 12 x=WI x.1 x.2.2.2.1 x.2.2.1 x.2.2.2.2.2.2.2.1 (fun w0 w1=>(Sum.inl (x.1,x.2.1,w0,x.2.2.2.1,x.2.2.2.2.1,x.2.2.2.2.2.1,x.2.2.2.2.2.2.1,w1,x.2.2.2.2.2.2.2.2))) (fun p0=>(Sum.inr (x.2.1,x.2.2.2.2.1,x.2.2.2.2.2.1,x.2.2.2.2.2.2.1,p0,x.2.2.2.2.2.2.2.2))):=by kernel_rfl
theorem qbP {R:Type} (x:tj) (k:tz→Option R) (r:R) (h:qbL x k=some r):∃ o,Z5s (LE.step X qbJ qbC q0 qbE 12) x o∧k o=some r:=by
 obtain ⟨o,h1,h2⟩:=Z0 h
 exact ⟨qbK x o,Zhl (st:=fun (x:tj)=>Ws x.1 x.2.2.2.1) (prj:=fun x=>(x.2.2.1,x.2.2.2.2.2.2.2.1)) (emb:=qbM) (embO:=qbK) (fun x=>(qbN x).trans (by unfold Ws WI;simp only [Zhd,Zh8,Zhe,Option.map_some,Option.map_none];rfl)) (fun _ _=>rfl) (fun _ _=>rfl) (fun _ _ _=>rfl) (fun _ _ _=>rfl) (fun _=>rfl) (Z1S.1 h1),by
  first
  | exact h2
  | (rcases o with o<;>exact h2)⟩
noncomputable def qbQ {R:Type}:Z27 S R:=LE.ls X qbJ qbL qbE
theorem qbR {R:Type}:Z3J X (qbQ (R:=R)):=Zhq xok qbD (e:=qbJ) q1 qbF qbP qbF
def qbS:Key:=⟨[77,2,14,56],77,none,[0,0,1,0,1],0,40⟩
def qbT:StT S:=⟨(N (N (N L none (N L vQ L)) (some (.fn (.func 78) [] [(.ptr 1 0)])) (N (N L vN L) none L)) none v1w),o19,40⟩
def qbU:Way S:=⟨.ret,⟨v1p,(N (N L oB L) none (N (N L none (N (N L o2 (N L og L)) none (N (N L og L) none L))) none (N (N (N L or L) none L) none L))),64⟩,[.int,.int,(.st 20),(.lst (.st 21)),.en,(.st 21),(.st 21),(.mp (.st 23) (.int .i64))]⟩
def qbV:Way S:=⟨(.exit 0),⟨L,o19,41⟩,[(.st 20),(.lst (.st 21)),.en,(.mp (.st 23) (.int .i64))]⟩
def qbW:LE S:=⟨qbS,qbT,[.int,(.lst (.st 21)),.int,(.st 20),(.lst (.st 21)),.en,(.mp (.st 23) (.int .i64))],[qbU,qbV]⟩
def qbX (x:tu):tb→tb:=Sum.elim (fun y0=>(.inl (y0.1,y0.2.1,y0.2.2.1,y0.2.2.2.1,y0.2.2.2.2.1,y0.2.2.2.2.2.1,y0.2.2.2.2.2.2.1,y0.2.2.2.2.2.2.2))) (fun y1=>(.inr (y1.1,y1.2.1,y1.2.2.1,y1.2.2.2)))
noncomputable def qbY {R:Type} (x:tu) (k:tb→Option R):Option R:=(X2J x.2.1 x.2.2.1 (x.1,x.2.2.2.1,x.2.2.2.2.1,x.2.2.2.2.2.1,x.2.2.2.2.2.2)).bind (Sum.elim (fun y0=>k (.inl (y0.1,y0.2.1,y0.2.2.1,y0.2.2.2.1,y0.2.2.2.2.1,y0.2.2.2.2.2.1,y0.2.2.2.2.2.2.1,y0.2.2.2.2.2.2.2))) (fun y1=>k (.inr (y1.1,y1.2.1,y1.2.2.1,y1.2.2.2))))
def qbZ (x:tu) (v:tK):tu:=(v.1,x.2.1,x.2.2.1,v.2.1,v.2.2.1,v.2.2.2.1,v.2.2.2.2)
theorem qc0 (x:tu):LE.step X qbW qbC qbw qbQ 12 x=WJ x.2.1 x.2.2.1 x.1 x.2.2.2.1 x.2.2.2.2.1 x.2.2.2.2.2.1 x.2.2.2.2.2.2 (fun w0 w1 w2 w3 w4=>(Sum.inl (w0,x.2.1,x.2.2.1,w1,w2,w3,w4))) (fun p0 p1 p2 p3 p4 p5 p6 p7=>(Sum.inr (.inl (p0,p1,p2,p3,p4,p5,p6,p7)))) (fun p0 p1 p2 p3=>(Sum.inr (.inr (p0,p1,p2,p3)))):=by kernel_rfl
theorem qc2 {R:Type} (x:tu) (k:tb→Option R) (r:R) (h:qbY x k=some r):∃ o,Z5s (LE.step X qbW qbC qbw qbQ 12) x o∧k o=some r:=by
 obtain ⟨o,h1,h2⟩:=Z0 h
 exact ⟨qbX x o,Zhl (st:=fun (x:tu)=>Wt x.2.1 x.2.2.1) (prj:=fun x=>(x.1,x.2.2.2.1,x.2.2.2.2.1,x.2.2.2.2.2.1,x.2.2.2.2.2.2)) (emb:=qbZ) (embO:=qbX) (fun x=>(qc0 x).trans (by unfold Wt WJ;simp only [Zhd,Zh8,Zhe,Option.map_some,Option.map_none];rfl)) (fun _ _=>rfl) (fun _ _=>rfl) (fun _ _ _=>rfl) (fun _ _ _=>rfl) (fun _=>rfl) (Z1S.1 h1),by
  first
  | exact h2
  | (rcases o with o|o<;>exact h2)⟩
noncomputable def qc3 {R:Type}:Z27 S R:=LE.ls X qbW qbY qbQ
theorem qc4 {R:Type}:Z3J X (qc3 (R:=R)):=Zhq xok qbD (e:=qbW) qbx qbR qc2 qbR
theorem qc5 (x:((List Zm)×ZJ)):PE.step X qbB qbC qbw qc3 12 x=X27 x.1 x.2:=by kernel_rfl
theorem qc6:ZaX X qbB X4l:=Zhr (ZgU xok qbD qbx qc4 12) fun x _ h=>((qc5 x).trans (X5e x).symm).trans h
noncomputable def qc7 {R:Type}:Prs S R:=PE.ps X qbB (fun x q=>(X4l x).bind q) qbw
theorem qc8 {R:Type}:Z7R X (qc7 (R:=R)):=Zhi (e:=qbB) qc6 qbx
def qc9:StT S:=⟨v1o,L,0⟩
def qca:Way S:=⟨.ret,⟨(N L (some (.tup [.nilp,(.int .i64 0)])) L),L,0⟩,[.int]⟩
def qcb:Way S:=⟨.ret,⟨(N L (some (.tup [(.ptr 1 0),(.int .i64 0)])) L),(N (N L o4 L) or L),2⟩,[.int,(.st 20),(.lst (.st 21)),.en,(.mp (.st 23) (.int .i64))]⟩
def qcc:PE S:=⟨39,2,qc9,[(.lst (.st 21)),(.st 20)],[qca,qcb]⟩
noncomputable def qcd:List (Nat×F7 S):=[(76,q9T),(41,q8o),(61,qak)]
theorem qce:Z9n X qcd:=⟨q9U,q8p,qal,trivial⟩
abbrev qcf {R:Type}:Z27 S R:=Zgi
theorem qcg {R:Type}:Z3J X (qcf (R:=R)):=ZgQ X
theorem qch (x:((List Zm)×ZJ)):PE.step X qcc qcd qc7 qcf 12 x=X1M x.1 x.2:=by kernel_rfl
theorem qci:ZaX X qcc X1Z:=Zhr (ZgU xok qce qc8 qcg 12) fun x _ h=>((qch x).trans (X50 x).symm).trans h
noncomputable def qcj {R:Type}:Prs S R:=PE.ps X qcc (fun x q=>(X1Z x).bind q) qc7
theorem qck {R:Type}:Z7R X (qcj (R:=R)):=Zhi (e:=qcc) qci qc8
def qcl:StT S:=⟨(N L (some .nilp) L),L,0⟩
def qcm:PE S:=⟨40,1,qcl,[],[]⟩
noncomputable def qcn:List (Nat×F7 S):=[(38,qba),(41,q8o)]
theorem qco:Z9n X qcn:=⟨qbb,q8p,trivial⟩
abbrev qcp {R:Type}:Z27 S R:=Zgi
theorem qcq {R:Type}:Z3J X (qcp (R:=R)):=ZgQ X
theorem qcr (x:Unit):PE.step X qcm qcn qcj qcp 12 x=Wq:=by kernel_rfl
theorem qcs:ZaX X qcm X1E:=Zhr (ZgU xok qco qck qcq 12) fun x _ h=>((qcr x).trans (X4M x).symm).trans h
noncomputable def qct {R:Type}:Prs S R:=PE.ps X qcm (fun x q=>(X1E x).bind q) qcj
theorem qcu {R:Type}:Z7R X (qct (R:=R)):=Zhi (e:=qcm) qcs qck
def qcv:StT S:=⟨(N (N L vQ L) (some (.ptr 1 0)) (N L vu L)),(N (N L o4 L) or L),2⟩
def qcw:Way S:=⟨.ret,⟨(N L vQ L),(N (N L o4 L) or L),2⟩,[.int,(.st 20),(.lst (.st 21)),.en,(.mp (.st 23) (.int .i64))]⟩
def qcx:PE S:=⟨62,3,qcv,[.int,(.st 2),(.st 20),(.lst (.st 21)),.en,(.mp (.st 23) (.int .i64))],[qcw]⟩
noncomputable def qcy:List (Nat×F7 S):=[(38,qba)]
theorem qcz:Z9n X qcy:=⟨qbb,trivial⟩
abbrev qcA {R:Type}:Z27 S R:=Zgi
theorem qcB {R:Type}:Z3J X (qcA (R:=R)):=ZgQ X
theorem qcC (x:(Int×Zu×ZJ×(List Zm)×(Nat→Nat)×t1k)):PE.step X qcx qcy qct qcA 12 x=XH x.1 x.2.1 x.2.2.1 x.2.2.2.1 x.2.2.2.2.1 x.2.2.2.2.2:=by kernel_rfl
theorem qcD:ZaX X qcx XZ:=Zhr (ZgU xok qcz qcu qcB 12) fun x _ h=>((qcC x).trans (X3b x).symm).trans h
noncomputable def qcE {R:Type}:Prs S R:=PE.ps X qcx (fun x q=>(XZ x).bind q) qct
theorem qcF {R:Type}:Z7R X (qcE (R:=R)):=Zhi (e:=qcx) qcD qcu
def qcG:StT S:=⟨(N (N L vu L) (some (.agg [(.ptr 1 0)])) (N L vs L)),(N (N L o4 L) or L),2⟩
def qcH:Way S:=⟨.ret,⟨v1i,(N (N L o4 L) or L),2⟩,[(.st 5),.bool,(.st 20),(.lst (.st 21)),.en,(.mp (.st 23) (.int .i64))]⟩
def qcI:PE S:=⟨129,3,qcG,[(.st 2),(.st 21),(.st 20),(.lst (.st 21)),.en,(.mp (.st 23) (.int .i64))],[qcH]⟩
noncomputable def qcJ:List (Nat×F7 S):=[(38,qba)]
theorem qcK:Z9n X qcJ:=⟨qbb,trivial⟩
abbrev qcL {R:Type}:Z27 S R:=Zgi
theorem qcM {R:Type}:Z3J X (qcL (R:=R)):=ZgQ X
theorem qcN (x:(Zu×Zm×ZJ×(List Zm)×(Nat→Nat)×t1k)):PE.step X qcI qcJ qcE qcL 12 x=XI x.1 x.2.1 x.2.2.1 x.2.2.2.1 x.2.2.2.2.1 x.2.2.2.2.2:=by kernel_rfl
theorem qcO:ZaX X qcI Xq:=Zhr (ZgU xok qcK qcF qcM 12) fun x _ h=>((qcN x).trans (X3d x).symm).trans h
noncomputable def qcP {R:Type}:Prs S R:=PE.ps X qcI (fun x q=>(Xq x).bind q) qcE
theorem qcQ {R:Type}:Z7R X (qcP (R:=R)):=Zhi (e:=qcI) qcO qcF
def qcR:StT S:=⟨(N (N L vu L) (some (.agg [(.ptr 1 0)])) (N L vs L)),(N (N L o4 L) or L),2⟩
def qcS:Way S:=⟨.ret,⟨v1i,(N (N L o4 L) or L),2⟩,[(.st 5),.bool,(.st 20),(.lst (.st 21)),.en,(.mp (.st 23) (.int .i64))]⟩
def qcT:PE S:=⟨130,3,qcR,[(.st 2),(.st 21),(.st 20),(.lst (.st 21)),.en,(.mp (.st 23) (.int .i64))],[qcS]⟩
noncomputable def qcU:List (Nat×F7 S):=[(41,q8o)]
theorem qcV:Z9n X qcU:=⟨q8p,trivial⟩
abbrev qcW {R:Type}:Z27 S R:=Zgi
theorem qcX {R:Type}:Z3J X (qcW (R:=R)):=ZgQ X
def qcY:Key:=⟨[131,7,1,130],131,none,[0,0,1,0,1],0,20⟩
def qcZ:StT S:=⟨(N (N (N (N L vQ L) none L) (some (.fn (.func 132) [] [(.ptr 3 0)])) L) (some (.sl (.st 19) [])) v1x),o1C,20⟩
def qd0:Way S:=⟨.ret,⟨v1w,(N (N (N (N L none (N (N L ov L) none L)) om (N (N L none (N L ov L)) none L)) none (N L none (N L none (N L of L)))) none L),58⟩,[.int,(.lst (.int .i64)),(.st 2),(.lst (.int .i64)),(.st 19)]⟩
def qd1:Way S:=⟨(.exit 0),⟨L,o1C,21⟩,[(.st 2)]⟩
def qd2:LE S:=⟨qcY,qcZ,[.int,(.lst (.st 19)),.int,(.st 2)],[qd0,qd1]⟩
def qd3 (x:t16):((Int×(List Int)×(List Int)×Zt)⊕Unit)→tT:=Sum.elim (fun y0=>(.inl (y0.1,y0.2.1,x.2.2.2,y0.2.2.1,y0.2.2.2))) (fun y1=>(.inr x.2.2.2))
noncomputable def qd4 {R:Type} (x:t16) (k:tT→Option R):Option R:=(X2V x.1 x.2.1 x.2.2.2 x.2.2.1).bind (Sum.elim (fun y0=>k (.inl (y0.1,y0.2.1,x.2.2.2,y0.2.2.1,y0.2.2.2))) (fun y1=>k (.inr x.2.2.2)))
def qd5 (x:t16) (v:Int):t16:=(x.1,x.2.1,v,x.2.2.2)
theorem qd6 (x:t16):LE.step X qd2 qcU qcP qcW 12 x=Xy x.1 x.2.1 x.2.2.2 x.2.2.1 (fun w0=>(Sum.inl (x.1,x.2.1,w0,x.2.2.2))) (fun p0 p1 p2 p3=>(Sum.inr (.inl (p0,p1,x.2.2.2,p2,p3)))) (Sum.inr (.inr x.2.2.2)):=by kernel_rfl
theorem qd8 {R:Type} (x:t16) (k:tT→Option R) (r:R) (h:qd4 x k=some r):∃ o,Z5s (LE.step X qd2 qcU qcP qcW 12) x o∧k o=some r:=by
 obtain ⟨o,h1,h2⟩:=Z0 h
 exact ⟨qd3 x o,Zhl (st:=fun (x:t16)=>Xo x.1 x.2.1 x.2.2.2) (prj:=fun x=>x.2.2.1) (emb:=qd5) (embO:=qd3) (fun x=>(qd6 x).trans (by unfold Xo Xy;simp only [Zhd,Zh8,Zhe,Option.map_some,Option.map_none];rfl)) (fun _ _=>rfl) (fun _ _=>rfl) (fun _ _ _=>rfl) (fun _ _ _=>rfl) (fun _=>rfl) (Z1S.1 h1),by
  first
  | exact h2
  | (rcases o with o|o<;>exact h2)⟩
noncomputable def qd9 {R:Type}:Z27 S R:=LE.ls X qd2 qd4 qcW
theorem qda {R:Type}:Z3J X (qd9 (R:=R)):=Zhq xok qcV (e:=qd2) qcQ qcX qd8 qcX
theorem qdb (x:(Zu×Zm×ZJ×(List Zm)×(Nat→Nat)×t1k)):PE.step X qcT qcU qcP qd9 12 x=Wj x.1 x.2.1 x.2.2.1 x.2.2.2.1 x.2.2.2.2.1 x.2.2.2.2.2:=by kernel_rfl
theorem qdc:ZaX X qcT W9:=Zhr (ZgU xok qcV qcQ qda 12) fun x _ h=>((qdb x).trans (X3O x).symm).trans h
noncomputable def qdd {R:Type}:Prs S R:=PE.ps X qcT (fun x q=>(W9 x).bind q) qcP
theorem qde {R:Type}:Z7R X (qdd (R:=R)):=Zhi (e:=qcT) qdc qcQ
def qdf:StT S:=⟨(N (N (N L vQ L) vu L) (some (.ptr 1 0)) (N L vQ L)),(N (N L o4 L) or L),2⟩
def qdg:Way S:=⟨.ret,⟨(N L (some (.tup [(.agg [(.arr (.st 5) 4 (fun _=>tdf T (.st 5)))]),(.bool false)])) L),(N (N L o4 L) or L),2⟩,[(.arr (.st 5)),.bool,(.st 20),(.lst (.st 21)),.en,(.mp (.st 23) (.int .i64))]⟩
def qdh:PE S:=⟨42,4,qdf,[.int,(.st 2),.int,(.st 20),(.lst (.st 21)),.en,(.mp (.st 23) (.int .i64))],[qdg]⟩
noncomputable def qdi:List (Nat×F7 S):=[(38,qba),(41,q8o)]
theorem qdj:Z9n X qdi:=⟨qbb,q8p,trivial⟩
abbrev qdk {R:Type}:Z27 S R:=Zgi
theorem qdl {R:Type}:Z3J X (qdk (R:=R)):=ZgQ X
def qdm:Key:=⟨[42],42,none,[0,0,1,0,0,1],0,12⟩
def qdn:StT S:=⟨(N (N (N (N L none (N L vQ L)) vQ L) none (N L (some (.ptr 2 0)) L)) (some (.ptr 1 0)) (N (N (N L (some (.ptr 3 0)) (N L vQ L)) none L) vQ (N L none (N (N L vO L) none L)))),o1t,12⟩
def qdo:Way S:=⟨(.exit 0),⟨(N (N (N L vQ L) none (N L (some (.ptr 2 0)) L)) (some (.ptr 1 0)) (N v1u vQ L)),o1t,13⟩,[.int,.int,(.arr (.st 5)),(.st 20),(.lst (.st 21)),.en,(.mp (.st 23) (.int .i64)),(.st 2)]⟩
def qdp:LE S:=⟨qdm,qdn,[.int,.int,.int,.int,(.lst (.st 18)),(.arr (.st 5)),(.st 20),(.lst (.st 21)),.en,(.mp (.st 23) (.int .i64)),(.st 2)],[qdo]⟩
def qdq (x:tf):(Nat→ZE)→tr:=fun y0=>(x.2.1,x.2.2.2.1,y0,x.2.2.2.2.2.2.1,x.2.2.2.2.2.2.2.1,x.2.2.2.2.2.2.2.2.1,x.2.2.2.2.2.2.2.2.2.1,x.2.2.2.2.2.2.2.2.2.2)
noncomputable def qdr {R:Type} (x:tf) (k:tr→Option R):Option R:=(X1X x.1 x.2.1 x.2.2.2.1 x.2.2.2.2.1 x.2.2.2.2.2.2.1 x.2.2.2.2.2.2.2.1 x.2.2.2.2.2.2.2.2.1 x.2.2.2.2.2.2.2.2.2.1 x.2.2.2.2.2.2.2.2.2.2 (x.2.2.1,x.2.2.2.2.2.1)).bind (fun y0=>k (x.2.1,x.2.2.2.1,y0,x.2.2.2.2.2.2.1,x.2.2.2.2.2.2.2.1,x.2.2.2.2.2.2.2.2.1,x.2.2.2.2.2.2.2.2.2.1,x.2.2.2.2.2.2.2.2.2.2))
def qds (x:tf) (v:(Int×(Nat→ZE))):tf:=(x.1,x.2.1,v.1,x.2.2.2.1,x.2.2.2.2.1,v.2,x.2.2.2.2.2.2.1,x.2.2.2.2.2.2.2.1,x.2.2.2.2.2.2.2.2.1,x.2.2.2.2.2.2.2.2.2.1,x.2.2.2.2.2.2.2.2.2.2)
theorem qdt (x:tf):LE.step X qdp qdi qct qdk 12 x=XC x.1 x.2.1 x.2.2.2.1 x.2.2.2.2.1 x.2.2.2.2.2.2.1 x.2.2.2.2.2.2.2.1 x.2.2.2.2.2.2.2.2.1 x.2.2.2.2.2.2.2.2.2.1 x.2.2.2.2.2.2.2.2.2.2 x.2.2.1 x.2.2.2.2.2.1 (fun w0 w1=>(Sum.inl (x.1,x.2.1,w0,x.2.2.2.1,x.2.2.2.2.1,w1,x.2.2.2.2.2.2.1,x.2.2.2.2.2.2.2.1,x.2.2.2.2.2.2.2.2.1,x.2.2.2.2.2.2.2.2.2.1,x.2.2.2.2.2.2.2.2.2.2))) (fun p0=>(Sum.inr (x.2.1,x.2.2.2.1,p0,x.2.2.2.2.2.2.1,x.2.2.2.2.2.2.2.1,x.2.2.2.2.2.2.2.2.1,x.2.2.2.2.2.2.2.2.2.1,x.2.2.2.2.2.2.2.2.2.2))):=by kernel_rfl
theorem qdv {R:Type} (x:tf) (k:tr→Option R) (r:R) (h:qdr x k=some r):∃ o,Z5s (LE.step X qdp qdi qct qdk 12) x o∧k o=some r:=by
 obtain ⟨o,h1,h2⟩:=Z0 h
 exact ⟨qdq x o,Zhl (st:=fun (x:tf)=>Xr x.1 x.2.1 x.2.2.2.1 x.2.2.2.2.1 x.2.2.2.2.2.2.1 x.2.2.2.2.2.2.2.1 x.2.2.2.2.2.2.2.2.1 x.2.2.2.2.2.2.2.2.2.1 x.2.2.2.2.2.2.2.2.2.2) (prj:=fun x=>(x.2.2.1,x.2.2.2.2.2.1)) (emb:=qds) (embO:=qdq) (fun x=>(qdt x).trans (by unfold Xr XC;simp only [Zhd,Zh8,Zhe,Option.map_some,Option.map_none];rfl)) (fun _ _=>rfl) (fun _ _=>rfl) (fun _ _ _=>rfl) (fun _ _ _=>rfl) (fun _=>rfl) (Z1S.1 h1),by
  first
  | exact h2
  | (rcases o with o<;>exact h2)⟩
noncomputable def qdw {R:Type}:Z27 S R:=LE.ls X qdp qdr qdk
theorem qdx {R:Type}:Z3J X (qdw (R:=R)):=Zhq xok qdj (e:=qdp) qcu qdl qdv qdl
def qdy:Key:=⟨[42],42,none,[0,0,1,0,1,1,0,1],2,19⟩
def qdz:StT S:=⟨(N (N (N v1w vQ L) none (N L (some (.ptr 2 0)) (N (N (N L vN L) none L) none L))) (some (.ptr 1 0)) (N v1u vQ (N L none v1x))),o1t,19⟩
def qdA:Way S:=⟨.ret,⟨v1d,(N (N (N L oa (N (N (N L (some (.cells 135 [.nilp])) L) none L) none L)) o4 o1c) or (N L om (N L none (N (N L og L) none L)))),102⟩,[.bool,(.arr (.st 5)),(.st 20),(.lst (.st 21)),.en,(.st 5),(.mp (.st 23) (.int .i64)),(.st 2),(.st 21)]⟩
def qdB:Way S:=⟨.ret,⟨v1d,(N (N (N L oa (N (N (N L (some (.cells 135 [(.ptr 1 0)])) L) none L) none L)) o4 o1c) or (N L om (N L none (N (N L og L) none L)))),102⟩,[.bool,(.arr (.st 5)),(.st 20),(.lst (.st 21)),.en,(.st 5),(.mp (.st 23) (.int .i64)),(.st 2),(.st 21)]⟩
def qdC:Way S:=⟨(.exit 2),⟨(N L none (N v1u none L)),o1t,20⟩,[(.arr (.st 5)),(.st 20),(.lst (.st 21)),.en,(.mp (.st 23) (.int .i64)),(.st 2)]⟩
def qdD:LE S:=⟨qdy,qdz,[.int,.int,(.lst (.st 21)),.int,.int,(.arr (.st 5)),(.st 20),(.lst (.st 21)),.en,(.mp (.st 23) (.int .i64)),(.st 2)],[qdA,qdB,qdC]⟩
def qdE (x:th):((Bool×(Nat→ZE)×ZJ×(List Zm)×(Nat→Nat)×ZE×t1k×Zm)⊕(Bool×(Nat→ZE)×ZJ×(List Zm)×(Nat→Nat)×ZE×t1k×Zm)⊕((Nat→ZE)×ZJ×(List Zm)×(Nat→Nat)×t1k))→t1:=Sum.elim (fun y0=>(.inl (y0.1,y0.2.1,y0.2.2.1,y0.2.2.2.1,y0.2.2.2.2.1,y0.2.2.2.2.2.1,y0.2.2.2.2.2.2.1,x.2.2.2.2.2.2.2.2.2.2,y0.2.2.2.2.2.2.2))) (Sum.elim (fun y1=>(.inr (.inl (y1.1,y1.2.1,y1.2.2.1,y1.2.2.2.1,y1.2.2.2.2.1,y1.2.2.2.2.2.1,y1.2.2.2.2.2.2.1,x.2.2.2.2.2.2.2.2.2.2,y1.2.2.2.2.2.2.2)))) (fun y2=>(.inr (.inr (y2.1,y2.2.1,y2.2.2.1,y2.2.2.2.1,y2.2.2.2.2,x.2.2.2.2.2.2.2.2.2.2)))))
noncomputable def qdF {R:Type} (x:th) (k:t1→Option R):Option R:=(X1Y x.2.1 x.2.2.1 x.2.2.2.1 x.2.2.2.2.1 x.2.2.2.2.2.2.2.2.2.2 (x.1,x.2.2.2.2.2.1,x.2.2.2.2.2.2.1,x.2.2.2.2.2.2.2.1,x.2.2.2.2.2.2.2.2.1,x.2.2.2.2.2.2.2.2.2.1)).bind (Sum.elim (fun y0=>k (.inl (y0.1,y0.2.1,y0.2.2.1,y0.2.2.2.1,y0.2.2.2.2.1,y0.2.2.2.2.2.1,y0.2.2.2.2.2.2.1,x.2.2.2.2.2.2.2.2.2.2,y0.2.2.2.2.2.2.2))) (Sum.elim (fun y1=>k (.inr (.inl (y1.1,y1.2.1,y1.2.2.1,y1.2.2.2.1,y1.2.2.2.2.1,y1.2.2.2.2.2.1,y1.2.2.2.2.2.2.1,x.2.2.2.2.2.2.2.2.2.2,y1.2.2.2.2.2.2.2)))) (fun y2=>k (.inr (.inr (y2.1,y2.2.1,y2.2.2.1,y2.2.2.2.1,y2.2.2.2.2,x.2.2.2.2.2.2.2.2.2.2))))))
def qdG (x:th) (v:(Int×(Nat→ZE)×ZJ×(List Zm)×(Nat→Nat)×t1k)):th:=(v.1,x.2.1,x.2.2.1,x.2.2.2.1,x.2.2.2.2.1,v.2.1,v.2.2.1,v.2.2.2.1,v.2.2.2.2.1,v.2.2.2.2.2,x.2.2.2.2.2.2.2.2.2.2)
theorem qdH (x:th):LE.step X qdD qdi qdd qdw 12 x=XD x.2.1 x.2.2.1 x.2.2.2.1 x.2.2.2.2.1 x.2.2.2.2.2.2.2.2.2.2 x.1 x.2.2.2.2.2.1 x.2.2.2.2.2.2.1 x.2.2.2.2.2.2.2.1 x.2.2.2.2.2.2.2.2.1 x.2.2.2.2.2.2.2.2.2.1 (fun w0 w1 w2 w3 w4 w5=>(Sum.inl (w0,x.2.1,x.2.2.1,x.2.2.2.1,x.2.2.2.2.1,w1,w2,w3,w4,w5,x.2.2.2.2.2.2.2.2.2.2))) (fun p0 p1 p2 p3 p4 p5 p6 p7=>(Sum.inr (.inl (p0,p1,p2,p3,p4,p5,p6,x.2.2.2.2.2.2.2.2.2.2,p7)))) (fun p0 p1 p2 p3 p4 p5 p6 p7=>(Sum.inr (.inr (.inl (p0,p1,p2,p3,p4,p5,p6,x.2.2.2.2.2.2.2.2.2.2,p7))))) (fun p0 p1 p2 p3 p4=>(Sum.inr (.inr (.inr (p0,p1,p2,p3,p4,x.2.2.2.2.2.2.2.2.2.2))))):=by kernel_rfl
theorem qdJ {R:Type} (x:th) (k:t1→Option R) (r:R) (h:qdF x k=some r):∃ o,Z5s (LE.step X qdD qdi qdd qdw 12) x o∧k o=some r:=by
 obtain ⟨o,h1,h2⟩:=Z0 h
 exact ⟨qdE x o,Zhl (st:=fun (x:th)=>Xs x.2.1 x.2.2.1 x.2.2.2.1 x.2.2.2.2.1 x.2.2.2.2.2.2.2.2.2.2) (prj:=fun x=>(x.1,x.2.2.2.2.2.1,x.2.2.2.2.2.2.1,x.2.2.2.2.2.2.2.1,x.2.2.2.2.2.2.2.2.1,x.2.2.2.2.2.2.2.2.2.1)) (emb:=qdG) (embO:=qdE) (fun x=>(qdH x).trans (by unfold Xs XD;simp only [Zhd,Zh8,Zhe,Option.map_some,Option.map_none];rfl)) (fun _ _=>rfl) (fun _ _=>rfl) (fun _ _ _=>rfl) (fun _ _ _=>rfl) (fun _=>rfl) (Z1S.1 h1),by
  first
  | exact h2
  | (rcases o with o|o|o<;>exact h2)⟩
noncomputable def qdK {R:Type}:Z27 S R:=LE.ls X qdD qdF qdw
theorem qdL {R:Type}:Z3J X (qdK (R:=R)):=Zhq xok qdj (e:=qdD) qde qdx qdJ qdx
theorem qdM (x:(Int×Zu×Int×ZJ×(List Zm)×(Nat→Nat)×t1k)):PE.step X qdh qdi qdd qdK 12 x=WF x.1 x.2.1 x.2.2.1 x.2.2.2.1 x.2.2.2.2.1 x.2.2.2.2.2.1 x.2.2.2.2.2.2:=by kernel_rfl
theorem qdN:ZaX X qdh WB:=Zhr (ZgU xok qdj qde qdL 12) fun x _ h=>((qdM x).trans (X40 x).symm).trans h
noncomputable def qdO {R:Type}:Prs S R:=PE.ps X qdh (fun x q=>(WB x).bind q) qdd
theorem qdP {R:Type}:Z7R X (qdO (R:=R)):=Zhi (e:=qdh) qdN qde
def qdQ:StT S:=⟨(N L (some (.ptr 1 0)) L),(N (N L o4 L) or L),2⟩
def qdR:Way S:=⟨.ret,⟨(N L (some (.rs 2 0)) L),(N (N L o4 L) or (N L oE L)),3⟩,[(.st 20),(.lst (.st 21)),.en,(.mp (.st 23) (.int .i64)),(.lst (.st 2))]⟩
def qdS:PE S:=⟨40,1,qdQ,[(.st 20),(.lst (.st 21)),.en,(.mp (.st 23) (.int .i64))],[qdR]⟩
noncomputable def qdT:List (Nat×F7 S):=[(38,qba),(41,q8o)]
theorem qdU:Z9n X qdT:=⟨qbb,q8p,trivial⟩
abbrev qdV {R:Type}:Z27 S R:=Zgi
theorem qdW {R:Type}:Z3J X (qdV (R:=R)):=ZgQ X
def qdX:Key:=⟨[80,0,40],80,none,[0,0,1,0,0,1,0,0,1],2,34⟩
def qdY:StT S:=⟨(N (N (N L vQ L) (some (.ptr 6 0)) L) (some (.yld 11)) (N (N L vQ L) none L)),o13,35⟩
def qdZ:Way S:=⟨(.exit 2),⟨v1m,o13,42⟩,[.int,(.st 20),(.lst (.st 21)),.en,(.mp (.st 23) (.int .i64)),(.lst (.st 2))]⟩
def qe0:LE S:=⟨qdX,qdY,[.int,.int,(.st 20),(.lst (.st 21)),.en,(.mp (.st 23) (.int .i64)),(.lst (.st 2))],[qdZ]⟩
def qe1 (x:tv):(ZJ×(List Zm)×(Nat→Nat)×t1k×(List Zu))→tB:=fun y0=>(x.1,y0.1,y0.2.1,y0.2.2.1,y0.2.2.2.1,y0.2.2.2.2)
noncomputable def qe2 {R:Type} (x:tv) (k:tB→Option R):Option R:=(XT x.1 (x.2.1,x.2.2.1,x.2.2.2.1,x.2.2.2.2.1,x.2.2.2.2.2.1,x.2.2.2.2.2.2)).bind (fun y0=>k (x.1,y0.1,y0.2.1,y0.2.2.1,y0.2.2.2.1,y0.2.2.2.2))
def qe3 (x:tv) (v:tB):tv:=(x.1,v.1,v.2.1,v.2.2.1,v.2.2.2.1,v.2.2.2.2.1,v.2.2.2.2.2)
theorem qe4 (x:tv):LE.step X qe0 qdT qdO qdV 12 x=Xf x.1 x.2.1 x.2.2.1 x.2.2.2.1 x.2.2.2.2.1 x.2.2.2.2.2.1 x.2.2.2.2.2.2 (fun w0 w1 w2 w3 w4 w5=>(Sum.inl (x.1,w0,w1,w2,w3,w4,w5))) (fun p0 p1 p2 p3 p4=>(Sum.inr (x.1,p0,p1,p2,p3,p4))):=by kernel_rfl
theorem qe6 {R:Type} (x:tv) (k:tB→Option R) (r:R) (h:qe2 x k=some r):∃ o,Z5s (LE.step X qe0 qdT qdO qdV 12) x o∧k o=some r:=by
 obtain ⟨o,h1,h2⟩:=Z0 h
 exact ⟨qe1 x o,Zhl (st:=fun (x:tv)=>X9 x.1) (prj:=fun x=>(x.2.1,x.2.2.1,x.2.2.2.1,x.2.2.2.2.1,x.2.2.2.2.2.1,x.2.2.2.2.2.2)) (emb:=qe3) (embO:=qe1) (fun x=>(qe4 x).trans (by unfold X9 Xf;simp only [Zhd,Zh8,Zhe,Option.map_some,Option.map_none];rfl)) (fun _ _=>rfl) (fun _ _=>rfl) (fun _ _ _=>rfl) (fun _ _ _=>rfl) (fun _=>rfl) (Z1S.1 h1),by
  first
  | exact h2
  | (rcases o with o<;>exact h2)⟩
noncomputable def qe7 {R:Type}:Z27 S R:=LE.ls X qe0 qe2 qdV
theorem qe8 {R:Type}:Z3J X (qe7 (R:=R)):=Zhq xok qdU (e:=qe0) qdP qdW qe6 qdW
def qe9:Key:=⟨[80,0,40],80,none,[0,0,1],0,19⟩
def qea:StT S:=⟨v1m,o1a,20⟩
def qeb:Way S:=⟨(.exit 0),⟨L,o1a,27⟩,[(.lst (.st 2)),(.st 20),(.lst (.st 21)),.en,(.mp (.st 23) (.int .i64))]⟩
def qec:LE S:=⟨qe9,qea,[.int,(.lst (.st 2)),(.st 20),(.lst (.st 21)),.en,(.mp (.st 23) (.int .i64))],[qeb]⟩
def qed (x:tC):tE→tE:=fun y0=>(y0.1,y0.2.1,y0.2.2.1,y0.2.2.2.1,y0.2.2.2.2)
noncomputable def qee {R:Type} (x:tC) (k:tE→Option R):Option R:=(XS (x.1,x.2.1,x.2.2.1,x.2.2.2.1,x.2.2.2.2.1,x.2.2.2.2.2)).bind (fun y0=>k (y0.1,y0.2.1,y0.2.2.1,y0.2.2.2.1,y0.2.2.2.2))
def qef (x:tC) (v:tC):tC:=(v.1,v.2.1,v.2.2.1,v.2.2.2.1,v.2.2.2.2.1,v.2.2.2.2.2)
theorem qeg (x:tC):LE.step X qec qdT qdO qe7 12 x=Xe x.1 x.2.1 x.2.2.1 x.2.2.2.1 x.2.2.2.2.1 x.2.2.2.2.2 (fun w0 w1 w2 w3 w4 w5=>(Sum.inl (w0,w1,w2,w3,w4,w5))) (fun p0 p1 p2 p3 p4=>(Sum.inr (p0,p1,p2,p3,p4))):=by kernel_rfl
theorem qei {R:Type} (x:tC) (k:tE→Option R) (r:R) (h:qee x k=some r):∃ o,Z5s (LE.step X qec qdT qdO qe7 12) x o∧k o=some r:=by
 obtain ⟨o,h1,h2⟩:=Z0 h
 exact ⟨qed x o,Zhl (st:=fun (x:tC)=>X8) (prj:=fun x=>(x.1,x.2.1,x.2.2.1,x.2.2.2.1,x.2.2.2.2.1,x.2.2.2.2.2)) (emb:=qef) (embO:=qed) (fun x=>(qeg x).trans (by unfold X8 Xe;simp only [Zhd,Zh8,Zhe,Option.map_some,Option.map_none];rfl)) (fun _ _=>rfl) (fun _ _=>rfl) (fun _ _ _=>rfl) (fun _ _ _=>rfl) (fun _=>rfl) (Z1S.1 h1),by
  first
  | exact h2
  | (rcases o with o<;>exact h2)⟩
noncomputable def qej {R:Type}:Z27 S R:=LE.ls X qec qee qe7
theorem qek {R:Type}:Z3J X (qej (R:=R)):=Zhq xok qdU (e:=qec) qdP qe8 qei qe8
theorem qel (x:tQ):PE.step X qdS qdT qdO qej 12 x=XE x.1 x.2.1 x.2.2.1 x.2.2.2:=by kernel_rfl
theorem qem:ZaX X qdS WG:=Zhr (ZgU xok qdU qdP qek 12) fun x _ h=>((qel x).trans (X34 x).symm).trans h
noncomputable def qen {R:Type}:Prs S R:=PE.ps X qdS (fun x q=>(WG x).bind q) qdO
theorem qeo {R:Type}:Z7R X (qen (R:=R)):=Zhi (e:=qdS) qem qdP
noncomputable def qep:List (Nat×F7 S):=[(76,q9T),(41,q8o),(61,qak),(38,qba)]
theorem qeq:Z9n X (qep):=⟨q9U,q8p,qal,qbb,trivial⟩
abbrev qer {R:Type}:Z27 S R:=Zgi
theorem qes {R:Type}:Z3J X (qer (R:=R)):=ZgQ X
theorem qet (x0:ZJ) (x1:List Zm):Zhs X qep [(.st 20),(.sl (.st 21))] [(.sl (.st 2)),(.int .i64)] qen qer 12 11 (x0,x1,())=X2g x0 x1:=by kernel_rfl
noncomputable def qeu:F7 S:=⟨[(.st 20),(.sl (.st 21))],[(.sl (.st 2)),(.int .i64)],fun xs=>X3Z xs.1 xs.2.1⟩
theorem qev:Z7Q X 11 qeu:=Zho (Zhn xok qeq qeo qes 12 11) fun xs _ h=>((qet xs.1 xs.2.1).trans (X5D xs.1 xs.2.1).symm).trans h
def qew:StT S:=⟨(N (N (N L vQ L) vu L) (some .nilp) (N L vQ L)),L,0⟩
def qex:PE S:=⟨42,4,qew,[.int,(.st 2),.int],[]⟩
noncomputable def qey:List (Nat×F7 S):=[(38,qba),(41,q8o)]
theorem qez:Z9n X qey:=⟨qbb,q8p,trivial⟩
abbrev qeA {R:Type}:Z27 S R:=Zgi
theorem qeB {R:Type}:Z3J X (qeA (R:=R)):=ZgQ X
theorem qeC (x:(Int×Zu×Int)):PE.step X qex qey qen qeA 12 x=X1D x.1 x.2.1 x.2.2:=by kernel_rfl
theorem qeD:ZaX X qex X3M:=Zhr (ZgU xok qez qeo qeB 12) fun x _ h=>((qeC x).trans (X5P x).symm).trans h
noncomputable def qeE {R:Type}:Prs S R:=PE.ps X qex (fun x q=>(X3M x).bind q) qen
theorem qeF {R:Type}:Z7R X (qeE (R:=R)):=Zhi (e:=qex) qeD qeo
def qeG:StT S:=⟨(N L (some .nilp) L),L,0⟩
def qeH:PE S:=⟨46,1,qeG,[],[]⟩
noncomputable def qeI:List (Nat×F7 S):=[]
theorem qeJ:Z9n X qeI:=trivial
abbrev qeK {R:Type}:Z27 S R:=Zgi
theorem qeL {R:Type}:Z3J X (qeK (R:=R)):=ZgQ X
theorem qeM (x:Unit):PE.step X qeH qeI qeE qeK 12 x=Wr:=by kernel_rfl
theorem qeN:ZaX X qeH X1F:=Zhr (ZgU xok qeJ qeF qeL 12) fun x _ h=>((qeM x).trans (X4N x).symm).trans h
noncomputable def qeO {R:Type}:Prs S R:=PE.ps X qeH (fun x q=>(X1F x).bind q) qeE
theorem qeP {R:Type}:Z7R X (qeO (R:=R)):=Zhi (e:=qeH) qeN qeF
def qeQ:StT S:=⟨(N L (some (.ptr 1 0)) L),(N (N L o4 L) or L),2⟩
def qeR:Way S:=⟨.ret,⟨(N L vQ L),(N (N L o4 L) or L),2⟩,[.int,(.st 20),(.lst (.st 21)),.en,(.mp (.st 23) (.int .i64))]⟩
def qeS:PE S:=⟨46,1,qeQ,[(.st 20),(.lst (.st 21)),.en,(.mp (.st 23) (.int .i64))],[qeR]⟩
noncomputable def qeT:List (Nat×F7 S):=[]
theorem qeU:Z9n X qeT:=trivial
abbrev qeV {R:Type}:Z27 S R:=Zgi
theorem qeW {R:Type}:Z3J X (qeV (R:=R)):=ZgQ X
def qeX:Key:=⟨[46],46,none,[0,0,1,0,1],0,9⟩
def qeY:StT S:=⟨(N v1z (some (.ptr 1 0)) (N (N L none (N L vQ L)) vQ (N (N L vN L) none L))),(N (N L o4 L) or L),9⟩
def qeZ:Way S:=⟨(.exit 0),⟨(N L none (N L vQ L)),(N (N L o4 L) or L),10⟩,[.int,(.st 20),(.lst (.st 21)),.en,(.mp (.st 23) (.int .i64))]⟩
def qf0:LE S:=⟨qeX,qeY,[.int,.int,.int,(.lst (.st 21)),(.st 20),(.lst (.st 21)),.en,(.mp (.st 23) (.int .i64))],[qeZ]⟩
def qf1 (x:ts):Int→tK:=fun y0=>(y0,x.2.2.2.2.1,x.2.2.2.2.2.1,x.2.2.2.2.2.2.1,x.2.2.2.2.2.2.2)
noncomputable def qf2 {R:Type} (x:ts) (k:tK→Option R):Option R:=(X16 x.1 x.2.2.2.1 x.2.2.2.2.1 x.2.2.2.2.2.2.1 (x.2.1,x.2.2.1)).bind (fun y0=>k (y0,x.2.2.2.2.1,x.2.2.2.2.2.1,x.2.2.2.2.2.2.1,x.2.2.2.2.2.2.2))
def qf3 (x:ts) (v:(Int×Int)):ts:=(x.1,v.1,v.2,x.2.2.2.1,x.2.2.2.2.1,x.2.2.2.2.2.1,x.2.2.2.2.2.2.1,x.2.2.2.2.2.2.2)
theorem qf4 (x:ts):LE.step X qf0 qeT qeO qeV 12 x=Xg x.1 x.2.2.2.1 x.2.2.2.2.1 x.2.2.2.2.2.2.1 x.2.1 x.2.2.1 (fun w0 w1=>(Sum.inl (x.1,w0,w1,x.2.2.2.1,x.2.2.2.2.1,x.2.2.2.2.2.1,x.2.2.2.2.2.2.1,x.2.2.2.2.2.2.2))) (fun p0=>(Sum.inr (p0,x.2.2.2.2.1,x.2.2.2.2.2.1,x.2.2.2.2.2.2.1,x.2.2.2.2.2.2.2))):=by kernel_rfl
theorem qf6 {R:Type} (x:ts) (k:tK→Option R) (r:R) (h:qf2 x k=some r):∃ o,Z5s (LE.step X qf0 qeT qeO qeV 12) x o∧k o=some r:=by
 obtain ⟨o,h1,h2⟩:=Z0 h
 exact ⟨qf1 x o,Zhl (st:=fun (x:ts)=>Xa x.1 x.2.2.2.1 x.2.2.2.2.1 x.2.2.2.2.2.2.1) (prj:=fun x=>(x.2.1,x.2.2.1)) (emb:=qf3) (embO:=qf1) (fun x=>(qf4 x).trans (by unfold Xa Xg;simp only [Zhd,Zh8,Zhe,Option.map_some,Option.map_none];rfl)) (fun _ _=>rfl) (fun _ _=>rfl) (fun _ _ _=>rfl) (fun _ _ _=>rfl) (fun _=>rfl) (Z1S.1 h1),by
  first
  | exact h2
  | (rcases o with o<;>exact h2)⟩
noncomputable def qf7 {R:Type}:Z27 S R:=LE.ls X qf0 qf2 qeV
theorem qf8 {R:Type}:Z3J X (qf7 (R:=R)):=Zhq xok qeU (e:=qf0) qeP qeW qf6 qeW
theorem qf9 (x:tQ):PE.step X qeS qeT qeO qf7 12 x=XG x.1 x.2.1 x.2.2.1 x.2.2.2:=by kernel_rfl
theorem qfa:ZaX X qeS WH:=Zhr (ZgU xok qeU qeP qf8 12) fun x _ h=>((qf9 x).trans (X39 x).symm).trans h
noncomputable def qfb {R:Type}:Prs S R:=PE.ps X qeS (fun x q=>(WH x).bind q) qeO
theorem qfc {R:Type}:Z7R X (qfb (R:=R)):=Zhi (e:=qeS) qfa qeP
def qfd:StT S:=⟨v1v,(N (N L o4 L) or L),2⟩
def qfe:Way S:=⟨.ret,⟨(N L vR L),(N (N L o4 L) or L),2⟩,[.bool,(.st 20),(.lst (.st 21)),.en,(.mp (.st 23) (.int .i64))]⟩
def qff:PE S:=⟨48,2,qfd,[.int,(.st 20),(.lst (.st 21)),.en,(.mp (.st 23) (.int .i64))],[qfe]⟩
noncomputable def qfg:List (Nat×F7 S):=[(38,qba),(41,q8o)]
theorem qfh:Z9n X qfg:=⟨qbb,q8p,trivial⟩
abbrev qfi {R:Type}:Z27 S R:=Zgi
theorem qfj {R:Type}:Z3J X (qfi (R:=R)):=ZgQ X
def qfk:Key:=⟨[80,0,48],80,none,[0,0,1,0,0,1,0,0,1],2,44⟩
def qfl:StT S:=⟨(N (N (N L vQ L) (some (.ptr 18 0)) L) (some (.yld 22)) (N (N L vQ L) none L)),o17,44⟩
def qfm:Way S:=⟨.ret,⟨L,oS,94⟩,[.int,(.st 20),(.lst (.st 21)),.en,(.arr (.st 5)),(.st 2),(.mp (.st 23) (.int .i64)),.bool,.int,.int]⟩
def qfn:Way S:=⟨(.exit 2),⟨v1l,o17,51⟩,[.int,.int,(.st 20),(.lst (.st 21)),.en,(.mp (.st 23) (.int .i64)),.bool,.int,.int]⟩
def qfo:LE S:=⟨qfk,qfl,[.int,.int,.int,(.st 20),(.lst (.st 21)),.en,(.mp (.st 23) (.int .i64)),.bool,.int,.int],[qfm,qfn]⟩
def qfp (x:tq):((ZJ×(List Zm)×(Nat→Nat)×(Nat→ZE)×Zu×t1k×Bool)⊕tQ)→t5:=Sum.elim (fun y0=>(.inl (x.2.2.1,y0.1,y0.2.1,y0.2.2.1,y0.2.2.2.1,y0.2.2.2.2.1,y0.2.2.2.2.2.1,y0.2.2.2.2.2.2,x.2.2.2.2.2.2.2.2.1,x.2.2.2.2.2.2.2.2.2))) (fun y1=>(.inr (x.1,x.2.2.1,y1.1,y1.2.1,y1.2.2.1,y1.2.2.2,x.2.2.2.2.2.2.2.1,x.2.2.2.2.2.2.2.2.1,x.2.2.2.2.2.2.2.2.2)))
noncomputable def qfq {R:Type} (x:tq) (k:t5→Option R):Option R:=(XP x.1 x.2.2.1 x.2.2.2.2.2.2.2.2.2 (x.2.1,x.2.2.2.1,x.2.2.2.2.1,x.2.2.2.2.2.1,x.2.2.2.2.2.2.1)).bind (Sum.elim (fun y0=>k (.inl (x.2.2.1,y0.1,y0.2.1,y0.2.2.1,y0.2.2.2.1,y0.2.2.2.2.1,y0.2.2.2.2.2.1,y0.2.2.2.2.2.2,x.2.2.2.2.2.2.2.2.1,x.2.2.2.2.2.2.2.2.2))) (fun y1=>k (.inr (x.1,x.2.2.1,y1.1,y1.2.1,y1.2.2.1,y1.2.2.2,x.2.2.2.2.2.2.2.1,x.2.2.2.2.2.2.2.2.1,x.2.2.2.2.2.2.2.2.2))))
def qfr (x:tq) (v:tK):tq:=(x.1,v.1,x.2.2.1,v.2.1,v.2.2.1,v.2.2.2.1,v.2.2.2.2,x.2.2.2.2.2.2.2.1,x.2.2.2.2.2.2.2.2.1,x.2.2.2.2.2.2.2.2.2)
theorem qfs (x:tq):LE.step X qfo qfg qfb qfi 12 x=Xd x.1 x.2.2.1 x.2.2.2.2.2.2.2.2.2 x.2.1 x.2.2.2.1 x.2.2.2.2.1 x.2.2.2.2.2.1 x.2.2.2.2.2.2.1 (fun w0 w1 w2 w3 w4=>(Sum.inl (x.1,w0,x.2.2.1,w1,w2,w3,w4,x.2.2.2.2.2.2.2.1,x.2.2.2.2.2.2.2.2.1,x.2.2.2.2.2.2.2.2.2))) (fun p0 p1 p2 p3 p4 p5 p6=>(Sum.inr (.inl (x.2.2.1,p0,p1,p2,p3,p4,p5,p6,x.2.2.2.2.2.2.2.2.1,x.2.2.2.2.2.2.2.2.2)))) (fun p0 p1 p2 p3=>(Sum.inr (.inr (x.1,x.2.2.1,p0,p1,p2,p3,x.2.2.2.2.2.2.2.1,x.2.2.2.2.2.2.2.2.1,x.2.2.2.2.2.2.2.2.2)))):=by kernel_rfl
theorem qfu {R:Type} (x:tq) (k:t5→Option R) (r:R) (h:qfq x k=some r):∃ o,Z5s (LE.step X qfo qfg qfb qfi 12) x o∧k o=some r:=by
 obtain ⟨o,h1,h2⟩:=Z0 h
 exact ⟨qfp x o,Zhl (st:=fun (x:tq)=>X7 x.1 x.2.2.1 x.2.2.2.2.2.2.2.2.2) (prj:=fun x=>(x.2.1,x.2.2.2.1,x.2.2.2.2.1,x.2.2.2.2.2.1,x.2.2.2.2.2.2.1)) (emb:=qfr) (embO:=qfp) (fun x=>(qfs x).trans (by unfold X7 Xd;simp only [Zhd,Zh8,Zhe,Option.map_some,Option.map_none];rfl)) (fun _ _=>rfl) (fun _ _=>rfl) (fun _ _ _=>rfl) (fun _ _ _=>rfl) (fun _=>rfl) (Z1S.1 h1),by
  first
  | exact h2
  | (rcases o with o|o<;>exact h2)⟩
noncomputable def qfv {R:Type}:Z27 S R:=LE.ls X qfo qfq qfi
theorem qfw {R:Type}:Z3J X (qfv (R:=R)):=Zhq xok qfh (e:=qfo) qfc qfj qfu qfj
def qfx:Key:=⟨[80,0,48],80,none,[0,0,1],0,30⟩
def qfy:StT S:=⟨v1l,o17,30⟩
def qfz:Way S:=⟨.ret,⟨L,oS,94⟩,[.int,(.st 20),(.lst (.st 21)),.en,(.arr (.st 5)),(.st 2),(.mp (.st 23) (.int .i64)),.bool,.int,.int]⟩
def qfA:Way S:=⟨(.exit 0),⟨L,o17,37⟩,[.int,(.st 20),(.lst (.st 21)),.en,(.mp (.st 23) (.int .i64)),.bool,.int,.int]⟩
def qfB:LE S:=⟨qfx,qfy,[.int,.int,(.st 20),(.lst (.st 21)),.en,(.mp (.st 23) (.int .i64)),.bool,.int,.int],[qfz,qfA]⟩
def qfC (x:tt):((ZJ×(List Zm)×(Nat→Nat)×(Nat→ZE)×Zu×t1k×Bool)⊕tQ)→t7:=Sum.elim (fun y0=>(.inl (x.2.1,y0.1,y0.2.1,y0.2.2.1,y0.2.2.2.1,y0.2.2.2.2.1,y0.2.2.2.2.2.1,y0.2.2.2.2.2.2,x.2.2.2.2.2.2.2.1,x.2.2.2.2.2.2.2.2))) (fun y1=>(.inr (x.2.1,y1.1,y1.2.1,y1.2.2.1,y1.2.2.2,x.2.2.2.2.2.2.1,x.2.2.2.2.2.2.2.1,x.2.2.2.2.2.2.2.2)))
noncomputable def qfD {R:Type} (x:tt) (k:t7→Option R):Option R:=(WU x.2.1 x.2.2.2.2.2.2.2.2 (x.1,x.2.2.1,x.2.2.2.1,x.2.2.2.2.1,x.2.2.2.2.2.1)).bind (Sum.elim (fun y0=>k (.inl (x.2.1,y0.1,y0.2.1,y0.2.2.1,y0.2.2.2.1,y0.2.2.2.2.1,y0.2.2.2.2.2.1,y0.2.2.2.2.2.2,x.2.2.2.2.2.2.2.1,x.2.2.2.2.2.2.2.2))) (fun y1=>k (.inr (x.2.1,y1.1,y1.2.1,y1.2.2.1,y1.2.2.2,x.2.2.2.2.2.2.1,x.2.2.2.2.2.2.2.1,x.2.2.2.2.2.2.2.2))))
def qfE (x:tt) (v:tK):tt:=(v.1,x.2.1,v.2.1,v.2.2.1,v.2.2.2.1,v.2.2.2.2,x.2.2.2.2.2.2.1,x.2.2.2.2.2.2.2.1,x.2.2.2.2.2.2.2.2)
theorem qfF (x:tt):LE.step X qfB qfg qfb qfv 12 x=Xc x.2.1 x.2.2.2.2.2.2.2.2 x.1 x.2.2.1 x.2.2.2.1 x.2.2.2.2.1 x.2.2.2.2.2.1 (fun w0 w1 w2 w3 w4=>(Sum.inl (w0,x.2.1,w1,w2,w3,w4,x.2.2.2.2.2.2.1,x.2.2.2.2.2.2.2.1,x.2.2.2.2.2.2.2.2))) (fun p0 p1 p2 p3 p4 p5 p6=>(Sum.inr (.inl (x.2.1,p0,p1,p2,p3,p4,p5,p6,x.2.2.2.2.2.2.2.1,x.2.2.2.2.2.2.2.2)))) (fun p0 p1 p2 p3=>(Sum.inr (.inr (x.2.1,p0,p1,p2,p3,x.2.2.2.2.2.2.1,x.2.2.2.2.2.2.2.1,x.2.2.2.2.2.2.2.2)))):=by kernel_rfl
theorem qfH {R:Type} (x:tt) (k:t7→Option R) (r:R) (h:qfD x k=some r):∃ o,Z5s (LE.step X qfB qfg qfb qfv 12) x o∧k o=some r:=by
 obtain ⟨o,h1,h2⟩:=Z0 h
 exact ⟨qfC x o,Zhl (st:=fun (x:tt)=>X6 x.2.1 x.2.2.2.2.2.2.2.2) (prj:=fun x=>(x.1,x.2.2.1,x.2.2.2.1,x.2.2.2.2.1,x.2.2.2.2.2.1)) (emb:=qfE) (embO:=qfC) (fun x=>(qfF x).trans (by unfold X6 Xc;simp only [Zhd,Zh8,Zhe,Option.map_some,Option.map_none];rfl)) (fun _ _=>rfl) (fun _ _=>rfl) (fun _ _ _=>rfl) (fun _ _ _=>rfl) (fun _=>rfl) (Z1S.1 h1),by
  first
  | exact h2
  | (rcases o with o|o<;>exact h2)⟩
noncomputable def qfI {R:Type}:Z27 S R:=LE.ls X qfB qfD qfv
theorem qfJ {R:Type}:Z3J X (qfI (R:=R)):=Zhq xok qfh (e:=qfB) qfc qfw qfH qfw
theorem qfK (x:tK):PE.step X qff qfg qfb qfI 12 x=Xx x.1 x.2.1 x.2.2.1 x.2.2.2.1 x.2.2.2.2:=by kernel_rfl
theorem qfL:ZaX X qff Wi:=Zhr (ZgU xok qfh qfc qfJ 12) fun x _ h=>((qfK x).trans (X2T x).symm).trans h
noncomputable def qfM {R:Type}:Prs S R:=PE.ps X qff (fun x q=>(Wi x).bind q) qfb
theorem qfN {R:Type}:Z7R X (qfM (R:=R)):=Zhi (e:=qff) qfL qfc
def qfO:StT S:=⟨(N (N (N L (some (.ptr 4 0)) L) vQ (N L (some (.ptr 0 0)) L)) vQ (N (N L (some (.ptr 1 0)) L) vQ L)),o1s,5⟩
def qfP:Way S:=⟨.ret,⟨(N L (some (.tup [(.int .i64 0),(.bool false)])) L),o1s,5⟩,[.int,.bool,(.st 20),(.lst (.st 21)),.en,.int,(.mp (.st 23) (.int .i64))]⟩
def qfQ:PE S:=⟨47,6,qfO,[.int,.int,.int,(.st 20),(.lst (.st 21)),.en,.int,(.mp (.st 23) (.int .i64))],[qfP]⟩
noncomputable def qfR:List (Nat×F7 S):=[(38,qba),(41,q8o)]
theorem qfS:Z9n X qfR:=⟨qbb,q8p,trivial⟩
abbrev qfT (ih:tx→Option tD) {R:Type}:Z27 S R:=Zgi
theorem qfU (ih:tx→Option tD) (hih:ZaX X qfQ ih) {R:Type}:Z3J X (qfT ih (R:=R)):=ZgQ X
def qfV:Key:=⟨[47],47,none,[0,0,1,0,1,1],0,11⟩
def qfW:StT S:=⟨(N (N (N L none (N L vQ L)) none (N L (some (.ptr 0 0)) L)) vQ (N (N L (some (.ptr 1 0)) L) vQ L)),o1s,11⟩
def qfX:Way S:=⟨.ret,⟨(N v1w none (N L none (N (N L vR L) none L))),o1s,39⟩,[.int,.bool,(.st 20),(.lst (.st 21)),.en,.int,(.mp (.st 23) (.int .i64))]⟩
def qfY:Way S:=⟨(.exit 0),⟨L,o1s,15⟩,[(.st 20),(.lst (.st 21)),.en,.int,(.mp (.st 23) (.int .i64))]⟩
def qfZ:LE S:=⟨qfV,qfW,[.int,.int,.int,(.st 20),(.lst (.st 21)),.en,.int,(.mp (.st 23) (.int .i64))],[qfX,qfY]⟩
def qg0 (x:tA):tc→tc:=Sum.elim (fun y0=>(.inl (y0.1,y0.2.1,y0.2.2.1,y0.2.2.2.1,y0.2.2.2.2.1,y0.2.2.2.2.2.1,y0.2.2.2.2.2.2))) (fun y1=>(.inr (y1.1,y1.2.1,y1.2.2.1,y1.2.2.2.1,y1.2.2.2.2)))
noncomputable def qg1 (ih:tx→Option tD) {R:Type} (x:tA) (k:tc→Option R):Option R:=(X3n ih x.2.1 x.2.2.1 (x.1,x.2.2.2.1,x.2.2.2.2.1,x.2.2.2.2.2.1,x.2.2.2.2.2.2.1,x.2.2.2.2.2.2.2)).bind (Sum.elim (fun y0=>k (.inl (y0.1,y0.2.1,y0.2.2.1,y0.2.2.2.1,y0.2.2.2.2.1,y0.2.2.2.2.2.1,y0.2.2.2.2.2.2))) (fun y1=>k (.inr (y1.1,y1.2.1,y1.2.2.1,y1.2.2.2.1,y1.2.2.2.2))))
def qg2 (x:tA) (v:(Int×ZJ×(List Zm)×(Nat→Nat)×Int×t1k)):tA:=(v.1,x.2.1,x.2.2.1,v.2.1,v.2.2.1,v.2.2.2.1,v.2.2.2.2.1,v.2.2.2.2.2)
theorem qg3 (ih:tx→Option tD) (x:tA):LE.step X qfZ qfR (PE.ps X qfQ (fun x q=>(ih x).bind q) qfM) (qfT ih) 12 x=XR ih x.2.1 x.2.2.1 x.1 x.2.2.2.1 x.2.2.2.2.1 x.2.2.2.2.2.1 x.2.2.2.2.2.2.1 x.2.2.2.2.2.2.2 (fun w0 w1 w2 w3 w4 w5=>(Sum.inl (w0,x.2.1,x.2.2.1,w1,w2,w3,w4,w5))) (fun p0 p1 p2 p3 p4 p5 p6=>(Sum.inr (.inl (p0,p1,p2,p3,p4,p5,p6)))) (fun p0 p1 p2 p3 p4=>(Sum.inr (.inr (p0,p1,p2,p3,p4)))):=by kernel_rfl
theorem qg5 (ih:tx→Option tD) {R:Type} (x:tA) (k:tc→Option R) (r:R) (h:qg1 ih x k=some r):∃ o,Z5s (LE.step X qfZ qfR (PE.ps X qfQ (fun x q=>(ih x).bind q) qfM) (qfT ih) 12) x o∧k o=some r:=by
 obtain ⟨o,h1,h2⟩:=Z0 h
 exact ⟨qg0 x o,Zhl (st:=fun (x:tA)=>XB ih x.2.1 x.2.2.1) (prj:=fun x=>(x.1,x.2.2.2.1,x.2.2.2.2.1,x.2.2.2.2.2.1,x.2.2.2.2.2.2.1,x.2.2.2.2.2.2.2)) (emb:=qg2) (embO:=qg0) (fun x=>(qg3 ih x).trans (by unfold XB XR;simp only [Zhd,Zh8,Zhe,Option.map_some,Option.map_none];rfl)) (fun _ _=>rfl) (fun _ _=>rfl) (fun _ _ _=>rfl) (fun _ _ _=>rfl) (fun _=>rfl) (Z1S.1 h1),by
  first
  | exact h2
  | (rcases o with o|o<;>exact h2)⟩
noncomputable def qg6 (ih:tx→Option tD) {R:Type}:Z27 S R:=LE.ls X qfZ (qg1 ih) (qfT ih)
theorem qg7 (ih:tx→Option tD) (hih:ZaX X qfQ ih) {R:Type}:Z3J X (qg6 ih (R:=R)):=Zhq xok qfS (e:=qfZ) (Zhi (e:=qfQ) hih qfN) (qfU ih hih) (qg5 ih) (qfU ih hih)
theorem qg8 (ih:tx→Option tD) (x:tA):PE.step X qfQ qfR (PE.ps X qfQ (fun x q=>(ih x).bind q) qfM) (qg6 ih) 12 x=X1W ih x.1 x.2.1 x.2.2.1 x.2.2.2.1 x.2.2.2.2.1 x.2.2.2.2.2.1 x.2.2.2.2.2.2.1 x.2.2.2.2.2.2.2:=by kernel_rfl
theorem qg9:ZaX X qfQ X2h:=Zhj (X:=X) (e:=qfQ) (t:=Xi) fun ih hih=>Zhr (ZgU xok qfS (Zhi (e:=qfQ) hih qfN) (qg7 ih hih) 12) fun x _ h=>(qg8 ih x).trans h
noncomputable def qga {R:Type}:Prs S R:=PE.ps X qfQ (fun x q=>(X2h x).bind q) qfM
theorem qgb {R:Type}:Z7R X (qga (R:=R)):=Zhi (e:=qfQ) qg9 qfN
noncomputable def qgc:List (Nat×F7 S):=[(76,q9T),(41,q8o),(61,qak),(38,qba)]
theorem qgd:Z9n X (qgc):=⟨q9U,q8p,qal,qbb,trivial⟩
abbrev qge {R:Type}:Z27 S R:=Zgi
theorem qgf {R:Type}:Z3J X (qge (R:=R)):=ZgQ X
def qgg:Key:=⟨[25],25,none,[0,0,1,0,1,1,1,1,1,1,1],0,32⟩
def qgh:StT S:=⟨(N (N (N L none (N L vQ L)) none (N (N L vQ L) (some .nils) (N L vQ L))) none (N (N L (some .nils) (N L vR L)) (some (.ptr 0 0)) (N (N L (some (.ptr 26 0)) L) none L))),o11,32⟩
def qgi:Way S:=⟨(.exit 0),⟨(N (N (N L none (N L vQ L)) none (N (N L vQ L) (some .nils) L)) none (N (N L (some .nils) L) (some (.ptr 0 0)) L)),o11,34⟩,[.int,.int,.int,(.mp (.st 23) (.int .i64)),(.st 20),(.st 20),(.lst (.st 21)),.en]⟩
def qgj:LE S:=⟨qgg,qgh,[.int,.int,.int,.bool,.int,(.mp (.st 23) (.int .i64)),(.st 20),(.st 20),(.lst (.st 21)),.en],[qgi]⟩
def qgk (x:to):(Int×Int×t1k×ZJ×(List Zm)×(Nat→Nat))→ty:=fun y0=>(y0.1,x.2.1,y0.2.1,y0.2.2.1,x.2.2.2.2.2.2.1,y0.2.2.2.1,y0.2.2.2.2.1,y0.2.2.2.2.2)
noncomputable def qgl {R:Type} (x:to) (k:ty→Option R):Option R:=(X2q (x.1,x.2.2.1,x.2.2.2.1,x.2.2.2.2.1,x.2.2.2.2.2.1,x.2.2.2.2.2.2.2.1,x.2.2.2.2.2.2.2.2.1,x.2.2.2.2.2.2.2.2.2)).bind (fun y0=>k (y0.1,x.2.1,y0.2.1,y0.2.2.1,x.2.2.2.2.2.2.1,y0.2.2.2.1,y0.2.2.2.2.1,y0.2.2.2.2.2))
def qgm (x:to) (v:(Int×Int×Bool×Int×t1k×ZJ×(List Zm)×(Nat→Nat))):to:=(v.1,x.2.1,v.2.1,v.2.2.1,v.2.2.2.1,v.2.2.2.2.1,x.2.2.2.2.2.2.1,v.2.2.2.2.2.1,v.2.2.2.2.2.2.1,v.2.2.2.2.2.2.2)
theorem qgn (x:to):LE.step X qgj qgc qga qge 12 x=X1v x.1 x.2.2.1 x.2.2.2.1 x.2.2.2.2.1 x.2.2.2.2.2.1 x.2.2.2.2.2.2.2.1 x.2.2.2.2.2.2.2.2.1 x.2.2.2.2.2.2.2.2.2 (fun w0 w1 w2 w3 w4 w5 w6 w7=>(Sum.inl (w0,x.2.1,w1,w2,w3,w4,x.2.2.2.2.2.2.1,w5,w6,w7))) (fun p0 p1 p2 p3 p4 p5=>(Sum.inr (p0,x.2.1,p1,p2,x.2.2.2.2.2.2.1,p3,p4,p5))):=by kernel_rfl
theorem qgp {R:Type} (x:to) (k:ty→Option R) (r:R) (h:qgl x k=some r):∃ o,Z5s (LE.step X qgj qgc qga qge 12) x o∧k o=some r:=by
 obtain ⟨o,h1,h2⟩:=Z0 h
 exact ⟨qgk x o,Zhl (st:=fun (x:to)=>X26) (prj:=fun x=>(x.1,x.2.2.1,x.2.2.2.1,x.2.2.2.2.1,x.2.2.2.2.2.1,x.2.2.2.2.2.2.2.1,x.2.2.2.2.2.2.2.2.1,x.2.2.2.2.2.2.2.2.2)) (emb:=qgm) (embO:=qgk) (fun x=>(qgn x).trans (by unfold X26 X1v;simp only [Zhd,Zh8,Zhe,Option.map_some,Option.map_none];rfl)) (fun _ _=>rfl) (fun _ _=>rfl) (fun _ _ _=>rfl) (fun _ _ _=>rfl) (fun _=>rfl) (Z1S.1 h1),by
  first
  | exact h2
  | (rcases o with o<;>exact h2)⟩
noncomputable def qgq {R:Type}:Z27 S R:=LE.ls X qgj qgl qge
theorem qgr {R:Type}:Z3J X (qgq (R:=R)):=Zhq xok qgd (e:=qgj) qgb qgf qgp qgf
def qgs:Key:=⟨[25],25,none,[0,0,1,0,1,1,1,1,1,1,1,1],2,40⟩
def qgt:StT S:=⟨(N (N (N L none (N L vQ L)) none (N (N L vQ L) (some (.rs 41 0)) v1w)) none (N (N L (some (.rs 40 0)) L) none (N L none v1w))),oW,42⟩
def qgu:Way S:=⟨(.exit 2),⟨(N (N L none (N L (some (.rs 41 0)) L)) none (N (N L (some (.rs 40 0)) L) none L)),oW,43⟩,[.int,(.lst (.int .i64)),(.mp (.st 23) (.int .i64)),(.st 20),(.lst (.int .i64)),(.st 20),(.lst (.st 21)),.en]⟩
def qgv:LE S:=⟨qgs,qgt,[.int,.int,.int,.int,.int,(.lst (.int .i64)),(.mp (.st 23) (.int .i64)),(.st 20),(.lst (.int .i64)),(.st 20),(.lst (.st 21)),.en],[qgu]⟩
def qgw (x:ti):((List Int)×(List Int))→tn:=fun y0=>(x.2.2.2.2.1,y0.1,x.2.2.2.2.2.2.1,x.2.2.2.2.2.2.2.1,y0.2,x.2.2.2.2.2.2.2.2.2.1,x.2.2.2.2.2.2.2.2.2.2.1,x.2.2.2.2.2.2.2.2.2.2.2)
noncomputable def qgx {R:Type} (x:ti) (k:tn→Option R):Option R:=(X3v x.1 x.2.1 x.2.2.1 (x.2.2.2.1,x.2.2.2.2.2.1,x.2.2.2.2.2.2.2.2.1)).bind (fun y0=>k (x.2.2.2.2.1,y0.1,x.2.2.2.2.2.2.1,x.2.2.2.2.2.2.2.1,y0.2,x.2.2.2.2.2.2.2.2.2.1,x.2.2.2.2.2.2.2.2.2.2.1,x.2.2.2.2.2.2.2.2.2.2.2))
def qgy (x:ti) (v:(Int×(List Int)×(List Int))):ti:=(x.1,x.2.1,x.2.2.1,v.1,x.2.2.2.2.1,v.2.1,x.2.2.2.2.2.2.1,x.2.2.2.2.2.2.2.1,v.2.2,x.2.2.2.2.2.2.2.2.2.1,x.2.2.2.2.2.2.2.2.2.2.1,x.2.2.2.2.2.2.2.2.2.2.2)
theorem qgz (x:ti):LE.step X qgv qgc qga qgq 12 x=X1w x.1 x.2.1 x.2.2.1 x.2.2.2.1 x.2.2.2.2.2.1 x.2.2.2.2.2.2.2.2.1 (fun w0 w1 w2=>(Sum.inl (x.1,x.2.1,x.2.2.1,w0,x.2.2.2.2.1,w1,x.2.2.2.2.2.2.1,x.2.2.2.2.2.2.2.1,w2,x.2.2.2.2.2.2.2.2.2.1,x.2.2.2.2.2.2.2.2.2.2.1,x.2.2.2.2.2.2.2.2.2.2.2))) (fun p0 p1=>(Sum.inr (x.2.2.2.2.1,p0,x.2.2.2.2.2.2.1,x.2.2.2.2.2.2.2.1,p1,x.2.2.2.2.2.2.2.2.2.1,x.2.2.2.2.2.2.2.2.2.2.1,x.2.2.2.2.2.2.2.2.2.2.2))):=by kernel_rfl
theorem qgB {R:Type} (x:ti) (k:tn→Option R) (r:R) (h:qgx x k=some r):∃ o,Z5s (LE.step X qgv qgc qga qgq 12) x o∧k o=some r:=by
 obtain ⟨o,h1,h2⟩:=Z0 h
 exact ⟨qgw x o,Zhl (st:=fun (x:ti)=>X1p x.1 x.2.1 x.2.2.1) (prj:=fun x=>(x.2.2.2.1,x.2.2.2.2.2.1,x.2.2.2.2.2.2.2.2.1)) (emb:=qgy) (embO:=qgw) (fun x=>(qgz x).trans (by unfold X1p X1w;simp only [Zhd,Zh8,Zhe,Option.map_some,Option.map_none];rfl)) (fun _ _=>rfl) (fun _ _=>rfl) (fun _ _ _=>rfl) (fun _ _ _=>rfl) (fun _=>rfl) (Z1S.1 h1),by
  first
  | exact h2
  | (rcases o with o<;>exact h2)⟩
noncomputable def qgC {R:Type}:Z27 S R:=LE.ls X qgv qgx qgq
theorem qgD {R:Type}:Z3J X (qgC (R:=R)):=Zhq xok qgd (e:=qgv) qgb qgr qgB qgr
theorem qgE (x0:ZJ) (x1:List Zm):Zhs X qgc [(.st 20),(.sl (.st 21))] [(.sl (.int .i64)),(.sl (.int .i64)),(.int .i64)] qga qgC 12 25 (x0,x1,())=X2z x0 x1:=by kernel_rfl
noncomputable def qgF:F7 S:=⟨[(.st 20),(.sl (.st 21))],[(.sl (.int .i64)),(.sl (.int .i64)),(.int .i64)],fun xs=>X5t xs.1 xs.2.1⟩
theorem qgG:Z7Q X 25 qgF:=Zho (Zhn xok qgd qgb qgD 12 25) fun xs _ h=>((qgE xs.1 xs.2.1).trans (X5X xs.1 xs.2.1).symm).trans h
noncomputable def qgH:List (Nat×F7 S):=[]
theorem qgI:Z9n X (qgH):=trivial
abbrev qgJ {R:Type}:Z27 S R:=Zgi
theorem qgK {R:Type}:Z3J X (qgJ (R:=R)):=ZgQ X
def qgL:Key:=⟨[63],63,none,[0,0,1,0,1,1,1],0,9⟩
def qgM:StT S:=⟨(N (N (N L vQ L) none L) vM (N (N L vQ L) none L)),L,9⟩
def qgN:Way S:=⟨(.exit 0),⟨v1x,L,13⟩,[.int]⟩
def qgO:LE S:=⟨qgL,qgM,[.int,(.lst (.int .i64)),.int],[qgN]⟩
def qgP (x:t1j):Int→Int:=fun y0=>y0
noncomputable def qgQ {R:Type} (x:t1j) (k:Int→Option R):Option R:=(X2v x.2.1 (x.1,x.2.2)).bind (fun y0=>k y0)
def qgR (x:t1j) (v:(Int×Int)):t1j:=(v.1,x.2.1,v.2)
theorem qgS (x:t1j):LE.step X qgO qgH qga qgJ 12 x=X1f x.2.1 x.1 x.2.2 (fun w0 w1=>(Sum.inl (w0,x.2.1,w1))) (fun p0=>(Sum.inr p0)):=by kernel_rfl
theorem qgU {R:Type} (x:t1j) (k:Int→Option R) (r:R) (h:qgQ x k=some r):∃ o,Z5s (LE.step X qgO qgH qga qgJ 12) x o∧k o=some r:=by
 obtain ⟨o,h1,h2⟩:=Z0 h
 exact ⟨qgP x o,Zhl (st:=fun (x:t1j)=>X1A x.2.1) (prj:=fun x=>(x.1,x.2.2)) (emb:=qgR) (embO:=qgP) (fun x=>(qgS x).trans (by unfold X1A X1f;simp only [Zhd,Zh8,Zhe,Option.map_some,Option.map_none];rfl)) (fun _ _=>rfl) (fun _ _=>rfl) (fun _ _ _=>rfl) (fun _ _ _=>rfl) (fun _=>rfl) (Z1S.1 h1),by
  first
  | exact h2
  | (rcases o with o<;>exact h2)⟩
noncomputable def qgV {R:Type}:Z27 S R:=LE.ls X qgO qgQ qgJ
theorem qgW {R:Type}:Z3J X (qgV (R:=R)):=Zhq xok qgI (e:=qgO) qgb qgK qgU qgK
theorem qgX (x0:List Int):Zhs X qgH [(.sl (.int .i64))] [(.int .i64)] qga qgV 12 63 (x0,())=WV x0:=by kernel_rfl
noncomputable def qgY:F7 S:=⟨[(.sl (.int .i64))],[(.int .i64)],fun xs=>X2P xs.1⟩
theorem qgZ:Z7Q X 63 qgY:=Zho (Zhn xok qgI qgb qgW 12 63) fun xs _ h=>((qgX xs.1).trans (X57 xs.1).symm).trans h
def qh0:StT S:=⟨(N (N (N L vQ L) vP L) (some (.ptr 1 0)) (N L vQ L)),(N (N L o4 L) or L),2⟩
def qh1:Way S:=⟨.ret,⟨(N L vQ L),(N (N L o4 L) or L),2⟩,[.int,(.st 20),(.lst (.st 21)),.en,(.mp (.st 23) (.int .i64))]⟩
def qh2:PE S:=⟨50,4,qh0,[.int,(.lst (.st 2)),.int,(.st 20),(.lst (.st 21)),.en,(.mp (.st 23) (.int .i64))],[qh1]⟩
noncomputable def qh3:List (Nat×F7 S):=[(38,qba),(41,q8o),(63,qgY)]
theorem qh4:Z9n X qh3:=⟨qbb,q8p,qgZ,trivial⟩
abbrev qh5 {R:Type}:Z27 S R:=Zgi
theorem qh6 {R:Type}:Z3J X (qh5 (R:=R)):=ZgQ X
def qh7:Key:=⟨[50],50,none,[0,0,1,1,1,1,1,0,0,1,1,0,0,1,0,1,1],2,39⟩
def qh8:StT S:=⟨(N (N (N L vQ v1w) none (N (N (N L vQ L) (some (.ptr 3 0)) L) none L)) (some (.ptr 1 0)) (N (N (N (N L vP L) none L) none (N L (some (.ptr 18 0)) (N (N L vQ L) none L))) vQ (N (N (N L vQ L) none L) none (N L vQ L)))),o1h,39⟩
def qh9:Way S:=⟨(.exit 2),⟨vX,o1h,40⟩,[.int,.int,(.lst (.st 2)),.int,.int,(.arr (.int .i64)),(.st 20),(.lst (.st 21)),.en,(.mp (.st 23) (.int .i64)),(.arr (.st 5)),(.st 2)]⟩
def qha:LE S:=⟨qh7,qh8,[.int,.int,.int,(.lst (.st 2)),.int,.int,.int,.int,(.arr (.int .i64)),(.st 20),(.lst (.st 21)),.en,(.mp (.st 23) (.int .i64)),(.arr (.st 5)),(.st 2)],[qh9]⟩
def qhb (x:td):(Nat→Int)→te:=fun y0=>(x.1,x.2.2.1,x.2.2.2.1,x.2.2.2.2.2.1,x.2.2.2.2.2.2.1,y0,x.2.2.2.2.2.2.2.2.2.1,x.2.2.2.2.2.2.2.2.2.2.1,x.2.2.2.2.2.2.2.2.2.2.2.1,x.2.2.2.2.2.2.2.2.2.2.2.2.1,x.2.2.2.2.2.2.2.2.2.2.2.2.2.1,x.2.2.2.2.2.2.2.2.2.2.2.2.2.2)
noncomputable def qhc {R:Type} (x:td) (k:te→Option R):Option R:=(X2B x.1 x.2.1 x.2.2.1 x.2.2.2.1 x.2.2.2.2.2.1 x.2.2.2.2.2.2.1 x.2.2.2.2.2.2.2.1 x.2.2.2.2.2.2.2.2.2.1 x.2.2.2.2.2.2.2.2.2.2.1 x.2.2.2.2.2.2.2.2.2.2.2.1 x.2.2.2.2.2.2.2.2.2.2.2.2.1 x.2.2.2.2.2.2.2.2.2.2.2.2.2.1 x.2.2.2.2.2.2.2.2.2.2.2.2.2.2 (x.2.2.2.2.1,x.2.2.2.2.2.2.2.2.1)).bind (fun y0=>k (x.1,x.2.2.1,x.2.2.2.1,x.2.2.2.2.2.1,x.2.2.2.2.2.2.1,y0,x.2.2.2.2.2.2.2.2.2.1,x.2.2.2.2.2.2.2.2.2.2.1,x.2.2.2.2.2.2.2.2.2.2.2.1,x.2.2.2.2.2.2.2.2.2.2.2.2.1,x.2.2.2.2.2.2.2.2.2.2.2.2.2.1,x.2.2.2.2.2.2.2.2.2.2.2.2.2.2))
def qhd (x:td) (v:(Int×(Nat→Int))):td:=(x.1,x.2.1,x.2.2.1,x.2.2.2.1,v.1,x.2.2.2.2.2.1,x.2.2.2.2.2.2.1,x.2.2.2.2.2.2.2.1,v.2,x.2.2.2.2.2.2.2.2.2.1,x.2.2.2.2.2.2.2.2.2.2.1,x.2.2.2.2.2.2.2.2.2.2.2.1,x.2.2.2.2.2.2.2.2.2.2.2.2.1,x.2.2.2.2.2.2.2.2.2.2.2.2.2.1,x.2.2.2.2.2.2.2.2.2.2.2.2.2.2)
theorem qhe (x:td):LE.step X qha qh3 qga qh5 12 x=X1j x.1 x.2.1 x.2.2.1 x.2.2.2.1 x.2.2.2.2.2.1 x.2.2.2.2.2.2.1 x.2.2.2.2.2.2.2.1 x.2.2.2.2.2.2.2.2.2.1 x.2.2.2.2.2.2.2.2.2.2.1 x.2.2.2.2.2.2.2.2.2.2.2.1 x.2.2.2.2.2.2.2.2.2.2.2.2.1 x.2.2.2.2.2.2.2.2.2.2.2.2.2.1 x.2.2.2.2.2.2.2.2.2.2.2.2.2.2 x.2.2.2.2.1 x.2.2.2.2.2.2.2.2.1 (fun w0 w1=>(Sum.inl (x.1,x.2.1,x.2.2.1,x.2.2.2.1,w0,x.2.2.2.2.2.1,x.2.2.2.2.2.2.1,x.2.2.2.2.2.2.2.1,w1,x.2.2.2.2.2.2.2.2.2.1,x.2.2.2.2.2.2.2.2.2.2.1,x.2.2.2.2.2.2.2.2.2.2.2.1,x.2.2.2.2.2.2.2.2.2.2.2.2.1,x.2.2.2.2.2.2.2.2.2.2.2.2.2.1,x.2.2.2.2.2.2.2.2.2.2.2.2.2.2))) (fun p0=>(Sum.inr (x.1,x.2.2.1,x.2.2.2.1,x.2.2.2.2.2.1,x.2.2.2.2.2.2.1,p0,x.2.2.2.2.2.2.2.2.2.1,x.2.2.2.2.2.2.2.2.2.2.1,x.2.2.2.2.2.2.2.2.2.2.2.1,x.2.2.2.2.2.2.2.2.2.2.2.2.1,x.2.2.2.2.2.2.2.2.2.2.2.2.2.1,x.2.2.2.2.2.2.2.2.2.2.2.2.2.2))):=by kernel_rfl
theorem qhg {R:Type} (x:td) (k:te→Option R) (r:R) (h:qhc x k=some r):∃ o,Z5s (LE.step X qha qh3 qga qh5 12) x o∧k o=some r:=by
 obtain ⟨o,h1,h2⟩:=Z0 h
 exact ⟨qhb x o,Zhl (st:=fun (x:td)=>X1L x.1 x.2.1 x.2.2.1 x.2.2.2.1 x.2.2.2.2.2.1 x.2.2.2.2.2.2.1 x.2.2.2.2.2.2.2.1 x.2.2.2.2.2.2.2.2.2.1 x.2.2.2.2.2.2.2.2.2.2.1 x.2.2.2.2.2.2.2.2.2.2.2.1 x.2.2.2.2.2.2.2.2.2.2.2.2.1 x.2.2.2.2.2.2.2.2.2.2.2.2.2.1 x.2.2.2.2.2.2.2.2.2.2.2.2.2.2) (prj:=fun x=>(x.2.2.2.2.1,x.2.2.2.2.2.2.2.2.1)) (emb:=qhd) (embO:=qhb) (fun x=>(qhe x).trans (by unfold X1L X1j;simp only [Zhd,Zh8,Zhe,Option.map_some,Option.map_none];rfl)) (fun _ _=>rfl) (fun _ _=>rfl) (fun _ _ _=>rfl) (fun _ _ _=>rfl) (fun _=>rfl) (Z1S.1 h1),by
  first
  | exact h2
  | (rcases o with o<;>exact h2)⟩
noncomputable def qhh {R:Type}:Z27 S R:=LE.ls X qha qhc qh5
theorem qhi {R:Type}:Z3J X (qhh (R:=R)):=Zhq xok qh4 (e:=qha) qgb qh6 qhg qh6
def qhj:Key:=⟨[50],50,none,[0,0,1,0,1,1],0,7⟩
def qhk:StT S:=⟨vX,(N (N (N L o8 L) o4 L) or L),7⟩
def qhl:Way S:=⟨(.exit 0),⟨(N (N L none v1u) none L),(N (N (N L o8 L) o4 L) or L),8⟩,[(.arr (.int .i64)),(.st 20),(.lst (.st 21)),.en,(.mp (.st 23) (.int .i64))]⟩
def qhm:LE S:=⟨qhj,qhk,[.int,.int,(.lst (.st 2)),.int,.int,(.arr (.int .i64)),(.st 20),(.lst (.st 21)),.en,(.mp (.st 23) (.int .i64))],[qhl]⟩
def qhn (x:tm):tF→tF:=fun y0=>(y0.1,y0.2.1,y0.2.2.1,y0.2.2.2.1,y0.2.2.2.2)
noncomputable def qho {R:Type} (x:tm) (k:tF→Option R):Option R:=(X2A x.1 x.2.1 x.2.2.1 x.2.2.2.1 (x.2.2.2.2.1,x.2.2.2.2.2.1,x.2.2.2.2.2.2.1,x.2.2.2.2.2.2.2.1,x.2.2.2.2.2.2.2.2.1,x.2.2.2.2.2.2.2.2.2)).bind (fun y0=>k (y0.1,y0.2.1,y0.2.2.1,y0.2.2.2.1,y0.2.2.2.2))
def qhp (x:tm) (v:(Int×(Nat→Int)×ZJ×(List Zm)×(Nat→Nat)×t1k)):tm:=(x.1,x.2.1,x.2.2.1,x.2.2.2.1,v.1,v.2.1,v.2.2.1,v.2.2.2.1,v.2.2.2.2.1,v.2.2.2.2.2)
theorem qhq (x:tm):LE.step X qhm qh3 qga qhh 12 x=X1i x.1 x.2.1 x.2.2.1 x.2.2.2.1 x.2.2.2.2.1 x.2.2.2.2.2.1 x.2.2.2.2.2.2.1 x.2.2.2.2.2.2.2.1 x.2.2.2.2.2.2.2.2.1 x.2.2.2.2.2.2.2.2.2 (fun w0 w1 w2 w3 w4 w5=>(Sum.inl (x.1,x.2.1,x.2.2.1,x.2.2.2.1,w0,w1,w2,w3,w4,w5))) (fun p0 p1 p2 p3 p4=>(Sum.inr (p0,p1,p2,p3,p4))):=by kernel_rfl
theorem qhs {R:Type} (x:tm) (k:tF→Option R) (r:R) (h:qho x k=some r):∃ o,Z5s (LE.step X qhm qh3 qga qhh 12) x o∧k o=some r:=by
 obtain ⟨o,h1,h2⟩:=Z0 h
 exact ⟨qhn x o,Zhl (st:=fun (x:tm)=>X1K x.1 x.2.1 x.2.2.1 x.2.2.2.1) (prj:=fun x=>(x.2.2.2.2.1,x.2.2.2.2.2.1,x.2.2.2.2.2.2.1,x.2.2.2.2.2.2.2.1,x.2.2.2.2.2.2.2.2.1,x.2.2.2.2.2.2.2.2.2)) (emb:=qhp) (embO:=qhn) (fun x=>(qhq x).trans (by unfold X1K X1i;simp only [Zhd,Zh8,Zhe,Option.map_some,Option.map_none];rfl)) (fun _ _=>rfl) (fun _ _=>rfl) (fun _ _ _=>rfl) (fun _ _ _=>rfl) (fun _=>rfl) (Z1S.1 h1),by
  first
  | exact h2
  | (rcases o with o<;>exact h2)⟩
noncomputable def qht {R:Type}:Z27 S R:=LE.ls X qhm qho qhh
theorem qhu {R:Type}:Z3J X (qht (R:=R)):=Zhq xok qh4 (e:=qhm) qgb qhi qhs qhi
theorem qhv (x:(Int×(List Zu)×Int×ZJ×(List Zm)×(Nat→Nat)×t1k)):PE.step X qh2 qh3 qga qht 12 x=X1g x.1 x.2.1 x.2.2.1 x.2.2.2.1 x.2.2.2.2.1 x.2.2.2.2.2.1 x.2.2.2.2.2.2:=by kernel_rfl
theorem qhw:ZaX X qh2 X32:=Zhr (ZgU xok qh4 qgb qhu 12) fun x _ h=>((qhv x).trans (X5d x).symm).trans h
noncomputable def qhx {R:Type}:Prs S R:=PE.ps X qh2 (fun x q=>(X32 x).bind q) qga
theorem qhy {R:Type}:Z7R X (qhx (R:=R)):=Zhi (e:=qh2) qhw qgb
noncomputable def qhz:F7 S:=⟨[],[.bool],fun _=>X6j⟩
theorem qhA:Z7Q X 20 qhz:=ZeO (X:=X) (F:=X6j) rfl Zdy
noncomputable def qhB:List (Nat×F7 S):=[]
theorem qhC:Z9n X (qhB):=trivial
abbrev qhD {R:Type}:Z27 S R:=Zgi
theorem qhE {R:Type}:Z3J X (qhD (R:=R)):=ZgQ X
def qhF:Key:=⟨[27],27,none,[0,0,1,0,1,1],0,7⟩
def qhG:StT S:=⟨(N (N (N (N L (some (.rs 7 0)) L) (some (.ptr 0 0)) L) none L) none (N (N (N L vQ L) none L) vM L)),(N o1B od L),8⟩
def qhH:Way S:=⟨(.exit 0),⟨(N (N (N (N L (some (.rs 7 0)) L) none L) none L) none L),(N o1B od L),12⟩,[(.lst (.int .i64)),(.st 20)]⟩
def qhI:LE S:=⟨qhF,qhG,[.int,(.lst (.int .i64)),(.lst (.int .i64)),(.st 20)],[qhH]⟩
def qhJ (x:t10):(List Int)→((List Int)×ZJ):=fun y0=>(y0,x.2.2.2)
noncomputable def qhK {R:Type} (x:t10) (k:((List Int)×ZJ)→Option R):Option R:=(X2x x.2.1 x.2.2.2 (x.1,x.2.2.1)).bind (fun y0=>k (y0,x.2.2.2))
def qhL (x:t10) (v:(Int×(List Int))):t10:=(v.1,x.2.1,v.2,x.2.2.2)
theorem qhM (x:t10):LE.step X qhI qhB qhx qhD 12 x=Wk x.2.1 x.2.2.2 x.1 x.2.2.1 (fun w0 w1=>(Sum.inl (w0,x.2.1,w1,x.2.2.2))) (fun p0=>(Sum.inr (p0,x.2.2.2))):=by kernel_rfl
theorem qhO {R:Type} (x:t10) (k:((List Int)×ZJ)→Option R) (r:R) (h:qhK x k=some r):∃ o,Z5s (LE.step X qhI qhB qhx qhD 12) x o∧k o=some r:=by
 obtain ⟨o,h1,h2⟩:=Z0 h
 exact ⟨qhJ x o,Zhl (st:=fun (x:t10)=>Wa x.2.1 x.2.2.2) (prj:=fun x=>(x.1,x.2.2.1)) (emb:=qhL) (embO:=qhJ) (fun x=>(qhM x).trans (by unfold Wa Wk;simp only [Zhd,Zh8,Zhe,Option.map_some,Option.map_none];rfl)) (fun _ _=>rfl) (fun _ _=>rfl) (fun _ _ _=>rfl) (fun _ _ _=>rfl) (fun _=>rfl) (Z1S.1 h1),by
  first
  | exact h2
  | (rcases o with o<;>exact h2)⟩
noncomputable def qhP {R:Type}:Z27 S R:=LE.ls X qhI qhK qhD
theorem qhQ {R:Type}:Z3J X (qhP (R:=R)):=Zhq xok qhC (e:=qhI) qhy qhE qhO qhE
theorem qhR (x0:ZJ) (x1:List Int) (x2:List Int):Zhs X qhB [(.st 20),(.sl (.int .i64)),(.sl (.int .i64))] [(.sl (.int .i64))] qhx qhP 12 27 (x0,x1,x2,())=X1P x0 x1 x2:=by kernel_rfl
noncomputable def qhS:F7 S:=⟨[(.st 20),(.sl (.int .i64)),(.sl (.int .i64))],[(.sl (.int .i64))],fun xs=>X3T xs.1 xs.2.1 xs.2.2.1⟩
theorem qhT:Z7Q X 27 qhS:=Zho (Zhn xok qhC qhy qhQ 12 27) fun xs _ h=>((qhR xs.1 xs.2.1 xs.2.2.1).trans (X52 xs.1 xs.2.1 xs.2.2.1).symm).trans h
noncomputable def qhU:List (Nat×F7 S):=[]
theorem qhV:Z9n X (qhU):=trivial
abbrev qhW {R:Type}:Z27 S R:=Zgi
theorem qhX {R:Type}:Z3J X (qhW (R:=R)):=ZgQ X
def qhY:Key:=⟨[26],26,none,[0,0,1,0,1,0,0,1,0,0,1,0,1,1],2,11⟩
def qhZ:StT S:=⟨(N v1f none (N (N (N L vQ L) none L) vM (N (N L vQ L) none L))),(N (N (N L none (N L oD L)) none L) od L),12⟩
def qi0:Way S:=⟨(.exit 2),⟨(N v1f none (N (N (N L vQ L) none L) vM L)),(N (N (N L none (N L oD L)) none L) od L),16⟩,[(.lst (.st 21)),.bool,.int,(.lst (.int .i64)),(.lst (.st 21)),(.st 20)]⟩
def qi1:LE S:=⟨qhY,qhZ,[(.lst (.st 21)),.bool,.int,(.lst (.int .i64)),.int,(.lst (.st 21)),(.st 20)],[qi0]⟩
def qi2 (x:tJ):Bool→tL:=fun y0=>(x.1,y0,x.2.2.1,x.2.2.2.1,x.2.2.2.2.2.1,x.2.2.2.2.2.2)
noncomputable def qi3 {R:Type} (x:tJ) (k:tL→Option R):Option R:=(X3h x.1 x.2.2.1 x.2.2.2.1 x.2.2.2.2.2.2 (x.2.1,x.2.2.2.2.1)).bind (fun y0=>k (x.1,y0,x.2.2.1,x.2.2.2.1,x.2.2.2.2.2.1,x.2.2.2.2.2.2))
def qi4 (x:tJ) (v:(Bool×Int)):tJ:=(x.1,v.1,x.2.2.1,x.2.2.2.1,v.2,x.2.2.2.2.2.1,x.2.2.2.2.2.2)
theorem qi5 (x:tJ):LE.step X qi1 qhU qhx qhW 12 x=X1a x.1 x.2.2.1 x.2.2.2.1 x.2.2.2.2.2.2 x.2.1 x.2.2.2.2.1 (fun w0 w1=>(Sum.inl (x.1,w0,x.2.2.1,x.2.2.2.1,w1,x.2.2.2.2.2.1,x.2.2.2.2.2.2))) (fun p0=>(Sum.inr (x.1,p0,x.2.2.1,x.2.2.2.1,x.2.2.2.2.2.1,x.2.2.2.2.2.2))):=by kernel_rfl
theorem qi7 {R:Type} (x:tJ) (k:tL→Option R) (r:R) (h:qi3 x k=some r):∃ o,Z5s (LE.step X qi1 qhU qhx qhW 12) x o∧k o=some r:=by
 obtain ⟨o,h1,h2⟩:=Z0 h
 exact ⟨qi2 x o,Zhl (st:=fun (x:tJ)=>WZ x.1 x.2.2.1 x.2.2.2.1 x.2.2.2.2.2.2) (prj:=fun x=>(x.2.1,x.2.2.2.2.1)) (emb:=qi4) (embO:=qi2) (fun x=>(qi5 x).trans (by unfold WZ X1a;simp only [Zhd,Zh8,Zhe,Option.map_some,Option.map_none];rfl)) (fun _ _=>rfl) (fun _ _=>rfl) (fun _ _ _=>rfl) (fun _ _ _=>rfl) (fun _=>rfl) (Z1S.1 h1),by
  first
  | exact h2
  | (rcases o with o<;>exact h2)⟩
noncomputable def qi8 {R:Type}:Z27 S R:=LE.ls X qi1 qi3 qhW
theorem qi9 {R:Type}:Z3J X (qi8 (R:=R)):=Zhq xok qhV (e:=qi1) qhy qhX qi7 qhX
def qia:Key:=⟨[26],26,none,[0,0,1,0,1,1],0,4⟩
def qib:StT S:=⟨(N (N (N (N L (some (.rs 4 0)) L) (some (.ptr 0 0)) L) vN L) none (N (N (N L vQ L) none L) vM L)),(N L od (N (N L oD L) none L)),5⟩
def qic:Way S:=⟨(.exit 0),⟨(N (N (N (N L (some (.rs 4 0)) L) none L) none L) none L),(N L od (N (N L oD L) none L)),9⟩,[(.st 20),(.lst (.st 21))]⟩
def qid:LE S:=⟨qia,qib,[(.lst (.st 21)),.int,(.lst (.int .i64)),(.st 20),(.lst (.st 21))],[qic]⟩
def qie (x:tR):(List Zm)→(ZJ×(List Zm)):=fun y0=>(x.2.2.2.1,y0)
noncomputable def qif {R:Type} (x:tR) (k:(ZJ×(List Zm))→Option R):Option R:=(X3g x.1 x.2.2.1 x.2.2.2.1 (x.2.1,x.2.2.2.2)).bind (fun y0=>k (x.2.2.2.1,y0))
def qig (x:tR) (v:(Int×(List Zm))):tR:=(x.1,v.1,x.2.2.1,x.2.2.2.1,v.2)
theorem qih (x:tR):LE.step X qid qhU qhx qi8 12 x=X19 x.1 x.2.2.1 x.2.2.2.1 x.2.1 x.2.2.2.2 (fun w0 w1=>(Sum.inl (x.1,w0,x.2.2.1,x.2.2.2.1,w1))) (fun p0=>(Sum.inr (x.2.2.2.1,p0))):=by kernel_rfl
theorem qij {R:Type} (x:tR) (k:(ZJ×(List Zm))→Option R) (r:R) (h:qif x k=some r):∃ o,Z5s (LE.step X qid qhU qhx qi8 12) x o∧k o=some r:=by
 obtain ⟨o,h1,h2⟩:=Z0 h
 exact ⟨qie x o,Zhl (st:=fun (x:tR)=>WY x.1 x.2.2.1 x.2.2.2.1) (prj:=fun x=>(x.2.1,x.2.2.2.2)) (emb:=qig) (embO:=qie) (fun x=>(qih x).trans (by unfold WY X19;simp only [Zhd,Zh8,Zhe,Option.map_some,Option.map_none];rfl)) (fun _ _=>rfl) (fun _ _=>rfl) (fun _ _ _=>rfl) (fun _ _ _=>rfl) (fun _=>rfl) (Z1S.1 h1),by
  first
  | exact h2
  | (rcases o with o<;>exact h2)⟩
noncomputable def qik {R:Type}:Z27 S R:=LE.ls X qid qif qi8
theorem qil {R:Type}:Z3J X (qik (R:=R)):=Zhq xok qhV (e:=qid) qhy qi9 qij qi9
theorem qim (x0:ZJ) (x1:List Zm) (x2:List Int):Zhs X qhU [(.st 20),(.sl (.st 21)),(.sl (.int .i64))] [(.sl (.st 21))] qhx qik 12 26 (x0,x1,x2,())=X2j x0 x1 x2:=by kernel_rfl
noncomputable def qin:F7 S:=⟨[(.st 20),(.sl (.st 21)),(.sl (.int .i64))],[(.sl (.st 21))],fun xs=>X3w xs.1 xs.2.1 xs.2.2.1⟩
theorem qio:Z7Q X 26 qin:=Zho (Zhn xok qhV qhy qil 12 26) fun xs _ h=>((qim xs.1 xs.2.1 xs.2.2.1).trans (X5H xs.1 xs.2.1 xs.2.2.1).symm).trans h
noncomputable def qip:List (Nat×F7 S):=[]
theorem qiq:Z9n X (qip):=trivial
abbrev qir {R:Type}:Z27 S R:=Zgi
theorem qis {R:Type}:Z3J X (qir (R:=R)):=ZgQ X
def qit:Key:=⟨[28],28,none,[0,0,1,0,1,1],0,5⟩
def qiu:StT S:=⟨(N v1k none (N L (some (.ptr 0 0)) (N L vQ L))),(N (N L o9 (N L ov L)) od L),6⟩
def qiv:Way S:=⟨(.exit 0),⟨(N v1k none (N L (some (.ptr 0 0)) L)),(N (N L o9 (N L ov L)) od L),12⟩,[(.arr (.int .u8)),(.lst (.int .i64)),(.st 20)]⟩
def qiw:LE S:=⟨qit,qiu,[.int,(.arr (.int .u8)),(.lst (.int .i64)),(.st 20)],[qiv]⟩
def qix (x:tZ):(List Int)→t19:=fun y0=>(x.2.1,y0,x.2.2.2)
noncomputable def qiy {R:Type} (x:tZ) (k:t19→Option R):Option R:=(X3i x.2.1 x.2.2.2 (x.1,x.2.2.1)).bind (fun y0=>k (x.2.1,y0,x.2.2.2))
def qiz (x:tZ) (v:(Int×(List Int))):tZ:=(v.1,x.2.1,v.2,x.2.2.2)
theorem qiA (x:tZ):LE.step X qiw qip qhx qir 12 x=X1b x.2.1 x.2.2.2 x.1 x.2.2.1 (fun w0 w1=>(Sum.inl (w0,x.2.1,w1,x.2.2.2))) (fun p0=>(Sum.inr (x.2.1,p0,x.2.2.2))):=by kernel_rfl
theorem qiC {R:Type} (x:tZ) (k:t19→Option R) (r:R) (h:qiy x k=some r):∃ o,Z5s (LE.step X qiw qip qhx qir 12) x o∧k o=some r:=by
 obtain ⟨o,h1,h2⟩:=Z0 h
 exact ⟨qix x o,Zhl (st:=fun (x:tZ)=>X10 x.2.1 x.2.2.2) (prj:=fun x=>(x.1,x.2.2.1)) (emb:=qiz) (embO:=qix) (fun x=>(qiA x).trans (by unfold X10 X1b;simp only [Zhd,Zh8,Zhe,Option.map_some,Option.map_none];rfl)) (fun _ _=>rfl) (fun _ _=>rfl) (fun _ _ _=>rfl) (fun _ _ _=>rfl) (fun _=>rfl) (Z1S.1 h1),by
  first
  | exact h2
  | (rcases o with o<;>exact h2)⟩
noncomputable def qiD {R:Type}:Z27 S R:=LE.ls X qiw qiy qir
theorem qiE {R:Type}:Z3J X (qiD (R:=R)):=Zhq xok qiq (e:=qiw) qhy qis qiC qis
def qiF:Key:=⟨[28],28,none,[0,0,1,0,1,1,1],2,13⟩
def qiG:StT S:=⟨(N (N v1v none (N L (some (.rs 13 0)) L)) none (N L (some (.ptr 0 0)) L)),(N (N L o9 (N L none (N L ov L))) od L),14⟩
def qiH:Way S:=⟨(.exit 2),⟨(N (N L none (N L (some (.rs 13 0)) L)) none L),(N (N L o9 (N L none (N L ov L))) od L),19⟩,[(.arr (.int .u8)),(.lst (.int .i64)),(.st 20)]⟩
def qiI:LE S:=⟨qiF,qiG,[.int,(.arr (.int .u8)),(.lst (.int .i64)),(.st 20)],[qiH]⟩
def qiJ (x:tZ):(List Int)→t19:=fun y0=>(x.2.1,y0,x.2.2.2)
noncomputable def qiK {R:Type} (x:tZ) (k:t19→Option R):Option R:=(X3j x.2.1 x.2.2.2 (x.1,x.2.2.1)).bind (fun y0=>k (x.2.1,y0,x.2.2.2))
def qiL (x:tZ) (v:(Int×(List Int))):tZ:=(v.1,x.2.1,v.2,x.2.2.2)
theorem qiM (x:tZ):LE.step X qiI qip qhx qiD 12 x=X1c x.2.1 x.2.2.2 x.1 x.2.2.1 (fun w0 w1=>(Sum.inl (w0,x.2.1,w1,x.2.2.2))) (fun p0=>(Sum.inr (x.2.1,p0,x.2.2.2))):=by kernel_rfl
theorem qiO {R:Type} (x:tZ) (k:t19→Option R) (r:R) (h:qiK x k=some r):∃ o,Z5s (LE.step X qiI qip qhx qiD 12) x o∧k o=some r:=by
 obtain ⟨o,h1,h2⟩:=Z0 h
 exact ⟨qiJ x o,Zhl (st:=fun (x:tZ)=>X11 x.2.1 x.2.2.2) (prj:=fun x=>(x.1,x.2.2.1)) (emb:=qiL) (embO:=qiJ) (fun x=>(qiM x).trans (by unfold X11 X1c;simp only [Zhd,Zh8,Zhe,Option.map_some,Option.map_none];rfl)) (fun _ _=>rfl) (fun _ _=>rfl) (fun _ _ _=>rfl) (fun _ _ _=>rfl) (fun _=>rfl) (Z1S.1 h1),by
  first
  | exact h2
  | (rcases o with o<;>exact h2)⟩
noncomputable def qiP {R:Type}:Z27 S R:=LE.ls X qiI qiK qiD
theorem qiQ {R:Type}:Z3J X (qiP (R:=R)):=Zhq xok qiq (e:=qiI) qhy qiE qiO qiE
theorem qiR (x0:ZJ) (x1:Nat→Int):Zhs X qip [(.st 20),(.arr 2 (.int .u8))] [(.sl (.int .i64))] qhx qiP 12 28 (x0,x1,())=X2k x0 x1:=by kernel_rfl
noncomputable def qiS:F7 S:=⟨[(.st 20),(.arr 2 (.int .u8))],[(.sl (.int .i64))],fun xs=>X4Q xs.1 xs.2.1⟩
theorem qiT:Z7Q X 28 qiS:=Zho (Zhn xok qiq qhy qiQ 12 28) fun xs _ h=>((qiR xs.1 xs.2.1).trans (X5J xs.1 xs.2.1).symm).trans h
noncomputable def qiU:List (Nat×F7 S):=[(25,qgF),(22,q5h),(20,qhz),(27,qhS),(26,qin),(11,qeu),(28,qiS)]
theorem qiV:Z9n X (qiU):=⟨qgG,q5i,qhA,qhT,qio,qev,qiT,trivial⟩
abbrev qiW {R:Type}:Z27 S R:=Zgi
theorem qiX {R:Type}:Z3J X (qiW (R:=R)):=ZgQ X
def qiY:Key:=⟨[5],5,none,[0,0,1,0,1,1,1],0,18⟩
def qiZ:StT S:=⟨(N (N (N (N L vM L) (some (.ptr 0 0)) L) vN v1v) none (N (N (N L vM L) none L) none (N (N L vQ L) none L))),(N (N L o9 L) od L),18⟩
def qj0:Way S:=⟨.ret,⟨(N L none (N L none (N L vR L))),(N (N L o9 L) od L),55⟩,[.bool,(.arr (.int .u8)),(.st 20)]⟩
def qj1:Way S:=⟨(.exit 0),⟨v12,(N (N L o9 L) od L),22⟩,[(.lst (.int .i64)),(.lst (.st 21)),.int,(.lst (.int .i64)),(.arr (.int .u8)),(.st 20)]⟩
def qj2:LE S:=⟨qiY,qiZ,[(.lst (.int .i64)),(.lst (.st 21)),.int,(.lst (.int .i64)),.int,(.arr (.int .u8)),(.st 20)],[qj0,qj1]⟩
def qj3 (x:tG):(Bool⊕Unit)→tp:=Sum.elim (fun y0=>(.inl (y0,x.2.2.2.2.2.1,x.2.2.2.2.2.2))) (fun y1=>(.inr (x.1,x.2.1,x.2.2.1,x.2.2.2.1,x.2.2.2.2.2.1,x.2.2.2.2.2.2)))
noncomputable def qj4 {R:Type} (x:tG) (k:tp→Option R):Option R:=(X20 x.1 x.2.2.2.2.2.2 x.2.2.2.2.1).bind (Sum.elim (fun y0=>k (.inl (y0,x.2.2.2.2.2.1,x.2.2.2.2.2.2))) (fun y1=>k (.inr (x.1,x.2.1,x.2.2.1,x.2.2.2.1,x.2.2.2.2.2.1,x.2.2.2.2.2.2))))
def qj5 (x:tG) (v:Int):tG:=(x.1,x.2.1,x.2.2.1,x.2.2.2.1,v,x.2.2.2.2.2.1,x.2.2.2.2.2.2)
theorem qj6 (x:tG):LE.step X qj2 qiU qhx qiW 12 x=XM x.1 x.2.2.2.2.2.2 x.2.2.2.2.1 (fun w0=>(Sum.inl (x.1,x.2.1,x.2.2.1,x.2.2.2.1,w0,x.2.2.2.2.2.1,x.2.2.2.2.2.2))) (fun p0=>(Sum.inr (.inl (p0,x.2.2.2.2.2.1,x.2.2.2.2.2.2)))) (Sum.inr (.inr (x.1,x.2.1,x.2.2.1,x.2.2.2.1,x.2.2.2.2.2.1,x.2.2.2.2.2.2))):=by kernel_rfl
theorem qj8 {R:Type} (x:tG) (k:tp→Option R) (r:R) (h:qj4 x k=some r):∃ o,Z5s (LE.step X qj2 qiU qhx qiW 12) x o∧k o=some r:=by
 obtain ⟨o,h1,h2⟩:=Z0 h
 exact ⟨qj3 x o,Zhl (st:=fun (x:tG)=>Xt x.1 x.2.2.2.2.2.2) (prj:=fun x=>x.2.2.2.2.1) (emb:=qj5) (embO:=qj3) (fun x=>(qj6 x).trans (by unfold Xt XM;simp only [Zhd,Zh8,Zhe,Option.map_some,Option.map_none];rfl)) (fun _ _=>rfl) (fun _ _=>rfl) (fun _ _ _=>rfl) (fun _ _ _=>rfl) (fun _=>rfl) (Z1S.1 h1),by
  first
  | exact h2
  | (rcases o with o|o<;>exact h2)⟩
noncomputable def qj9 {R:Type}:Z27 S R:=LE.ls X qj2 qj4 qiW
theorem qja {R:Type}:Z3J X (qj9 (R:=R)):=Zhq xok qiV (e:=qj2) qhy qiX qj8 qiX
def qjb:Key:=⟨[5],5,none,[0,0,1,0,1,1,1,1],2,23⟩
def qjc:StT S:=⟨(N (N (N (N L vM L) (some (.ptr 0 0)) (N L vQ L)) vN v1v) none (N (N (N L vM L) none L) none L)),(N (N L o9 L) od L),23⟩
def qjd:Way S:=⟨.ret,⟨(N L none (N L none (N L vR L))),(N (N L o9 L) od L),59⟩,[.bool,(.arr (.int .u8)),(.st 20)]⟩
def qje:Way S:=⟨(.exit 2),⟨v12,(N (N L o9 L) od L),27⟩,[(.lst (.int .i64)),(.lst (.st 21)),.int,(.lst (.int .i64)),(.arr (.int .u8)),(.st 20)]⟩
def qjf:LE S:=⟨qjb,qjc,[(.lst (.int .i64)),.int,(.lst (.st 21)),.int,(.lst (.int .i64)),(.arr (.int .u8)),(.st 20)],[qjd,qje]⟩
def qjg (x:tH):(Bool⊕Unit)→tp:=Sum.elim (fun y0=>(.inl (y0,x.2.2.2.2.2.1,x.2.2.2.2.2.2))) (fun y1=>(.inr (x.1,x.2.2.1,x.2.2.2.1,x.2.2.2.2.1,x.2.2.2.2.2.1,x.2.2.2.2.2.2)))
noncomputable def qjh {R:Type} (x:tH) (k:tp→Option R):Option R:=(X21 x.2.2.2.2.1 x.2.2.2.2.2.2 x.2.1).bind (Sum.elim (fun y0=>k (.inl (y0,x.2.2.2.2.2.1,x.2.2.2.2.2.2))) (fun y1=>k (.inr (x.1,x.2.2.1,x.2.2.2.1,x.2.2.2.2.1,x.2.2.2.2.2.1,x.2.2.2.2.2.2))))
def qji (x:tH) (v:Int):tH:=(x.1,v,x.2.2.1,x.2.2.2.1,x.2.2.2.2.1,x.2.2.2.2.2.1,x.2.2.2.2.2.2)
theorem qjj (x:tH):LE.step X qjf qiU qhx qj9 12 x=XN x.2.2.2.2.1 x.2.2.2.2.2.2 x.2.1 (fun w0=>(Sum.inl (x.1,w0,x.2.2.1,x.2.2.2.1,x.2.2.2.2.1,x.2.2.2.2.2.1,x.2.2.2.2.2.2))) (fun p0=>(Sum.inr (.inl (p0,x.2.2.2.2.2.1,x.2.2.2.2.2.2)))) (Sum.inr (.inr (x.1,x.2.2.1,x.2.2.2.1,x.2.2.2.2.1,x.2.2.2.2.2.1,x.2.2.2.2.2.2))):=by kernel_rfl
theorem qjl {R:Type} (x:tH) (k:tp→Option R) (r:R) (h:qjh x k=some r):∃ o,Z5s (LE.step X qjf qiU qhx qj9 12) x o∧k o=some r:=by
 obtain ⟨o,h1,h2⟩:=Z0 h
 exact ⟨qjg x o,Zhl (st:=fun (x:tH)=>Xu x.2.2.2.2.1 x.2.2.2.2.2.2) (prj:=fun x=>x.2.1) (emb:=qji) (embO:=qjg) (fun x=>(qjj x).trans (by unfold Xu XN;simp only [Zhd,Zh8,Zhe,Option.map_some,Option.map_none];rfl)) (fun _ _=>rfl) (fun _ _=>rfl) (fun _ _ _=>rfl) (fun _ _ _=>rfl) (fun _=>rfl) (Z1S.1 h1),by
  first
  | exact h2
  | (rcases o with o|o<;>exact h2)⟩
noncomputable def qjm {R:Type}:Z27 S R:=LE.ls X qjf qjh qj9
theorem qjn {R:Type}:Z3J X (qjm (R:=R)):=Zhq xok qiV (e:=qjf) qhy qja qjl qja
theorem qjo (x0:ZJ) (x1:List Zm) (x2:Nat→Int):Zhs X qiU [(.st 20),(.sl (.st 21)),(.arr 2 (.int .u8))] [.bool] qhx qjm 12 5 (x0,x1,x2,())=WL x0 x1 x2:=by kernel_rfl
noncomputable def qjp:F7 S:=⟨[(.st 20),(.sl (.st 21)),(.arr 2 (.int .u8))],[.bool],fun xs=>X2E xs.1 xs.2.1 xs.2.2.1⟩
theorem X5j:Z7Q X 5 qjp:=Zho (Zhn xok qiV qhy qjn 12 5) fun xs _ h=>((qjo xs.1 xs.2.1 xs.2.2.1).trans (X45 xs.1 xs.2.1 xs.2.2.1).symm).trans h
end Nore
