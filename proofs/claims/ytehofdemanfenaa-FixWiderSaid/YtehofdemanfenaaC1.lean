/- The code comes to the plain functions. -/
import Derived.Test.YtehofdemanfenaaY
import Derived.Test.YtehofdemanfenaaD
import Derived.Test.YtehofdemanfenaaK6
set_option linter.unusedSectionVars false
set_option linter.unusedVariables false
set_option linter.unusedSimpArgs false
set_option maxRecDepth 100000
open Go Go.Ab Go.Proofs Go.Proofs.Ytehofdemanfenaa
open Go.Ab.Tr renaming node→N,leaf→L
namespace Nore
abbrev t1e:Type:=List (Zh×Int)
abbrev t1d:Type:=Int×(List Int)×Int
abbrev t1c:Type:=List (ByteArray×Int)
abbrev t1b:Type:=Int×Int×Int×Zw
abbrev t1a:Type:=Int×(List Zt)×Int
abbrev t19:Type:=Int×(List Zu)×Zu
abbrev t18:Type:=(Int×Int×Zt)⊕Unit
abbrev t17:Type:=(List Zm)×Int×ZJ
abbrev t16:Type:=Int×(List Zu)×Int×Int
abbrev t15:Type:=Int×(List ByteArray)×ZJ
abbrev t14:Type:=Int×Int×(List Zu)×Int
abbrev t13:Type:=(Int×Int×Int)⊕(Int×Int)
abbrev t12:Type:=Int×(List ByteArray)×Zl
abbrev t11:Type:=Int×Zl×(List ByteArray)
abbrev t10:Type:=Int×(List Zt)×Int×Zu
abbrev tZ:Type:=(Nat→Zu)×Int×Int×Zu
abbrev tY:Type:=Int×ByteArray×ByteArray×Nat
abbrev tX:Type:=Int×(List Int)×Int×Int×Int
abbrev tW:Type:=ByteArray×Int×(List ByteArray)
abbrev tV:Type:=Int×Int×(List ZE)×Int×Int
abbrev tU:Type:=Int×(List Z5)×Int×ZJ
abbrev tT:Type:=Int×Int×Int×(List Zk)×(List Int)
abbrev tS:Type:=Int×(List Z5)×Int×Z5
abbrev tR:Type:=(Int×Z5×Z5)⊕Z5
abbrev tQ:Type:=Int×Int×Int×t1c×CtSand
abbrev tP:Type:=(Int×(List Int)×Zu×(List Int)×Zt)⊕Zu
abbrev tO:Type:=(Int×Int×Z5×Z5×ZJ)⊕ZJ
abbrev tN:Type:=ZJ×(List Zm)×(Nat→Nat)×t1e
abbrev tM:Type:=Int×(List CtSand)×Int×Zl×t1c
abbrev tL:Type:=Int×Int×(List Zw)×Zl×t1c
abbrev tK:Type:=(Bool×ByteArray×Nat)⊕tY
abbrev tJ:Type:=Int×Int×Int×(List ByteArray)×Zw×(List ByteArray)
abbrev tI:Type:=Int×ZJ×(List Zm)×(Nat→Nat)×t1e
abbrev tH:Type:=(Int×Int×Int×(List ByteArray)×ZJ)⊕((List ByteArray)×ZJ)
abbrev tG:Type:=(Nat→Int)×ZJ×(List Zm)×(Nat→Nat)×t1e
abbrev tF:Type:=(List Zu)×ZJ×(List Zm)×(Nat→Nat)×t1e
abbrev tE:Type:=(Int×Bool×ZJ×(List Zm)×(Nat→Nat)×Int×t1e)
abbrev tD:Type:=Int×(List Zu)×ZJ×(List Zm)×(Nat→Nat)×t1e
abbrev tC:Type:=Int×ZJ×(List Zm)×(Nat→Nat)×t1e×(List Zu)
abbrev tB:Type:=(List Zm)×(List Int)×Zl×Int×Int×Int×ZJ×(List Z5)
abbrev tA:Type:=Int×Int×Int×ZJ×(List Zm)×(Nat→Nat)×Int×t1e
abbrev tz:Type:=(List Zm)×ZJ×ZJ×(List Zm)×(Nat→Nat)×t1e
abbrev ty:Type:=(List Zm)×Zl×Int×Int×Int×(List Z5)×ZJ×(List Zt)
abbrev tx:Type:=tA
abbrev tw:Type:=Int×Z8×Bool×Int×Bool×Z8×Bool×Int×Z8×Z6
abbrev tv:Type:=Int×Int×ZJ×(List Zm)×(Nat→Nat)×t1e×(List Zu)
abbrev tu:Type:=(List Zm)×Int×(List Int)×Zl×Int×Int×Int×ZJ×(List Z5)
abbrev tt:Type:=Int×(List Zm)×Int×ZJ×(List Zm)×(Nat→Nat)×t1e
abbrev ts:Type:=Int×Int×ZJ×(List Zm)×(Nat→Nat)×t1e×Bool×Int×Int
abbrev tr:Type:=Int×Int×Int×(List Zm)×ZJ×(List Zm)×(Nat→Nat)×t1e
abbrev tq:Type:=Int×Int×(Nat→ZE)×ZJ×(List Zm)×(Nat→Nat)×t1e×Zu
abbrev tp:Type:=Int×Int×Int×ZJ×(List Zm)×(Nat→Nat)×t1e×Bool×Int×Int
abbrev to:Type:=(List Zu)×Int×(List Zu)×Zl×Int×Int×Int×(List Z5)×ZJ×(List Zt)
abbrev tn:Type:=Int×(List Zm)×(List Int)×Zl×Int×Int×Int×(List Z5)×ZJ×(List Zt)
abbrev tm:Type:=Int×Int×(List Zu)×Int×Int×(Nat→Int)×ZJ×(List Zm)×(Nat→Nat)×t1e
abbrev tl:Type:=Int×Int×(List Zu)×Int×Z8×Bool×Int×Bool×Z8×Bool×Int×Z8×Z6
abbrev tk:Type:=Int×Int×(List Zu)×Z8×Bool×Int×Bool×Z8×Bool×Int×Z8×(List Int)×Zu
abbrev tj:Type:=(List Z5)×(List Zm)×Int×Int×ZJ×ZJ×(List Zm)×(Nat→Nat)×t1e
abbrev ti:Type:=Int×Int×(List Zm)×Int×Int×(Nat→ZE)×ZJ×(List Zm)×(Nat→Nat)×t1e×Zu
abbrev th:Type:=Int×Int×Int×Zl×(List Int)×Bool×Int×Bool×Zl×Int×Bool×(List Int)×Int×(List Zk)×Zw
abbrev tg:Type:=Int×Int×Int×Int×(List Z5)×(Nat→ZE)×ZJ×(List Zm)×(Nat→Nat)×t1e×Zu
abbrev tf:Type:=Int×Int×(List Zu)×Int×Int×(Nat→Int)×ZJ×(List Zm)×(Nat→Nat)×t1e×(Nat→ZE)×Zu
abbrev te:Type:=(Bool×Zl×Int×Int×Int×(List Z5)×ZJ×(List Zt))⊕(Zl×Int×Int×Int×(List Z5)×ZJ×(List Zt))
abbrev td:Type:=Int×Int×Int×(List Zu)×Int×Int×Int×Int×(Nat→Int)×ZJ×(List Zm)×(Nat→Nat)×t1e×(Nat→ZE)×Zu
abbrev tc:Type:=(Int×Bool×ZJ×(List Zm)×(Nat→Nat)×Int×t1e)⊕(ZJ×(List Zm)×(Nat→Nat)×Int×t1e)
abbrev tb:Type:=(Int×Int×ZJ×(List Zm)×(Nat→Nat)×Zm×Zm×t1e)⊕tN
abbrev ta:Type:=(Int×Int×Int×(List ByteArray)×(List ByteArray)×Zl)⊕(Int×Int×Int×(List ByteArray)×(List ByteArray)×Zl)⊕((List ByteArray)×Zl)
abbrev t9:Type:=(Int×(List Int)×(List Int)×Zk)⊕(Int×(List Int)×(List Int)×(List Int)×Zk)⊕(Int×(List Int)×(List Int)×(List Int)×Zk)⊕(List Int)
abbrev t8:Type:=(Int×Int×Int×(List ByteArray)×ZJ×(List ByteArray)×Z5)⊕(Int×Int×Int×(List ByteArray)×ZJ×(List ByteArray)×Z5)⊕((List ByteArray)×ZJ)
abbrev t7:Type:=(Int×ZJ×(List Zm)×(Nat→Nat)×(Nat→ZE)×Zu×t1e×Bool×Int×Int)⊕(Int×ZJ×(List Zm)×(Nat→Nat)×t1e×Bool×Int×Int)
abbrev t6:Type:=(Z8×Bool×Int×Bool×Z8×Bool×Int×Z8×Zu×Z6×(List Int)×Zu)⊕(Z8×Bool×Int×Bool×Z8×Bool×Int×Z8×(List Int)×Zu)
abbrev t5:Type:=(Int×ZJ×(List Zm)×(Nat→Nat)×(Nat→ZE)×Zu×t1e×Bool×Int×Int)⊕ts
abbrev t4:Type:=(Int×Int×Int×Zl×t1c×CtSand)⊕(Int×Int×Int×Zl×t1c×CtSand)⊕(Int×Int×Int×Zl×t1c×CtSand)⊕(Zl×t1c)
abbrev t3:Type:=(Zk×Int×Int×Zl×(List Int)×Bool×Int×Bool×Zl×Int×Bool×(List Int)×Int×(List Zk)×Zw)⊕(Int×Int×Zl×(List Int)×Bool×Int×Bool×Zl×Int×Bool×(List Int)×Int×(List Zk)×Zw)
abbrev t2:Type:=(Int×Int×Int×(List ByteArray)×Zw×Zl×(List ByteArray))⊕(Int×Int×Int×(List ByteArray)×Zw×Zl×(List ByteArray))⊕(Int×Int×Int×(List ByteArray)×Zw×Zl×(List ByteArray))⊕(Zl×(List ByteArray))
abbrev t1:Type:=(Bool×(Nat→ZE)×ZJ×(List Zm)×(Nat→Nat)×ZE×t1e×Zu×Zm)⊕(Bool×(Nat→ZE)×ZJ×(List Zm)×(Nat→Nat)×ZE×t1e×Zu×Zm)⊕((Nat→ZE)×ZJ×(List Zm)×(Nat→Nat)×t1e×Zu)
abbrev t0:Type:=(Int×Int×Int×Zw×Zl×t1c)⊕(Int×Int×Int×Zw×Zl×t1c)⊕(Int×Int×Int×Zw×Zl×t1c×(List Zu))⊕(Int×Int×Int×Zw×Zl×t1c×(List Zu))⊕(Zl×t1c)
abbrev vO:Option (TV S):=some (.bool false)
abbrev vN:Option (TV S):=some (.int .i64 0)
abbrev vM:Option (TV S):=some (.sl (.st 2) [])
abbrev vL:Option (TV S):=some (.sl (.st 18) [])
abbrev vK:Option (TV S):=some (.sl (.st 21) [])
abbrev oJ:Option (Zi S):=some (.row 9 .str [] 1 1)
abbrev oI:Option (Zi S):=some (.row 9 .str [] 0 0)
abbrev oH:Option (Zi S):=some (.row 9 .str [] 1 0)
abbrev vG:Option (TV S):=some (.str ByteArray.empty)
abbrev oF:Option (Zi S):=some (.cells 181 [(.map 4)])
abbrev oE:Option (Zi S):=some (.cells 94 [(.ptr 3 0)])
abbrev oD:Option (Zi S):=some (.cells 94 [(.ptr 1 0)])
abbrev oC:Option (Zi S):=some (.row 43 (.st 2) [] 1 0)
abbrev oB:Option (Zi S):=some (.row 84 (.st 19) [] 1 0)
abbrev oA:Option (Zi S):=some (.row 74 (.st 18) [] 1 0)
abbrev oz:Option (Zi S):=some (.cells 94 [(.ptr 20 0)])
abbrev oy:Option (Zi S):=some (.cells 4 [(.bool false)])
abbrev ox:Option (Zi S):=some (.map .str (.int .i64) [])
abbrev ow:Option (Zi S):=some (.cells 3 [(.int .i64 0)])
abbrev ov:Option (Zi S):=some (.siter ByteArray.empty 0)
abbrev ou:Option (Zi S):=some (.cells 23 [(.int .i64 0)])
abbrev ot:Option (Zi S):=some (.row 3 (.int .i64) [] 1 0)
abbrev vs:Option (TV S):=some (.agg [(.stc 2 (T.dflt 2))])
abbrev vr:Option (TV S):=some (.agg [(.stc 8 (T.dflt 8))])
abbrev vq:Option (TV S):=some (.agg [(.stc 21 (T.dflt 21))])
abbrev op:Option (Zi S):=some (.map (.st 23) (.int .i64) [])
abbrev oo:Option (Zi S):=some (.cells 70 [(.sl (.st 3) [])])
abbrev vn:Option (TV S):=some (.agg [(.stc 15 (T.dflt 15))])
abbrev vm:Option (TV S):=some (.fn (.func 101) [] [(.ptr 5 0)])
abbrev ol:Option (Zi S):=some (.cells 99 [(.stc 3 (T.dflt 3))])
abbrev ok:Option (Zi S):=some (.cells 43 [(.stc 2 (T.dflt 2))])
abbrev oj:Option (Zi S):=some (.cells 72 [(.stc 4 (T.dflt 4))])
abbrev oi:Option (Zi S):=some (.cells 29 [(.stc 8 (T.dflt 8))])
abbrev oh:Option (Zi S):=some (.cells 88 [(.stc 7 (T.dflt 7))])
abbrev vg:Option (TV S):=some (.fn (.func 105) [] [(.ptr 36 0)])
abbrev vf:Option (TV S):=some (.fn (.func 113) [] [(.ptr 23 0)])
abbrev oe:Option (Zi S):=some (.cells 36 [(.stc 21 (T.dflt 21))])
abbrev od:Option (Zi S):=some (.cells 84 [(.stc 19 (T.dflt 19))])
abbrev oc:Option (Zi S):=some (.cells 74 [(.stc 18 (T.dflt 18))])
abbrev ob:Option (Zi S):=some (.cells 33 [(.stc 20 (T.dflt 20))])
abbrev oa:Option (Zi S):=some (.cells 194 [(.stc 17 (T.dflt 17))])
abbrev o9:Option (Zi S):=some (.cells 184 [(.stc 15 (T.dflt 15))])
abbrev o8:Option (Zi S):=some (.cells 102 [(.arr (.st 5) 4 (fun _=>tdf T (.st 5)))])
abbrev o7:Option (Zi S):=some (.cells 141 [(.arr (.int .i64) 32 (fun _=>tdf T (.int .i64)))])
abbrev o6:Option (Zi S):=some (.cells 108 [(.fn (.func 47) [] [(.ptr 4 0),(.ptr 1 0),(.ptr 0 0)])])
abbrev o5:Option (Zi S):=some (.cells 33 [(.stc 8 (T.dflt 8)),(.int .i64 0),(.rs 51 0),(.rs 52 0),(.int .i64 0),(.int .i64 0)])
abbrev o4:Option (Zi S):=some (.cells 119 [(.stc 20 (T.dflt 20)),(.sl (.st 21) []),(.earr [112,135] 3 4 (fun _=>0)),(.map 2)])
abbrev o3:Option (Zi S):=some (.cells 119 [(.stc 20 (T.dflt 20)),(.sl (.st 21) []),(.earr [112,135] 1 4 (fun _=>0)),(.map 0)])
abbrev o2:Option (Zi S):=some (.cells 119 [(.stc 20 (T.dflt 20)),(.sl (.st 21) []),(.earr [112,135] 20 4 (fun _=>0)),(.map 18)])
abbrev o1:Option (Zi S):=some (.loop 40 (N (N (N (N L (some (.fn (.func 80) [] [(.ptr 6 0)])) L) none L) (some (.ptr 2 0)) L) (some (.ptr 1 0)) (N L (some (.ptr 3 0)) L)) (8::[]) .skip .skip 0 .normal (0::(40::[])) (0::(1::(0::(1::[])))))
abbrev o0:Option (Zi S):=some (.loop 48 (N (N (N L (some (.ptr 3 0)) (N (N L (some (.fn (.func 80) [] [(.ptr 18 0)])) L) none L)) vN (N L (some (.ptr 14 0)) L)) (some (.ptr 1 0)) (N (N L (some (.ptr 4 0)) L) (some (.ptr 2 0)) L)) (20::[]) .skip .skip 0 .normal (0::(48::[])) (0::(1::(0::(1::(1::[]))))))
abbrev o1z:Tr (Zi S):=N (N (N L ok L) none L) none L
abbrev v1y:Tr (TV S):=N (N (N L vM L) none L) none L
abbrev o1x:Tr (Zi S):=N (N (N L ot L) none L) none L
abbrev o1w:Tr (Zi S):=N (N (N L ov L) none L) none L
abbrev v1v:Tr (TV S):=N (N L none (N L vN L)) none L
abbrev o1u:Tr (Zi S):=N L none (N (N L oH L) none L)
abbrev v1t:Tr (TV S):=N (N (N L vN L) none L) none L
abbrev v1s:Tr (TV S):=N L none (N (N L vN L) none L)
abbrev v1r:Tr (TV S):=N (N L (some (.ptr 3 0)) L) none L
abbrev o1q:Tr (Zi S):=N (N (N L o8 L) o3 L) op (N L ok L)
abbrev v1p:Tr (TV S):=N (N L (some (.ptr 0 0)) L) none (N L vN L)
abbrev o1o:Tr (Zi S):=N (N (N L o4 L) ow L) o6 (N (N L oE L) op L)
abbrev o1n:Tr (Zi S):=N (N L none (N L oF L)) oi (N (N L ox L) none L)
abbrev v1m:Tr (TV S):=N (N (N L vN L) none L) none (N (N L vN L) vN L)
abbrev v1l:Tr (TV S):=N (N L none (N L vN L)) none (N (N L vN L) none L)
abbrev v1k:Tr (TV S):=N (N L vK L) (some (.agg [(.stc 20 (T.dflt 20))])) L
abbrev o1j:Tr (Zi S):=N L none (N (N (N (N L oc L) none L) none L) none L)
abbrev v1i:Tr (TV S):=N (N (N L vN L) (some (.ptr 6 0)) L) (some (.yld 11)) L
abbrev v1h:Tr (TV S):=N (N (N L (some (.ptr 7 0)) L) (some (.ptr 0 0)) L) vK L
abbrev v1g:Tr (TV S):=N (N (N L vN L) (some (.ptr 18 0)) L) (some (.yld 22)) L
abbrev o1f:Tr (Zi S):=N (N (N o1u none L) none L) ob L
abbrev v1e:Tr (TV S):=N L (some (.tup [(.agg [(.stc 5 (T.dflt 5))]),(.bool false)])) L
abbrev o1d:Tr (Zi S):=N (N (N L o7 L) o3 L) op (N L none (N (N (N L o8 L) ok L) none L))
abbrev o1c:Tr (Zi S):=N (N L none (N L oF (N (N L oj L) none L))) oi (N (N L ox L) none L)
abbrev o1b:Tr (Zi S):=N (N L none (N L oF L)) oi (N (N L ox L) none (N L none (N L none (N L oh L))))
abbrev v1a:Tr (TV S):=N (N L none (N (N L vO L) none L)) none (N v1r none L)
abbrev o19:Tr (Zi S):=N L none (N (N (N (N L (some (.cells 48 [(.stc 5 (T.dflt 5))])) L) none L) none L) none L)
abbrev o18:Tr (Zi S):=N (N L oz L) ob (N (N L none (N (N L o2 L) none L)) none (N (N (N L op L) none L) none L))
abbrev o17:Tr (Zi S):=N (N (N L (some (.cells 22 [(.rs 19 0)])) (N (N L oC L) o1 L)) o3 L) op (N L oD (N L oD L))
abbrev o16:Tr (Zi S):=N (N L oz L) none (N (N L none (N (N L o2 L) none L)) none (N (N (N L op L) none L) none L))
abbrev o15:Tr (Zi S):=N (N (N L none (N L none (N (N L oI L) none L))) none (N L none (N (N L oJ L) none L))) oi L
abbrev o14:Tr (Zi S):=N (N (N L ow L) o3 L) op (N (N L oy L) oD (N (N (N L oD L) none L) none (N (N L o0 L) ow L)))
abbrev v13:Tr (TV S):=N (N (N (N L vN L) none L) (some (.fn (.func 107) [] [(.ptr 0 0)])) L) vL v1t
abbrev o12:Tr (Zi S):=N (N L none (N L oF (N (N L oj L) none L))) oi (N (N L ox L) none (N (N (N L none (N L oC L)) none L) none L))
abbrev o11:Tr (Zi S):=N (N (N L ot L) none (N L none (N (N L ot L) none L))) none (N (N (N (N L ot L) none L) none (N L ol L)) none L)
abbrev o10:Tr (Zi S):=N (N (N L (some (.cells 22 [(.rs 34 0)])) (N L o1 L)) o3 L) op (N L oD (N (N (N (N L oC L) none L) none L) oD L))
abbrev oZ:Tr (Zi S):=N (N (N (N L o5 L) none (N (N L none (N L oA L)) none L)) none L) ob (N (N L none (N (N L none (N L oB L)) none L)) none L)
abbrev oY:Tr (Zi S):=N (N (N (N (N (N L oI L) none L) none L) none L) none (N L none (N (N L oj L) none L))) oi (N L none (N (N L oJ L) none L))
abbrev vX:Tr (TV S):=N (N (N L none (N L vN L)) (some (.fn (.func 96) [] [])) (N (N L (some (.sl (.st 19) [])) L) none L)) none v1s
abbrev oW:Tr (Zi S):=N (N (N (N L none (N (N L oJ L) none L)) none L) none L) ob (N (N L none (N L none (N L none (N L oI L)))) none (N (N (N L none (N L oc L)) none L) none L))
abbrev vV:Tr (TV S):=N (N (N L vN L) none (N (N (N L vN L) (some (.ptr 3 0)) L) none L)) (some (.ptr 1 0)) (N v1y vN v1t)
abbrev oU:Tr (Zi S):=N (N (N (N L (some (.cells 33 [(.stc 8 (T.dflt 8)),(.int .i64 0),(.rs 14 0),.nils,(.int .i64 0),(.int .i64 0)])) L) none L) none L) ob (N L none (N L none (N L oA L)))
abbrev oT:Tr (Zi S):=N (N (N (N L (some (.cells 33 [(.stc 8 (T.dflt 8)),(.int .i64 0),(.rs 21 0),(.rs 22 0),(.int .i64 0),(.int .i64 0)])) L) none L) none (N L none (N (N L oA L) none L))) ob (N L none (N L none (N (N L oB L) none L)))
abbrev oS:Tr (Zi S):=N (N (N (N L none (N L o9 L)) none (N L none (N L (some (.loop 104 (N (N (N (N (N L vO L) none L) vN L) (some (.ptr 0 0)) (N (N L none (N L vO L)) none L)) vn (N (N (N L vO L) none (N L none (N L vf L))) (some (.ptr 1 0)) L)) (29::[]) .skip .skip 1 .normal (1::(104::[])) (0::(1::(0::(1::(1::(1::[])))))))) L))) ou L) o9 (N L none (N L ot o1z))
abbrev oR:Tr (Zi S):=N (N (N (N L none (N L o9 L)) none (N L none (N L (some (.loop 104 (N (N (N (N (N L vO L) none L) vN L) (some (.ptr 0 0)) (N (N L none (N L vO L)) none L)) vn (N (N (N L vO L) none (N L none (N L vf L))) (some (.ptr 1 0)) L)) (29::[]) .skip .skip 1 .busy (1::(104::[])) (0::(1::(0::(1::(1::(1::[])))))))) L))) ou L) o9 (N L none (N (N L none (N L none (N L oa L))) none L))
abbrev oQ:Tr (Zi S):=N (N (N L ow L) ow L) oi (N (N (N (N L ot L) none (N (N L (some (.loop 70 (N (N (N (N L (some (.ptr 3 0)) L) (some (.ptr 0 0)) (N L none (N (N L vg L) vO L))) vN (N (N (N L vO L) none L) none L)) vr (N (N (N L (some (.ptr 4 0)) L) (some (.ptr 1 0)) L) vN (N L (some (.ptr 2 0)) (N (N L vO L) none L)))) (44::(45::[])) .skip .skip 1 .normal (1::(70::[])) (0::(1::(0::(1::(1::(1::(1::[]))))))))) L) ot L)) ou (N (N (N L oo L) none L) none L)) oj L)
abbrev oP:Tr (Zi S):=N (N (N L ow L) o3 (N (N L none (N L none (N (N L o8 L) none L))) none (N o1z none L))) op (N (N L oy L) oD (N (N (N L oD L) none L) none (N (N L (some (.loop 48 (N (N (N L (some (.ptr 3 0)) (N (N L (some (.fn (.func 80) [] [(.ptr 18 0)])) L) none L)) vN (N L (some (.ptr 14 0)) L)) (some (.ptr 1 0)) (N (N L (some (.ptr 4 0)) L) (some (.ptr 2 0)) L)) (20::[]) .skip .skip 0 .ret (0::(48::[])) (0::(1::(0::(1::(1::[]))))))) L) ow L)))
noncomputable def q0 {R:Type}:Prs S R:=Zhf
theorem q1 {R:Type}:Z7R X (q0 (R:=R)):=Zhg X
noncomputable def q2:List (Nat×F7 S):=[]
theorem q3:Z9n X (q2):=trivial
abbrev q4 {R:Type}:Z27 S R:=Zgi
theorem q5 {R:Type}:Z3J X (q4 (R:=R)):=ZgQ X
theorem q6 (x0:Int) (x1:Int) (x2:Int):Zhs X q2 [(.int .i64),(.int .i64),(.int .i64)] [.bool] q0 q4 12 98 (x0,x1,x2,())=X1w x0 x1 x2:=by kernel_rfl
noncomputable def q7:F7 S:=⟨[(.int .i64),(.int .i64),(.int .i64)],[.bool],fun xs=>X1w xs.1 xs.2.1 xs.2.2.1⟩
theorem q8:Z7Q X 98 q7:=Zho (Zhn xok q3 q1 q5 12 98) fun xs _ h=>(q6 xs.1 xs.2.1 xs.2.2.1).trans h
noncomputable def q9:List (Nat×F7 S):=[(98,q7)]
theorem qa:Z9n X (q9):=⟨q8,trivial⟩
abbrev qb {R:Type}:Z27 S R:=Zgi
theorem qc {R:Type}:Z3J X (qb (R:=R)):=ZgQ X
def qd:Key:=⟨[85],85,none,[0,0,1,0,1,1],0,6⟩
def qe:StT S:=⟨(N (N (N L vN L) none L) vG L),L,6⟩
def qf:Way S:=⟨.ret,⟨(N L none (N L vO L)),L,43⟩,[.bool]⟩
def qg:Way S:=⟨(.exit 0),⟨L,L,10⟩,[]⟩
def qh:LE S:=⟨qd,qe,[.int,.str],[qf,qg]⟩
def qi (x:(Int×ByteArray)):(Bool⊕Unit)→(Bool⊕Unit):=Sum.elim (fun y0=>(.inl y0)) (fun y1=>(.inr ()))
noncomputable def qj {R:Type} (x:(Int×ByteArray)) (k:(Bool⊕Unit)→Option R):Option R:=(X44 x.2 x.1).bind (Sum.elim (fun y0=>k (.inl y0)) (fun y1=>k (.inr ())))
def qk (x:(Int×ByteArray)) (v:Int):(Int×ByteArray):=(v,x.2)
theorem ql (x:(Int×ByteArray)):LE.step X qh q9 q0 qb 12 x=WQ x.2 x.1 (fun w0=>(Sum.inl (w0,x.2))) (fun p0=>(Sum.inr (.inl p0))) (Sum.inr (.inr ())):=by kernel_rfl
theorem qn {R:Type} (x:(Int×ByteArray)) (k:(Bool⊕Unit)→Option R) (r:R) (h:qj x k=some r):∃ o,Z5s (LE.step X qh q9 q0 qb 12) x o∧k o=some r:=by
 obtain ⟨o,h1,h2⟩:=Z0 h
 exact ⟨qi x o,Zhl (st:=fun (x:(Int×ByteArray))=>WI x.2) (prj:=fun x=>x.1) (emb:=qk) (embO:=qi) (fun x=>(ql x).trans (by unfold WI WQ;simp only [Zhd,Zh8,Zhe,Option.map_some,Option.map_none];rfl)) (fun _ _=>rfl) (fun _ _=>rfl) (fun _ _ _=>rfl) (fun _ _ _=>rfl) (fun _=>rfl) (Z1S.1 h1),by
  first
  | exact h2
  | (rcases o with o|o<;>exact h2)⟩
noncomputable def qo {R:Type}:Z27 S R:=LE.ls X qh qj qb
theorem qp {R:Type}:Z3J X (qo (R:=R)):=Zhq xok qa (e:=qh) q1 qc qn qc
theorem qq (x0:ByteArray):Zhs X q9 [.str] [.bool] q0 qo 12 85 (x0,())=X3Q x0:=by kernel_rfl
noncomputable def qr:F7 S:=⟨[.str],[.bool],fun xs=>X3Q xs.1⟩
theorem qs:Z7Q X 85 qr:=Zho (Zhn xok qa q1 qp 12 85) fun xs _ h=>(qq xs.1).trans h
noncomputable def qt:List (Nat×F7 S):=[]
theorem qu:Z9n X (qt):=trivial
abbrev qv {R:Type}:Z27 S R:=Zgi
theorem qw {R:Type}:Z3J X (qv (R:=R)):=ZgQ X
def qx:Key:=⟨[86],86,none,[0,0,1,0,1],0,2⟩
def qy:StT S:=⟨(N (N L vG (N L vN L)) (some (.sl .str [])) L),L,2⟩
def qz:Way S:=⟨.ret,⟨v1s,L,14⟩,[.int]⟩
def qA:Way S:=⟨(.exit 0),⟨L,L,6⟩,[]⟩
def qB:LE S:=⟨qx,qy,[.str,.int,(.lst .str)],[qz,qA]⟩
def qC (x:tW):(Int⊕Unit)→(Int⊕Unit):=Sum.elim (fun y0=>(.inl y0)) (fun y1=>(.inr ()))
noncomputable def qD {R:Type} (x:tW) (k:(Int⊕Unit)→Option R):Option R:=(X2v x.1 x.2.2 x.2.1).bind (Sum.elim (fun y0=>k (.inl y0)) (fun y1=>k (.inr ())))
def qE (x:tW) (v:Int):tW:=(x.1,v,x.2.2)
theorem qF (x:tW):LE.step X qB qt q0 qv 12 x=Wv x.1 x.2.2 x.2.1 (fun w0=>(Sum.inl (x.1,w0,x.2.2))) (fun p0=>(Sum.inr (.inl p0))) (Sum.inr (.inr ())):=by kernel_rfl
theorem qH {R:Type} (x:tW) (k:(Int⊕Unit)→Option R) (r:R) (h:qD x k=some r):∃ o,Z5s (LE.step X qB qt q0 qv 12) x o∧k o=some r:=by
 obtain ⟨o,h1,h2⟩:=Z0 h
 exact ⟨qC x o,Zhl (st:=fun (x:tW)=>XG x.1 x.2.2) (prj:=fun x=>x.2.1) (emb:=qE) (embO:=qC) (fun x=>(qF x).trans (by unfold XG Wv;simp only [Zhd,Zh8,Zhe,Option.map_some,Option.map_none];rfl)) (fun _ _=>rfl) (fun _ _=>rfl) (fun _ _ _=>rfl) (fun _ _ _=>rfl) (fun _=>rfl) (Z1S.1 h1),by
  first
  | exact h2
  | (rcases o with o|o<;>exact h2)⟩
noncomputable def qI {R:Type}:Z27 S R:=LE.ls X qB qD qv
theorem qJ {R:Type}:Z3J X (qI (R:=R)):=Zhq xok qu (e:=qB) q1 qw qH qw
theorem qK (x0:List ByteArray) (x1:ByteArray):Zhs X qt [(.sl .str),.str] [(.int .i64)] q0 qI 12 86 (x0,x1,())=X45 x0 x1:=by kernel_rfl
noncomputable def qL:F7 S:=⟨[(.sl .str),.str],[(.int .i64)],fun xs=>X45 xs.1 xs.2.1⟩
theorem qM:Z7Q X 86 qL:=Zho (Zhn xok qu q1 qJ 12 86) fun xs _ h=>(qK xs.1 xs.2.1).trans h
noncomputable def qN:List (Nat×F7 S):=[(85,qr),(86,qL)]
theorem qO:Z9n X (qN):=⟨qs,qM,trivial⟩
abbrev qP {R:Type}:Z27 S R:=Zgi
theorem qQ {R:Type}:Z3J X (qP (R:=R)):=ZgQ X
theorem qR (x0:ByteArray) (x1:List ByteArray):Zhs X qN [.str,(.sl .str)] [(.int .i64)] q0 qP 12 66 (x0,x1,())=X26 x0 x1:=by kernel_rfl
noncomputable def qS:F7 S:=⟨[.str,(.sl .str)],[(.int .i64)],fun xs=>X26 xs.1 xs.2.1⟩
theorem qT:Z7Q X 66 qS:=Zho (Zhn xok qO q1 qQ 12 66) fun xs _ h=>(qR xs.1 xs.2.1).trans h
noncomputable def qU:List (Nat×F7 S):=[(98,q7)]
theorem qV:Z9n X (qU):=⟨q8,trivial⟩
abbrev qW {R:Type}:Z27 S R:=Zgi
theorem qX {R:Type}:Z3J X (qW (R:=R)):=ZgQ X
theorem qY (x0:Zu) (x1:Int):Zhs X qU [(.st 2),(.int .i64)] [.bool] q0 qW 12 82 (x0,x1,())=X2d x0 x1:=by kernel_rfl
noncomputable def qZ:F7 S:=⟨[(.st 2),(.int .i64)],[.bool],fun xs=>X2d xs.1 xs.2.1⟩
theorem q10:Z7Q X 82 qZ:=Zho (Zhn xok qV q1 qX 12 82) fun xs _ h=>(qY xs.1 xs.2.1).trans h
noncomputable def q11:List (Nat×F7 S):=[(98,q7)]
theorem q12:Z9n X (q11):=⟨q8,trivial⟩
abbrev q13 {R:Type}:Z27 S R:=Zgi
theorem q14 {R:Type}:Z3J X (q13 (R:=R)):=ZgQ X
def q15:Key:=⟨[83],83,none,[0,0,1,0,1,1],0,6⟩
def q16:StT S:=⟨(N (N (N L vN L) none L) (some (.sl (.st 3) [])) L),L,6⟩
def q17:Way S:=⟨.ret,⟨(N L none (N L vN L)),L,27⟩,[.int]⟩
def q18:Way S:=⟨.ret,⟨(N L none (N L vN L)),L,43⟩,[.int]⟩
def q19:Way S:=⟨(.exit 0),⟨L,L,10⟩,[]⟩
def q1a:LE S:=⟨q15,q16,[.int,(.lst (.st 3))],[q17,q18,q19]⟩
def q1b (x:(Int×(List Zk))):(Int⊕Int⊕Unit)→(Int⊕Int⊕Unit):=Sum.elim (fun y0=>(.inl y0)) (Sum.elim (fun y1=>(.inr (.inl y1))) (fun y2=>(.inr (.inr ()))))
noncomputable def q1c {R:Type} (x:(Int×(List Zk))) (k:(Int⊕Int⊕Unit)→Option R):Option R:=(X3x x.2 x.1).bind (Sum.elim (fun y0=>k (.inl y0)) (Sum.elim (fun y1=>k (.inr (.inl y1))) (fun y2=>k (.inr (.inr ())))))
def q1d (x:(Int×(List Zk))) (v:Int):(Int×(List Zk)):=(v,x.2)
theorem q1e (x:(Int×(List Zk))):LE.step X q1a q11 q0 q13 12 x=W3 x.2 x.1 (fun w0=>(Sum.inl (w0,x.2))) (fun p0=>(Sum.inr (.inl p0))) (fun p0=>(Sum.inr (.inr (.inl p0)))) (Sum.inr (.inr (.inr ()))):=by kernel_rfl
theorem q1g {R:Type} (x:(Int×(List Zk))) (k:(Int⊕Int⊕Unit)→Option R) (r:R) (h:q1c x k=some r):∃ o,Z5s (LE.step X q1a q11 q0 q13 12) x o∧k o=some r:=by
 obtain ⟨o,h1,h2⟩:=Z0 h
 exact ⟨q1b x o,Zhl (st:=fun (x:(Int×(List Zk)))=>XU x.2) (prj:=fun x=>x.1) (emb:=q1d) (embO:=q1b) (fun x=>(q1e x).trans (by unfold XU W3;simp only [Zhd,Zh8,Zhe,Option.map_some,Option.map_none];rfl)) (fun _ _=>rfl) (fun _ _=>rfl) (fun _ _ _=>rfl) (fun _ _ _=>rfl) (fun _=>rfl) (Z1S.1 h1),by
  first
  | exact h2
  | (rcases o with o|o|o<;>exact h2)⟩
noncomputable def q1h {R:Type}:Z27 S R:=LE.ls X q1a q1c q13
theorem q1i {R:Type}:Z3J X (q1h (R:=R)):=Zhq xok q12 (e:=q1a) q1 q14 q1g q14
theorem q1j (x0:List Zk):Zhs X q11 [(.sl (.st 3))] [(.int .i64)] q0 q1h 12 83 (x0,())=X2e x0:=by kernel_rfl
noncomputable def q1k:F7 S:=⟨[(.sl (.st 3))],[(.int .i64)],fun xs=>X2e xs.1⟩
theorem q1l:Z7Q X 83 q1k:=Zho (Zhn xok q12 q1 q1i 12 83) fun xs _ h=>(q1j xs.1).trans h
noncomputable def q1m:List (Nat×F7 S):=[(98,q7)]
theorem q1n:Z9n X (q1m):=⟨q8,trivial⟩
abbrev q1o {R:Type}:Z27 S R:=Zgi
theorem q1p {R:Type}:Z3J X (q1o (R:=R)):=ZgQ X
def q1q:Key:=⟨[87],87,none,[0,0,1,0,1,1],0,3⟩
def q1r:StT S:=⟨(N (N (N (N L vN L) none L) vN L) (some (.sl (.st 5) [])) (N (N (N L vN L) none L) vN L)),L,3⟩
def q1s:Way S:=⟨.ret,⟨(N L none (N L none (N L vN L))),L,28⟩,[.int]⟩
def q1t:Way S:=⟨(.exit 0),⟨(N v1t none L),L,7⟩,[.int]⟩
def q1u:LE S:=⟨q1q,q1r,[.int,.int,(.lst (.st 5)),.int,.int],[q1s,q1t]⟩
def q1v (x:tV):(Int⊕Int)→(Int⊕Int):=Sum.elim (fun y0=>(.inl y0)) (fun y1=>(.inr y1))
noncomputable def q1w {R:Type} (x:tV) (k:(Int⊕Int)→Option R):Option R:=(X3w x.2.1 x.2.2.1 x.2.2.2.2 (x.1,x.2.2.2.1)).bind (Sum.elim (fun y0=>k (.inl y0)) (fun y1=>k (.inr y1)))
def q1x (x:tV) (v:(Int×Int)):tV:=(v.1,x.2.1,x.2.2.1,v.2,x.2.2.2.2)
theorem q1y (x:tV):LE.step X q1u q1m q0 q1o 12 x=W2 x.2.1 x.2.2.1 x.2.2.2.2 x.1 x.2.2.2.1 (fun w0 w1=>(Sum.inl (w0,x.2.1,x.2.2.1,w1,x.2.2.2.2))) (fun p0=>(Sum.inr (.inl p0))) (fun p0=>(Sum.inr (.inr p0))):=by kernel_rfl
theorem q1A {R:Type} (x:tV) (k:(Int⊕Int)→Option R) (r:R) (h:q1w x k=some r):∃ o,Z5s (LE.step X q1u q1m q0 q1o 12) x o∧k o=some r:=by
 obtain ⟨o,h1,h2⟩:=Z0 h
 exact ⟨q1v x o,Zhl (st:=fun (x:tV)=>XT x.2.1 x.2.2.1 x.2.2.2.2) (prj:=fun x=>(x.1,x.2.2.2.1)) (emb:=q1x) (embO:=q1v) (fun x=>(q1y x).trans (by unfold XT W2;simp only [Zhd,Zh8,Zhe,Option.map_some,Option.map_none];rfl)) (fun _ _=>rfl) (fun _ _=>rfl) (fun _ _ _=>rfl) (fun _ _ _=>rfl) (fun _=>rfl) (Z1S.1 h1),by
  first
  | exact h2
  | (rcases o with o|o<;>exact h2)⟩
noncomputable def q1B {R:Type}:Z27 S R:=LE.ls X q1u q1w q1o
theorem q1C {R:Type}:Z3J X (q1B (R:=R)):=Zhq xok q1n (e:=q1u) q1 q1p q1A q1p
theorem q1D (x0:List ZE) (x1:Int) (x2:Int):Zhs X q1m [(.sl (.st 5)),(.int .i64),(.int .i64)] [(.int .i64)] q0 q1B 12 87 (x0,x1,x2,())=X1G x0 x1 x2:=by kernel_rfl
noncomputable def q1E:F7 S:=⟨[(.sl (.st 5)),(.int .i64),(.int .i64)],[(.int .i64)],fun xs=>X1G xs.1 xs.2.1 xs.2.2.1⟩
theorem q1F:Z7Q X 87 q1E:=Zho (Zhn xok q1n q1 q1C 12 87) fun xs _ h=>(q1D xs.1 xs.2.1 xs.2.2.1).trans h
noncomputable def q1G:List (Nat×F7 S):=[(87,q1E)]
theorem q1H:Z9n X (q1G):=⟨q1F,trivial⟩
abbrev q1I {R:Type}:Z27 S R:=Zgi
theorem q1J {R:Type}:Z3J X (q1I (R:=R)):=ZgQ X
theorem q1K (x0:ZB) (x1:Int) (x2:Int):Zhs X q1G [(.st 6),(.int .i64),(.int .i64)] [(.int .i64)] q0 q1I 12 99 (x0,x1,x2,())=X4k x0 x1 x2:=by kernel_rfl
noncomputable def q1L:F7 S:=⟨[(.st 6),(.int .i64),(.int .i64)],[(.int .i64)],fun xs=>X4k xs.1 xs.2.1 xs.2.2.1⟩
theorem q1M:Z7Q X 99 q1L:=Zho (Zhn xok q1H q1 q1J 12 99) fun xs _ h=>(q1K xs.1 xs.2.1 xs.2.2.1).trans h
noncomputable def q1N:List (Nat×F7 S):=[]
theorem q1O:Z9n X (q1N):=trivial
abbrev q1P {R:Type}:Z27 S R:=Zgi
theorem q1Q {R:Type}:Z3J X (q1P (R:=R)):=ZgQ X
theorem q1R (x0:Zu) (x1:Zu):Zhs X q1N [(.st 2),(.st 2)] [(.st 2)] q0 q1P 12 109 (x0,x1,())=X6f x0 x1:=by kernel_rfl
noncomputable def q1S:F7 S:=⟨[(.st 2),(.st 2)],[(.st 2)],fun xs=>X6f xs.1 xs.2.1⟩
theorem q1T:Z7Q X 109 q1S:=Zho (Zhn xok q1O q1 q1Q 12 109) fun xs _ h=>(q1R xs.1 xs.2.1).trans h
noncomputable def q1U:List (Nat×F7 S):=[]
theorem q1V:Z9n X (q1U):=trivial
abbrev q1W {R:Type}:Z27 S R:=Zgi
theorem q1X {R:Type}:Z3J X (q1W (R:=R)):=ZgQ X
theorem q1Y (x0:Zu) (x1:Zu):Zhs X q1U [(.st 2),(.st 2)] [(.int .i64)] q0 q1W 12 108 (x0,x1,())=X6e x0 x1:=by kernel_rfl
noncomputable def q1Z:F7 S:=⟨[(.st 2),(.st 2)],[(.int .i64)],fun xs=>X6e xs.1 xs.2.1⟩
theorem q20:Z7Q X 108 q1Z:=Zho (Zhn xok q1V q1 q1X 12 108) fun xs _ h=>(q1Y xs.1 xs.2.1).trans h
noncomputable def q21:List (Nat×F7 S):=[(109,q1S),(108,q1Z)]
theorem q22:Z9n X (q21):=⟨q1T,q20,trivial⟩
abbrev q23 {R:Type}:Z27 S R:=Zgi
theorem q24 {R:Type}:Z3J X (q23 (R:=R)):=ZgQ X
def q25:Key:=⟨[100],100,none,[0,0,1,1,0,0,1,0,0,1,0,1],2,13⟩
def q26:StT S:=⟨(N (N (N L vN L) none (N L vN L)) vM (N (N L vN L) none L)),L,13⟩
def q27:Way S:=⟨.ret,⟨(N L none (N L vO L)),L,48⟩,[.bool]⟩
def q28:Way S:=⟨(.exit 2),⟨(N (N (N L vN L) none L) vM L),L,17⟩,[.int,(.lst (.st 2))]⟩
def q29:LE S:=⟨q25,q26,[.int,.int,(.lst (.st 2)),.int],[q27,q28]⟩
def q2a (x:t14):(Bool⊕Unit)→(Bool⊕(Int×(List Zu))):=Sum.elim (fun y0=>(.inl y0)) (fun y1=>(.inr (x.1,x.2.2.1)))
noncomputable def q2b {R:Type} (x:t14) (k:(Bool⊕(Int×(List Zu)))→Option R):Option R:=(X1H x.1 x.2.2.1 x.2.2.2 x.2.1).bind (Sum.elim (fun y0=>k (.inl y0)) (fun y1=>k (.inr (x.1,x.2.2.1))))
def q2c (x:t14) (v:Int):t14:=(x.1,v,x.2.2.1,x.2.2.2)
theorem q2d (x:t14):LE.step X q29 q21 q0 q23 12 x=Wx x.1 x.2.2.1 x.2.2.2 x.2.1 (fun w0=>(Sum.inl (x.1,w0,x.2.2.1,x.2.2.2))) (fun p0=>(Sum.inr (.inl p0))) (Sum.inr (.inr (x.1,x.2.2.1))):=by kernel_rfl
theorem q2f {R:Type} (x:t14) (k:(Bool⊕(Int×(List Zu)))→Option R) (r:R) (h:q2b x k=some r):∃ o,Z5s (LE.step X q29 q21 q0 q23 12) x o∧k o=some r:=by
 obtain ⟨o,h1,h2⟩:=Z0 h
 exact ⟨q2a x o,Zhl (st:=fun (x:t14)=>Wg x.1 x.2.2.1 x.2.2.2) (prj:=fun x=>x.2.1) (emb:=q2c) (embO:=q2a) (fun x=>(q2d x).trans (by unfold Wg Wx;simp only [Zhd,Zh8,Zhe,Option.map_some,Option.map_none];rfl)) (fun _ _=>rfl) (fun _ _=>rfl) (fun _ _ _=>rfl) (fun _ _ _=>rfl) (fun _=>rfl) (Z1S.1 h1),by
  first
  | exact h2
  | (rcases o with o|o<;>exact h2)⟩
noncomputable def q2g {R:Type}:Z27 S R:=LE.ls X q29 q2b q23
theorem q2h {R:Type}:Z3J X (q2g (R:=R)):=Zhq xok q22 (e:=q29) q1 q24 q2f q24
def q2i:Key:=⟨[100],100,none,[0,0,1,0,1],0,2⟩
def q2j:StT S:=⟨(N (N (N L vN L) none L) vM L),L,2⟩
def q2k:Way S:=⟨.ret,⟨(N L none (N L vO L)),L,48⟩,[.bool]⟩
def q2l:Way S:=⟨(.exit 0),⟨L,L,6⟩,[]⟩
def q2m:LE S:=⟨q2i,q2j,[.int,(.lst (.st 2))],[q2k,q2l]⟩
def q2n (x:(Int×(List Zu))):(Bool⊕Unit)→(Bool⊕Unit):=Sum.elim (fun y0=>(.inl y0)) (fun y1=>(.inr ()))
noncomputable def q2o {R:Type} (x:(Int×(List Zu))) (k:(Bool⊕Unit)→Option R):Option R:=(X3R x.2 x.1).bind (Sum.elim (fun y0=>k (.inl y0)) (fun y1=>k (.inr ())))
def q2p (x:(Int×(List Zu))) (v:Int):(Int×(List Zu)):=(v,x.2)
theorem q2q (x:(Int×(List Zu))):LE.step X q2m q21 q0 q2g 12 x=Ww x.2 x.1 (fun w0=>(Sum.inl (w0,x.2))) (fun p0=>(Sum.inr (.inl p0))) (Sum.inr (.inr ())):=by kernel_rfl
theorem q2s {R:Type} (x:(Int×(List Zu))) (k:(Bool⊕Unit)→Option R) (r:R) (h:q2o x k=some r):∃ o,Z5s (LE.step X q2m q21 q0 q2g 12) x o∧k o=some r:=by
 obtain ⟨o,h1,h2⟩:=Z0 h
 exact ⟨q2n x o,Zhl (st:=fun (x:(Int×(List Zu)))=>Wf x.2) (prj:=fun x=>x.1) (emb:=q2p) (embO:=q2n) (fun x=>(q2q x).trans (by unfold Wf Ww;simp only [Zhd,Zh8,Zhe,Option.map_some,Option.map_none];rfl)) (fun _ _=>rfl) (fun _ _=>rfl) (fun _ _ _=>rfl) (fun _ _ _=>rfl) (fun _=>rfl) (Z1S.1 h1),by
  first
  | exact h2
  | (rcases o with o|o<;>exact h2)⟩
noncomputable def q2t {R:Type}:Z27 S R:=LE.ls X q2m q2o q2g
theorem q2u {R:Type}:Z3J X (q2t (R:=R)):=Zhq xok q22 (e:=q2m) q1 q2h q2s q2h
theorem q2v (x0:List Zu):Zhs X q21 [(.sl (.st 2))] [.bool] q0 q2t 12 100 (x0,())=X3i x0:=by kernel_rfl
noncomputable def q2w:F7 S:=⟨[(.sl (.st 2))],[.bool],fun xs=>X3i xs.1⟩
theorem q2x:Z7Q X 100 q2w:=Zho (Zhn xok q22 q1 q2u 12 100) fun xs _ h=>(q2v xs.1).trans h
noncomputable def q2y:List (Nat×F7 S):=[(98,q7),(82,qZ),(99,q1L),(100,q2w)]
theorem q2z:Z9n X (q2y):=⟨q8,q10,q1M,q2x,trivial⟩
abbrev q2A {R:Type}:Z27 S R:=Zgi
theorem q2B {R:Type}:Z3J X (q2A (R:=R)):=ZgQ X
def q2C:Key:=⟨[84],84,none,[0,0,1,0,1,1],0,8⟩
def q2D:StT S:=⟨(N (N (N L vN L) (some (.ptr 0 0)) L) none L),(N L oh L),8⟩
def q2E:Way S:=⟨.ret,⟨(N L none (N L vN L)),(N L oh L),21⟩,[.int,(.st 7)]⟩
def q2F:Way S:=⟨(.exit 0),⟨(N (N L (some (.ptr 0 0)) L) none L),(N L oh L),13⟩,[(.st 7)]⟩
def q2G:LE S:=⟨q2C,q2D,[.int,(.st 7)],[q2E,q2F]⟩
def q2H (x:(Int×CtSand)):(Int⊕Unit)→((Int×CtSand)⊕CtSand):=Sum.elim (fun y0=>(.inl (y0,x.2))) (fun y1=>(.inr x.2))
noncomputable def q2I {R:Type} (x:(Int×CtSand)) (k:((Int×CtSand)⊕CtSand)→Option R):Option R:=(X2Z x.2 x.1).bind (Sum.elim (fun y0=>k (.inl (y0,x.2))) (fun y1=>k (.inr x.2)))
def q2J (x:(Int×CtSand)) (v:Int):(Int×CtSand):=(v,x.2)
theorem q2K (x:(Int×CtSand)):LE.step X q2G q2y q0 q2A 12 x=WR x.2 x.1 (fun w0=>(Sum.inl (w0,x.2))) (fun p0=>(Sum.inr (.inl (p0,x.2)))) (Sum.inr (.inr x.2)):=by kernel_rfl
theorem q2M {R:Type} (x:(Int×CtSand)) (k:((Int×CtSand)⊕CtSand)→Option R) (r:R) (h:q2I x k=some r):∃ o,Z5s (LE.step X q2G q2y q0 q2A 12) x o∧k o=some r:=by
 obtain ⟨o,h1,h2⟩:=Z0 h
 exact ⟨q2H x o,Zhl (st:=fun (x:(Int×CtSand))=>XV x.2) (prj:=fun x=>x.1) (emb:=q2J) (embO:=q2H) (fun x=>(q2K x).trans (by unfold XV WR;simp only [Zhd,Zh8,Zhe,Option.map_some,Option.map_none];rfl)) (fun _ _=>rfl) (fun _ _=>rfl) (fun _ _ _=>rfl) (fun _ _ _=>rfl) (fun _=>rfl) (Z1S.1 h1),by
  first
  | exact h2
  | (rcases o with o|o<;>exact h2)⟩
noncomputable def q2N {R:Type}:Z27 S R:=LE.ls X q2G q2I q2A
theorem q2O {R:Type}:Z3J X (q2N (R:=R)):=Zhq xok q2z (e:=q2G) q1 q2B q2M q2B
theorem q2P (x0:CtSand):Zhs X q2y [(.st 7)] [(.int .i64)] q0 q2N 12 84 (x0,())=X3S x0:=by kernel_rfl
noncomputable def q2Q:F7 S:=⟨[(.st 7)],[(.int .i64)],fun xs=>X3S xs.1⟩
theorem q2R:Z7Q X 84 q2Q:=Zho (Zhn xok q2z q1 q2O 12 84) fun xs _ h=>(q2P xs.1).trans h
noncomputable def q2S:List (Nat×F7 S):=[(66,qS),(82,qZ),(83,q1k),(84,q2Q)]
theorem q2T:Z9n X (q2S):=⟨qT,q10,q1l,q2R,trivial⟩
abbrev q2U {R:Type}:Z27 S R:=Zgi
theorem q2V {R:Type}:Z3J X (q2U (R:=R)):=ZgQ X
def q2W:Key:=⟨[64],64,none,[0,0,1,0,1,1,1],0,10⟩
def q2X:StT S:=⟨(N (N L (some (.ptr 0 0)) (N L (some (.rs 10 0)) L)) none (N L none (N L vN L))),(N L oi o1u),11⟩
def q2Y:Way S:=⟨.ret,⟨v1m,oY,52⟩,[.int,.int,.int,(.lst .str),(.st 4),(.st 8),(.lst .str)]⟩
def q2Z:Way S:=⟨.ret,⟨v1m,oY,55⟩,[.int,.int,.int,(.lst .str),(.st 4),(.st 8),(.lst .str)]⟩
def q30:Way S:=⟨.ret,⟨v1m,oY,51⟩,[.int,.int,.int,(.lst .str),(.st 4),(.st 8),(.lst .str)]⟩
def q31:Way S:=⟨(.exit 0),⟨(N (N L (some (.ptr 0 0)) (N L (some (.rs 10 0)) L)) none L),(N L oi o1u),16⟩,[(.st 8),(.lst .str)]⟩
def q32:LE S:=⟨q2W,q2X,[.int,(.st 8),(.lst .str)],[q2Y,q2Z,q30,q31]⟩
def q33 (x:t11):(tJ⊕tJ⊕tJ⊕(List ByteArray))→t2:=Sum.elim (fun y0=>(.inl (y0.1,y0.2.1,y0.2.2.1,y0.2.2.2.1,y0.2.2.2.2.1,x.2.1,y0.2.2.2.2.2))) (Sum.elim (fun y1=>(.inr (.inl (y1.1,y1.2.1,y1.2.2.1,y1.2.2.2.1,y1.2.2.2.2.1,x.2.1,y1.2.2.2.2.2)))) (Sum.elim (fun y2=>(.inr (.inr (.inl (y2.1,y2.2.1,y2.2.2.1,y2.2.2.2.1,y2.2.2.2.2.1,x.2.1,y2.2.2.2.2.2))))) (fun y3=>(.inr (.inr (.inr (x.2.1,y3)))))))
noncomputable def q34 {R:Type} (x:t11) (k:t2→Option R):Option R:=(X3O x.2.1 (x.1,x.2.2)).bind (Sum.elim (fun y0=>k (.inl (y0.1,y0.2.1,y0.2.2.1,y0.2.2.2.1,y0.2.2.2.2.1,x.2.1,y0.2.2.2.2.2))) (Sum.elim (fun y1=>k (.inr (.inl (y1.1,y1.2.1,y1.2.2.1,y1.2.2.2.1,y1.2.2.2.2.1,x.2.1,y1.2.2.2.2.2)))) (Sum.elim (fun y2=>k (.inr (.inr (.inl (y2.1,y2.2.1,y2.2.2.1,y2.2.2.2.1,y2.2.2.2.2.1,x.2.1,y2.2.2.2.2.2))))) (fun y3=>k (.inr (.inr (.inr (x.2.1,y3))))))))
def q35 (x:t11) (v:(Int×(List ByteArray))):t11:=(v.1,x.2.1,v.2)
theorem q36 (x:t11):LE.step X q32 q2S q0 q2U 12 x=Wt x.2.1 x.1 x.2.2 (fun w0 w1=>(Sum.inl (w0,x.2.1,w1))) (fun p0 p1 p2 p3 p4 p5=>(Sum.inr (.inl (p0,p1,p2,p3,p4,x.2.1,p5)))) (fun p0 p1 p2 p3 p4 p5=>(Sum.inr (.inr (.inl (p0,p1,p2,p3,p4,x.2.1,p5))))) (fun p0 p1 p2 p3 p4 p5=>(Sum.inr (.inr (.inr (.inl (p0,p1,p2,p3,p4,x.2.1,p5)))))) (fun p0=>(Sum.inr (.inr (.inr (.inr (x.2.1,p0)))))):=by kernel_rfl
theorem q38 {R:Type} (x:t11) (k:t2→Option R) (r:R) (h:q34 x k=some r):∃ o,Z5s (LE.step X q32 q2S q0 q2U 12) x o∧k o=some r:=by
 obtain ⟨o,h1,h2⟩:=Z0 h
 exact ⟨q33 x o,Zhl (st:=fun (x:t11)=>Wd x.2.1) (prj:=fun x=>(x.1,x.2.2)) (emb:=q35) (embO:=q33) (fun x=>(q36 x).trans (by unfold Wd Wt;simp only [Zhd,Zh8,Zhe,Option.map_some,Option.map_none];rfl)) (fun _ _=>rfl) (fun _ _=>rfl) (fun _ _ _=>rfl) (fun _ _ _=>rfl) (fun _=>rfl) (Z1S.1 h1),by
  first
  | exact h2
  | (rcases o with o|o|o|o<;>exact h2)⟩
noncomputable def q39 {R:Type}:Z27 S R:=LE.ls X q32 q34 q2U
theorem q3a {R:Type}:Z3J X (q39 (R:=R)):=Zhq xok q2T (e:=q32) q1 q2V q38 q2V
def q3b:Key:=⟨[64],64,none,[0,0,1,0,1,1,1,1,1],2,21⟩
def q3c:StT S:=⟨(N (N L (some (.ptr 0 0)) (N (N L vN L) (some (.rs 21 0)) L)) none L),(N (N L none o1u) oi L),22⟩
def q3d:Way S:=⟨.ret,⟨v1m,o15,62⟩,[.int,.int,.int,(.lst .str),(.lst .str),(.st 8)]⟩
def q3e:Way S:=⟨.ret,⟨v1m,o15,55⟩,[.int,.int,.int,(.lst .str),(.lst .str),(.st 8)]⟩
def q3f:Way S:=⟨(.exit 2),⟨L,(N (N L none o1u) oi L),27⟩,[(.lst .str),(.st 8)]⟩
def q3g:LE S:=⟨q3b,q3c,[.int,(.lst .str),(.st 8)],[q3d,q3e,q3f]⟩
def q3h (x:t12):((Int×Int×Int×(List ByteArray)×(List ByteArray))⊕(Int×Int×Int×(List ByteArray)×(List ByteArray))⊕(List ByteArray))→ta:=Sum.elim (fun y0=>(.inl (y0.1,y0.2.1,y0.2.2.1,y0.2.2.2.1,y0.2.2.2.2,x.2.2))) (Sum.elim (fun y1=>(.inr (.inl (y1.1,y1.2.1,y1.2.2.1,y1.2.2.2.1,y1.2.2.2.2,x.2.2)))) (fun y2=>(.inr (.inr (y2,x.2.2)))))
noncomputable def q3i {R:Type} (x:t12) (k:ta→Option R):Option R:=(X1F x.2.2 (x.1,x.2.1)).bind (Sum.elim (fun y0=>k (.inl (y0.1,y0.2.1,y0.2.2.1,y0.2.2.2.1,y0.2.2.2.2,x.2.2))) (Sum.elim (fun y1=>k (.inr (.inl (y1.1,y1.2.1,y1.2.2.1,y1.2.2.2.1,y1.2.2.2.2,x.2.2)))) (fun y2=>k (.inr (.inr (y2,x.2.2))))))
def q3j (x:t12) (v:(Int×(List ByteArray))):t12:=(v.1,v.2,x.2.2)
theorem q3k (x:t12):LE.step X q3g q2S q0 q39 12 x=Wu x.2.2 x.1 x.2.1 (fun w0 w1=>(Sum.inl (w0,w1,x.2.2))) (fun p0 p1 p2 p3 p4=>(Sum.inr (.inl (p0,p1,p2,p3,p4,x.2.2)))) (fun p0 p1 p2 p3 p4=>(Sum.inr (.inr (.inl (p0,p1,p2,p3,p4,x.2.2))))) (fun p0=>(Sum.inr (.inr (.inr (p0,x.2.2))))):=by kernel_rfl
theorem q3m {R:Type} (x:t12) (k:ta→Option R) (r:R) (h:q3i x k=some r):∃ o,Z5s (LE.step X q3g q2S q0 q39 12) x o∧k o=some r:=by
 obtain ⟨o,h1,h2⟩:=Z0 h
 exact ⟨q3h x o,Zhl (st:=fun (x:t12)=>We x.2.2) (prj:=fun x=>(x.1,x.2.1)) (emb:=q3j) (embO:=q3h) (fun x=>(q3k x).trans (by unfold We Wu;simp only [Zhd,Zh8,Zhe,Option.map_some,Option.map_none];rfl)) (fun _ _=>rfl) (fun _ _=>rfl) (fun _ _ _=>rfl) (fun _ _ _=>rfl) (fun _=>rfl) (Z1S.1 h1),by
  first
  | exact h2
  | (rcases o with o|o|o<;>exact h2)⟩
noncomputable def q3n {R:Type}:Z27 S R:=LE.ls X q3g q3i q39
theorem q3o {R:Type}:Z3J X (q3n (R:=R)):=Zhq xok q2T (e:=q3g) q1 q3a q3m q3a
theorem q3p (x0:Zl):Zhs X q2S [(.st 8)] [(.int .i64),(.int .i64),(.int .i64)] q0 q3n 12 64 (x0,())=X3g x0:=by kernel_rfl
noncomputable def q3q:F7 S:=⟨[(.st 8)],[(.int .i64),(.int .i64),(.int .i64)],fun xs=>X3g xs.1⟩
theorem q3r:Z7Q X 64 q3q:=Zho (Zhn xok q2T q1 q3o 12 64) fun xs _ h=>(q3p xs.1).trans h
noncomputable def q3s:List (Nat×F7 S):=[]
theorem q3t:Z9n X (q3s):=trivial
abbrev q3u {R:Type}:Z27 S R:=Zgi
theorem q3v {R:Type}:Z3J X (q3u (R:=R)):=ZgQ X
theorem q3w (x0:Int) (x1:Int) (x2:Int):Zhs X q3s [(.int .i64),(.int .i64),(.int .i64)] [.bool] q0 q3u 12 65 (x0,x1,x2,())=X30 x0 x1 x2:=by kernel_rfl
noncomputable def q3x:F7 S:=⟨[(.int .i64),(.int .i64),(.int .i64)],[.bool],fun xs=>X1x xs.1 xs.2.1 xs.2.2.1⟩
theorem q3y:Z7Q X 65 q3x:=Zho (Zhn xok q3t q1 q3v 12 65) fun xs _ h=>((q3w xs.1 xs.2.1 xs.2.2.1).trans (X5S xs.1 xs.2.1 xs.2.2.1).symm).trans h
noncomputable def q3z:List (Nat×F7 S):=[]
theorem q3A:Z9n X (q3z):=trivial
abbrev q3B {R:Type}:Z27 S R:=Zgi
theorem q3C {R:Type}:Z3J X (q3B (R:=R)):=ZgQ X
theorem q3D (x0:Z5):Zhs X q3z [(.st 18)] [(.int .i64)] q0 q3B 12 68 (x0,())=X2q x0:=by kernel_rfl
noncomputable def q3E:F7 S:=⟨[(.st 18)],[(.int .i64)],fun xs=>X4n xs.1⟩
theorem q3F:Z7Q X 68 q3E:=Zho (Zhn xok q3A q1 q3C 12 68) fun xs _ h=>((q3D xs.1).trans (X5z xs.1).symm).trans h
noncomputable def q3G:List (Nat×F7 S):=[(87,q1E)]
theorem q3H:Z9n X (q3G):=⟨q1F,trivial⟩
abbrev q3I {R:Type}:Z27 S R:=Zgi
theorem q3J {R:Type}:Z3J X (q3I (R:=R)):=ZgQ X
theorem q3K (x0:ZE) (x1:Int) (x2:Int):Zhs X q3G [(.st 5),(.int .i64),(.int .i64)] [(.int .i64)] q0 q3I 12 67 (x0,x1,x2,())=X2D x0 x1 x2:=by kernel_rfl
noncomputable def q3L:F7 S:=⟨[(.st 5),(.int .i64),(.int .i64)],[(.int .i64)],fun xs=>X2D xs.1 xs.2.1 xs.2.2.1⟩
theorem q3M:Z7Q X 67 q3L:=Zho (Zhn xok q3H q1 q3J 12 67) fun xs _ h=>(q3K xs.1 xs.2.1 xs.2.2.1).trans h
noncomputable def q3N:List (Nat×F7 S):=[(87,q1E),(67,q3L),(65,q3x)]
theorem q3O:Z9n X (q3N):=⟨q1F,q3M,q3y,trivial⟩
abbrev q3P {R:Type}:Z27 S R:=Zgi
theorem q3Q {R:Type}:Z3J X (q3P (R:=R)):=ZgQ X
theorem q3R (x0:Zt):Zhs X q3N [(.st 19)] [(.int .i64)] q0 q3P 12 69 (x0,())=X27 x0:=by kernel_rfl
noncomputable def q3S:F7 S:=⟨[(.st 19)],[(.int .i64)],fun xs=>X4w xs.1⟩
theorem q3T:Z7Q X 69 q3S:=Zho (Zhn xok q3O q1 q3Q 12 69) fun xs _ h=>((q3R xs.1).trans (X5k xs.1).symm).trans h
noncomputable def q3U:List (Nat×F7 S):=[(64,q3q),(65,q3x),(66,qS),(68,q3E),(67,q3L),(69,q3S)]
theorem q3V:Z9n X (q3U):=⟨q3r,q3y,qT,q3F,q3M,q3T,trivial⟩
abbrev q3W {R:Type}:Z27 S R:=Zgi
theorem q3X {R:Type}:Z3J X (q3W (R:=R)):=ZgQ X
def q3Y:Key:=⟨[51],51,none,[0,0,1,0,1,1,1,1,1,1],0,39⟩
def q3Z:StT S:=⟨(N (N L (some (.ptr 0 0)) (N (N L vN L) none L)) none (N (N (N L (some (.rs 39 0)) L) none L) none L)),o1f,40⟩
def q40:Way S:=⟨.ret,⟨v1m,oW,81⟩,[.int,.int,.int,(.lst .str),(.st 20),(.lst .str),(.st 18)]⟩
def q41:Way S:=⟨.ret,⟨v1m,oW,72⟩,[.int,.int,.int,(.lst .str),(.st 20),(.lst .str),(.st 18)]⟩
def q42:Way S:=⟨(.exit 0),⟨(N (N L (some (.ptr 0 0)) L) none L),o1f,45⟩,[(.lst .str),(.st 20)]⟩
def q43:LE S:=⟨q3Y,q3Z,[.int,(.lst .str),(.st 20)],[q40,q41,q42]⟩
def q44 (x:t15):((Int×Int×Int×(List ByteArray)×(List ByteArray)×Z5)⊕(Int×Int×Int×(List ByteArray)×(List ByteArray)×Z5)⊕(List ByteArray))→t8:=Sum.elim (fun y0=>(.inl (y0.1,y0.2.1,y0.2.2.1,y0.2.2.2.1,x.2.2,y0.2.2.2.2.1,y0.2.2.2.2.2))) (Sum.elim (fun y1=>(.inr (.inl (y1.1,y1.2.1,y1.2.2.1,y1.2.2.2.1,x.2.2,y1.2.2.2.2.1,y1.2.2.2.2.2)))) (fun y2=>(.inr (.inr (y2,x.2.2)))))
noncomputable def q45 {R:Type} (x:t15) (k:t8→Option R):Option R:=(X2w x.2.2 (x.1,x.2.1)).bind (Sum.elim (fun y0=>k (.inl (y0.1,y0.2.1,y0.2.2.1,y0.2.2.2.1,x.2.2,y0.2.2.2.2.1,y0.2.2.2.2.2))) (Sum.elim (fun y1=>k (.inr (.inl (y1.1,y1.2.1,y1.2.2.1,y1.2.2.2.1,x.2.2,y1.2.2.2.2.1,y1.2.2.2.2.2)))) (fun y2=>k (.inr (.inr (y2,x.2.2))))))
def q46 (x:t15) (v:(Int×(List ByteArray))):t15:=(v.1,v.2,x.2.2)
theorem q47 (x:t15):LE.step X q43 q3U q0 q3W 12 x=Wy x.2.2 x.1 x.2.1 (fun w0 w1=>(Sum.inl (w0,w1,x.2.2))) (fun p0 p1 p2 p3 p4 p5=>(Sum.inr (.inl (p0,p1,p2,p3,x.2.2,p4,p5)))) (fun p0 p1 p2 p3 p4 p5=>(Sum.inr (.inr (.inl (p0,p1,p2,p3,x.2.2,p4,p5))))) (fun p0=>(Sum.inr (.inr (.inr (p0,x.2.2))))):=by kernel_rfl
theorem q49 {R:Type} (x:t15) (k:t8→Option R) (r:R) (h:q45 x k=some r):∃ o,Z5s (LE.step X q43 q3U q0 q3W 12) x o∧k o=some r:=by
 obtain ⟨o,h1,h2⟩:=Z0 h
 exact ⟨q44 x o,Zhl (st:=fun (x:t15)=>Wh x.2.2) (prj:=fun x=>(x.1,x.2.1)) (emb:=q46) (embO:=q44) (fun x=>(q47 x).trans (by unfold Wh Wy;simp only [Zhd,Zh8,Zhe,Option.map_some,Option.map_none];rfl)) (fun _ _=>rfl) (fun _ _=>rfl) (fun _ _ _=>rfl) (fun _ _ _=>rfl) (fun _=>rfl) (Z1S.1 h1),by
  first
  | exact h2
  | (rcases o with o|o|o<;>exact h2)⟩
noncomputable def q4a {R:Type}:Z27 S R:=LE.ls X q43 q45 q3W
theorem q4b {R:Type}:Z3J X (q4a (R:=R)):=Zhq xok q3V (e:=q43) q1 q3X q49 q3X
def q4c:Key:=⟨[51],51,none,[0,0,1,0,1,1,1,1,1,1,1,1],2,50⟩
def q4d:StT S:=⟨(N (N (N L none (N L vN L)) (some (.ptr 0 0)) L) none L),o1f,50⟩
def q4e:Way S:=⟨.ret,⟨v1m,o1f,69⟩,[.int,.int,.int,(.lst .str),(.st 20)]⟩
def q4f:Way S:=⟨(.exit 2),⟨L,o1f,55⟩,[(.lst .str),(.st 20)]⟩
def q4g:LE S:=⟨q4c,q4d,[.int,(.lst .str),(.st 20)],[q4e,q4f]⟩
def q4h (x:t15):((Int×Int×Int)⊕Unit)→tH:=Sum.elim (fun y0=>(.inl (y0.1,y0.2.1,y0.2.2,x.2.1,x.2.2))) (fun y1=>(.inr (x.2.1,x.2.2)))
noncomputable def q4i {R:Type} (x:t15) (k:tH→Option R):Option R:=(X2x x.2.2 x.1).bind (Sum.elim (fun y0=>k (.inl (y0.1,y0.2.1,y0.2.2,x.2.1,x.2.2))) (fun y1=>k (.inr (x.2.1,x.2.2))))
def q4j (x:t15) (v:Int):t15:=(v,x.2.1,x.2.2)
theorem q4k (x:t15):LE.step X q4g q3U q0 q4a 12 x=Wz x.2.2 x.1 (fun w0=>(Sum.inl (w0,x.2.1,x.2.2))) (fun p0 p1 p2=>(Sum.inr (.inl (p0,p1,p2,x.2.1,x.2.2)))) (Sum.inr (.inr (x.2.1,x.2.2))):=by kernel_rfl
theorem q4m {R:Type} (x:t15) (k:tH→Option R) (r:R) (h:q4i x k=some r):∃ o,Z5s (LE.step X q4g q3U q0 q4a 12) x o∧k o=some r:=by
 obtain ⟨o,h1,h2⟩:=Z0 h
 exact ⟨q4h x o,Zhl (st:=fun (x:t15)=>Wi x.2.2) (prj:=fun x=>x.1) (emb:=q4j) (embO:=q4h) (fun x=>(q4k x).trans (by unfold Wi Wz;simp only [Zhd,Zh8,Zhe,Option.map_some,Option.map_none];rfl)) (fun _ _=>rfl) (fun _ _=>rfl) (fun _ _ _=>rfl) (fun _ _ _=>rfl) (fun _=>rfl) (Z1S.1 h1),by
  first
  | exact h2
  | (rcases o with o|o<;>exact h2)⟩
noncomputable def q4n {R:Type}:Z27 S R:=LE.ls X q4g q4i q4a
theorem q4o {R:Type}:Z3J X (q4n (R:=R)):=Zhq xok q3V (e:=q4g) q1 q4b q4m q4b
theorem q4p (x0:ZJ):Zhs X q3U [(.st 20)] [(.int .i64),(.int .i64),(.int .i64)] q0 q4n 12 51 (x0,())=X1M x0:=by kernel_rfl
noncomputable def q4q:F7 S:=⟨[(.st 20)],[(.int .i64),(.int .i64),(.int .i64)],fun xs=>X46 xs.1⟩
theorem q4r:Z7Q X 51 q4q:=Zho (Zhn xok q3V q1 q4o 12 51) fun xs _ h=>((q4p xs.1).trans (X4X xs.1).symm).trans h
noncomputable def q4s:List (Nat×F7 S):=[]
theorem q4t:Z9n X (q4s):=trivial
abbrev q4u {R:Type}:Z27 S R:=Zgi
theorem q4v {R:Type}:Z3J X (q4u (R:=R)):=ZgQ X
def q4w:Key:=⟨[30],30,none,[0,0,1,0,1,1],0,4⟩
def q4x:StT S:=⟨(N (N L vN (N L vN L)) none (N L (some (.ptr 0 0)) (N L vN L))),(N L oj L),4⟩
def q4y:Way S:=⟨(.exit 0),⟨v1v,(N L oj L),9⟩,[.int,(.st 4)]⟩
def q4z:LE S:=⟨q4w,q4x,[.int,.int,.int,(.st 4)],[q4y]⟩
def q4A (x:t1b):Int→(Int×Zw):=fun y0=>(y0,x.2.2.2)
noncomputable def q4B {R:Type} (x:t1b) (k:(Int×Zw)→Option R):Option R:=(X3h x.1 x.2.2.2 (x.2.1,x.2.2.1)).bind (fun y0=>k (y0,x.2.2.2))
def q4C (x:t1b) (v:(Int×Int)):t1b:=(x.1,v.1,v.2,x.2.2.2)
theorem q4D (x:t1b):LE.step X q4z q4s q0 q4u 12 x=XN x.1 x.2.2.2 x.2.1 x.2.2.1 (fun w0 w1=>(Sum.inl (x.1,w0,w1,x.2.2.2))) (fun p0=>(Sum.inr (p0,x.2.2.2))):=by kernel_rfl
theorem q4F {R:Type} (x:t1b) (k:(Int×Zw)→Option R) (r:R) (h:q4B x k=some r):∃ o,Z5s (LE.step X q4z q4s q0 q4u 12) x o∧k o=some r:=by
 obtain ⟨o,h1,h2⟩:=Z0 h
 exact ⟨q4A x o,Zhl (st:=fun (x:t1b)=>XJ x.1 x.2.2.2) (prj:=fun x=>(x.2.1,x.2.2.1)) (emb:=q4C) (embO:=q4A) (fun x=>(q4D x).trans (by unfold XJ XN;simp only [Zhd,Zh8,Zhe,Option.map_some,Option.map_none];rfl)) (fun _ _=>rfl) (fun _ _=>rfl) (fun _ _ _=>rfl) (fun _ _ _=>rfl) (fun _=>rfl) (Z1S.1 h1),by
  first
  | exact h2
  | (rcases o with o<;>exact h2)⟩
noncomputable def q4G {R:Type}:Z27 S R:=LE.ls X q4z q4B q4u
theorem q4H {R:Type}:Z3J X (q4G (R:=R)):=Zhq xok q4t (e:=q4z) q1 q4v q4F q4v
theorem q4I (x0:Zw) (x1:Int):Zhs X q4s [(.st 4),(.int .i64)] [(.int .i64)] q0 q4G 12 30 (x0,x1,())=X1e x0 x1:=by kernel_rfl
noncomputable def q4J:F7 S:=⟨[(.st 4),(.int .i64)],[(.int .i64)],fun xs=>X3d xs.1 xs.2.1⟩
theorem q4K:Z7Q X 30 q4J:=Zho (Zhn xok q4t q1 q4H 12 30) fun xs _ h=>((q4I xs.1 xs.2.1).trans (X4l xs.1 xs.2.1).symm).trans h
noncomputable def q4L:List (Nat×F7 S):=[(65,q3x),(30,q4J)]
theorem q4M:Z9n X (q4L):=⟨q3y,q4K,trivial⟩
abbrev q4N {R:Type}:Z27 S R:=Zgi
theorem q4O {R:Type}:Z3J X (q4N (R:=R)):=ZgQ X
theorem q4P (x0:ZJ) (x1:Zm):Zhs X q4L [(.st 20),(.st 21)] [(.int .i64)] q0 q4N 12 60 (x0,x1,())=X1N x0 x1:=by kernel_rfl
noncomputable def q4Q:F7 S:=⟨[(.st 20),(.st 21)],[(.int .i64)],fun xs=>X47 xs.1 xs.2.1⟩
theorem q4R:Z7Q X 60 q4Q:=Zho (Zhn xok q4M q1 q4O 12 60) fun xs _ h=>((q4P xs.1 xs.2.1).trans (X4Z xs.1 xs.2.1).symm).trans h
noncomputable def q4S:List (Nat×F7 S):=[(51,q4q),(60,q4Q)]
theorem q4T:Z9n X (q4S):=⟨q4r,q4R,trivial⟩
abbrev q4U {R:Type}:Z27 S R:=Zgi
theorem q4V {R:Type}:Z3J X (q4U (R:=R)):=ZgQ X
def q4W:Key:=⟨[45],45,none,[0,0,1,0,1,1,1,1],0,22⟩
def q4X:StT S:=⟨(N (N L vK (N (N L vN L) none L)) none (N L (some (.ptr 0 0)) L)),(N L ob L),22⟩
def q4Y:Way S:=⟨.ret,⟨v1l,(N L ob L),39⟩,[.int,.int,(.st 20)]⟩
def q4Z:Way S:=⟨(.exit 0),⟨L,(N L ob L),26⟩,[(.st 20)]⟩
def q50:LE S:=⟨q4W,q4X,[(.lst (.st 21)),.int,(.st 20)],[q4Y,q4Z]⟩
def q51 (x:t17):((Int×Int)⊕Unit)→((Int×Int×ZJ)⊕ZJ):=Sum.elim (fun y0=>(.inl (y0.1,y0.2,x.2.2))) (fun y1=>(.inr x.2.2))
noncomputable def q52 {R:Type} (x:t17) (k:((Int×Int×ZJ)⊕ZJ)→Option R):Option R:=(X1h x.1 x.2.2 x.2.1).bind (Sum.elim (fun y0=>k (.inl (y0.1,y0.2,x.2.2))) (fun y1=>k (.inr x.2.2)))
def q53 (x:t17) (v:Int):t17:=(x.1,v,x.2.2)
theorem q54 (x:t17):LE.step X q50 q4S q0 q4U 12 x=Xf x.1 x.2.2 x.2.1 (fun w0=>(Sum.inl (x.1,w0,x.2.2))) (fun p0 p1=>(Sum.inr (.inl (p0,p1,x.2.2)))) (Sum.inr (.inr x.2.2)):=by kernel_rfl
theorem q56 {R:Type} (x:t17) (k:((Int×Int×ZJ)⊕ZJ)→Option R) (r:R) (h:q52 x k=some r):∃ o,Z5s (LE.step X q50 q4S q0 q4U 12) x o∧k o=some r:=by
 obtain ⟨o,h1,h2⟩:=Z0 h
 exact ⟨q51 x o,Zhl (st:=fun (x:t17)=>Xa x.1 x.2.2) (prj:=fun x=>x.2.1) (emb:=q53) (embO:=q51) (fun x=>(q54 x).trans (by unfold Xa Xf;simp only [Zhd,Zh8,Zhe,Option.map_some,Option.map_none];rfl)) (fun _ _=>rfl) (fun _ _=>rfl) (fun _ _ _=>rfl) (fun _ _ _=>rfl) (fun _=>rfl) (Z1S.1 h1),by
  first
  | exact h2
  | (rcases o with o|o<;>exact h2)⟩
noncomputable def q57 {R:Type}:Z27 S R:=LE.ls X q50 q52 q4U
theorem q58 {R:Type}:Z3J X (q57 (R:=R)):=Zhq xok q4T (e:=q50) q1 q4V q56 q4V
theorem q59 (x0:ZJ) (x1:List Zm):Zhs X q4S [(.st 20),(.sl (.st 21))] [(.int .i64),(.int .i64)] q0 q57 12 45 (x0,x1,())=XO x0 x1:=by kernel_rfl
noncomputable def q5a:F7 S:=⟨[(.st 20),(.sl (.st 21))],[(.int .i64),(.int .i64)],fun xs=>X1W xs.1 xs.2.1⟩
theorem q5b:Z7Q X 45 q5a:=Zho (Zhn xok q4T q1 q58 12 45) fun xs _ h=>((q59 xs.1 xs.2.1).trans (X3j xs.1 xs.2.1).symm).trans h
noncomputable def q5c:List (Nat×F7 S):=[(45,q5a)]
theorem q5d:Z9n X (q5c):=⟨q5b,trivial⟩
abbrev q5e {R:Type}:Z27 S R:=Zgi
theorem q5f {R:Type}:Z3J X (q5e (R:=R)):=ZgQ X
theorem q5g (x0:ZJ) (x1:List Zm):Zhs X q5c [(.st 20),(.sl (.st 21))] [.bool] q0 q5e 12 22 (x0,x1,())=X23 x0 x1:=by kernel_rfl
noncomputable def q5h:F7 S:=⟨[(.st 20),(.sl (.st 21))],[.bool],fun xs=>X4v xs.1 xs.2.1⟩
theorem q5i:Z7Q X 22 q5h:=Zho (Zhn xok q5d q1 q5f 12 22) fun xs _ h=>((q5g xs.1 xs.2.1).trans (X5e xs.1 xs.2.1).symm).trans h
noncomputable def q5j:List (Nat×F7 S):=[]
theorem q5k:Z9n X (q5j):=trivial
abbrev q5l {R:Type}:Z27 S R:=Zgi
theorem q5m {R:Type}:Z3J X (q5l (R:=R)):=ZgQ X
theorem q5n (x0:Int) (x1:Int):Zhs X q5j [(.int .i64),(.int .i64)] [(.st 5)] q0 q5l 12 19 (x0,x1,())=X2W x0 x1:=by kernel_rfl
noncomputable def q5o:F7 S:=⟨[(.int .i64),(.int .i64)],[(.st 5)],fun xs=>X3b xs.1 xs.2.1⟩
theorem q5p:Z7Q X 19 q5o:=Zho (Zhn xok q5k q1 q5m 12 19) fun xs _ h=>((q5n xs.1 xs.2.1).trans (X5g xs.1 xs.2.1).symm).trans h
noncomputable def q5q:List (Nat×F7 S):=[]
theorem q5r:Z9n X (q5q):=trivial
abbrev q5s {R:Type}:Z27 S R:=Zgi
theorem q5t {R:Type}:Z3J X (q5s (R:=R)):=ZgQ X
def q5u:Key:=⟨[102],102,none,[0,0,1,0,1,1],0,4⟩
def q5v:StT S:=⟨(N (N (N (N L (some (.iter 3)) L) (some (.int .i32 0)) L) none L) vG L),o1w,4⟩
def q5w:Way S:=⟨.ret,⟨(N L none (N L vO L)),o1w,23⟩,[.bool,.str,.nat]⟩
def q5x:Way S:=⟨(.exit 0),⟨(N (N (N L (some (.int .i32 0)) L) none L) vG L),o1w,6⟩,[.int,.str,.str,.nat]⟩
def q5y:LE S:=⟨q5u,q5v,[.int,.str,.str,.nat],[q5w,q5x]⟩
def q5z (x:tY):((Bool×Nat)⊕(Int×Nat))→tK:=Sum.elim (fun y0=>(.inl (y0.1,x.2.2.1,y0.2))) (fun y1=>(.inr (y1.1,x.2.1,x.2.2.1,y1.2)))
noncomputable def q5A {R:Type} (x:tY) (k:tK→Option R):Option R:=(X3T x.2.1 x.2.2.1 (x.1,x.2.2.2)).bind (Sum.elim (fun y0=>k (.inl (y0.1,x.2.2.1,y0.2))) (fun y1=>k (.inr (y1.1,x.2.1,x.2.2.1,y1.2))))
def q5B (x:tY) (v:(Int×Nat)):tY:=(v.1,x.2.1,x.2.2.1,v.2)
theorem q5C (x:tY):LE.step X q5y q5q q0 q5s 12 x=WJ x.2.1 x.2.2.1 x.1 x.2.2.2 (fun w0 w1=>(Sum.inl (w0,x.2.1,x.2.2.1,w1))) (fun p0 p1=>(Sum.inr (.inl (p0,x.2.2.1,p1)))) (fun p0 p1=>(Sum.inr (.inr (p0,x.2.1,x.2.2.1,p1)))):=by kernel_rfl
theorem q5E {R:Type} (x:tY) (k:tK→Option R) (r:R) (h:q5A x k=some r):∃ o,Z5s (LE.step X q5y q5q q0 q5s 12) x o∧k o=some r:=by
 obtain ⟨o,h1,h2⟩:=Z0 h
 exact ⟨q5z x o,Zhl (st:=fun (x:tY)=>WH x.2.1 x.2.2.1) (prj:=fun x=>(x.1,x.2.2.2)) (emb:=q5B) (embO:=q5z) (fun x=>(q5C x).trans (by unfold WH WJ;simp only [Zhd,Zh8,Zhe,Option.map_some,Option.map_none];rfl)) (fun _ _=>rfl) (fun _ _=>rfl) (fun _ _ _=>rfl) (fun _ _ _=>rfl) (fun _=>rfl) (Z1S.1 h1),by
  first
  | exact h2
  | (rcases o with o|o<;>exact h2)⟩
noncomputable def q5F {R:Type}:Z27 S R:=LE.ls X q5y q5A q5s
theorem q5G {R:Type}:Z3J X (q5F (R:=R)):=Zhq xok q5r (e:=q5y) q1 q5t q5E q5t
theorem q5H (x0:ByteArray):Zhs X q5q [.str] [.bool] q0 q5F 12 102 (x0,())=X2s x0:=by kernel_rfl
noncomputable def q5I:F7 S:=⟨[.str],[.bool],fun xs=>X2s xs.1⟩
theorem q5J:Z7Q X 102 q5I:=Zho (Zhn xok q5r q1 q5G 12 102) fun xs _ h=>(q5H xs.1).trans h
noncomputable def q5K:List (Nat×F7 S):=[]
theorem q5L:Z9n X (q5K):=trivial
abbrev q5M {R:Type}:Z27 S R:=Zgi
theorem q5N {R:Type}:Z3J X (q5M (R:=R)):=ZgQ X
def q5O:Key:=⟨[81,2,1,58,2,1,73],81,none,[0,0,1,0,1],0,17⟩
def q5P:StT S:=⟨(N (N (N (N L vN L) none L) (some (.fn (.func 91) [] [(.ptr 0 0),(.ptr 1 0)])) L) (some (.sl (.int .i64) [])) v1t),(N (N L ow L) ow L),17⟩
def q5Q:Way S:=⟨.ret,⟨v1s,(N (N L ow L) ow L),38⟩,[.int,.int,.int]⟩
def q5R:Way S:=⟨(.exit 0),⟨L,(N (N L ow L) ow L),18⟩,[.int,.int]⟩
def q5S:LE S:=⟨q5O,q5P,[.int,(.lst (.int .i64)),.int,.int,.int],[q5Q,q5R]⟩
def q5T (x:tX):(Int⊕Unit)→t13:=Sum.elim (fun y0=>(.inl (y0,x.2.2.2.1,x.2.2.2.2))) (fun y1=>(.inr (x.2.2.2.1,x.2.2.2.2)))
noncomputable def q5U {R:Type} (x:tX) (k:t13→Option R):Option R:=(X4g x.1 x.2.1 x.2.2.2.1 x.2.2.2.2 x.2.2.1).bind (Sum.elim (fun y0=>k (.inl (y0,x.2.2.2.1,x.2.2.2.2))) (fun y1=>k (.inr (x.2.2.2.1,x.2.2.2.2))))
def q5V (x:tX) (v:Int):tX:=(x.1,x.2.1,v,x.2.2.2.1,x.2.2.2.2)
theorem q5W (x:tX):LE.step X q5S q5K q0 q5M 12 x=X19 x.1 x.2.1 x.2.2.2.1 x.2.2.2.2 x.2.2.1 (fun w0=>(Sum.inl (x.1,x.2.1,w0,x.2.2.2.1,x.2.2.2.2))) (fun p0=>(Sum.inr (.inl (p0,x.2.2.2.1,x.2.2.2.2)))) (Sum.inr (.inr (x.2.2.2.1,x.2.2.2.2))):=by kernel_rfl
theorem q5Y {R:Type} (x:tX) (k:t13→Option R) (r:R) (h:q5U x k=some r):∃ o,Z5s (LE.step X q5S q5K q0 q5M 12) x o∧k o=some r:=by
 obtain ⟨o,h1,h2⟩:=Z0 h
 exact ⟨q5T x o,Zhl (st:=fun (x:tX)=>X14 x.1 x.2.1 x.2.2.2.1 x.2.2.2.2) (prj:=fun x=>x.2.2.1) (emb:=q5V) (embO:=q5T) (fun x=>(q5W x).trans (by unfold X14 X19;simp only [Zhd,Zh8,Zhe,Option.map_some,Option.map_none];rfl)) (fun _ _=>rfl) (fun _ _=>rfl) (fun _ _ _=>rfl) (fun _ _ _=>rfl) (fun _=>rfl) (Z1S.1 h1),by
  first
  | exact h2
  | (rcases o with o|o<;>exact h2)⟩
noncomputable def q5Z {R:Type}:Z27 S R:=LE.ls X q5S q5U q5M
theorem q60 {R:Type}:Z3J X (q5Z (R:=R)):=Zhq xok q5L (e:=q5S) q1 q5N q5Y q5N
theorem q61 (x0:Int) (x1:Int) (x2:List Int):Zhs X q5K [(.int .i64),(.int .i64),(.sl (.int .i64))] [.bool] q0 q5Z 12 73 (x0,x1,x2,())=X13 x0 x1 x2:=by kernel_rfl
noncomputable def q62:F7 S:=⟨[(.int .i64),(.int .i64),(.sl (.int .i64))],[.bool],fun xs=>X13 xs.1 xs.2.1 xs.2.2.1⟩
theorem q63:Z7Q X 73 q62:=Zho (Zhn xok q5L q1 q60 12 73) fun xs _ h=>(q61 xs.1 xs.2.1 xs.2.2.1).trans h
noncomputable def q64:List (Nat×F7 S):=[(73,q62)]
theorem q65:Z9n X (q64):=⟨q63,trivial⟩
abbrev q66 {R:Type}:Z27 S R:=Zgi
theorem q67 {R:Type}:Z3J X (q66 (R:=R)):=ZgQ X
def q68:Key:=⟨[90,2,1,71,2,1,53],90,none,[0,0,1,0,1],0,16⟩
def q69:StT S:=⟨(N (N (N (N L vN L) none L) (some (.fn (.func 72) [] [(.ptr 0 0)])) L) vM v1t),(N L ow L),16⟩
def q6a:Way S:=⟨.ret,⟨v1s,(N (N L none (N (N L none (N L ok L)) none L)) ow (N L none (N o1x none L))),39⟩,[.int,(.st 2),.int,(.lst (.int .i64))]⟩
def q6b:Way S:=⟨(.exit 0),⟨L,(N L ow L),17⟩,[.int]⟩
def q6c:LE S:=⟨q68,q69,[.int,(.lst (.st 2)),.int,.int],[q6a,q6b]⟩
def q6d (x:t16):((Int×Zu×(List Int))⊕Unit)→((Int×Zu×Int×(List Int))⊕Int):=Sum.elim (fun y0=>(.inl (y0.1,y0.2.1,x.2.2.2,y0.2.2))) (fun y1=>(.inr x.2.2.2))
noncomputable def q6e {R:Type} (x:t16) (k:((Int×Zu×Int×(List Int))⊕Int)→Option R):Option R:=(X4e x.1 x.2.1 x.2.2.2 x.2.2.1).bind (Sum.elim (fun y0=>k (.inl (y0.1,y0.2.1,x.2.2.2,y0.2.2))) (fun y1=>k (.inr x.2.2.2)))
def q6f (x:t16) (v:Int):t16:=(x.1,x.2.1,v,x.2.2.2)
theorem q6g (x:t16):LE.step X q6c q64 q0 q66 12 x=X18 x.1 x.2.1 x.2.2.2 x.2.2.1 (fun w0=>(Sum.inl (x.1,x.2.1,w0,x.2.2.2))) (fun p0 p1 p2=>(Sum.inr (.inl (p0,p1,x.2.2.2,p2)))) (Sum.inr (.inr x.2.2.2)):=by kernel_rfl
theorem q6i {R:Type} (x:t16) (k:((Int×Zu×Int×(List Int))⊕Int)→Option R) (r:R) (h:q6e x k=some r):∃ o,Z5s (LE.step X q6c q64 q0 q66 12) x o∧k o=some r:=by
 obtain ⟨o,h1,h2⟩:=Z0 h
 exact ⟨q6d x o,Zhl (st:=fun (x:t16)=>X12 x.1 x.2.1 x.2.2.2) (prj:=fun x=>x.2.2.1) (emb:=q6f) (embO:=q6d) (fun x=>(q6g x).trans (by unfold X12 X18;simp only [Zhd,Zh8,Zhe,Option.map_some,Option.map_none];rfl)) (fun _ _=>rfl) (fun _ _=>rfl) (fun _ _ _=>rfl) (fun _ _ _=>rfl) (fun _=>rfl) (Z1S.1 h1),by
  first
  | exact h2
  | (rcases o with o|o<;>exact h2)⟩
noncomputable def q6j {R:Type}:Z27 S R:=LE.ls X q6c q6e q66
theorem q6k {R:Type}:Z3J X (q6j (R:=R)):=Zhq xok q65 (e:=q6c) q1 q67 q6i q67
theorem q6l (x0:Int) (x1:List Zu):Zhs X q64 [(.int .i64),(.sl (.st 2))] [.bool] q0 q6j 12 53 (x0,x1,())=X3B x0 x1:=by kernel_rfl
noncomputable def q6m:F7 S:=⟨[(.int .i64),(.sl (.st 2))],[.bool],fun xs=>X3B xs.1 xs.2.1⟩
theorem q6n:Z7Q X 53 q6m:=Zho (Zhn xok q65 q1 q6k 12 53) fun xs _ h=>(q6l xs.1 xs.2.1).trans h
noncomputable def q6o:List (Nat×F7 S):=[(73,q62)]
theorem q6p:Z9n X (q6o):=⟨q63,trivial⟩
abbrev q6q {R:Type}:Z27 S R:=Zgi
theorem q6r {R:Type}:Z3J X (q6q (R:=R)):=ZgQ X
def q6s:Key:=⟨[103],103,none,[0,0,1,0,1,1,1],0,9⟩
def q6t:StT S:=⟨(N (N (N L vN (N L vN L)) none L) none (N (N L none (N L vN L)) none (N (N L (some (.sl (.st 3) [])) L) none L))),o1x,9⟩
def q6u:Way S:=⟨.ret,⟨(N L none (N L vN L)),(N (N (N L ot L) none L) none (N (N (N (N L ot L) none L) none (N L ol L)) none L)),26⟩,[.int,(.lst (.int .i64)),(.lst (.int .i64)),(.st 3)]⟩
def q6v:Way S:=⟨.ret,⟨(N L none (N L vN L)),o11,26⟩,[.int,(.lst (.int .i64)),(.lst (.int .i64)),(.lst (.int .i64)),(.st 3)]⟩
def q6w:Way S:=⟨.ret,⟨(N L none (N L vN L)),o11,31⟩,[.int,(.lst (.int .i64)),(.lst (.int .i64)),(.lst (.int .i64)),(.st 3)]⟩
def q6x:Way S:=⟨(.exit 0),⟨L,o1x,10⟩,[(.lst (.int .i64))]⟩
def q6y:LE S:=⟨q6s,q6t,[.int,.int,.int,(.lst (.st 3)),(.lst (.int .i64))],[q6u,q6v,q6w,q6x]⟩
def q6z (x:tT):((Int×(List Int)×Zk)⊕(Int×(List Int)×(List Int)×Zk)⊕(Int×(List Int)×(List Int)×Zk)⊕Unit)→t9:=Sum.elim (fun y0=>(.inl (y0.1,x.2.2.2.2,y0.2.1,y0.2.2))) (Sum.elim (fun y1=>(.inr (.inl (y1.1,x.2.2.2.2,y1.2.1,y1.2.2.1,y1.2.2.2)))) (Sum.elim (fun y2=>(.inr (.inr (.inl (y2.1,x.2.2.2.2,y2.2.1,y2.2.2.1,y2.2.2.2))))) (fun y3=>(.inr (.inr (.inr x.2.2.2.2))))))
noncomputable def q6A {R:Type} (x:tT) (k:t9→Option R):Option R:=(X3s x.2.1 x.2.2.2.1 x.2.2.2.2 (x.1,x.2.2.1)).bind (Sum.elim (fun y0=>k (.inl (y0.1,x.2.2.2.2,y0.2.1,y0.2.2))) (Sum.elim (fun y1=>k (.inr (.inl (y1.1,x.2.2.2.2,y1.2.1,y1.2.2.1,y1.2.2.2)))) (Sum.elim (fun y2=>k (.inr (.inr (.inl (y2.1,x.2.2.2.2,y2.2.1,y2.2.2.1,y2.2.2.2))))) (fun y3=>k (.inr (.inr (.inr x.2.2.2.2)))))))
def q6B (x:tT) (v:(Int×Int)):tT:=(v.1,x.2.1,v.2,x.2.2.2.1,x.2.2.2.2)
theorem q6C (x:tT):LE.step X q6y q6o q0 q6q 12 x=XZ x.2.1 x.2.2.2.1 x.2.2.2.2 x.1 x.2.2.1 (fun w0 w1=>(Sum.inl (w0,x.2.1,w1,x.2.2.2.1,x.2.2.2.2))) (fun p0 p1 p2=>(Sum.inr (.inl (p0,x.2.2.2.2,p1,p2)))) (fun p0 p1 p2 p3=>(Sum.inr (.inr (.inl (p0,x.2.2.2.2,p1,p2,p3))))) (fun p0 p1 p2 p3=>(Sum.inr (.inr (.inr (.inl (p0,x.2.2.2.2,p1,p2,p3)))))) (Sum.inr (.inr (.inr (.inr x.2.2.2.2)))):=by kernel_rfl
theorem q6E {R:Type} (x:tT) (k:t9→Option R) (r:R) (h:q6A x k=some r):∃ o,Z5s (LE.step X q6y q6o q0 q6q 12) x o∧k o=some r:=by
 obtain ⟨o,h1,h2⟩:=Z0 h
 exact ⟨q6z x o,Zhl (st:=fun (x:tT)=>XQ x.2.1 x.2.2.2.1 x.2.2.2.2) (prj:=fun x=>(x.1,x.2.2.1)) (emb:=q6B) (embO:=q6z) (fun x=>(q6C x).trans (by unfold XQ XZ;simp only [Zhd,Zh8,Zhe,Option.map_some,Option.map_none];rfl)) (fun _ _=>rfl) (fun _ _=>rfl) (fun _ _ _=>rfl) (fun _ _ _=>rfl) (fun _=>rfl) (Z1S.1 h1),by
  first
  | exact h2
  | (rcases o with o|o|o|o<;>exact h2)⟩
noncomputable def q6F {R:Type}:Z27 S R:=LE.ls X q6y q6A q6q
theorem q6G {R:Type}:Z3J X (q6F (R:=R)):=Zhq xok q6p (e:=q6y) q1 q6r q6E q6r
theorem q6H (x0:List Zk):Zhs X q6o [(.sl (.st 3))] [(.int .i64)] q0 q6F 12 103 (x0,())=X2F x0:=by kernel_rfl
noncomputable def q6I:F7 S:=⟨[(.sl (.st 3))],[(.int .i64)],fun xs=>X2F xs.1⟩
theorem q6J:Z7Q X 103 q6I:=Zho (Zhn xok q6p q1 q6G 12 103) fun xs _ h=>(q6H xs.1).trans h
noncomputable def q6K:List (Nat×F7 S):=[(73,q62)]
theorem q6L:Z9n X (q6K):=⟨q63,trivial⟩
abbrev q6M {R:Type}:Z27 S R:=Zgi
theorem q6N {R:Type}:Z3J X (q6M (R:=R)):=ZgQ X
theorem q6O (x0:ZB) (x1:Int):Zhs X q6K [(.st 6),(.int .i64)] [(.int .i64)] q0 q6M 12 110 (x0,x1,())=X4d x0 x1:=by kernel_rfl
noncomputable def q6P:F7 S:=⟨[(.st 6),(.int .i64)],[(.int .i64)],fun xs=>X4d xs.1 xs.2.1⟩
theorem q6Q:Z7Q X 110 q6P:=Zho (Zhn xok q6L q1 q6N 12 110) fun xs _ h=>(q6O xs.1 xs.2.1).trans h
noncomputable def q6R:List (Nat×F7 S):=[]
theorem q6S:Z9n X (q6R):=trivial
abbrev q6T {R:Type}:Z27 S R:=Zgi
theorem q6U {R:Type}:Z3J X (q6T (R:=R)):=ZgQ X
theorem q6V (x0:Zu) (x1:Zu):Zhs X q6R [(.st 2),(.st 2)] [(.st 2)] q0 q6T 12 55 (x0,x1,())=X65 x0 x1:=by kernel_rfl
noncomputable def q6W:F7 S:=⟨[(.st 2),(.st 2)],[(.st 2)],fun xs=>X65 xs.1 xs.2.1⟩
theorem q6X:Z7Q X 55 q6W:=Zho (Zhn xok q6S q1 q6U 12 55) fun xs _ h=>(q6V xs.1 xs.2.1).trans h
noncomputable def q6Y:List (Nat×F7 S):=[]
theorem q6Z:Z9n X (q6Y):=trivial
abbrev q70 {R:Type}:Z27 S R:=Zgi
theorem q71 {R:Type}:Z3J X (q70 (R:=R)):=ZgQ X
theorem q72 (x0:Zu) (x1:Zu):Zhs X q6Y [(.st 2),(.st 2)] [(.int .i64)] q0 q70 12 75 (x0,x1,())=X66 x0 x1:=by kernel_rfl
noncomputable def q73:F7 S:=⟨[(.st 2),(.st 2)],[(.int .i64)],fun xs=>X66 xs.1 xs.2.1⟩
theorem q74:Z7Q X 75 q73:=Zho (Zhn xok q6Z q1 q71 12 75) fun xs _ h=>(q72 xs.1 xs.2.1).trans h
noncomputable def q75:List (Nat×F7 S):=[(73,q62),(53,q6m),(110,q6P),(55,q6W),(75,q73)]
theorem q76:Z9n X (q75):=⟨q63,q6n,q6Q,q6X,q74,trivial⟩
abbrev q77 {R:Type}:Z27 S R:=Zgi
theorem q78 {R:Type}:Z3J X (q77 (R:=R)):=ZgQ X
def q79:Key:=⟨[27,6,4,113,1,104],104,(some 27),[0,0,1,0,1,0,1,0,1,0,1,1,1],3,66⟩
def q7a:StT S:=⟨(N (N L none (N v1t vN L)) none (N (N v1y (some (.ptr 58 0)) L) (some (.ptr 1 0)) (N v1t none L))),oR,66⟩
def q7b:Way S:=⟨(.exit 3),⟨(N (N L none (N L vN L)) none (N (N L (some (.ptr 58 0)) L) (some (.ptr 1 0)) L)),oR,67⟩,[.int,(.st 15),.bool,.int,.bool,(.st 15),.bool,.int,(.st 15),(.st 17)]⟩
def q7c:LE S:=⟨q79,q7a,[.int,.int,(.lst (.st 2)),.int,(.st 15),.bool,.int,.bool,(.st 15),.bool,.int,(.st 15),(.st 17)],[q7b]⟩
def q7d (x:tl):Int→tw:=fun y0=>(y0,x.2.2.2.2.1,x.2.2.2.2.2.1,x.2.2.2.2.2.2.1,x.2.2.2.2.2.2.2.1,x.2.2.2.2.2.2.2.2.1,x.2.2.2.2.2.2.2.2.2.1,x.2.2.2.2.2.2.2.2.2.2.1,x.2.2.2.2.2.2.2.2.2.2.2.1,x.2.2.2.2.2.2.2.2.2.2.2.2)
noncomputable def q7e {R:Type} (x:tl) (k:tw→Option R):Option R:=(W6 x.1 x.2.2.1 x.2.2.2.2.1 x.2.2.2.2.2.1 x.2.2.2.2.2.2.1 x.2.2.2.2.2.2.2.1 x.2.2.2.2.2.2.2.2.1 x.2.2.2.2.2.2.2.2.2.1 x.2.2.2.2.2.2.2.2.2.2.1 x.2.2.2.2.2.2.2.2.2.2.2.1 x.2.2.2.2.2.2.2.2.2.2.2.2 (x.2.1,x.2.2.2.1)).bind (fun y0=>k (y0,x.2.2.2.2.1,x.2.2.2.2.2.1,x.2.2.2.2.2.2.1,x.2.2.2.2.2.2.2.1,x.2.2.2.2.2.2.2.2.1,x.2.2.2.2.2.2.2.2.2.1,x.2.2.2.2.2.2.2.2.2.2.1,x.2.2.2.2.2.2.2.2.2.2.2.1,x.2.2.2.2.2.2.2.2.2.2.2.2))
def q7f (x:tl) (v:(Int×Int)):tl:=(x.1,v.1,x.2.2.1,v.2,x.2.2.2.2.1,x.2.2.2.2.2.1,x.2.2.2.2.2.2.1,x.2.2.2.2.2.2.2.1,x.2.2.2.2.2.2.2.2.1,x.2.2.2.2.2.2.2.2.2.1,x.2.2.2.2.2.2.2.2.2.2.1,x.2.2.2.2.2.2.2.2.2.2.2.1,x.2.2.2.2.2.2.2.2.2.2.2.2)
theorem q7g (x:tl):LE.step X q7c q75 q0 q77 12 x=Xk x.1 x.2.2.1 x.2.2.2.2.1 x.2.2.2.2.2.1 x.2.2.2.2.2.2.1 x.2.2.2.2.2.2.2.1 x.2.2.2.2.2.2.2.2.1 x.2.2.2.2.2.2.2.2.2.1 x.2.2.2.2.2.2.2.2.2.2.1 x.2.2.2.2.2.2.2.2.2.2.2.1 x.2.2.2.2.2.2.2.2.2.2.2.2 x.2.1 x.2.2.2.1 (fun w0 w1=>(Sum.inl (x.1,w0,x.2.2.1,w1,x.2.2.2.2.1,x.2.2.2.2.2.1,x.2.2.2.2.2.2.1,x.2.2.2.2.2.2.2.1,x.2.2.2.2.2.2.2.2.1,x.2.2.2.2.2.2.2.2.2.1,x.2.2.2.2.2.2.2.2.2.2.1,x.2.2.2.2.2.2.2.2.2.2.2.1,x.2.2.2.2.2.2.2.2.2.2.2.2))) (fun p0=>(Sum.inr (p0,x.2.2.2.2.1,x.2.2.2.2.2.1,x.2.2.2.2.2.2.1,x.2.2.2.2.2.2.2.1,x.2.2.2.2.2.2.2.2.1,x.2.2.2.2.2.2.2.2.2.1,x.2.2.2.2.2.2.2.2.2.2.1,x.2.2.2.2.2.2.2.2.2.2.2.1,x.2.2.2.2.2.2.2.2.2.2.2.2))):=by kernel_rfl
theorem q7i {R:Type} (x:tl) (k:tw→Option R) (r:R) (h:q7e x k=some r):∃ o,Z5s (LE.step X q7c q75 q0 q77 12) x o∧k o=some r:=by
 obtain ⟨o,h1,h2⟩:=Z0 h
 exact ⟨q7d x o,Zhl (st:=fun (x:tl)=>Xd x.1 x.2.2.1 x.2.2.2.2.1 x.2.2.2.2.2.1 x.2.2.2.2.2.2.1 x.2.2.2.2.2.2.2.1 x.2.2.2.2.2.2.2.2.1 x.2.2.2.2.2.2.2.2.2.1 x.2.2.2.2.2.2.2.2.2.2.1 x.2.2.2.2.2.2.2.2.2.2.2.1 x.2.2.2.2.2.2.2.2.2.2.2.2) (prj:=fun x=>(x.2.1,x.2.2.2.1)) (emb:=q7f) (embO:=q7d) (fun x=>(q7g x).trans (by unfold Xd Xk;simp only [Zhd,Zh8,Zhe,Option.map_some,Option.map_none];rfl)) (fun _ _=>rfl) (fun _ _=>rfl) (fun _ _ _=>rfl) (fun _ _ _=>rfl) (fun _=>rfl) (Z1S.1 h1),by
  first
  | exact h2
  | (rcases o with o<;>exact h2)⟩
noncomputable def q7j {R:Type}:Z27 S R:=LE.ls X q7c q7e q77
theorem q7k {R:Type}:Z3J X (q7j (R:=R)):=Zhq xok q76 (e:=q7c) q1 q78 q7i q78
def q7l:Key:=⟨[113,1,104],113,none,[0,0,1,1],0,45⟩
def q7m:StT S:=⟨(N (N (N L (some (.ptr 38 0)) (N (N L vN L) none L)) none L) (some (.yld 27)) (N v1s none v1y)),oS,45⟩
def q7n:Way S:=⟨.ret,⟨L,(N (N (N (N L none (N L o9 L)) none (N L none (N L (some (.loop 104 (N (N (N (N (N L vO L) none L) vN L) (some (.ptr 0 0)) (N (N L none (N L vO L)) none L)) vn (N (N (N L vO L) none (N L none (N L vf L))) (some (.ptr 1 0)) L)) (29::[]) .skip .skip 1 .ret (1::(104::[])) (0::(1::(0::(1::(1::(1::[])))))))) L))) ou L) o9 (N (N (N (N L none (N L ok L)) none L) none L) none (N (N L none (N L none (N L oa L))) ot o1z))),76⟩,[(.st 15),.bool,.int,.bool,(.st 15),.bool,.int,(.st 15),(.st 2),(.st 17),(.lst (.int .i64)),(.st 2)]⟩
def q7o:Way S:=⟨(.exit 0),⟨L,oS,46⟩,[(.st 15),.bool,.int,.bool,(.st 15),.bool,.int,(.st 15),(.lst (.int .i64)),(.st 2)]⟩
def q7p:LE S:=⟨q7l,q7m,[.int,.int,(.lst (.st 2)),(.st 15),.bool,.int,.bool,(.st 15),.bool,.int,(.st 15),(.lst (.int .i64)),(.st 2)],[q7n,q7o]⟩
def q7q (x:tk):((Int×Zu×Z6×Zu)⊕Zu)→t6:=Sum.elim (fun y0=>(.inl (x.2.2.2.1,x.2.2.2.2.1,x.2.2.2.2.2.1,x.2.2.2.2.2.2.1,x.2.2.2.2.2.2.2.1,x.2.2.2.2.2.2.2.2.1,y0.1,x.2.2.2.2.2.2.2.2.2.2.1,y0.2.1,y0.2.2.1,x.2.2.2.2.2.2.2.2.2.2.2.1,y0.2.2.2))) (fun y1=>(.inr (x.2.2.2.1,x.2.2.2.2.1,x.2.2.2.2.2.1,x.2.2.2.2.2.2.1,x.2.2.2.2.2.2.2.1,x.2.2.2.2.2.2.2.2.1,x.2.2.2.2.2.2.2.2.2.1,x.2.2.2.2.2.2.2.2.2.2.1,x.2.2.2.2.2.2.2.2.2.2.2.1,y1)))
noncomputable def q7r {R:Type} (x:tk) (k:t6→Option R):Option R:=(X2A x.1 x.2.2.1 x.2.2.2.1 x.2.2.2.2.1 x.2.2.2.2.2.1 x.2.2.2.2.2.2.1 x.2.2.2.2.2.2.2.1 x.2.2.2.2.2.2.2.2.1 x.2.2.2.2.2.2.2.2.2.1 x.2.2.2.2.2.2.2.2.2.2.1 x.2.2.2.2.2.2.2.2.2.2.2.1 (x.2.1,x.2.2.2.2.2.2.2.2.2.2.2.2)).bind (Sum.elim (fun y0=>k (.inl (x.2.2.2.1,x.2.2.2.2.1,x.2.2.2.2.2.1,x.2.2.2.2.2.2.1,x.2.2.2.2.2.2.2.1,x.2.2.2.2.2.2.2.2.1,y0.1,x.2.2.2.2.2.2.2.2.2.2.1,y0.2.1,y0.2.2.1,x.2.2.2.2.2.2.2.2.2.2.2.1,y0.2.2.2))) (fun y1=>k (.inr (x.2.2.2.1,x.2.2.2.2.1,x.2.2.2.2.2.1,x.2.2.2.2.2.2.1,x.2.2.2.2.2.2.2.1,x.2.2.2.2.2.2.2.2.1,x.2.2.2.2.2.2.2.2.2.1,x.2.2.2.2.2.2.2.2.2.2.1,x.2.2.2.2.2.2.2.2.2.2.2.1,y1))))
def q7s (x:tk) (v:(Int×Zu)):tk:=(x.1,v.1,x.2.2.1,x.2.2.2.1,x.2.2.2.2.1,x.2.2.2.2.2.1,x.2.2.2.2.2.2.1,x.2.2.2.2.2.2.2.1,x.2.2.2.2.2.2.2.2.1,x.2.2.2.2.2.2.2.2.2.1,x.2.2.2.2.2.2.2.2.2.2.1,x.2.2.2.2.2.2.2.2.2.2.2.1,v.2)
theorem q7t (x:tk):LE.step X q7p q75 q0 q7j 12 x=Xj x.1 x.2.2.1 x.2.2.2.1 x.2.2.2.2.1 x.2.2.2.2.2.1 x.2.2.2.2.2.2.1 x.2.2.2.2.2.2.2.1 x.2.2.2.2.2.2.2.2.1 x.2.2.2.2.2.2.2.2.2.1 x.2.2.2.2.2.2.2.2.2.2.1 x.2.2.2.2.2.2.2.2.2.2.2.1 x.2.1 x.2.2.2.2.2.2.2.2.2.2.2.2 (fun w0 w1=>(Sum.inl (x.1,w0,x.2.2.1,x.2.2.2.1,x.2.2.2.2.1,x.2.2.2.2.2.1,x.2.2.2.2.2.2.1,x.2.2.2.2.2.2.2.1,x.2.2.2.2.2.2.2.2.1,x.2.2.2.2.2.2.2.2.2.1,x.2.2.2.2.2.2.2.2.2.2.1,x.2.2.2.2.2.2.2.2.2.2.2.1,w1))) (fun p0 p1 p2 p3=>(Sum.inr (.inl (x.2.2.2.1,x.2.2.2.2.1,x.2.2.2.2.2.1,x.2.2.2.2.2.2.1,x.2.2.2.2.2.2.2.1,x.2.2.2.2.2.2.2.2.1,p0,x.2.2.2.2.2.2.2.2.2.2.1,p1,p2,x.2.2.2.2.2.2.2.2.2.2.2.1,p3)))) (fun p0=>(Sum.inr (.inr (x.2.2.2.1,x.2.2.2.2.1,x.2.2.2.2.2.1,x.2.2.2.2.2.2.1,x.2.2.2.2.2.2.2.1,x.2.2.2.2.2.2.2.2.1,x.2.2.2.2.2.2.2.2.2.1,x.2.2.2.2.2.2.2.2.2.2.1,x.2.2.2.2.2.2.2.2.2.2.2.1,p0)))):=by kernel_rfl
theorem q7v {R:Type} (x:tk) (k:t6→Option R) (r:R) (h:q7r x k=some r):∃ o,Z5s (LE.step X q7p q75 q0 q7j 12) x o∧k o=some r:=by
 obtain ⟨o,h1,h2⟩:=Z0 h
 exact ⟨q7q x o,Zhl (st:=fun (x:tk)=>Xc x.1 x.2.2.1 x.2.2.2.1 x.2.2.2.2.1 x.2.2.2.2.2.1 x.2.2.2.2.2.2.1 x.2.2.2.2.2.2.2.1 x.2.2.2.2.2.2.2.2.1 x.2.2.2.2.2.2.2.2.2.1 x.2.2.2.2.2.2.2.2.2.2.1 x.2.2.2.2.2.2.2.2.2.2.2.1) (prj:=fun x=>(x.2.1,x.2.2.2.2.2.2.2.2.2.2.2.2)) (emb:=q7s) (embO:=q7q) (fun x=>(q7t x).trans (by unfold Xc Xj;simp only [Zhd,Zh8,Zhe,Option.map_some,Option.map_none];rfl)) (fun _ _=>rfl) (fun _ _=>rfl) (fun _ _ _=>rfl) (fun _ _ _=>rfl) (fun _=>rfl) (Z1S.1 h1),by
  first
  | exact h2
  | (rcases o with o|o<;>exact h2)⟩
noncomputable def q7w {R:Type}:Z27 S R:=LE.ls X q7p q7r q7j
theorem q7x {R:Type}:Z3J X (q7w (R:=R)):=Zhq xok q76 (e:=q7p) q1 q7k q7v q7k
theorem q7y (x0:Z8):Zhs X q75 [(.st 15)] [(.int .i64)] q0 q7w 12 104 (x0,())=X1q x0:=by kernel_rfl
noncomputable def q7z:F7 S:=⟨[(.st 15)],[(.int .i64)],fun xs=>X1q xs.1⟩
theorem q7A:Z7Q X 104 q7z:=Zho (Zhn xok q76 q1 q7x 12 104) fun xs _ h=>(q7y xs.1).trans h
noncomputable def q7B:List (Nat×F7 S):=[(102,q5I),(53,q6m),(103,q6I),(104,q7z)]
theorem q7C:Z9n X (q7B):=⟨q5J,q6n,q6J,q7A,trivial⟩
abbrev q7D {R:Type}:Z27 S R:=Zgi
theorem q7E {R:Type}:Z3J X (q7D (R:=R)):=ZgQ X
def q7F:Key:=⟨[88],88,none,[0,0,1,0,1,1,1,1],0,17⟩
def q7G:StT S:=⟨(N (N v1s (some (.ptr 0 0)) L) none (N v1s none (N (N (N L (some (.sl (.st 4) [])) L) none L) vm L))),o1n,17⟩
def q7H:Way S:=⟨.ret,⟨v1m,o1c,57⟩,[.int,.int,.int,(.st 4),(.st 8),(.mp .str (.int .i64))]⟩
def q7I:Way S:=⟨.ret,⟨v1m,o1c,62⟩,[.int,.int,.int,(.st 4),(.st 8),(.mp .str (.int .i64))]⟩
def q7J:Way S:=⟨.ret,⟨v1m,o12,63⟩,[.int,.int,.int,(.st 4),(.st 8),(.mp .str (.int .i64)),(.lst (.st 2))]⟩
def q7K:Way S:=⟨.ret,⟨v1m,o12,66⟩,[.int,.int,.int,(.st 4),(.st 8),(.mp .str (.int .i64)),(.lst (.st 2))]⟩
def q7L:Way S:=⟨(.exit 0),⟨(N (N L (some (.ptr 0 0)) L) none (N L none (N L vm L))),o1n,18⟩,[(.st 8),(.mp .str (.int .i64))]⟩
def q7M:LE S:=⟨q7F,q7G,[.int,.int,(.lst (.st 4)),(.st 8),(.mp .str (.int .i64))],[q7H,q7I,q7J,q7K,q7L]⟩
def q7N (x:tL):((Int×Int×Int×Zw×t1c)⊕(Int×Int×Int×Zw×t1c)⊕(Int×Int×Int×Zw×t1c×(List Zu))⊕(Int×Int×Int×Zw×t1c×(List Zu))⊕t1c)→t0:=Sum.elim (fun y0=>(.inl (y0.1,y0.2.1,y0.2.2.1,y0.2.2.2.1,x.2.2.2.1,y0.2.2.2.2))) (Sum.elim (fun y1=>(.inr (.inl (y1.1,y1.2.1,y1.2.2.1,y1.2.2.2.1,x.2.2.2.1,y1.2.2.2.2)))) (Sum.elim (fun y2=>(.inr (.inr (.inl (y2.1,y2.2.1,y2.2.2.1,y2.2.2.2.1,x.2.2.2.1,y2.2.2.2.2.1,y2.2.2.2.2.2))))) (Sum.elim (fun y3=>(.inr (.inr (.inr (.inl (y3.1,y3.2.1,y3.2.2.1,y3.2.2.2.1,x.2.2.2.1,y3.2.2.2.2.1,y3.2.2.2.2.2)))))) (fun y4=>(.inr (.inr (.inr (.inr (x.2.2.2.1,y4)))))))))
noncomputable def q7O {R:Type} (x:tL) (k:t0→Option R):Option R:=(X3D x.1 x.2.2.1 x.2.2.2.1 (x.2.1,x.2.2.2.2)).bind (Sum.elim (fun y0=>k (.inl (y0.1,y0.2.1,y0.2.2.1,y0.2.2.2.1,x.2.2.2.1,y0.2.2.2.2))) (Sum.elim (fun y1=>k (.inr (.inl (y1.1,y1.2.1,y1.2.2.1,y1.2.2.2.1,x.2.2.2.1,y1.2.2.2.2)))) (Sum.elim (fun y2=>k (.inr (.inr (.inl (y2.1,y2.2.1,y2.2.2.1,y2.2.2.2.1,x.2.2.2.1,y2.2.2.2.2.1,y2.2.2.2.2.2))))) (Sum.elim (fun y3=>k (.inr (.inr (.inr (.inl (y3.1,y3.2.1,y3.2.2.1,y3.2.2.2.1,x.2.2.2.1,y3.2.2.2.2.1,y3.2.2.2.2.2)))))) (fun y4=>k (.inr (.inr (.inr (.inr (x.2.2.2.1,y4))))))))))
def q7P (x:tL) (v:(Int×t1c)):tL:=(x.1,v.1,x.2.2.1,x.2.2.2.1,v.2)
theorem q7Q (x:tL):LE.step X q7M q7B q0 q7D 12 x=Wm x.1 x.2.2.1 x.2.2.2.1 x.2.1 x.2.2.2.2 (fun w0 w1=>(Sum.inl (x.1,w0,x.2.2.1,x.2.2.2.1,w1))) (fun p0 p1 p2 p3 p4=>(Sum.inr (.inl (p0,p1,p2,p3,x.2.2.2.1,p4)))) (fun p0 p1 p2 p3 p4=>(Sum.inr (.inr (.inl (p0,p1,p2,p3,x.2.2.2.1,p4))))) (fun p0 p1 p2 p3 p4 p5=>(Sum.inr (.inr (.inr (.inl (p0,p1,p2,p3,x.2.2.2.1,p4,p5)))))) (fun p0 p1 p2 p3 p4 p5=>(Sum.inr (.inr (.inr (.inr (.inl (p0,p1,p2,p3,x.2.2.2.1,p4,p5))))))) (fun p0=>(Sum.inr (.inr (.inr (.inr (.inr (x.2.2.2.1,p0))))))):=by kernel_rfl
theorem q7S {R:Type} (x:tL) (k:t0→Option R) (r:R) (h:q7O x k=some r):∃ o,Z5s (LE.step X q7M q7B q0 q7D 12) x o∧k o=some r:=by
 obtain ⟨o,h1,h2⟩:=Z0 h
 exact ⟨q7N x o,Zhl (st:=fun (x:tL)=>W4 x.1 x.2.2.1 x.2.2.2.1) (prj:=fun x=>(x.2.1,x.2.2.2.2)) (emb:=q7P) (embO:=q7N) (fun x=>(q7Q x).trans (by unfold W4 Wm;simp only [Zhd,Zh8,Zhe,Option.map_some,Option.map_none];rfl)) (fun _ _=>rfl) (fun _ _=>rfl) (fun _ _ _=>rfl) (fun _ _ _=>rfl) (fun _=>rfl) (Z1S.1 h1),by
  first
  | exact h2
  | (rcases o with o|o|o|o|o<;>exact h2)⟩
noncomputable def q7T {R:Type}:Z27 S R:=LE.ls X q7M q7O q7D
theorem q7U {R:Type}:Z3J X (q7T (R:=R)):=Zhq xok q7C (e:=q7M) q1 q7E q7S q7E
def q7V:Key:=⟨[88],88,none,[0,0,1,0,1,1,1,1,1,1],2,26⟩
def q7W:StT S:=⟨(N (N L none (N L none v1v)) none (N (N L none (N (N L none (N L (some (.sl (.st 7) [])) L)) none L)) none (N L vm v1v))),o1n,26⟩
def q7X:Way S:=⟨.ret,⟨v1m,o1b,58⟩,[.int,.int,.int,(.st 8),(.mp .str (.int .i64)),(.st 7)]⟩
def q7Y:Way S:=⟨.ret,⟨v1m,o1b,63⟩,[.int,.int,.int,(.st 8),(.mp .str (.int .i64)),(.st 7)]⟩
def q7Z:Way S:=⟨.ret,⟨v1m,o1b,67⟩,[.int,.int,.int,(.st 8),(.mp .str (.int .i64)),(.st 7)]⟩
def q80:Way S:=⟨(.exit 2),⟨L,o1n,27⟩,[(.st 8),(.mp .str (.int .i64))]⟩
def q81:LE S:=⟨q7V,q7W,[.int,(.lst (.st 7)),.int,(.st 8),(.mp .str (.int .i64))],[q7X,q7Y,q7Z,q80]⟩
def q82 (x:tM):(tQ⊕tQ⊕tQ⊕t1c)→t4:=Sum.elim (fun y0=>(.inl (y0.1,y0.2.1,y0.2.2.1,x.2.2.2.1,y0.2.2.2.1,y0.2.2.2.2))) (Sum.elim (fun y1=>(.inr (.inl (y1.1,y1.2.1,y1.2.2.1,x.2.2.2.1,y1.2.2.2.1,y1.2.2.2.2)))) (Sum.elim (fun y2=>(.inr (.inr (.inl (y2.1,y2.2.1,y2.2.2.1,x.2.2.2.1,y2.2.2.2.1,y2.2.2.2.2))))) (fun y3=>(.inr (.inr (.inr (x.2.2.2.1,y3)))))))
noncomputable def q83 {R:Type} (x:tM) (k:t4→Option R):Option R:=(X1A x.1 x.2.1 x.2.2.2.1 (x.2.2.1,x.2.2.2.2)).bind (Sum.elim (fun y0=>k (.inl (y0.1,y0.2.1,y0.2.2.1,x.2.2.2.1,y0.2.2.2.1,y0.2.2.2.2))) (Sum.elim (fun y1=>k (.inr (.inl (y1.1,y1.2.1,y1.2.2.1,x.2.2.2.1,y1.2.2.2.1,y1.2.2.2.2)))) (Sum.elim (fun y2=>k (.inr (.inr (.inl (y2.1,y2.2.1,y2.2.2.1,x.2.2.2.1,y2.2.2.2.1,y2.2.2.2.2))))) (fun y3=>k (.inr (.inr (.inr (x.2.2.2.1,y3))))))))
def q84 (x:tM) (v:(Int×t1c)):tM:=(x.1,x.2.1,v.1,x.2.2.2.1,v.2)
theorem q85 (x:tM):LE.step X q81 q7B q0 q7T 12 x=Wn x.1 x.2.1 x.2.2.2.1 x.2.2.1 x.2.2.2.2 (fun w0 w1=>(Sum.inl (x.1,x.2.1,w0,x.2.2.2.1,w1))) (fun p0 p1 p2 p3 p4=>(Sum.inr (.inl (p0,p1,p2,x.2.2.2.1,p3,p4)))) (fun p0 p1 p2 p3 p4=>(Sum.inr (.inr (.inl (p0,p1,p2,x.2.2.2.1,p3,p4))))) (fun p0 p1 p2 p3 p4=>(Sum.inr (.inr (.inr (.inl (p0,p1,p2,x.2.2.2.1,p3,p4)))))) (fun p0=>(Sum.inr (.inr (.inr (.inr (x.2.2.2.1,p0)))))):=by kernel_rfl
theorem q87 {R:Type} (x:tM) (k:t4→Option R) (r:R) (h:q83 x k=some r):∃ o,Z5s (LE.step X q81 q7B q0 q7T 12) x o∧k o=some r:=by
 obtain ⟨o,h1,h2⟩:=Z0 h
 exact ⟨q82 x o,Zhl (st:=fun (x:tM)=>W5 x.1 x.2.1 x.2.2.2.1) (prj:=fun x=>(x.2.2.1,x.2.2.2.2)) (emb:=q84) (embO:=q82) (fun x=>(q85 x).trans (by unfold W5 Wn;simp only [Zhd,Zh8,Zhe,Option.map_some,Option.map_none];rfl)) (fun _ _=>rfl) (fun _ _=>rfl) (fun _ _ _=>rfl) (fun _ _ _=>rfl) (fun _=>rfl) (Z1S.1 h1),by
  first
  | exact h2
  | (rcases o with o|o|o|o<;>exact h2)⟩
noncomputable def q88 {R:Type}:Z27 S R:=LE.ls X q81 q83 q7T
theorem q89 {R:Type}:Z3J X (q88 (R:=R)):=Zhq xok q7C (e:=q81) q1 q7U q87 q7U
theorem q8a (x0:Zl):Zhs X q7B [(.st 8)] [(.int .i64),(.int .i64),(.int .i64)] q0 q88 12 88 (x0,())=X2z x0:=by kernel_rfl
noncomputable def q8b:F7 S:=⟨[(.st 8)],[(.int .i64),(.int .i64),(.int .i64)],fun xs=>X2z xs.1⟩
theorem q8c:Z7Q X 88 q8b:=Zho (Zhn xok q7C q1 q89 12 88) fun xs _ h=>(q8a xs.1).trans h
noncomputable def q8d:List (Nat×F7 S):=[]
theorem q8e:Z9n X (q8d):=trivial
abbrev q8f {R:Type}:Z27 S R:=Zgi
theorem q8g {R:Type}:Z3J X (q8f (R:=R)):=ZgQ X
def q8h:Key:=⟨[81,2,1,58,2,1,41],81,none,[0,0,1,0,1],0,17⟩
def q8i:StT S:=⟨(N (N (N (N L vN L) none L) (some (.fn (.func 59) [] [(.ptr 0 0),(.ptr 1 0)])) L) (some (.sl (.int .i64) [])) v1t),(N (N L ow L) ow L),17⟩
def q8j:Way S:=⟨.ret,⟨v1s,(N (N L ow L) ow L),38⟩,[.int,.int,.int]⟩
def q8k:Way S:=⟨(.exit 0),⟨L,(N (N L ow L) ow L),18⟩,[.int,.int]⟩
def q8l:LE S:=⟨q8h,q8i,[.int,(.lst (.int .i64)),.int,.int,.int],[q8j,q8k]⟩
def q8m (x:tX):(Int⊕Unit)→t13:=Sum.elim (fun y0=>(.inl (y0,x.2.2.2.1,x.2.2.2.2))) (fun y1=>(.inr (x.2.2.2.1,x.2.2.2.2)))
noncomputable def q8n {R:Type} (x:tX) (k:t13→Option R):Option R:=(X3L x.1 x.2.1 x.2.2.2.1 x.2.2.2.2 x.2.2.1).bind (Sum.elim (fun y0=>k (.inl (y0,x.2.2.2.1,x.2.2.2.2))) (fun y1=>k (.inr (x.2.2.2.1,x.2.2.2.2))))
def q8o (x:tX) (v:Int):tX:=(x.1,x.2.1,v,x.2.2.2.1,x.2.2.2.2)
theorem q8p (x:tX):LE.step X q8l q8d q0 q8f 12 x=Ws x.1 x.2.1 x.2.2.2.1 x.2.2.2.2 x.2.2.1 (fun w0=>(Sum.inl (x.1,x.2.1,w0,x.2.2.2.1,x.2.2.2.2))) (fun p0=>(Sum.inr (.inl (p0,x.2.2.2.1,x.2.2.2.2)))) (Sum.inr (.inr (x.2.2.2.1,x.2.2.2.2))):=by kernel_rfl
theorem q8r {R:Type} (x:tX) (k:t13→Option R) (r:R) (h:q8n x k=some r):∃ o,Z5s (LE.step X q8l q8d q0 q8f 12) x o∧k o=some r:=by
 obtain ⟨o,h1,h2⟩:=Z0 h
 exact ⟨q8m x o,Zhl (st:=fun (x:tX)=>Wc x.1 x.2.1 x.2.2.2.1 x.2.2.2.2) (prj:=fun x=>x.2.2.1) (emb:=q8o) (embO:=q8m) (fun x=>(q8p x).trans (by unfold Wc Ws;simp only [Zhd,Zh8,Zhe,Option.map_some,Option.map_none];rfl)) (fun _ _=>rfl) (fun _ _=>rfl) (fun _ _ _=>rfl) (fun _ _ _=>rfl) (fun _=>rfl) (Z1S.1 h1),by
  first
  | exact h2
  | (rcases o with o|o<;>exact h2)⟩
noncomputable def q8s {R:Type}:Z27 S R:=LE.ls X q8l q8n q8f
theorem q8t {R:Type}:Z3J X (q8s (R:=R)):=Zhq xok q8e (e:=q8l) q1 q8g q8r q8g
theorem q8u (x0:Int) (x1:Int) (x2:List Int):Zhs X q8d [(.int .i64),(.int .i64),(.sl (.int .i64))] [.bool] q0 q8s 12 41 (x0,x1,x2,())=X1L x0 x1 x2:=by kernel_rfl
noncomputable def q8v:F7 S:=⟨[(.int .i64),(.int .i64),(.sl (.int .i64))],[.bool],fun xs=>X2 xs.1 xs.2.1 xs.2.2.1⟩
theorem q8w:Z7Q X 41 q8v:=Zho (Zhn xok q8e q1 q8t 12 41) fun xs _ h=>((q8u xs.1 xs.2.1 xs.2.2.1).trans (X4S xs.1 xs.2.1 xs.2.2.1).symm).trans h
noncomputable def q8x:List (Nat×F7 S):=[(102,q5I),(41,q8v)]
theorem q8y:Z9n X (q8x):=⟨q5J,q8w,trivial⟩
abbrev q8z {R:Type}:Z27 S R:=Zgi
theorem q8A {R:Type}:Z3J X (q8z (R:=R)):=ZgQ X
def q8B:Key:=⟨[112,2,1,106,2,6,94],112,none,[0,0,1,0,1],0,25⟩
def q8C:StT S:=⟨v13,(N L oc L),25⟩
def q8D:Way S:=⟨.ret,⟨v1s,(N L oc o1j),44⟩,[.int,(.st 18),(.st 18)]⟩
def q8E:Way S:=⟨(.exit 0),⟨L,(N L oc L),26⟩,[(.st 18)]⟩
def q8F:LE S:=⟨q8B,q8C,[.int,(.lst (.st 18)),.int,(.st 18)],[q8D,q8E]⟩
def q8G (x:tS):((Int×Z5)⊕Unit)→tR:=Sum.elim (fun y0=>(.inl (y0.1,x.2.2.2,y0.2))) (fun y1=>(.inr x.2.2.2))
noncomputable def q8H {R:Type} (x:tS) (k:tR→Option R):Option R:=(X1P x.1 x.2.1 x.2.2.2 x.2.2.1).bind (Sum.elim (fun y0=>k (.inl (y0.1,x.2.2.2,y0.2))) (fun y1=>k (.inr x.2.2.2)))
def q8I (x:tS) (v:Int):tS:=(x.1,x.2.1,v,x.2.2.2)
theorem q8J (x:tS):LE.step X q8F q8x q0 q8z 12 x=XB x.1 x.2.1 x.2.2.2 x.2.2.1 (fun w0=>(Sum.inl (x.1,x.2.1,w0,x.2.2.2))) (fun p0 p1=>(Sum.inr (.inl (p0,x.2.2.2,p1)))) (Sum.inr (.inr x.2.2.2)):=by kernel_rfl
theorem q8L {R:Type} (x:tS) (k:tR→Option R) (r:R) (h:q8H x k=some r):∃ o,Z5s (LE.step X q8F q8x q0 q8z 12) x o∧k o=some r:=by
 obtain ⟨o,h1,h2⟩:=Z0 h
 exact ⟨q8G x o,Zhl (st:=fun (x:tS)=>Xt x.1 x.2.1 x.2.2.2) (prj:=fun x=>x.2.2.1) (emb:=q8I) (embO:=q8G) (fun x=>(q8J x).trans (by unfold Xt XB;simp only [Zhd,Zh8,Zhe,Option.map_some,Option.map_none];rfl)) (fun _ _=>rfl) (fun _ _=>rfl) (fun _ _ _=>rfl) (fun _ _ _=>rfl) (fun _=>rfl) (Z1S.1 h1),by
  first
  | exact h2
  | (rcases o with o|o<;>exact h2)⟩
noncomputable def q8M {R:Type}:Z27 S R:=LE.ls X q8F q8H q8z
theorem q8N {R:Type}:Z3J X (q8M (R:=R)):=Zhq xok q8y (e:=q8F) q1 q8A q8L q8A
def q8O:Key:=⟨[112,2,1,106,2,6,94],112,none,[0,0,1,0,1],0,24⟩
def q8P:StT S:=⟨v13,(N L oc L),24⟩
def q8Q:Way S:=⟨.ret,⟨v1s,(N o1j oc L),43⟩,[.int,(.st 18),(.st 18)]⟩
def q8R:Way S:=⟨(.exit 0),⟨L,(N L oc L),25⟩,[(.st 18)]⟩
def q8S:LE S:=⟨q8O,q8P,[.int,(.lst (.st 18)),.int,(.st 18)],[q8Q,q8R]⟩
def q8T (x:tS):((Int×Z5)⊕Unit)→tR:=Sum.elim (fun y0=>(.inl (y0.1,y0.2,x.2.2.2))) (fun y1=>(.inr x.2.2.2))
noncomputable def q8U {R:Type} (x:tS) (k:tR→Option R):Option R:=(X1Q x.1 x.2.1 x.2.2.2 x.2.2.1).bind (Sum.elim (fun y0=>k (.inl (y0.1,y0.2,x.2.2.2))) (fun y1=>k (.inr x.2.2.2)))
def q8V (x:tS) (v:Int):tS:=(x.1,x.2.1,v,x.2.2.2)
theorem q8W (x:tS):LE.step X q8S q8x q0 q8M 12 x=XC x.1 x.2.1 x.2.2.2 x.2.2.1 (fun w0=>(Sum.inl (x.1,x.2.1,w0,x.2.2.2))) (fun p0 p1=>(Sum.inr (.inl (p0,p1,x.2.2.2)))) (Sum.inr (.inr x.2.2.2)):=by kernel_rfl
theorem q8Y {R:Type} (x:tS) (k:tR→Option R) (r:R) (h:q8U x k=some r):∃ o,Z5s (LE.step X q8S q8x q0 q8M 12) x o∧k o=some r:=by
 obtain ⟨o,h1,h2⟩:=Z0 h
 exact ⟨q8T x o,Zhl (st:=fun (x:tS)=>Xu x.1 x.2.1 x.2.2.2) (prj:=fun x=>x.2.2.1) (emb:=q8V) (embO:=q8T) (fun x=>(q8W x).trans (by unfold Xu XC;simp only [Zhd,Zh8,Zhe,Option.map_some,Option.map_none];rfl)) (fun _ _=>rfl) (fun _ _=>rfl) (fun _ _ _=>rfl) (fun _ _ _=>rfl) (fun _=>rfl) (Z1S.1 h1),by
  first
  | exact h2
  | (rcases o with o|o<;>exact h2)⟩
noncomputable def q8Z {R:Type}:Z27 S R:=LE.ls X q8S q8U q8M
theorem q90 {R:Type}:Z3J X (q8Z (R:=R)):=Zhq xok q8y (e:=q8S) q1 q8N q8Y q8N
theorem q91 (x0:Z5) (x1:List Z5):Zhs X q8x [(.st 18),(.sl (.st 18))] [(.int .i64)] q0 q8Z 12 94 (x0,x1,())=WO x0 x1:=by kernel_rfl
noncomputable def q92:F7 S:=⟨[(.st 18),(.sl (.st 18))],[(.int .i64)],fun xs=>X2U xs.1 xs.2.1⟩
theorem q93:Z7Q X 94 q92:=Zho (Zhn xok q8y q1 q90 12 94) fun xs _ h=>((q91 xs.1 xs.2.1).trans (X3W xs.1 xs.2.1).symm).trans h
noncomputable def q94:List (Nat×F7 S):=[(41,q8v)]
theorem q95:Z9n X (q94):=⟨q8w,trivial⟩
abbrev q96 {R:Type}:Z27 S R:=Zgi
theorem q97 {R:Type}:Z3J X (q96 (R:=R)):=ZgQ X
theorem q98 (x0:Zt):Zhs X q94 [(.st 19)] [(.int .i64)] q0 q96 12 97 (x0,())=X2H x0:=by kernel_rfl
noncomputable def q99:F7 S:=⟨[(.st 19)],[(.int .i64)],fun xs=>X5s xs.1⟩
theorem q9a:Z7Q X 97 q99:=Zho (Zhn xok q95 q1 q97 12 97) fun xs _ h=>((q98 xs.1).trans (X5L xs.1).symm).trans h
noncomputable def q9b:List (Nat×F7 S):=[(97,q99)]
theorem q9c:Z9n X (q9b):=⟨q9a,trivial⟩
abbrev q9d {R:Type}:Z27 S R:=Zgi
theorem q9e {R:Type}:Z3J X (q9d (R:=R)):=ZgQ X
theorem q9f (x0:Int) (x1:Zt):Zhs X q9b [(.int .i64),(.st 19)] [(.int .i64)] q0 q9d 12 96 (x0,x1,())=X1J x0 x1:=by kernel_rfl
noncomputable def q9g:F7 S:=⟨[(.int .i64),(.st 19)],[(.int .i64)],fun xs=>X3e xs.1 xs.2.1⟩
theorem q9h:Z7Q X 96 q9g:=Zho (Zhn xok q9c q1 q9e 12 96) fun xs _ h=>((q9f xs.1 xs.2.1).trans (X4L xs.1 xs.2.1).symm).trans h
noncomputable def q9i:List (Nat×F7 S):=[(88,q8b),(41,q8v),(94,q92),(96,q9g)]
theorem q9j:Z9n X (q9i):=⟨q8c,q8w,q93,q9h,trivial⟩
abbrev q9k {R:Type}:Z27 S R:=Zgi
theorem q9l {R:Type}:Z3J X (q9k (R:=R)):=ZgQ X
def q9m:Key:=⟨[92,3,8,76],92,none,[0,0,1,0,1],0,51⟩
def q9n:StT S:=⟨(N (N (N L none (N L vN L)) (some (.fn (.func 93) [] [(.ptr 0 0)])) (N (N L vL L) none L)) none v1s),(N L ob L),51⟩
def q9o:Way S:=⟨.ret,⟨v1l,(N (N (N (N (N (N (N L oc L) none L) none L) none (N L none (N L oc L))) none L) none L) ob L),78⟩,[.int,.int,(.st 18),(.st 18),(.st 20)]⟩
def q9p:Way S:=⟨(.exit 0),⟨L,(N L ob L),52⟩,[(.st 20)]⟩
def q9q:LE S:=⟨q9m,q9n,[.int,(.lst (.st 18)),.int,(.st 20)],[q9o,q9p]⟩
def q9r (x:tU):((Int×Int×Z5×Z5)⊕Unit)→tO:=Sum.elim (fun y0=>(.inl (y0.1,y0.2.1,y0.2.2.1,y0.2.2.2,x.2.2.2))) (fun y1=>(.inr x.2.2.2))
noncomputable def q9s {R:Type} (x:tU) (k:tO→Option R):Option R:=(X39 x.2.1 x.2.2.1 x.2.2.2 x.1).bind (Sum.elim (fun y0=>k (.inl (y0.1,y0.2.1,y0.2.2.1,y0.2.2.2,x.2.2.2))) (fun y1=>k (.inr x.2.2.2)))
def q9t (x:tU) (v:Int):tU:=(v,x.2.1,x.2.2.1,x.2.2.2)
theorem q9u (x:tU):LE.step X q9q q9i q0 q9k 12 x=X1a x.2.1 x.2.2.1 x.2.2.2 x.1 (fun w0=>(Sum.inl (w0,x.2.1,x.2.2.1,x.2.2.2))) (fun p0 p1 p2 p3=>(Sum.inr (.inl (p0,p1,p2,p3,x.2.2.2)))) (Sum.inr (.inr x.2.2.2)):=by kernel_rfl
theorem q9w {R:Type} (x:tU) (k:tO→Option R) (r:R) (h:q9s x k=some r):∃ o,Z5s (LE.step X q9q q9i q0 q9k 12) x o∧k o=some r:=by
 obtain ⟨o,h1,h2⟩:=Z0 h
 exact ⟨q9r x o,Zhl (st:=fun (x:tU)=>X15 x.2.1 x.2.2.1 x.2.2.2) (prj:=fun x=>x.1) (emb:=q9t) (embO:=q9r) (fun x=>(q9u x).trans (by unfold X15 X1a;simp only [Zhd,Zh8,Zhe,Option.map_some,Option.map_none];rfl)) (fun _ _=>rfl) (fun _ _=>rfl) (fun _ _ _=>rfl) (fun _ _ _=>rfl) (fun _=>rfl) (Z1S.1 h1),by
  first
  | exact h2
  | (rcases o with o|o<;>exact h2)⟩
noncomputable def q9x {R:Type}:Z27 S R:=LE.ls X q9q q9s q9k
theorem q9y {R:Type}:Z3J X (q9x (R:=R)):=Zhq xok q9j (e:=q9q) q1 q9l q9w q9l
def q9z:Key:=⟨[95,2,13,76],95,none,[0,0,1,0,1],0,97⟩
def q9A:StT S:=⟨vX,L,97⟩
def q9B:Way S:=⟨.ret,⟨v1l,(N (N L none (N L none (N (N (N L none (N L od L)) none L) none L))) none L),115⟩,[.int,.int,(.st 19)]⟩
def q9C:Way S:=⟨(.exit 0),⟨L,L,98⟩,[]⟩
def q9D:LE S:=⟨q9z,q9A,[.int,(.lst (.st 19)),.int],[q9B,q9C]⟩
def q9E (x:t1a):t18→t18:=Sum.elim (fun y0=>(.inl (y0.1,y0.2.1,y0.2.2))) (fun y1=>(.inr ()))
noncomputable def q9F {R:Type} (x:t1a) (k:t18→Option R):Option R:=(X3a x.2.1 x.2.2 x.1).bind (Sum.elim (fun y0=>k (.inl (y0.1,y0.2.1,y0.2.2))) (fun y1=>k (.inr ())))
def q9G (x:t1a) (v:Int):t1a:=(v,x.2.1,x.2.2)
theorem q9H (x:t1a):LE.step X q9D q9i q0 q9x 12 x=X1b x.2.1 x.2.2 x.1 (fun w0=>(Sum.inl (w0,x.2.1,x.2.2))) (fun p0 p1 p2=>(Sum.inr (.inl (p0,p1,p2)))) (Sum.inr (.inr ())):=by kernel_rfl
theorem q9J {R:Type} (x:t1a) (k:t18→Option R) (r:R) (h:q9F x k=some r):∃ o,Z5s (LE.step X q9D q9i q0 q9x 12) x o∧k o=some r:=by
 obtain ⟨o,h1,h2⟩:=Z0 h
 exact ⟨q9E x o,Zhl (st:=fun (x:t1a)=>X16 x.2.1 x.2.2) (prj:=fun x=>x.1) (emb:=q9G) (embO:=q9E) (fun x=>(q9H x).trans (by unfold X16 X1b;simp only [Zhd,Zh8,Zhe,Option.map_some,Option.map_none];rfl)) (fun _ _=>rfl) (fun _ _=>rfl) (fun _ _ _=>rfl) (fun _ _ _=>rfl) (fun _=>rfl) (Z1S.1 h1),by
  first
  | exact h2
  | (rcases o with o|o<;>exact h2)⟩
noncomputable def q9K {R:Type}:Z27 S R:=LE.ls X q9D q9F q9x
theorem q9L {R:Type}:Z3J X (q9K (R:=R)):=Zhq xok q9j (e:=q9D) q1 q9y q9J q9y
def q9M:Key:=⟨[95,2,13,76],95,none,[0,0,1,0,1],0,73⟩
def q9N:StT S:=⟨vX,L,73⟩
def q9O:Way S:=⟨.ret,⟨v1l,(N (N L none (N L none (N L none (N (N (N L od L) none L) none L)))) none L),91⟩,[.int,.int,(.st 19)]⟩
def q9P:Way S:=⟨(.exit 0),⟨L,L,74⟩,[]⟩
def q9Q:LE S:=⟨q9M,q9N,[.int,(.lst (.st 19)),.int],[q9O,q9P]⟩
def q9R (x:t1a):t18→t18:=Sum.elim (fun y0=>(.inl (y0.1,y0.2.1,y0.2.2))) (fun y1=>(.inr ()))
noncomputable def q9S {R:Type} (x:t1a) (k:t18→Option R):Option R:=(X2b x.2.1 x.2.2 x.1).bind (Sum.elim (fun y0=>k (.inl (y0.1,y0.2.1,y0.2.2))) (fun y1=>k (.inr ())))
def q9T (x:t1a) (v:Int):t1a:=(v,x.2.1,x.2.2)
theorem q9U (x:t1a):LE.step X q9Q q9i q0 q9K 12 x=X2G x.2.1 x.2.2 x.1 (fun w0=>(Sum.inl (w0,x.2.1,x.2.2))) (fun p0 p1 p2=>(Sum.inr (.inl (p0,p1,p2)))) (Sum.inr (.inr ())):=by kernel_rfl
theorem q9W {R:Type} (x:t1a) (k:t18→Option R) (r:R) (h:q9S x k=some r):∃ o,Z5s (LE.step X q9Q q9i q0 q9K 12) x o∧k o=some r:=by
 obtain ⟨o,h1,h2⟩:=Z0 h
 exact ⟨q9R x o,Zhl (st:=fun (x:t1a)=>X3p x.2.1 x.2.2) (prj:=fun x=>x.1) (emb:=q9T) (embO:=q9R) (fun x=>(q9U x).trans (by unfold X3p X2G;simp only [Zhd,Zh8,Zhe,Option.map_some,Option.map_none];rfl)) (fun _ _=>rfl) (fun _ _=>rfl) (fun _ _ _=>rfl) (fun _ _ _=>rfl) (fun _=>rfl) (Z1S.1 h1),by
  first
  | exact h2
  | (rcases o with o|o<;>exact h2)⟩
noncomputable def q9X {R:Type}:Z27 S R:=LE.ls X q9Q q9S q9K
theorem q9Y {R:Type}:Z3J X (q9X (R:=R)):=Zhq xok q9j (e:=q9Q) q1 q9L q9W q9L
theorem q9Z (x0:ZJ):Zhs X q9i [(.st 20)] [(.int .i64),(.int .i64),(.int .i64)] q0 q9X 12 76 (x0,())=X2m x0:=by kernel_rfl
noncomputable def qa0:F7 S:=⟨[(.st 20)],[(.int .i64),(.int .i64),(.int .i64)],fun xs=>X53 xs.1⟩
theorem qa1:Z7Q X 76 qa0:=Zho (Zhn xok q9j q1 q9Y 12 76) fun xs _ h=>((q9Z xs.1).trans (X5q xs.1).symm).trans h
noncomputable def qa2:List (Nat×F7 S):=[(88,q8b),(73,q62)]
theorem qa3:Z9n X (qa2):=⟨q8c,q63,trivial⟩
abbrev qa4 {R:Type}:Z27 S R:=Zgi
theorem qa5 {R:Type}:Z3J X (qa4 (R:=R)):=ZgQ X
def qa6:Key:=⟨[105,1,70],105,none,[0,0,1],0,45⟩
def qa7:StT S:=⟨(N (N (N L vN L) (some (.ptr 36 0)) L) (some (.yld 40)) L),oQ,45⟩
def qa8:Way S:=⟨.ret,⟨L,(N (N (N (N L none (N L none (N L ol L))) ow L) ow L) oi (N (N (N (N L ot L) none (N (N L (some (.loop 70 (N (N (N (N L (some (.ptr 3 0)) L) (some (.ptr 0 0)) (N L none (N (N L vg L) vO L))) vN (N (N (N L vO L) none L) none L)) vr (N (N (N L (some (.ptr 4 0)) L) (some (.ptr 1 0)) L) vN (N L (some (.ptr 2 0)) (N (N L vO L) none L)))) (44::(45::[])) .skip .skip 1 .ret (1::(70::[])) (0::(1::(0::(1::(1::(1::(1::[]))))))))) L) ot L)) ou (N (N (N L oo L) none L) none L)) oj L)),67⟩,[(.st 3),.int,.int,(.st 8),(.lst (.int .i64)),.bool,.int,.bool,(.st 8),.int,.bool,(.lst (.int .i64)),.int,(.lst (.st 3)),(.st 4)]⟩
def qa9:Way S:=⟨(.exit 0),⟨L,oQ,47⟩,[.int,.int,(.st 8),(.lst (.int .i64)),.bool,.int,.bool,(.st 8),.int,.bool,(.lst (.int .i64)),.int,(.lst (.st 3)),(.st 4)]⟩
def qaa:LE S:=⟨qa6,qa7,[.int,.int,.int,(.st 8),(.lst (.int .i64)),.bool,.int,.bool,(.st 8),.int,.bool,(.lst (.int .i64)),.int,(.lst (.st 3)),(.st 4)],[qa8,qa9]⟩
def qab (x:th):((Zk×Int×Int)⊕Unit)→t3:=Sum.elim (fun y0=>(.inl (y0.1,y0.2.1,x.2.2.1,x.2.2.2.1,x.2.2.2.2.1,x.2.2.2.2.2.1,x.2.2.2.2.2.2.1,x.2.2.2.2.2.2.2.1,x.2.2.2.2.2.2.2.2.1,x.2.2.2.2.2.2.2.2.2.1,x.2.2.2.2.2.2.2.2.2.2.1,x.2.2.2.2.2.2.2.2.2.2.2.1,y0.2.2,x.2.2.2.2.2.2.2.2.2.2.2.2.2.1,x.2.2.2.2.2.2.2.2.2.2.2.2.2.2))) (fun y1=>(.inr (x.2.1,x.2.2.1,x.2.2.2.1,x.2.2.2.2.1,x.2.2.2.2.2.1,x.2.2.2.2.2.2.1,x.2.2.2.2.2.2.2.1,x.2.2.2.2.2.2.2.2.1,x.2.2.2.2.2.2.2.2.2.1,x.2.2.2.2.2.2.2.2.2.2.1,x.2.2.2.2.2.2.2.2.2.2.2.1,x.2.2.2.2.2.2.2.2.2.2.2.2.1,x.2.2.2.2.2.2.2.2.2.2.2.2.2.1,x.2.2.2.2.2.2.2.2.2.2.2.2.2.2)))
noncomputable def qac {R:Type} (x:th) (k:t3→Option R):Option R:=(X1k x.2.2.1 x.2.2.2.2.2.2.2.2.2.2.2.2.2.1 x.1).bind (Sum.elim (fun y0=>k (.inl (y0.1,y0.2.1,x.2.2.1,x.2.2.2.1,x.2.2.2.2.1,x.2.2.2.2.2.1,x.2.2.2.2.2.2.1,x.2.2.2.2.2.2.2.1,x.2.2.2.2.2.2.2.2.1,x.2.2.2.2.2.2.2.2.2.1,x.2.2.2.2.2.2.2.2.2.2.1,x.2.2.2.2.2.2.2.2.2.2.2.1,y0.2.2,x.2.2.2.2.2.2.2.2.2.2.2.2.2.1,x.2.2.2.2.2.2.2.2.2.2.2.2.2.2))) (fun y1=>k (.inr (x.2.1,x.2.2.1,x.2.2.2.1,x.2.2.2.2.1,x.2.2.2.2.2.1,x.2.2.2.2.2.2.1,x.2.2.2.2.2.2.2.1,x.2.2.2.2.2.2.2.2.1,x.2.2.2.2.2.2.2.2.2.1,x.2.2.2.2.2.2.2.2.2.2.1,x.2.2.2.2.2.2.2.2.2.2.2.1,x.2.2.2.2.2.2.2.2.2.2.2.2.1,x.2.2.2.2.2.2.2.2.2.2.2.2.2.1,x.2.2.2.2.2.2.2.2.2.2.2.2.2.2))))
def qad (x:th) (v:Int):th:=(v,x.2.1,x.2.2.1,x.2.2.2.1,x.2.2.2.2.1,x.2.2.2.2.2.1,x.2.2.2.2.2.2.1,x.2.2.2.2.2.2.2.1,x.2.2.2.2.2.2.2.2.1,x.2.2.2.2.2.2.2.2.2.1,x.2.2.2.2.2.2.2.2.2.2.1,x.2.2.2.2.2.2.2.2.2.2.2.1,x.2.2.2.2.2.2.2.2.2.2.2.2.1,x.2.2.2.2.2.2.2.2.2.2.2.2.2.1,x.2.2.2.2.2.2.2.2.2.2.2.2.2.2)
theorem qae (x:th):LE.step X qaa qa2 q0 qa4 12 x=XY x.2.2.1 x.2.2.2.2.2.2.2.2.2.2.2.2.2.1 x.1 (fun w0=>(Sum.inl (w0,x.2.1,x.2.2.1,x.2.2.2.1,x.2.2.2.2.1,x.2.2.2.2.2.1,x.2.2.2.2.2.2.1,x.2.2.2.2.2.2.2.1,x.2.2.2.2.2.2.2.2.1,x.2.2.2.2.2.2.2.2.2.1,x.2.2.2.2.2.2.2.2.2.2.1,x.2.2.2.2.2.2.2.2.2.2.2.1,x.2.2.2.2.2.2.2.2.2.2.2.2.1,x.2.2.2.2.2.2.2.2.2.2.2.2.2.1,x.2.2.2.2.2.2.2.2.2.2.2.2.2.2))) (fun p0 p1 p2=>(Sum.inr (.inl (p0,p1,x.2.2.1,x.2.2.2.1,x.2.2.2.2.1,x.2.2.2.2.2.1,x.2.2.2.2.2.2.1,x.2.2.2.2.2.2.2.1,x.2.2.2.2.2.2.2.2.1,x.2.2.2.2.2.2.2.2.2.1,x.2.2.2.2.2.2.2.2.2.2.1,x.2.2.2.2.2.2.2.2.2.2.2.1,p2,x.2.2.2.2.2.2.2.2.2.2.2.2.2.1,x.2.2.2.2.2.2.2.2.2.2.2.2.2.2)))) (Sum.inr (.inr (x.2.1,x.2.2.1,x.2.2.2.1,x.2.2.2.2.1,x.2.2.2.2.2.1,x.2.2.2.2.2.2.1,x.2.2.2.2.2.2.2.1,x.2.2.2.2.2.2.2.2.1,x.2.2.2.2.2.2.2.2.2.1,x.2.2.2.2.2.2.2.2.2.2.1,x.2.2.2.2.2.2.2.2.2.2.2.1,x.2.2.2.2.2.2.2.2.2.2.2.2.1,x.2.2.2.2.2.2.2.2.2.2.2.2.2.1,x.2.2.2.2.2.2.2.2.2.2.2.2.2.2))):=by kernel_rfl
theorem qag {R:Type} (x:th) (k:t3→Option R) (r:R) (h:qac x k=some r):∃ o,Z5s (LE.step X qaa qa2 q0 qa4 12) x o∧k o=some r:=by
 obtain ⟨o,h1,h2⟩:=Z0 h
 exact ⟨qab x o,Zhl (st:=fun (x:th)=>XP x.2.2.1 x.2.2.2.2.2.2.2.2.2.2.2.2.2.1) (prj:=fun x=>x.1) (emb:=qad) (embO:=qab) (fun x=>(qae x).trans (by unfold XP XY;simp only [Zhd,Zh8,Zhe,Option.map_some,Option.map_none];rfl)) (fun _ _=>rfl) (fun _ _=>rfl) (fun _ _ _=>rfl) (fun _ _ _=>rfl) (fun _=>rfl) (Z1S.1 h1),by
  first
  | exact h2
  | (rcases o with o|o<;>exact h2)⟩
noncomputable def qah {R:Type}:Z27 S R:=LE.ls X qaa qac qa4
theorem qai {R:Type}:Z3J X (qah (R:=R)):=Zhq xok qa3 (e:=qaa) q1 qa5 qag qa5
theorem qaj (x0:Zl) (x1:Int) (x2:Int):Zhs X qa2 [(.st 8),(.int .i64),(.int .i64)] [(.st 4),(.int .i64),(.int .i64)] q0 qah 12 70 (x0,x1,x2,())=X1p x0 x1 x2:=by kernel_rfl
noncomputable def qak:F7 S:=⟨[(.st 8),(.int .i64),(.int .i64)],[(.st 4),(.int .i64),(.int .i64)],fun xs=>X2E xs.1 xs.2.1 xs.2.2.1⟩
theorem qal:Z7Q X 70 qak:=Zho (Zhn xok qa3 q1 qai 12 70) fun xs _ h=>((qaj xs.1 xs.2.1 xs.2.2.1).trans (X4A xs.1 xs.2.1 xs.2.2.1).symm).trans h
noncomputable def qam:List (Nat×F7 S):=[(70,qak)]
theorem qan:Z9n X (qam):=⟨qal,trivial⟩
abbrev qao {R:Type}:Z27 S R:=Zgi
theorem qap {R:Type}:Z3J X (qao (R:=R)):=ZgQ X
theorem qaq (x0:Zl) (x1:Int) (x2:Int):Zhs X qam [(.st 8),(.int .i64),(.int .i64)] [(.int .i64),(.int .i64)] q0 qao 12 61 (x0,x1,x2,())=X1o x0 x1 x2:=by kernel_rfl
noncomputable def qar:F7 S:=⟨[(.st 8),(.int .i64),(.int .i64)],[(.int .i64),(.int .i64)],fun xs=>X4o xs.1 xs.2.1 xs.2.2.1⟩
theorem qas:Z7Q X 61 qar:=Zho (Zhn xok qan q1 qap 12 61) fun xs _ h=>((qaq xs.1 xs.2.1 xs.2.2.1).trans (X4y xs.1 xs.2.1 xs.2.2.1).symm).trans h
noncomputable def qat:List (Nat×F7 S):=[(70,qak)]
theorem qau:Z9n X (qat):=⟨qal,trivial⟩
abbrev qav {R:Type}:Z27 S R:=Zgi
theorem qaw {R:Type}:Z3J X (qav (R:=R)):=ZgQ X
theorem qax (x0:Zl) (x1:Int) (x2:Int):Zhs X qat [(.st 8),(.int .i64),(.int .i64)] [(.st 4),(.int .i64)] q0 qav 12 52 (x0,x1,x2,())=WK x0 x1 x2:=by kernel_rfl
noncomputable def qay:F7 S:=⟨[(.st 8),(.int .i64),(.int .i64)],[(.st 4),(.int .i64)],fun xs=>X3E xs.1 xs.2.1 xs.2.2.1⟩
theorem qaz:Z7Q X 52 qay:=Zho (Zhn xok qau q1 qaw 12 52) fun xs _ h=>((qax xs.1 xs.2.1 xs.2.2.1).trans (X3U xs.1 xs.2.1 xs.2.2.1).symm).trans h
noncomputable def qaA:List (Nat×F7 S):=[]
theorem qaB:Z9n X (qaA):=trivial
abbrev qaC {R:Type}:Z27 S R:=Zgi
theorem qaD {R:Type}:Z3J X (qaC (R:=R)):=ZgQ X
theorem qaE:Zhs X qaA [] [(.arr 8 (.st 2))] q0 qaC 12 74 (())=X5b:=by kernel_rfl
noncomputable def qaF:F7 S:=⟨[],[(.arr 8 (.st 2))],fun xs=>X5b⟩
theorem qaG:Z7Q X 74 qaF:=Zho (Zhn xok qaB q1 qaD 12 74) fun xs _ h=>(qaE).trans h
noncomputable def qaH:List (Nat×F7 S):=[(74,qaF),(75,q73)]
theorem qaI:Z9n X (qaH):=⟨qaG,q74,trivial⟩
abbrev qaJ {R:Type}:Z27 S R:=Zgi
theorem qaK {R:Type}:Z3J X (qaJ (R:=R)):=ZgQ X
def qaL:Key:=⟨[54],54,none,[0,0,0,1],0,2⟩
def qaM:StT S:=⟨v1p,(N L ok L),2⟩
def qaN:Way S:=⟨(.exit 0),⟨v1p,(N L ok L),10⟩,[.int,(.st 2)]⟩
def qaO:LE S:=⟨qaL,qaM,[.int,(.st 2)],[qaN]⟩
def qaP (x:(Int×Zu)):(Int×Zu)→(Int×Zu):=fun y0=>(y0.1,y0.2)
noncomputable def qaQ {R:Type} (x:(Int×Zu)) (k:(Int×Zu)→Option R):Option R:=(X1l (x.1,x.2)).bind (fun y0=>k (y0.1,y0.2))
def qaR (x:(Int×Zu)) (v:(Int×Zu)):(Int×Zu):=(v.1,v.2)
theorem qaS (x:(Int×Zu)):LE.step X qaO qaH q0 qaJ 12 x=Xm x.1 x.2 (fun w0 w1=>(Sum.inl (w0,w1))) (fun p0 p1=>(Sum.inr (p0,p1))):=by kernel_rfl
theorem qaU {R:Type} (x:(Int×Zu)) (k:(Int×Zu)→Option R) (r:R) (h:qaQ x k=some r):∃ o,Z5s (LE.step X qaO qaH q0 qaJ 12) x o∧k o=some r:=by
 obtain ⟨o,h1,h2⟩:=Z0 h
 exact ⟨qaP x o,Zhl (st:=fun (x:(Int×Zu))=>X7) (prj:=fun x=>(x.1,x.2)) (emb:=qaR) (embO:=qaP) (fun x=>(qaS x).trans (by unfold X7 Xm;simp only [Zhd,Zh8,Zhe,Option.map_some,Option.map_none];rfl)) (fun _ _=>rfl) (fun _ _=>rfl) (fun _ _ _=>rfl) (fun _ _ _=>rfl) (fun _=>rfl) (Z1S.1 h1),by
  first
  | exact h2
  | (rcases o with o<;>exact h2)⟩
noncomputable def qaV {R:Type}:Z27 S R:=LE.ls X qaO qaQ qaJ
theorem qaW {R:Type}:Z3J X (qaV (R:=R)):=Zhq xok qaI (e:=qaO) q1 qaK qaU qaK
def qaX:Key:=⟨[54],54,none,[0,0,1,0,1,1],2,12⟩
def qaY:StT S:=⟨(N (N L (some (.ptr 0 0)) (N L none (N (N L (some (.agg [(.arr (.st 2) 8 (fun _=>tdf T (.st 2)))])) L) none L))) none (N L vN v1s)),(N L ok L),12⟩
def qaZ:Way S:=⟨(.exit 2),⟨(N L none (N L vN L)),(N L ok L),13⟩,[.int,(.st 2)]⟩
def qb0:LE S:=⟨qaX,qaY,[(.arr (.st 2)),.int,.int,(.st 2)],[qaZ]⟩
def qb1 (x:tZ):Int→(Int×Zu):=fun y0=>(y0,x.2.2.2)
noncomputable def qb2 {R:Type} (x:tZ) (k:(Int×Zu)→Option R):Option R:=(X2i x.1 x.2.2.2 (x.2.1,x.2.2.1)).bind (fun y0=>k (y0,x.2.2.2))
def qb3 (x:tZ) (v:(Int×Int)):tZ:=(x.1,v.1,v.2,x.2.2.2)
theorem qb4 (x:tZ):LE.step X qb0 qaH q0 qaV 12 x=W0 x.1 x.2.2.2 x.2.1 x.2.2.1 (fun w0 w1=>(Sum.inl (x.1,w0,w1,x.2.2.2))) (fun p0=>(Sum.inr (p0,x.2.2.2))):=by kernel_rfl
theorem qb6 {R:Type} (x:tZ) (k:(Int×Zu)→Option R) (r:R) (h:qb2 x k=some r):∃ o,Z5s (LE.step X qb0 qaH q0 qaV 12) x o∧k o=some r:=by
 obtain ⟨o,h1,h2⟩:=Z0 h
 exact ⟨qb1 x o,Zhl (st:=fun (x:tZ)=>XR x.1 x.2.2.2) (prj:=fun x=>(x.2.1,x.2.2.1)) (emb:=qb3) (embO:=qb1) (fun x=>(qb4 x).trans (by unfold XR W0;simp only [Zhd,Zh8,Zhe,Option.map_some,Option.map_none];rfl)) (fun _ _=>rfl) (fun _ _=>rfl) (fun _ _ _=>rfl) (fun _ _ _=>rfl) (fun _=>rfl) (Z1S.1 h1),by
  first
  | exact h2
  | (rcases o with o<;>exact h2)⟩
noncomputable def qb7 {R:Type}:Z27 S R:=LE.ls X qb0 qb2 qaV
theorem qb8 {R:Type}:Z3J X (qb7 (R:=R)):=Zhq xok qaI (e:=qb0) q1 qaW qb6 qaW
theorem qb9 (x0:Zu):Zhs X qaH [(.st 2)] [(.int .i64)] q0 qb7 12 54 (x0,())=X1r x0:=by kernel_rfl
noncomputable def qba:F7 S:=⟨[(.st 2)],[(.int .i64)],fun xs=>X3z xs.1⟩
theorem qbb:Z7Q X 54 qba:=Zho (Zhn xok qaI q1 qb8 12 54) fun xs _ h=>((qb9 xs.1).trans (X4C xs.1).symm).trans h
noncomputable def qbc:List (Nat×F7 S):=[(52,qay),(53,q6m),(55,q6W),(54,qba)]
theorem qbd:Z9n X (qbc):=⟨qaz,q6n,q6X,qbb,trivial⟩
abbrev qbe {R:Type}:Z27 S R:=Zgi
theorem qbf {R:Type}:Z3J X (qbe (R:=R)):=ZgQ X
theorem qbg (x0:Zl) (x1:Int) (x2:Int) (x3:Zu):Zhs X qbc [(.st 8),(.int .i64),(.int .i64),(.st 2)] [(.int .i64),(.int .i64)] q0 qbe 12 38 (x0,x1,x2,x3,())=X1Y x0 x1 x2 x3:=by kernel_rfl
noncomputable def qbh:F7 S:=⟨[(.st 8),(.int .i64),(.int .i64),(.st 2)],[(.int .i64),(.int .i64)],fun xs=>X4p xs.1 xs.2.1 xs.2.2.1 xs.2.2.2.1⟩
theorem qbi:Z7Q X 38 qbh:=Zho (Zhn xok qbd q1 qbf 12 38) fun xs _ h=>((qbg xs.1 xs.2.1 xs.2.2.1 xs.2.2.2.1).trans (X59 xs.1 xs.2.1 xs.2.2.1 xs.2.2.2.1).symm).trans h
def qbj:StT S:=⟨(N (N L vN L) (some (.ptr 1 0)) L),(N (N L o3 L) op L),2⟩
def qbk:Way S:=⟨.ret,⟨(N L vO L),(N (N L o3 L) op L),2⟩,[.bool,(.st 20),(.lst (.st 21)),.en,(.mp (.st 23) (.int .i64))]⟩
def qbl:PE S:=⟨49,2,qbj,[.int,(.st 20),(.lst (.st 21)),.en,(.mp (.st 23) (.int .i64))],[qbk]⟩
noncomputable def qbm:List (Nat×F7 S):=[(61,qar)]
theorem qbn:Z9n X qbm:=⟨qas,trivial⟩
abbrev qbo {R:Type}:Z27 S R:=Zgi
theorem qbp {R:Type}:Z3J X (qbo (R:=R)):=ZgQ X
theorem qbq (x:tI):PE.step X qbl qbm q0 qbo 12 x=Xq x.1 x.2.1 x.2.2.1 x.2.2.2.1 x.2.2.2.2:=by kernel_rfl
theorem qbr:ZaX X qbl XH:=Zhr (ZgU xok qbn q1 qbp 12) fun x _ h=>((qbq x).trans (X2M x).symm).trans h
noncomputable def qbs {R:Type}:Prs S R:=PE.ps X qbl (fun x q=>(XH x).bind q) q0
theorem qbt {R:Type}:Z7R X (qbs (R:=R)):=Zhi (e:=qbl) qbr q1
def qbu:StT S:=⟨(N (N L vq L) (some (.ptr 1 0)) L),(N (N L o3 L) op L),2⟩
def qbv:Way S:=⟨.ret,⟨(N L vN L),(N (N L o3 L) op L),2⟩,[.int,(.st 20),(.lst (.st 21)),.en,(.mp (.st 23) (.int .i64))]⟩
def qbw:PE S:=⟨79,2,qbu,[(.st 21),(.st 20),(.lst (.st 21)),.en,(.mp (.st 23) (.int .i64))],[qbv]⟩
noncomputable def qbx:List (Nat×F7 S):=[(41,q8v),(61,qar)]
theorem qby:Z9n X qbx:=⟨q8w,qas,trivial⟩
abbrev qbz {R:Type}:Z27 S R:=Zgi
theorem qbA {R:Type}:Z3J X (qbz (R:=R)):=ZgQ X
theorem qbB (x:(Zm×ZJ×(List Zm)×(Nat→Nat)×t1e)):PE.step X qbw qbx qbs qbz 12 x=XA x.1 x.2.1 x.2.2.1 x.2.2.2.1 x.2.2.2.2:=by kernel_rfl
theorem qbC:ZaX X qbw WL:=Zhr (ZgU xok qby qbt qbA 12) fun x _ h=>((qbB x).trans (X33 x).symm).trans h
noncomputable def qbD {R:Type}:Prs S R:=PE.ps X qbw (fun x q=>(WL x).bind q) qbs
theorem qbE {R:Type}:Z7R X (qbD (R:=R)):=Zhi (e:=qbw) qbC qbt
def qbF:StT S:=⟨v1k,L,0⟩
def qbG:Way S:=⟨.ret,⟨(N L (some (.tup [.nilp,(.int .i64 0),(.int .i64 0)])) L),L,0⟩,[.int,.int]⟩
def qbH:Way S:=⟨.ret,⟨(N L (some (.tup [(.ptr 1 0),(.int .i64 0),(.int .i64 0)])) L),(N (N L o3 L) op L),2⟩,[.int,.int,(.st 20),(.lst (.st 21)),.en,(.mp (.st 23) (.int .i64))]⟩
def qbI:PE S:=⟨56,2,qbF,[(.lst (.st 21)),(.st 20)],[qbG,qbH]⟩
noncomputable def qbJ:List (Nat×F7 S):=[(76,qa0),(41,q8v),(61,qar)]
theorem qbK:Z9n X qbJ:=⟨qa1,q8w,qas,trivial⟩
abbrev qbL {R:Type}:Z27 S R:=Zgi
theorem qbM {R:Type}:Z3J X (qbL (R:=R)):=ZgQ X
def qbN:Key:=⟨[56],56,none,[0,0,1,0,1,1,1,1],0,26⟩
def qbO:StT S:=⟨(N (N (N L none (N L none (N L vL L))) vK (N L none (N L none (N L vN L)))) none (N (N L (some (.ptr 1 0)) (N L none (N L vN L))) none L)),o18,26⟩
def qbP:Way S:=⟨(.exit 0),⟨(N (N L vK L) none (N (N L (some (.ptr 1 0)) L) none L)),o18,27⟩,[(.lst (.st 21)),(.st 20),(.st 20),(.lst (.st 21)),.en,(.mp (.st 23) (.int .i64))]⟩
def qbQ:LE S:=⟨qbN,qbO,[(.lst (.st 18)),(.lst (.st 21)),.int,.int,(.st 20),(.st 20),(.lst (.st 21)),.en,(.mp (.st 23) (.int .i64))],[qbP]⟩
def qbR (x:tj):(Nat→Nat)→tz:=fun y0=>(x.2.1,x.2.2.2.2.1,x.2.2.2.2.2.1,x.2.2.2.2.2.2.1,y0,x.2.2.2.2.2.2.2.2)
noncomputable def qbS {R:Type} (x:tj) (k:tz→Option R):Option R:=(X2t x.1 x.2.2.2.1 (x.2.2.1,x.2.2.2.2.2.2.2.1)).bind (fun y0=>k (x.2.1,x.2.2.2.2.1,x.2.2.2.2.2.1,x.2.2.2.2.2.2.1,y0,x.2.2.2.2.2.2.2.2))
def qbT (x:tj) (v:(Int×(Nat→Nat))):tj:=(x.1,x.2.1,v.1,x.2.2.2.1,x.2.2.2.2.1,x.2.2.2.2.2.1,x.2.2.2.2.2.2.1,v.2,x.2.2.2.2.2.2.2.2)
theorem qbU (x:tj):LE.step X qbQ qbJ q0 qbL 12 x=Wq x.1 x.2.2.2.1 x.2.2.1 x.2.2.2.2.2.2.2.1 (fun w0 w1=>(Sum.inl (x.1,x.2.1,w0,x.2.2.2.1,x.2.2.2.2.1,x.2.2.2.2.2.1,x.2.2.2.2.2.2.1,w1,x.2.2.2.2.2.2.2.2))) (fun p0=>(Sum.inr (x.2.1,x.2.2.2.2.1,x.2.2.2.2.2.1,x.2.2.2.2.2.2.1,p0,x.2.2.2.2.2.2.2.2))):=by kernel_rfl
theorem qbW {R:Type} (x:tj) (k:tz→Option R) (r:R) (h:qbS x k=some r):∃ o,Z5s (LE.step X qbQ qbJ q0 qbL 12) x o∧k o=some r:=by
 obtain ⟨o,h1,h2⟩:=Z0 h
 exact ⟨qbR x o,Zhl (st:=fun (x:tj)=>Wa x.1 x.2.2.2.1) (prj:=fun x=>(x.2.2.1,x.2.2.2.2.2.2.2.1)) (emb:=qbT) (embO:=qbR) (fun x=>(qbU x).trans (by unfold Wa Wq;simp only [Zhd,Zh8,Zhe,Option.map_some,Option.map_none];rfl)) (fun _ _=>rfl) (fun _ _=>rfl) (fun _ _ _=>rfl) (fun _ _ _=>rfl) (fun _=>rfl) (Z1S.1 h1),by
  first
  | exact h2
  | (rcases o with o<;>exact h2)⟩
noncomputable def qbX {R:Type}:Z27 S R:=LE.ls X qbQ qbS qbL
theorem qbY {R:Type}:Z3J X (qbX (R:=R)):=Zhq xok qbK (e:=qbQ) q1 qbM qbW qbM
def qbZ:Key:=⟨[77,2,14,56],77,none,[0,0,1,0,1],0,40⟩
def qc0:StT S:=⟨(N (N (N L none (N L vN L)) (some (.fn (.func 78) [] [(.ptr 1 0)])) (N (N L vK L) none L)) none v1s),o16,40⟩
def qc1:Way S:=⟨.ret,⟨v1l,(N (N L oz L) none (N (N L none (N (N L o2 (N L oe L)) none (N (N L oe L) none L))) none (N (N (N L op L) none L) none L))),64⟩,[.int,.int,(.st 20),(.lst (.st 21)),.en,(.st 21),(.st 21),(.mp (.st 23) (.int .i64))]⟩
def qc2:Way S:=⟨(.exit 0),⟨L,o16,41⟩,[(.st 20),(.lst (.st 21)),.en,(.mp (.st 23) (.int .i64))]⟩
def qc3:LE S:=⟨qbZ,qc0,[.int,(.lst (.st 21)),.int,(.st 20),(.lst (.st 21)),.en,(.mp (.st 23) (.int .i64))],[qc1,qc2]⟩
def qc4 (x:tt):tb→tb:=Sum.elim (fun y0=>(.inl (y0.1,y0.2.1,y0.2.2.1,y0.2.2.2.1,y0.2.2.2.2.1,y0.2.2.2.2.2.1,y0.2.2.2.2.2.2.1,y0.2.2.2.2.2.2.2))) (fun y1=>(.inr (y1.1,y1.2.1,y1.2.2.1,y1.2.2.2)))
noncomputable def qc5 {R:Type} (x:tt) (k:tb→Option R):Option R:=(X2u x.2.1 x.2.2.1 (x.1,x.2.2.2.1,x.2.2.2.2.1,x.2.2.2.2.2.1,x.2.2.2.2.2.2)).bind (Sum.elim (fun y0=>k (.inl (y0.1,y0.2.1,y0.2.2.1,y0.2.2.2.1,y0.2.2.2.2.1,y0.2.2.2.2.2.1,y0.2.2.2.2.2.2.1,y0.2.2.2.2.2.2.2))) (fun y1=>k (.inr (y1.1,y1.2.1,y1.2.2.1,y1.2.2.2))))
def qc6 (x:tt) (v:tI):tt:=(v.1,x.2.1,x.2.2.1,v.2.1,v.2.2.1,v.2.2.2.1,v.2.2.2.2)
theorem qc7 (x:tt):LE.step X qc3 qbJ qbD qbX 12 x=Wr x.2.1 x.2.2.1 x.1 x.2.2.2.1 x.2.2.2.2.1 x.2.2.2.2.2.1 x.2.2.2.2.2.2 (fun w0 w1 w2 w3 w4=>(Sum.inl (w0,x.2.1,x.2.2.1,w1,w2,w3,w4))) (fun p0 p1 p2 p3 p4 p5 p6 p7=>(Sum.inr (.inl (p0,p1,p2,p3,p4,p5,p6,p7)))) (fun p0 p1 p2 p3=>(Sum.inr (.inr (p0,p1,p2,p3)))):=by kernel_rfl
theorem qc9 {R:Type} (x:tt) (k:tb→Option R) (r:R) (h:qc5 x k=some r):∃ o,Z5s (LE.step X qc3 qbJ qbD qbX 12) x o∧k o=some r:=by
 obtain ⟨o,h1,h2⟩:=Z0 h
 exact ⟨qc4 x o,Zhl (st:=fun (x:tt)=>Wb x.2.1 x.2.2.1) (prj:=fun x=>(x.1,x.2.2.2.1,x.2.2.2.2.1,x.2.2.2.2.2.1,x.2.2.2.2.2.2)) (emb:=qc6) (embO:=qc4) (fun x=>(qc7 x).trans (by unfold Wb Wr;simp only [Zhd,Zh8,Zhe,Option.map_some,Option.map_none];rfl)) (fun _ _=>rfl) (fun _ _=>rfl) (fun _ _ _=>rfl) (fun _ _ _=>rfl) (fun _=>rfl) (Z1S.1 h1),by
  first
  | exact h2
  | (rcases o with o|o<;>exact h2)⟩
noncomputable def qca {R:Type}:Z27 S R:=LE.ls X qc3 qc5 qbX
theorem qcb {R:Type}:Z3J X (qca (R:=R)):=Zhq xok qbK (e:=qc3) qbE qbY qc9 qbY
theorem qcc (x:((List Zm)×ZJ)):PE.step X qbI qbJ qbD qca 12 x=X1K x.1 x.2:=by kernel_rfl
theorem qcd:ZaX X qbI X3Y:=Zhr (ZgU xok qbK qbE qcb 12) fun x _ h=>((qcc x).trans (X4Q x).symm).trans h
noncomputable def qce {R:Type}:Prs S R:=PE.ps X qbI (fun x q=>(X3Y x).bind q) qbD
theorem qcf {R:Type}:Z7R X (qce (R:=R)):=Zhi (e:=qbI) qcd qbE
def qcg:StT S:=⟨v1k,L,0⟩
def qch:Way S:=⟨.ret,⟨(N L (some (.tup [.nilp,(.int .i64 0)])) L),L,0⟩,[.int]⟩
def qci:Way S:=⟨.ret,⟨(N L (some (.tup [(.ptr 1 0),(.int .i64 0)])) L),(N (N L o3 L) op L),2⟩,[.int,(.st 20),(.lst (.st 21)),.en,(.mp (.st 23) (.int .i64))]⟩
def qcj:PE S:=⟨39,2,qcg,[(.lst (.st 21)),(.st 20)],[qch,qci]⟩
noncomputable def qck:List (Nat×F7 S):=[(76,qa0),(41,q8v),(61,qar)]
theorem qcl:Z9n X qck:=⟨qa1,q8w,qas,trivial⟩
abbrev qcm {R:Type}:Z27 S R:=Zgi
theorem qcn {R:Type}:Z3J X (qcm (R:=R)):=ZgQ X
theorem qco (x:((List Zm)×ZJ)):PE.step X qcj qck qce qcm 12 x=X1u x.1 x.2:=by kernel_rfl
theorem qcp:ZaX X qcj X2c:=Zhr (ZgU xok qcl qcf qcn 12) fun x _ h=>((qco x).trans (X4E x).symm).trans h
noncomputable def qcq {R:Type}:Prs S R:=PE.ps X qcj (fun x q=>(X2c x).bind q) qce
theorem qcr {R:Type}:Z7R X (qcq (R:=R)):=Zhi (e:=qcj) qcp qcf
def qcs:StT S:=⟨(N L (some .nilp) L),L,0⟩
def qct:PE S:=⟨40,1,qcs,[],[]⟩
noncomputable def qcu:List (Nat×F7 S):=[(38,qbh),(41,q8v)]
theorem qcv:Z9n X qcu:=⟨qbi,q8w,trivial⟩
abbrev qcw {R:Type}:Z27 S R:=Zgi
theorem qcx {R:Type}:Z3J X (qcw (R:=R)):=ZgQ X
theorem qcy (x:Unit):PE.step X qct qcu qcq qcw 12 x=W7:=by kernel_rfl
theorem qcz:ZaX X qct X1n:=Zhr (ZgU xok qcv qcr qcx 12) fun x _ h=>((qcy x).trans (X4s x).symm).trans h
noncomputable def qcA {R:Type}:Prs S R:=PE.ps X qct (fun x q=>(X1n x).bind q) qcq
theorem qcB {R:Type}:Z7R X (qcA (R:=R)):=Zhi (e:=qct) qcz qcr
def qcC:StT S:=⟨(N (N L vN L) (some (.ptr 1 0)) (N L vs L)),(N (N L o3 L) op L),2⟩
def qcD:Way S:=⟨.ret,⟨(N L vN L),(N (N L o3 L) op L),2⟩,[.int,(.st 20),(.lst (.st 21)),.en,(.mp (.st 23) (.int .i64))]⟩
def qcE:PE S:=⟨62,3,qcC,[.int,(.st 2),(.st 20),(.lst (.st 21)),.en,(.mp (.st 23) (.int .i64))],[qcD]⟩
noncomputable def qcF:List (Nat×F7 S):=[(38,qbh)]
theorem qcG:Z9n X qcF:=⟨qbi,trivial⟩
abbrev qcH {R:Type}:Z27 S R:=Zgi
theorem qcI {R:Type}:Z3J X (qcH (R:=R)):=ZgQ X
theorem qcJ (x:(Int×Zu×ZJ×(List Zm)×(Nat→Nat)×t1e)):PE.step X qcE qcF qcA qcH 12 x=Xr x.1 x.2.1 x.2.2.1 x.2.2.2.1 x.2.2.2.2.1 x.2.2.2.2.2:=by kernel_rfl
theorem qcK:ZaX X qcE XI:=Zhr (ZgU xok qcG qcB qcI 12) fun x _ h=>((qcJ x).trans (X2Q x).symm).trans h
noncomputable def qcL {R:Type}:Prs S R:=PE.ps X qcE (fun x q=>(XI x).bind q) qcA
theorem qcM {R:Type}:Z7R X (qcL (R:=R)):=Zhi (e:=qcE) qcK qcB
def qcN:StT S:=⟨(N (N L vs L) (some (.agg [(.ptr 1 0)])) (N L vq L)),(N (N L o3 L) op L),2⟩
def qcO:Way S:=⟨.ret,⟨v1e,(N (N L o3 L) op L),2⟩,[(.st 5),.bool,(.st 20),(.lst (.st 21)),.en,(.mp (.st 23) (.int .i64))]⟩
def qcP:PE S:=⟨129,3,qcN,[(.st 2),(.st 21),(.st 20),(.lst (.st 21)),.en,(.mp (.st 23) (.int .i64))],[qcO]⟩
noncomputable def qcQ:List (Nat×F7 S):=[(38,qbh)]
theorem qcR:Z9n X qcQ:=⟨qbi,trivial⟩
abbrev qcS {R:Type}:Z27 S R:=Zgi
theorem qcT {R:Type}:Z3J X (qcS (R:=R)):=ZgQ X
theorem qcU (x:(Zu×Zm×ZJ×(List Zm)×(Nat→Nat)×t1e)):PE.step X qcP qcQ qcL qcS 12 x=Xs x.1 x.2.1 x.2.2.1 x.2.2.2.1 x.2.2.2.2.1 x.2.2.2.2.2:=by kernel_rfl
theorem qcV:ZaX X qcP Xg:=Zhr (ZgU xok qcR qcM qcT 12) fun x _ h=>((qcU x).trans (X2S x).symm).trans h
noncomputable def qcW {R:Type}:Prs S R:=PE.ps X qcP (fun x q=>(Xg x).bind q) qcL
theorem qcX {R:Type}:Z7R X (qcW (R:=R)):=Zhi (e:=qcP) qcV qcM
def qcY:StT S:=⟨(N (N L vs L) (some (.agg [(.ptr 1 0)])) (N L vq L)),(N (N L o3 L) op L),2⟩
def qcZ:Way S:=⟨.ret,⟨v1e,(N (N L o3 L) op L),2⟩,[(.st 5),.bool,(.st 20),(.lst (.st 21)),.en,(.mp (.st 23) (.int .i64))]⟩
def qd0:PE S:=⟨130,3,qcY,[(.st 2),(.st 21),(.st 20),(.lst (.st 21)),.en,(.mp (.st 23) (.int .i64))],[qcZ]⟩
noncomputable def qd1:List (Nat×F7 S):=[(41,q8v)]
theorem qd2:Z9n X qd1:=⟨q8w,trivial⟩
abbrev qd3 {R:Type}:Z27 S R:=Zgi
theorem qd4 {R:Type}:Z3J X (qd3 (R:=R)):=ZgQ X
def qd5:Key:=⟨[131,7,1,130],131,none,[0,0,1,0,1],0,20⟩
def qd6:StT S:=⟨(N (N (N (N L vN L) none L) (some (.fn (.func 132) [] [(.ptr 3 0)])) L) (some (.sl (.st 19) [])) v1t),o1z,20⟩
def qd7:Way S:=⟨.ret,⟨v1s,(N (N (N (N L none (N (N L ot L) none L)) ok (N (N L none (N L ot L)) none L)) none (N L none (N L none (N L od L)))) none L),58⟩,[.int,(.lst (.int .i64)),(.st 2),(.lst (.int .i64)),(.st 19)]⟩
def qd8:Way S:=⟨(.exit 0),⟨L,o1z,21⟩,[(.st 2)]⟩
def qd9:LE S:=⟨qd5,qd6,[.int,(.lst (.st 19)),.int,(.st 2)],[qd7,qd8]⟩
def qda (x:t10):((Int×(List Int)×(List Int)×Zt)⊕Unit)→tP:=Sum.elim (fun y0=>(.inl (y0.1,y0.2.1,x.2.2.2,y0.2.2.1,y0.2.2.2))) (fun y1=>(.inr x.2.2.2))
noncomputable def qdb {R:Type} (x:t10) (k:tP→Option R):Option R:=(X2C x.1 x.2.1 x.2.2.2 x.2.2.1).bind (Sum.elim (fun y0=>k (.inl (y0.1,y0.2.1,x.2.2.2,y0.2.2.1,y0.2.2.2))) (fun y1=>k (.inr x.2.2.2)))
def qdc (x:t10) (v:Int):t10:=(x.1,x.2.1,v,x.2.2.2)
theorem qdd (x:t10):LE.step X qd9 qd1 qcW qd3 12 x=Xl x.1 x.2.1 x.2.2.2 x.2.2.1 (fun w0=>(Sum.inl (x.1,x.2.1,w0,x.2.2.2))) (fun p0 p1 p2 p3=>(Sum.inr (.inl (p0,p1,x.2.2.2,p2,p3)))) (Sum.inr (.inr x.2.2.2)):=by kernel_rfl
theorem qdf {R:Type} (x:t10) (k:tP→Option R) (r:R) (h:qdb x k=some r):∃ o,Z5s (LE.step X qd9 qd1 qcW qd3 12) x o∧k o=some r:=by
 obtain ⟨o,h1,h2⟩:=Z0 h
 exact ⟨qda x o,Zhl (st:=fun (x:t10)=>Xe x.1 x.2.1 x.2.2.2) (prj:=fun x=>x.2.2.1) (emb:=qdc) (embO:=qda) (fun x=>(qdd x).trans (by unfold Xe Xl;simp only [Zhd,Zh8,Zhe,Option.map_some,Option.map_none];rfl)) (fun _ _=>rfl) (fun _ _=>rfl) (fun _ _ _=>rfl) (fun _ _ _=>rfl) (fun _=>rfl) (Z1S.1 h1),by
  first
  | exact h2
  | (rcases o with o|o<;>exact h2)⟩
noncomputable def qdg {R:Type}:Z27 S R:=LE.ls X qd9 qdb qd3
theorem qdh {R:Type}:Z3J X (qdg (R:=R)):=Zhq xok qd2 (e:=qd9) qcX qd4 qdf qd4
theorem qdi (x:(Zu×Zm×ZJ×(List Zm)×(Nat→Nat)×t1e)):PE.step X qd0 qd1 qcW qdg 12 x=W1 x.1 x.2.1 x.2.2.1 x.2.2.2.1 x.2.2.2.2.1 x.2.2.2.2.2:=by kernel_rfl
theorem qdj:ZaX X qd0 XS:=Zhr (ZgU xok qd2 qcX qdh 12) fun x _ h=>((qdi x).trans (X3t x).symm).trans h
noncomputable def qdk {R:Type}:Prs S R:=PE.ps X qd0 (fun x q=>(XS x).bind q) qcW
theorem qdl {R:Type}:Z7R X (qdk (R:=R)):=Zhi (e:=qd0) qdj qcX
def qdm:StT S:=⟨(N (N (N L vN L) vs L) (some (.ptr 1 0)) (N L vN L)),(N (N L o3 L) op L),2⟩
def qdn:Way S:=⟨.ret,⟨(N L (some (.tup [(.agg [(.arr (.st 5) 4 (fun _=>tdf T (.st 5)))]),(.bool false)])) L),(N (N L o3 L) op L),2⟩,[(.arr (.st 5)),.bool,(.st 20),(.lst (.st 21)),.en,(.mp (.st 23) (.int .i64))]⟩
def qdo:PE S:=⟨42,4,qdm,[.int,(.st 2),.int,(.st 20),(.lst (.st 21)),.en,(.mp (.st 23) (.int .i64))],[qdn]⟩
noncomputable def qdp:List (Nat×F7 S):=[(38,qbh),(41,q8v)]
theorem qdq:Z9n X qdp:=⟨qbi,q8w,trivial⟩
abbrev qdr {R:Type}:Z27 S R:=Zgi
theorem qds {R:Type}:Z3J X (qdr (R:=R)):=ZgQ X
def qdt:Key:=⟨[42],42,none,[0,0,1,0,0,1],0,12⟩
def qdu:StT S:=⟨(N (N (N (N L none (N L vN L)) vN L) none (N L (some (.ptr 2 0)) L)) (some (.ptr 1 0)) (N (N (N L (some (.ptr 3 0)) (N L vN L)) none L) vN (N L none (N (N L vL L) none L)))),o1q,12⟩
def qdv:Way S:=⟨(.exit 0),⟨(N (N (N L vN L) none (N L (some (.ptr 2 0)) L)) (some (.ptr 1 0)) (N v1r vN L)),o1q,13⟩,[.int,.int,(.arr (.st 5)),(.st 20),(.lst (.st 21)),.en,(.mp (.st 23) (.int .i64)),(.st 2)]⟩
def qdw:LE S:=⟨qdt,qdu,[.int,.int,.int,.int,(.lst (.st 18)),(.arr (.st 5)),(.st 20),(.lst (.st 21)),.en,(.mp (.st 23) (.int .i64)),(.st 2)],[qdv]⟩
def qdx (x:tg):(Nat→ZE)→tq:=fun y0=>(x.2.1,x.2.2.2.1,y0,x.2.2.2.2.2.2.1,x.2.2.2.2.2.2.2.1,x.2.2.2.2.2.2.2.2.1,x.2.2.2.2.2.2.2.2.2.1,x.2.2.2.2.2.2.2.2.2.2)
noncomputable def qdy {R:Type} (x:tg) (k:tq→Option R):Option R:=(X1C x.1 x.2.1 x.2.2.2.1 x.2.2.2.2.1 x.2.2.2.2.2.2.1 x.2.2.2.2.2.2.2.1 x.2.2.2.2.2.2.2.2.1 x.2.2.2.2.2.2.2.2.2.1 x.2.2.2.2.2.2.2.2.2.2 (x.2.2.1,x.2.2.2.2.2.1)).bind (fun y0=>k (x.2.1,x.2.2.2.1,y0,x.2.2.2.2.2.2.1,x.2.2.2.2.2.2.2.1,x.2.2.2.2.2.2.2.2.1,x.2.2.2.2.2.2.2.2.2.1,x.2.2.2.2.2.2.2.2.2.2))
def qdz (x:tg) (v:(Int×(Nat→ZE))):tg:=(x.1,x.2.1,v.1,x.2.2.2.1,x.2.2.2.2.1,v.2,x.2.2.2.2.2.2.1,x.2.2.2.2.2.2.2.1,x.2.2.2.2.2.2.2.2.1,x.2.2.2.2.2.2.2.2.2.1,x.2.2.2.2.2.2.2.2.2.2)
theorem qdA (x:tg):LE.step X qdw qdp qcA qdr 12 x=Xn x.1 x.2.1 x.2.2.2.1 x.2.2.2.2.1 x.2.2.2.2.2.2.1 x.2.2.2.2.2.2.2.1 x.2.2.2.2.2.2.2.2.1 x.2.2.2.2.2.2.2.2.2.1 x.2.2.2.2.2.2.2.2.2.2 x.2.2.1 x.2.2.2.2.2.1 (fun w0 w1=>(Sum.inl (x.1,x.2.1,w0,x.2.2.2.1,x.2.2.2.2.1,w1,x.2.2.2.2.2.2.1,x.2.2.2.2.2.2.2.1,x.2.2.2.2.2.2.2.2.1,x.2.2.2.2.2.2.2.2.2.1,x.2.2.2.2.2.2.2.2.2.2))) (fun p0=>(Sum.inr (x.2.1,x.2.2.2.1,p0,x.2.2.2.2.2.2.1,x.2.2.2.2.2.2.2.1,x.2.2.2.2.2.2.2.2.1,x.2.2.2.2.2.2.2.2.2.1,x.2.2.2.2.2.2.2.2.2.2))):=by kernel_rfl
theorem qdC {R:Type} (x:tg) (k:tq→Option R) (r:R) (h:qdy x k=some r):∃ o,Z5s (LE.step X qdw qdp qcA qdr 12) x o∧k o=some r:=by
 obtain ⟨o,h1,h2⟩:=Z0 h
 exact ⟨qdx x o,Zhl (st:=fun (x:tg)=>Xh x.1 x.2.1 x.2.2.2.1 x.2.2.2.2.1 x.2.2.2.2.2.2.1 x.2.2.2.2.2.2.2.1 x.2.2.2.2.2.2.2.2.1 x.2.2.2.2.2.2.2.2.2.1 x.2.2.2.2.2.2.2.2.2.2) (prj:=fun x=>(x.2.2.1,x.2.2.2.2.2.1)) (emb:=qdz) (embO:=qdx) (fun x=>(qdA x).trans (by unfold Xh Xn;simp only [Zhd,Zh8,Zhe,Option.map_some,Option.map_none];rfl)) (fun _ _=>rfl) (fun _ _=>rfl) (fun _ _ _=>rfl) (fun _ _ _=>rfl) (fun _=>rfl) (Z1S.1 h1),by
  first
  | exact h2
  | (rcases o with o<;>exact h2)⟩
noncomputable def qdD {R:Type}:Z27 S R:=LE.ls X qdw qdy qdr
theorem qdE {R:Type}:Z3J X (qdD (R:=R)):=Zhq xok qdq (e:=qdw) qcB qds qdC qds
def qdF:Key:=⟨[42],42,none,[0,0,1,0,1,1,0,1],2,19⟩
def qdG:StT S:=⟨(N (N (N v1s vN L) none (N L (some (.ptr 2 0)) (N (N (N L vK L) none L) none L))) (some (.ptr 1 0)) (N v1r vN (N L none v1t))),o1q,19⟩
def qdH:Way S:=⟨.ret,⟨v1a,(N (N (N L o8 (N (N (N L (some (.cells 135 [.nilp])) L) none L) none L)) o3 o19) op (N L ok (N L none (N (N L oe L) none L)))),102⟩,[.bool,(.arr (.st 5)),(.st 20),(.lst (.st 21)),.en,(.st 5),(.mp (.st 23) (.int .i64)),(.st 2),(.st 21)]⟩
def qdI:Way S:=⟨.ret,⟨v1a,(N (N (N L o8 (N (N (N L (some (.cells 135 [(.ptr 1 0)])) L) none L) none L)) o3 o19) op (N L ok (N L none (N (N L oe L) none L)))),102⟩,[.bool,(.arr (.st 5)),(.st 20),(.lst (.st 21)),.en,(.st 5),(.mp (.st 23) (.int .i64)),(.st 2),(.st 21)]⟩
def qdJ:Way S:=⟨(.exit 2),⟨(N L none (N v1r none L)),o1q,20⟩,[(.arr (.st 5)),(.st 20),(.lst (.st 21)),.en,(.mp (.st 23) (.int .i64)),(.st 2)]⟩
def qdK:LE S:=⟨qdF,qdG,[.int,.int,(.lst (.st 21)),.int,.int,(.arr (.st 5)),(.st 20),(.lst (.st 21)),.en,(.mp (.st 23) (.int .i64)),(.st 2)],[qdH,qdI,qdJ]⟩
def qdL (x:ti):((Bool×(Nat→ZE)×ZJ×(List Zm)×(Nat→Nat)×ZE×t1e×Zm)⊕(Bool×(Nat→ZE)×ZJ×(List Zm)×(Nat→Nat)×ZE×t1e×Zm)⊕((Nat→ZE)×ZJ×(List Zm)×(Nat→Nat)×t1e))→t1:=Sum.elim (fun y0=>(.inl (y0.1,y0.2.1,y0.2.2.1,y0.2.2.2.1,y0.2.2.2.2.1,y0.2.2.2.2.2.1,y0.2.2.2.2.2.2.1,x.2.2.2.2.2.2.2.2.2.2,y0.2.2.2.2.2.2.2))) (Sum.elim (fun y1=>(.inr (.inl (y1.1,y1.2.1,y1.2.2.1,y1.2.2.2.1,y1.2.2.2.2.1,y1.2.2.2.2.2.1,y1.2.2.2.2.2.2.1,x.2.2.2.2.2.2.2.2.2.2,y1.2.2.2.2.2.2.2)))) (fun y2=>(.inr (.inr (y2.1,y2.2.1,y2.2.2.1,y2.2.2.2.1,y2.2.2.2.2,x.2.2.2.2.2.2.2.2.2.2)))))
noncomputable def qdM {R:Type} (x:ti) (k:t1→Option R):Option R:=(X1D x.2.1 x.2.2.1 x.2.2.2.1 x.2.2.2.2.1 x.2.2.2.2.2.2.2.2.2.2 (x.1,x.2.2.2.2.2.1,x.2.2.2.2.2.2.1,x.2.2.2.2.2.2.2.1,x.2.2.2.2.2.2.2.2.1,x.2.2.2.2.2.2.2.2.2.1)).bind (Sum.elim (fun y0=>k (.inl (y0.1,y0.2.1,y0.2.2.1,y0.2.2.2.1,y0.2.2.2.2.1,y0.2.2.2.2.2.1,y0.2.2.2.2.2.2.1,x.2.2.2.2.2.2.2.2.2.2,y0.2.2.2.2.2.2.2))) (Sum.elim (fun y1=>k (.inr (.inl (y1.1,y1.2.1,y1.2.2.1,y1.2.2.2.1,y1.2.2.2.2.1,y1.2.2.2.2.2.1,y1.2.2.2.2.2.2.1,x.2.2.2.2.2.2.2.2.2.2,y1.2.2.2.2.2.2.2)))) (fun y2=>k (.inr (.inr (y2.1,y2.2.1,y2.2.2.1,y2.2.2.2.1,y2.2.2.2.2,x.2.2.2.2.2.2.2.2.2.2))))))
def qdN (x:ti) (v:(Int×(Nat→ZE)×ZJ×(List Zm)×(Nat→Nat)×t1e)):ti:=(v.1,x.2.1,x.2.2.1,x.2.2.2.1,x.2.2.2.2.1,v.2.1,v.2.2.1,v.2.2.2.1,v.2.2.2.2.1,v.2.2.2.2.2,x.2.2.2.2.2.2.2.2.2.2)
theorem qdO (x:ti):LE.step X qdK qdp qdk qdD 12 x=Xo x.2.1 x.2.2.1 x.2.2.2.1 x.2.2.2.2.1 x.2.2.2.2.2.2.2.2.2.2 x.1 x.2.2.2.2.2.1 x.2.2.2.2.2.2.1 x.2.2.2.2.2.2.2.1 x.2.2.2.2.2.2.2.2.1 x.2.2.2.2.2.2.2.2.2.1 (fun w0 w1 w2 w3 w4 w5=>(Sum.inl (w0,x.2.1,x.2.2.1,x.2.2.2.1,x.2.2.2.2.1,w1,w2,w3,w4,w5,x.2.2.2.2.2.2.2.2.2.2))) (fun p0 p1 p2 p3 p4 p5 p6 p7=>(Sum.inr (.inl (p0,p1,p2,p3,p4,p5,p6,x.2.2.2.2.2.2.2.2.2.2,p7)))) (fun p0 p1 p2 p3 p4 p5 p6 p7=>(Sum.inr (.inr (.inl (p0,p1,p2,p3,p4,p5,p6,x.2.2.2.2.2.2.2.2.2.2,p7))))) (fun p0 p1 p2 p3 p4=>(Sum.inr (.inr (.inr (p0,p1,p2,p3,p4,x.2.2.2.2.2.2.2.2.2.2))))):=by kernel_rfl
theorem qdQ {R:Type} (x:ti) (k:t1→Option R) (r:R) (h:qdM x k=some r):∃ o,Z5s (LE.step X qdK qdp qdk qdD 12) x o∧k o=some r:=by
 obtain ⟨o,h1,h2⟩:=Z0 h
 exact ⟨qdL x o,Zhl (st:=fun (x:ti)=>Xi x.2.1 x.2.2.1 x.2.2.2.1 x.2.2.2.2.1 x.2.2.2.2.2.2.2.2.2.2) (prj:=fun x=>(x.1,x.2.2.2.2.2.1,x.2.2.2.2.2.2.1,x.2.2.2.2.2.2.2.1,x.2.2.2.2.2.2.2.2.1,x.2.2.2.2.2.2.2.2.2.1)) (emb:=qdN) (embO:=qdL) (fun x=>(qdO x).trans (by unfold Xi Xo;simp only [Zhd,Zh8,Zhe,Option.map_some,Option.map_none];rfl)) (fun _ _=>rfl) (fun _ _=>rfl) (fun _ _ _=>rfl) (fun _ _ _=>rfl) (fun _=>rfl) (Z1S.1 h1),by
  first
  | exact h2
  | (rcases o with o|o|o<;>exact h2)⟩
noncomputable def qdR {R:Type}:Z27 S R:=LE.ls X qdK qdM qdD
theorem qdS {R:Type}:Z3J X (qdR (R:=R)):=Zhq xok qdq (e:=qdK) qdl qdE qdQ qdE
theorem qdT (x:(Int×Zu×Int×ZJ×(List Zm)×(Nat→Nat)×t1e)):PE.step X qdo qdp qdk qdR 12 x=Wo x.1 x.2.1 x.2.2.1 x.2.2.2.1 x.2.2.2.2.1 x.2.2.2.2.2.1 x.2.2.2.2.2.2:=by kernel_rfl
theorem qdU:ZaX X qdo Wj:=Zhr (ZgU xok qdq qdl qdS 12) fun x _ h=>((qdT x).trans (X3I x).symm).trans h
noncomputable def qdV {R:Type}:Prs S R:=PE.ps X qdo (fun x q=>(Wj x).bind q) qdk
theorem qdW {R:Type}:Z7R X (qdV (R:=R)):=Zhi (e:=qdo) qdU qdl
def qdX:StT S:=⟨(N L (some (.ptr 1 0)) L),(N (N L o3 L) op L),2⟩
def qdY:Way S:=⟨.ret,⟨(N L (some (.rs 2 0)) L),(N (N L o3 L) op (N L oC L)),3⟩,[(.st 20),(.lst (.st 21)),.en,(.mp (.st 23) (.int .i64)),(.lst (.st 2))]⟩
def qdZ:PE S:=⟨40,1,qdX,[(.st 20),(.lst (.st 21)),.en,(.mp (.st 23) (.int .i64))],[qdY]⟩
noncomputable def qe0:List (Nat×F7 S):=[(38,qbh),(41,q8v)]
theorem qe1:Z9n X qe0:=⟨qbi,q8w,trivial⟩
abbrev qe2 {R:Type}:Z27 S R:=Zgi
theorem qe3 {R:Type}:Z3J X (qe2 (R:=R)):=ZgQ X
def qe4:Key:=⟨[80,0,40],80,none,[0,0,1,0,0,1,0,0,1],2,34⟩
def qe5:StT S:=⟨(N (N (N L vN L) (some (.ptr 6 0)) L) (some (.yld 11)) (N (N L vN L) none L)),o10,35⟩
def qe6:Way S:=⟨(.exit 2),⟨v1i,o10,42⟩,[.int,(.st 20),(.lst (.st 21)),.en,(.mp (.st 23) (.int .i64)),(.lst (.st 2))]⟩
def qe7:LE S:=⟨qe4,qe5,[.int,.int,(.st 20),(.lst (.st 21)),.en,(.mp (.st 23) (.int .i64)),(.lst (.st 2))],[qe6]⟩
def qe8 (x:tv):(ZJ×(List Zm)×(Nat→Nat)×t1e×(List Zu))→tC:=fun y0=>(x.1,y0.1,y0.2.1,y0.2.2.1,y0.2.2.2.1,y0.2.2.2.2)
noncomputable def qe9 {R:Type} (x:tv) (k:tC→Option R):Option R:=(Xz x.1 (x.2.1,x.2.2.1,x.2.2.2.1,x.2.2.2.2.1,x.2.2.2.2.2.1,x.2.2.2.2.2.2)).bind (fun y0=>k (x.1,y0.1,y0.2.1,y0.2.2.1,y0.2.2.2.1,y0.2.2.2.2))
def qea (x:tv) (v:tC):tv:=(x.1,v.1,v.2.1,v.2.2.1,v.2.2.2.1,v.2.2.2.2.1,v.2.2.2.2.2)
theorem qeb (x:tv):LE.step X qe7 qe0 qdV qe2 12 x=X9 x.1 x.2.1 x.2.2.1 x.2.2.2.1 x.2.2.2.2.1 x.2.2.2.2.2.1 x.2.2.2.2.2.2 (fun w0 w1 w2 w3 w4 w5=>(Sum.inl (x.1,w0,w1,w2,w3,w4,w5))) (fun p0 p1 p2 p3 p4=>(Sum.inr (x.1,p0,p1,p2,p3,p4))):=by kernel_rfl
theorem qed {R:Type} (x:tv) (k:tC→Option R) (r:R) (h:qe9 x k=some r):∃ o,Z5s (LE.step X qe7 qe0 qdV qe2 12) x o∧k o=some r:=by
 obtain ⟨o,h1,h2⟩:=Z0 h
 exact ⟨qe8 x o,Zhl (st:=fun (x:tv)=>X6 x.1) (prj:=fun x=>(x.2.1,x.2.2.1,x.2.2.2.1,x.2.2.2.2.1,x.2.2.2.2.2.1,x.2.2.2.2.2.2)) (emb:=qea) (embO:=qe8) (fun x=>(qeb x).trans (by unfold X6 X9;simp only [Zhd,Zh8,Zhe,Option.map_some,Option.map_none];rfl)) (fun _ _=>rfl) (fun _ _=>rfl) (fun _ _ _=>rfl) (fun _ _ _=>rfl) (fun _=>rfl) (Z1S.1 h1),by
  first
  | exact h2
  | (rcases o with o<;>exact h2)⟩
noncomputable def qee {R:Type}:Z27 S R:=LE.ls X qe7 qe9 qe2
theorem qef {R:Type}:Z3J X (qee (R:=R)):=Zhq xok qe1 (e:=qe7) qdW qe3 qed qe3
def qeg:Key:=⟨[80,0,40],80,none,[0,0,1],0,19⟩
def qeh:StT S:=⟨v1i,o17,20⟩
def qei:Way S:=⟨(.exit 0),⟨L,o17,27⟩,[(.lst (.st 2)),(.st 20),(.lst (.st 21)),.en,(.mp (.st 23) (.int .i64))]⟩
def qej:LE S:=⟨qeg,qeh,[.int,(.lst (.st 2)),(.st 20),(.lst (.st 21)),.en,(.mp (.st 23) (.int .i64))],[qei]⟩
def qek (x:tD):tF→tF:=fun y0=>(y0.1,y0.2.1,y0.2.2.1,y0.2.2.2.1,y0.2.2.2.2)
noncomputable def qel {R:Type} (x:tD) (k:tF→Option R):Option R:=(Xy (x.1,x.2.1,x.2.2.1,x.2.2.2.1,x.2.2.2.2.1,x.2.2.2.2.2)).bind (fun y0=>k (y0.1,y0.2.1,y0.2.2.1,y0.2.2.2.1,y0.2.2.2.2))
def qem (x:tD) (v:tD):tD:=(v.1,v.2.1,v.2.2.1,v.2.2.2.1,v.2.2.2.2.1,v.2.2.2.2.2)
theorem qen (x:tD):LE.step X qej qe0 qdV qee 12 x=X8 x.1 x.2.1 x.2.2.1 x.2.2.2.1 x.2.2.2.2.1 x.2.2.2.2.2 (fun w0 w1 w2 w3 w4 w5=>(Sum.inl (w0,w1,w2,w3,w4,w5))) (fun p0 p1 p2 p3 p4=>(Sum.inr (p0,p1,p2,p3,p4))):=by kernel_rfl
theorem qep {R:Type} (x:tD) (k:tF→Option R) (r:R) (h:qel x k=some r):∃ o,Z5s (LE.step X qej qe0 qdV qee 12) x o∧k o=some r:=by
 obtain ⟨o,h1,h2⟩:=Z0 h
 exact ⟨qek x o,Zhl (st:=fun (x:tD)=>X5) (prj:=fun x=>(x.1,x.2.1,x.2.2.1,x.2.2.2.1,x.2.2.2.2.1,x.2.2.2.2.2)) (emb:=qem) (embO:=qek) (fun x=>(qen x).trans (by unfold X5 X8;simp only [Zhd,Zh8,Zhe,Option.map_some,Option.map_none];rfl)) (fun _ _=>rfl) (fun _ _=>rfl) (fun _ _ _=>rfl) (fun _ _ _=>rfl) (fun _=>rfl) (Z1S.1 h1),by
  first
  | exact h2
  | (rcases o with o<;>exact h2)⟩
noncomputable def qeq {R:Type}:Z27 S R:=LE.ls X qej qel qee
theorem qer {R:Type}:Z3J X (qeq (R:=R)):=Zhq xok qe1 (e:=qej) qdW qef qep qef
theorem qes (x:tN):PE.step X qdZ qe0 qdV qeq 12 x=Xp x.1 x.2.1 x.2.2.1 x.2.2.2:=by kernel_rfl
theorem qet:ZaX X qdZ Wp:=Zhr (ZgU xok qe1 qdW qer 12) fun x _ h=>((qes x).trans (X2K x).symm).trans h
noncomputable def qeu {R:Type}:Prs S R:=PE.ps X qdZ (fun x q=>(Wp x).bind q) qdV
theorem qev {R:Type}:Z7R X (qeu (R:=R)):=Zhi (e:=qdZ) qet qdW
noncomputable def qew:List (Nat×F7 S):=[(76,qa0),(41,q8v),(61,qar),(38,qbh)]
theorem qex:Z9n X (qew):=⟨qa1,q8w,qas,qbi,trivial⟩
abbrev qey {R:Type}:Z27 S R:=Zgi
theorem qez {R:Type}:Z3J X (qey (R:=R)):=ZgQ X
theorem qeA (x0:ZJ) (x1:List Zm):Zhs X qew [(.st 20),(.sl (.st 21))] [(.sl (.st 2)),(.int .i64)] qeu qey 12 11 (x0,x1,())=X1Z x0 x1:=by kernel_rfl
noncomputable def qeB:F7 S:=⟨[(.st 20),(.sl (.st 21))],[(.sl (.st 2)),(.int .i64)],fun xs=>X3F xs.1 xs.2.1⟩
theorem qeC:Z7Q X 11 qeB:=Zho (Zhn xok qex qev qez 12 11) fun xs _ h=>((qeA xs.1 xs.2.1).trans (X5c xs.1 xs.2.1).symm).trans h
def qeD:StT S:=⟨(N (N (N L vN L) vs L) (some .nilp) (N L vN L)),L,0⟩
def qeE:PE S:=⟨42,4,qeD,[.int,(.st 2),.int],[]⟩
noncomputable def qeF:List (Nat×F7 S):=[(38,qbh),(41,q8v)]
theorem qeG:Z9n X qeF:=⟨qbi,q8w,trivial⟩
abbrev qeH {R:Type}:Z27 S R:=Zgi
theorem qeI {R:Type}:Z3J X (qeH (R:=R)):=ZgQ X
theorem qeJ (x:(Int×Zu×Int)):PE.step X qeE qeF qeu qeH 12 x=X1m x.1 x.2.1 x.2.2:=by kernel_rfl
theorem qeK:ZaX X qeE X3q:=Zhr (ZgU xok qeG qev qeI 12) fun x _ h=>((qeJ x).trans (X5m x).symm).trans h
noncomputable def qeL {R:Type}:Prs S R:=PE.ps X qeE (fun x q=>(X3q x).bind q) qeu
theorem qeM {R:Type}:Z7R X (qeL (R:=R)):=Zhi (e:=qeE) qeK qev
def qeN:StT S:=⟨(N L (some .nilp) L),L,0⟩
def qeO:PE S:=⟨46,1,qeN,[],[]⟩
noncomputable def qeP:List (Nat×F7 S):=[]
theorem qeQ:Z9n X qeP:=trivial
abbrev qeR {R:Type}:Z27 S R:=Zgi
theorem qeS {R:Type}:Z3J X (qeR (R:=R)):=ZgQ X
theorem qeT (x:Unit):PE.step X qeO qeP qeL qeR 12 x=W8:=by kernel_rfl
theorem qeU:ZaX X qeO X2k:=Zhr (ZgU xok qeQ qeM qeS 12) fun x _ h=>((qeT x).trans (X4t x).symm).trans h
noncomputable def qeV {R:Type}:Prs S R:=PE.ps X qeO (fun x q=>(X2k x).bind q) qeL
theorem qeW {R:Type}:Z7R X (qeV (R:=R)):=Zhi (e:=qeO) qeU qeM
def qeX:StT S:=⟨(N L (some (.ptr 1 0)) L),(N (N L o3 L) op L),2⟩
def qeY:Way S:=⟨.ret,⟨(N L vN L),(N (N L o3 L) op L),2⟩,[.int,(.st 20),(.lst (.st 21)),.en,(.mp (.st 23) (.int .i64))]⟩
def qeZ:PE S:=⟨46,1,qeX,[(.st 20),(.lst (.st 21)),.en,(.mp (.st 23) (.int .i64))],[qeY]⟩
noncomputable def qf0:List (Nat×F7 S):=[]
theorem qf1:Z9n X qf0:=trivial
abbrev qf2 {R:Type}:Z27 S R:=Zgi
theorem qf3 {R:Type}:Z3J X (qf2 (R:=R)):=ZgQ X
def qf4:Key:=⟨[46],46,none,[0,0,1,0,1],0,9⟩
def qf5:StT S:=⟨(N v1v (some (.ptr 1 0)) (N (N L none (N L vN L)) vN (N (N L vK L) none L))),(N (N L o3 L) op L),9⟩
def qf6:Way S:=⟨(.exit 0),⟨(N L none (N L vN L)),(N (N L o3 L) op L),10⟩,[.int,(.st 20),(.lst (.st 21)),.en,(.mp (.st 23) (.int .i64))]⟩
def qf7:LE S:=⟨qf4,qf5,[.int,.int,.int,(.lst (.st 21)),(.st 20),(.lst (.st 21)),.en,(.mp (.st 23) (.int .i64))],[qf6]⟩
def qf8 (x:tr):Int→tI:=fun y0=>(y0,x.2.2.2.2.1,x.2.2.2.2.2.1,x.2.2.2.2.2.2.1,x.2.2.2.2.2.2.2)
noncomputable def qf9 {R:Type} (x:tr) (k:tI→Option R):Option R:=(X21 x.1 x.2.2.2.1 x.2.2.2.2.1 x.2.2.2.2.2.2.1 (x.2.1,x.2.2.1)).bind (fun y0=>k (y0,x.2.2.2.2.1,x.2.2.2.2.2.1,x.2.2.2.2.2.2.1,x.2.2.2.2.2.2.2))
def qfa (x:tr) (v:(Int×Int)):tr:=(x.1,v.1,v.2,x.2.2.2.1,x.2.2.2.2.1,x.2.2.2.2.2.1,x.2.2.2.2.2.2.1,x.2.2.2.2.2.2.2)
theorem qfb (x:tr):LE.step X qf7 qf0 qeV qf2 12 x=WC x.1 x.2.2.2.1 x.2.2.2.2.1 x.2.2.2.2.2.2.1 x.2.1 x.2.2.1 (fun w0 w1=>(Sum.inl (x.1,w0,w1,x.2.2.2.1,x.2.2.2.2.1,x.2.2.2.2.2.1,x.2.2.2.2.2.2.1,x.2.2.2.2.2.2.2))) (fun p0=>(Sum.inr (p0,x.2.2.2.2.1,x.2.2.2.2.2.1,x.2.2.2.2.2.2.1,x.2.2.2.2.2.2.2))):=by kernel_rfl
theorem qfd {R:Type} (x:tr) (k:tI→Option R) (r:R) (h:qf9 x k=some r):∃ o,Z5s (LE.step X qf7 qf0 qeV qf2 12) x o∧k o=some r:=by
 obtain ⟨o,h1,h2⟩:=Z0 h
 exact ⟨qf8 x o,Zhl (st:=fun (x:tr)=>X11 x.1 x.2.2.2.1 x.2.2.2.2.1 x.2.2.2.2.2.2.1) (prj:=fun x=>(x.2.1,x.2.2.1)) (emb:=qfa) (embO:=qf8) (fun x=>(qfb x).trans (by unfold X11 WC;simp only [Zhd,Zh8,Zhe,Option.map_some,Option.map_none];rfl)) (fun _ _=>rfl) (fun _ _=>rfl) (fun _ _ _=>rfl) (fun _ _ _=>rfl) (fun _=>rfl) (Z1S.1 h1),by
  first
  | exact h2
  | (rcases o with o<;>exact h2)⟩
noncomputable def qfe {R:Type}:Z27 S R:=LE.ls X qf7 qf9 qf2
theorem qff {R:Type}:Z3J X (qfe (R:=R)):=Zhq xok qf1 (e:=qf7) qeW qf3 qfd qf3
theorem qfg (x:tN):PE.step X qeZ qf0 qeV qfe 12 x=W9 x.1 x.2.1 x.2.2.1 x.2.2.2:=by kernel_rfl
theorem qfh:ZaX X qeZ X2l:=Zhr (ZgU xok qf1 qeW qff 12) fun x _ h=>((qfg x).trans (X4u x).symm).trans h
noncomputable def qfi {R:Type}:Prs S R:=PE.ps X qeZ (fun x q=>(X2l x).bind q) qeV
theorem qfj {R:Type}:Z7R X (qfi (R:=R)):=Zhi (e:=qeZ) qfh qeW
def qfk:StT S:=⟨(N (N L vN L) (some (.ptr 1 0)) L),(N (N L o3 L) op L),2⟩
def qfl:Way S:=⟨.ret,⟨(N L vO L),(N (N L o3 L) op L),2⟩,[.bool,(.st 20),(.lst (.st 21)),.en,(.mp (.st 23) (.int .i64))]⟩
def qfm:PE S:=⟨48,2,qfk,[.int,(.st 20),(.lst (.st 21)),.en,(.mp (.st 23) (.int .i64))],[qfl]⟩
noncomputable def qfn:List (Nat×F7 S):=[(38,qbh),(41,q8v)]
theorem qfo:Z9n X qfn:=⟨qbi,q8w,trivial⟩
abbrev qfp {R:Type}:Z27 S R:=Zgi
theorem qfq {R:Type}:Z3J X (qfp (R:=R)):=ZgQ X
def qfr:Key:=⟨[80,0,48],80,none,[0,0,1,0,0,1,0,0,1],2,44⟩
def qfs:StT S:=⟨(N (N (N L vN L) (some (.ptr 18 0)) L) (some (.yld 22)) (N (N L vN L) none L)),o14,44⟩
def qft:Way S:=⟨.ret,⟨L,oP,94⟩,[.int,(.st 20),(.lst (.st 21)),.en,(.arr (.st 5)),(.st 2),(.mp (.st 23) (.int .i64)),.bool,.int,.int]⟩
def qfu:Way S:=⟨(.exit 2),⟨v1g,o14,51⟩,[.int,.int,(.st 20),(.lst (.st 21)),.en,(.mp (.st 23) (.int .i64)),.bool,.int,.int]⟩
def qfv:LE S:=⟨qfr,qfs,[.int,.int,.int,(.st 20),(.lst (.st 21)),.en,(.mp (.st 23) (.int .i64)),.bool,.int,.int],[qft,qfu]⟩
def qfw (x:tp):((ZJ×(List Zm)×(Nat→Nat)×(Nat→ZE)×Zu×t1e×Bool)⊕tN)→t5:=Sum.elim (fun y0=>(.inl (x.2.2.1,y0.1,y0.2.1,y0.2.2.1,y0.2.2.2.1,y0.2.2.2.2.1,y0.2.2.2.2.2.1,y0.2.2.2.2.2.2,x.2.2.2.2.2.2.2.2.1,x.2.2.2.2.2.2.2.2.2))) (fun y1=>(.inr (x.1,x.2.2.1,y1.1,y1.2.1,y1.2.2.1,y1.2.2.2,x.2.2.2.2.2.2.2.1,x.2.2.2.2.2.2.2.2.1,x.2.2.2.2.2.2.2.2.2)))
noncomputable def qfx {R:Type} (x:tp) (k:t5→Option R):Option R:=(X1V x.1 x.2.2.1 x.2.2.2.2.2.2.2.2.2 (x.2.1,x.2.2.2.1,x.2.2.2.2.1,x.2.2.2.2.2.1,x.2.2.2.2.2.2.1)).bind (Sum.elim (fun y0=>k (.inl (x.2.2.1,y0.1,y0.2.1,y0.2.2.1,y0.2.2.2.1,y0.2.2.2.2.1,y0.2.2.2.2.2.1,y0.2.2.2.2.2.2,x.2.2.2.2.2.2.2.2.1,x.2.2.2.2.2.2.2.2.2))) (fun y1=>k (.inr (x.1,x.2.2.1,y1.1,y1.2.1,y1.2.2.1,y1.2.2.2,x.2.2.2.2.2.2.2.1,x.2.2.2.2.2.2.2.2.1,x.2.2.2.2.2.2.2.2.2))))
def qfy (x:tp) (v:tI):tp:=(x.1,v.1,x.2.2.1,v.2.1,v.2.2.1,v.2.2.2.1,v.2.2.2.2,x.2.2.2.2.2.2.2.1,x.2.2.2.2.2.2.2.2.1,x.2.2.2.2.2.2.2.2.2)
theorem qfz (x:tp):LE.step X qfv qfn qfi qfp 12 x=Wl x.1 x.2.2.1 x.2.2.2.2.2.2.2.2.2 x.2.1 x.2.2.2.1 x.2.2.2.2.1 x.2.2.2.2.2.1 x.2.2.2.2.2.2.1 (fun w0 w1 w2 w3 w4=>(Sum.inl (x.1,w0,x.2.2.1,w1,w2,w3,w4,x.2.2.2.2.2.2.2.1,x.2.2.2.2.2.2.2.2.1,x.2.2.2.2.2.2.2.2.2))) (fun p0 p1 p2 p3 p4 p5 p6=>(Sum.inr (.inl (x.2.2.1,p0,p1,p2,p3,p4,p5,p6,x.2.2.2.2.2.2.2.2.1,x.2.2.2.2.2.2.2.2.2)))) (fun p0 p1 p2 p3=>(Sum.inr (.inr (x.1,x.2.2.1,p0,p1,p2,p3,x.2.2.2.2.2.2.2.1,x.2.2.2.2.2.2.2.2.1,x.2.2.2.2.2.2.2.2.2)))):=by kernel_rfl
theorem qfB {R:Type} (x:tp) (k:t5→Option R) (r:R) (h:qfx x k=some r):∃ o,Z5s (LE.step X qfv qfn qfi qfp 12) x o∧k o=some r:=by
 obtain ⟨o,h1,h2⟩:=Z0 h
 exact ⟨qfw x o,Zhl (st:=fun (x:tp)=>WN x.1 x.2.2.1 x.2.2.2.2.2.2.2.2.2) (prj:=fun x=>(x.2.1,x.2.2.2.1,x.2.2.2.2.1,x.2.2.2.2.2.1,x.2.2.2.2.2.2.1)) (emb:=qfy) (embO:=qfw) (fun x=>(qfz x).trans (by unfold WN Wl;simp only [Zhd,Zh8,Zhe,Option.map_some,Option.map_none];rfl)) (fun _ _=>rfl) (fun _ _=>rfl) (fun _ _ _=>rfl) (fun _ _ _=>rfl) (fun _=>rfl) (Z1S.1 h1),by
  first
  | exact h2
  | (rcases o with o|o<;>exact h2)⟩
noncomputable def qfC {R:Type}:Z27 S R:=LE.ls X qfv qfx qfp
theorem qfD {R:Type}:Z3J X (qfC (R:=R)):=Zhq xok qfo (e:=qfv) qfj qfq qfB qfq
def qfE:Key:=⟨[80,0,48],80,none,[0,0,1],0,30⟩
def qfF:StT S:=⟨v1g,o14,30⟩
def qfG:Way S:=⟨.ret,⟨L,oP,94⟩,[.int,(.st 20),(.lst (.st 21)),.en,(.arr (.st 5)),(.st 2),(.mp (.st 23) (.int .i64)),.bool,.int,.int]⟩
def qfH:Way S:=⟨(.exit 0),⟨L,o14,37⟩,[.int,(.st 20),(.lst (.st 21)),.en,(.mp (.st 23) (.int .i64)),.bool,.int,.int]⟩
def qfI:LE S:=⟨qfE,qfF,[.int,.int,(.st 20),(.lst (.st 21)),.en,(.mp (.st 23) (.int .i64)),.bool,.int,.int],[qfG,qfH]⟩
def qfJ (x:ts):((ZJ×(List Zm)×(Nat→Nat)×(Nat→ZE)×Zu×t1e×Bool)⊕tN)→t7:=Sum.elim (fun y0=>(.inl (x.2.1,y0.1,y0.2.1,y0.2.2.1,y0.2.2.2.1,y0.2.2.2.2.1,y0.2.2.2.2.2.1,y0.2.2.2.2.2.2,x.2.2.2.2.2.2.2.1,x.2.2.2.2.2.2.2.2))) (fun y1=>(.inr (x.2.1,y1.1,y1.2.1,y1.2.2.1,y1.2.2.2,x.2.2.2.2.2.2.1,x.2.2.2.2.2.2.2.1,x.2.2.2.2.2.2.2.2)))
noncomputable def qfK {R:Type} (x:ts) (k:t7→Option R):Option R:=(X1U x.2.1 x.2.2.2.2.2.2.2.2 (x.1,x.2.2.1,x.2.2.2.1,x.2.2.2.2.1,x.2.2.2.2.2.1)).bind (Sum.elim (fun y0=>k (.inl (x.2.1,y0.1,y0.2.1,y0.2.2.1,y0.2.2.2.1,y0.2.2.2.2.1,y0.2.2.2.2.2.1,y0.2.2.2.2.2.2,x.2.2.2.2.2.2.2.1,x.2.2.2.2.2.2.2.2))) (fun y1=>k (.inr (x.2.1,y1.1,y1.2.1,y1.2.2.1,y1.2.2.2,x.2.2.2.2.2.2.1,x.2.2.2.2.2.2.2.1,x.2.2.2.2.2.2.2.2))))
def qfL (x:ts) (v:tI):ts:=(v.1,x.2.1,v.2.1,v.2.2.1,v.2.2.2.1,v.2.2.2.2,x.2.2.2.2.2.2.1,x.2.2.2.2.2.2.2.1,x.2.2.2.2.2.2.2.2)
theorem qfM (x:ts):LE.step X qfI qfn qfi qfC 12 x=Wk x.2.1 x.2.2.2.2.2.2.2.2 x.1 x.2.2.1 x.2.2.2.1 x.2.2.2.2.1 x.2.2.2.2.2.1 (fun w0 w1 w2 w3 w4=>(Sum.inl (w0,x.2.1,w1,w2,w3,w4,x.2.2.2.2.2.2.1,x.2.2.2.2.2.2.2.1,x.2.2.2.2.2.2.2.2))) (fun p0 p1 p2 p3 p4 p5 p6=>(Sum.inr (.inl (x.2.1,p0,p1,p2,p3,p4,p5,p6,x.2.2.2.2.2.2.2.1,x.2.2.2.2.2.2.2.2)))) (fun p0 p1 p2 p3=>(Sum.inr (.inr (x.2.1,p0,p1,p2,p3,x.2.2.2.2.2.2.1,x.2.2.2.2.2.2.2.1,x.2.2.2.2.2.2.2.2)))):=by kernel_rfl
theorem qfO {R:Type} (x:ts) (k:t7→Option R) (r:R) (h:qfK x k=some r):∃ o,Z5s (LE.step X qfI qfn qfi qfC 12) x o∧k o=some r:=by
 obtain ⟨o,h1,h2⟩:=Z0 h
 exact ⟨qfJ x o,Zhl (st:=fun (x:ts)=>WM x.2.1 x.2.2.2.2.2.2.2.2) (prj:=fun x=>(x.1,x.2.2.1,x.2.2.2.1,x.2.2.2.2.1,x.2.2.2.2.2.1)) (emb:=qfL) (embO:=qfJ) (fun x=>(qfM x).trans (by unfold WM Wk;simp only [Zhd,Zh8,Zhe,Option.map_some,Option.map_none];rfl)) (fun _ _=>rfl) (fun _ _=>rfl) (fun _ _ _=>rfl) (fun _ _ _=>rfl) (fun _=>rfl) (Z1S.1 h1),by
  first
  | exact h2
  | (rcases o with o|o<;>exact h2)⟩
noncomputable def qfP {R:Type}:Z27 S R:=LE.ls X qfI qfK qfC
theorem qfQ {R:Type}:Z3J X (qfP (R:=R)):=Zhq xok qfo (e:=qfI) qfj qfD qfO qfD
theorem qfR (x:tI):PE.step X qfm qfn qfi qfP 12 x=XW x.1 x.2.1 x.2.2.1 x.2.2.2.1 x.2.2.2.2:=by kernel_rfl
theorem qfS:ZaX X qfm X1c:=Zhr (ZgU xok qfo qfj qfQ 12) fun x _ h=>((qfR x).trans (X4h x).symm).trans h
noncomputable def qfT {R:Type}:Prs S R:=PE.ps X qfm (fun x q=>(X1c x).bind q) qfi
theorem qfU {R:Type}:Z7R X (qfT (R:=R)):=Zhi (e:=qfm) qfS qfj
def qfV:StT S:=⟨(N (N (N L (some (.ptr 4 0)) L) vN (N L (some (.ptr 0 0)) L)) vN (N (N L (some (.ptr 1 0)) L) vN L)),o1o,5⟩
def qfW:Way S:=⟨.ret,⟨(N L (some (.tup [(.int .i64 0),(.bool false)])) L),o1o,5⟩,[.int,.bool,(.st 20),(.lst (.st 21)),.en,.int,(.mp (.st 23) (.int .i64))]⟩
def qfX:PE S:=⟨47,6,qfV,[.int,.int,.int,(.st 20),(.lst (.st 21)),.en,.int,(.mp (.st 23) (.int .i64))],[qfW]⟩
noncomputable def qfY:List (Nat×F7 S):=[(38,qbh),(41,q8v)]
theorem qfZ:Z9n X qfY:=⟨qbi,q8w,trivial⟩
abbrev qg0 (ih:tx→Option tE) {R:Type}:Z27 S R:=Zgi
theorem qg1 (ih:tx→Option tE) (hih:ZaX X qfX ih) {R:Type}:Z3J X (qg0 ih (R:=R)):=ZgQ X
def qg2:Key:=⟨[47],47,none,[0,0,1,0,1,1],0,11⟩
def qg3:StT S:=⟨(N (N (N L none (N L vN L)) none (N L (some (.ptr 0 0)) L)) vN (N (N L (some (.ptr 1 0)) L) vN L)),o1o,11⟩
def qg4:Way S:=⟨.ret,⟨(N v1s none (N L none (N (N L vO L) none L))),o1o,39⟩,[.int,.bool,(.st 20),(.lst (.st 21)),.en,.int,(.mp (.st 23) (.int .i64))]⟩
def qg5:Way S:=⟨(.exit 0),⟨L,o1o,15⟩,[(.st 20),(.lst (.st 21)),.en,.int,(.mp (.st 23) (.int .i64))]⟩
def qg6:LE S:=⟨qg2,qg3,[.int,.int,.int,(.st 20),(.lst (.st 21)),.en,.int,(.mp (.st 23) (.int .i64))],[qg4,qg5]⟩
def qg7 (x:tA):tc→tc:=Sum.elim (fun y0=>(.inl (y0.1,y0.2.1,y0.2.2.1,y0.2.2.2.1,y0.2.2.2.2.1,y0.2.2.2.2.2.1,y0.2.2.2.2.2.2))) (fun y1=>(.inr (y1.1,y1.2.1,y1.2.2.1,y1.2.2.2.1,y1.2.2.2.2)))
noncomputable def qg8 (ih:tx→Option tE) {R:Type} (x:tA) (k:tc→Option R):Option R:=(X32 ih x.2.1 x.2.2.1 (x.1,x.2.2.2.1,x.2.2.2.2.1,x.2.2.2.2.2.1,x.2.2.2.2.2.2.1,x.2.2.2.2.2.2.2)).bind (Sum.elim (fun y0=>k (.inl (y0.1,y0.2.1,y0.2.2.1,y0.2.2.2.1,y0.2.2.2.2.1,y0.2.2.2.2.2.1,y0.2.2.2.2.2.2))) (fun y1=>k (.inr (y1.1,y1.2.1,y1.2.2.1,y1.2.2.2.1,y1.2.2.2.2))))
def qg9 (x:tA) (v:(Int×ZJ×(List Zm)×(Nat→Nat)×Int×t1e)):tA:=(v.1,x.2.1,x.2.2.1,v.2.1,v.2.2.1,v.2.2.2.1,v.2.2.2.2.1,v.2.2.2.2.2)
theorem qga (ih:tx→Option tE) (x:tA):LE.step X qg6 qfY (PE.ps X qfX (fun x q=>(ih x).bind q) qfT) (qg0 ih) 12 x=X1B ih x.2.1 x.2.2.1 x.1 x.2.2.2.1 x.2.2.2.2.1 x.2.2.2.2.2.1 x.2.2.2.2.2.2.1 x.2.2.2.2.2.2.2 (fun w0 w1 w2 w3 w4 w5=>(Sum.inl (w0,x.2.1,x.2.2.1,w1,w2,w3,w4,w5))) (fun p0 p1 p2 p3 p4 p5 p6=>(Sum.inr (.inl (p0,p1,p2,p3,p4,p5,p6)))) (fun p0 p1 p2 p3 p4=>(Sum.inr (.inr (p0,p1,p2,p3,p4)))):=by kernel_rfl
theorem qgc (ih:tx→Option tE) {R:Type} (x:tA) (k:tc→Option R) (r:R) (h:qg8 ih x k=some r):∃ o,Z5s (LE.step X qg6 qfY (PE.ps X qfX (fun x q=>(ih x).bind q) qfT) (qg0 ih) 12) x o∧k o=some r:=by
 obtain ⟨o,h1,h2⟩:=Z0 h
 exact ⟨qg7 x o,Zhl (st:=fun (x:tA)=>X20 ih x.2.1 x.2.2.1) (prj:=fun x=>(x.1,x.2.2.2.1,x.2.2.2.2.1,x.2.2.2.2.2.1,x.2.2.2.2.2.2.1,x.2.2.2.2.2.2.2)) (emb:=qg9) (embO:=qg7) (fun x=>(qga ih x).trans (by unfold X20 X1B;simp only [Zhd,Zh8,Zhe,Option.map_some,Option.map_none];rfl)) (fun _ _=>rfl) (fun _ _=>rfl) (fun _ _ _=>rfl) (fun _ _ _=>rfl) (fun _=>rfl) (Z1S.1 h1),by
  first
  | exact h2
  | (rcases o with o|o<;>exact h2)⟩
noncomputable def qgd (ih:tx→Option tE) {R:Type}:Z27 S R:=LE.ls X qg6 (qg8 ih) (qg0 ih)
theorem qge (ih:tx→Option tE) (hih:ZaX X qfX ih) {R:Type}:Z3J X (qgd ih (R:=R)):=Zhq xok qfZ (e:=qg6) (Zhi (e:=qfX) hih qfU) (qg1 ih hih) (qgc ih) (qg1 ih hih)
theorem qgf (ih:tx→Option tE) (x:tA):PE.step X qfX qfY (PE.ps X qfX (fun x q=>(ih x).bind q) qfT) (qgd ih) 12 x=X3G ih x.1 x.2.1 x.2.2.1 x.2.2.2.1 x.2.2.2.2.1 x.2.2.2.2.2.1 x.2.2.2.2.2.2.1 x.2.2.2.2.2.2.2:=by kernel_rfl
theorem qgg:ZaX X qfX X4O:=Zhj (X:=X) (e:=qfX) (t:=X3H) fun ih hih=>Zhr (ZgU xok qfZ (Zhi (e:=qfX) hih qfU) (qge ih hih) 12) fun x _ h=>(qgf ih x).trans h
noncomputable def qgh {R:Type}:Prs S R:=PE.ps X qfX (fun x q=>(X4O x).bind q) qfT
theorem qgi {R:Type}:Z7R X (qgh (R:=R)):=Zhi (e:=qfX) qgg qfU
noncomputable def qgj:List (Nat×F7 S):=[]
theorem qgk:Z9n X (qgj):=trivial
abbrev qgl {R:Type}:Z27 S R:=Zgi
theorem qgm {R:Type}:Z3J X (qgl (R:=R)):=ZgQ X
def qgn:Key:=⟨[63],63,none,[0,0,1,0,1,1,1],0,9⟩
def qgo:StT S:=⟨(N (N (N L vN L) none L) (some (.sl (.int .i64) [])) (N (N L vN L) none L)),L,9⟩
def qgp:Way S:=⟨(.exit 0),⟨v1t,L,13⟩,[.int]⟩
def qgq:LE S:=⟨qgn,qgo,[.int,(.lst (.int .i64)),.int],[qgp]⟩
def qgr (x:t1d):Int→Int:=fun y0=>y0
noncomputable def qgs {R:Type} (x:t1d) (k:Int→Option R):Option R:=(X2h x.2.1 (x.1,x.2.2)).bind (fun y0=>k y0)
def qgt (x:t1d) (v:(Int×Int)):t1d:=(v.1,x.2.1,v.2)
theorem qgu (x:t1d):LE.step X qgq qgj qgh qgl 12 x=WS x.2.1 x.1 x.2.2 (fun w0 w1=>(Sum.inl (w0,x.2.1,w1))) (fun p0=>(Sum.inr p0)):=by kernel_rfl
theorem qgw {R:Type} (x:t1d) (k:Int→Option R) (r:R) (h:qgs x k=some r):∃ o,Z5s (LE.step X qgq qgj qgh qgl 12) x o∧k o=some r:=by
 obtain ⟨o,h1,h2⟩:=Z0 h
 exact ⟨qgr x o,Zhl (st:=fun (x:t1d)=>X1i x.2.1) (prj:=fun x=>(x.1,x.2.2)) (emb:=qgt) (embO:=qgr) (fun x=>(qgu x).trans (by unfold X1i WS;simp only [Zhd,Zh8,Zhe,Option.map_some,Option.map_none];rfl)) (fun _ _=>rfl) (fun _ _=>rfl) (fun _ _ _=>rfl) (fun _ _ _=>rfl) (fun _=>rfl) (Z1S.1 h1),by
  first
  | exact h2
  | (rcases o with o<;>exact h2)⟩
noncomputable def qgx {R:Type}:Z27 S R:=LE.ls X qgq qgs qgl
theorem qgy {R:Type}:Z3J X (qgx (R:=R)):=Zhq xok qgk (e:=qgq) qgi qgm qgw qgm
theorem qgz (x0:List Int):Zhs X qgj [(.sl (.int .i64))] [(.int .i64)] qgh qgx 12 63 (x0,())=WG x0:=by kernel_rfl
noncomputable def qgA:F7 S:=⟨[(.sl (.int .i64))],[(.int .i64)],fun xs=>X2y xs.1⟩
theorem qgB:Z7Q X 63 qgA:=Zho (Zhn xok qgk qgi qgy 12 63) fun xs _ h=>((qgz xs.1).trans (X4J xs.1).symm).trans h
def qgC:StT S:=⟨(N (N (N L vN L) vM L) (some (.ptr 1 0)) (N L vN L)),(N (N L o3 L) op L),2⟩
def qgD:Way S:=⟨.ret,⟨(N L vN L),(N (N L o3 L) op L),2⟩,[.int,(.st 20),(.lst (.st 21)),.en,(.mp (.st 23) (.int .i64))]⟩
def qgE:PE S:=⟨50,4,qgC,[.int,(.lst (.st 2)),.int,(.st 20),(.lst (.st 21)),.en,(.mp (.st 23) (.int .i64))],[qgD]⟩
noncomputable def qgF:List (Nat×F7 S):=[(38,qbh),(41,q8v),(63,qgA)]
theorem qgG:Z9n X qgF:=⟨qbi,q8w,qgB,trivial⟩
abbrev qgH {R:Type}:Z27 S R:=Zgi
theorem qgI {R:Type}:Z3J X (qgH (R:=R)):=ZgQ X
def qgJ:Key:=⟨[50],50,none,[0,0,1,1,1,1,1,0,0,1,1,0,0,1,0,1,1],2,39⟩
def qgK:StT S:=⟨(N (N (N L vN v1s) none (N (N (N L vN L) (some (.ptr 3 0)) L) none L)) (some (.ptr 1 0)) (N (N (N (N L vM L) none L) none (N L (some (.ptr 18 0)) (N (N L vN L) none L))) vN (N (N (N L vN L) none L) none (N L vN L)))),o1d,39⟩
def qgL:Way S:=⟨(.exit 2),⟨vV,o1d,40⟩,[.int,.int,(.lst (.st 2)),.int,.int,(.arr (.int .i64)),(.st 20),(.lst (.st 21)),.en,(.mp (.st 23) (.int .i64)),(.arr (.st 5)),(.st 2)]⟩
def qgM:LE S:=⟨qgJ,qgK,[.int,.int,.int,(.lst (.st 2)),.int,.int,.int,.int,(.arr (.int .i64)),(.st 20),(.lst (.st 21)),.en,(.mp (.st 23) (.int .i64)),(.arr (.st 5)),(.st 2)],[qgL]⟩
def qgN (x:td):(Nat→Int)→tf:=fun y0=>(x.1,x.2.2.1,x.2.2.2.1,x.2.2.2.2.2.1,x.2.2.2.2.2.2.1,y0,x.2.2.2.2.2.2.2.2.2.1,x.2.2.2.2.2.2.2.2.2.2.1,x.2.2.2.2.2.2.2.2.2.2.2.1,x.2.2.2.2.2.2.2.2.2.2.2.2.1,x.2.2.2.2.2.2.2.2.2.2.2.2.2.1,x.2.2.2.2.2.2.2.2.2.2.2.2.2.2)
noncomputable def qgO {R:Type} (x:td) (k:tf→Option R):Option R:=(X2o x.1 x.2.1 x.2.2.1 x.2.2.2.1 x.2.2.2.2.2.1 x.2.2.2.2.2.2.1 x.2.2.2.2.2.2.2.1 x.2.2.2.2.2.2.2.2.2.1 x.2.2.2.2.2.2.2.2.2.2.1 x.2.2.2.2.2.2.2.2.2.2.2.1 x.2.2.2.2.2.2.2.2.2.2.2.2.1 x.2.2.2.2.2.2.2.2.2.2.2.2.2.1 x.2.2.2.2.2.2.2.2.2.2.2.2.2.2 (x.2.2.2.2.1,x.2.2.2.2.2.2.2.2.1)).bind (fun y0=>k (x.1,x.2.2.1,x.2.2.2.1,x.2.2.2.2.2.1,x.2.2.2.2.2.2.1,y0,x.2.2.2.2.2.2.2.2.2.1,x.2.2.2.2.2.2.2.2.2.2.1,x.2.2.2.2.2.2.2.2.2.2.2.1,x.2.2.2.2.2.2.2.2.2.2.2.2.1,x.2.2.2.2.2.2.2.2.2.2.2.2.2.1,x.2.2.2.2.2.2.2.2.2.2.2.2.2.2))
def qgP (x:td) (v:(Int×(Nat→Int))):td:=(x.1,x.2.1,x.2.2.1,x.2.2.2.1,v.1,x.2.2.2.2.2.1,x.2.2.2.2.2.2.1,x.2.2.2.2.2.2.2.1,v.2,x.2.2.2.2.2.2.2.2.2.1,x.2.2.2.2.2.2.2.2.2.2.1,x.2.2.2.2.2.2.2.2.2.2.2.1,x.2.2.2.2.2.2.2.2.2.2.2.2.1,x.2.2.2.2.2.2.2.2.2.2.2.2.2.1,x.2.2.2.2.2.2.2.2.2.2.2.2.2.2)
theorem qgQ (x:td):LE.step X qgM qgF qgh qgH 12 x=X10 x.1 x.2.1 x.2.2.1 x.2.2.2.1 x.2.2.2.2.2.1 x.2.2.2.2.2.2.1 x.2.2.2.2.2.2.2.1 x.2.2.2.2.2.2.2.2.2.1 x.2.2.2.2.2.2.2.2.2.2.1 x.2.2.2.2.2.2.2.2.2.2.2.1 x.2.2.2.2.2.2.2.2.2.2.2.2.1 x.2.2.2.2.2.2.2.2.2.2.2.2.2.1 x.2.2.2.2.2.2.2.2.2.2.2.2.2.2 x.2.2.2.2.1 x.2.2.2.2.2.2.2.2.1 (fun w0 w1=>(Sum.inl (x.1,x.2.1,x.2.2.1,x.2.2.2.1,w0,x.2.2.2.2.2.1,x.2.2.2.2.2.2.1,x.2.2.2.2.2.2.2.1,w1,x.2.2.2.2.2.2.2.2.2.1,x.2.2.2.2.2.2.2.2.2.2.1,x.2.2.2.2.2.2.2.2.2.2.2.1,x.2.2.2.2.2.2.2.2.2.2.2.2.1,x.2.2.2.2.2.2.2.2.2.2.2.2.2.1,x.2.2.2.2.2.2.2.2.2.2.2.2.2.2))) (fun p0=>(Sum.inr (x.1,x.2.2.1,x.2.2.2.1,x.2.2.2.2.2.1,x.2.2.2.2.2.2.1,p0,x.2.2.2.2.2.2.2.2.2.1,x.2.2.2.2.2.2.2.2.2.2.1,x.2.2.2.2.2.2.2.2.2.2.2.1,x.2.2.2.2.2.2.2.2.2.2.2.2.1,x.2.2.2.2.2.2.2.2.2.2.2.2.2.1,x.2.2.2.2.2.2.2.2.2.2.2.2.2.2))):=by kernel_rfl
theorem qgS {R:Type} (x:td) (k:tf→Option R) (r:R) (h:qgO x k=some r):∃ o,Z5s (LE.step X qgM qgF qgh qgH 12) x o∧k o=some r:=by
 obtain ⟨o,h1,h2⟩:=Z0 h
 exact ⟨qgN x o,Zhl (st:=fun (x:td)=>X1t x.1 x.2.1 x.2.2.1 x.2.2.2.1 x.2.2.2.2.2.1 x.2.2.2.2.2.2.1 x.2.2.2.2.2.2.2.1 x.2.2.2.2.2.2.2.2.2.1 x.2.2.2.2.2.2.2.2.2.2.1 x.2.2.2.2.2.2.2.2.2.2.2.1 x.2.2.2.2.2.2.2.2.2.2.2.2.1 x.2.2.2.2.2.2.2.2.2.2.2.2.2.1 x.2.2.2.2.2.2.2.2.2.2.2.2.2.2) (prj:=fun x=>(x.2.2.2.2.1,x.2.2.2.2.2.2.2.2.1)) (emb:=qgP) (embO:=qgN) (fun x=>(qgQ x).trans (by unfold X1t X10;simp only [Zhd,Zh8,Zhe,Option.map_some,Option.map_none];rfl)) (fun _ _=>rfl) (fun _ _=>rfl) (fun _ _ _=>rfl) (fun _ _ _=>rfl) (fun _=>rfl) (Z1S.1 h1),by
  first
  | exact h2
  | (rcases o with o<;>exact h2)⟩
noncomputable def qgT {R:Type}:Z27 S R:=LE.ls X qgM qgO qgH
theorem qgU {R:Type}:Z3J X (qgT (R:=R)):=Zhq xok qgG (e:=qgM) qgi qgI qgS qgI
def qgV:Key:=⟨[50],50,none,[0,0,1,0,1,1],0,7⟩
def qgW:StT S:=⟨vV,(N (N (N L o7 L) o3 L) op L),7⟩
def qgX:Way S:=⟨(.exit 0),⟨(N (N L none v1r) none L),(N (N (N L o7 L) o3 L) op L),8⟩,[(.arr (.int .i64)),(.st 20),(.lst (.st 21)),.en,(.mp (.st 23) (.int .i64))]⟩
def qgY:LE S:=⟨qgV,qgW,[.int,.int,(.lst (.st 2)),.int,.int,(.arr (.int .i64)),(.st 20),(.lst (.st 21)),.en,(.mp (.st 23) (.int .i64))],[qgX]⟩
def qgZ (x:tm):tG→tG:=fun y0=>(y0.1,y0.2.1,y0.2.2.1,y0.2.2.2.1,y0.2.2.2.2)
noncomputable def qh0 {R:Type} (x:tm) (k:tG→Option R):Option R:=(X2n x.1 x.2.1 x.2.2.1 x.2.2.2.1 (x.2.2.2.2.1,x.2.2.2.2.2.1,x.2.2.2.2.2.2.1,x.2.2.2.2.2.2.2.1,x.2.2.2.2.2.2.2.2.1,x.2.2.2.2.2.2.2.2.2)).bind (fun y0=>k (y0.1,y0.2.1,y0.2.2.1,y0.2.2.2.1,y0.2.2.2.2))
def qh1 (x:tm) (v:(Int×(Nat→Int)×ZJ×(List Zm)×(Nat→Nat)×t1e)):tm:=(x.1,x.2.1,x.2.2.1,x.2.2.2.1,v.1,v.2.1,v.2.2.1,v.2.2.2.1,v.2.2.2.2.1,v.2.2.2.2.2)
theorem qh2 (x:tm):LE.step X qgY qgF qgh qgT 12 x=WZ x.1 x.2.1 x.2.2.1 x.2.2.2.1 x.2.2.2.2.1 x.2.2.2.2.2.1 x.2.2.2.2.2.2.1 x.2.2.2.2.2.2.2.1 x.2.2.2.2.2.2.2.2.1 x.2.2.2.2.2.2.2.2.2 (fun w0 w1 w2 w3 w4 w5=>(Sum.inl (x.1,x.2.1,x.2.2.1,x.2.2.2.1,w0,w1,w2,w3,w4,w5))) (fun p0 p1 p2 p3 p4=>(Sum.inr (p0,p1,p2,p3,p4))):=by kernel_rfl
theorem qh4 {R:Type} (x:tm) (k:tG→Option R) (r:R) (h:qh0 x k=some r):∃ o,Z5s (LE.step X qgY qgF qgh qgT 12) x o∧k o=some r:=by
 obtain ⟨o,h1,h2⟩:=Z0 h
 exact ⟨qgZ x o,Zhl (st:=fun (x:tm)=>X1s x.1 x.2.1 x.2.2.1 x.2.2.2.1) (prj:=fun x=>(x.2.2.2.2.1,x.2.2.2.2.2.1,x.2.2.2.2.2.2.1,x.2.2.2.2.2.2.2.1,x.2.2.2.2.2.2.2.2.1,x.2.2.2.2.2.2.2.2.2)) (emb:=qh1) (embO:=qgZ) (fun x=>(qh2 x).trans (by unfold X1s WZ;simp only [Zhd,Zh8,Zhe,Option.map_some,Option.map_none];rfl)) (fun _ _=>rfl) (fun _ _=>rfl) (fun _ _ _=>rfl) (fun _ _ _=>rfl) (fun _=>rfl) (Z1S.1 h1),by
  first
  | exact h2
  | (rcases o with o<;>exact h2)⟩
noncomputable def qh5 {R:Type}:Z27 S R:=LE.ls X qgY qh0 qgT
theorem qh6 {R:Type}:Z3J X (qh5 (R:=R)):=Zhq xok qgG (e:=qgY) qgi qgU qh4 qgU
theorem qh7 (x:(Int×(List Zu)×Int×ZJ×(List Zm)×(Nat→Nat)×t1e)):PE.step X qgE qgF qgh qh5 12 x=WW x.1 x.2.1 x.2.2.1 x.2.2.2.1 x.2.2.2.2.1 x.2.2.2.2.2.1 x.2.2.2.2.2.2:=by kernel_rfl
theorem qh8:ZaX X qgE X2I:=Zhr (ZgU xok qgG qgi qh6 12) fun x _ h=>((qh7 x).trans (X4P x).symm).trans h
noncomputable def qh9 {R:Type}:Prs S R:=PE.ps X qgE (fun x q=>(X2I x).bind q) qgh
theorem qha {R:Type}:Z7R X (qh9 (R:=R)):=Zhi (e:=qgE) qh8 qgi
noncomputable def qhb:F7 S:=⟨[],[.bool],fun _=>X5O⟩
theorem qhc:Z7Q X 20 qhb:=ZeO (X:=X) (F:=X5O) rfl Zdy
noncomputable def qhd:List (Nat×F7 S):=[]
theorem qhe:Z9n X (qhd):=trivial
abbrev qhf {R:Type}:Z27 S R:=Zgi
theorem qhg {R:Type}:Z3J X (qhf (R:=R)):=ZgQ X
def qhh:Key:=⟨[23],23,none,[0,0,1,0,1],0,3⟩
def qhi:StT S:=⟨(N v1p vM L),(N L ok L),3⟩
def qhj:Way S:=⟨.ret,⟨(N L none (N (N L vO L) none L)),(N L ok L),14⟩,[.bool,(.st 2)]⟩
def qhk:Way S:=⟨(.exit 0),⟨L,(N L ok L),7⟩,[(.st 2)]⟩
def qhl:LE S:=⟨qhh,qhi,[.int,(.lst (.st 2)),(.st 2)],[qhj,qhk]⟩
def qhm (x:t19):(Bool⊕Unit)→((Bool×Zu)⊕Zu):=Sum.elim (fun y0=>(.inl (y0,x.2.2))) (fun y1=>(.inr x.2.2))
noncomputable def qhn {R:Type} (x:t19) (k:((Bool×Zu)⊕Zu)→Option R):Option R:=(X4i x.2.1 x.2.2 x.1).bind (Sum.elim (fun y0=>k (.inl (y0,x.2.2))) (fun y1=>k (.inr x.2.2)))
def qho (x:t19) (v:Int):t19:=(v,x.2.1,x.2.2)
theorem qhp (x:t19):LE.step X qhl qhd qh9 qhf 12 x=X1d x.2.1 x.2.2 x.1 (fun w0=>(Sum.inl (w0,x.2.1,x.2.2))) (fun p0=>(Sum.inr (.inl (p0,x.2.2)))) (Sum.inr (.inr x.2.2)):=by kernel_rfl
theorem qhr {R:Type} (x:t19) (k:((Bool×Zu)⊕Zu)→Option R) (r:R) (h:qhn x k=some r):∃ o,Z5s (LE.step X qhl qhd qh9 qhf 12) x o∧k o=some r:=by
 obtain ⟨o,h1,h2⟩:=Z0 h
 exact ⟨qhm x o,Zhl (st:=fun (x:t19)=>X17 x.2.1 x.2.2) (prj:=fun x=>x.1) (emb:=qho) (embO:=qhm) (fun x=>(qhp x).trans (by unfold X17 X1d;simp only [Zhd,Zh8,Zhe,Option.map_some,Option.map_none];rfl)) (fun _ _=>rfl) (fun _ _=>rfl) (fun _ _ _=>rfl) (fun _ _ _=>rfl) (fun _=>rfl) (Z1S.1 h1),by
  first
  | exact h2
  | (rcases o with o|o<;>exact h2)⟩
noncomputable def qhs {R:Type}:Z27 S R:=LE.ls X qhl qhn qhf
theorem qht {R:Type}:Z3J X (qhs (R:=R)):=Zhq xok qhe (e:=qhl) qha qhg qhr qhg
theorem qhu (x0:List Zu) (x1:Zu):Zhs X qhd [(.sl (.st 2)),(.st 2)] [.bool] qh9 qhs 12 23 (x0,x1,())=X2p x0 x1:=by kernel_rfl
noncomputable def qhv:F7 S:=⟨[(.sl (.st 2)),(.st 2)],[.bool],fun xs=>X54 xs.1 xs.2.1⟩
theorem qhw:Z7Q X 23 qhv:=Zho (Zhn xok qhe qha qht 12 23) fun xs _ h=>((qhu xs.1 xs.2.1).trans (X5u xs.1 xs.2.1).symm).trans h
noncomputable def qhx:List (Nat×F7 S):=[]
theorem qhy:Z9n X (qhx):=trivial
abbrev qhz {R:Type}:Z27 S R:=Zgi
theorem qhA {R:Type}:Z3J X (qhz (R:=R)):=ZgQ X
theorem qhB (x0:List Int) (x1:Int):Zhs X qhx [(.sl (.int .u16)),(.int .i64)] [(.int .i64)] qh9 qhz 12 32 (x0,x1,())=X24 x0 x1:=by kernel_rfl
noncomputable def qhC:F7 S:=⟨[(.sl (.int .u16)),(.int .i64)],[(.int .i64)],fun xs=>X1E xs.1 xs.2.1⟩
theorem qhD:Z7Q X 32 qhC:=Zho (Zhn xok qhy qha qhA 12 32) fun xs _ h=>((qhB xs.1 xs.2.1).trans (X5i xs.1 xs.2.1).symm).trans h
noncomputable def qhE:List (Nat×F7 S):=[(22,q5h),(20,qhb),(32,qhC),(19,q5o),(11,qeB),(23,qhv)]
theorem qhF:Z9n X (qhE):=⟨q5i,qhc,qhD,q5p,qeC,qhw,trivial⟩
abbrev qhG {R:Type}:Z27 S R:=Zgi
theorem qhH {R:Type}:Z3J X (qhG (R:=R)):=ZgQ X
def qhI:Key:=⟨[8],8,none,[0,0,1,0,1,1,1,1],0,14⟩
def qhJ:StT S:=⟨(N v1h none (N (N (N L vN L) none L) (some (.sl (.int .u16) [])) L)),oU,15⟩
def qhK:Way S:=⟨(.exit 0),⟨(N v1h none (N L (some (.sl (.int .u16) [])) L)),oU,20⟩,[(.lst (.st 21)),(.lst (.int .u16)),(.st 8),.int,.int,.int,(.st 20),(.lst (.st 18))]⟩
def qhL:LE S:=⟨qhI,qhJ,[(.lst (.st 21)),.int,(.lst (.int .u16)),(.st 8),.int,.int,.int,(.st 20),(.lst (.st 18))],[qhK]⟩
def qhM (x:tu):(List Z5)→tB:=fun y0=>(x.1,x.2.2.1,x.2.2.2.1,x.2.2.2.2.1,x.2.2.2.2.2.1,x.2.2.2.2.2.2.1,x.2.2.2.2.2.2.2.1,y0)
noncomputable def qhN {R:Type} (x:tu) (k:tB→Option R):Option R:=(X1R x.2.2.1 x.2.2.2.2.2.2.2.1 (x.2.1,x.2.2.2.2.2.2.2.2)).bind (fun y0=>k (x.1,x.2.2.1,x.2.2.2.1,x.2.2.2.2.1,x.2.2.2.2.2.1,x.2.2.2.2.2.2.1,x.2.2.2.2.2.2.2.1,y0))
def qhO (x:tu) (v:(Int×(List Z5))):tu:=(x.1,v.1,x.2.2.1,x.2.2.2.1,x.2.2.2.2.1,x.2.2.2.2.2.1,x.2.2.2.2.2.2.1,x.2.2.2.2.2.2.2.1,v.2)
theorem qhP (x:tu):LE.step X qhL qhE qh9 qhG 12 x=XD x.2.2.1 x.2.2.2.2.2.2.2.1 x.2.1 x.2.2.2.2.2.2.2.2 (fun w0 w1=>(Sum.inl (x.1,w0,x.2.2.1,x.2.2.2.1,x.2.2.2.2.1,x.2.2.2.2.2.1,x.2.2.2.2.2.2.1,x.2.2.2.2.2.2.2.1,w1))) (fun p0=>(Sum.inr (x.1,x.2.2.1,x.2.2.2.1,x.2.2.2.2.1,x.2.2.2.2.2.1,x.2.2.2.2.2.2.1,x.2.2.2.2.2.2.2.1,p0))):=by kernel_rfl
theorem qhR {R:Type} (x:tu) (k:tB→Option R) (r:R) (h:qhN x k=some r):∃ o,Z5s (LE.step X qhL qhE qh9 qhG 12) x o∧k o=some r:=by
 obtain ⟨o,h1,h2⟩:=Z0 h
 exact ⟨qhM x o,Zhl (st:=fun (x:tu)=>Xv x.2.2.1 x.2.2.2.2.2.2.2.1) (prj:=fun x=>(x.2.1,x.2.2.2.2.2.2.2.2)) (emb:=qhO) (embO:=qhM) (fun x=>(qhP x).trans (by unfold Xv XD;simp only [Zhd,Zh8,Zhe,Option.map_some,Option.map_none];rfl)) (fun _ _=>rfl) (fun _ _=>rfl) (fun _ _ _=>rfl) (fun _ _ _=>rfl) (fun _=>rfl) (Z1S.1 h1),by
  first
  | exact h2
  | (rcases o with o<;>exact h2)⟩
noncomputable def qhS {R:Type}:Z27 S R:=LE.ls X qhL qhN qhG
theorem qhT {R:Type}:Z3J X (qhS (R:=R)):=Zhq xok qhF (e:=qhL) qha qhH qhR qhH
def qhU:Key:=⟨[8],8,none,[0,0,1,0,1,1,1,1,1],2,21⟩
def qhV:StT S:=⟨(N (N (N (N L (some (.ptr 7 0)) L) (some (.ptr 0 0)) (N L vN L)) vK L) none (N L (some (.sl (.int .u16) [])) L)),oT,23⟩
def qhW:Way S:=⟨(.exit 2),⟨(N v1h none L),oT,28⟩,[(.lst (.st 21)),(.st 8),.int,.int,.int,(.lst (.st 18)),(.st 20),(.lst (.st 19))]⟩
def qhX:LE S:=⟨qhU,qhV,[.int,(.lst (.st 21)),(.lst (.int .u16)),(.st 8),.int,.int,.int,(.lst (.st 18)),(.st 20),(.lst (.st 19))],[qhW]⟩
def qhY (x:tn):(List Zt)→ty:=fun y0=>(x.2.1,x.2.2.2.1,x.2.2.2.2.1,x.2.2.2.2.2.1,x.2.2.2.2.2.2.1,x.2.2.2.2.2.2.2.1,x.2.2.2.2.2.2.2.2.1,y0)
noncomputable def qhZ {R:Type} (x:tn) (k:ty→Option R):Option R:=(X1S x.2.2.1 x.2.2.2.2.2.2.2.2.1 (x.1,x.2.2.2.2.2.2.2.2.2)).bind (fun y0=>k (x.2.1,x.2.2.2.1,x.2.2.2.2.1,x.2.2.2.2.2.1,x.2.2.2.2.2.2.1,x.2.2.2.2.2.2.2.1,x.2.2.2.2.2.2.2.2.1,y0))
def qi0 (x:tn) (v:(Int×(List Zt))):tn:=(v.1,x.2.1,x.2.2.1,x.2.2.2.1,x.2.2.2.2.1,x.2.2.2.2.2.1,x.2.2.2.2.2.2.1,x.2.2.2.2.2.2.2.1,x.2.2.2.2.2.2.2.2.1,v.2)
theorem qi1 (x:tn):LE.step X qhX qhE qh9 qhS 12 x=XE x.2.2.1 x.2.2.2.2.2.2.2.2.1 x.1 x.2.2.2.2.2.2.2.2.2 (fun w0 w1=>(Sum.inl (w0,x.2.1,x.2.2.1,x.2.2.2.1,x.2.2.2.2.1,x.2.2.2.2.2.1,x.2.2.2.2.2.2.1,x.2.2.2.2.2.2.2.1,x.2.2.2.2.2.2.2.2.1,w1))) (fun p0=>(Sum.inr (x.2.1,x.2.2.2.1,x.2.2.2.2.1,x.2.2.2.2.2.1,x.2.2.2.2.2.2.1,x.2.2.2.2.2.2.2.1,x.2.2.2.2.2.2.2.2.1,p0))):=by kernel_rfl
theorem qi3 {R:Type} (x:tn) (k:ty→Option R) (r:R) (h:qhZ x k=some r):∃ o,Z5s (LE.step X qhX qhE qh9 qhS 12) x o∧k o=some r:=by
 obtain ⟨o,h1,h2⟩:=Z0 h
 exact ⟨qhY x o,Zhl (st:=fun (x:tn)=>Xw x.2.2.1 x.2.2.2.2.2.2.2.2.1) (prj:=fun x=>(x.1,x.2.2.2.2.2.2.2.2.2)) (emb:=qi0) (embO:=qhY) (fun x=>(qi1 x).trans (by unfold Xw XE;simp only [Zhd,Zh8,Zhe,Option.map_some,Option.map_none];rfl)) (fun _ _=>rfl) (fun _ _=>rfl) (fun _ _ _=>rfl) (fun _ _ _=>rfl) (fun _=>rfl) (Z1S.1 h1),by
  first
  | exact h2
  | (rcases o with o<;>exact h2)⟩
noncomputable def qi4 {R:Type}:Z27 S R:=LE.ls X qhX qhZ qhS
theorem qi5 {R:Type}:Z3J X (qi4 (R:=R)):=Zhq xok qhF (e:=qhX) qha qhT qi3 qhT
def qi6:Key:=⟨[8],8,none,[0,0,1,0,1,1,1,1,1,1,1,1,1],4,51⟩
def qi7:StT S:=⟨(N (N v1y none (N (N (N L vN L) none L) none (N L vM L))) none L),oZ,53⟩
def qi8:Way S:=⟨.ret,⟨(N L none (N L none (N L vO L))),oZ,65⟩,[.bool,(.st 8),.int,.int,.int,(.lst (.st 18)),(.st 20),(.lst (.st 19))]⟩
def qi9:Way S:=⟨(.exit 4),⟨L,oZ,57⟩,[(.st 8),.int,.int,.int,(.lst (.st 18)),(.st 20),(.lst (.st 19))]⟩
def qia:LE S:=⟨qi6,qi7,[(.lst (.st 2)),.int,(.lst (.st 2)),(.st 8),.int,.int,.int,(.lst (.st 18)),(.st 20),(.lst (.st 19))],[qi8,qi9]⟩
def qib (x:to):(Bool⊕Unit)→te:=Sum.elim (fun y0=>(.inl (y0,x.2.2.2.1,x.2.2.2.2.1,x.2.2.2.2.2.1,x.2.2.2.2.2.2.1,x.2.2.2.2.2.2.2.1,x.2.2.2.2.2.2.2.2.1,x.2.2.2.2.2.2.2.2.2))) (fun y1=>(.inr (x.2.2.2.1,x.2.2.2.2.1,x.2.2.2.2.2.1,x.2.2.2.2.2.2.1,x.2.2.2.2.2.2.2.1,x.2.2.2.2.2.2.2.2.1,x.2.2.2.2.2.2.2.2.2)))
noncomputable def qic {R:Type} (x:to) (k:te→Option R):Option R:=(X1T x.1 x.2.2.1 x.2.1).bind (Sum.elim (fun y0=>k (.inl (y0,x.2.2.2.1,x.2.2.2.2.1,x.2.2.2.2.2.1,x.2.2.2.2.2.2.1,x.2.2.2.2.2.2.2.1,x.2.2.2.2.2.2.2.2.1,x.2.2.2.2.2.2.2.2.2))) (fun y1=>k (.inr (x.2.2.2.1,x.2.2.2.2.1,x.2.2.2.2.2.1,x.2.2.2.2.2.2.1,x.2.2.2.2.2.2.2.1,x.2.2.2.2.2.2.2.2.1,x.2.2.2.2.2.2.2.2.2))))
def qid (x:to) (v:Int):to:=(x.1,v,x.2.2.1,x.2.2.2.1,x.2.2.2.2.1,x.2.2.2.2.2.1,x.2.2.2.2.2.2.1,x.2.2.2.2.2.2.2.1,x.2.2.2.2.2.2.2.2.1,x.2.2.2.2.2.2.2.2.2)
theorem qie (x:to):LE.step X qia qhE qh9 qi4 12 x=XF x.1 x.2.2.1 x.2.1 (fun w0=>(Sum.inl (x.1,w0,x.2.2.1,x.2.2.2.1,x.2.2.2.2.1,x.2.2.2.2.2.1,x.2.2.2.2.2.2.1,x.2.2.2.2.2.2.2.1,x.2.2.2.2.2.2.2.2.1,x.2.2.2.2.2.2.2.2.2))) (fun p0=>(Sum.inr (.inl (p0,x.2.2.2.1,x.2.2.2.2.1,x.2.2.2.2.2.1,x.2.2.2.2.2.2.1,x.2.2.2.2.2.2.2.1,x.2.2.2.2.2.2.2.2.1,x.2.2.2.2.2.2.2.2.2)))) (Sum.inr (.inr (x.2.2.2.1,x.2.2.2.2.1,x.2.2.2.2.2.1,x.2.2.2.2.2.2.1,x.2.2.2.2.2.2.2.1,x.2.2.2.2.2.2.2.2.1,x.2.2.2.2.2.2.2.2.2))):=by kernel_rfl
theorem qig {R:Type} (x:to) (k:te→Option R) (r:R) (h:qic x k=some r):∃ o,Z5s (LE.step X qia qhE qh9 qi4 12) x o∧k o=some r:=by
 obtain ⟨o,h1,h2⟩:=Z0 h
 exact ⟨qib x o,Zhl (st:=fun (x:to)=>Xx x.1 x.2.2.1) (prj:=fun x=>x.2.1) (emb:=qid) (embO:=qib) (fun x=>(qie x).trans (by unfold Xx XF;simp only [Zhd,Zh8,Zhe,Option.map_some,Option.map_none];rfl)) (fun _ _=>rfl) (fun _ _=>rfl) (fun _ _ _=>rfl) (fun _ _ _=>rfl) (fun _=>rfl) (Z1S.1 h1),by
  first
  | exact h2
  | (rcases o with o|o<;>exact h2)⟩
noncomputable def qih {R:Type}:Z27 S R:=LE.ls X qia qic qi4
theorem qii {R:Type}:Z3J X (qih (R:=R)):=Zhq xok qhF (e:=qia) qha qi5 qig qi5
theorem qij (x0:ZJ) (x1:List Zm) (x2:List Int):Zhs X qhE [(.st 20),(.sl (.st 21)),(.sl (.int .u16))] [.bool] qh9 qih 12 8 (x0,x1,x2,())=WP x0 x1 x2:=by kernel_rfl
noncomputable def qik:F7 S:=⟨[(.st 20),(.sl (.st 21)),(.sl (.int .u16))],[.bool],fun xs=>X2V xs.1 xs.2.1 xs.2.2.1⟩
theorem X57:Z7Q X 8 qik:=Zho (Zhn xok qhF qha qii 12 8) fun xs _ h=>((qij xs.1 xs.2.1 xs.2.2.1).trans (X3Z xs.1 xs.2.1 xs.2.2.1).symm).trans h
end Nore
