/- The code comes to the plain functions. -/
import Derived.Test.YtehofdemanfenaaY
import Derived.Test.YtehofdemanfenaaD
import Derived.Test.YtehofdemanfenaaK6
set_option linter.unusedSectionVars false
set_option linter.unusedVariables false
set_option linter.unusedSimpArgs false
set_option maxRecDepth 100000
open Go Go.Ab Go.Proofs Go.Proofs.Ytehofdemanfenaa
open Go.Ab.Tr renaming node→N,leaf→L
namespace Nore
abbrev t1g:Type:=List (Zh×Int)
abbrev t1f:Type:=Int×(List Int)×Int
abbrev t1e:Type:=List (ByteArray×Int)
abbrev t1d:Type:=Int×Int×Int×Zw
abbrev t1c:Type:=Int×(List Zt)×Int
abbrev t1b:Type:=(Int×Int×Zt)⊕Unit
abbrev t1a:Type:=(List Zm)×Int×ZJ
abbrev t19:Type:=(List Int)×Int×(List Int)
abbrev t18:Type:=Int×(List Zu)×Int×Int
abbrev t17:Type:=Int×(List ByteArray)×ZJ
abbrev t16:Type:=Int×Int×(List Zu)×Int
abbrev t15:Type:=(List ZE)×Int×(List ZE)
abbrev t14:Type:=(Int×Int×Int)⊕(Int×Int)
abbrev t13:Type:=Int×(List ByteArray)×Zl
abbrev t12:Type:=Int×Zl×(List ByteArray)
abbrev t11:Type:=(List Zu)×Int×(List Zu)
abbrev t10:Type:=Int×(List Zt)×Int×Zu
abbrev tZ:Type:=(Nat→Zu)×Int×Int×Zu
abbrev tY:Type:=Int×ByteArray×ByteArray×Nat
abbrev tX:Type:=Int×(List Int)×Int×Int×Int
abbrev tW:Type:=ByteArray×Int×(List ByteArray)
abbrev tV:Type:=Int×Int×(List ZE)×Int×Int
abbrev tU:Type:=Int×(List Z5)×Int×ZJ
abbrev tT:Type:=Int×Int×Int×(List Zk)×(List Int)
abbrev tS:Type:=Int×(List Z5)×Int×Z5
abbrev tR:Type:=(Int×Z5×Z5)⊕Z5
abbrev tQ:Type:=Int×Int×Int×t1e×CtSand
abbrev tP:Type:=(List Zm)×Z4×(List Zm)×ZJ
abbrev tO:Type:=(Int×(List Int)×Zu×(List Int)×Zt)⊕Zu
abbrev tN:Type:=(Int×Int×Z5×Z5×ZJ)⊕ZJ
abbrev tM:Type:=(List Zm)×Int×Z4×(List Zm)×ZJ
abbrev tL:Type:=ZJ×(List Zm)×(Nat→Nat)×t1g
abbrev tK:Type:=Int×(List CtSand)×Int×Zl×t1e
abbrev tJ:Type:=Int×Int×(List Zw)×Zl×t1e
abbrev tI:Type:=(Bool×ByteArray×Nat)⊕tY
abbrev tH:Type:=Int×Int×Int×(List ByteArray)×Zw×(List ByteArray)
abbrev tG:Type:=Int×ZJ×(List Zm)×(Nat→Nat)×t1g
abbrev tF:Type:=(Int×Int×Int×(List ByteArray)×ZJ)⊕((List ByteArray)×ZJ)
abbrev tE:Type:=(Nat→Int)×ZJ×(List Zm)×(Nat→Nat)×t1g
abbrev tD:Type:=(List Zu)×ZJ×(List Zm)×(Nat→Nat)×t1g
abbrev tC:Type:=(Int×Bool×ZJ×(List Zm)×(Nat→Nat)×Int×t1g)
abbrev tB:Type:=Int×(List Zu)×ZJ×(List Zm)×(Nat→Nat)×t1g
abbrev tA:Type:=Int×ZJ×(List Zm)×(Nat→Nat)×t1g×(List Zu)
abbrev tz:Type:=Int×Int×Int×ZJ×(List Zm)×(Nat→Nat)×Int×t1g
abbrev ty:Type:=(List Zm)×ZJ×ZJ×(List Zm)×(Nat→Nat)×t1g
abbrev tx:Type:=Int×Int×Int×t1g×ZJ×ZJ×(List Zm)×(Nat→Nat)
abbrev tw:Type:=tz
abbrev tv:Type:=Int×Z8×Bool×Int×Bool×Z8×Bool×Int×Z8×Z6
abbrev tu:Type:=Int×Int×ZJ×(List Zm)×(Nat→Nat)×t1g×(List Zu)
abbrev tt:Type:=Int×(List Zm)×Int×ZJ×(List Zm)×(Nat→Nat)×t1g
abbrev ts:Type:=Int×Int×ZJ×(List Zm)×(Nat→Nat)×t1g×Bool×Int×Int
abbrev tr:Type:=Int×Int×Int×(List Zm)×ZJ×(List Zm)×(Nat→Nat)×t1g
abbrev tq:Type:=Int×Int×(Nat→ZE)×ZJ×(List Zm)×(Nat→Nat)×t1g×Zu
abbrev tp:Type:=Int×Int×Int×ZJ×(List Zm)×(Nat→Nat)×t1g×Bool×Int×Int
abbrev to:Type:=Int×Int×Int×Bool×Int×t1g×ZJ×ZJ×(List Zm)×(Nat→Nat)
abbrev tn:Type:=Int×(List Int)×t1g×ZJ×(List Int)×ZJ×(List Zm)×(Nat→Nat)
abbrev tm:Type:=Int×Int×(List Zu)×Int×Int×(Nat→Int)×ZJ×(List Zm)×(Nat→Nat)×t1g
abbrev tl:Type:=Int×Int×(List Zu)×Int×Z8×Bool×Int×Bool×Z8×Bool×Int×Z8×Z6
abbrev tk:Type:=Int×Int×(List Zu)×Z8×Bool×Int×Bool×Z8×Bool×Int×Z8×(List Int)×Zu
abbrev tj:Type:=(List Z5)×(List Zm)×Int×Int×ZJ×ZJ×(List Zm)×(Nat→Nat)×t1g
abbrev ti:Type:=Int×Int×Int×Int×Int×(List Int)×t1g×ZJ×(List Int)×ZJ×(List Zm)×(Nat→Nat)
abbrev th:Type:=Int×Int×(List Zm)×Int×Int×(Nat→ZE)×ZJ×(List Zm)×(Nat→Nat)×t1g×Zu
abbrev tg:Type:=Int×Int×Int×Zl×(List Int)×Bool×Int×Bool×Zl×Int×Bool×(List Int)×Int×(List Zk)×Zw
abbrev tf:Type:=Int×Int×Int×Int×(List Z5)×(Nat→ZE)×ZJ×(List Zm)×(Nat→Nat)×t1g×Zu
abbrev te:Type:=Int×Int×(List Zu)×Int×Int×(Nat→Int)×ZJ×(List Zm)×(Nat→Nat)×t1g×(Nat→ZE)×Zu
abbrev td:Type:=Int×Int×Int×(List Zu)×Int×Int×Int×Int×(Nat→Int)×ZJ×(List Zm)×(Nat→Nat)×t1g×(Nat→ZE)×Zu
abbrev tc:Type:=(Int×Bool×ZJ×(List Zm)×(Nat→Nat)×Int×t1g)⊕(ZJ×(List Zm)×(Nat→Nat)×Int×t1g)
abbrev tb:Type:=(Int×Int×ZJ×(List Zm)×(Nat→Nat)×Zm×Zm×t1g)⊕tL
abbrev ta:Type:=(Int×Int×Int×(List ByteArray)×(List ByteArray)×Zl)⊕(Int×Int×Int×(List ByteArray)×(List ByteArray)×Zl)⊕((List ByteArray)×Zl)
abbrev t9:Type:=(Int×(List Int)×(List Int)×Zk)⊕(Int×(List Int)×(List Int)×(List Int)×Zk)⊕(Int×(List Int)×(List Int)×(List Int)×Zk)⊕(List Int)
abbrev t8:Type:=(Int×Int×Int×(List ByteArray)×ZJ×(List ByteArray)×Z5)⊕(Int×Int×Int×(List ByteArray)×ZJ×(List ByteArray)×Z5)⊕((List ByteArray)×ZJ)
abbrev t7:Type:=(Int×ZJ×(List Zm)×(Nat→Nat)×(Nat→ZE)×Zu×t1g×Bool×Int×Int)⊕(Int×ZJ×(List Zm)×(Nat→Nat)×t1g×Bool×Int×Int)
abbrev t6:Type:=(Z8×Bool×Int×Bool×Z8×Bool×Int×Z8×Zu×Z6×(List Int)×Zu)⊕(Z8×Bool×Int×Bool×Z8×Bool×Int×Z8×(List Int)×Zu)
abbrev t5:Type:=(Int×ZJ×(List Zm)×(Nat→Nat)×(Nat→ZE)×Zu×t1g×Bool×Int×Int)⊕ts
abbrev t4:Type:=(Int×Int×Int×Zl×t1e×CtSand)⊕(Int×Int×Int×Zl×t1e×CtSand)⊕(Int×Int×Int×Zl×t1e×CtSand)⊕(Zl×t1e)
abbrev t3:Type:=(Zk×Int×Int×Zl×(List Int)×Bool×Int×Bool×Zl×Int×Bool×(List Int)×Int×(List Zk)×Zw)⊕(Int×Int×Zl×(List Int)×Bool×Int×Bool×Zl×Int×Bool×(List Int)×Int×(List Zk)×Zw)
abbrev t2:Type:=(Int×Int×Int×(List ByteArray)×Zw×Zl×(List ByteArray))⊕(Int×Int×Int×(List ByteArray)×Zw×Zl×(List ByteArray))⊕(Int×Int×Int×(List ByteArray)×Zw×Zl×(List ByteArray))⊕(Zl×(List ByteArray))
abbrev t1:Type:=(Bool×(Nat→ZE)×ZJ×(List Zm)×(Nat→Nat)×ZE×t1g×Zu×Zm)⊕(Bool×(Nat→ZE)×ZJ×(List Zm)×(Nat→Nat)×ZE×t1g×Zu×Zm)⊕((Nat→ZE)×ZJ×(List Zm)×(Nat→Nat)×t1g×Zu)
abbrev t0:Type:=(Int×Int×Int×Zw×Zl×t1e)⊕(Int×Int×Int×Zw×Zl×t1e)⊕(Int×Int×Int×Zw×Zl×t1e×(List Zu))⊕(Int×Int×Int×Zw×Zl×t1e×(List Zu))⊕(Zl×t1e)
abbrev vP:Option (TV S):=some (.bool false)
abbrev vO:Option (TV S):=some (.int .i64 0)
abbrev vN:Option (TV S):=some (.sl (.st 2) [])
abbrev vM:Option (TV S):=some (.sl (.st 18) [])
abbrev vL:Option (TV S):=some (.sl (.st 21) [])
abbrev vK:Option (TV S):=some (.sl (.int .i64) [])
abbrev oJ:Option (Zi S):=some (.row 9 .str [] 1 1)
abbrev oI:Option (Zi S):=some (.row 9 .str [] 0 0)
abbrev oH:Option (Zi S):=some (.row 9 .str [] 1 0)
abbrev vG:Option (TV S):=some (.str ByteArray.empty)
abbrev oF:Option (Zi S):=some (.cells 181 [(.map 4)])
abbrev oE:Option (Zi S):=some (.cells 94 [(.ptr 3 0)])
abbrev oD:Option (Zi S):=some (.cells 94 [(.ptr 1 0)])
abbrev oC:Option (Zi S):=some (.row 43 (.st 2) [] 1 0)
abbrev oB:Option (Zi S):=some (.cells 94 [(.ptr 14 0)])
abbrev oA:Option (Zi S):=some (.cells 94 [(.ptr 20 0)])
abbrev oz:Option (Zi S):=some (.cells 4 [(.bool false)])
abbrev oy:Option (Zi S):=some (.map .str (.int .i64) [])
abbrev ox:Option (Zi S):=some (.cells 3 [(.int .i64 0)])
abbrev ow:Option (Zi S):=some (.siter ByteArray.empty 0)
abbrev ov:Option (Zi S):=some (.cells 23 [(.int .i64 0)])
abbrev ou:Option (Zi S):=some (.row 3 (.int .i64) [] 1 0)
abbrev vt:Option (TV S):=some (.agg [(.stc 2 (T.dflt 2))])
abbrev vs:Option (TV S):=some (.agg [(.stc 8 (T.dflt 8))])
abbrev vr:Option (TV S):=some (.agg [(.stc 21 (T.dflt 21))])
abbrev oq:Option (Zi S):=some (.map (.st 23) (.int .i64) [])
abbrev op:Option (Zi S):=some (.cells 70 [(.sl (.st 3) [])])
abbrev vo:Option (TV S):=some (.agg [(.stc 15 (T.dflt 15))])
abbrev vn:Option (TV S):=some (.fn (.func 101) [] [(.ptr 5 0)])
abbrev om:Option (Zi S):=some (.cells 99 [(.stc 3 (T.dflt 3))])
abbrev ol:Option (Zi S):=some (.cells 43 [(.stc 2 (T.dflt 2))])
abbrev ok:Option (Zi S):=some (.cells 72 [(.stc 4 (T.dflt 4))])
abbrev oj:Option (Zi S):=some (.cells 29 [(.stc 8 (T.dflt 8))])
abbrev oi:Option (Zi S):=some (.cells 88 [(.stc 7 (T.dflt 7))])
abbrev vh:Option (TV S):=some (.fn (.func 105) [] [(.ptr 36 0)])
abbrev vg:Option (TV S):=some (.fn (.func 113) [] [(.ptr 23 0)])
abbrev of:Option (Zi S):=some (.cells 36 [(.stc 21 (T.dflt 21))])
abbrev oe:Option (Zi S):=some (.cells 84 [(.stc 19 (T.dflt 19))])
abbrev od:Option (Zi S):=some (.cells 74 [(.stc 18 (T.dflt 18))])
abbrev oc:Option (Zi S):=some (.cells 33 [(.stc 20 (T.dflt 20))])
abbrev ob:Option (Zi S):=some (.cells 194 [(.stc 17 (T.dflt 17))])
abbrev oa:Option (Zi S):=some (.cells 184 [(.stc 15 (T.dflt 15))])
abbrev o9:Option (Zi S):=some (.cells 102 [(.arr (.st 5) 4 (fun _=>tdf T (.st 5)))])
abbrev o8:Option (Zi S):=some (.cells 141 [(.arr (.int .i64) 32 (fun _=>tdf T (.int .i64)))])
abbrev o7:Option (Zi S):=some (.cells 108 [(.fn (.func 47) [] [(.ptr 4 0),(.ptr 1 0),(.ptr 0 0)])])
abbrev o6:Option (Zi S):=some (.cells 108 [(.fn (.func 47) [] [(.ptr 10 0),(.ptr 23 0),(.ptr 26 0)])])
abbrev o5:Option (Zi S):=some (.cells 119 [(.stc 20 (T.dflt 20)),(.sl (.st 21) []),(.earr [112,135] 3 4 (fun _=>0)),(.map 2)])
abbrev o4:Option (Zi S):=some (.cells 119 [(.stc 20 (T.dflt 20)),(.sl (.st 21) []),(.earr [112,135] 1 4 (fun _=>0)),(.map 0)])
abbrev o3:Option (Zi S):=some (.cells 119 [(.stc 20 (T.dflt 20)),(.sl (.st 21) []),(.earr [112,135] 14 4 (fun _=>0)),(.map 13)])
abbrev o2:Option (Zi S):=some (.cells 119 [(.stc 20 (T.dflt 20)),(.sl (.st 21) []),(.earr [112,135] 20 4 (fun _=>0)),(.map 18)])
abbrev o1:Option (Zi S):=some (.loop 40 (N (N (N (N L (some (.fn (.func 80) [] [(.ptr 6 0)])) L) none L) (some (.ptr 2 0)) L) (some (.ptr 1 0)) (N L (some (.ptr 3 0)) L)) (8::[]) .skip .skip 0 .normal (0::(40::[])) (0::(1::(0::(1::[])))))
abbrev o0:Option (Zi S):=some (.loop 48 (N (N (N L (some (.ptr 3 0)) (N (N L (some (.fn (.func 80) [] [(.ptr 18 0)])) L) none L)) vO (N L (some (.ptr 14 0)) L)) (some (.ptr 1 0)) (N (N L (some (.ptr 4 0)) L) (some (.ptr 2 0)) L)) (20::[]) .skip .skip 0 .normal (0::(48::[])) (0::(1::(0::(1::(1::[]))))))
abbrev v1z:Tr (TV S):=N L none (N (N L vP L) none L)
abbrev o1y:Tr (Zi S):=N (N (N L ol L) none L) none L
abbrev o1x:Tr (Zi S):=N (N (N L ou L) none L) none L
abbrev o1w:Tr (Zi S):=N (N (N L ow L) none L) none L
abbrev v1v:Tr (TV S):=N (N L none (N L vO L)) none L
abbrev o1u:Tr (Zi S):=N L none (N (N L oH L) none L)
abbrev v1t:Tr (TV S):=N (N (N L vO L) none L) none L
abbrev v1s:Tr (TV S):=N L none (N (N L vO L) none L)
abbrev v1r:Tr (TV S):=N (N L (some (.ptr 3 0)) L) none L
abbrev o1q:Tr (Zi S):=N (N (N L o9 L) o4 L) oq (N L ol L)
abbrev o1p:Tr (Zi S):=N (N (N L o5 L) ox L) o7 (N (N L oE L) oq L)
abbrev o1o:Tr (Zi S):=N (N L none (N L oF L)) oj (N (N L oy L) none L)
abbrev v1n:Tr (TV S):=N (N (N L vO L) none L) none (N (N L vO L) vO L)
abbrev v1m:Tr (TV S):=N (N L none (N L vO L)) none (N (N L vO L) none L)
abbrev v1l:Tr (TV S):=N (N L vL L) (some (.agg [(.stc 20 (T.dflt 20))])) L
abbrev o1k:Tr (Zi S):=N L none (N (N (N (N L od L) none L) none L) none L)
abbrev v1j:Tr (TV S):=N (N (N L vO L) (some (.ptr 6 0)) L) (some (.yld 11)) L
abbrev v1i:Tr (TV S):=N (N (N L vO L) (some (.ptr 18 0)) L) (some (.yld 22)) L
abbrev o1h:Tr (Zi S):=N (N (N o1u none L) none L) oc L
abbrev v1g:Tr (TV S):=N L (some (.tup [(.agg [(.stc 5 (T.dflt 5))]),(.bool false)])) L
abbrev o1f:Tr (Zi S):=N (N (N L o8 L) o4 L) oq (N L none (N (N (N L o9 L) ol L) none L))
abbrev o1e:Tr (Zi S):=N (N L none (N L oF (N (N L ok L) none L))) oj (N (N L oy L) none L)
abbrev v1d:Tr (TV S):=N (N (N L (some (.rs 9 0)) L) (some (.ptr 0 0)) L) vL (N L (some (.ptr 1 0)) L)
abbrev o1c:Tr (Zi S):=N (N L none (N L oF L)) oj (N (N L oy L) none (N L none (N L none (N L oi L))))
abbrev v1b:Tr (TV S):=N v1z none (N v1r none L)
abbrev o1a:Tr (Zi S):=N L none (N (N (N (N L (some (.cells 48 [(.stc 5 (T.dflt 5))])) L) none L) none L) none L)
abbrev o19:Tr (Zi S):=N (N L oA L) oc (N (N L none (N (N L o2 L) none L)) none (N (N (N L oq L) none L) none L))
abbrev o18:Tr (Zi S):=N (N (N L (some (.cells 22 [(.rs 19 0)])) (N (N L oC L) o1 L)) o4 L) oq (N L oD (N L oD L))
abbrev o17:Tr (Zi S):=N (N L oA L) none (N (N L none (N (N L o2 L) none L)) none (N (N (N L oq L) none L) none L))
abbrev o16:Tr (Zi S):=N (N (N L none (N L none (N (N L oI L) none L))) none (N L none (N (N L oJ L) none L))) oj L
abbrev o15:Tr (Zi S):=N (N (N L ox L) o4 L) oq (N (N L oz L) oD (N (N (N L oD L) none L) none (N (N L o0 L) ox L)))
abbrev v14:Tr (TV S):=N (N (N (N L vO L) none L) (some (.fn (.func 107) [] [(.ptr 0 0)])) L) vM v1t
abbrev o13:Tr (Zi S):=N (N L (some (.cells 78 [(.stc 22 (T.dflt 22))])) (N (N L (some (.row 36 (.st 21) [] 1 0)) L) none L)) oc L
abbrev o12:Tr (Zi S):=N (N L none (N L oF (N (N L ok L) none L))) oj (N (N L oy L) none (N (N (N L none (N L oC L)) none L) none L))
abbrev o11:Tr (Zi S):=N (N (N L ou L) none (N L none (N (N L ou L) none L))) none (N (N (N (N L ou L) none L) none (N L om L)) none L)
abbrev o10:Tr (Zi S):=N (N (N L (some (.cells 22 [(.rs 34 0)])) (N L o1 L)) o4 L) oq (N L oD (N (N (N (N L oC L) none L) none L) oD L))
abbrev oZ:Tr (Zi S):=N (N (N (N L none (N L ox L)) none L) none (N L none (N L oq L))) oc (N L none (N (N L oB (N L o6 L)) none (N L o3 L)))
abbrev oY:Tr (Zi S):=N (N (N (N (N (N L oI L) none L) none L) none L) none (N L none (N (N L ok L) none L))) oj (N L none (N (N L oJ L) none L))
abbrev vX:Tr (TV S):=N (N (N L none (N L vO L)) (some (.fn (.func 96) [] [])) (N (N L (some (.sl (.st 19) [])) L) none L)) none v1s
abbrev oW:Tr (Zi S):=N (N (N (N L none (N (N L oJ L) none L)) none L) none L) oc (N (N L none (N L none (N L none (N L oI L)))) none (N (N (N L none (N L od L)) none L) none L))
abbrev vV:Tr (TV S):=N (N (N L vO L) none (N (N (N L vO L) (some (.ptr 3 0)) L) none L)) (some (.ptr 1 0)) (N (N (N (N L vN L) none L) none L) vO v1t)
abbrev oU:Tr (Zi S):=N (N (N (N L none (N L ox L)) none L) none (N (N L none (N (N L ou L) none L)) none (N L oq L))) oc (N (N (N L none (N (N L ou L) none L)) none L) none (N (N L oB (N L o6 L)) none (N L o3 L)))
abbrev oT:Tr (Zi S):=N (N (N (N L none (N L oa L)) none (N L none (N L (some (.loop 104 (N (N (N (N (N L vP L) none L) vO L) (some (.ptr 0 0)) (N (N L none (N L vP L)) none L)) vo (N (N (N L vP L) none (N L none (N L vg L))) (some (.ptr 1 0)) L)) (29::[]) .skip .skip 1 .normal (1::(104::[])) (0::(1::(0::(1::(1::(1::[])))))))) L))) ov L) oa (N L none (N L ou o1y))
abbrev oS:Tr (Zi S):=N (N (N (N L none (N L oa L)) none (N L none (N L (some (.loop 104 (N (N (N (N (N L vP L) none L) vO L) (some (.ptr 0 0)) (N (N L none (N L vP L)) none L)) vo (N (N (N L vP L) none (N L none (N L vg L))) (some (.ptr 1 0)) L)) (29::[]) .skip .skip 1 .busy (1::(104::[])) (0::(1::(0::(1::(1::(1::[])))))))) L))) ov L) oa (N L none (N (N L none (N L none (N L ob L))) none L))
abbrev oR:Tr (Zi S):=N (N (N L ox L) ox L) oj (N (N (N (N L ou L) none (N (N L (some (.loop 70 (N (N (N (N L (some (.ptr 3 0)) L) (some (.ptr 0 0)) (N L none (N (N L vh L) vP L))) vO (N (N (N L vP L) none L) none L)) vs (N (N (N L (some (.ptr 4 0)) L) (some (.ptr 1 0)) L) vO (N L (some (.ptr 2 0)) (N (N L vP L) none L)))) (44::(45::[])) .skip .skip 1 .normal (1::(70::[])) (0::(1::(0::(1::(1::(1::(1::[]))))))))) L) ou L)) ov (N (N (N L op L) none L) none L)) ok L)
abbrev oQ:Tr (Zi S):=N (N (N L ox L) o4 (N (N L none (N L none (N (N L o9 L) none L))) none (N o1y none L))) oq (N (N L oz L) oD (N (N (N L oD L) none L) none (N (N L (some (.loop 48 (N (N (N L (some (.ptr 3 0)) (N (N L (some (.fn (.func 80) [] [(.ptr 18 0)])) L) none L)) vO (N L (some (.ptr 14 0)) L)) (some (.ptr 1 0)) (N (N L (some (.ptr 4 0)) L) (some (.ptr 2 0)) L)) (20::[]) .skip .skip 0 .ret (0::(48::[])) (0::(1::(0::(1::(1::[]))))))) L) ox L)))
noncomputable def q0 {R:Type}:Prs S R:=Zhf
theorem q1 {R:Type}:Z7R X (q0 (R:=R)):=Zhg X
noncomputable def q2:List (Nat×F7 S):=[]
theorem q3:Z9n X (q2):=trivial
abbrev q4 {R:Type}:Z27 S R:=Zgi
theorem q5 {R:Type}:Z3J X (q4 (R:=R)):=ZgQ X
theorem q6 (x0:Int) (x1:Int) (x2:Int):Zhs X q2 [(.int .i64),(.int .i64),(.int .i64)] [.bool] q0 q4 12 98 (x0,x1,x2,())=X1S x0 x1 x2:=by kernel_rfl
noncomputable def q7:F7 S:=⟨[(.int .i64),(.int .i64),(.int .i64)],[.bool],fun xs=>X1S xs.1 xs.2.1 xs.2.2.1⟩
theorem q8:Z7Q X 98 q7:=Zho (Zhn xok q3 q1 q5 12 98) fun xs _ h=>(q6 xs.1 xs.2.1 xs.2.2.1).trans h
noncomputable def q9:List (Nat×F7 S):=[(98,q7)]
theorem qa:Z9n X (q9):=⟨q8,trivial⟩
abbrev qb {R:Type}:Z27 S R:=Zgi
theorem qc {R:Type}:Z3J X (qb (R:=R)):=ZgQ X
def qd:Key:=⟨[85],85,none,[0,0,1,0,1,1],0,6⟩
def qe:StT S:=⟨(N (N (N L vO L) none L) vG L),L,6⟩
def qf:Way S:=⟨.ret,⟨(N L none (N L vP L)),L,43⟩,[.bool]⟩
def qg:Way S:=⟨(.exit 0),⟨L,L,10⟩,[]⟩
def qh:LE S:=⟨qd,qe,[.int,.str],[qf,qg]⟩
def qi (x:(Int×ByteArray)):(Bool⊕Unit)→(Bool⊕Unit):=Sum.elim (fun y0=>(.inl y0)) (fun y1=>(.inr ()))
noncomputable def qj {R:Type} (x:(Int×ByteArray)) (k:(Bool⊕Unit)→Option R):Option R:=(X4p x.2 x.1).bind (Sum.elim (fun y0=>k (.inl y0)) (fun y1=>k (.inr ())))
def qk (x:(Int×ByteArray)) (v:Int):(Int×ByteArray):=(v,x.2)
theorem ql (x:(Int×ByteArray)):LE.step X qh q9 q0 qb 12 x=X1c x.2 x.1 (fun w0=>(Sum.inl (w0,x.2))) (fun p0=>(Sum.inr (.inl p0))) (Sum.inr (.inr ())):=by kernel_rfl
theorem qn {R:Type} (x:(Int×ByteArray)) (k:(Bool⊕Unit)→Option R) (r:R) (h:qj x k=some r):∃ o,Z5s (LE.step X qh q9 q0 qb 12) x o∧k o=some r:=by
 obtain ⟨o,h1,h2⟩:=Z0 h
 exact ⟨qi x o,Zhl (st:=fun (x:(Int×ByteArray))=>X12 x.2) (prj:=fun x=>x.1) (emb:=qk) (embO:=qi) (fun x=>(ql x).trans (by unfold X12 X1c;simp only [Zhd,Zh8,Zhe,Option.map_some,Option.map_none];rfl)) (fun _ _=>rfl) (fun _ _=>rfl) (fun _ _ _=>rfl) (fun _ _ _=>rfl) (fun _=>rfl) (Z1S.1 h1),by
  first
  | exact h2
  | (rcases o with o|o<;>exact h2)⟩
noncomputable def qo {R:Type}:Z27 S R:=LE.ls X qh qj qb
theorem qp {R:Type}:Z3J X (qo (R:=R)):=Zhq xok qa (e:=qh) q1 qc qn qc
theorem qq (x0:ByteArray):Zhs X q9 [.str] [.bool] q0 qo 12 85 (x0,())=X46 x0:=by kernel_rfl
noncomputable def qr:F7 S:=⟨[.str],[.bool],fun xs=>X46 xs.1⟩
theorem qs:Z7Q X 85 qr:=Zho (Zhn xok qa q1 qp 12 85) fun xs _ h=>(qq xs.1).trans h
noncomputable def qt:List (Nat×F7 S):=[]
theorem qu:Z9n X (qt):=trivial
abbrev qv {R:Type}:Z27 S R:=Zgi
theorem qw {R:Type}:Z3J X (qv (R:=R)):=ZgQ X
def qx:Key:=⟨[86],86,none,[0,0,1,0,1],0,2⟩
def qy:StT S:=⟨(N (N L vG (N L vO L)) (some (.sl .str [])) L),L,2⟩
def qz:Way S:=⟨.ret,⟨v1s,L,14⟩,[.int]⟩
def qA:Way S:=⟨(.exit 0),⟨L,L,6⟩,[]⟩
def qB:LE S:=⟨qx,qy,[.str,.int,(.lst .str)],[qz,qA]⟩
def qC (x:tW):(Int⊕Unit)→(Int⊕Unit):=Sum.elim (fun y0=>(.inl y0)) (fun y1=>(.inr ()))
noncomputable def qD {R:Type} (x:tW) (k:(Int⊕Unit)→Option R):Option R:=(X2M x.1 x.2.2 x.2.1).bind (Sum.elim (fun y0=>k (.inl y0)) (fun y1=>k (.inr ())))
def qE (x:tW) (v:Int):tW:=(x.1,v,x.2.2)
theorem qF (x:tW):LE.step X qB qt q0 qv 12 x=WQ x.1 x.2.2 x.2.1 (fun w0=>(Sum.inl (x.1,w0,x.2.2))) (fun p0=>(Sum.inr (.inl p0))) (Sum.inr (.inr ())):=by kernel_rfl
theorem qH {R:Type} (x:tW) (k:(Int⊕Unit)→Option R) (r:R) (h:qD x k=some r):∃ o,Z5s (LE.step X qB qt q0 qv 12) x o∧k o=some r:=by
 obtain ⟨o,h1,h2⟩:=Z0 h
 exact ⟨qC x o,Zhl (st:=fun (x:tW)=>XW x.1 x.2.2) (prj:=fun x=>x.2.1) (emb:=qE) (embO:=qC) (fun x=>(qF x).trans (by unfold XW WQ;simp only [Zhd,Zh8,Zhe,Option.map_some,Option.map_none];rfl)) (fun _ _=>rfl) (fun _ _=>rfl) (fun _ _ _=>rfl) (fun _ _ _=>rfl) (fun _=>rfl) (Z1S.1 h1),by
  first
  | exact h2
  | (rcases o with o|o<;>exact h2)⟩
noncomputable def qI {R:Type}:Z27 S R:=LE.ls X qB qD qv
theorem qJ {R:Type}:Z3J X (qI (R:=R)):=Zhq xok qu (e:=qB) q1 qw qH qw
theorem qK (x0:List ByteArray) (x1:ByteArray):Zhs X qt [(.sl .str),.str] [(.int .i64)] q0 qI 12 86 (x0,x1,())=X4q x0 x1:=by kernel_rfl
noncomputable def qL:F7 S:=⟨[(.sl .str),.str],[(.int .i64)],fun xs=>X4q xs.1 xs.2.1⟩
theorem qM:Z7Q X 86 qL:=Zho (Zhn xok qu q1 qJ 12 86) fun xs _ h=>(qK xs.1 xs.2.1).trans h
noncomputable def qN:List (Nat×F7 S):=[(85,qr),(86,qL)]
theorem qO:Z9n X (qN):=⟨qs,qM,trivial⟩
abbrev qP {R:Type}:Z27 S R:=Zgi
theorem qQ {R:Type}:Z3J X (qP (R:=R)):=ZgQ X
theorem qR (x0:ByteArray) (x1:List ByteArray):Zhs X qN [.str,(.sl .str)] [(.int .i64)] q0 qP 12 66 (x0,x1,())=X2o x0 x1:=by kernel_rfl
noncomputable def qS:F7 S:=⟨[.str,(.sl .str)],[(.int .i64)],fun xs=>X2o xs.1 xs.2.1⟩
theorem qT:Z7Q X 66 qS:=Zho (Zhn xok qO q1 qQ 12 66) fun xs _ h=>(qR xs.1 xs.2.1).trans h
noncomputable def qU:List (Nat×F7 S):=[(98,q7)]
theorem qV:Z9n X (qU):=⟨q8,trivial⟩
abbrev qW {R:Type}:Z27 S R:=Zgi
theorem qX {R:Type}:Z3J X (qW (R:=R)):=ZgQ X
theorem qY (x0:Zu) (x1:Int):Zhs X qU [(.st 2),(.int .i64)] [.bool] q0 qW 12 82 (x0,x1,())=X2u x0 x1:=by kernel_rfl
noncomputable def qZ:F7 S:=⟨[(.st 2),(.int .i64)],[.bool],fun xs=>X2u xs.1 xs.2.1⟩
theorem q10:Z7Q X 82 qZ:=Zho (Zhn xok qV q1 qX 12 82) fun xs _ h=>(qY xs.1 xs.2.1).trans h
noncomputable def q11:List (Nat×F7 S):=[(98,q7)]
theorem q12:Z9n X (q11):=⟨q8,trivial⟩
abbrev q13 {R:Type}:Z27 S R:=Zgi
theorem q14 {R:Type}:Z3J X (q13 (R:=R)):=ZgQ X
def q15:Key:=⟨[83],83,none,[0,0,1,0,1,1],0,6⟩
def q16:StT S:=⟨(N (N (N L vO L) none L) (some (.sl (.st 3) [])) L),L,6⟩
def q17:Way S:=⟨.ret,⟨(N L none (N L vO L)),L,27⟩,[.int]⟩
def q18:Way S:=⟨.ret,⟨(N L none (N L vO L)),L,43⟩,[.int]⟩
def q19:Way S:=⟨(.exit 0),⟨L,L,10⟩,[]⟩
def q1a:LE S:=⟨q15,q16,[.int,(.lst (.st 3))],[q17,q18,q19]⟩
def q1b (x:(Int×(List Zk))):(Int⊕Int⊕Unit)→(Int⊕Int⊕Unit):=Sum.elim (fun y0=>(.inl y0)) (Sum.elim (fun y1=>(.inr (.inl y1))) (fun y2=>(.inr (.inr ()))))
noncomputable def q1c {R:Type} (x:(Int×(List Zk))) (k:(Int⊕Int⊕Unit)→Option R):Option R:=(X3R x.2 x.1).bind (Sum.elim (fun y0=>k (.inl y0)) (Sum.elim (fun y1=>k (.inr (.inl y1))) (fun y2=>k (.inr (.inr ())))))
def q1d (x:(Int×(List Zk))) (v:Int):(Int×(List Zk)):=(v,x.2)
theorem q1e (x:(Int×(List Zk))):LE.step X q1a q11 q0 q13 12 x=Wm x.2 x.1 (fun w0=>(Sum.inl (w0,x.2))) (fun p0=>(Sum.inr (.inl p0))) (fun p0=>(Sum.inr (.inr (.inl p0)))) (Sum.inr (.inr (.inr ()))):=by kernel_rfl
theorem q1g {R:Type} (x:(Int×(List Zk))) (k:(Int⊕Int⊕Unit)→Option R) (r:R) (h:q1c x k=some r):∃ o,Z5s (LE.step X q1a q11 q0 q13 12) x o∧k o=some r:=by
 obtain ⟨o,h1,h2⟩:=Z0 h
 exact ⟨q1b x o,Zhl (st:=fun (x:(Int×(List Zk)))=>Wa x.2) (prj:=fun x=>x.1) (emb:=q1d) (embO:=q1b) (fun x=>(q1e x).trans (by unfold Wa Wm;simp only [Zhd,Zh8,Zhe,Option.map_some,Option.map_none];rfl)) (fun _ _=>rfl) (fun _ _=>rfl) (fun _ _ _=>rfl) (fun _ _ _=>rfl) (fun _=>rfl) (Z1S.1 h1),by
  first
  | exact h2
  | (rcases o with o|o|o<;>exact h2)⟩
noncomputable def q1h {R:Type}:Z27 S R:=LE.ls X q1a q1c q13
theorem q1i {R:Type}:Z3J X (q1h (R:=R)):=Zhq xok q12 (e:=q1a) q1 q14 q1g q14
theorem q1j (x0:List Zk):Zhs X q11 [(.sl (.st 3))] [(.int .i64)] q0 q1h 12 83 (x0,())=X2v x0:=by kernel_rfl
noncomputable def q1k:F7 S:=⟨[(.sl (.st 3))],[(.int .i64)],fun xs=>X2v xs.1⟩
theorem q1l:Z7Q X 83 q1k:=Zho (Zhn xok q12 q1 q1i 12 83) fun xs _ h=>(q1j xs.1).trans h
noncomputable def q1m:List (Nat×F7 S):=[(98,q7)]
theorem q1n:Z9n X (q1m):=⟨q8,trivial⟩
abbrev q1o {R:Type}:Z27 S R:=Zgi
theorem q1p {R:Type}:Z3J X (q1o (R:=R)):=ZgQ X
def q1q:Key:=⟨[87],87,none,[0,0,1,0,1,1],0,3⟩
def q1r:StT S:=⟨(N (N (N (N L vO L) none L) vO L) (some (.sl (.st 5) [])) (N (N (N L vO L) none L) vO L)),L,3⟩
def q1s:Way S:=⟨.ret,⟨(N L none (N L none (N L vO L))),L,28⟩,[.int]⟩
def q1t:Way S:=⟨(.exit 0),⟨(N v1t none L),L,7⟩,[.int]⟩
def q1u:LE S:=⟨q1q,q1r,[.int,.int,(.lst (.st 5)),.int,.int],[q1s,q1t]⟩
def q1v (x:tV):(Int⊕Int)→(Int⊕Int):=Sum.elim (fun y0=>(.inl y0)) (fun y1=>(.inr y1))
noncomputable def q1w {R:Type} (x:tV) (k:(Int⊕Int)→Option R):Option R:=(X3Q x.2.1 x.2.2.1 x.2.2.2.2 (x.1,x.2.2.2.1)).bind (Sum.elim (fun y0=>k (.inl y0)) (fun y1=>k (.inr y1)))
def q1x (x:tV) (v:(Int×Int)):tV:=(v.1,x.2.1,x.2.2.1,v.2,x.2.2.2.2)
theorem q1y (x:tV):LE.step X q1u q1m q0 q1o 12 x=Wl x.2.1 x.2.2.1 x.2.2.2.2 x.1 x.2.2.2.1 (fun w0 w1=>(Sum.inl (w0,x.2.1,x.2.2.1,w1,x.2.2.2.2))) (fun p0=>(Sum.inr (.inl p0))) (fun p0=>(Sum.inr (.inr p0))):=by kernel_rfl
theorem q1A {R:Type} (x:tV) (k:(Int⊕Int)→Option R) (r:R) (h:q1w x k=some r):∃ o,Z5s (LE.step X q1u q1m q0 q1o 12) x o∧k o=some r:=by
 obtain ⟨o,h1,h2⟩:=Z0 h
 exact ⟨q1v x o,Zhl (st:=fun (x:tV)=>W9 x.2.1 x.2.2.1 x.2.2.2.2) (prj:=fun x=>(x.1,x.2.2.2.1)) (emb:=q1x) (embO:=q1v) (fun x=>(q1y x).trans (by unfold W9 Wl;simp only [Zhd,Zh8,Zhe,Option.map_some,Option.map_none];rfl)) (fun _ _=>rfl) (fun _ _=>rfl) (fun _ _ _=>rfl) (fun _ _ _=>rfl) (fun _=>rfl) (Z1S.1 h1),by
  first
  | exact h2
  | (rcases o with o|o<;>exact h2)⟩
noncomputable def q1B {R:Type}:Z27 S R:=LE.ls X q1u q1w q1o
theorem q1C {R:Type}:Z3J X (q1B (R:=R)):=Zhq xok q1n (e:=q1u) q1 q1p q1A q1p
theorem q1D (x0:List ZE) (x1:Int) (x2:Int):Zhs X q1m [(.sl (.st 5)),(.int .i64),(.int .i64)] [(.int .i64)] q0 q1B 12 87 (x0,x1,x2,())=X22 x0 x1 x2:=by kernel_rfl
noncomputable def q1E:F7 S:=⟨[(.sl (.st 5)),(.int .i64),(.int .i64)],[(.int .i64)],fun xs=>X22 xs.1 xs.2.1 xs.2.2.1⟩
theorem q1F:Z7Q X 87 q1E:=Zho (Zhn xok q1n q1 q1C 12 87) fun xs _ h=>(q1D xs.1 xs.2.1 xs.2.2.1).trans h
noncomputable def q1G:List (Nat×F7 S):=[(87,q1E)]
theorem q1H:Z9n X (q1G):=⟨q1F,trivial⟩
abbrev q1I {R:Type}:Z27 S R:=Zgi
theorem q1J {R:Type}:Z3J X (q1I (R:=R)):=ZgQ X
theorem q1K (x0:ZB) (x1:Int) (x2:Int):Zhs X q1G [(.st 6),(.int .i64),(.int .i64)] [(.int .i64)] q0 q1I 12 99 (x0,x1,x2,())=X4H x0 x1 x2:=by kernel_rfl
noncomputable def q1L:F7 S:=⟨[(.st 6),(.int .i64),(.int .i64)],[(.int .i64)],fun xs=>X4H xs.1 xs.2.1 xs.2.2.1⟩
theorem q1M:Z7Q X 99 q1L:=Zho (Zhn xok q1H q1 q1J 12 99) fun xs _ h=>(q1K xs.1 xs.2.1 xs.2.2.1).trans h
noncomputable def q1N:List (Nat×F7 S):=[]
theorem q1O:Z9n X (q1N):=trivial
abbrev q1P {R:Type}:Z27 S R:=Zgi
theorem q1Q {R:Type}:Z3J X (q1P (R:=R)):=ZgQ X
theorem q1R (x0:Zu) (x1:Zu):Zhs X q1N [(.st 2),(.st 2)] [(.st 2)] q0 q1P 12 109 (x0,x1,())=X6W x0 x1:=by kernel_rfl
noncomputable def q1S:F7 S:=⟨[(.st 2),(.st 2)],[(.st 2)],fun xs=>X6W xs.1 xs.2.1⟩
theorem q1T:Z7Q X 109 q1S:=Zho (Zhn xok q1O q1 q1Q 12 109) fun xs _ h=>(q1R xs.1 xs.2.1).trans h
noncomputable def q1U:List (Nat×F7 S):=[]
theorem q1V:Z9n X (q1U):=trivial
abbrev q1W {R:Type}:Z27 S R:=Zgi
theorem q1X {R:Type}:Z3J X (q1W (R:=R)):=ZgQ X
theorem q1Y (x0:Zu) (x1:Zu):Zhs X q1U [(.st 2),(.st 2)] [(.int .i64)] q0 q1W 12 108 (x0,x1,())=X6V x0 x1:=by kernel_rfl
noncomputable def q1Z:F7 S:=⟨[(.st 2),(.st 2)],[(.int .i64)],fun xs=>X6V xs.1 xs.2.1⟩
theorem q20:Z7Q X 108 q1Z:=Zho (Zhn xok q1V q1 q1X 12 108) fun xs _ h=>(q1Y xs.1 xs.2.1).trans h
noncomputable def q21:List (Nat×F7 S):=[(109,q1S),(108,q1Z)]
theorem q22:Z9n X (q21):=⟨q1T,q20,trivial⟩
abbrev q23 {R:Type}:Z27 S R:=Zgi
theorem q24 {R:Type}:Z3J X (q23 (R:=R)):=ZgQ X
def q25:Key:=⟨[100],100,none,[0,0,1,1,0,0,1,0,0,1,0,1],2,13⟩
def q26:StT S:=⟨(N (N (N L vO L) none (N L vO L)) vN (N (N L vO L) none L)),L,13⟩
def q27:Way S:=⟨.ret,⟨(N L none (N L vP L)),L,48⟩,[.bool]⟩
def q28:Way S:=⟨(.exit 2),⟨(N (N (N L vO L) none L) vN L),L,17⟩,[.int,(.lst (.st 2))]⟩
def q29:LE S:=⟨q25,q26,[.int,.int,(.lst (.st 2)),.int],[q27,q28]⟩
def q2a (x:t16):(Bool⊕Unit)→(Bool⊕(Int×(List Zu))):=Sum.elim (fun y0=>(.inl y0)) (fun y1=>(.inr (x.1,x.2.2.1)))
noncomputable def q2b {R:Type} (x:t16) (k:(Bool⊕(Int×(List Zu)))→Option R):Option R:=(X23 x.1 x.2.2.1 x.2.2.2 x.2.1).bind (Sum.elim (fun y0=>k (.inl y0)) (fun y1=>k (.inr (x.1,x.2.2.1))))
def q2c (x:t16) (v:Int):t16:=(x.1,v,x.2.2.1,x.2.2.2)
theorem q2d (x:t16):LE.step X q29 q21 q0 q23 12 x=WT x.1 x.2.2.1 x.2.2.2 x.2.1 (fun w0=>(Sum.inl (x.1,w0,x.2.2.1,x.2.2.2))) (fun p0=>(Sum.inr (.inl p0))) (Sum.inr (.inr (x.1,x.2.2.1))):=by kernel_rfl
theorem q2f {R:Type} (x:t16) (k:(Bool⊕(Int×(List Zu)))→Option R) (r:R) (h:q2b x k=some r):∃ o,Z5s (LE.step X q29 q21 q0 q23 12) x o∧k o=some r:=by
 obtain ⟨o,h1,h2⟩:=Z0 h
 exact ⟨q2a x o,Zhl (st:=fun (x:t16)=>WA x.1 x.2.2.1 x.2.2.2) (prj:=fun x=>x.2.1) (emb:=q2c) (embO:=q2a) (fun x=>(q2d x).trans (by unfold WA WT;simp only [Zhd,Zh8,Zhe,Option.map_some,Option.map_none];rfl)) (fun _ _=>rfl) (fun _ _=>rfl) (fun _ _ _=>rfl) (fun _ _ _=>rfl) (fun _=>rfl) (Z1S.1 h1),by
  first
  | exact h2
  | (rcases o with o|o<;>exact h2)⟩
noncomputable def q2g {R:Type}:Z27 S R:=LE.ls X q29 q2b q23
theorem q2h {R:Type}:Z3J X (q2g (R:=R)):=Zhq xok q22 (e:=q29) q1 q24 q2f q24
def q2i:Key:=⟨[100],100,none,[0,0,1,0,1],0,2⟩
def q2j:StT S:=⟨(N (N (N L vO L) none L) vN L),L,2⟩
def q2k:Way S:=⟨.ret,⟨(N L none (N L vP L)),L,48⟩,[.bool]⟩
def q2l:Way S:=⟨(.exit 0),⟨L,L,6⟩,[]⟩
def q2m:LE S:=⟨q2i,q2j,[.int,(.lst (.st 2))],[q2k,q2l]⟩
def q2n (x:(Int×(List Zu))):(Bool⊕Unit)→(Bool⊕Unit):=Sum.elim (fun y0=>(.inl y0)) (fun y1=>(.inr ()))
noncomputable def q2o {R:Type} (x:(Int×(List Zu))) (k:(Bool⊕Unit)→Option R):Option R:=(X47 x.2 x.1).bind (Sum.elim (fun y0=>k (.inl y0)) (fun y1=>k (.inr ())))
def q2p (x:(Int×(List Zu))) (v:Int):(Int×(List Zu)):=(v,x.2)
theorem q2q (x:(Int×(List Zu))):LE.step X q2m q21 q0 q2g 12 x=WS x.2 x.1 (fun w0=>(Sum.inl (w0,x.2))) (fun p0=>(Sum.inr (.inl p0))) (Sum.inr (.inr ())):=by kernel_rfl
theorem q2s {R:Type} (x:(Int×(List Zu))) (k:(Bool⊕Unit)→Option R) (r:R) (h:q2o x k=some r):∃ o,Z5s (LE.step X q2m q21 q0 q2g 12) x o∧k o=some r:=by
 obtain ⟨o,h1,h2⟩:=Z0 h
 exact ⟨q2n x o,Zhl (st:=fun (x:(Int×(List Zu)))=>Wz x.2) (prj:=fun x=>x.1) (emb:=q2p) (embO:=q2n) (fun x=>(q2q x).trans (by unfold Wz WS;simp only [Zhd,Zh8,Zhe,Option.map_some,Option.map_none];rfl)) (fun _ _=>rfl) (fun _ _=>rfl) (fun _ _ _=>rfl) (fun _ _ _=>rfl) (fun _=>rfl) (Z1S.1 h1),by
  first
  | exact h2
  | (rcases o with o|o<;>exact h2)⟩
noncomputable def q2t {R:Type}:Z27 S R:=LE.ls X q2m q2o q2g
theorem q2u {R:Type}:Z3J X (q2t (R:=R)):=Zhq xok q22 (e:=q2m) q1 q2h q2s q2h
theorem q2v (x0:List Zu):Zhs X q21 [(.sl (.st 2))] [.bool] q0 q2t 12 100 (x0,())=X3H x0:=by kernel_rfl
noncomputable def q2w:F7 S:=⟨[(.sl (.st 2))],[.bool],fun xs=>X3H xs.1⟩
theorem q2x:Z7Q X 100 q2w:=Zho (Zhn xok q22 q1 q2u 12 100) fun xs _ h=>(q2v xs.1).trans h
noncomputable def q2y:List (Nat×F7 S):=[(98,q7),(82,qZ),(99,q1L),(100,q2w)]
theorem q2z:Z9n X (q2y):=⟨q8,q10,q1M,q2x,trivial⟩
abbrev q2A {R:Type}:Z27 S R:=Zgi
theorem q2B {R:Type}:Z3J X (q2A (R:=R)):=ZgQ X
def q2C:Key:=⟨[84],84,none,[0,0,1,0,1,1],0,8⟩
def q2D:StT S:=⟨(N (N (N L vO L) (some (.ptr 0 0)) L) none L),(N L oi L),8⟩
def q2E:Way S:=⟨.ret,⟨(N L none (N L vO L)),(N L oi L),21⟩,[.int,(.st 7)]⟩
def q2F:Way S:=⟨(.exit 0),⟨(N (N L (some (.ptr 0 0)) L) none L),(N L oi L),13⟩,[(.st 7)]⟩
def q2G:LE S:=⟨q2C,q2D,[.int,(.st 7)],[q2E,q2F]⟩
def q2H (x:(Int×CtSand)):(Int⊕Unit)→((Int×CtSand)⊕CtSand):=Sum.elim (fun y0=>(.inl (y0,x.2))) (fun y1=>(.inr x.2))
noncomputable def q2I {R:Type} (x:(Int×CtSand)) (k:((Int×CtSand)⊕CtSand)→Option R):Option R:=(X3m x.2 x.1).bind (Sum.elim (fun y0=>k (.inl (y0,x.2))) (fun y1=>k (.inr x.2)))
def q2J (x:(Int×CtSand)) (v:Int):(Int×CtSand):=(v,x.2)
theorem q2K (x:(Int×CtSand)):LE.step X q2G q2y q0 q2A 12 x=X1d x.2 x.1 (fun w0=>(Sum.inl (w0,x.2))) (fun p0=>(Sum.inr (.inl (p0,x.2)))) (Sum.inr (.inr x.2)):=by kernel_rfl
theorem q2M {R:Type} (x:(Int×CtSand)) (k:((Int×CtSand)⊕CtSand)→Option R) (r:R) (h:q2I x k=some r):∃ o,Z5s (LE.step X q2G q2y q0 q2A 12) x o∧k o=some r:=by
 obtain ⟨o,h1,h2⟩:=Z0 h
 exact ⟨q2H x o,Zhl (st:=fun (x:(Int×CtSand))=>Wb x.2) (prj:=fun x=>x.1) (emb:=q2J) (embO:=q2H) (fun x=>(q2K x).trans (by unfold Wb X1d;simp only [Zhd,Zh8,Zhe,Option.map_some,Option.map_none];rfl)) (fun _ _=>rfl) (fun _ _=>rfl) (fun _ _ _=>rfl) (fun _ _ _=>rfl) (fun _=>rfl) (Z1S.1 h1),by
  first
  | exact h2
  | (rcases o with o|o<;>exact h2)⟩
noncomputable def q2N {R:Type}:Z27 S R:=LE.ls X q2G q2I q2A
theorem q2O {R:Type}:Z3J X (q2N (R:=R)):=Zhq xok q2z (e:=q2G) q1 q2B q2M q2B
theorem q2P (x0:CtSand):Zhs X q2y [(.st 7)] [(.int .i64)] q0 q2N 12 84 (x0,())=X48 x0:=by kernel_rfl
noncomputable def q2Q:F7 S:=⟨[(.st 7)],[(.int .i64)],fun xs=>X48 xs.1⟩
theorem q2R:Z7Q X 84 q2Q:=Zho (Zhn xok q2z q1 q2O 12 84) fun xs _ h=>(q2P xs.1).trans h
noncomputable def q2S:List (Nat×F7 S):=[(66,qS),(82,qZ),(83,q1k),(84,q2Q)]
theorem q2T:Z9n X (q2S):=⟨qT,q10,q1l,q2R,trivial⟩
abbrev q2U {R:Type}:Z27 S R:=Zgi
theorem q2V {R:Type}:Z3J X (q2U (R:=R)):=ZgQ X
def q2W:Key:=⟨[64],64,none,[0,0,1,0,1,1,1],0,10⟩
def q2X:StT S:=⟨(N (N L (some (.ptr 0 0)) (N L (some (.rs 10 0)) L)) none (N L none (N L vO L))),(N L oj o1u),11⟩
def q2Y:Way S:=⟨.ret,⟨v1n,oY,52⟩,[.int,.int,.int,(.lst .str),(.st 4),(.st 8),(.lst .str)]⟩
def q2Z:Way S:=⟨.ret,⟨v1n,oY,55⟩,[.int,.int,.int,(.lst .str),(.st 4),(.st 8),(.lst .str)]⟩
def q30:Way S:=⟨.ret,⟨v1n,oY,51⟩,[.int,.int,.int,(.lst .str),(.st 4),(.st 8),(.lst .str)]⟩
def q31:Way S:=⟨(.exit 0),⟨(N (N L (some (.ptr 0 0)) (N L (some (.rs 10 0)) L)) none L),(N L oj o1u),16⟩,[(.st 8),(.lst .str)]⟩
def q32:LE S:=⟨q2W,q2X,[.int,(.st 8),(.lst .str)],[q2Y,q2Z,q30,q31]⟩
def q33 (x:t12):(tH⊕tH⊕tH⊕(List ByteArray))→t2:=Sum.elim (fun y0=>(.inl (y0.1,y0.2.1,y0.2.2.1,y0.2.2.2.1,y0.2.2.2.2.1,x.2.1,y0.2.2.2.2.2))) (Sum.elim (fun y1=>(.inr (.inl (y1.1,y1.2.1,y1.2.2.1,y1.2.2.2.1,y1.2.2.2.2.1,x.2.1,y1.2.2.2.2.2)))) (Sum.elim (fun y2=>(.inr (.inr (.inl (y2.1,y2.2.1,y2.2.2.1,y2.2.2.2.1,y2.2.2.2.2.1,x.2.1,y2.2.2.2.2.2))))) (fun y3=>(.inr (.inr (.inr (x.2.1,y3)))))))
noncomputable def q34 {R:Type} (x:t12) (k:t2→Option R):Option R:=(X44 x.2.1 (x.1,x.2.2)).bind (Sum.elim (fun y0=>k (.inl (y0.1,y0.2.1,y0.2.2.1,y0.2.2.2.1,y0.2.2.2.2.1,x.2.1,y0.2.2.2.2.2))) (Sum.elim (fun y1=>k (.inr (.inl (y1.1,y1.2.1,y1.2.2.1,y1.2.2.2.1,y1.2.2.2.2.1,x.2.1,y1.2.2.2.2.2)))) (Sum.elim (fun y2=>k (.inr (.inr (.inl (y2.1,y2.2.1,y2.2.2.1,y2.2.2.2.1,y2.2.2.2.2.1,x.2.1,y2.2.2.2.2.2))))) (fun y3=>k (.inr (.inr (.inr (x.2.1,y3))))))))
def q35 (x:t12) (v:(Int×(List ByteArray))):t12:=(v.1,x.2.1,v.2)
theorem q36 (x:t12):LE.step X q32 q2S q0 q2U 12 x=WO x.2.1 x.1 x.2.2 (fun w0 w1=>(Sum.inl (w0,x.2.1,w1))) (fun p0 p1 p2 p3 p4 p5=>(Sum.inr (.inl (p0,p1,p2,p3,p4,x.2.1,p5)))) (fun p0 p1 p2 p3 p4 p5=>(Sum.inr (.inr (.inl (p0,p1,p2,p3,p4,x.2.1,p5))))) (fun p0 p1 p2 p3 p4 p5=>(Sum.inr (.inr (.inr (.inl (p0,p1,p2,p3,p4,x.2.1,p5)))))) (fun p0=>(Sum.inr (.inr (.inr (.inr (x.2.1,p0)))))):=by kernel_rfl
theorem q38 {R:Type} (x:t12) (k:t2→Option R) (r:R) (h:q34 x k=some r):∃ o,Z5s (LE.step X q32 q2S q0 q2U 12) x o∧k o=some r:=by
 obtain ⟨o,h1,h2⟩:=Z0 h
 exact ⟨q33 x o,Zhl (st:=fun (x:t12)=>Ww x.2.1) (prj:=fun x=>(x.1,x.2.2)) (emb:=q35) (embO:=q33) (fun x=>(q36 x).trans (by unfold Ww WO;simp only [Zhd,Zh8,Zhe,Option.map_some,Option.map_none];rfl)) (fun _ _=>rfl) (fun _ _=>rfl) (fun _ _ _=>rfl) (fun _ _ _=>rfl) (fun _=>rfl) (Z1S.1 h1),by
  first
  | exact h2
  | (rcases o with o|o|o|o<;>exact h2)⟩
noncomputable def q39 {R:Type}:Z27 S R:=LE.ls X q32 q34 q2U
theorem q3a {R:Type}:Z3J X (q39 (R:=R)):=Zhq xok q2T (e:=q32) q1 q2V q38 q2V
def q3b:Key:=⟨[64],64,none,[0,0,1,0,1,1,1,1,1],2,21⟩
def q3c:StT S:=⟨(N (N L (some (.ptr 0 0)) (N (N L vO L) (some (.rs 21 0)) L)) none L),(N (N L none o1u) oj L),22⟩
def q3d:Way S:=⟨.ret,⟨v1n,o16,62⟩,[.int,.int,.int,(.lst .str),(.lst .str),(.st 8)]⟩
def q3e:Way S:=⟨.ret,⟨v1n,o16,55⟩,[.int,.int,.int,(.lst .str),(.lst .str),(.st 8)]⟩
def q3f:Way S:=⟨(.exit 2),⟨L,(N (N L none o1u) oj L),27⟩,[(.lst .str),(.st 8)]⟩
def q3g:LE S:=⟨q3b,q3c,[.int,(.lst .str),(.st 8)],[q3d,q3e,q3f]⟩
def q3h (x:t13):((Int×Int×Int×(List ByteArray)×(List ByteArray))⊕(Int×Int×Int×(List ByteArray)×(List ByteArray))⊕(List ByteArray))→ta:=Sum.elim (fun y0=>(.inl (y0.1,y0.2.1,y0.2.2.1,y0.2.2.2.1,y0.2.2.2.2,x.2.2))) (Sum.elim (fun y1=>(.inr (.inl (y1.1,y1.2.1,y1.2.2.1,y1.2.2.2.1,y1.2.2.2.2,x.2.2)))) (fun y2=>(.inr (.inr (y2,x.2.2)))))
noncomputable def q3i {R:Type} (x:t13) (k:ta→Option R):Option R:=(X21 x.2.2 (x.1,x.2.1)).bind (Sum.elim (fun y0=>k (.inl (y0.1,y0.2.1,y0.2.2.1,y0.2.2.2.1,y0.2.2.2.2,x.2.2))) (Sum.elim (fun y1=>k (.inr (.inl (y1.1,y1.2.1,y1.2.2.1,y1.2.2.2.1,y1.2.2.2.2,x.2.2)))) (fun y2=>k (.inr (.inr (y2,x.2.2))))))
def q3j (x:t13) (v:(Int×(List ByteArray))):t13:=(v.1,v.2,x.2.2)
theorem q3k (x:t13):LE.step X q3g q2S q0 q39 12 x=WP x.2.2 x.1 x.2.1 (fun w0 w1=>(Sum.inl (w0,w1,x.2.2))) (fun p0 p1 p2 p3 p4=>(Sum.inr (.inl (p0,p1,p2,p3,p4,x.2.2)))) (fun p0 p1 p2 p3 p4=>(Sum.inr (.inr (.inl (p0,p1,p2,p3,p4,x.2.2))))) (fun p0=>(Sum.inr (.inr (.inr (p0,x.2.2))))):=by kernel_rfl
theorem q3m {R:Type} (x:t13) (k:ta→Option R) (r:R) (h:q3i x k=some r):∃ o,Z5s (LE.step X q3g q2S q0 q39 12) x o∧k o=some r:=by
 obtain ⟨o,h1,h2⟩:=Z0 h
 exact ⟨q3h x o,Zhl (st:=fun (x:t13)=>Wx x.2.2) (prj:=fun x=>(x.1,x.2.1)) (emb:=q3j) (embO:=q3h) (fun x=>(q3k x).trans (by unfold Wx WP;simp only [Zhd,Zh8,Zhe,Option.map_some,Option.map_none];rfl)) (fun _ _=>rfl) (fun _ _=>rfl) (fun _ _ _=>rfl) (fun _ _ _=>rfl) (fun _=>rfl) (Z1S.1 h1),by
  first
  | exact h2
  | (rcases o with o|o|o<;>exact h2)⟩
noncomputable def q3n {R:Type}:Z27 S R:=LE.ls X q3g q3i q39
theorem q3o {R:Type}:Z3J X (q3n (R:=R)):=Zhq xok q2T (e:=q3g) q1 q3a q3m q3a
theorem q3p (x0:Zl):Zhs X q2S [(.st 8)] [(.int .i64),(.int .i64),(.int .i64)] q0 q3n 12 64 (x0,())=X3F x0:=by kernel_rfl
noncomputable def q3q:F7 S:=⟨[(.st 8)],[(.int .i64),(.int .i64),(.int .i64)],fun xs=>X3F xs.1⟩
theorem q3r:Z7Q X 64 q3q:=Zho (Zhn xok q2T q1 q3o 12 64) fun xs _ h=>(q3p xs.1).trans h
noncomputable def q3s:List (Nat×F7 S):=[]
theorem q3t:Z9n X (q3s):=trivial
abbrev q3u {R:Type}:Z27 S R:=Zgi
theorem q3v {R:Type}:Z3J X (q3u (R:=R)):=ZgQ X
theorem q3w (x0:Int) (x1:Int) (x2:Int):Zhs X q3s [(.int .i64),(.int .i64),(.int .i64)] [.bool] q0 q3u 12 65 (x0,x1,x2,())=X3n x0 x1 x2:=by kernel_rfl
noncomputable def q3x:F7 S:=⟨[(.int .i64),(.int .i64),(.int .i64)],[.bool],fun xs=>X1T xs.1 xs.2.1 xs.2.2.1⟩
theorem q3y:Z7Q X 65 q3x:=Zho (Zhn xok q3t q1 q3v 12 65) fun xs _ h=>((q3w xs.1 xs.2.1 xs.2.2.1).trans (X6u xs.1 xs.2.1 xs.2.2.1).symm).trans h
noncomputable def q3z:List (Nat×F7 S):=[]
theorem q3A:Z9n X (q3z):=trivial
abbrev q3B {R:Type}:Z27 S R:=Zgi
theorem q3C {R:Type}:Z3J X (q3B (R:=R)):=ZgQ X
theorem q3D (x0:Z5):Zhs X q3z [(.st 18)] [(.int .i64)] q0 q3B 12 68 (x0,())=X2F x0:=by kernel_rfl
noncomputable def q3E:F7 S:=⟨[(.st 18)],[(.int .i64)],fun xs=>X4K xs.1⟩
theorem q3F:Z7Q X 68 q3E:=Zho (Zhn xok q3A q1 q3C 12 68) fun xs _ h=>((q3D xs.1).trans (X66 xs.1).symm).trans h
noncomputable def q3G:List (Nat×F7 S):=[(87,q1E)]
theorem q3H:Z9n X (q3G):=⟨q1F,trivial⟩
abbrev q3I {R:Type}:Z27 S R:=Zgi
theorem q3J {R:Type}:Z3J X (q3I (R:=R)):=ZgQ X
theorem q3K (x0:ZE) (x1:Int) (x2:Int):Zhs X q3G [(.st 5),(.int .i64),(.int .i64)] [(.int .i64)] q0 q3I 12 67 (x0,x1,x2,())=X2W x0 x1 x2:=by kernel_rfl
noncomputable def q3L:F7 S:=⟨[(.st 5),(.int .i64),(.int .i64)],[(.int .i64)],fun xs=>X2W xs.1 xs.2.1 xs.2.2.1⟩
theorem q3M:Z7Q X 67 q3L:=Zho (Zhn xok q3H q1 q3J 12 67) fun xs _ h=>(q3K xs.1 xs.2.1 xs.2.2.1).trans h
noncomputable def q3N:List (Nat×F7 S):=[(87,q1E),(67,q3L),(65,q3x)]
theorem q3O:Z9n X (q3N):=⟨q1F,q3M,q3y,trivial⟩
abbrev q3P {R:Type}:Z27 S R:=Zgi
theorem q3Q {R:Type}:Z3J X (q3P (R:=R)):=ZgQ X
theorem q3R (x0:Zt):Zhs X q3N [(.st 19)] [(.int .i64)] q0 q3P 12 69 (x0,())=X2q x0:=by kernel_rfl
noncomputable def q3S:F7 S:=⟨[(.st 19)],[(.int .i64)],fun xs=>X4V xs.1⟩
theorem q3T:Z7Q X 69 q3S:=Zho (Zhn xok q3O q1 q3Q 12 69) fun xs _ h=>((q3R xs.1).trans (X5N xs.1).symm).trans h
noncomputable def q3U:List (Nat×F7 S):=[(64,q3q),(65,q3x),(66,qS),(68,q3E),(67,q3L),(69,q3S)]
theorem q3V:Z9n X (q3U):=⟨q3r,q3y,qT,q3F,q3M,q3T,trivial⟩
abbrev q3W {R:Type}:Z27 S R:=Zgi
theorem q3X {R:Type}:Z3J X (q3W (R:=R)):=ZgQ X
def q3Y:Key:=⟨[51],51,none,[0,0,1,0,1,1,1,1,1,1],0,39⟩
def q3Z:StT S:=⟨(N (N L (some (.ptr 0 0)) (N (N L vO L) none L)) none (N (N (N L (some (.rs 39 0)) L) none L) none L)),o1h,40⟩
def q40:Way S:=⟨.ret,⟨v1n,oW,81⟩,[.int,.int,.int,(.lst .str),(.st 20),(.lst .str),(.st 18)]⟩
def q41:Way S:=⟨.ret,⟨v1n,oW,72⟩,[.int,.int,.int,(.lst .str),(.st 20),(.lst .str),(.st 18)]⟩
def q42:Way S:=⟨(.exit 0),⟨(N (N L (some (.ptr 0 0)) L) none L),o1h,45⟩,[(.lst .str),(.st 20)]⟩
def q43:LE S:=⟨q3Y,q3Z,[.int,(.lst .str),(.st 20)],[q40,q41,q42]⟩
def q44 (x:t17):((Int×Int×Int×(List ByteArray)×(List ByteArray)×Z5)⊕(Int×Int×Int×(List ByteArray)×(List ByteArray)×Z5)⊕(List ByteArray))→t8:=Sum.elim (fun y0=>(.inl (y0.1,y0.2.1,y0.2.2.1,y0.2.2.2.1,x.2.2,y0.2.2.2.2.1,y0.2.2.2.2.2))) (Sum.elim (fun y1=>(.inr (.inl (y1.1,y1.2.1,y1.2.2.1,y1.2.2.2.1,x.2.2,y1.2.2.2.2.1,y1.2.2.2.2.2)))) (fun y2=>(.inr (.inr (y2,x.2.2)))))
noncomputable def q45 {R:Type} (x:t17) (k:t8→Option R):Option R:=(X2O x.2.2 (x.1,x.2.1)).bind (Sum.elim (fun y0=>k (.inl (y0.1,y0.2.1,y0.2.2.1,y0.2.2.2.1,x.2.2,y0.2.2.2.2.1,y0.2.2.2.2.2))) (Sum.elim (fun y1=>k (.inr (.inl (y1.1,y1.2.1,y1.2.2.1,y1.2.2.2.1,x.2.2,y1.2.2.2.2.1,y1.2.2.2.2.2)))) (fun y2=>k (.inr (.inr (y2,x.2.2))))))
def q46 (x:t17) (v:(Int×(List ByteArray))):t17:=(v.1,v.2,x.2.2)
theorem q47 (x:t17):LE.step X q43 q3U q0 q3W 12 x=WU x.2.2 x.1 x.2.1 (fun w0 w1=>(Sum.inl (w0,w1,x.2.2))) (fun p0 p1 p2 p3 p4 p5=>(Sum.inr (.inl (p0,p1,p2,p3,x.2.2,p4,p5)))) (fun p0 p1 p2 p3 p4 p5=>(Sum.inr (.inr (.inl (p0,p1,p2,p3,x.2.2,p4,p5))))) (fun p0=>(Sum.inr (.inr (.inr (p0,x.2.2))))):=by kernel_rfl
theorem q49 {R:Type} (x:t17) (k:t8→Option R) (r:R) (h:q45 x k=some r):∃ o,Z5s (LE.step X q43 q3U q0 q3W 12) x o∧k o=some r:=by
 obtain ⟨o,h1,h2⟩:=Z0 h
 exact ⟨q44 x o,Zhl (st:=fun (x:t17)=>WB x.2.2) (prj:=fun x=>(x.1,x.2.1)) (emb:=q46) (embO:=q44) (fun x=>(q47 x).trans (by unfold WB WU;simp only [Zhd,Zh8,Zhe,Option.map_some,Option.map_none];rfl)) (fun _ _=>rfl) (fun _ _=>rfl) (fun _ _ _=>rfl) (fun _ _ _=>rfl) (fun _=>rfl) (Z1S.1 h1),by
  first
  | exact h2
  | (rcases o with o|o|o<;>exact h2)⟩
noncomputable def q4a {R:Type}:Z27 S R:=LE.ls X q43 q45 q3W
theorem q4b {R:Type}:Z3J X (q4a (R:=R)):=Zhq xok q3V (e:=q43) q1 q3X q49 q3X
def q4c:Key:=⟨[51],51,none,[0,0,1,0,1,1,1,1,1,1,1,1],2,50⟩
def q4d:StT S:=⟨(N (N (N L none (N L vO L)) (some (.ptr 0 0)) L) none L),o1h,50⟩
def q4e:Way S:=⟨.ret,⟨v1n,o1h,69⟩,[.int,.int,.int,(.lst .str),(.st 20)]⟩
def q4f:Way S:=⟨(.exit 2),⟨L,o1h,55⟩,[(.lst .str),(.st 20)]⟩
def q4g:LE S:=⟨q4c,q4d,[.int,(.lst .str),(.st 20)],[q4e,q4f]⟩
def q4h (x:t17):((Int×Int×Int)⊕Unit)→tF:=Sum.elim (fun y0=>(.inl (y0.1,y0.2.1,y0.2.2,x.2.1,x.2.2))) (fun y1=>(.inr (x.2.1,x.2.2)))
noncomputable def q4i {R:Type} (x:t17) (k:tF→Option R):Option R:=(X2P x.2.2 x.1).bind (Sum.elim (fun y0=>k (.inl (y0.1,y0.2.1,y0.2.2,x.2.1,x.2.2))) (fun y1=>k (.inr (x.2.1,x.2.2))))
def q4j (x:t17) (v:Int):t17:=(v,x.2.1,x.2.2)
theorem q4k (x:t17):LE.step X q4g q3U q0 q4a 12 x=WV x.2.2 x.1 (fun w0=>(Sum.inl (w0,x.2.1,x.2.2))) (fun p0 p1 p2=>(Sum.inr (.inl (p0,p1,p2,x.2.1,x.2.2)))) (Sum.inr (.inr (x.2.1,x.2.2))):=by kernel_rfl
theorem q4m {R:Type} (x:t17) (k:tF→Option R) (r:R) (h:q4i x k=some r):∃ o,Z5s (LE.step X q4g q3U q0 q4a 12) x o∧k o=some r:=by
 obtain ⟨o,h1,h2⟩:=Z0 h
 exact ⟨q4h x o,Zhl (st:=fun (x:t17)=>WC x.2.2) (prj:=fun x=>x.1) (emb:=q4j) (embO:=q4h) (fun x=>(q4k x).trans (by unfold WC WV;simp only [Zhd,Zh8,Zhe,Option.map_some,Option.map_none];rfl)) (fun _ _=>rfl) (fun _ _=>rfl) (fun _ _ _=>rfl) (fun _ _ _=>rfl) (fun _=>rfl) (Z1S.1 h1),by
  first
  | exact h2
  | (rcases o with o|o<;>exact h2)⟩
noncomputable def q4n {R:Type}:Z27 S R:=LE.ls X q4g q4i q4a
theorem q4o {R:Type}:Z3J X (q4n (R:=R)):=Zhq xok q3V (e:=q4g) q1 q4b q4m q4b
theorem q4p (x0:ZJ):Zhs X q3U [(.st 20)] [(.int .i64),(.int .i64),(.int .i64)] q0 q4n 12 51 (x0,())=X29 x0:=by kernel_rfl
noncomputable def q4q:F7 S:=⟨[(.st 20)],[(.int .i64),(.int .i64),(.int .i64)],fun xs=>X4r xs.1⟩
theorem q4r:Z7Q X 51 q4q:=Zho (Zhn xok q3V q1 q4o 12 51) fun xs _ h=>((q4p xs.1).trans (X5p xs.1).symm).trans h
noncomputable def q4s:List (Nat×F7 S):=[]
theorem q4t:Z9n X (q4s):=trivial
abbrev q4u {R:Type}:Z27 S R:=Zgi
theorem q4v {R:Type}:Z3J X (q4u (R:=R)):=ZgQ X
def q4w:Key:=⟨[30],30,none,[0,0,1,0,1,1],0,4⟩
def q4x:StT S:=⟨(N (N L vO (N L vO L)) none (N L (some (.ptr 0 0)) (N L vO L))),(N L ok L),4⟩
def q4y:Way S:=⟨(.exit 0),⟨v1v,(N L ok L),9⟩,[.int,(.st 4)]⟩
def q4z:LE S:=⟨q4w,q4x,[.int,.int,.int,(.st 4)],[q4y]⟩
def q4A (x:t1d):Int→(Int×Zw):=fun y0=>(y0,x.2.2.2)
noncomputable def q4B {R:Type} (x:t1d) (k:(Int×Zw)→Option R):Option R:=(X3G x.1 x.2.2.2 (x.2.1,x.2.2.1)).bind (fun y0=>k (y0,x.2.2.2))
def q4C (x:t1d) (v:(Int×Int)):t1d:=(x.1,v.1,v.2,x.2.2.2)
theorem q4D (x:t1d):LE.step X q4z q4s q0 q4u 12 x=W2 x.1 x.2.2.2 x.2.1 x.2.2.1 (fun w0 w1=>(Sum.inl (x.1,w0,w1,x.2.2.2))) (fun p0=>(Sum.inr (p0,x.2.2.2))):=by kernel_rfl
theorem q4F {R:Type} (x:t1d) (k:(Int×Zw)→Option R) (r:R) (h:q4B x k=some r):∃ o,Z5s (LE.step X q4z q4s q0 q4u 12) x o∧k o=some r:=by
 obtain ⟨o,h1,h2⟩:=Z0 h
 exact ⟨q4A x o,Zhl (st:=fun (x:t1d)=>XZ x.1 x.2.2.2) (prj:=fun x=>(x.2.1,x.2.2.1)) (emb:=q4C) (embO:=q4A) (fun x=>(q4D x).trans (by unfold XZ W2;simp only [Zhd,Zh8,Zhe,Option.map_some,Option.map_none];rfl)) (fun _ _=>rfl) (fun _ _=>rfl) (fun _ _ _=>rfl) (fun _ _ _=>rfl) (fun _=>rfl) (Z1S.1 h1),by
  first
  | exact h2
  | (rcases o with o<;>exact h2)⟩
noncomputable def q4G {R:Type}:Z27 S R:=LE.ls X q4z q4B q4u
theorem q4H {R:Type}:Z3J X (q4G (R:=R)):=Zhq xok q4t (e:=q4z) q1 q4v q4F q4v
theorem q4I (x0:Zw) (x1:Int):Zhs X q4s [(.st 4),(.int .i64)] [(.int .i64)] q0 q4G 12 30 (x0,x1,())=X1y x0 x1:=by kernel_rfl
noncomputable def q4J:F7 S:=⟨[(.st 4),(.int .i64)],[(.int .i64)],fun xs=>X3B xs.1 xs.2.1⟩
theorem q4K:Z7Q X 30 q4J:=Zho (Zhn xok q4t q1 q4H 12 30) fun xs _ h=>((q4I xs.1 xs.2.1).trans (X4I xs.1 xs.2.1).symm).trans h
noncomputable def q4L:List (Nat×F7 S):=[(65,q3x),(30,q4J)]
theorem q4M:Z9n X (q4L):=⟨q3y,q4K,trivial⟩
abbrev q4N {R:Type}:Z27 S R:=Zgi
theorem q4O {R:Type}:Z3J X (q4N (R:=R)):=ZgQ X
theorem q4P (x0:ZJ) (x1:Zm):Zhs X q4L [(.st 20),(.st 21)] [(.int .i64)] q0 q4N 12 60 (x0,x1,())=X2a x0 x1:=by kernel_rfl
noncomputable def q4Q:F7 S:=⟨[(.st 20),(.st 21)],[(.int .i64)],fun xs=>X4s xs.1 xs.2.1⟩
theorem q4R:Z7Q X 60 q4Q:=Zho (Zhn xok q4M q1 q4O 12 60) fun xs _ h=>((q4P xs.1 xs.2.1).trans (X5r xs.1 xs.2.1).symm).trans h
noncomputable def q4S:List (Nat×F7 S):=[(51,q4q),(60,q4Q)]
theorem q4T:Z9n X (q4S):=⟨q4r,q4R,trivial⟩
abbrev q4U {R:Type}:Z27 S R:=Zgi
theorem q4V {R:Type}:Z3J X (q4U (R:=R)):=ZgQ X
def q4W:Key:=⟨[45],45,none,[0,0,1,0,1,1,1,1],0,22⟩
def q4X:StT S:=⟨(N (N L vL (N (N L vO L) none L)) none (N L (some (.ptr 0 0)) L)),(N L oc L),22⟩
def q4Y:Way S:=⟨.ret,⟨v1m,(N L oc L),39⟩,[.int,.int,(.st 20)]⟩
def q4Z:Way S:=⟨(.exit 0),⟨L,(N L oc L),26⟩,[(.st 20)]⟩
def q50:LE S:=⟨q4W,q4X,[(.lst (.st 21)),.int,(.st 20)],[q4Y,q4Z]⟩
def q51 (x:t1a):((Int×Int)⊕Unit)→((Int×Int×ZJ)⊕ZJ):=Sum.elim (fun y0=>(.inl (y0.1,y0.2,x.2.2))) (fun y1=>(.inr x.2.2))
noncomputable def q52 {R:Type} (x:t1a) (k:((Int×Int×ZJ)⊕ZJ)→Option R):Option R:=(X1B x.1 x.2.2 x.2.1).bind (Sum.elim (fun y0=>k (.inl (y0.1,y0.2,x.2.2))) (fun y1=>k (.inr x.2.2)))
def q53 (x:t1a) (v:Int):t1a:=(x.1,v,x.2.2)
theorem q54 (x:t1a):LE.step X q50 q4S q0 q4U 12 x=Xq x.1 x.2.2 x.2.1 (fun w0=>(Sum.inl (x.1,w0,x.2.2))) (fun p0 p1=>(Sum.inr (.inl (p0,p1,x.2.2)))) (Sum.inr (.inr x.2.2)):=by kernel_rfl
theorem q56 {R:Type} (x:t1a) (k:((Int×Int×ZJ)⊕ZJ)→Option R) (r:R) (h:q52 x k=some r):∃ o,Z5s (LE.step X q50 q4S q0 q4U 12) x o∧k o=some r:=by
 obtain ⟨o,h1,h2⟩:=Z0 h
 exact ⟨q51 x o,Zhl (st:=fun (x:t1a)=>Xj x.1 x.2.2) (prj:=fun x=>x.2.1) (emb:=q53) (embO:=q51) (fun x=>(q54 x).trans (by unfold Xj Xq;simp only [Zhd,Zh8,Zhe,Option.map_some,Option.map_none];rfl)) (fun _ _=>rfl) (fun _ _=>rfl) (fun _ _ _=>rfl) (fun _ _ _=>rfl) (fun _=>rfl) (Z1S.1 h1),by
  first
  | exact h2
  | (rcases o with o|o<;>exact h2)⟩
noncomputable def q57 {R:Type}:Z27 S R:=LE.ls X q50 q52 q4U
theorem q58 {R:Type}:Z3J X (q57 (R:=R)):=Zhq xok q4T (e:=q50) q1 q4V q56 q4V
theorem q59 (x0:ZJ) (x1:List Zm):Zhs X q4S [(.st 20),(.sl (.st 21))] [(.int .i64),(.int .i64)] q0 q57 12 45 (x0,x1,())=W3 x0 x1:=by kernel_rfl
noncomputable def q5a:F7 S:=⟨[(.st 20),(.sl (.st 21))],[(.int .i64),(.int .i64)],fun xs=>X2f xs.1 xs.2.1⟩
theorem q5b:Z7Q X 45 q5a:=Zho (Zhn xok q4T q1 q58 12 45) fun xs _ h=>((q59 xs.1 xs.2.1).trans (X3I xs.1 xs.2.1).symm).trans h
noncomputable def q5c:List (Nat×F7 S):=[(45,q5a)]
theorem q5d:Z9n X (q5c):=⟨q5b,trivial⟩
abbrev q5e {R:Type}:Z27 S R:=Zgi
theorem q5f {R:Type}:Z3J X (q5e (R:=R)):=ZgQ X
theorem q5g (x0:ZJ) (x1:List Zm):Zhs X q5c [(.st 20),(.sl (.st 21))] [.bool] q0 q5e 12 22 (x0,x1,())=X2m x0 x1:=by kernel_rfl
noncomputable def q5h:F7 S:=⟨[(.st 20),(.sl (.st 21))],[.bool],fun xs=>X4U xs.1 xs.2.1⟩
theorem q5i:Z7Q X 22 q5h:=Zho (Zhn xok q5d q1 q5f 12 22) fun xs _ h=>((q5g xs.1 xs.2.1).trans (X5J xs.1 xs.2.1).symm).trans h
noncomputable def q5j:List (Nat×F7 S):=[]
theorem q5k:Z9n X (q5j):=trivial
abbrev q5l {R:Type}:Z27 S R:=Zgi
theorem q5m {R:Type}:Z3J X (q5l (R:=R)):=ZgQ X
def q5n:Key:=⟨[102],102,none,[0,0,1,0,1,1],0,4⟩
def q5o:StT S:=⟨(N (N (N (N L (some (.iter 3)) L) (some (.int .i32 0)) L) none L) vG L),o1w,4⟩
def q5p:Way S:=⟨.ret,⟨(N L none (N L vP L)),o1w,23⟩,[.bool,.str,.nat]⟩
def q5q:Way S:=⟨(.exit 0),⟨(N (N (N L (some (.int .i32 0)) L) none L) vG L),o1w,6⟩,[.int,.str,.str,.nat]⟩
def q5r:LE S:=⟨q5n,q5o,[.int,.str,.str,.nat],[q5p,q5q]⟩
def q5s (x:tY):((Bool×Nat)⊕(Int×Nat))→tI:=Sum.elim (fun y0=>(.inl (y0.1,x.2.2.1,y0.2))) (fun y1=>(.inr (y1.1,x.2.1,x.2.2.1,y1.2)))
noncomputable def q5t {R:Type} (x:tY) (k:tI→Option R):Option R:=(X4d x.2.1 x.2.2.1 (x.1,x.2.2.2)).bind (Sum.elim (fun y0=>k (.inl (y0.1,x.2.2.1,y0.2))) (fun y1=>k (.inr (y1.1,x.2.1,x.2.2.1,y1.2))))
def q5u (x:tY) (v:(Int×Nat)):tY:=(v.1,x.2.1,x.2.2.1,v.2)
theorem q5v (x:tY):LE.step X q5r q5j q0 q5l 12 x=X13 x.2.1 x.2.2.1 x.1 x.2.2.2 (fun w0 w1=>(Sum.inl (w0,x.2.1,x.2.2.1,w1))) (fun p0 p1=>(Sum.inr (.inl (p0,x.2.2.1,p1)))) (fun p0 p1=>(Sum.inr (.inr (p0,x.2.1,x.2.2.1,p1)))):=by kernel_rfl
theorem q5x {R:Type} (x:tY) (k:tI→Option R) (r:R) (h:q5t x k=some r):∃ o,Z5s (LE.step X q5r q5j q0 q5l 12) x o∧k o=some r:=by
 obtain ⟨o,h1,h2⟩:=Z0 h
 exact ⟨q5s x o,Zhl (st:=fun (x:tY)=>X10 x.2.1 x.2.2.1) (prj:=fun x=>(x.1,x.2.2.2)) (emb:=q5u) (embO:=q5s) (fun x=>(q5v x).trans (by unfold X10 X13;simp only [Zhd,Zh8,Zhe,Option.map_some,Option.map_none];rfl)) (fun _ _=>rfl) (fun _ _=>rfl) (fun _ _ _=>rfl) (fun _ _ _=>rfl) (fun _=>rfl) (Z1S.1 h1),by
  first
  | exact h2
  | (rcases o with o|o<;>exact h2)⟩
noncomputable def q5y {R:Type}:Z27 S R:=LE.ls X q5r q5t q5l
theorem q5z {R:Type}:Z3J X (q5y (R:=R)):=Zhq xok q5k (e:=q5r) q1 q5m q5x q5m
theorem q5A (x0:ByteArray):Zhs X q5j [.str] [.bool] q0 q5y 12 102 (x0,())=X2J x0:=by kernel_rfl
noncomputable def q5B:F7 S:=⟨[.str],[.bool],fun xs=>X2J xs.1⟩
theorem q5C:Z7Q X 102 q5B:=Zho (Zhn xok q5k q1 q5z 12 102) fun xs _ h=>(q5A xs.1).trans h
noncomputable def q5D:List (Nat×F7 S):=[]
theorem q5E:Z9n X (q5D):=trivial
abbrev q5F {R:Type}:Z27 S R:=Zgi
theorem q5G {R:Type}:Z3J X (q5F (R:=R)):=ZgQ X
def q5H:Key:=⟨[81,2,1,58,2,1,73],81,none,[0,0,1,0,1],0,17⟩
def q5I:StT S:=⟨(N (N (N (N L vO L) none L) (some (.fn (.func 91) [] [(.ptr 0 0),(.ptr 1 0)])) L) vK v1t),(N (N L ox L) ox L),17⟩
def q5J:Way S:=⟨.ret,⟨v1s,(N (N L ox L) ox L),38⟩,[.int,.int,.int]⟩
def q5K:Way S:=⟨(.exit 0),⟨L,(N (N L ox L) ox L),18⟩,[.int,.int]⟩
def q5L:LE S:=⟨q5H,q5I,[.int,(.lst (.int .i64)),.int,.int,.int],[q5J,q5K]⟩
def q5M (x:tX):(Int⊕Unit)→t14:=Sum.elim (fun y0=>(.inl (y0,x.2.2.2.1,x.2.2.2.2))) (fun y1=>(.inr (x.2.2.2.1,x.2.2.2.2)))
noncomputable def q5N {R:Type} (x:tX) (k:t14→Option R):Option R:=(X4F x.1 x.2.1 x.2.2.2.1 x.2.2.2.2 x.2.2.1).bind (Sum.elim (fun y0=>k (.inl (y0,x.2.2.2.1,x.2.2.2.2))) (fun y1=>k (.inr (x.2.2.2.1,x.2.2.2.2))))
def q5O (x:tX) (v:Int):tX:=(x.1,x.2.1,v,x.2.2.2.1,x.2.2.2.2)
theorem q5P (x:tX):LE.step X q5L q5D q0 q5F 12 x=X1s x.1 x.2.1 x.2.2.2.1 x.2.2.2.2 x.2.2.1 (fun w0=>(Sum.inl (x.1,x.2.1,w0,x.2.2.2.1,x.2.2.2.2))) (fun p0=>(Sum.inr (.inl (p0,x.2.2.2.1,x.2.2.2.2)))) (Sum.inr (.inr (x.2.2.2.1,x.2.2.2.2))):=by kernel_rfl
theorem q5R {R:Type} (x:tX) (k:t14→Option R) (r:R) (h:q5N x k=some r):∃ o,Z5s (LE.step X q5L q5D q0 q5F 12) x o∧k o=some r:=by
 obtain ⟨o,h1,h2⟩:=Z0 h
 exact ⟨q5M x o,Zhl (st:=fun (x:tX)=>X1n x.1 x.2.1 x.2.2.2.1 x.2.2.2.2) (prj:=fun x=>x.2.2.1) (emb:=q5O) (embO:=q5M) (fun x=>(q5P x).trans (by unfold X1n X1s;simp only [Zhd,Zh8,Zhe,Option.map_some,Option.map_none];rfl)) (fun _ _=>rfl) (fun _ _=>rfl) (fun _ _ _=>rfl) (fun _ _ _=>rfl) (fun _=>rfl) (Z1S.1 h1),by
  first
  | exact h2
  | (rcases o with o|o<;>exact h2)⟩
noncomputable def q5S {R:Type}:Z27 S R:=LE.ls X q5L q5N q5F
theorem q5T {R:Type}:Z3J X (q5S (R:=R)):=Zhq xok q5E (e:=q5L) q1 q5G q5R q5G
theorem q5U (x0:Int) (x1:Int) (x2:List Int):Zhs X q5D [(.int .i64),(.int .i64),(.sl (.int .i64))] [.bool] q0 q5S 12 73 (x0,x1,x2,())=X1m x0 x1 x2:=by kernel_rfl
noncomputable def q5V:F7 S:=⟨[(.int .i64),(.int .i64),(.sl (.int .i64))],[.bool],fun xs=>X1m xs.1 xs.2.1 xs.2.2.1⟩
theorem q5W:Z7Q X 73 q5V:=Zho (Zhn xok q5E q1 q5T 12 73) fun xs _ h=>(q5U xs.1 xs.2.1 xs.2.2.1).trans h
noncomputable def q5X:List (Nat×F7 S):=[(73,q5V)]
theorem q5Y:Z9n X (q5X):=⟨q5W,trivial⟩
abbrev q5Z {R:Type}:Z27 S R:=Zgi
theorem q60 {R:Type}:Z3J X (q5Z (R:=R)):=ZgQ X
def q61:Key:=⟨[90,2,1,71,2,1,53],90,none,[0,0,1,0,1],0,16⟩
def q62:StT S:=⟨(N (N (N (N L vO L) none L) (some (.fn (.func 72) [] [(.ptr 0 0)])) L) vN v1t),(N L ox L),16⟩
def q63:Way S:=⟨.ret,⟨v1s,(N (N L none (N (N L none (N L ol L)) none L)) ox (N L none (N o1x none L))),39⟩,[.int,(.st 2),.int,(.lst (.int .i64))]⟩
def q64:Way S:=⟨(.exit 0),⟨L,(N L ox L),17⟩,[.int]⟩
def q65:LE S:=⟨q61,q62,[.int,(.lst (.st 2)),.int,.int],[q63,q64]⟩
def q66 (x:t18):((Int×Zu×(List Int))⊕Unit)→((Int×Zu×Int×(List Int))⊕Int):=Sum.elim (fun y0=>(.inl (y0.1,y0.2.1,x.2.2.2,y0.2.2))) (fun y1=>(.inr x.2.2.2))
noncomputable def q67 {R:Type} (x:t18) (k:((Int×Zu×Int×(List Int))⊕Int)→Option R):Option R:=(X4D x.1 x.2.1 x.2.2.2 x.2.2.1).bind (Sum.elim (fun y0=>k (.inl (y0.1,y0.2.1,x.2.2.2,y0.2.2))) (fun y1=>k (.inr x.2.2.2)))
def q68 (x:t18) (v:Int):t18:=(x.1,x.2.1,v,x.2.2.2)
theorem q69 (x:t18):LE.step X q65 q5X q0 q5Z 12 x=X1r x.1 x.2.1 x.2.2.2 x.2.2.1 (fun w0=>(Sum.inl (x.1,x.2.1,w0,x.2.2.2))) (fun p0 p1 p2=>(Sum.inr (.inl (p0,p1,x.2.2.2,p2)))) (Sum.inr (.inr x.2.2.2)):=by kernel_rfl
theorem q6b {R:Type} (x:t18) (k:((Int×Zu×Int×(List Int))⊕Int)→Option R) (r:R) (h:q67 x k=some r):∃ o,Z5s (LE.step X q65 q5X q0 q5Z 12) x o∧k o=some r:=by
 obtain ⟨o,h1,h2⟩:=Z0 h
 exact ⟨q66 x o,Zhl (st:=fun (x:t18)=>X1l x.1 x.2.1 x.2.2.2) (prj:=fun x=>x.2.2.1) (emb:=q68) (embO:=q66) (fun x=>(q69 x).trans (by unfold X1l X1r;simp only [Zhd,Zh8,Zhe,Option.map_some,Option.map_none];rfl)) (fun _ _=>rfl) (fun _ _=>rfl) (fun _ _ _=>rfl) (fun _ _ _=>rfl) (fun _=>rfl) (Z1S.1 h1),by
  first
  | exact h2
  | (rcases o with o|o<;>exact h2)⟩
noncomputable def q6c {R:Type}:Z27 S R:=LE.ls X q65 q67 q5Z
theorem q6d {R:Type}:Z3J X (q6c (R:=R)):=Zhq xok q5Y (e:=q65) q1 q60 q6b q60
theorem q6e (x0:Int) (x1:List Zu):Zhs X q5X [(.int .i64),(.sl (.st 2))] [.bool] q0 q6c 12 53 (x0,x1,())=X3U x0 x1:=by kernel_rfl
noncomputable def q6f:F7 S:=⟨[(.int .i64),(.sl (.st 2))],[.bool],fun xs=>X3U xs.1 xs.2.1⟩
theorem q6g:Z7Q X 53 q6f:=Zho (Zhn xok q5Y q1 q6d 12 53) fun xs _ h=>(q6e xs.1 xs.2.1).trans h
noncomputable def q6h:List (Nat×F7 S):=[(73,q5V)]
theorem q6i:Z9n X (q6h):=⟨q5W,trivial⟩
abbrev q6j {R:Type}:Z27 S R:=Zgi
theorem q6k {R:Type}:Z3J X (q6j (R:=R)):=ZgQ X
def q6l:Key:=⟨[103],103,none,[0,0,1,0,1,1,1],0,9⟩
def q6m:StT S:=⟨(N (N (N L vO (N L vO L)) none L) none (N (N L none (N L vO L)) none (N (N L (some (.sl (.st 3) [])) L) none L))),o1x,9⟩
def q6n:Way S:=⟨.ret,⟨(N L none (N L vO L)),(N (N (N L ou L) none L) none (N (N (N (N L ou L) none L) none (N L om L)) none L)),26⟩,[.int,(.lst (.int .i64)),(.lst (.int .i64)),(.st 3)]⟩
def q6o:Way S:=⟨.ret,⟨(N L none (N L vO L)),o11,26⟩,[.int,(.lst (.int .i64)),(.lst (.int .i64)),(.lst (.int .i64)),(.st 3)]⟩
def q6p:Way S:=⟨.ret,⟨(N L none (N L vO L)),o11,31⟩,[.int,(.lst (.int .i64)),(.lst (.int .i64)),(.lst (.int .i64)),(.st 3)]⟩
def q6q:Way S:=⟨(.exit 0),⟨L,o1x,10⟩,[(.lst (.int .i64))]⟩
def q6r:LE S:=⟨q6l,q6m,[.int,.int,.int,(.lst (.st 3)),(.lst (.int .i64))],[q6n,q6o,q6p,q6q]⟩
def q6s (x:tT):((Int×(List Int)×Zk)⊕(Int×(List Int)×(List Int)×Zk)⊕(Int×(List Int)×(List Int)×Zk)⊕Unit)→t9:=Sum.elim (fun y0=>(.inl (y0.1,x.2.2.2.2,y0.2.1,y0.2.2))) (Sum.elim (fun y1=>(.inr (.inl (y1.1,x.2.2.2.2,y1.2.1,y1.2.2.1,y1.2.2.2)))) (Sum.elim (fun y2=>(.inr (.inr (.inl (y2.1,x.2.2.2.2,y2.2.1,y2.2.2.1,y2.2.2.2))))) (fun y3=>(.inr (.inr (.inr x.2.2.2.2))))))
noncomputable def q6t {R:Type} (x:tT) (k:t9→Option R):Option R:=(X3N x.2.1 x.2.2.2.1 x.2.2.2.2 (x.1,x.2.2.1)).bind (Sum.elim (fun y0=>k (.inl (y0.1,x.2.2.2.2,y0.2.1,y0.2.2))) (Sum.elim (fun y1=>k (.inr (.inl (y1.1,x.2.2.2.2,y1.2.1,y1.2.2.1,y1.2.2.2)))) (Sum.elim (fun y2=>k (.inr (.inr (.inl (y2.1,x.2.2.2.2,y2.2.1,y2.2.2.1,y2.2.2.2))))) (fun y3=>k (.inr (.inr (.inr x.2.2.2.2)))))))
def q6u (x:tT) (v:(Int×Int)):tT:=(v.1,x.2.1,v.2,x.2.2.2.1,x.2.2.2.2)
theorem q6v (x:tT):LE.step X q6r q6h q0 q6j 12 x=Wg x.2.1 x.2.2.2.1 x.2.2.2.2 x.1 x.2.2.1 (fun w0 w1=>(Sum.inl (w0,x.2.1,w1,x.2.2.2.1,x.2.2.2.2))) (fun p0 p1 p2=>(Sum.inr (.inl (p0,x.2.2.2.2,p1,p2)))) (fun p0 p1 p2 p3=>(Sum.inr (.inr (.inl (p0,x.2.2.2.2,p1,p2,p3))))) (fun p0 p1 p2 p3=>(Sum.inr (.inr (.inr (.inl (p0,x.2.2.2.2,p1,p2,p3)))))) (Sum.inr (.inr (.inr (.inr x.2.2.2.2)))):=by kernel_rfl
theorem q6x {R:Type} (x:tT) (k:t9→Option R) (r:R) (h:q6t x k=some r):∃ o,Z5s (LE.step X q6r q6h q0 q6j 12) x o∧k o=some r:=by
 obtain ⟨o,h1,h2⟩:=Z0 h
 exact ⟨q6s x o,Zhl (st:=fun (x:tT)=>W5 x.2.1 x.2.2.2.1 x.2.2.2.2) (prj:=fun x=>(x.1,x.2.2.1)) (emb:=q6u) (embO:=q6s) (fun x=>(q6v x).trans (by unfold W5 Wg;simp only [Zhd,Zh8,Zhe,Option.map_some,Option.map_none];rfl)) (fun _ _=>rfl) (fun _ _=>rfl) (fun _ _ _=>rfl) (fun _ _ _=>rfl) (fun _=>rfl) (Z1S.1 h1),by
  first
  | exact h2
  | (rcases o with o|o|o|o<;>exact h2)⟩
noncomputable def q6y {R:Type}:Z27 S R:=LE.ls X q6r q6t q6j
theorem q6z {R:Type}:Z3J X (q6y (R:=R)):=Zhq xok q6i (e:=q6r) q1 q6k q6x q6k
theorem q6A (x0:List Zk):Zhs X q6h [(.sl (.st 3))] [(.int .i64)] q0 q6y 12 103 (x0,())=X30 x0:=by kernel_rfl
noncomputable def q6B:F7 S:=⟨[(.sl (.st 3))],[(.int .i64)],fun xs=>X30 xs.1⟩
theorem q6C:Z7Q X 103 q6B:=Zho (Zhn xok q6i q1 q6z 12 103) fun xs _ h=>(q6A xs.1).trans h
noncomputable def q6D:List (Nat×F7 S):=[(73,q5V)]
theorem q6E:Z9n X (q6D):=⟨q5W,trivial⟩
abbrev q6F {R:Type}:Z27 S R:=Zgi
theorem q6G {R:Type}:Z3J X (q6F (R:=R)):=ZgQ X
theorem q6H (x0:ZB) (x1:Int):Zhs X q6D [(.st 6),(.int .i64)] [(.int .i64)] q0 q6F 12 110 (x0,x1,())=X4C x0 x1:=by kernel_rfl
noncomputable def q6I:F7 S:=⟨[(.st 6),(.int .i64)],[(.int .i64)],fun xs=>X4C xs.1 xs.2.1⟩
theorem q6J:Z7Q X 110 q6I:=Zho (Zhn xok q6E q1 q6G 12 110) fun xs _ h=>(q6H xs.1 xs.2.1).trans h
noncomputable def q6K:List (Nat×F7 S):=[]
theorem q6L:Z9n X (q6K):=trivial
abbrev q6M {R:Type}:Z27 S R:=Zgi
theorem q6N {R:Type}:Z3J X (q6M (R:=R)):=ZgQ X
theorem q6O (x0:Zu) (x1:Zu):Zhs X q6K [(.st 2),(.st 2)] [(.st 2)] q0 q6M 12 55 (x0,x1,())=X6K x0 x1:=by kernel_rfl
noncomputable def q6P:F7 S:=⟨[(.st 2),(.st 2)],[(.st 2)],fun xs=>X6K xs.1 xs.2.1⟩
theorem q6Q:Z7Q X 55 q6P:=Zho (Zhn xok q6L q1 q6N 12 55) fun xs _ h=>(q6O xs.1 xs.2.1).trans h
noncomputable def q6R:List (Nat×F7 S):=[]
theorem q6S:Z9n X (q6R):=trivial
abbrev q6T {R:Type}:Z27 S R:=Zgi
theorem q6U {R:Type}:Z3J X (q6T (R:=R)):=ZgQ X
theorem q6V (x0:Zu) (x1:Zu):Zhs X q6R [(.st 2),(.st 2)] [(.int .i64)] q0 q6T 12 75 (x0,x1,())=X6L x0 x1:=by kernel_rfl
noncomputable def q6W:F7 S:=⟨[(.st 2),(.st 2)],[(.int .i64)],fun xs=>X6L xs.1 xs.2.1⟩
theorem q6X:Z7Q X 75 q6W:=Zho (Zhn xok q6S q1 q6U 12 75) fun xs _ h=>(q6V xs.1 xs.2.1).trans h
noncomputable def q6Y:List (Nat×F7 S):=[(73,q5V),(53,q6f),(110,q6I),(55,q6P),(75,q6W)]
theorem q6Z:Z9n X (q6Y):=⟨q5W,q6g,q6J,q6Q,q6X,trivial⟩
abbrev q70 {R:Type}:Z27 S R:=Zgi
theorem q71 {R:Type}:Z3J X (q70 (R:=R)):=ZgQ X
def q72:Key:=⟨[27,6,4,113,1,104],104,(some 27),[0,0,1,0,1,0,1,0,1,0,1,1,1],3,66⟩
def q73:StT S:=⟨(N (N L none (N v1t vO L)) none (N (N (N (N (N L vN L) none L) none L) (some (.ptr 58 0)) L) (some (.ptr 1 0)) (N v1t none L))),oS,66⟩
def q74:Way S:=⟨(.exit 3),⟨(N (N L none (N L vO L)) none (N (N L (some (.ptr 58 0)) L) (some (.ptr 1 0)) L)),oS,67⟩,[.int,(.st 15),.bool,.int,.bool,(.st 15),.bool,.int,(.st 15),(.st 17)]⟩
def q75:LE S:=⟨q72,q73,[.int,.int,(.lst (.st 2)),.int,(.st 15),.bool,.int,.bool,(.st 15),.bool,.int,(.st 15),(.st 17)],[q74]⟩
def q76 (x:tl):Int→tv:=fun y0=>(y0,x.2.2.2.2.1,x.2.2.2.2.2.1,x.2.2.2.2.2.2.1,x.2.2.2.2.2.2.2.1,x.2.2.2.2.2.2.2.2.1,x.2.2.2.2.2.2.2.2.2.1,x.2.2.2.2.2.2.2.2.2.2.1,x.2.2.2.2.2.2.2.2.2.2.2.1,x.2.2.2.2.2.2.2.2.2.2.2.2)
noncomputable def q77 {R:Type} (x:tl) (k:tv→Option R):Option R:=(Wq x.1 x.2.2.1 x.2.2.2.2.1 x.2.2.2.2.2.1 x.2.2.2.2.2.2.1 x.2.2.2.2.2.2.2.1 x.2.2.2.2.2.2.2.2.1 x.2.2.2.2.2.2.2.2.2.1 x.2.2.2.2.2.2.2.2.2.2.1 x.2.2.2.2.2.2.2.2.2.2.2.1 x.2.2.2.2.2.2.2.2.2.2.2.2 (x.2.1,x.2.2.2.1)).bind (fun y0=>k (y0,x.2.2.2.2.1,x.2.2.2.2.2.1,x.2.2.2.2.2.2.1,x.2.2.2.2.2.2.2.1,x.2.2.2.2.2.2.2.2.1,x.2.2.2.2.2.2.2.2.2.1,x.2.2.2.2.2.2.2.2.2.2.1,x.2.2.2.2.2.2.2.2.2.2.2.1,x.2.2.2.2.2.2.2.2.2.2.2.2))
def q78 (x:tl) (v:(Int×Int)):tl:=(x.1,v.1,x.2.2.1,v.2,x.2.2.2.2.1,x.2.2.2.2.2.1,x.2.2.2.2.2.2.1,x.2.2.2.2.2.2.2.1,x.2.2.2.2.2.2.2.2.1,x.2.2.2.2.2.2.2.2.2.1,x.2.2.2.2.2.2.2.2.2.2.1,x.2.2.2.2.2.2.2.2.2.2.2.1,x.2.2.2.2.2.2.2.2.2.2.2.2)
theorem q79 (x:tl):LE.step X q75 q6Y q0 q70 12 x=Xv x.1 x.2.2.1 x.2.2.2.2.1 x.2.2.2.2.2.1 x.2.2.2.2.2.2.1 x.2.2.2.2.2.2.2.1 x.2.2.2.2.2.2.2.2.1 x.2.2.2.2.2.2.2.2.2.1 x.2.2.2.2.2.2.2.2.2.2.1 x.2.2.2.2.2.2.2.2.2.2.2.1 x.2.2.2.2.2.2.2.2.2.2.2.2 x.2.1 x.2.2.2.1 (fun w0 w1=>(Sum.inl (x.1,w0,x.2.2.1,w1,x.2.2.2.2.1,x.2.2.2.2.2.1,x.2.2.2.2.2.2.1,x.2.2.2.2.2.2.2.1,x.2.2.2.2.2.2.2.2.1,x.2.2.2.2.2.2.2.2.2.1,x.2.2.2.2.2.2.2.2.2.2.1,x.2.2.2.2.2.2.2.2.2.2.2.1,x.2.2.2.2.2.2.2.2.2.2.2.2))) (fun p0=>(Sum.inr (p0,x.2.2.2.2.1,x.2.2.2.2.2.1,x.2.2.2.2.2.2.1,x.2.2.2.2.2.2.2.1,x.2.2.2.2.2.2.2.2.1,x.2.2.2.2.2.2.2.2.2.1,x.2.2.2.2.2.2.2.2.2.2.1,x.2.2.2.2.2.2.2.2.2.2.2.1,x.2.2.2.2.2.2.2.2.2.2.2.2))):=by kernel_rfl
theorem q7b {R:Type} (x:tl) (k:tv→Option R) (r:R) (h:q77 x k=some r):∃ o,Z5s (LE.step X q75 q6Y q0 q70 12) x o∧k o=some r:=by
 obtain ⟨o,h1,h2⟩:=Z0 h
 exact ⟨q76 x o,Zhl (st:=fun (x:tl)=>Xo x.1 x.2.2.1 x.2.2.2.2.1 x.2.2.2.2.2.1 x.2.2.2.2.2.2.1 x.2.2.2.2.2.2.2.1 x.2.2.2.2.2.2.2.2.1 x.2.2.2.2.2.2.2.2.2.1 x.2.2.2.2.2.2.2.2.2.2.1 x.2.2.2.2.2.2.2.2.2.2.2.1 x.2.2.2.2.2.2.2.2.2.2.2.2) (prj:=fun x=>(x.2.1,x.2.2.2.1)) (emb:=q78) (embO:=q76) (fun x=>(q79 x).trans (by unfold Xo Xv;simp only [Zhd,Zh8,Zhe,Option.map_some,Option.map_none];rfl)) (fun _ _=>rfl) (fun _ _=>rfl) (fun _ _ _=>rfl) (fun _ _ _=>rfl) (fun _=>rfl) (Z1S.1 h1),by
  first
  | exact h2
  | (rcases o with o<;>exact h2)⟩
noncomputable def q7c {R:Type}:Z27 S R:=LE.ls X q75 q77 q70
theorem q7d {R:Type}:Z3J X (q7c (R:=R)):=Zhq xok q6Z (e:=q75) q1 q71 q7b q71
def q7e:Key:=⟨[113,1,104],113,none,[0,0,1,1],0,45⟩
def q7f:StT S:=⟨(N (N (N L (some (.ptr 38 0)) (N (N L vO L) none L)) none L) (some (.yld 27)) (N v1s none (N (N (N L vN L) none L) none L))),oT,45⟩
def q7g:Way S:=⟨.ret,⟨L,(N (N (N (N L none (N L oa L)) none (N L none (N L (some (.loop 104 (N (N (N (N (N L vP L) none L) vO L) (some (.ptr 0 0)) (N (N L none (N L vP L)) none L)) vo (N (N (N L vP L) none (N L none (N L vg L))) (some (.ptr 1 0)) L)) (29::[]) .skip .skip 1 .ret (1::(104::[])) (0::(1::(0::(1::(1::(1::[])))))))) L))) ov L) oa (N (N (N (N L none (N L ol L)) none L) none L) none (N (N L none (N L none (N L ob L))) ou o1y))),76⟩,[(.st 15),.bool,.int,.bool,(.st 15),.bool,.int,(.st 15),(.st 2),(.st 17),(.lst (.int .i64)),(.st 2)]⟩
def q7h:Way S:=⟨(.exit 0),⟨L,oT,46⟩,[(.st 15),.bool,.int,.bool,(.st 15),.bool,.int,(.st 15),(.lst (.int .i64)),(.st 2)]⟩
def q7i:LE S:=⟨q7e,q7f,[.int,.int,(.lst (.st 2)),(.st 15),.bool,.int,.bool,(.st 15),.bool,.int,(.st 15),(.lst (.int .i64)),(.st 2)],[q7g,q7h]⟩
def q7j (x:tk):((Int×Zu×Z6×Zu)⊕Zu)→t6:=Sum.elim (fun y0=>(.inl (x.2.2.2.1,x.2.2.2.2.1,x.2.2.2.2.2.1,x.2.2.2.2.2.2.1,x.2.2.2.2.2.2.2.1,x.2.2.2.2.2.2.2.2.1,y0.1,x.2.2.2.2.2.2.2.2.2.2.1,y0.2.1,y0.2.2.1,x.2.2.2.2.2.2.2.2.2.2.2.1,y0.2.2.2))) (fun y1=>(.inr (x.2.2.2.1,x.2.2.2.2.1,x.2.2.2.2.2.1,x.2.2.2.2.2.2.1,x.2.2.2.2.2.2.2.1,x.2.2.2.2.2.2.2.2.1,x.2.2.2.2.2.2.2.2.2.1,x.2.2.2.2.2.2.2.2.2.2.1,x.2.2.2.2.2.2.2.2.2.2.2.1,y1)))
noncomputable def q7k {R:Type} (x:tk) (k:t6→Option R):Option R:=(X2S x.1 x.2.2.1 x.2.2.2.1 x.2.2.2.2.1 x.2.2.2.2.2.1 x.2.2.2.2.2.2.1 x.2.2.2.2.2.2.2.1 x.2.2.2.2.2.2.2.2.1 x.2.2.2.2.2.2.2.2.2.1 x.2.2.2.2.2.2.2.2.2.2.1 x.2.2.2.2.2.2.2.2.2.2.2.1 (x.2.1,x.2.2.2.2.2.2.2.2.2.2.2.2)).bind (Sum.elim (fun y0=>k (.inl (x.2.2.2.1,x.2.2.2.2.1,x.2.2.2.2.2.1,x.2.2.2.2.2.2.1,x.2.2.2.2.2.2.2.1,x.2.2.2.2.2.2.2.2.1,y0.1,x.2.2.2.2.2.2.2.2.2.2.1,y0.2.1,y0.2.2.1,x.2.2.2.2.2.2.2.2.2.2.2.1,y0.2.2.2))) (fun y1=>k (.inr (x.2.2.2.1,x.2.2.2.2.1,x.2.2.2.2.2.1,x.2.2.2.2.2.2.1,x.2.2.2.2.2.2.2.1,x.2.2.2.2.2.2.2.2.1,x.2.2.2.2.2.2.2.2.2.1,x.2.2.2.2.2.2.2.2.2.2.1,x.2.2.2.2.2.2.2.2.2.2.2.1,y1))))
def q7l (x:tk) (v:(Int×Zu)):tk:=(x.1,v.1,x.2.2.1,x.2.2.2.1,x.2.2.2.2.1,x.2.2.2.2.2.1,x.2.2.2.2.2.2.1,x.2.2.2.2.2.2.2.1,x.2.2.2.2.2.2.2.2.1,x.2.2.2.2.2.2.2.2.2.1,x.2.2.2.2.2.2.2.2.2.2.1,x.2.2.2.2.2.2.2.2.2.2.2.1,v.2)
theorem q7m (x:tk):LE.step X q7i q6Y q0 q7c 12 x=Xu x.1 x.2.2.1 x.2.2.2.1 x.2.2.2.2.1 x.2.2.2.2.2.1 x.2.2.2.2.2.2.1 x.2.2.2.2.2.2.2.1 x.2.2.2.2.2.2.2.2.1 x.2.2.2.2.2.2.2.2.2.1 x.2.2.2.2.2.2.2.2.2.2.1 x.2.2.2.2.2.2.2.2.2.2.2.1 x.2.1 x.2.2.2.2.2.2.2.2.2.2.2.2 (fun w0 w1=>(Sum.inl (x.1,w0,x.2.2.1,x.2.2.2.1,x.2.2.2.2.1,x.2.2.2.2.2.1,x.2.2.2.2.2.2.1,x.2.2.2.2.2.2.2.1,x.2.2.2.2.2.2.2.2.1,x.2.2.2.2.2.2.2.2.2.1,x.2.2.2.2.2.2.2.2.2.2.1,x.2.2.2.2.2.2.2.2.2.2.2.1,w1))) (fun p0 p1 p2 p3=>(Sum.inr (.inl (x.2.2.2.1,x.2.2.2.2.1,x.2.2.2.2.2.1,x.2.2.2.2.2.2.1,x.2.2.2.2.2.2.2.1,x.2.2.2.2.2.2.2.2.1,p0,x.2.2.2.2.2.2.2.2.2.2.1,p1,p2,x.2.2.2.2.2.2.2.2.2.2.2.1,p3)))) (fun p0=>(Sum.inr (.inr (x.2.2.2.1,x.2.2.2.2.1,x.2.2.2.2.2.1,x.2.2.2.2.2.2.1,x.2.2.2.2.2.2.2.1,x.2.2.2.2.2.2.2.2.1,x.2.2.2.2.2.2.2.2.2.1,x.2.2.2.2.2.2.2.2.2.2.1,x.2.2.2.2.2.2.2.2.2.2.2.1,p0)))):=by kernel_rfl
theorem q7o {R:Type} (x:tk) (k:t6→Option R) (r:R) (h:q7k x k=some r):∃ o,Z5s (LE.step X q7i q6Y q0 q7c 12) x o∧k o=some r:=by
 obtain ⟨o,h1,h2⟩:=Z0 h
 exact ⟨q7j x o,Zhl (st:=fun (x:tk)=>Xn x.1 x.2.2.1 x.2.2.2.1 x.2.2.2.2.1 x.2.2.2.2.2.1 x.2.2.2.2.2.2.1 x.2.2.2.2.2.2.2.1 x.2.2.2.2.2.2.2.2.1 x.2.2.2.2.2.2.2.2.2.1 x.2.2.2.2.2.2.2.2.2.2.1 x.2.2.2.2.2.2.2.2.2.2.2.1) (prj:=fun x=>(x.2.1,x.2.2.2.2.2.2.2.2.2.2.2.2)) (emb:=q7l) (embO:=q7j) (fun x=>(q7m x).trans (by unfold Xn Xu;simp only [Zhd,Zh8,Zhe,Option.map_some,Option.map_none];rfl)) (fun _ _=>rfl) (fun _ _=>rfl) (fun _ _ _=>rfl) (fun _ _ _=>rfl) (fun _=>rfl) (Z1S.1 h1),by
  first
  | exact h2
  | (rcases o with o|o<;>exact h2)⟩
noncomputable def q7p {R:Type}:Z27 S R:=LE.ls X q7i q7k q7c
theorem q7q {R:Type}:Z3J X (q7p (R:=R)):=Zhq xok q6Z (e:=q7i) q1 q7d q7o q7d
theorem q7r (x0:Z8):Zhs X q6Y [(.st 15)] [(.int .i64)] q0 q7p 12 104 (x0,())=X1K x0:=by kernel_rfl
noncomputable def q7s:F7 S:=⟨[(.st 15)],[(.int .i64)],fun xs=>X1K xs.1⟩
theorem q7t:Z7Q X 104 q7s:=Zho (Zhn xok q6Z q1 q7q 12 104) fun xs _ h=>(q7r xs.1).trans h
noncomputable def q7u:List (Nat×F7 S):=[(102,q5B),(53,q6f),(103,q6B),(104,q7s)]
theorem q7v:Z9n X (q7u):=⟨q5C,q6g,q6C,q7t,trivial⟩
abbrev q7w {R:Type}:Z27 S R:=Zgi
theorem q7x {R:Type}:Z3J X (q7w (R:=R)):=ZgQ X
def q7y:Key:=⟨[88],88,none,[0,0,1,0,1,1,1,1],0,17⟩
def q7z:StT S:=⟨(N (N v1s (some (.ptr 0 0)) L) none (N v1s none (N (N (N L (some (.sl (.st 4) [])) L) none L) vn L))),o1o,17⟩
def q7A:Way S:=⟨.ret,⟨v1n,o1e,57⟩,[.int,.int,.int,(.st 4),(.st 8),(.mp .str (.int .i64))]⟩
def q7B:Way S:=⟨.ret,⟨v1n,o1e,62⟩,[.int,.int,.int,(.st 4),(.st 8),(.mp .str (.int .i64))]⟩
def q7C:Way S:=⟨.ret,⟨v1n,o12,63⟩,[.int,.int,.int,(.st 4),(.st 8),(.mp .str (.int .i64)),(.lst (.st 2))]⟩
def q7D:Way S:=⟨.ret,⟨v1n,o12,66⟩,[.int,.int,.int,(.st 4),(.st 8),(.mp .str (.int .i64)),(.lst (.st 2))]⟩
def q7E:Way S:=⟨(.exit 0),⟨(N (N L (some (.ptr 0 0)) L) none (N L none (N L vn L))),o1o,18⟩,[(.st 8),(.mp .str (.int .i64))]⟩
def q7F:LE S:=⟨q7y,q7z,[.int,.int,(.lst (.st 4)),(.st 8),(.mp .str (.int .i64))],[q7A,q7B,q7C,q7D,q7E]⟩
def q7G (x:tJ):((Int×Int×Int×Zw×t1e)⊕(Int×Int×Int×Zw×t1e)⊕(Int×Int×Int×Zw×t1e×(List Zu))⊕(Int×Int×Int×Zw×t1e×(List Zu))⊕t1e)→t0:=Sum.elim (fun y0=>(.inl (y0.1,y0.2.1,y0.2.2.1,y0.2.2.2.1,x.2.2.2.1,y0.2.2.2.2))) (Sum.elim (fun y1=>(.inr (.inl (y1.1,y1.2.1,y1.2.2.1,y1.2.2.2.1,x.2.2.2.1,y1.2.2.2.2)))) (Sum.elim (fun y2=>(.inr (.inr (.inl (y2.1,y2.2.1,y2.2.2.1,y2.2.2.2.1,x.2.2.2.1,y2.2.2.2.2.1,y2.2.2.2.2.2))))) (Sum.elim (fun y3=>(.inr (.inr (.inr (.inl (y3.1,y3.2.1,y3.2.2.1,y3.2.2.2.1,x.2.2.2.1,y3.2.2.2.2.1,y3.2.2.2.2.2)))))) (fun y4=>(.inr (.inr (.inr (.inr (x.2.2.2.1,y4)))))))))
noncomputable def q7H {R:Type} (x:tJ) (k:t0→Option R):Option R:=(X3W x.1 x.2.2.1 x.2.2.2.1 (x.2.1,x.2.2.2.2)).bind (Sum.elim (fun y0=>k (.inl (y0.1,y0.2.1,y0.2.2.1,y0.2.2.2.1,x.2.2.2.1,y0.2.2.2.2))) (Sum.elim (fun y1=>k (.inr (.inl (y1.1,y1.2.1,y1.2.2.1,y1.2.2.2.1,x.2.2.2.1,y1.2.2.2.2)))) (Sum.elim (fun y2=>k (.inr (.inr (.inl (y2.1,y2.2.1,y2.2.2.1,y2.2.2.2.1,x.2.2.2.1,y2.2.2.2.2.1,y2.2.2.2.2.2))))) (Sum.elim (fun y3=>k (.inr (.inr (.inr (.inl (y3.1,y3.2.1,y3.2.2.1,y3.2.2.2.1,x.2.2.2.1,y3.2.2.2.2.1,y3.2.2.2.2.2)))))) (fun y4=>k (.inr (.inr (.inr (.inr (x.2.2.2.1,y4))))))))))
def q7I (x:tJ) (v:(Int×t1e)):tJ:=(x.1,v.1,x.2.2.1,x.2.2.2.1,v.2)
theorem q7J (x:tJ):LE.step X q7F q7u q0 q7w 12 x=WF x.1 x.2.2.1 x.2.2.2.1 x.2.1 x.2.2.2.2 (fun w0 w1=>(Sum.inl (x.1,w0,x.2.2.1,x.2.2.2.1,w1))) (fun p0 p1 p2 p3 p4=>(Sum.inr (.inl (p0,p1,p2,p3,x.2.2.2.1,p4)))) (fun p0 p1 p2 p3 p4=>(Sum.inr (.inr (.inl (p0,p1,p2,p3,x.2.2.2.1,p4))))) (fun p0 p1 p2 p3 p4 p5=>(Sum.inr (.inr (.inr (.inl (p0,p1,p2,p3,x.2.2.2.1,p4,p5)))))) (fun p0 p1 p2 p3 p4 p5=>(Sum.inr (.inr (.inr (.inr (.inl (p0,p1,p2,p3,x.2.2.2.1,p4,p5))))))) (fun p0=>(Sum.inr (.inr (.inr (.inr (.inr (x.2.2.2.1,p0))))))):=by kernel_rfl
theorem q7L {R:Type} (x:tJ) (k:t0→Option R) (r:R) (h:q7H x k=some r):∃ o,Z5s (LE.step X q7F q7u q0 q7w 12) x o∧k o=some r:=by
 obtain ⟨o,h1,h2⟩:=Z0 h
 exact ⟨q7G x o,Zhl (st:=fun (x:tJ)=>Wo x.1 x.2.2.1 x.2.2.2.1) (prj:=fun x=>(x.2.1,x.2.2.2.2)) (emb:=q7I) (embO:=q7G) (fun x=>(q7J x).trans (by unfold Wo WF;simp only [Zhd,Zh8,Zhe,Option.map_some,Option.map_none];rfl)) (fun _ _=>rfl) (fun _ _=>rfl) (fun _ _ _=>rfl) (fun _ _ _=>rfl) (fun _=>rfl) (Z1S.1 h1),by
  first
  | exact h2
  | (rcases o with o|o|o|o|o<;>exact h2)⟩
noncomputable def q7M {R:Type}:Z27 S R:=LE.ls X q7F q7H q7w
theorem q7N {R:Type}:Z3J X (q7M (R:=R)):=Zhq xok q7v (e:=q7F) q1 q7x q7L q7x
def q7O:Key:=⟨[88],88,none,[0,0,1,0,1,1,1,1,1,1],2,26⟩
def q7P:StT S:=⟨(N (N L none (N L none v1v)) none (N (N L none (N (N L none (N L (some (.sl (.st 7) [])) L)) none L)) none (N L vn v1v))),o1o,26⟩
def q7Q:Way S:=⟨.ret,⟨v1n,o1c,58⟩,[.int,.int,.int,(.st 8),(.mp .str (.int .i64)),(.st 7)]⟩
def q7R:Way S:=⟨.ret,⟨v1n,o1c,63⟩,[.int,.int,.int,(.st 8),(.mp .str (.int .i64)),(.st 7)]⟩
def q7S:Way S:=⟨.ret,⟨v1n,o1c,67⟩,[.int,.int,.int,(.st 8),(.mp .str (.int .i64)),(.st 7)]⟩
def q7T:Way S:=⟨(.exit 2),⟨L,o1o,27⟩,[(.st 8),(.mp .str (.int .i64))]⟩
def q7U:LE S:=⟨q7O,q7P,[.int,(.lst (.st 7)),.int,(.st 8),(.mp .str (.int .i64))],[q7Q,q7R,q7S,q7T]⟩
def q7V (x:tK):(tQ⊕tQ⊕tQ⊕t1e)→t4:=Sum.elim (fun y0=>(.inl (y0.1,y0.2.1,y0.2.2.1,x.2.2.2.1,y0.2.2.2.1,y0.2.2.2.2))) (Sum.elim (fun y1=>(.inr (.inl (y1.1,y1.2.1,y1.2.2.1,x.2.2.2.1,y1.2.2.2.1,y1.2.2.2.2)))) (Sum.elim (fun y2=>(.inr (.inr (.inl (y2.1,y2.2.1,y2.2.2.1,x.2.2.2.1,y2.2.2.2.1,y2.2.2.2.2))))) (fun y3=>(.inr (.inr (.inr (x.2.2.2.1,y3)))))))
noncomputable def q7W {R:Type} (x:tK) (k:t4→Option R):Option R:=(X1V x.1 x.2.1 x.2.2.2.1 (x.2.2.1,x.2.2.2.2)).bind (Sum.elim (fun y0=>k (.inl (y0.1,y0.2.1,y0.2.2.1,x.2.2.2.1,y0.2.2.2.1,y0.2.2.2.2))) (Sum.elim (fun y1=>k (.inr (.inl (y1.1,y1.2.1,y1.2.2.1,x.2.2.2.1,y1.2.2.2.1,y1.2.2.2.2)))) (Sum.elim (fun y2=>k (.inr (.inr (.inl (y2.1,y2.2.1,y2.2.2.1,x.2.2.2.1,y2.2.2.2.1,y2.2.2.2.2))))) (fun y3=>k (.inr (.inr (.inr (x.2.2.2.1,y3))))))))
def q7X (x:tK) (v:(Int×t1e)):tK:=(x.1,x.2.1,v.1,x.2.2.2.1,v.2)
theorem q7Y (x:tK):LE.step X q7U q7u q0 q7M 12 x=WG x.1 x.2.1 x.2.2.2.1 x.2.2.1 x.2.2.2.2 (fun w0 w1=>(Sum.inl (x.1,x.2.1,w0,x.2.2.2.1,w1))) (fun p0 p1 p2 p3 p4=>(Sum.inr (.inl (p0,p1,p2,x.2.2.2.1,p3,p4)))) (fun p0 p1 p2 p3 p4=>(Sum.inr (.inr (.inl (p0,p1,p2,x.2.2.2.1,p3,p4))))) (fun p0 p1 p2 p3 p4=>(Sum.inr (.inr (.inr (.inl (p0,p1,p2,x.2.2.2.1,p3,p4)))))) (fun p0=>(Sum.inr (.inr (.inr (.inr (x.2.2.2.1,p0)))))):=by kernel_rfl
theorem q80 {R:Type} (x:tK) (k:t4→Option R) (r:R) (h:q7W x k=some r):∃ o,Z5s (LE.step X q7U q7u q0 q7M 12) x o∧k o=some r:=by
 obtain ⟨o,h1,h2⟩:=Z0 h
 exact ⟨q7V x o,Zhl (st:=fun (x:tK)=>Wp x.1 x.2.1 x.2.2.2.1) (prj:=fun x=>(x.2.2.1,x.2.2.2.2)) (emb:=q7X) (embO:=q7V) (fun x=>(q7Y x).trans (by unfold Wp WG;simp only [Zhd,Zh8,Zhe,Option.map_some,Option.map_none];rfl)) (fun _ _=>rfl) (fun _ _=>rfl) (fun _ _ _=>rfl) (fun _ _ _=>rfl) (fun _=>rfl) (Z1S.1 h1),by
  first
  | exact h2
  | (rcases o with o|o|o|o<;>exact h2)⟩
noncomputable def q81 {R:Type}:Z27 S R:=LE.ls X q7U q7W q7M
theorem q82 {R:Type}:Z3J X (q81 (R:=R)):=Zhq xok q7v (e:=q7U) q1 q7N q80 q7N
theorem q83 (x0:Zl):Zhs X q7u [(.st 8)] [(.int .i64),(.int .i64),(.int .i64)] q0 q81 12 88 (x0,())=X2R x0:=by kernel_rfl
noncomputable def q84:F7 S:=⟨[(.st 8)],[(.int .i64),(.int .i64),(.int .i64)],fun xs=>X2R xs.1⟩
theorem q85:Z7Q X 88 q84:=Zho (Zhn xok q7v q1 q82 12 88) fun xs _ h=>(q83 xs.1).trans h
noncomputable def q86:List (Nat×F7 S):=[]
theorem q87:Z9n X (q86):=trivial
abbrev q88 {R:Type}:Z27 S R:=Zgi
theorem q89 {R:Type}:Z3J X (q88 (R:=R)):=ZgQ X
def q8a:Key:=⟨[81,2,1,58,2,1,41],81,none,[0,0,1,0,1],0,17⟩
def q8b:StT S:=⟨(N (N (N (N L vO L) none L) (some (.fn (.func 59) [] [(.ptr 0 0),(.ptr 1 0)])) L) vK v1t),(N (N L ox L) ox L),17⟩
def q8c:Way S:=⟨.ret,⟨v1s,(N (N L ox L) ox L),38⟩,[.int,.int,.int]⟩
def q8d:Way S:=⟨(.exit 0),⟨L,(N (N L ox L) ox L),18⟩,[.int,.int]⟩
def q8e:LE S:=⟨q8a,q8b,[.int,(.lst (.int .i64)),.int,.int,.int],[q8c,q8d]⟩
def q8f (x:tX):(Int⊕Unit)→t14:=Sum.elim (fun y0=>(.inl (y0,x.2.2.2.1,x.2.2.2.2))) (fun y1=>(.inr (x.2.2.2.1,x.2.2.2.2)))
noncomputable def q8g {R:Type} (x:tX) (k:t14→Option R):Option R:=(X41 x.1 x.2.1 x.2.2.2.1 x.2.2.2.2 x.2.2.1).bind (Sum.elim (fun y0=>k (.inl (y0,x.2.2.2.1,x.2.2.2.2))) (fun y1=>k (.inr (x.2.2.2.1,x.2.2.2.2))))
def q8h (x:tX) (v:Int):tX:=(x.1,x.2.1,v,x.2.2.2.1,x.2.2.2.2)
theorem q8i (x:tX):LE.step X q8e q86 q0 q88 12 x=WM x.1 x.2.1 x.2.2.2.1 x.2.2.2.2 x.2.2.1 (fun w0=>(Sum.inl (x.1,x.2.1,w0,x.2.2.2.1,x.2.2.2.2))) (fun p0=>(Sum.inr (.inl (p0,x.2.2.2.1,x.2.2.2.2)))) (Sum.inr (.inr (x.2.2.2.1,x.2.2.2.2))):=by kernel_rfl
theorem q8k {R:Type} (x:tX) (k:t14→Option R) (r:R) (h:q8g x k=some r):∃ o,Z5s (LE.step X q8e q86 q0 q88 12) x o∧k o=some r:=by
 obtain ⟨o,h1,h2⟩:=Z0 h
 exact ⟨q8f x o,Zhl (st:=fun (x:tX)=>Wv x.1 x.2.1 x.2.2.2.1 x.2.2.2.2) (prj:=fun x=>x.2.2.1) (emb:=q8h) (embO:=q8f) (fun x=>(q8i x).trans (by unfold Wv WM;simp only [Zhd,Zh8,Zhe,Option.map_some,Option.map_none];rfl)) (fun _ _=>rfl) (fun _ _=>rfl) (fun _ _ _=>rfl) (fun _ _ _=>rfl) (fun _=>rfl) (Z1S.1 h1),by
  first
  | exact h2
  | (rcases o with o|o<;>exact h2)⟩
noncomputable def q8l {R:Type}:Z27 S R:=LE.ls X q8e q8g q88
theorem q8m {R:Type}:Z3J X (q8l (R:=R)):=Zhq xok q87 (e:=q8e) q1 q89 q8k q89
theorem q8n (x0:Int) (x1:Int) (x2:List Int):Zhs X q86 [(.int .i64),(.int .i64),(.sl (.int .i64))] [.bool] q0 q8l 12 41 (x0,x1,x2,())=X27 x0 x1 x2:=by kernel_rfl
noncomputable def q8o:F7 S:=⟨[(.int .i64),(.int .i64),(.sl (.int .i64))],[.bool],fun xs=>X2 xs.1 xs.2.1 xs.2.2.1⟩
theorem q8p:Z7Q X 41 q8o:=Zho (Zhn xok q87 q1 q8m 12 41) fun xs _ h=>((q8n xs.1 xs.2.1 xs.2.2.1).trans (X5j xs.1 xs.2.1 xs.2.2.1).symm).trans h
noncomputable def q8q:List (Nat×F7 S):=[(102,q5B),(41,q8o)]
theorem q8r:Z9n X (q8q):=⟨q5C,q8p,trivial⟩
abbrev q8s {R:Type}:Z27 S R:=Zgi
theorem q8t {R:Type}:Z3J X (q8s (R:=R)):=ZgQ X
def q8u:Key:=⟨[112,2,1,106,2,6,94],112,none,[0,0,1,0,1],0,25⟩
def q8v:StT S:=⟨v14,(N L od L),25⟩
def q8w:Way S:=⟨.ret,⟨v1s,(N L od o1k),44⟩,[.int,(.st 18),(.st 18)]⟩
def q8x:Way S:=⟨(.exit 0),⟨L,(N L od L),26⟩,[(.st 18)]⟩
def q8y:LE S:=⟨q8u,q8v,[.int,(.lst (.st 18)),.int,(.st 18)],[q8w,q8x]⟩
def q8z (x:tS):((Int×Z5)⊕Unit)→tR:=Sum.elim (fun y0=>(.inl (y0.1,x.2.2.2,y0.2))) (fun y1=>(.inr x.2.2.2))
noncomputable def q8A {R:Type} (x:tS) (k:tR→Option R):Option R:=(X2b x.1 x.2.1 x.2.2.2 x.2.2.1).bind (Sum.elim (fun y0=>k (.inl (y0.1,x.2.2.2,y0.2))) (fun y1=>k (.inr x.2.2.2)))
def q8B (x:tS) (v:Int):tS:=(x.1,x.2.1,v,x.2.2.2)
theorem q8C (x:tS):LE.step X q8y q8q q0 q8s 12 x=XT x.1 x.2.1 x.2.2.2 x.2.2.1 (fun w0=>(Sum.inl (x.1,x.2.1,w0,x.2.2.2))) (fun p0 p1=>(Sum.inr (.inl (p0,x.2.2.2,p1)))) (Sum.inr (.inr x.2.2.2)):=by kernel_rfl
theorem q8E {R:Type} (x:tS) (k:tR→Option R) (r:R) (h:q8A x k=some r):∃ o,Z5s (LE.step X q8y q8q q0 q8s 12) x o∧k o=some r:=by
 obtain ⟨o,h1,h2⟩:=Z0 h
 exact ⟨q8z x o,Zhl (st:=fun (x:tS)=>XI x.1 x.2.1 x.2.2.2) (prj:=fun x=>x.2.2.1) (emb:=q8B) (embO:=q8z) (fun x=>(q8C x).trans (by unfold XI XT;simp only [Zhd,Zh8,Zhe,Option.map_some,Option.map_none];rfl)) (fun _ _=>rfl) (fun _ _=>rfl) (fun _ _ _=>rfl) (fun _ _ _=>rfl) (fun _=>rfl) (Z1S.1 h1),by
  first
  | exact h2
  | (rcases o with o|o<;>exact h2)⟩
noncomputable def q8F {R:Type}:Z27 S R:=LE.ls X q8y q8A q8s
theorem q8G {R:Type}:Z3J X (q8F (R:=R)):=Zhq xok q8r (e:=q8y) q1 q8t q8E q8t
def q8H:Key:=⟨[112,2,1,106,2,6,94],112,none,[0,0,1,0,1],0,24⟩
def q8I:StT S:=⟨v14,(N L od L),24⟩
def q8J:Way S:=⟨.ret,⟨v1s,(N o1k od L),43⟩,[.int,(.st 18),(.st 18)]⟩
def q8K:Way S:=⟨(.exit 0),⟨L,(N L od L),25⟩,[(.st 18)]⟩
def q8L:LE S:=⟨q8H,q8I,[.int,(.lst (.st 18)),.int,(.st 18)],[q8J,q8K]⟩
def q8M (x:tS):((Int×Z5)⊕Unit)→tR:=Sum.elim (fun y0=>(.inl (y0.1,y0.2,x.2.2.2))) (fun y1=>(.inr x.2.2.2))
noncomputable def q8N {R:Type} (x:tS) (k:tR→Option R):Option R:=(X2c x.1 x.2.1 x.2.2.2 x.2.2.1).bind (Sum.elim (fun y0=>k (.inl (y0.1,y0.2,x.2.2.2))) (fun y1=>k (.inr x.2.2.2)))
def q8O (x:tS) (v:Int):tS:=(x.1,x.2.1,v,x.2.2.2)
theorem q8P (x:tS):LE.step X q8L q8q q0 q8F 12 x=XU x.1 x.2.1 x.2.2.2 x.2.2.1 (fun w0=>(Sum.inl (x.1,x.2.1,w0,x.2.2.2))) (fun p0 p1=>(Sum.inr (.inl (p0,p1,x.2.2.2)))) (Sum.inr (.inr x.2.2.2)):=by kernel_rfl
theorem q8R {R:Type} (x:tS) (k:tR→Option R) (r:R) (h:q8N x k=some r):∃ o,Z5s (LE.step X q8L q8q q0 q8F 12) x o∧k o=some r:=by
 obtain ⟨o,h1,h2⟩:=Z0 h
 exact ⟨q8M x o,Zhl (st:=fun (x:tS)=>XJ x.1 x.2.1 x.2.2.2) (prj:=fun x=>x.2.2.1) (emb:=q8O) (embO:=q8M) (fun x=>(q8P x).trans (by unfold XJ XU;simp only [Zhd,Zh8,Zhe,Option.map_some,Option.map_none];rfl)) (fun _ _=>rfl) (fun _ _=>rfl) (fun _ _ _=>rfl) (fun _ _ _=>rfl) (fun _=>rfl) (Z1S.1 h1),by
  first
  | exact h2
  | (rcases o with o|o<;>exact h2)⟩
noncomputable def q8S {R:Type}:Z27 S R:=LE.ls X q8L q8N q8F
theorem q8T {R:Type}:Z3J X (q8S (R:=R)):=Zhq xok q8r (e:=q8L) q1 q8G q8R q8G
theorem q8U (x0:Z5) (x1:List Z5):Zhs X q8q [(.st 18),(.sl (.st 18))] [(.int .i64)] q0 q8S 12 94 (x0,x1,())=X18 x0 x1:=by kernel_rfl
noncomputable def q8V:F7 S:=⟨[(.st 18),(.sl (.st 18))],[(.int .i64)],fun xs=>X3h xs.1 xs.2.1⟩
theorem q8W:Z7Q X 94 q8V:=Zho (Zhn xok q8r q1 q8T 12 94) fun xs _ h=>((q8U xs.1 xs.2.1).trans (X4g xs.1 xs.2.1).symm).trans h
noncomputable def q8X:List (Nat×F7 S):=[(41,q8o)]
theorem q8Y:Z9n X (q8X):=⟨q8p,trivial⟩
abbrev q8Z {R:Type}:Z27 S R:=Zgi
theorem q90 {R:Type}:Z3J X (q8Z (R:=R)):=ZgQ X
theorem q91 (x0:Zt):Zhs X q8X [(.st 19)] [(.int .i64)] q0 q8Z 12 97 (x0,())=X33 x0:=by kernel_rfl
noncomputable def q92:F7 S:=⟨[(.st 19)],[(.int .i64)],fun xs=>X62 xs.1⟩
theorem q93:Z7Q X 97 q92:=Zho (Zhn xok q8Y q1 q90 12 97) fun xs _ h=>((q91 xs.1).trans (X6l xs.1).symm).trans h
noncomputable def q94:List (Nat×F7 S):=[(97,q92)]
theorem q95:Z9n X (q94):=⟨q93,trivial⟩
abbrev q96 {R:Type}:Z27 S R:=Zgi
theorem q97 {R:Type}:Z3J X (q96 (R:=R)):=ZgQ X
theorem q98 (x0:Int) (x1:Zt):Zhs X q94 [(.int .i64),(.st 19)] [(.int .i64)] q0 q96 12 96 (x0,x1,())=X24 x0 x1:=by kernel_rfl
noncomputable def q99:F7 S:=⟨[(.int .i64),(.st 19)],[(.int .i64)],fun xs=>X3C xs.1 xs.2.1⟩
theorem q9a:Z7Q X 96 q99:=Zho (Zhn xok q95 q1 q97 12 96) fun xs _ h=>((q98 xs.1 xs.2.1).trans (X5d xs.1 xs.2.1).symm).trans h
noncomputable def q9b:List (Nat×F7 S):=[(88,q84),(41,q8o),(94,q8V),(96,q99)]
theorem q9c:Z9n X (q9b):=⟨q85,q8p,q8W,q9a,trivial⟩
abbrev q9d {R:Type}:Z27 S R:=Zgi
theorem q9e {R:Type}:Z3J X (q9d (R:=R)):=ZgQ X
def q9f:Key:=⟨[92,3,8,76],92,none,[0,0,1,0,1],0,51⟩
def q9g:StT S:=⟨(N (N (N L none (N L vO L)) (some (.fn (.func 93) [] [(.ptr 0 0)])) (N (N L vM L) none L)) none v1s),(N L oc L),51⟩
def q9h:Way S:=⟨.ret,⟨v1m,(N (N (N (N (N (N (N L od L) none L) none L) none (N L none (N L od L))) none L) none L) oc L),78⟩,[.int,.int,(.st 18),(.st 18),(.st 20)]⟩
def q9i:Way S:=⟨(.exit 0),⟨L,(N L oc L),52⟩,[(.st 20)]⟩
def q9j:LE S:=⟨q9f,q9g,[.int,(.lst (.st 18)),.int,(.st 20)],[q9h,q9i]⟩
def q9k (x:tU):((Int×Int×Z5×Z5)⊕Unit)→tN:=Sum.elim (fun y0=>(.inl (y0.1,y0.2.1,y0.2.2.1,y0.2.2.2,x.2.2.2))) (fun y1=>(.inr x.2.2.2))
noncomputable def q9l {R:Type} (x:tU) (k:tN→Option R):Option R:=(X3w x.2.1 x.2.2.1 x.2.2.2 x.1).bind (Sum.elim (fun y0=>k (.inl (y0.1,y0.2.1,y0.2.2.1,y0.2.2.2,x.2.2.2))) (fun y1=>k (.inr x.2.2.2)))
def q9m (x:tU) (v:Int):tU:=(v,x.2.1,x.2.2.1,x.2.2.2)
theorem q9n (x:tU):LE.step X q9j q9b q0 q9d 12 x=X1t x.2.1 x.2.2.1 x.2.2.2 x.1 (fun w0=>(Sum.inl (w0,x.2.1,x.2.2.1,x.2.2.2))) (fun p0 p1 p2 p3=>(Sum.inr (.inl (p0,p1,p2,p3,x.2.2.2)))) (Sum.inr (.inr x.2.2.2)):=by kernel_rfl
theorem q9p {R:Type} (x:tU) (k:tN→Option R) (r:R) (h:q9l x k=some r):∃ o,Z5s (LE.step X q9j q9b q0 q9d 12) x o∧k o=some r:=by
 obtain ⟨o,h1,h2⟩:=Z0 h
 exact ⟨q9k x o,Zhl (st:=fun (x:tU)=>X1o x.2.1 x.2.2.1 x.2.2.2) (prj:=fun x=>x.1) (emb:=q9m) (embO:=q9k) (fun x=>(q9n x).trans (by unfold X1o X1t;simp only [Zhd,Zh8,Zhe,Option.map_some,Option.map_none];rfl)) (fun _ _=>rfl) (fun _ _=>rfl) (fun _ _ _=>rfl) (fun _ _ _=>rfl) (fun _=>rfl) (Z1S.1 h1),by
  first
  | exact h2
  | (rcases o with o|o<;>exact h2)⟩
noncomputable def q9q {R:Type}:Z27 S R:=LE.ls X q9j q9l q9d
theorem q9r {R:Type}:Z3J X (q9q (R:=R)):=Zhq xok q9c (e:=q9j) q1 q9e q9p q9e
def q9s:Key:=⟨[95,2,13,76],95,none,[0,0,1,0,1],0,97⟩
def q9t:StT S:=⟨vX,L,97⟩
def q9u:Way S:=⟨.ret,⟨v1m,(N (N L none (N L none (N (N (N L none (N L oe L)) none L) none L))) none L),115⟩,[.int,.int,(.st 19)]⟩
def q9v:Way S:=⟨(.exit 0),⟨L,L,98⟩,[]⟩
def q9w:LE S:=⟨q9s,q9t,[.int,(.lst (.st 19)),.int],[q9u,q9v]⟩
def q9x (x:t1c):t1b→t1b:=Sum.elim (fun y0=>(.inl (y0.1,y0.2.1,y0.2.2))) (fun y1=>(.inr ()))
noncomputable def q9y {R:Type} (x:t1c) (k:t1b→Option R):Option R:=(X3x x.2.1 x.2.2 x.1).bind (Sum.elim (fun y0=>k (.inl (y0.1,y0.2.1,y0.2.2))) (fun y1=>k (.inr ())))
def q9z (x:t1c) (v:Int):t1c:=(v,x.2.1,x.2.2)
theorem q9A (x:t1c):LE.step X q9w q9b q0 q9q 12 x=X1u x.2.1 x.2.2 x.1 (fun w0=>(Sum.inl (w0,x.2.1,x.2.2))) (fun p0 p1 p2=>(Sum.inr (.inl (p0,p1,p2)))) (Sum.inr (.inr ())):=by kernel_rfl
theorem q9C {R:Type} (x:t1c) (k:t1b→Option R) (r:R) (h:q9y x k=some r):∃ o,Z5s (LE.step X q9w q9b q0 q9q 12) x o∧k o=some r:=by
 obtain ⟨o,h1,h2⟩:=Z0 h
 exact ⟨q9x x o,Zhl (st:=fun (x:t1c)=>X1p x.2.1 x.2.2) (prj:=fun x=>x.1) (emb:=q9z) (embO:=q9x) (fun x=>(q9A x).trans (by unfold X1p X1u;simp only [Zhd,Zh8,Zhe,Option.map_some,Option.map_none];rfl)) (fun _ _=>rfl) (fun _ _=>rfl) (fun _ _ _=>rfl) (fun _ _ _=>rfl) (fun _=>rfl) (Z1S.1 h1),by
  first
  | exact h2
  | (rcases o with o|o<;>exact h2)⟩
noncomputable def q9D {R:Type}:Z27 S R:=LE.ls X q9w q9y q9q
theorem q9E {R:Type}:Z3J X (q9D (R:=R)):=Zhq xok q9c (e:=q9w) q1 q9r q9C q9r
def q9F:Key:=⟨[95,2,13,76],95,none,[0,0,1,0,1],0,73⟩
def q9G:StT S:=⟨vX,L,73⟩
def q9H:Way S:=⟨.ret,⟨v1m,(N (N L none (N L none (N L none (N (N (N L oe L) none L) none L)))) none L),91⟩,[.int,.int,(.st 19)]⟩
def q9I:Way S:=⟨(.exit 0),⟨L,L,74⟩,[]⟩
def q9J:LE S:=⟨q9F,q9G,[.int,(.lst (.st 19)),.int],[q9H,q9I]⟩
def q9K (x:t1c):t1b→t1b:=Sum.elim (fun y0=>(.inl (y0.1,y0.2.1,y0.2.2))) (fun y1=>(.inr ()))
noncomputable def q9L {R:Type} (x:t1c) (k:t1b→Option R):Option R:=(X2s x.2.1 x.2.2 x.1).bind (Sum.elim (fun y0=>k (.inl (y0.1,y0.2.1,y0.2.2))) (fun y1=>k (.inr ())))
def q9M (x:t1c) (v:Int):t1c:=(v,x.2.1,x.2.2)
theorem q9N (x:t1c):LE.step X q9J q9b q0 q9D 12 x=X31 x.2.1 x.2.2 x.1 (fun w0=>(Sum.inl (w0,x.2.1,x.2.2))) (fun p0 p1 p2=>(Sum.inr (.inl (p0,p1,p2)))) (Sum.inr (.inr ())):=by kernel_rfl
theorem q9P {R:Type} (x:t1c) (k:t1b→Option R) (r:R) (h:q9L x k=some r):∃ o,Z5s (LE.step X q9J q9b q0 q9D 12) x o∧k o=some r:=by
 obtain ⟨o,h1,h2⟩:=Z0 h
 exact ⟨q9K x o,Zhl (st:=fun (x:t1c)=>X3M x.2.1 x.2.2) (prj:=fun x=>x.1) (emb:=q9M) (embO:=q9K) (fun x=>(q9N x).trans (by unfold X3M X31;simp only [Zhd,Zh8,Zhe,Option.map_some,Option.map_none];rfl)) (fun _ _=>rfl) (fun _ _=>rfl) (fun _ _ _=>rfl) (fun _ _ _=>rfl) (fun _=>rfl) (Z1S.1 h1),by
  first
  | exact h2
  | (rcases o with o|o<;>exact h2)⟩
noncomputable def q9Q {R:Type}:Z27 S R:=LE.ls X q9J q9L q9D
theorem q9R {R:Type}:Z3J X (q9Q (R:=R)):=Zhq xok q9c (e:=q9J) q1 q9E q9P q9E
theorem q9S (x0:ZJ):Zhs X q9b [(.st 20)] [(.int .i64),(.int .i64),(.int .i64)] q0 q9Q 12 76 (x0,())=X2B x0:=by kernel_rfl
noncomputable def q9T:F7 S:=⟨[(.st 20)],[(.int .i64),(.int .i64),(.int .i64)],fun xs=>X5v xs.1⟩
theorem q9U:Z7Q X 76 q9T:=Zho (Zhn xok q9c q1 q9R 12 76) fun xs _ h=>((q9S xs.1).trans (X5X xs.1).symm).trans h
noncomputable def q9V:List (Nat×F7 S):=[(88,q84),(73,q5V)]
theorem q9W:Z9n X (q9V):=⟨q85,q5W,trivial⟩
abbrev q9X {R:Type}:Z27 S R:=Zgi
theorem q9Y {R:Type}:Z3J X (q9X (R:=R)):=ZgQ X
def q9Z:Key:=⟨[105,1,70],105,none,[0,0,1],0,45⟩
def qa0:StT S:=⟨(N (N (N L vO L) (some (.ptr 36 0)) L) (some (.yld 40)) L),oR,45⟩
def qa1:Way S:=⟨.ret,⟨L,(N (N (N (N L none (N L none (N L om L))) ox L) ox L) oj (N (N (N (N L ou L) none (N (N L (some (.loop 70 (N (N (N (N L (some (.ptr 3 0)) L) (some (.ptr 0 0)) (N L none (N (N L vh L) vP L))) vO (N (N (N L vP L) none L) none L)) vs (N (N (N L (some (.ptr 4 0)) L) (some (.ptr 1 0)) L) vO (N L (some (.ptr 2 0)) (N (N L vP L) none L)))) (44::(45::[])) .skip .skip 1 .ret (1::(70::[])) (0::(1::(0::(1::(1::(1::(1::[]))))))))) L) ou L)) ov (N (N (N L op L) none L) none L)) ok L)),67⟩,[(.st 3),.int,.int,(.st 8),(.lst (.int .i64)),.bool,.int,.bool,(.st 8),.int,.bool,(.lst (.int .i64)),.int,(.lst (.st 3)),(.st 4)]⟩
def qa2:Way S:=⟨(.exit 0),⟨L,oR,47⟩,[.int,.int,(.st 8),(.lst (.int .i64)),.bool,.int,.bool,(.st 8),.int,.bool,(.lst (.int .i64)),.int,(.lst (.st 3)),(.st 4)]⟩
def qa3:LE S:=⟨q9Z,qa0,[.int,.int,.int,(.st 8),(.lst (.int .i64)),.bool,.int,.bool,(.st 8),.int,.bool,(.lst (.int .i64)),.int,(.lst (.st 3)),(.st 4)],[qa1,qa2]⟩
def qa4 (x:tg):((Zk×Int×Int)⊕Unit)→t3:=Sum.elim (fun y0=>(.inl (y0.1,y0.2.1,x.2.2.1,x.2.2.2.1,x.2.2.2.2.1,x.2.2.2.2.2.1,x.2.2.2.2.2.2.1,x.2.2.2.2.2.2.2.1,x.2.2.2.2.2.2.2.2.1,x.2.2.2.2.2.2.2.2.2.1,x.2.2.2.2.2.2.2.2.2.2.1,x.2.2.2.2.2.2.2.2.2.2.2.1,y0.2.2,x.2.2.2.2.2.2.2.2.2.2.2.2.2.1,x.2.2.2.2.2.2.2.2.2.2.2.2.2.2))) (fun y1=>(.inr (x.2.1,x.2.2.1,x.2.2.2.1,x.2.2.2.2.1,x.2.2.2.2.2.1,x.2.2.2.2.2.2.1,x.2.2.2.2.2.2.2.1,x.2.2.2.2.2.2.2.2.1,x.2.2.2.2.2.2.2.2.2.1,x.2.2.2.2.2.2.2.2.2.2.1,x.2.2.2.2.2.2.2.2.2.2.2.1,x.2.2.2.2.2.2.2.2.2.2.2.2.1,x.2.2.2.2.2.2.2.2.2.2.2.2.2.1,x.2.2.2.2.2.2.2.2.2.2.2.2.2.2)))
noncomputable def qa5 {R:Type} (x:tg) (k:t3→Option R):Option R:=(X1D x.2.2.1 x.2.2.2.2.2.2.2.2.2.2.2.2.2.1 x.1).bind (Sum.elim (fun y0=>k (.inl (y0.1,y0.2.1,x.2.2.1,x.2.2.2.1,x.2.2.2.2.1,x.2.2.2.2.2.1,x.2.2.2.2.2.2.1,x.2.2.2.2.2.2.2.1,x.2.2.2.2.2.2.2.2.1,x.2.2.2.2.2.2.2.2.2.1,x.2.2.2.2.2.2.2.2.2.2.1,x.2.2.2.2.2.2.2.2.2.2.2.1,y0.2.2,x.2.2.2.2.2.2.2.2.2.2.2.2.2.1,x.2.2.2.2.2.2.2.2.2.2.2.2.2.2))) (fun y1=>k (.inr (x.2.1,x.2.2.1,x.2.2.2.1,x.2.2.2.2.1,x.2.2.2.2.2.1,x.2.2.2.2.2.2.1,x.2.2.2.2.2.2.2.1,x.2.2.2.2.2.2.2.2.1,x.2.2.2.2.2.2.2.2.2.1,x.2.2.2.2.2.2.2.2.2.2.1,x.2.2.2.2.2.2.2.2.2.2.2.1,x.2.2.2.2.2.2.2.2.2.2.2.2.1,x.2.2.2.2.2.2.2.2.2.2.2.2.2.1,x.2.2.2.2.2.2.2.2.2.2.2.2.2.2))))
def qa6 (x:tg) (v:Int):tg:=(v,x.2.1,x.2.2.1,x.2.2.2.1,x.2.2.2.2.1,x.2.2.2.2.2.1,x.2.2.2.2.2.2.1,x.2.2.2.2.2.2.2.1,x.2.2.2.2.2.2.2.2.1,x.2.2.2.2.2.2.2.2.2.1,x.2.2.2.2.2.2.2.2.2.2.1,x.2.2.2.2.2.2.2.2.2.2.2.1,x.2.2.2.2.2.2.2.2.2.2.2.2.1,x.2.2.2.2.2.2.2.2.2.2.2.2.2.1,x.2.2.2.2.2.2.2.2.2.2.2.2.2.2)
theorem qa7 (x:tg):LE.step X qa3 q9V q0 q9X 12 x=Wf x.2.2.1 x.2.2.2.2.2.2.2.2.2.2.2.2.2.1 x.1 (fun w0=>(Sum.inl (w0,x.2.1,x.2.2.1,x.2.2.2.1,x.2.2.2.2.1,x.2.2.2.2.2.1,x.2.2.2.2.2.2.1,x.2.2.2.2.2.2.2.1,x.2.2.2.2.2.2.2.2.1,x.2.2.2.2.2.2.2.2.2.1,x.2.2.2.2.2.2.2.2.2.2.1,x.2.2.2.2.2.2.2.2.2.2.2.1,x.2.2.2.2.2.2.2.2.2.2.2.2.1,x.2.2.2.2.2.2.2.2.2.2.2.2.2.1,x.2.2.2.2.2.2.2.2.2.2.2.2.2.2))) (fun p0 p1 p2=>(Sum.inr (.inl (p0,p1,x.2.2.1,x.2.2.2.1,x.2.2.2.2.1,x.2.2.2.2.2.1,x.2.2.2.2.2.2.1,x.2.2.2.2.2.2.2.1,x.2.2.2.2.2.2.2.2.1,x.2.2.2.2.2.2.2.2.2.1,x.2.2.2.2.2.2.2.2.2.2.1,x.2.2.2.2.2.2.2.2.2.2.2.1,p2,x.2.2.2.2.2.2.2.2.2.2.2.2.2.1,x.2.2.2.2.2.2.2.2.2.2.2.2.2.2)))) (Sum.inr (.inr (x.2.1,x.2.2.1,x.2.2.2.1,x.2.2.2.2.1,x.2.2.2.2.2.1,x.2.2.2.2.2.2.1,x.2.2.2.2.2.2.2.1,x.2.2.2.2.2.2.2.2.1,x.2.2.2.2.2.2.2.2.2.1,x.2.2.2.2.2.2.2.2.2.2.1,x.2.2.2.2.2.2.2.2.2.2.2.1,x.2.2.2.2.2.2.2.2.2.2.2.2.1,x.2.2.2.2.2.2.2.2.2.2.2.2.2.1,x.2.2.2.2.2.2.2.2.2.2.2.2.2.2))):=by kernel_rfl
theorem qa9 {R:Type} (x:tg) (k:t3→Option R) (r:R) (h:qa5 x k=some r):∃ o,Z5s (LE.step X qa3 q9V q0 q9X 12) x o∧k o=some r:=by
 obtain ⟨o,h1,h2⟩:=Z0 h
 exact ⟨qa4 x o,Zhl (st:=fun (x:tg)=>W4 x.2.2.1 x.2.2.2.2.2.2.2.2.2.2.2.2.2.1) (prj:=fun x=>x.1) (emb:=qa6) (embO:=qa4) (fun x=>(qa7 x).trans (by unfold W4 Wf;simp only [Zhd,Zh8,Zhe,Option.map_some,Option.map_none];rfl)) (fun _ _=>rfl) (fun _ _=>rfl) (fun _ _ _=>rfl) (fun _ _ _=>rfl) (fun _=>rfl) (Z1S.1 h1),by
  first
  | exact h2
  | (rcases o with o|o<;>exact h2)⟩
noncomputable def qaa {R:Type}:Z27 S R:=LE.ls X qa3 qa5 q9X
theorem qab {R:Type}:Z3J X (qaa (R:=R)):=Zhq xok q9W (e:=qa3) q1 q9Y qa9 q9Y
theorem qac (x0:Zl) (x1:Int) (x2:Int):Zhs X q9V [(.st 8),(.int .i64),(.int .i64)] [(.st 4),(.int .i64),(.int .i64)] q0 qaa 12 70 (x0,x1,x2,())=X1J x0 x1 x2:=by kernel_rfl
noncomputable def qad:F7 S:=⟨[(.st 8),(.int .i64),(.int .i64)],[(.st 4),(.int .i64),(.int .i64)],fun xs=>X2Z xs.1 xs.2.1 xs.2.2.1⟩
theorem qae:Z7Q X 70 qad:=Zho (Zhn xok q9W q1 qab 12 70) fun xs _ h=>((qac xs.1 xs.2.1 xs.2.2.1).trans (X50 xs.1 xs.2.1 xs.2.2.1).symm).trans h
noncomputable def qaf:List (Nat×F7 S):=[(70,qad)]
theorem qag:Z9n X (qaf):=⟨qae,trivial⟩
abbrev qah {R:Type}:Z27 S R:=Zgi
theorem qai {R:Type}:Z3J X (qah (R:=R)):=ZgQ X
theorem qaj (x0:Zl) (x1:Int) (x2:Int):Zhs X qaf [(.st 8),(.int .i64),(.int .i64)] [(.int .i64),(.int .i64)] q0 qah 12 61 (x0,x1,x2,())=X1I x0 x1 x2:=by kernel_rfl
noncomputable def qak:F7 S:=⟨[(.st 8),(.int .i64),(.int .i64)],[(.int .i64),(.int .i64)],fun xs=>X4M xs.1 xs.2.1 xs.2.2.1⟩
theorem qal:Z7Q X 61 qak:=Zho (Zhn xok qag q1 qai 12 61) fun xs _ h=>((qaj xs.1 xs.2.1 xs.2.2.1).trans (X4Y xs.1 xs.2.1 xs.2.2.1).symm).trans h
noncomputable def qam:List (Nat×F7 S):=[(70,qad)]
theorem qan:Z9n X (qam):=⟨qae,trivial⟩
abbrev qao {R:Type}:Z27 S R:=Zgi
theorem qap {R:Type}:Z3J X (qao (R:=R)):=ZgQ X
theorem qaq (x0:Zl) (x1:Int) (x2:Int):Zhs X qam [(.st 8),(.int .i64),(.int .i64)] [(.st 4),(.int .i64)] q0 qao 12 52 (x0,x1,x2,())=X14 x0 x1 x2:=by kernel_rfl
noncomputable def qar:F7 S:=⟨[(.st 8),(.int .i64),(.int .i64)],[(.st 4),(.int .i64)],fun xs=>X3X xs.1 xs.2.1 xs.2.2.1⟩
theorem qas:Z7Q X 52 qar:=Zho (Zhn xok qan q1 qap 12 52) fun xs _ h=>((qaq xs.1 xs.2.1 xs.2.2.1).trans (X4e xs.1 xs.2.1 xs.2.2.1).symm).trans h
noncomputable def qat:List (Nat×F7 S):=[]
theorem qau:Z9n X (qat):=trivial
abbrev qav {R:Type}:Z27 S R:=Zgi
theorem qaw {R:Type}:Z3J X (qav (R:=R)):=ZgQ X
theorem qax:Zhs X qat [] [(.arr 8 (.st 2))] q0 qav 12 74 (())=X5F:=by kernel_rfl
noncomputable def qay:F7 S:=⟨[],[(.arr 8 (.st 2))],fun xs=>X5F⟩
theorem qaz:Z7Q X 74 qay:=Zho (Zhn xok qau q1 qaw 12 74) fun xs _ h=>(qax).trans h
noncomputable def qaA:List (Nat×F7 S):=[(74,qay),(75,q6W)]
theorem qaB:Z9n X (qaA):=⟨qaz,q6X,trivial⟩
abbrev qaC {R:Type}:Z27 S R:=Zgi
theorem qaD {R:Type}:Z3J X (qaC (R:=R)):=ZgQ X
def qaE:Key:=⟨[54],54,none,[0,0,0,1],0,2⟩
def qaF:StT S:=⟨(N (N L (some (.ptr 0 0)) L) none (N L vO L)),(N L ol L),2⟩
def qaG:Way S:=⟨(.exit 0),⟨(N (N L (some (.ptr 0 0)) L) none (N L vO L)),(N L ol L),10⟩,[.int,(.st 2)]⟩
def qaH:LE S:=⟨qaE,qaF,[.int,(.st 2)],[qaG]⟩
def qaI (x:(Int×Zu)):(Int×Zu)→(Int×Zu):=fun y0=>(y0.1,y0.2)
noncomputable def qaJ {R:Type} (x:(Int×Zu)) (k:(Int×Zu)→Option R):Option R:=(X1E (x.1,x.2)).bind (fun y0=>k (y0.1,y0.2))
def qaK (x:(Int×Zu)) (v:(Int×Zu)):(Int×Zu):=(v.1,v.2)
theorem qaL (x:(Int×Zu)):LE.step X qaH qaA q0 qaC 12 x=Xz x.1 x.2 (fun w0 w1=>(Sum.inl (w0,w1))) (fun p0 p1=>(Sum.inr (p0,p1))):=by kernel_rfl
theorem qaN {R:Type} (x:(Int×Zu)) (k:(Int×Zu)→Option R) (r:R) (h:qaJ x k=some r):∃ o,Z5s (LE.step X qaH qaA q0 qaC 12) x o∧k o=some r:=by
 obtain ⟨o,h1,h2⟩:=Z0 h
 exact ⟨qaI x o,Zhl (st:=fun (x:(Int×Zu))=>Xd) (prj:=fun x=>(x.1,x.2)) (emb:=qaK) (embO:=qaI) (fun x=>(qaL x).trans (by unfold Xd Xz;simp only [Zhd,Zh8,Zhe,Option.map_some,Option.map_none];rfl)) (fun _ _=>rfl) (fun _ _=>rfl) (fun _ _ _=>rfl) (fun _ _ _=>rfl) (fun _=>rfl) (Z1S.1 h1),by
  first
  | exact h2
  | (rcases o with o<;>exact h2)⟩
noncomputable def qaO {R:Type}:Z27 S R:=LE.ls X qaH qaJ qaC
theorem qaP {R:Type}:Z3J X (qaO (R:=R)):=Zhq xok qaB (e:=qaH) q1 qaD qaN qaD
def qaQ:Key:=⟨[54],54,none,[0,0,1,0,1,1],2,12⟩
def qaR:StT S:=⟨(N (N L (some (.ptr 0 0)) (N L none (N (N L (some (.agg [(.arr (.st 2) 8 (fun _=>tdf T (.st 2)))])) L) none L))) none (N L vO v1s)),(N L ol L),12⟩
def qaS:Way S:=⟨(.exit 2),⟨(N L none (N L vO L)),(N L ol L),13⟩,[.int,(.st 2)]⟩
def qaT:LE S:=⟨qaQ,qaR,[(.arr (.st 2)),.int,.int,(.st 2)],[qaS]⟩
def qaU (x:tZ):Int→(Int×Zu):=fun y0=>(y0,x.2.2.2)
noncomputable def qaV {R:Type} (x:tZ) (k:(Int×Zu)→Option R):Option R:=(X2z x.1 x.2.2.2 (x.2.1,x.2.2.1)).bind (fun y0=>k (y0,x.2.2.2))
def qaW (x:tZ) (v:(Int×Int)):tZ:=(x.1,v.1,v.2,x.2.2.2)
theorem qaX (x:tZ):LE.step X qaT qaA q0 qaO 12 x=Wh x.1 x.2.2.2 x.2.1 x.2.2.1 (fun w0 w1=>(Sum.inl (x.1,w0,w1,x.2.2.2))) (fun p0=>(Sum.inr (p0,x.2.2.2))):=by kernel_rfl
theorem qaZ {R:Type} (x:tZ) (k:(Int×Zu)→Option R) (r:R) (h:qaV x k=some r):∃ o,Z5s (LE.step X qaT qaA q0 qaO 12) x o∧k o=some r:=by
 obtain ⟨o,h1,h2⟩:=Z0 h
 exact ⟨qaU x o,Zhl (st:=fun (x:tZ)=>W6 x.1 x.2.2.2) (prj:=fun x=>(x.2.1,x.2.2.1)) (emb:=qaW) (embO:=qaU) (fun x=>(qaX x).trans (by unfold W6 Wh;simp only [Zhd,Zh8,Zhe,Option.map_some,Option.map_none];rfl)) (fun _ _=>rfl) (fun _ _=>rfl) (fun _ _ _=>rfl) (fun _ _ _=>rfl) (fun _=>rfl) (Z1S.1 h1),by
  first
  | exact h2
  | (rcases o with o<;>exact h2)⟩
noncomputable def qb0 {R:Type}:Z27 S R:=LE.ls X qaT qaV qaO
theorem qb1 {R:Type}:Z3J X (qb0 (R:=R)):=Zhq xok qaB (e:=qaT) q1 qaP qaZ qaP
theorem qb2 (x0:Zu):Zhs X qaA [(.st 2)] [(.int .i64)] q0 qb0 12 54 (x0,())=X1L x0:=by kernel_rfl
noncomputable def qb3:F7 S:=⟨[(.st 2)],[(.int .i64)],fun xs=>X3S xs.1⟩
theorem qb4:Z7Q X 54 qb3:=Zho (Zhn xok qaB q1 qb1 12 54) fun xs _ h=>((qb2 xs.1).trans (X52 xs.1).symm).trans h
noncomputable def qb5:List (Nat×F7 S):=[(52,qar),(53,q6f),(55,q6P),(54,qb3)]
theorem qb6:Z9n X (qb5):=⟨qas,q6g,q6Q,qb4,trivial⟩
abbrev qb7 {R:Type}:Z27 S R:=Zgi
theorem qb8 {R:Type}:Z3J X (qb7 (R:=R)):=ZgQ X
theorem qb9 (x0:Zl) (x1:Int) (x2:Int) (x3:Zu):Zhs X qb5 [(.st 8),(.int .i64),(.int .i64),(.st 2)] [(.int .i64),(.int .i64)] q0 qb7 12 38 (x0,x1,x2,x3,())=X2h x0 x1 x2 x3:=by kernel_rfl
noncomputable def qba:F7 S:=⟨[(.st 8),(.int .i64),(.int .i64),(.st 2)],[(.int .i64),(.int .i64)],fun xs=>X4N xs.1 xs.2.1 xs.2.2.1 xs.2.2.2.1⟩
theorem qbb:Z7Q X 38 qba:=Zho (Zhn xok qb6 q1 qb8 12 38) fun xs _ h=>((qb9 xs.1 xs.2.1 xs.2.2.1 xs.2.2.2.1).trans (X5D xs.1 xs.2.1 xs.2.2.1 xs.2.2.2.1).symm).trans h
def qbc:StT S:=⟨(N (N L vO L) (some (.ptr 1 0)) L),(N (N L o4 L) oq L),2⟩
def qbd:Way S:=⟨.ret,⟨(N L vP L),(N (N L o4 L) oq L),2⟩,[.bool,(.st 20),(.lst (.st 21)),.en,(.mp (.st 23) (.int .i64))]⟩
def qbe:PE S:=⟨49,2,qbc,[.int,(.st 20),(.lst (.st 21)),.en,(.mp (.st 23) (.int .i64))],[qbd]⟩
noncomputable def qbf:List (Nat×F7 S):=[(61,qak)]
theorem qbg:Z9n X qbf:=⟨qal,trivial⟩
abbrev qbh {R:Type}:Z27 S R:=Zgi
theorem qbi {R:Type}:Z3J X (qbh (R:=R)):=ZgQ X
theorem qbj (x:tG):PE.step X qbe qbf q0 qbh 12 x=XE x.1 x.2.1 x.2.2.1 x.2.2.2.1 x.2.2.2.2:=by kernel_rfl
theorem qbk:ZaX X qbe XX:=Zhr (ZgU xok qbg q1 qbi 12) fun x _ h=>((qbj x).trans (X38 x).symm).trans h
noncomputable def qbl {R:Type}:Prs S R:=PE.ps X qbe (fun x q=>(XX x).bind q) q0
theorem qbm {R:Type}:Z7R X (qbl (R:=R)):=Zhi (e:=qbe) qbk q1
def qbn:StT S:=⟨(N (N L vr L) (some (.ptr 1 0)) L),(N (N L o4 L) oq L),2⟩
def qbo:Way S:=⟨.ret,⟨(N L vO L),(N (N L o4 L) oq L),2⟩,[.int,(.st 20),(.lst (.st 21)),.en,(.mp (.st 23) (.int .i64))]⟩
def qbp:PE S:=⟨79,2,qbn,[(.st 21),(.st 20),(.lst (.st 21)),.en,(.mp (.st 23) (.int .i64))],[qbo]⟩
noncomputable def qbq:List (Nat×F7 S):=[(41,q8o),(61,qak)]
theorem qbr:Z9n X qbq:=⟨q8p,qal,trivial⟩
abbrev qbs {R:Type}:Z27 S R:=Zgi
theorem qbt {R:Type}:Z3J X (qbs (R:=R)):=ZgQ X
theorem qbu (x:(Zm×ZJ×(List Zm)×(Nat→Nat)×t1g)):PE.step X qbp qbq qbl qbs 12 x=XS x.1 x.2.1 x.2.2.1 x.2.2.2.1 x.2.2.2.2:=by kernel_rfl
theorem qbv:ZaX X qbp X16:=Zhr (ZgU xok qbr qbm qbt 12) fun x _ h=>((qbu x).trans (X3r x).symm).trans h
noncomputable def qbw {R:Type}:Prs S R:=PE.ps X qbp (fun x q=>(X16 x).bind q) qbl
theorem qbx {R:Type}:Z7R X (qbw (R:=R)):=Zhi (e:=qbp) qbv qbm
def qby:StT S:=⟨v1l,L,0⟩
def qbz:Way S:=⟨.ret,⟨(N L (some (.tup [.nilp,(.int .i64 0),(.int .i64 0)])) L),L,0⟩,[.int,.int]⟩
def qbA:Way S:=⟨.ret,⟨(N L (some (.tup [(.ptr 1 0),(.int .i64 0),(.int .i64 0)])) L),(N (N L o4 L) oq L),2⟩,[.int,.int,(.st 20),(.lst (.st 21)),.en,(.mp (.st 23) (.int .i64))]⟩
def qbB:PE S:=⟨56,2,qby,[(.lst (.st 21)),(.st 20)],[qbz,qbA]⟩
noncomputable def qbC:List (Nat×F7 S):=[(76,q9T),(41,q8o),(61,qak)]
theorem qbD:Z9n X qbC:=⟨q9U,q8p,qal,trivial⟩
abbrev qbE {R:Type}:Z27 S R:=Zgi
theorem qbF {R:Type}:Z3J X (qbE (R:=R)):=ZgQ X
def qbG:Key:=⟨[56],56,none,[0,0,1,0,1,1,1,1],0,26⟩
def qbH:StT S:=⟨(N (N (N L none (N L none (N L vM L))) vL (N L none (N L none (N L vO L)))) none (N (N L (some (.ptr 1 0)) (N L none (N L vO L))) none L)),o19,26⟩
def qbI:Way S:=⟨(.exit 0),⟨(N (N L vL L) none (N (N L (some (.ptr 1 0)) L) none L)),o19,27⟩,[(.lst (.st 21)),(.st 20),(.st 20),(.lst (.st 21)),.en,(.mp (.st 23) (.int .i64))]⟩
def qbJ:LE S:=⟨qbG,qbH,[(.lst (.st 18)),(.lst (.st 21)),.int,.int,(.st 20),(.st 20),(.lst (.st 21)),.en,(.mp (.st 23) (.int .i64))],[qbI]⟩
def qbK (x:tj):(Nat→Nat)→ty:=fun y0=>(x.2.1,x.2.2.2.2.1,x.2.2.2.2.2.1,x.2.2.2.2.2.2.1,y0,x.2.2.2.2.2.2.2.2)
noncomputable def qbL {R:Type} (x:tj) (k:ty→Option R):Option R:=(X2K x.1 x.2.2.2.1 (x.2.2.1,x.2.2.2.2.2.2.2.1)).bind (fun y0=>k (x.2.1,x.2.2.2.2.1,x.2.2.2.2.2.1,x.2.2.2.2.2.2.1,y0,x.2.2.2.2.2.2.2.2))
def qbM (x:tj) (v:(Int×(Nat→Nat))):tj:=(x.1,x.2.1,v.1,x.2.2.2.1,x.2.2.2.2.1,x.2.2.2.2.2.1,x.2.2.2.2.2.2.1,v.2,x.2.2.2.2.2.2.2.2)
theorem qbN (x:tj):LE.step X qbJ qbC q0 qbE 12 x=WK x.1 x.2.2.2.1 x.2.2.1 x.2.2.2.2.2.2.2.1 (fun w0 w1=>(Sum.inl (x.1,x.2.1,w0,x.2.2.2.1,x.2.2.2.2.1,x.2.2.2.2.2.1,x.2.2.2.2.2.2.1,w1,x.2.2.2.2.2.2.2.2))) (fun p0=>(Sum.inr (x.2.1,x.2.2.2.2.1,x.2.2.2.2.2.1,x.2.2.2.2.2.2.1,p0,x.2.2.2.2.2.2.2.2))):=by kernel_rfl
theorem qbP {R:Type} (x:tj) (k:ty→Option R) (r:R) (h:qbL x k=some r):∃ o,Z5s (LE.step X qbJ qbC q0 qbE 12) x o∧k o=some r:=by
 obtain ⟨o,h1,h2⟩:=Z0 h
 exact ⟨qbK x o,Zhl (st:=fun (x:tj)=>Wt x.1 x.2.2.2.1) (prj:=fun x=>(x.2.2.1,x.2.2.2.2.2.2.2.1)) (emb:=qbM) (embO:=qbK) (fun x=>(qbN x).trans (by unfold Wt WK;simp only [Zhd,Zh8,Zhe,Option.map_some,Option.map_none];rfl)) (fun _ _=>rfl) (fun _ _=>rfl) (fun _ _ _=>rfl) (fun _ _ _=>rfl) (fun _=>rfl) (Z1S.1 h1),by
  first
  | exact h2
  | (rcases o with o<;>exact h2)⟩
noncomputable def qbQ {R:Type}:Z27 S R:=LE.ls X qbJ qbL qbE
theorem qbR {R:Type}:Z3J X (qbQ (R:=R)):=Zhq xok qbD (e:=qbJ) q1 qbF qbP qbF
def qbS:Key:=⟨[77,2,14,56],77,none,[0,0,1,0,1],0,40⟩
def qbT:StT S:=⟨(N (N (N L none (N L vO L)) (some (.fn (.func 78) [] [(.ptr 1 0)])) (N (N L vL L) none L)) none v1s),o17,40⟩
def qbU:Way S:=⟨.ret,⟨v1m,(N (N L oA L) none (N (N L none (N (N L o2 (N L of L)) none (N (N L of L) none L))) none (N (N (N L oq L) none L) none L))),64⟩,[.int,.int,(.st 20),(.lst (.st 21)),.en,(.st 21),(.st 21),(.mp (.st 23) (.int .i64))]⟩
def qbV:Way S:=⟨(.exit 0),⟨L,o17,41⟩,[(.st 20),(.lst (.st 21)),.en,(.mp (.st 23) (.int .i64))]⟩
def qbW:LE S:=⟨qbS,qbT,[.int,(.lst (.st 21)),.int,(.st 20),(.lst (.st 21)),.en,(.mp (.st 23) (.int .i64))],[qbU,qbV]⟩
def qbX (x:tt):tb→tb:=Sum.elim (fun y0=>(.inl (y0.1,y0.2.1,y0.2.2.1,y0.2.2.2.1,y0.2.2.2.2.1,y0.2.2.2.2.2.1,y0.2.2.2.2.2.2.1,y0.2.2.2.2.2.2.2))) (fun y1=>(.inr (y1.1,y1.2.1,y1.2.2.1,y1.2.2.2)))
noncomputable def qbY {R:Type} (x:tt) (k:tb→Option R):Option R:=(X2L x.2.1 x.2.2.1 (x.1,x.2.2.2.1,x.2.2.2.2.1,x.2.2.2.2.2.1,x.2.2.2.2.2.2)).bind (Sum.elim (fun y0=>k (.inl (y0.1,y0.2.1,y0.2.2.1,y0.2.2.2.1,y0.2.2.2.2.1,y0.2.2.2.2.2.1,y0.2.2.2.2.2.2.1,y0.2.2.2.2.2.2.2))) (fun y1=>k (.inr (y1.1,y1.2.1,y1.2.2.1,y1.2.2.2))))
def qbZ (x:tt) (v:tG):tt:=(v.1,x.2.1,x.2.2.1,v.2.1,v.2.2.1,v.2.2.2.1,v.2.2.2.2)
theorem qc0 (x:tt):LE.step X qbW qbC qbw qbQ 12 x=WL x.2.1 x.2.2.1 x.1 x.2.2.2.1 x.2.2.2.2.1 x.2.2.2.2.2.1 x.2.2.2.2.2.2 (fun w0 w1 w2 w3 w4=>(Sum.inl (w0,x.2.1,x.2.2.1,w1,w2,w3,w4))) (fun p0 p1 p2 p3 p4 p5 p6 p7=>(Sum.inr (.inl (p0,p1,p2,p3,p4,p5,p6,p7)))) (fun p0 p1 p2 p3=>(Sum.inr (.inr (p0,p1,p2,p3)))):=by kernel_rfl
theorem qc2 {R:Type} (x:tt) (k:tb→Option R) (r:R) (h:qbY x k=some r):∃ o,Z5s (LE.step X qbW qbC qbw qbQ 12) x o∧k o=some r:=by
 obtain ⟨o,h1,h2⟩:=Z0 h
 exact ⟨qbX x o,Zhl (st:=fun (x:tt)=>Wu x.2.1 x.2.2.1) (prj:=fun x=>(x.1,x.2.2.2.1,x.2.2.2.2.1,x.2.2.2.2.2.1,x.2.2.2.2.2.2)) (emb:=qbZ) (embO:=qbX) (fun x=>(qc0 x).trans (by unfold Wu WL;simp only [Zhd,Zh8,Zhe,Option.map_some,Option.map_none];rfl)) (fun _ _=>rfl) (fun _ _=>rfl) (fun _ _ _=>rfl) (fun _ _ _=>rfl) (fun _=>rfl) (Z1S.1 h1),by
  first
  | exact h2
  | (rcases o with o|o<;>exact h2)⟩
noncomputable def qc3 {R:Type}:Z27 S R:=LE.ls X qbW qbY qbQ
theorem qc4 {R:Type}:Z3J X (qc3 (R:=R)):=Zhq xok qbD (e:=qbW) qbx qbR qc2 qbR
theorem qc5 (x:((List Zm)×ZJ)):PE.step X qbB qbC qbw qc3 12 x=X26 x.1 x.2:=by kernel_rfl
theorem qc6:ZaX X qbB X4i:=Zhr (ZgU xok qbD qbx qc4 12) fun x _ h=>((qc5 x).trans (X5h x).symm).trans h
noncomputable def qc7 {R:Type}:Prs S R:=PE.ps X qbB (fun x q=>(X4i x).bind q) qbw
theorem qc8 {R:Type}:Z7R X (qc7 (R:=R)):=Zhi (e:=qbB) qc6 qbx
def qc9:StT S:=⟨v1l,L,0⟩
def qca:Way S:=⟨.ret,⟨(N L (some (.tup [.nilp,(.int .i64 0)])) L),L,0⟩,[.int]⟩
def qcb:Way S:=⟨.ret,⟨(N L (some (.tup [(.ptr 1 0),(.int .i64 0)])) L),(N (N L o4 L) oq L),2⟩,[.int,(.st 20),(.lst (.st 21)),.en,(.mp (.st 23) (.int .i64))]⟩
def qcc:PE S:=⟨39,2,qc9,[(.lst (.st 21)),(.st 20)],[qca,qcb]⟩
noncomputable def qcd:List (Nat×F7 S):=[(76,q9T),(41,q8o),(61,qak)]
theorem qce:Z9n X qcd:=⟨q9U,q8p,qal,trivial⟩
abbrev qcf {R:Type}:Z27 S R:=Zgi
theorem qcg {R:Type}:Z3J X (qcf (R:=R)):=ZgQ X
theorem qch (x:((List Zm)×ZJ)):PE.step X qcc qcd qc7 qcf 12 x=X1P x.1 x.2:=by kernel_rfl
theorem qci:ZaX X qcc X1x:=Zhr (ZgU xok qce qc8 qcg 12) fun x _ h=>((qch x).trans (X54 x).symm).trans h
noncomputable def qcj {R:Type}:Prs S R:=PE.ps X qcc (fun x q=>(X1x x).bind q) qc7
theorem qck {R:Type}:Z7R X (qcj (R:=R)):=Zhi (e:=qcc) qci qc8
def qcl:StT S:=⟨(N L (some .nilp) L),L,0⟩
def qcm:PE S:=⟨40,1,qcl,[],[]⟩
noncomputable def qcn:List (Nat×F7 S):=[(38,qba),(41,q8o)]
theorem qco:Z9n X qcn:=⟨qbb,q8p,trivial⟩
abbrev qcp {R:Type}:Z27 S R:=Zgi
theorem qcq {R:Type}:Z3J X (qcp (R:=R)):=ZgQ X
theorem qcr (x:Unit):PE.step X qcm qcn qcj qcp 12 x=Wr:=by kernel_rfl
theorem qcs:ZaX X qcm X1G:=Zhr (ZgU xok qco qck qcq 12) fun x _ h=>((qcr x).trans (X4R x).symm).trans h
noncomputable def qct {R:Type}:Prs S R:=PE.ps X qcm (fun x q=>(X1G x).bind q) qcj
theorem qcu {R:Type}:Z7R X (qct (R:=R)):=Zhi (e:=qcm) qcs qck
def qcv:StT S:=⟨(N (N L vO L) (some (.ptr 1 0)) (N L vt L)),(N (N L o4 L) oq L),2⟩
def qcw:Way S:=⟨.ret,⟨(N L vO L),(N (N L o4 L) oq L),2⟩,[.int,(.st 20),(.lst (.st 21)),.en,(.mp (.st 23) (.int .i64))]⟩
def qcx:PE S:=⟨62,3,qcv,[.int,(.st 2),(.st 20),(.lst (.st 21)),.en,(.mp (.st 23) (.int .i64))],[qcw]⟩
noncomputable def qcy:List (Nat×F7 S):=[(38,qba)]
theorem qcz:Z9n X qcy:=⟨qbb,trivial⟩
abbrev qcA {R:Type}:Z27 S R:=Zgi
theorem qcB {R:Type}:Z3J X (qcA (R:=R)):=ZgQ X
theorem qcC (x:(Int×Zu×ZJ×(List Zm)×(Nat→Nat)×t1g)):PE.step X qcx qcy qct qcA 12 x=XG x.1 x.2.1 x.2.2.1 x.2.2.2.1 x.2.2.2.2.1 x.2.2.2.2.2:=by kernel_rfl
theorem qcD:ZaX X qcx XY:=Zhr (ZgU xok qcz qcu qcB 12) fun x _ h=>((qcC x).trans (X3d x).symm).trans h
noncomputable def qcE {R:Type}:Prs S R:=PE.ps X qcx (fun x q=>(XY x).bind q) qct
theorem qcF {R:Type}:Z7R X (qcE (R:=R)):=Zhi (e:=qcx) qcD qcu
def qcG:StT S:=⟨(N (N L vt L) (some (.agg [(.ptr 1 0)])) (N L vr L)),(N (N L o4 L) oq L),2⟩
def qcH:Way S:=⟨.ret,⟨v1g,(N (N L o4 L) oq L),2⟩,[(.st 5),.bool,(.st 20),(.lst (.st 21)),.en,(.mp (.st 23) (.int .i64))]⟩
def qcI:PE S:=⟨129,3,qcG,[(.st 2),(.st 21),(.st 20),(.lst (.st 21)),.en,(.mp (.st 23) (.int .i64))],[qcH]⟩
noncomputable def qcJ:List (Nat×F7 S):=[(38,qba)]
theorem qcK:Z9n X qcJ:=⟨qbb,trivial⟩
abbrev qcL {R:Type}:Z27 S R:=Zgi
theorem qcM {R:Type}:Z3J X (qcL (R:=R)):=ZgQ X
theorem qcN (x:(Zu×Zm×ZJ×(List Zm)×(Nat→Nat)×t1g)):PE.step X qcI qcJ qcE qcL 12 x=XH x.1 x.2.1 x.2.2.1 x.2.2.2.1 x.2.2.2.2.1 x.2.2.2.2.2:=by kernel_rfl
theorem qcO:ZaX X qcI Xr:=Zhr (ZgU xok qcK qcF qcM 12) fun x _ h=>((qcN x).trans (X3f x).symm).trans h
noncomputable def qcP {R:Type}:Prs S R:=PE.ps X qcI (fun x q=>(Xr x).bind q) qcE
theorem qcQ {R:Type}:Z7R X (qcP (R:=R)):=Zhi (e:=qcI) qcO qcF
def qcR:StT S:=⟨(N (N L vt L) (some (.agg [(.ptr 1 0)])) (N L vr L)),(N (N L o4 L) oq L),2⟩
def qcS:Way S:=⟨.ret,⟨v1g,(N (N L o4 L) oq L),2⟩,[(.st 5),.bool,(.st 20),(.lst (.st 21)),.en,(.mp (.st 23) (.int .i64))]⟩
def qcT:PE S:=⟨130,3,qcR,[(.st 2),(.st 21),(.st 20),(.lst (.st 21)),.en,(.mp (.st 23) (.int .i64))],[qcS]⟩
noncomputable def qcU:List (Nat×F7 S):=[(41,q8o)]
theorem qcV:Z9n X qcU:=⟨q8p,trivial⟩
abbrev qcW {R:Type}:Z27 S R:=Zgi
theorem qcX {R:Type}:Z3J X (qcW (R:=R)):=ZgQ X
def qcY:Key:=⟨[131,7,1,130],131,none,[0,0,1,0,1],0,20⟩
def qcZ:StT S:=⟨(N (N (N (N L vO L) none L) (some (.fn (.func 132) [] [(.ptr 3 0)])) L) (some (.sl (.st 19) [])) v1t),o1y,20⟩
def qd0:Way S:=⟨.ret,⟨v1s,(N (N (N (N L none (N (N L ou L) none L)) ol (N (N L none (N L ou L)) none L)) none (N L none (N L none (N L oe L)))) none L),58⟩,[.int,(.lst (.int .i64)),(.st 2),(.lst (.int .i64)),(.st 19)]⟩
def qd1:Way S:=⟨(.exit 0),⟨L,o1y,21⟩,[(.st 2)]⟩
def qd2:LE S:=⟨qcY,qcZ,[.int,(.lst (.st 19)),.int,(.st 2)],[qd0,qd1]⟩
def qd3 (x:t10):((Int×(List Int)×(List Int)×Zt)⊕Unit)→tO:=Sum.elim (fun y0=>(.inl (y0.1,y0.2.1,x.2.2.2,y0.2.2.1,y0.2.2.2))) (fun y1=>(.inr x.2.2.2))
noncomputable def qd4 {R:Type} (x:t10) (k:tO→Option R):Option R:=(X2V x.1 x.2.1 x.2.2.2 x.2.2.1).bind (Sum.elim (fun y0=>k (.inl (y0.1,y0.2.1,x.2.2.2,y0.2.2.1,y0.2.2.2))) (fun y1=>k (.inr x.2.2.2)))
def qd5 (x:t10) (v:Int):t10:=(x.1,x.2.1,v,x.2.2.2)
theorem qd6 (x:t10):LE.step X qd2 qcU qcP qcW 12 x=Xx x.1 x.2.1 x.2.2.2 x.2.2.1 (fun w0=>(Sum.inl (x.1,x.2.1,w0,x.2.2.2))) (fun p0 p1 p2 p3=>(Sum.inr (.inl (p0,p1,x.2.2.2,p2,p3)))) (Sum.inr (.inr x.2.2.2)):=by kernel_rfl
theorem qd8 {R:Type} (x:t10) (k:tO→Option R) (r:R) (h:qd4 x k=some r):∃ o,Z5s (LE.step X qd2 qcU qcP qcW 12) x o∧k o=some r:=by
 obtain ⟨o,h1,h2⟩:=Z0 h
 exact ⟨qd3 x o,Zhl (st:=fun (x:t10)=>Xp x.1 x.2.1 x.2.2.2) (prj:=fun x=>x.2.2.1) (emb:=qd5) (embO:=qd3) (fun x=>(qd6 x).trans (by unfold Xp Xx;simp only [Zhd,Zh8,Zhe,Option.map_some,Option.map_none];rfl)) (fun _ _=>rfl) (fun _ _=>rfl) (fun _ _ _=>rfl) (fun _ _ _=>rfl) (fun _=>rfl) (Z1S.1 h1),by
  first
  | exact h2
  | (rcases o with o|o<;>exact h2)⟩
noncomputable def qd9 {R:Type}:Z27 S R:=LE.ls X qd2 qd4 qcW
theorem qda {R:Type}:Z3J X (qd9 (R:=R)):=Zhq xok qcV (e:=qd2) qcQ qcX qd8 qcX
theorem qdb (x:(Zu×Zm×ZJ×(List Zm)×(Nat→Nat)×t1g)):PE.step X qcT qcU qcP qd9 12 x=Wj x.1 x.2.1 x.2.2.1 x.2.2.2.1 x.2.2.2.2.1 x.2.2.2.2.2:=by kernel_rfl
theorem qdc:ZaX X qcT W7:=Zhr (ZgU xok qcV qcQ qda 12) fun x _ h=>((qdb x).trans (X3O x).symm).trans h
noncomputable def qdd {R:Type}:Prs S R:=PE.ps X qcT (fun x q=>(W7 x).bind q) qcP
theorem qde {R:Type}:Z7R X (qdd (R:=R)):=Zhi (e:=qcT) qdc qcQ
def qdf:StT S:=⟨(N (N (N L vO L) vt L) (some (.ptr 1 0)) (N L vO L)),(N (N L o4 L) oq L),2⟩
def qdg:Way S:=⟨.ret,⟨(N L (some (.tup [(.agg [(.arr (.st 5) 4 (fun _=>tdf T (.st 5)))]),(.bool false)])) L),(N (N L o4 L) oq L),2⟩,[(.arr (.st 5)),.bool,(.st 20),(.lst (.st 21)),.en,(.mp (.st 23) (.int .i64))]⟩
def qdh:PE S:=⟨42,4,qdf,[.int,(.st 2),.int,(.st 20),(.lst (.st 21)),.en,(.mp (.st 23) (.int .i64))],[qdg]⟩
noncomputable def qdi:List (Nat×F7 S):=[(38,qba),(41,q8o)]
theorem qdj:Z9n X qdi:=⟨qbb,q8p,trivial⟩
abbrev qdk {R:Type}:Z27 S R:=Zgi
theorem qdl {R:Type}:Z3J X (qdk (R:=R)):=ZgQ X
def qdm:Key:=⟨[42],42,none,[0,0,1,0,0,1],0,12⟩
def qdn:StT S:=⟨(N (N (N (N L none (N L vO L)) vO L) none (N L (some (.ptr 2 0)) L)) (some (.ptr 1 0)) (N (N (N L (some (.ptr 3 0)) (N L vO L)) none L) vO (N L none (N (N L vM L) none L)))),o1q,12⟩
def qdo:Way S:=⟨(.exit 0),⟨(N (N (N L vO L) none (N L (some (.ptr 2 0)) L)) (some (.ptr 1 0)) (N v1r vO L)),o1q,13⟩,[.int,.int,(.arr (.st 5)),(.st 20),(.lst (.st 21)),.en,(.mp (.st 23) (.int .i64)),(.st 2)]⟩
def qdp:LE S:=⟨qdm,qdn,[.int,.int,.int,.int,(.lst (.st 18)),(.arr (.st 5)),(.st 20),(.lst (.st 21)),.en,(.mp (.st 23) (.int .i64)),(.st 2)],[qdo]⟩
def qdq (x:tf):(Nat→ZE)→tq:=fun y0=>(x.2.1,x.2.2.2.1,y0,x.2.2.2.2.2.2.1,x.2.2.2.2.2.2.2.1,x.2.2.2.2.2.2.2.2.1,x.2.2.2.2.2.2.2.2.2.1,x.2.2.2.2.2.2.2.2.2.2)
noncomputable def qdr {R:Type} (x:tf) (k:tq→Option R):Option R:=(X1Y x.1 x.2.1 x.2.2.2.1 x.2.2.2.2.1 x.2.2.2.2.2.2.1 x.2.2.2.2.2.2.2.1 x.2.2.2.2.2.2.2.2.1 x.2.2.2.2.2.2.2.2.2.1 x.2.2.2.2.2.2.2.2.2.2 (x.2.2.1,x.2.2.2.2.2.1)).bind (fun y0=>k (x.2.1,x.2.2.2.1,y0,x.2.2.2.2.2.2.1,x.2.2.2.2.2.2.2.1,x.2.2.2.2.2.2.2.2.1,x.2.2.2.2.2.2.2.2.2.1,x.2.2.2.2.2.2.2.2.2.2))
def qds (x:tf) (v:(Int×(Nat→ZE))):tf:=(x.1,x.2.1,v.1,x.2.2.2.1,x.2.2.2.2.1,v.2,x.2.2.2.2.2.2.1,x.2.2.2.2.2.2.2.1,x.2.2.2.2.2.2.2.2.1,x.2.2.2.2.2.2.2.2.2.1,x.2.2.2.2.2.2.2.2.2.2)
theorem qdt (x:tf):LE.step X qdp qdi qct qdk 12 x=XB x.1 x.2.1 x.2.2.2.1 x.2.2.2.2.1 x.2.2.2.2.2.2.1 x.2.2.2.2.2.2.2.1 x.2.2.2.2.2.2.2.2.1 x.2.2.2.2.2.2.2.2.2.1 x.2.2.2.2.2.2.2.2.2.2 x.2.2.1 x.2.2.2.2.2.1 (fun w0 w1=>(Sum.inl (x.1,x.2.1,w0,x.2.2.2.1,x.2.2.2.2.1,w1,x.2.2.2.2.2.2.1,x.2.2.2.2.2.2.2.1,x.2.2.2.2.2.2.2.2.1,x.2.2.2.2.2.2.2.2.2.1,x.2.2.2.2.2.2.2.2.2.2))) (fun p0=>(Sum.inr (x.2.1,x.2.2.2.1,p0,x.2.2.2.2.2.2.1,x.2.2.2.2.2.2.2.1,x.2.2.2.2.2.2.2.2.1,x.2.2.2.2.2.2.2.2.2.1,x.2.2.2.2.2.2.2.2.2.2))):=by kernel_rfl
theorem qdv {R:Type} (x:tf) (k:tq→Option R) (r:R) (h:qdr x k=some r):∃ o,Z5s (LE.step X qdp qdi qct qdk 12) x o∧k o=some r:=by
 obtain ⟨o,h1,h2⟩:=Z0 h
 exact ⟨qdq x o,Zhl (st:=fun (x:tf)=>Xs x.1 x.2.1 x.2.2.2.1 x.2.2.2.2.1 x.2.2.2.2.2.2.1 x.2.2.2.2.2.2.2.1 x.2.2.2.2.2.2.2.2.1 x.2.2.2.2.2.2.2.2.2.1 x.2.2.2.2.2.2.2.2.2.2) (prj:=fun x=>(x.2.2.1,x.2.2.2.2.2.1)) (emb:=qds) (embO:=qdq) (fun x=>(qdt x).trans (by unfold Xs XB;simp only [Zhd,Zh8,Zhe,Option.map_some,Option.map_none];rfl)) (fun _ _=>rfl) (fun _ _=>rfl) (fun _ _ _=>rfl) (fun _ _ _=>rfl) (fun _=>rfl) (Z1S.1 h1),by
  first
  | exact h2
  | (rcases o with o<;>exact h2)⟩
noncomputable def qdw {R:Type}:Z27 S R:=LE.ls X qdp qdr qdk
theorem qdx {R:Type}:Z3J X (qdw (R:=R)):=Zhq xok qdj (e:=qdp) qcu qdl qdv qdl
def qdy:Key:=⟨[42],42,none,[0,0,1,0,1,1,0,1],2,19⟩
def qdz:StT S:=⟨(N (N (N v1s vO L) none (N L (some (.ptr 2 0)) (N (N (N L vL L) none L) none L))) (some (.ptr 1 0)) (N v1r vO (N L none v1t))),o1q,19⟩
def qdA:Way S:=⟨.ret,⟨v1b,(N (N (N L o9 (N (N (N L (some (.cells 135 [.nilp])) L) none L) none L)) o4 o1a) oq (N L ol (N L none (N (N L of L) none L)))),102⟩,[.bool,(.arr (.st 5)),(.st 20),(.lst (.st 21)),.en,(.st 5),(.mp (.st 23) (.int .i64)),(.st 2),(.st 21)]⟩
def qdB:Way S:=⟨.ret,⟨v1b,(N (N (N L o9 (N (N (N L (some (.cells 135 [(.ptr 1 0)])) L) none L) none L)) o4 o1a) oq (N L ol (N L none (N (N L of L) none L)))),102⟩,[.bool,(.arr (.st 5)),(.st 20),(.lst (.st 21)),.en,(.st 5),(.mp (.st 23) (.int .i64)),(.st 2),(.st 21)]⟩
def qdC:Way S:=⟨(.exit 2),⟨(N L none (N v1r none L)),o1q,20⟩,[(.arr (.st 5)),(.st 20),(.lst (.st 21)),.en,(.mp (.st 23) (.int .i64)),(.st 2)]⟩
def qdD:LE S:=⟨qdy,qdz,[.int,.int,(.lst (.st 21)),.int,.int,(.arr (.st 5)),(.st 20),(.lst (.st 21)),.en,(.mp (.st 23) (.int .i64)),(.st 2)],[qdA,qdB,qdC]⟩
def qdE (x:th):((Bool×(Nat→ZE)×ZJ×(List Zm)×(Nat→Nat)×ZE×t1g×Zm)⊕(Bool×(Nat→ZE)×ZJ×(List Zm)×(Nat→Nat)×ZE×t1g×Zm)⊕((Nat→ZE)×ZJ×(List Zm)×(Nat→Nat)×t1g))→t1:=Sum.elim (fun y0=>(.inl (y0.1,y0.2.1,y0.2.2.1,y0.2.2.2.1,y0.2.2.2.2.1,y0.2.2.2.2.2.1,y0.2.2.2.2.2.2.1,x.2.2.2.2.2.2.2.2.2.2,y0.2.2.2.2.2.2.2))) (Sum.elim (fun y1=>(.inr (.inl (y1.1,y1.2.1,y1.2.2.1,y1.2.2.2.1,y1.2.2.2.2.1,y1.2.2.2.2.2.1,y1.2.2.2.2.2.2.1,x.2.2.2.2.2.2.2.2.2.2,y1.2.2.2.2.2.2.2)))) (fun y2=>(.inr (.inr (y2.1,y2.2.1,y2.2.2.1,y2.2.2.2.1,y2.2.2.2.2,x.2.2.2.2.2.2.2.2.2.2)))))
noncomputable def qdF {R:Type} (x:th) (k:t1→Option R):Option R:=(X1Z x.2.1 x.2.2.1 x.2.2.2.1 x.2.2.2.2.1 x.2.2.2.2.2.2.2.2.2.2 (x.1,x.2.2.2.2.2.1,x.2.2.2.2.2.2.1,x.2.2.2.2.2.2.2.1,x.2.2.2.2.2.2.2.2.1,x.2.2.2.2.2.2.2.2.2.1)).bind (Sum.elim (fun y0=>k (.inl (y0.1,y0.2.1,y0.2.2.1,y0.2.2.2.1,y0.2.2.2.2.1,y0.2.2.2.2.2.1,y0.2.2.2.2.2.2.1,x.2.2.2.2.2.2.2.2.2.2,y0.2.2.2.2.2.2.2))) (Sum.elim (fun y1=>k (.inr (.inl (y1.1,y1.2.1,y1.2.2.1,y1.2.2.2.1,y1.2.2.2.2.1,y1.2.2.2.2.2.1,y1.2.2.2.2.2.2.1,x.2.2.2.2.2.2.2.2.2.2,y1.2.2.2.2.2.2.2)))) (fun y2=>k (.inr (.inr (y2.1,y2.2.1,y2.2.2.1,y2.2.2.2.1,y2.2.2.2.2,x.2.2.2.2.2.2.2.2.2.2))))))
def qdG (x:th) (v:(Int×(Nat→ZE)×ZJ×(List Zm)×(Nat→Nat)×t1g)):th:=(v.1,x.2.1,x.2.2.1,x.2.2.2.1,x.2.2.2.2.1,v.2.1,v.2.2.1,v.2.2.2.1,v.2.2.2.2.1,v.2.2.2.2.2,x.2.2.2.2.2.2.2.2.2.2)
theorem qdH (x:th):LE.step X qdD qdi qdd qdw 12 x=XC x.2.1 x.2.2.1 x.2.2.2.1 x.2.2.2.2.1 x.2.2.2.2.2.2.2.2.2.2 x.1 x.2.2.2.2.2.1 x.2.2.2.2.2.2.1 x.2.2.2.2.2.2.2.1 x.2.2.2.2.2.2.2.2.1 x.2.2.2.2.2.2.2.2.2.1 (fun w0 w1 w2 w3 w4 w5=>(Sum.inl (w0,x.2.1,x.2.2.1,x.2.2.2.1,x.2.2.2.2.1,w1,w2,w3,w4,w5,x.2.2.2.2.2.2.2.2.2.2))) (fun p0 p1 p2 p3 p4 p5 p6 p7=>(Sum.inr (.inl (p0,p1,p2,p3,p4,p5,p6,x.2.2.2.2.2.2.2.2.2.2,p7)))) (fun p0 p1 p2 p3 p4 p5 p6 p7=>(Sum.inr (.inr (.inl (p0,p1,p2,p3,p4,p5,p6,x.2.2.2.2.2.2.2.2.2.2,p7))))) (fun p0 p1 p2 p3 p4=>(Sum.inr (.inr (.inr (p0,p1,p2,p3,p4,x.2.2.2.2.2.2.2.2.2.2))))):=by kernel_rfl
theorem qdJ {R:Type} (x:th) (k:t1→Option R) (r:R) (h:qdF x k=some r):∃ o,Z5s (LE.step X qdD qdi qdd qdw 12) x o∧k o=some r:=by
 obtain ⟨o,h1,h2⟩:=Z0 h
 exact ⟨qdE x o,Zhl (st:=fun (x:th)=>Xt x.2.1 x.2.2.1 x.2.2.2.1 x.2.2.2.2.1 x.2.2.2.2.2.2.2.2.2.2) (prj:=fun x=>(x.1,x.2.2.2.2.2.1,x.2.2.2.2.2.2.1,x.2.2.2.2.2.2.2.1,x.2.2.2.2.2.2.2.2.1,x.2.2.2.2.2.2.2.2.2.1)) (emb:=qdG) (embO:=qdE) (fun x=>(qdH x).trans (by unfold Xt XC;simp only [Zhd,Zh8,Zhe,Option.map_some,Option.map_none];rfl)) (fun _ _=>rfl) (fun _ _=>rfl) (fun _ _ _=>rfl) (fun _ _ _=>rfl) (fun _=>rfl) (Z1S.1 h1),by
  first
  | exact h2
  | (rcases o with o|o|o<;>exact h2)⟩
noncomputable def qdK {R:Type}:Z27 S R:=LE.ls X qdD qdF qdw
theorem qdL {R:Type}:Z3J X (qdK (R:=R)):=Zhq xok qdj (e:=qdD) qde qdx qdJ qdx
theorem qdM (x:(Int×Zu×Int×ZJ×(List Zm)×(Nat→Nat)×t1g)):PE.step X qdh qdi qdd qdK 12 x=WH x.1 x.2.1 x.2.2.1 x.2.2.2.1 x.2.2.2.2.1 x.2.2.2.2.2.1 x.2.2.2.2.2.2:=by kernel_rfl
theorem qdN:ZaX X qdh Xy:=Zhr (ZgU xok qdj qde qdL 12) fun x _ h=>((qdM x).trans (X3Y x).symm).trans h
noncomputable def qdO {R:Type}:Prs S R:=PE.ps X qdh (fun x q=>(Xy x).bind q) qdd
theorem qdP {R:Type}:Z7R X (qdO (R:=R)):=Zhi (e:=qdh) qdN qde
def qdQ:StT S:=⟨(N L (some (.ptr 1 0)) L),(N (N L o4 L) oq L),2⟩
def qdR:Way S:=⟨.ret,⟨(N L (some (.rs 2 0)) L),(N (N L o4 L) oq (N L oC L)),3⟩,[(.st 20),(.lst (.st 21)),.en,(.mp (.st 23) (.int .i64)),(.lst (.st 2))]⟩
def qdS:PE S:=⟨40,1,qdQ,[(.st 20),(.lst (.st 21)),.en,(.mp (.st 23) (.int .i64))],[qdR]⟩
noncomputable def qdT:List (Nat×F7 S):=[(38,qba),(41,q8o)]
theorem qdU:Z9n X qdT:=⟨qbb,q8p,trivial⟩
abbrev qdV {R:Type}:Z27 S R:=Zgi
theorem qdW {R:Type}:Z3J X (qdV (R:=R)):=ZgQ X
def qdX:Key:=⟨[80,0,40],80,none,[0,0,1,0,0,1,0,0,1],2,34⟩
def qdY:StT S:=⟨(N (N (N L vO L) (some (.ptr 6 0)) L) (some (.yld 11)) (N (N L vO L) none L)),o10,35⟩
def qdZ:Way S:=⟨(.exit 2),⟨v1j,o10,42⟩,[.int,(.st 20),(.lst (.st 21)),.en,(.mp (.st 23) (.int .i64)),(.lst (.st 2))]⟩
def qe0:LE S:=⟨qdX,qdY,[.int,.int,(.st 20),(.lst (.st 21)),.en,(.mp (.st 23) (.int .i64)),(.lst (.st 2))],[qdZ]⟩
def qe1 (x:tu):(ZJ×(List Zm)×(Nat→Nat)×t1g×(List Zu))→tA:=fun y0=>(x.1,y0.1,y0.2.1,y0.2.2.1,y0.2.2.2.1,y0.2.2.2.2)
noncomputable def qe2 {R:Type} (x:tu) (k:tA→Option R):Option R:=(XR x.1 (x.2.1,x.2.2.1,x.2.2.2.1,x.2.2.2.2.1,x.2.2.2.2.2.1,x.2.2.2.2.2.2)).bind (fun y0=>k (x.1,y0.1,y0.2.1,y0.2.2.1,y0.2.2.2.1,y0.2.2.2.2))
def qe3 (x:tu) (v:tA):tu:=(x.1,v.1,v.2.1,v.2.2.1,v.2.2.2.1,v.2.2.2.2.1,v.2.2.2.2.2)
theorem qe4 (x:tu):LE.step X qe0 qdT qdO qdV 12 x=Xh x.1 x.2.1 x.2.2.1 x.2.2.2.1 x.2.2.2.2.1 x.2.2.2.2.2.1 x.2.2.2.2.2.2 (fun w0 w1 w2 w3 w4 w5=>(Sum.inl (x.1,w0,w1,w2,w3,w4,w5))) (fun p0 p1 p2 p3 p4=>(Sum.inr (x.1,p0,p1,p2,p3,p4))):=by kernel_rfl
theorem qe6 {R:Type} (x:tu) (k:tA→Option R) (r:R) (h:qe2 x k=some r):∃ o,Z5s (LE.step X qe0 qdT qdO qdV 12) x o∧k o=some r:=by
 obtain ⟨o,h1,h2⟩:=Z0 h
 exact ⟨qe1 x o,Zhl (st:=fun (x:tu)=>Xb x.1) (prj:=fun x=>(x.2.1,x.2.2.1,x.2.2.2.1,x.2.2.2.2.1,x.2.2.2.2.2.1,x.2.2.2.2.2.2)) (emb:=qe3) (embO:=qe1) (fun x=>(qe4 x).trans (by unfold Xb Xh;simp only [Zhd,Zh8,Zhe,Option.map_some,Option.map_none];rfl)) (fun _ _=>rfl) (fun _ _=>rfl) (fun _ _ _=>rfl) (fun _ _ _=>rfl) (fun _=>rfl) (Z1S.1 h1),by
  first
  | exact h2
  | (rcases o with o<;>exact h2)⟩
noncomputable def qe7 {R:Type}:Z27 S R:=LE.ls X qe0 qe2 qdV
theorem qe8 {R:Type}:Z3J X (qe7 (R:=R)):=Zhq xok qdU (e:=qe0) qdP qdW qe6 qdW
def qe9:Key:=⟨[80,0,40],80,none,[0,0,1],0,19⟩
def qea:StT S:=⟨v1j,o18,20⟩
def qeb:Way S:=⟨(.exit 0),⟨L,o18,27⟩,[(.lst (.st 2)),(.st 20),(.lst (.st 21)),.en,(.mp (.st 23) (.int .i64))]⟩
def qec:LE S:=⟨qe9,qea,[.int,(.lst (.st 2)),(.st 20),(.lst (.st 21)),.en,(.mp (.st 23) (.int .i64))],[qeb]⟩
def qed (x:tB):tD→tD:=fun y0=>(y0.1,y0.2.1,y0.2.2.1,y0.2.2.2.1,y0.2.2.2.2)
noncomputable def qee {R:Type} (x:tB) (k:tD→Option R):Option R:=(XQ (x.1,x.2.1,x.2.2.1,x.2.2.2.1,x.2.2.2.2.1,x.2.2.2.2.2)).bind (fun y0=>k (y0.1,y0.2.1,y0.2.2.1,y0.2.2.2.1,y0.2.2.2.2))
def qef (x:tB) (v:tB):tB:=(v.1,v.2.1,v.2.2.1,v.2.2.2.1,v.2.2.2.2.1,v.2.2.2.2.2)
theorem qeg (x:tB):LE.step X qec qdT qdO qe7 12 x=Xg x.1 x.2.1 x.2.2.1 x.2.2.2.1 x.2.2.2.2.1 x.2.2.2.2.2 (fun w0 w1 w2 w3 w4 w5=>(Sum.inl (w0,w1,w2,w3,w4,w5))) (fun p0 p1 p2 p3 p4=>(Sum.inr (p0,p1,p2,p3,p4))):=by kernel_rfl
theorem qei {R:Type} (x:tB) (k:tD→Option R) (r:R) (h:qee x k=some r):∃ o,Z5s (LE.step X qec qdT qdO qe7 12) x o∧k o=some r:=by
 obtain ⟨o,h1,h2⟩:=Z0 h
 exact ⟨qed x o,Zhl (st:=fun (x:tB)=>Xa) (prj:=fun x=>(x.1,x.2.1,x.2.2.1,x.2.2.2.1,x.2.2.2.2.1,x.2.2.2.2.2)) (emb:=qef) (embO:=qed) (fun x=>(qeg x).trans (by unfold Xa Xg;simp only [Zhd,Zh8,Zhe,Option.map_some,Option.map_none];rfl)) (fun _ _=>rfl) (fun _ _=>rfl) (fun _ _ _=>rfl) (fun _ _ _=>rfl) (fun _=>rfl) (Z1S.1 h1),by
  first
  | exact h2
  | (rcases o with o<;>exact h2)⟩
noncomputable def qej {R:Type}:Z27 S R:=LE.ls X qec qee qe7
theorem qek {R:Type}:Z3J X (qej (R:=R)):=Zhq xok qdU (e:=qec) qdP qe8 qei qe8
theorem qel (x:tL):PE.step X qdS qdT qdO qej 12 x=XD x.1 x.2.1 x.2.2.1 x.2.2.2:=by kernel_rfl
theorem qem:ZaX X qdS WI:=Zhr (ZgU xok qdU qdP qek 12) fun x _ h=>((qel x).trans (X36 x).symm).trans h
noncomputable def qen {R:Type}:Prs S R:=PE.ps X qdS (fun x q=>(WI x).bind q) qdO
theorem qeo {R:Type}:Z7R X (qen (R:=R)):=Zhi (e:=qdS) qem qdP
noncomputable def qep:List (Nat×F7 S):=[(76,q9T),(41,q8o),(61,qak),(38,qba)]
theorem qeq:Z9n X (qep):=⟨q9U,q8p,qal,qbb,trivial⟩
abbrev qer {R:Type}:Z27 S R:=Zgi
theorem qes {R:Type}:Z3J X (qer (R:=R)):=ZgQ X
theorem qet (x0:ZJ) (x1:List Zm):Zhs X qep [(.st 20),(.sl (.st 21))] [(.sl (.st 2)),(.int .i64)] qen qer 12 11 (x0,x1,())=X2j x0 x1:=by kernel_rfl
noncomputable def qeu:F7 S:=⟨[(.st 20),(.sl (.st 21))],[(.sl (.st 2)),(.int .i64)],fun xs=>X15 xs.1 xs.2.1⟩
theorem qev:Z7Q X 11 qeu:=Zho (Zhn xok qeq qeo qes 12 11) fun xs _ h=>((qet xs.1 xs.2.1).trans (X5G xs.1 xs.2.1).symm).trans h
noncomputable def qew:List (Nat×F7 S):=[]
theorem qex:Z9n X (qew):=trivial
abbrev qey {R:Type}:Z27 S R:=Zgi
theorem qez {R:Type}:Z3J X (qey (R:=R)):=ZgQ X
theorem qeA (x0:List ZE):Zhs X qew [(.sl (.st 5))] [(.sl (.st 5))] qen qey 12 43 (x0,())=X5 x0:=by kernel_rfl
noncomputable def qeB:F7 S:=⟨[(.sl (.st 5))],[(.sl (.st 5))],fun xs=>Wd xs.1⟩
theorem qeC:Z7Q X 43 qeB:=Zho (Zhn xok qex qeo qez 12 43) fun xs _ h=>((qeA xs.1).trans (X1h xs.1).symm).trans h
def qeD:StT S:=⟨(N (N (N L vO L) vt L) (some .nilp) (N L vO L)),L,0⟩
def qeE:PE S:=⟨42,4,qeD,[.int,(.st 2),.int],[]⟩
noncomputable def qeF:List (Nat×F7 S):=[(38,qba),(41,q8o)]
theorem qeG:Z9n X qeF:=⟨qbb,q8p,trivial⟩
abbrev qeH {R:Type}:Z27 S R:=Zgi
theorem qeI {R:Type}:Z3J X (qeH (R:=R)):=ZgQ X
theorem qeJ (x:(Int×Zu×Int)):PE.step X qeE qeF qen qeH 12 x=X1F x.1 x.2.1 x.2.2:=by kernel_rfl
theorem qeK:ZaX X qeE X2G:=Zhr (ZgU xok qeG qeo qeI 12) fun x _ h=>((qeJ x).trans (X5S x).symm).trans h
noncomputable def qeL {R:Type}:Prs S R:=PE.ps X qeE (fun x q=>(X2G x).bind q) qen
theorem qeM {R:Type}:Z7R X (qeL (R:=R)):=Zhi (e:=qeE) qeK qeo
noncomputable def qeN:List (Nat×F7 S):=[(76,q9T),(41,q8o),(61,qak),(38,qba),(43,qeB)]
theorem qeO:Z9n X (qeN):=⟨q9U,q8p,qal,qbb,qeC,trivial⟩
abbrev qeP {R:Type}:Z27 S R:=Zgi
theorem qeQ {R:Type}:Z3J X (qeP (R:=R)):=ZgQ X
theorem qeR (x0:ZJ) (x1:List Zm) (x2:Zu):Zhs X qeN [(.st 20),(.sl (.st 21)),(.st 2)] [(.sl (.st 5)),(.int .i64)] qeL qeP 12 15 (x0,x1,x2,())=X32 x0 x1 x2:=by kernel_rfl
noncomputable def qeS:F7 S:=⟨[(.st 20),(.sl (.st 21)),(.st 2)],[(.sl (.st 5)),(.int .i64)],fun xs=>X2i xs.1 xs.2.1 xs.2.2.1⟩
theorem qeT:Z7Q X 15 qeS:=Zho (Zhn xok qeO qeM qeQ 12 15) fun xs _ h=>((qeR xs.1 xs.2.1 xs.2.2.1).trans (X6j xs.1 xs.2.1 xs.2.2.1).symm).trans h
def qeU:StT S:=⟨(N L (some .nilp) L),L,0⟩
def qeV:PE S:=⟨46,1,qeU,[],[]⟩
noncomputable def qeW:List (Nat×F7 S):=[]
theorem qeX:Z9n X qeW:=trivial
abbrev qeY {R:Type}:Z27 S R:=Zgi
theorem qeZ {R:Type}:Z3J X (qeY (R:=R)):=ZgQ X
theorem qf0 (x:Unit):PE.step X qeV qeW qeL qeY 12 x=Ws:=by kernel_rfl
theorem qf1:ZaX X qeV X1H:=Zhr (ZgU xok qeX qeM qeZ 12) fun x _ h=>((qf0 x).trans (X4S x).symm).trans h
noncomputable def qf2 {R:Type}:Prs S R:=PE.ps X qeV (fun x q=>(X1H x).bind q) qeL
theorem qf3 {R:Type}:Z7R X (qf2 (R:=R)):=Zhi (e:=qeV) qf1 qeM
def qf4:StT S:=⟨(N L (some (.ptr 1 0)) L),(N (N L o4 L) oq L),2⟩
def qf5:Way S:=⟨.ret,⟨(N L vO L),(N (N L o4 L) oq L),2⟩,[.int,(.st 20),(.lst (.st 21)),.en,(.mp (.st 23) (.int .i64))]⟩
def qf6:PE S:=⟨46,1,qf4,[(.st 20),(.lst (.st 21)),.en,(.mp (.st 23) (.int .i64))],[qf5]⟩
noncomputable def qf7:List (Nat×F7 S):=[]
theorem qf8:Z9n X qf7:=trivial
abbrev qf9 {R:Type}:Z27 S R:=Zgi
theorem qfa {R:Type}:Z3J X (qf9 (R:=R)):=ZgQ X
def qfb:Key:=⟨[46],46,none,[0,0,1,0,1],0,9⟩
def qfc:StT S:=⟨(N v1v (some (.ptr 1 0)) (N (N L none (N L vO L)) vO (N (N L vL L) none L))),(N (N L o4 L) oq L),9⟩
def qfd:Way S:=⟨(.exit 0),⟨(N L none (N L vO L)),(N (N L o4 L) oq L),10⟩,[.int,(.st 20),(.lst (.st 21)),.en,(.mp (.st 23) (.int .i64))]⟩
def qfe:LE S:=⟨qfb,qfc,[.int,.int,.int,(.lst (.st 21)),(.st 20),(.lst (.st 21)),.en,(.mp (.st 23) (.int .i64))],[qfd]⟩
def qff (x:tr):Int→tG:=fun y0=>(y0,x.2.2.2.2.1,x.2.2.2.2.2.1,x.2.2.2.2.2.2.1,x.2.2.2.2.2.2.2)
noncomputable def qfg {R:Type} (x:tr) (k:tG→Option R):Option R:=(X17 x.1 x.2.2.2.1 x.2.2.2.2.1 x.2.2.2.2.2.2.1 (x.2.1,x.2.2.1)).bind (fun y0=>k (y0,x.2.2.2.2.1,x.2.2.2.2.2.1,x.2.2.2.2.2.2.1,x.2.2.2.2.2.2.2))
def qfh (x:tr) (v:(Int×Int)):tr:=(x.1,v.1,v.2,x.2.2.2.1,x.2.2.2.2.1,x.2.2.2.2.2.1,x.2.2.2.2.2.2.1,x.2.2.2.2.2.2.2)
theorem qfi (x:tr):LE.step X qfe qf7 qf2 qf9 12 x=Xi x.1 x.2.2.2.1 x.2.2.2.2.1 x.2.2.2.2.2.2.1 x.2.1 x.2.2.1 (fun w0 w1=>(Sum.inl (x.1,w0,w1,x.2.2.2.1,x.2.2.2.2.1,x.2.2.2.2.2.1,x.2.2.2.2.2.2.1,x.2.2.2.2.2.2.2))) (fun p0=>(Sum.inr (p0,x.2.2.2.2.1,x.2.2.2.2.2.1,x.2.2.2.2.2.2.1,x.2.2.2.2.2.2.2))):=by kernel_rfl
theorem qfk {R:Type} (x:tr) (k:tG→Option R) (r:R) (h:qfg x k=some r):∃ o,Z5s (LE.step X qfe qf7 qf2 qf9 12) x o∧k o=some r:=by
 obtain ⟨o,h1,h2⟩:=Z0 h
 exact ⟨qff x o,Zhl (st:=fun (x:tr)=>Xc x.1 x.2.2.2.1 x.2.2.2.2.1 x.2.2.2.2.2.2.1) (prj:=fun x=>(x.2.1,x.2.2.1)) (emb:=qfh) (embO:=qff) (fun x=>(qfi x).trans (by unfold Xc Xi;simp only [Zhd,Zh8,Zhe,Option.map_some,Option.map_none];rfl)) (fun _ _=>rfl) (fun _ _=>rfl) (fun _ _ _=>rfl) (fun _ _ _=>rfl) (fun _=>rfl) (Z1S.1 h1),by
  first
  | exact h2
  | (rcases o with o<;>exact h2)⟩
noncomputable def qfl {R:Type}:Z27 S R:=LE.ls X qfe qfg qf9
theorem qfm {R:Type}:Z3J X (qfl (R:=R)):=Zhq xok qf8 (e:=qfe) qf3 qfa qfk qfa
theorem qfn (x:tL):PE.step X qf6 qf7 qf2 qfl 12 x=XF x.1 x.2.1 x.2.2.1 x.2.2.2:=by kernel_rfl
theorem qfo:ZaX X qf6 WJ:=Zhr (ZgU xok qf8 qf3 qfm 12) fun x _ h=>((qfn x).trans (X3b x).symm).trans h
noncomputable def qfp {R:Type}:Prs S R:=PE.ps X qf6 (fun x q=>(WJ x).bind q) qf2
theorem qfq {R:Type}:Z7R X (qfp (R:=R)):=Zhi (e:=qf6) qfo qf3
def qfr:StT S:=⟨(N (N L vO L) (some (.ptr 1 0)) L),(N (N L o4 L) oq L),2⟩
def qfs:Way S:=⟨.ret,⟨(N L vP L),(N (N L o4 L) oq L),2⟩,[.bool,(.st 20),(.lst (.st 21)),.en,(.mp (.st 23) (.int .i64))]⟩
def qft:PE S:=⟨48,2,qfr,[.int,(.st 20),(.lst (.st 21)),.en,(.mp (.st 23) (.int .i64))],[qfs]⟩
noncomputable def qfu:List (Nat×F7 S):=[(38,qba),(41,q8o)]
theorem qfv:Z9n X qfu:=⟨qbb,q8p,trivial⟩
abbrev qfw {R:Type}:Z27 S R:=Zgi
theorem qfx {R:Type}:Z3J X (qfw (R:=R)):=ZgQ X
def qfy:Key:=⟨[80,0,48],80,none,[0,0,1,0,0,1,0,0,1],2,44⟩
def qfz:StT S:=⟨(N (N (N L vO L) (some (.ptr 18 0)) L) (some (.yld 22)) (N (N L vO L) none L)),o15,44⟩
def qfA:Way S:=⟨.ret,⟨L,oQ,94⟩,[.int,(.st 20),(.lst (.st 21)),.en,(.arr (.st 5)),(.st 2),(.mp (.st 23) (.int .i64)),.bool,.int,.int]⟩
def qfB:Way S:=⟨(.exit 2),⟨v1i,o15,51⟩,[.int,.int,(.st 20),(.lst (.st 21)),.en,(.mp (.st 23) (.int .i64)),.bool,.int,.int]⟩
def qfC:LE S:=⟨qfy,qfz,[.int,.int,.int,(.st 20),(.lst (.st 21)),.en,(.mp (.st 23) (.int .i64)),.bool,.int,.int],[qfA,qfB]⟩
def qfD (x:tp):((ZJ×(List Zm)×(Nat→Nat)×(Nat→ZE)×Zu×t1g×Bool)⊕tL)→t5:=Sum.elim (fun y0=>(.inl (x.2.2.1,y0.1,y0.2.1,y0.2.2.1,y0.2.2.2.1,y0.2.2.2.2.1,y0.2.2.2.2.2.1,y0.2.2.2.2.2.2,x.2.2.2.2.2.2.2.2.1,x.2.2.2.2.2.2.2.2.2))) (fun y1=>(.inr (x.1,x.2.2.1,y1.1,y1.2.1,y1.2.2.1,y1.2.2.2,x.2.2.2.2.2.2.2.1,x.2.2.2.2.2.2.2.2.1,x.2.2.2.2.2.2.2.2.2)))
noncomputable def qfE {R:Type} (x:tp) (k:t5→Option R):Option R:=(XN x.1 x.2.2.1 x.2.2.2.2.2.2.2.2.2 (x.2.1,x.2.2.2.1,x.2.2.2.2.1,x.2.2.2.2.2.1,x.2.2.2.2.2.2.1)).bind (Sum.elim (fun y0=>k (.inl (x.2.2.1,y0.1,y0.2.1,y0.2.2.1,y0.2.2.2.1,y0.2.2.2.2.1,y0.2.2.2.2.2.1,y0.2.2.2.2.2.2,x.2.2.2.2.2.2.2.2.1,x.2.2.2.2.2.2.2.2.2))) (fun y1=>k (.inr (x.1,x.2.2.1,y1.1,y1.2.1,y1.2.2.1,y1.2.2.2,x.2.2.2.2.2.2.2.1,x.2.2.2.2.2.2.2.2.1,x.2.2.2.2.2.2.2.2.2))))
def qfF (x:tp) (v:tG):tp:=(x.1,v.1,x.2.2.1,v.2.1,v.2.2.1,v.2.2.2.1,v.2.2.2.2,x.2.2.2.2.2.2.2.1,x.2.2.2.2.2.2.2.2.1,x.2.2.2.2.2.2.2.2.2)
theorem qfG (x:tp):LE.step X qfC qfu qfp qfw 12 x=Xf x.1 x.2.2.1 x.2.2.2.2.2.2.2.2.2 x.2.1 x.2.2.2.1 x.2.2.2.2.1 x.2.2.2.2.2.1 x.2.2.2.2.2.2.1 (fun w0 w1 w2 w3 w4=>(Sum.inl (x.1,w0,x.2.2.1,w1,w2,w3,w4,x.2.2.2.2.2.2.2.1,x.2.2.2.2.2.2.2.2.1,x.2.2.2.2.2.2.2.2.2))) (fun p0 p1 p2 p3 p4 p5 p6=>(Sum.inr (.inl (x.2.2.1,p0,p1,p2,p3,p4,p5,p6,x.2.2.2.2.2.2.2.2.1,x.2.2.2.2.2.2.2.2.2)))) (fun p0 p1 p2 p3=>(Sum.inr (.inr (x.1,x.2.2.1,p0,p1,p2,p3,x.2.2.2.2.2.2.2.1,x.2.2.2.2.2.2.2.2.1,x.2.2.2.2.2.2.2.2.2)))):=by kernel_rfl
theorem qfI {R:Type} (x:tp) (k:t5→Option R) (r:R) (h:qfE x k=some r):∃ o,Z5s (LE.step X qfC qfu qfp qfw 12) x o∧k o=some r:=by
 obtain ⟨o,h1,h2⟩:=Z0 h
 exact ⟨qfD x o,Zhl (st:=fun (x:tp)=>X8 x.1 x.2.2.1 x.2.2.2.2.2.2.2.2.2) (prj:=fun x=>(x.2.1,x.2.2.2.1,x.2.2.2.2.1,x.2.2.2.2.2.1,x.2.2.2.2.2.2.1)) (emb:=qfF) (embO:=qfD) (fun x=>(qfG x).trans (by unfold X8 Xf;simp only [Zhd,Zh8,Zhe,Option.map_some,Option.map_none];rfl)) (fun _ _=>rfl) (fun _ _=>rfl) (fun _ _ _=>rfl) (fun _ _ _=>rfl) (fun _=>rfl) (Z1S.1 h1),by
  first
  | exact h2
  | (rcases o with o|o<;>exact h2)⟩
noncomputable def qfJ {R:Type}:Z27 S R:=LE.ls X qfC qfE qfw
theorem qfK {R:Type}:Z3J X (qfJ (R:=R)):=Zhq xok qfv (e:=qfC) qfq qfx qfI qfx
def qfL:Key:=⟨[80,0,48],80,none,[0,0,1],0,30⟩
def qfM:StT S:=⟨v1i,o15,30⟩
def qfN:Way S:=⟨.ret,⟨L,oQ,94⟩,[.int,(.st 20),(.lst (.st 21)),.en,(.arr (.st 5)),(.st 2),(.mp (.st 23) (.int .i64)),.bool,.int,.int]⟩
def qfO:Way S:=⟨(.exit 0),⟨L,o15,37⟩,[.int,(.st 20),(.lst (.st 21)),.en,(.mp (.st 23) (.int .i64)),.bool,.int,.int]⟩
def qfP:LE S:=⟨qfL,qfM,[.int,.int,(.st 20),(.lst (.st 21)),.en,(.mp (.st 23) (.int .i64)),.bool,.int,.int],[qfN,qfO]⟩
def qfQ (x:ts):((ZJ×(List Zm)×(Nat→Nat)×(Nat→ZE)×Zu×t1g×Bool)⊕tL)→t7:=Sum.elim (fun y0=>(.inl (x.2.1,y0.1,y0.2.1,y0.2.2.1,y0.2.2.2.1,y0.2.2.2.2.1,y0.2.2.2.2.2.1,y0.2.2.2.2.2.2,x.2.2.2.2.2.2.2.1,x.2.2.2.2.2.2.2.2))) (fun y1=>(.inr (x.2.1,y1.1,y1.2.1,y1.2.2.1,y1.2.2.2,x.2.2.2.2.2.2.1,x.2.2.2.2.2.2.2.1,x.2.2.2.2.2.2.2.2)))
noncomputable def qfR {R:Type} (x:ts) (k:t7→Option R):Option R:=(WX x.2.1 x.2.2.2.2.2.2.2.2 (x.1,x.2.2.1,x.2.2.2.1,x.2.2.2.2.1,x.2.2.2.2.2.1)).bind (Sum.elim (fun y0=>k (.inl (x.2.1,y0.1,y0.2.1,y0.2.2.1,y0.2.2.2.1,y0.2.2.2.2.1,y0.2.2.2.2.2.1,y0.2.2.2.2.2.2,x.2.2.2.2.2.2.2.1,x.2.2.2.2.2.2.2.2))) (fun y1=>k (.inr (x.2.1,y1.1,y1.2.1,y1.2.2.1,y1.2.2.2,x.2.2.2.2.2.2.1,x.2.2.2.2.2.2.2.1,x.2.2.2.2.2.2.2.2))))
def qfS (x:ts) (v:tG):ts:=(v.1,x.2.1,v.2.1,v.2.2.1,v.2.2.2.1,v.2.2.2.2,x.2.2.2.2.2.2.1,x.2.2.2.2.2.2.2.1,x.2.2.2.2.2.2.2.2)
theorem qfT (x:ts):LE.step X qfP qfu qfp qfJ 12 x=Xe x.2.1 x.2.2.2.2.2.2.2.2 x.1 x.2.2.1 x.2.2.2.1 x.2.2.2.2.1 x.2.2.2.2.2.1 (fun w0 w1 w2 w3 w4=>(Sum.inl (w0,x.2.1,w1,w2,w3,w4,x.2.2.2.2.2.2.1,x.2.2.2.2.2.2.2.1,x.2.2.2.2.2.2.2.2))) (fun p0 p1 p2 p3 p4 p5 p6=>(Sum.inr (.inl (x.2.1,p0,p1,p2,p3,p4,p5,p6,x.2.2.2.2.2.2.2.1,x.2.2.2.2.2.2.2.2)))) (fun p0 p1 p2 p3=>(Sum.inr (.inr (x.2.1,p0,p1,p2,p3,x.2.2.2.2.2.2.1,x.2.2.2.2.2.2.2.1,x.2.2.2.2.2.2.2.2)))):=by kernel_rfl
theorem qfV {R:Type} (x:ts) (k:t7→Option R) (r:R) (h:qfR x k=some r):∃ o,Z5s (LE.step X qfP qfu qfp qfJ 12) x o∧k o=some r:=by
 obtain ⟨o,h1,h2⟩:=Z0 h
 exact ⟨qfQ x o,Zhl (st:=fun (x:ts)=>X7 x.2.1 x.2.2.2.2.2.2.2.2) (prj:=fun x=>(x.1,x.2.2.1,x.2.2.2.1,x.2.2.2.2.1,x.2.2.2.2.2.1)) (emb:=qfS) (embO:=qfQ) (fun x=>(qfT x).trans (by unfold X7 Xe;simp only [Zhd,Zh8,Zhe,Option.map_some,Option.map_none];rfl)) (fun _ _=>rfl) (fun _ _=>rfl) (fun _ _ _=>rfl) (fun _ _ _=>rfl) (fun _=>rfl) (Z1S.1 h1),by
  first
  | exact h2
  | (rcases o with o|o<;>exact h2)⟩
noncomputable def qfW {R:Type}:Z27 S R:=LE.ls X qfP qfR qfJ
theorem qfX {R:Type}:Z3J X (qfW (R:=R)):=Zhq xok qfv (e:=qfP) qfq qfK qfV qfK
theorem qfY (x:tG):PE.step X qft qfu qfp qfW 12 x=Xw x.1 x.2.1 x.2.2.1 x.2.2.2.1 x.2.2.2.2:=by kernel_rfl
theorem qfZ:ZaX X qft Wi:=Zhr (ZgU xok qfv qfq qfX 12) fun x _ h=>((qfY x).trans (X2T x).symm).trans h
noncomputable def qg0 {R:Type}:Prs S R:=PE.ps X qft (fun x q=>(Wi x).bind q) qfp
theorem qg1 {R:Type}:Z7R X (qg0 (R:=R)):=Zhi (e:=qft) qfZ qfq
def qg2:StT S:=⟨(N (N (N L (some (.ptr 4 0)) L) vO (N L (some (.ptr 0 0)) L)) vO (N (N L (some (.ptr 1 0)) L) vO L)),o1p,5⟩
def qg3:Way S:=⟨.ret,⟨(N L (some (.tup [(.int .i64 0),(.bool false)])) L),o1p,5⟩,[.int,.bool,(.st 20),(.lst (.st 21)),.en,.int,(.mp (.st 23) (.int .i64))]⟩
def qg4:PE S:=⟨47,6,qg2,[.int,.int,.int,(.st 20),(.lst (.st 21)),.en,.int,(.mp (.st 23) (.int .i64))],[qg3]⟩
noncomputable def qg5:List (Nat×F7 S):=[(38,qba),(41,q8o)]
theorem qg6:Z9n X qg5:=⟨qbb,q8p,trivial⟩
abbrev qg7 (ih:tw→Option tC) {R:Type}:Z27 S R:=Zgi
theorem qg8 (ih:tw→Option tC) (hih:ZaX X qg4 ih) {R:Type}:Z3J X (qg7 ih (R:=R)):=ZgQ X
def qg9:Key:=⟨[47],47,none,[0,0,1,0,1,1],0,11⟩
def qga:StT S:=⟨(N (N (N L none (N L vO L)) none (N L (some (.ptr 0 0)) L)) vO (N (N L (some (.ptr 1 0)) L) vO L)),o1p,11⟩
def qgb:Way S:=⟨.ret,⟨(N v1s none v1z),o1p,39⟩,[.int,.bool,(.st 20),(.lst (.st 21)),.en,.int,(.mp (.st 23) (.int .i64))]⟩
def qgc:Way S:=⟨(.exit 0),⟨L,o1p,15⟩,[(.st 20),(.lst (.st 21)),.en,.int,(.mp (.st 23) (.int .i64))]⟩
def qgd:LE S:=⟨qg9,qga,[.int,.int,.int,(.st 20),(.lst (.st 21)),.en,.int,(.mp (.st 23) (.int .i64))],[qgb,qgc]⟩
def qge (x:tz):tc→tc:=Sum.elim (fun y0=>(.inl (y0.1,y0.2.1,y0.2.2.1,y0.2.2.2.1,y0.2.2.2.2.1,y0.2.2.2.2.2.1,y0.2.2.2.2.2.2))) (fun y1=>(.inr (y1.1,y1.2.1,y1.2.2.1,y1.2.2.2.1,y1.2.2.2.2)))
noncomputable def qgf (ih:tw→Option tC) {R:Type} (x:tz) (k:tc→Option R):Option R:=(X3q ih x.2.1 x.2.2.1 (x.1,x.2.2.2.1,x.2.2.2.2.1,x.2.2.2.2.2.1,x.2.2.2.2.2.2.1,x.2.2.2.2.2.2.2)).bind (Sum.elim (fun y0=>k (.inl (y0.1,y0.2.1,y0.2.2.1,y0.2.2.2.1,y0.2.2.2.2.1,y0.2.2.2.2.2.1,y0.2.2.2.2.2.2))) (fun y1=>k (.inr (y1.1,y1.2.1,y1.2.2.1,y1.2.2.2.1,y1.2.2.2.2))))
def qgg (x:tz) (v:(Int×ZJ×(List Zm)×(Nat→Nat)×Int×t1g)):tz:=(v.1,x.2.1,x.2.2.1,v.2.1,v.2.2.1,v.2.2.2.1,v.2.2.2.2.1,v.2.2.2.2.2)
theorem qgh (ih:tw→Option tC) (x:tz):LE.step X qgd qg5 (PE.ps X qg4 (fun x q=>(ih x).bind q) qg0) (qg7 ih) 12 x=XP ih x.2.1 x.2.2.1 x.1 x.2.2.2.1 x.2.2.2.2.1 x.2.2.2.2.2.1 x.2.2.2.2.2.2.1 x.2.2.2.2.2.2.2 (fun w0 w1 w2 w3 w4 w5=>(Sum.inl (w0,x.2.1,x.2.2.1,w1,w2,w3,w4,w5))) (fun p0 p1 p2 p3 p4 p5 p6=>(Sum.inr (.inl (p0,p1,p2,p3,p4,p5,p6)))) (fun p0 p1 p2 p3 p4=>(Sum.inr (.inr (p0,p1,p2,p3,p4)))):=by kernel_rfl
theorem qgj (ih:tw→Option tC) {R:Type} (x:tz) (k:tc→Option R) (r:R) (h:qgf ih x k=some r):∃ o,Z5s (LE.step X qgd qg5 (PE.ps X qg4 (fun x q=>(ih x).bind q) qg0) (qg7 ih) 12) x o∧k o=some r:=by
 obtain ⟨o,h1,h2⟩:=Z0 h
 exact ⟨qge x o,Zhl (st:=fun (x:tz)=>XA ih x.2.1 x.2.2.1) (prj:=fun x=>(x.1,x.2.2.2.1,x.2.2.2.2.1,x.2.2.2.2.2.1,x.2.2.2.2.2.2.1,x.2.2.2.2.2.2.2)) (emb:=qgg) (embO:=qge) (fun x=>(qgh ih x).trans (by unfold XA XP;simp only [Zhd,Zh8,Zhe,Option.map_some,Option.map_none];rfl)) (fun _ _=>rfl) (fun _ _=>rfl) (fun _ _ _=>rfl) (fun _ _ _=>rfl) (fun _=>rfl) (Z1S.1 h1),by
  first
  | exact h2
  | (rcases o with o|o<;>exact h2)⟩
noncomputable def qgk (ih:tw→Option tC) {R:Type}:Z27 S R:=LE.ls X qgd (qgf ih) (qg7 ih)
theorem qgl (ih:tw→Option tC) (hih:ZaX X qg4 ih) {R:Type}:Z3J X (qgk ih (R:=R)):=Zhq xok qg6 (e:=qgd) (Zhi (e:=qg4) hih qg1) (qg8 ih hih) (qgj ih) (qg8 ih hih)
theorem qgm (ih:tw→Option tC) (x:tz):PE.step X qg4 qg5 (PE.ps X qg4 (fun x q=>(ih x).bind q) qg0) (qgk ih) 12 x=X1X ih x.1 x.2.1 x.2.2.1 x.2.2.2.1 x.2.2.2.2.1 x.2.2.2.2.2.1 x.2.2.2.2.2.2.1 x.2.2.2.2.2.2.2:=by kernel_rfl
theorem qgn:ZaX X qg4 X2k:=Zhj (X:=X) (e:=qg4) (t:=Xk) fun ih hih=>Zhr (ZgU xok qg6 (Zhi (e:=qg4) hih qg1) (qgl ih hih) 12) fun x _ h=>(qgm ih x).trans h
noncomputable def qgo {R:Type}:Prs S R:=PE.ps X qg4 (fun x q=>(X2k x).bind q) qg0
theorem qgp {R:Type}:Z7R X (qgo (R:=R)):=Zhi (e:=qg4) qgn qg1
noncomputable def qgq:List (Nat×F7 S):=[(76,q9T),(41,q8o),(61,qak),(38,qba)]
theorem qgr:Z9n X (qgq):=⟨q9U,q8p,qal,qbb,trivial⟩
abbrev qgs {R:Type}:Z27 S R:=Zgi
theorem qgt {R:Type}:Z3J X (qgs (R:=R)):=ZgQ X
def qgu:Key:=⟨[25],25,none,[0,0,1,0,1,1,1,1,1,1,1],0,32⟩
def qgv:StT S:=⟨(N (N (N L none (N L vO L)) none (N (N L vO L) (some .nils) (N L vO L))) none (N (N L (some .nils) (N L vP L)) (some (.ptr 0 0)) (N (N L (some (.ptr 26 0)) L) none L))),oZ,32⟩
def qgw:Way S:=⟨(.exit 0),⟨(N (N (N L none (N L vO L)) none (N (N L vO L) (some .nils) L)) none (N (N L (some .nils) L) (some (.ptr 0 0)) L)),oZ,34⟩,[.int,.int,.int,(.mp (.st 23) (.int .i64)),(.st 20),(.st 20),(.lst (.st 21)),.en]⟩
def qgx:LE S:=⟨qgu,qgv,[.int,.int,.int,.bool,.int,(.mp (.st 23) (.int .i64)),(.st 20),(.st 20),(.lst (.st 21)),.en],[qgw]⟩
def qgy (x:to):(Int×Int×t1g×ZJ×(List Zm)×(Nat→Nat))→tx:=fun y0=>(y0.1,x.2.1,y0.2.1,y0.2.2.1,x.2.2.2.2.2.2.1,y0.2.2.2.1,y0.2.2.2.2.1,y0.2.2.2.2.2)
noncomputable def qgz {R:Type} (x:to) (k:tx→Option R):Option R:=(X2t (x.1,x.2.2.1,x.2.2.2.1,x.2.2.2.2.1,x.2.2.2.2.2.1,x.2.2.2.2.2.2.2.1,x.2.2.2.2.2.2.2.2.1,x.2.2.2.2.2.2.2.2.2)).bind (fun y0=>k (y0.1,x.2.1,y0.2.1,y0.2.2.1,x.2.2.2.2.2.2.1,y0.2.2.2.1,y0.2.2.2.2.1,y0.2.2.2.2.2))
def qgA (x:to) (v:(Int×Int×Bool×Int×t1g×ZJ×(List Zm)×(Nat→Nat))):to:=(v.1,x.2.1,v.2.1,v.2.2.1,v.2.2.2.1,v.2.2.2.2.1,x.2.2.2.2.2.2.1,v.2.2.2.2.2.1,v.2.2.2.2.2.2.1,v.2.2.2.2.2.2.2)
theorem qgB (x:to):LE.step X qgx qgq qgo qgs 12 x=X1v x.1 x.2.2.1 x.2.2.2.1 x.2.2.2.2.1 x.2.2.2.2.2.1 x.2.2.2.2.2.2.2.1 x.2.2.2.2.2.2.2.2.1 x.2.2.2.2.2.2.2.2.2 (fun w0 w1 w2 w3 w4 w5 w6 w7=>(Sum.inl (w0,x.2.1,w1,w2,w3,w4,x.2.2.2.2.2.2.1,w5,w6,w7))) (fun p0 p1 p2 p3 p4 p5=>(Sum.inr (p0,x.2.1,p1,p2,x.2.2.2.2.2.2.1,p3,p4,p5))):=by kernel_rfl
theorem qgD {R:Type} (x:to) (k:tx→Option R) (r:R) (h:qgz x k=some r):∃ o,Z5s (LE.step X qgx qgq qgo qgs 12) x o∧k o=some r:=by
 obtain ⟨o,h1,h2⟩:=Z0 h
 exact ⟨qgy x o,Zhl (st:=fun (x:to)=>X25) (prj:=fun x=>(x.1,x.2.2.1,x.2.2.2.1,x.2.2.2.2.1,x.2.2.2.2.2.1,x.2.2.2.2.2.2.2.1,x.2.2.2.2.2.2.2.2.1,x.2.2.2.2.2.2.2.2.2)) (emb:=qgA) (embO:=qgy) (fun x=>(qgB x).trans (by unfold X25 X1v;simp only [Zhd,Zh8,Zhe,Option.map_some,Option.map_none];rfl)) (fun _ _=>rfl) (fun _ _=>rfl) (fun _ _ _=>rfl) (fun _ _ _=>rfl) (fun _=>rfl) (Z1S.1 h1),by
  first
  | exact h2
  | (rcases o with o<;>exact h2)⟩
noncomputable def qgE {R:Type}:Z27 S R:=LE.ls X qgx qgz qgs
theorem qgF {R:Type}:Z3J X (qgE (R:=R)):=Zhq xok qgr (e:=qgx) qgp qgt qgD qgt
def qgG:Key:=⟨[25],25,none,[0,0,1,0,1,1,1,1,1,1,1,1],2,40⟩
def qgH:StT S:=⟨(N (N (N L none (N L vO L)) none (N (N L vO L) (some (.rs 41 0)) v1s)) none (N (N L (some (.rs 40 0)) L) none (N L none v1s))),oU,42⟩
def qgI:Way S:=⟨(.exit 2),⟨(N (N L none (N L (some (.rs 41 0)) L)) none (N (N L (some (.rs 40 0)) L) none L)),oU,43⟩,[.int,(.lst (.int .i64)),(.mp (.st 23) (.int .i64)),(.st 20),(.lst (.int .i64)),(.st 20),(.lst (.st 21)),.en]⟩
def qgJ:LE S:=⟨qgG,qgH,[.int,.int,.int,.int,.int,(.lst (.int .i64)),(.mp (.st 23) (.int .i64)),(.st 20),(.lst (.int .i64)),(.st 20),(.lst (.st 21)),.en],[qgI]⟩
def qgK (x:ti):((List Int)×(List Int))→tn:=fun y0=>(x.2.2.2.2.1,y0.1,x.2.2.2.2.2.2.1,x.2.2.2.2.2.2.2.1,y0.2,x.2.2.2.2.2.2.2.2.2.1,x.2.2.2.2.2.2.2.2.2.2.1,x.2.2.2.2.2.2.2.2.2.2.2)
noncomputable def qgL {R:Type} (x:ti) (k:tn→Option R):Option R:=(X3y x.1 x.2.1 x.2.2.1 (x.2.2.2.1,x.2.2.2.2.2.1,x.2.2.2.2.2.2.2.2.1)).bind (fun y0=>k (x.2.2.2.2.1,y0.1,x.2.2.2.2.2.2.1,x.2.2.2.2.2.2.2.1,y0.2,x.2.2.2.2.2.2.2.2.2.1,x.2.2.2.2.2.2.2.2.2.2.1,x.2.2.2.2.2.2.2.2.2.2.2))
def qgM (x:ti) (v:(Int×(List Int)×(List Int))):ti:=(x.1,x.2.1,x.2.2.1,v.1,x.2.2.2.2.1,v.2.1,x.2.2.2.2.2.2.1,x.2.2.2.2.2.2.2.1,v.2.2,x.2.2.2.2.2.2.2.2.2.1,x.2.2.2.2.2.2.2.2.2.2.1,x.2.2.2.2.2.2.2.2.2.2.2)
theorem qgN (x:ti):LE.step X qgJ qgq qgo qgE 12 x=X1w x.1 x.2.1 x.2.2.1 x.2.2.2.1 x.2.2.2.2.2.1 x.2.2.2.2.2.2.2.2.1 (fun w0 w1 w2=>(Sum.inl (x.1,x.2.1,x.2.2.1,w0,x.2.2.2.2.1,w1,x.2.2.2.2.2.2.1,x.2.2.2.2.2.2.2.1,w2,x.2.2.2.2.2.2.2.2.2.1,x.2.2.2.2.2.2.2.2.2.2.1,x.2.2.2.2.2.2.2.2.2.2.2))) (fun p0 p1=>(Sum.inr (x.2.2.2.2.1,p0,x.2.2.2.2.2.2.1,x.2.2.2.2.2.2.2.1,p1,x.2.2.2.2.2.2.2.2.2.1,x.2.2.2.2.2.2.2.2.2.2.1,x.2.2.2.2.2.2.2.2.2.2.2))):=by kernel_rfl
theorem qgP {R:Type} (x:ti) (k:tn→Option R) (r:R) (h:qgL x k=some r):∃ o,Z5s (LE.step X qgJ qgq qgo qgE 12) x o∧k o=some r:=by
 obtain ⟨o,h1,h2⟩:=Z0 h
 exact ⟨qgK x o,Zhl (st:=fun (x:ti)=>X1q x.1 x.2.1 x.2.2.1) (prj:=fun x=>(x.2.2.2.1,x.2.2.2.2.2.1,x.2.2.2.2.2.2.2.2.1)) (emb:=qgM) (embO:=qgK) (fun x=>(qgN x).trans (by unfold X1q X1w;simp only [Zhd,Zh8,Zhe,Option.map_some,Option.map_none];rfl)) (fun _ _=>rfl) (fun _ _=>rfl) (fun _ _ _=>rfl) (fun _ _ _=>rfl) (fun _=>rfl) (Z1S.1 h1),by
  first
  | exact h2
  | (rcases o with o<;>exact h2)⟩
noncomputable def qgQ {R:Type}:Z27 S R:=LE.ls X qgJ qgL qgE
theorem qgR {R:Type}:Z3J X (qgQ (R:=R)):=Zhq xok qgr (e:=qgJ) qgp qgF qgP qgF
theorem qgS (x0:ZJ) (x1:List Zm):Zhs X qgq [(.st 20),(.sl (.st 21))] [(.sl (.int .i64)),(.sl (.int .i64)),(.int .i64)] qgo qgQ 12 25 (x0,x1,())=X2C x0 x1:=by kernel_rfl
noncomputable def qgT:F7 S:=⟨[(.st 20),(.sl (.st 21))],[(.sl (.int .i64)),(.sl (.int .i64)),(.int .i64)],fun xs=>X1M xs.1 xs.2.1⟩
theorem qgU:Z7Q X 25 qgT:=Zho (Zhn xok qgr qgp qgR 12 25) fun xs _ h=>((qgS xs.1 xs.2.1).trans (X60 xs.1 xs.2.1).symm).trans h
noncomputable def qgV:List (Nat×F7 S):=[]
theorem qgW:Z9n X (qgV):=trivial
abbrev qgX {R:Type}:Z27 S R:=Zgi
theorem qgY {R:Type}:Z3J X (qgX (R:=R)):=ZgQ X
def qgZ:Key:=⟨[63],63,none,[0,0,1,0,1,1,1],0,9⟩
def qh0:StT S:=⟨(N (N (N L vO L) none L) vK (N (N L vO L) none L)),L,9⟩
def qh1:Way S:=⟨(.exit 0),⟨v1t,L,13⟩,[.int]⟩
def qh2:LE S:=⟨qgZ,qh0,[.int,(.lst (.int .i64)),.int],[qh1]⟩
def qh3 (x:t1f):Int→Int:=fun y0=>y0
noncomputable def qh4 {R:Type} (x:t1f) (k:Int→Option R):Option R:=(X2y x.2.1 (x.1,x.2.2)).bind (fun y0=>k y0)
def qh5 (x:t1f) (v:(Int×Int)):t1f:=(v.1,x.2.1,v.2)
theorem qh6 (x:t1f):LE.step X qh2 qgV qgo qgX 12 x=X1e x.2.1 x.1 x.2.2 (fun w0 w1=>(Sum.inl (w0,x.2.1,w1))) (fun p0=>(Sum.inr p0)):=by kernel_rfl
theorem qh8 {R:Type} (x:t1f) (k:Int→Option R) (r:R) (h:qh4 x k=some r):∃ o,Z5s (LE.step X qh2 qgV qgo qgX 12) x o∧k o=some r:=by
 obtain ⟨o,h1,h2⟩:=Z0 h
 exact ⟨qh3 x o,Zhl (st:=fun (x:t1f)=>X1C x.2.1) (prj:=fun x=>(x.1,x.2.2)) (emb:=qh5) (embO:=qh3) (fun x=>(qh6 x).trans (by unfold X1C X1e;simp only [Zhd,Zh8,Zhe,Option.map_some,Option.map_none];rfl)) (fun _ _=>rfl) (fun _ _=>rfl) (fun _ _ _=>rfl) (fun _ _ _=>rfl) (fun _=>rfl) (Z1S.1 h1),by
  first
  | exact h2
  | (rcases o with o<;>exact h2)⟩
noncomputable def qh9 {R:Type}:Z27 S R:=LE.ls X qh2 qh4 qgX
theorem qha {R:Type}:Z3J X (qh9 (R:=R)):=Zhq xok qgW (e:=qh2) qgp qgY qh8 qgY
theorem qhb (x0:List Int):Zhs X qgV [(.sl (.int .i64))] [(.int .i64)] qgo qh9 12 63 (x0,())=WY x0:=by kernel_rfl
noncomputable def qhc:F7 S:=⟨[(.sl (.int .i64))],[(.int .i64)],fun xs=>X2Q xs.1⟩
theorem qhd:Z7Q X 63 qhc:=Zho (Zhn xok qgW qgp qha 12 63) fun xs _ h=>((qhb xs.1).trans (X5a xs.1).symm).trans h
def qhe:StT S:=⟨(N (N (N L vO L) vN L) (some (.ptr 1 0)) (N L vO L)),(N (N L o4 L) oq L),2⟩
def qhf:Way S:=⟨.ret,⟨(N L vO L),(N (N L o4 L) oq L),2⟩,[.int,(.st 20),(.lst (.st 21)),.en,(.mp (.st 23) (.int .i64))]⟩
def qhg:PE S:=⟨50,4,qhe,[.int,(.lst (.st 2)),.int,(.st 20),(.lst (.st 21)),.en,(.mp (.st 23) (.int .i64))],[qhf]⟩
noncomputable def qhh:List (Nat×F7 S):=[(38,qba),(41,q8o),(63,qhc)]
theorem qhi:Z9n X qhh:=⟨qbb,q8p,qhd,trivial⟩
abbrev qhj {R:Type}:Z27 S R:=Zgi
theorem qhk {R:Type}:Z3J X (qhj (R:=R)):=ZgQ X
def qhl:Key:=⟨[50],50,none,[0,0,1,1,1,1,1,0,0,1,1,0,0,1,0,1,1],2,39⟩
def qhm:StT S:=⟨(N (N (N L vO v1s) none (N (N (N L vO L) (some (.ptr 3 0)) L) none L)) (some (.ptr 1 0)) (N (N (N (N L vN L) none L) none (N L (some (.ptr 18 0)) (N (N L vO L) none L))) vO (N (N (N L vO L) none L) none (N L vO L)))),o1f,39⟩
def qhn:Way S:=⟨(.exit 2),⟨vV,o1f,40⟩,[.int,.int,(.lst (.st 2)),.int,.int,(.arr (.int .i64)),(.st 20),(.lst (.st 21)),.en,(.mp (.st 23) (.int .i64)),(.arr (.st 5)),(.st 2)]⟩
def qho:LE S:=⟨qhl,qhm,[.int,.int,.int,(.lst (.st 2)),.int,.int,.int,.int,(.arr (.int .i64)),(.st 20),(.lst (.st 21)),.en,(.mp (.st 23) (.int .i64)),(.arr (.st 5)),(.st 2)],[qhn]⟩
def qhp (x:td):(Nat→Int)→te:=fun y0=>(x.1,x.2.2.1,x.2.2.2.1,x.2.2.2.2.2.1,x.2.2.2.2.2.2.1,y0,x.2.2.2.2.2.2.2.2.2.1,x.2.2.2.2.2.2.2.2.2.2.1,x.2.2.2.2.2.2.2.2.2.2.2.1,x.2.2.2.2.2.2.2.2.2.2.2.2.1,x.2.2.2.2.2.2.2.2.2.2.2.2.2.1,x.2.2.2.2.2.2.2.2.2.2.2.2.2.2)
noncomputable def qhq {R:Type} (x:td) (k:te→Option R):Option R:=(X2E x.1 x.2.1 x.2.2.1 x.2.2.2.1 x.2.2.2.2.2.1 x.2.2.2.2.2.2.1 x.2.2.2.2.2.2.2.1 x.2.2.2.2.2.2.2.2.2.1 x.2.2.2.2.2.2.2.2.2.2.1 x.2.2.2.2.2.2.2.2.2.2.2.1 x.2.2.2.2.2.2.2.2.2.2.2.2.1 x.2.2.2.2.2.2.2.2.2.2.2.2.2.1 x.2.2.2.2.2.2.2.2.2.2.2.2.2.2 (x.2.2.2.2.1,x.2.2.2.2.2.2.2.2.1)).bind (fun y0=>k (x.1,x.2.2.1,x.2.2.2.1,x.2.2.2.2.2.1,x.2.2.2.2.2.2.1,y0,x.2.2.2.2.2.2.2.2.2.1,x.2.2.2.2.2.2.2.2.2.2.1,x.2.2.2.2.2.2.2.2.2.2.2.1,x.2.2.2.2.2.2.2.2.2.2.2.2.1,x.2.2.2.2.2.2.2.2.2.2.2.2.2.1,x.2.2.2.2.2.2.2.2.2.2.2.2.2.2))
def qhr (x:td) (v:(Int×(Nat→Int))):td:=(x.1,x.2.1,x.2.2.1,x.2.2.2.1,v.1,x.2.2.2.2.2.1,x.2.2.2.2.2.2.1,x.2.2.2.2.2.2.2.1,v.2,x.2.2.2.2.2.2.2.2.2.1,x.2.2.2.2.2.2.2.2.2.2.1,x.2.2.2.2.2.2.2.2.2.2.2.1,x.2.2.2.2.2.2.2.2.2.2.2.2.1,x.2.2.2.2.2.2.2.2.2.2.2.2.2.1,x.2.2.2.2.2.2.2.2.2.2.2.2.2.2)
theorem qhs (x:td):LE.step X qho qhh qgo qhj 12 x=X1k x.1 x.2.1 x.2.2.1 x.2.2.2.1 x.2.2.2.2.2.1 x.2.2.2.2.2.2.1 x.2.2.2.2.2.2.2.1 x.2.2.2.2.2.2.2.2.2.1 x.2.2.2.2.2.2.2.2.2.2.1 x.2.2.2.2.2.2.2.2.2.2.2.1 x.2.2.2.2.2.2.2.2.2.2.2.2.1 x.2.2.2.2.2.2.2.2.2.2.2.2.2.1 x.2.2.2.2.2.2.2.2.2.2.2.2.2.2 x.2.2.2.2.1 x.2.2.2.2.2.2.2.2.1 (fun w0 w1=>(Sum.inl (x.1,x.2.1,x.2.2.1,x.2.2.2.1,w0,x.2.2.2.2.2.1,x.2.2.2.2.2.2.1,x.2.2.2.2.2.2.2.1,w1,x.2.2.2.2.2.2.2.2.2.1,x.2.2.2.2.2.2.2.2.2.2.1,x.2.2.2.2.2.2.2.2.2.2.2.1,x.2.2.2.2.2.2.2.2.2.2.2.2.1,x.2.2.2.2.2.2.2.2.2.2.2.2.2.1,x.2.2.2.2.2.2.2.2.2.2.2.2.2.2))) (fun p0=>(Sum.inr (x.1,x.2.2.1,x.2.2.2.1,x.2.2.2.2.2.1,x.2.2.2.2.2.2.1,p0,x.2.2.2.2.2.2.2.2.2.1,x.2.2.2.2.2.2.2.2.2.2.1,x.2.2.2.2.2.2.2.2.2.2.2.1,x.2.2.2.2.2.2.2.2.2.2.2.2.1,x.2.2.2.2.2.2.2.2.2.2.2.2.2.1,x.2.2.2.2.2.2.2.2.2.2.2.2.2.2))):=by kernel_rfl
theorem qhu {R:Type} (x:td) (k:te→Option R) (r:R) (h:qhq x k=some r):∃ o,Z5s (LE.step X qho qhh qgo qhj 12) x o∧k o=some r:=by
 obtain ⟨o,h1,h2⟩:=Z0 h
 exact ⟨qhp x o,Zhl (st:=fun (x:td)=>X1O x.1 x.2.1 x.2.2.1 x.2.2.2.1 x.2.2.2.2.2.1 x.2.2.2.2.2.2.1 x.2.2.2.2.2.2.2.1 x.2.2.2.2.2.2.2.2.2.1 x.2.2.2.2.2.2.2.2.2.2.1 x.2.2.2.2.2.2.2.2.2.2.2.1 x.2.2.2.2.2.2.2.2.2.2.2.2.1 x.2.2.2.2.2.2.2.2.2.2.2.2.2.1 x.2.2.2.2.2.2.2.2.2.2.2.2.2.2) (prj:=fun x=>(x.2.2.2.2.1,x.2.2.2.2.2.2.2.2.1)) (emb:=qhr) (embO:=qhp) (fun x=>(qhs x).trans (by unfold X1O X1k;simp only [Zhd,Zh8,Zhe,Option.map_some,Option.map_none];rfl)) (fun _ _=>rfl) (fun _ _=>rfl) (fun _ _ _=>rfl) (fun _ _ _=>rfl) (fun _=>rfl) (Z1S.1 h1),by
  first
  | exact h2
  | (rcases o with o<;>exact h2)⟩
noncomputable def qhv {R:Type}:Z27 S R:=LE.ls X qho qhq qhj
theorem qhw {R:Type}:Z3J X (qhv (R:=R)):=Zhq xok qhi (e:=qho) qgp qhk qhu qhk
def qhx:Key:=⟨[50],50,none,[0,0,1,0,1,1],0,7⟩
def qhy:StT S:=⟨vV,(N (N (N L o8 L) o4 L) oq L),7⟩
def qhz:Way S:=⟨(.exit 0),⟨(N (N L none v1r) none L),(N (N (N L o8 L) o4 L) oq L),8⟩,[(.arr (.int .i64)),(.st 20),(.lst (.st 21)),.en,(.mp (.st 23) (.int .i64))]⟩
def qhA:LE S:=⟨qhx,qhy,[.int,.int,(.lst (.st 2)),.int,.int,(.arr (.int .i64)),(.st 20),(.lst (.st 21)),.en,(.mp (.st 23) (.int .i64))],[qhz]⟩
def qhB (x:tm):tE→tE:=fun y0=>(y0.1,y0.2.1,y0.2.2.1,y0.2.2.2.1,y0.2.2.2.2)
noncomputable def qhC {R:Type} (x:tm) (k:tE→Option R):Option R:=(X2D x.1 x.2.1 x.2.2.1 x.2.2.2.1 (x.2.2.2.2.1,x.2.2.2.2.2.1,x.2.2.2.2.2.2.1,x.2.2.2.2.2.2.2.1,x.2.2.2.2.2.2.2.2.1,x.2.2.2.2.2.2.2.2.2)).bind (fun y0=>k (y0.1,y0.2.1,y0.2.2.1,y0.2.2.2.1,y0.2.2.2.2))
def qhD (x:tm) (v:(Int×(Nat→Int)×ZJ×(List Zm)×(Nat→Nat)×t1g)):tm:=(x.1,x.2.1,x.2.2.1,x.2.2.2.1,v.1,v.2.1,v.2.2.1,v.2.2.2.1,v.2.2.2.2.1,v.2.2.2.2.2)
theorem qhE (x:tm):LE.step X qhA qhh qgo qhv 12 x=X1j x.1 x.2.1 x.2.2.1 x.2.2.2.1 x.2.2.2.2.1 x.2.2.2.2.2.1 x.2.2.2.2.2.2.1 x.2.2.2.2.2.2.2.1 x.2.2.2.2.2.2.2.2.1 x.2.2.2.2.2.2.2.2.2 (fun w0 w1 w2 w3 w4 w5=>(Sum.inl (x.1,x.2.1,x.2.2.1,x.2.2.2.1,w0,w1,w2,w3,w4,w5))) (fun p0 p1 p2 p3 p4=>(Sum.inr (p0,p1,p2,p3,p4))):=by kernel_rfl
theorem qhG {R:Type} (x:tm) (k:tE→Option R) (r:R) (h:qhC x k=some r):∃ o,Z5s (LE.step X qhA qhh qgo qhv 12) x o∧k o=some r:=by
 obtain ⟨o,h1,h2⟩:=Z0 h
 exact ⟨qhB x o,Zhl (st:=fun (x:tm)=>X1N x.1 x.2.1 x.2.2.1 x.2.2.2.1) (prj:=fun x=>(x.2.2.2.2.1,x.2.2.2.2.2.1,x.2.2.2.2.2.2.1,x.2.2.2.2.2.2.2.1,x.2.2.2.2.2.2.2.2.1,x.2.2.2.2.2.2.2.2.2)) (emb:=qhD) (embO:=qhB) (fun x=>(qhE x).trans (by unfold X1N X1j;simp only [Zhd,Zh8,Zhe,Option.map_some,Option.map_none];rfl)) (fun _ _=>rfl) (fun _ _=>rfl) (fun _ _ _=>rfl) (fun _ _ _=>rfl) (fun _=>rfl) (Z1S.1 h1),by
  first
  | exact h2
  | (rcases o with o<;>exact h2)⟩
noncomputable def qhH {R:Type}:Z27 S R:=LE.ls X qhA qhC qhv
theorem qhI {R:Type}:Z3J X (qhH (R:=R)):=Zhq xok qhi (e:=qhA) qgp qhw qhG qhw
theorem qhJ (x:(Int×(List Zu)×Int×ZJ×(List Zm)×(Nat→Nat)×t1g)):PE.step X qhg qhh qgo qhH 12 x=X1f x.1 x.2.1 x.2.2.1 x.2.2.2.1 x.2.2.2.2.1 x.2.2.2.2.2.1 x.2.2.2.2.2.2:=by kernel_rfl
theorem qhK:ZaX X qhg X34:=Zhr (ZgU xok qhi qgp qhI 12) fun x _ h=>((qhJ x).trans (X5g x).symm).trans h
noncomputable def qhL {R:Type}:Prs S R:=PE.ps X qhg (fun x q=>(X34 x).bind q) qgo
theorem qhM {R:Type}:Z7R X (qhL (R:=R)):=Zhi (e:=qhg) qhK qgp
noncomputable def qhN:List (Nat×F7 S):=[]
theorem qhO:Z9n X (qhN):=trivial
abbrev qhP {R:Type}:Z27 S R:=Zgi
theorem qhQ {R:Type}:Z3J X (qhP (R:=R)):=ZgQ X
def qhR:Key:=⟨[17],17,none,[0,0,1,0,1,1],0,7⟩
def qhS:StT S:=⟨(N (N L vN (N L vO L)) vN L),L,7⟩
def qhT:Way S:=⟨.ret,⟨v1z,L,21⟩,[.bool]⟩
def qhU:Way S:=⟨(.exit 0),⟨L,L,11⟩,[]⟩
def qhV:LE S:=⟨qhR,qhS,[(.lst (.st 2)),.int,(.lst (.st 2))],[qhT,qhU]⟩
def qhW (x:t11):(Bool⊕Unit)→(Bool⊕Unit):=Sum.elim (fun y0=>(.inl y0)) (fun y1=>(.inr ()))
noncomputable def qhX {R:Type} (x:t11) (k:(Bool⊕Unit)→Option R):Option R:=(X2A x.1 x.2.2 x.2.1).bind (Sum.elim (fun y0=>k (.inl y0)) (fun y1=>k (.inr ())))
def qhY (x:t11) (v:Int):t11:=(x.1,v,x.2.2)
theorem qhZ (x:t11):LE.step X qhV qhN qhL qhP 12 x=Wk x.1 x.2.2 x.2.1 (fun w0=>(Sum.inl (x.1,w0,x.2.2))) (fun p0=>(Sum.inr (.inl p0))) (Sum.inr (.inr ())):=by kernel_rfl
theorem qi1 {R:Type} (x:t11) (k:(Bool⊕Unit)→Option R) (r:R) (h:qhX x k=some r):∃ o,Z5s (LE.step X qhV qhN qhL qhP 12) x o∧k o=some r:=by
 obtain ⟨o,h1,h2⟩:=Z0 h
 exact ⟨qhW x o,Zhl (st:=fun (x:t11)=>W8 x.1 x.2.2) (prj:=fun x=>x.2.1) (emb:=qhY) (embO:=qhW) (fun x=>(qhZ x).trans (by unfold W8 Wk;simp only [Zhd,Zh8,Zhe,Option.map_some,Option.map_none];rfl)) (fun _ _=>rfl) (fun _ _=>rfl) (fun _ _ _=>rfl) (fun _ _ _=>rfl) (fun _=>rfl) (Z1S.1 h1),by
  first
  | exact h2
  | (rcases o with o|o<;>exact h2)⟩
noncomputable def qi2 {R:Type}:Z27 S R:=LE.ls X qhV qhX qhP
theorem qi3 {R:Type}:Z3J X (qi2 (R:=R)):=Zhq xok qhO (e:=qhV) qhM qhQ qi1 qhQ
theorem qi4 (x0:List Zu) (x1:List Zu):Zhs X qhN [(.sl (.st 2)),(.sl (.st 2))] [.bool] qhL qi2 12 17 (x0,x1,())=X1z x0 x1:=by kernel_rfl
noncomputable def qi5:F7 S:=⟨[(.sl (.st 2)),(.sl (.st 2))],[.bool],fun xs=>X1z xs.1 xs.2.1⟩
theorem qi6:Z7Q X 17 qi5:=Zho (Zhn xok qhO qhM qi3 12 17) fun xs _ h=>(qi4 xs.1 xs.2.1).trans h
noncomputable def qi7:List (Nat×F7 S):=[]
theorem qi8:Z9n X (qi7):=trivial
abbrev qi9 {R:Type}:Z27 S R:=Zgi
theorem qia {R:Type}:Z3J X (qi9 (R:=R)):=ZgQ X
def qib:Key:=⟨[18],18,none,[0,0,1,0,1,1],0,7⟩
def qic:StT S:=⟨(N (N L (some (.sl (.st 5) [])) (N L vO L)) (some (.sl (.st 5) [])) L),L,7⟩
def qid:Way S:=⟨.ret,⟨v1z,L,21⟩,[.bool]⟩
def qie:Way S:=⟨(.exit 0),⟨L,L,11⟩,[]⟩
def qif:LE S:=⟨qib,qic,[(.lst (.st 5)),.int,(.lst (.st 5))],[qid,qie]⟩
def qig (x:t15):(Bool⊕Unit)→(Bool⊕Unit):=Sum.elim (fun y0=>(.inl y0)) (fun y1=>(.inr ()))
noncomputable def qih {R:Type} (x:t15) (k:(Bool⊕Unit)→Option R):Option R:=(X2N x.1 x.2.2 x.2.1).bind (Sum.elim (fun y0=>k (.inl y0)) (fun y1=>k (.inr ())))
def qii (x:t15) (v:Int):t15:=(x.1,v,x.2.2)
theorem qij (x:t15):LE.step X qif qi7 qhL qi9 12 x=WR x.1 x.2.2 x.2.1 (fun w0=>(Sum.inl (x.1,w0,x.2.2))) (fun p0=>(Sum.inr (.inl p0))) (Sum.inr (.inr ())):=by kernel_rfl
theorem qil {R:Type} (x:t15) (k:(Bool⊕Unit)→Option R) (r:R) (h:qih x k=some r):∃ o,Z5s (LE.step X qif qi7 qhL qi9 12) x o∧k o=some r:=by
 obtain ⟨o,h1,h2⟩:=Z0 h
 exact ⟨qig x o,Zhl (st:=fun (x:t15)=>Wy x.1 x.2.2) (prj:=fun x=>x.2.1) (emb:=qii) (embO:=qig) (fun x=>(qij x).trans (by unfold Wy WR;simp only [Zhd,Zh8,Zhe,Option.map_some,Option.map_none];rfl)) (fun _ _=>rfl) (fun _ _=>rfl) (fun _ _ _=>rfl) (fun _ _ _=>rfl) (fun _=>rfl) (Z1S.1 h1),by
  first
  | exact h2
  | (rcases o with o|o<;>exact h2)⟩
noncomputable def qim {R:Type}:Z27 S R:=LE.ls X qif qih qi9
theorem qin {R:Type}:Z3J X (qim (R:=R)):=Zhq xok qi8 (e:=qif) qhM qia qil qia
theorem qio (x0:List ZE) (x1:List ZE):Zhs X qi7 [(.sl (.st 5)),(.sl (.st 5))] [.bool] qhL qim 12 18 (x0,x1,())=X28 x0 x1:=by kernel_rfl
noncomputable def qip:F7 S:=⟨[(.sl (.st 5)),(.sl (.st 5))],[.bool],fun xs=>X2p xs.1 xs.2.1⟩
theorem qiq:Z7Q X 18 qip:=Zho (Zhn xok qi8 qhM qin 12 18) fun xs _ h=>((qio xs.1 xs.2.1).trans (X5n xs.1 xs.2.1).symm).trans h
noncomputable def qir:List (Nat×F7 S):=[]
theorem qis:Z9n X (qir):=trivial
abbrev qit {R:Type}:Z27 S R:=Zgi
theorem qiu {R:Type}:Z3J X (qit (R:=R)):=ZgQ X
def qiv:Key:=⟨[34],34,none,[0,0,1,0,1,1],0,7⟩
def qiw:StT S:=⟨(N (N L vK (N L vO L)) vK L),L,7⟩
def qix:Way S:=⟨.ret,⟨v1z,L,21⟩,[.bool]⟩
def qiy:Way S:=⟨(.exit 0),⟨L,L,11⟩,[]⟩
def qiz:LE S:=⟨qiv,qiw,[(.lst (.int .i64)),.int,(.lst (.int .i64))],[qix,qiy]⟩
def qiA (x:t19):(Bool⊕Unit)→(Bool⊕Unit):=Sum.elim (fun y0=>(.inl y0)) (fun y1=>(.inr ()))
noncomputable def qiB {R:Type} (x:t19) (k:(Bool⊕Unit)→Option R):Option R:=(X3l x.1 x.2.2 x.2.1).bind (Sum.elim (fun y0=>k (.inl y0)) (fun y1=>k (.inr ())))
def qiC (x:t19) (v:Int):t19:=(x.1,v,x.2.2)
theorem qiD (x:t19):LE.step X qiz qir qhL qit 12 x=X1b x.1 x.2.2 x.2.1 (fun w0=>(Sum.inl (x.1,w0,x.2.2))) (fun p0=>(Sum.inr (.inl p0))) (Sum.inr (.inr ())):=by kernel_rfl
theorem qiF {R:Type} (x:t19) (k:(Bool⊕Unit)→Option R) (r:R) (h:qiB x k=some r):∃ o,Z5s (LE.step X qiz qir qhL qit 12) x o∧k o=some r:=by
 obtain ⟨o,h1,h2⟩:=Z0 h
 exact ⟨qiA x o,Zhl (st:=fun (x:t19)=>X11 x.1 x.2.2) (prj:=fun x=>x.2.1) (emb:=qiC) (embO:=qiA) (fun x=>(qiD x).trans (by unfold X11 X1b;simp only [Zhd,Zh8,Zhe,Option.map_some,Option.map_none];rfl)) (fun _ _=>rfl) (fun _ _=>rfl) (fun _ _ _=>rfl) (fun _ _ _=>rfl) (fun _=>rfl) (Z1S.1 h1),by
  first
  | exact h2
  | (rcases o with o|o<;>exact h2)⟩
noncomputable def qiG {R:Type}:Z27 S R:=LE.ls X qiz qiB qit
theorem qiH {R:Type}:Z3J X (qiG (R:=R)):=Zhq xok qis (e:=qiz) qhM qiu qiF qiu
theorem qiI (x0:List Int) (x1:List Int):Zhs X qir [(.sl (.int .i64)),(.sl (.int .i64))] [.bool] qhL qiG 12 34 (x0,x1,())=WD x0 x1:=by kernel_rfl
noncomputable def qiJ:F7 S:=⟨[(.sl (.int .i64)),(.sl (.int .i64))],[.bool],fun xs=>WD xs.1 xs.2.1⟩
theorem qiK:Z7Q X 34 qiJ:=Zho (Zhn xok qis qhM qiH 12 34) fun xs _ h=>(qiI xs.1 xs.2.1).trans h
noncomputable def qiL:F7 S:=⟨[],[.bool],fun _=>X6q⟩
theorem qiM:Z7Q X 20 qiL:=ZeO (X:=X) (F:=X6q) rfl Zdy
noncomputable def qiN:List (Nat×F7 S):=[]
theorem qiO:Z9n X (qiN):=trivial
abbrev qiP {R:Type}:Z27 S R:=Zgi
theorem qiQ {R:Type}:Z3J X (qiP (R:=R)):=ZgQ X
theorem qiR (x0:List Int) (x1:Int):Zhs X qiN [(.sl (.int .u16)),(.int .i64)] [(.int .i64)] qhL qiP 12 32 (x0,x1,())=X2n x0 x1:=by kernel_rfl
noncomputable def qiS:F7 S:=⟨[(.sl (.int .u16)),(.int .i64)],[(.int .i64)],fun xs=>X3z xs.1 xs.2.1⟩
theorem qiT:Z7Q X 32 qiS:=Zho (Zhn xok qiO qhM qiQ 12 32) fun xs _ h=>((qiR xs.1 xs.2.1).trans (X5L xs.1 xs.2.1).symm).trans h
noncomputable def qiU:List (Nat×F7 S):=[]
theorem qiV:Z9n X (qiU):=trivial
abbrev qiW {R:Type}:Z27 S R:=Zgi
theorem qiX {R:Type}:Z3J X (qiW (R:=R)):=ZgQ X
theorem qiY (x0:ZJ) (x1:Z4):Zhs X qiU [(.st 20),(.st 22)] [(.st 2)] qhL qiW 12 33 (x0,x1,())=X3i x0 x1:=by kernel_rfl
noncomputable def qiZ:F7 S:=⟨[(.st 20),(.st 22)],[(.st 2)],fun xs=>X2l xs.1 xs.2.1⟩
theorem qj0:Z7Q X 33 qiZ:=Zho (Zhn xok qiV qhM qiX 12 33) fun xs _ h=>((qiY xs.1 xs.2.1).trans (X6o xs.1 xs.2.1).symm).trans h
noncomputable def qj1:List (Nat×F7 S):=[(22,q5h),(20,qiL),(32,qiS),(11,qeu),(33,qiZ),(15,qeS),(25,qgT),(17,qi5),(18,qip),(34,qiJ)]
theorem qj2:Z9n X (qj1):=⟨q5i,qiM,qiT,qev,qj0,qeT,qgU,qi6,qiq,qiK,trivial⟩
abbrev qj3 {R:Type}:Z27 S R:=Zgi
theorem qj4 {R:Type}:Z3J X (qj3 (R:=R)):=ZgQ X
def qj5:Key:=⟨[7],7,none,[0,0,1,0,1,1,1],0,9⟩
def qj6:StT S:=⟨(N v1d none v1t),o13,10⟩
def qj7:Way S:=⟨(.exit 0),⟨(N v1d none L),o13,14⟩,[(.lst (.st 21)),(.st 22),(.lst (.st 21)),(.st 20)]⟩
def qj8:LE S:=⟨qj5,qj6,[(.lst (.st 21)),.int,(.st 22),(.lst (.st 21)),(.st 20)],[qj7]⟩
def qj9 (x:tM):(List Zm)→tP:=fun y0=>(x.1,x.2.2.1,y0,x.2.2.2.2)
noncomputable def qja {R:Type} (x:tM) (k:tP→Option R):Option R:=(X2e x.1 x.2.2.1 (x.2.1,x.2.2.2.1)).bind (fun y0=>k (x.1,x.2.2.1,y0,x.2.2.2.2))
def qjb (x:tM) (v:(Int×(List Zm))):tM:=(x.1,v.1,x.2.2.1,v.2,x.2.2.2.2)
theorem qjc (x:tM):LE.step X qj8 qj1 qhL qj3 12 x=XV x.1 x.2.2.1 x.2.1 x.2.2.2.1 (fun w0 w1=>(Sum.inl (x.1,w0,x.2.2.1,w1,x.2.2.2.2))) (fun p0=>(Sum.inr (x.1,x.2.2.1,p0,x.2.2.2.2))):=by kernel_rfl
theorem qje {R:Type} (x:tM) (k:tP→Option R) (r:R) (h:qja x k=some r):∃ o,Z5s (LE.step X qj8 qj1 qhL qj3 12) x o∧k o=some r:=by
 obtain ⟨o,h1,h2⟩:=Z0 h
 exact ⟨qj9 x o,Zhl (st:=fun (x:tM)=>XK x.1 x.2.2.1) (prj:=fun x=>(x.2.1,x.2.2.2.1)) (emb:=qjb) (embO:=qj9) (fun x=>(qjc x).trans (by unfold XK XV;simp only [Zhd,Zh8,Zhe,Option.map_some,Option.map_none];rfl)) (fun _ _=>rfl) (fun _ _=>rfl) (fun _ _ _=>rfl) (fun _ _ _=>rfl) (fun _=>rfl) (Z1S.1 h1),by
  first
  | exact h2
  | (rcases o with o<;>exact h2)⟩
noncomputable def qjf {R:Type}:Z27 S R:=LE.ls X qj8 qja qj3
theorem qjg {R:Type}:Z3J X (qjf (R:=R)):=Zhq xok qj2 (e:=qj8) qhM qj4 qje qj4
theorem qjh (x0:ZJ) (x1:List Zm) (x2:Z4):Zhs X qj1 [(.st 20),(.sl (.st 21)),(.st 22)] [.bool] qhL qjf 12 7 (x0,x1,x2,())=X1a x0 x1 x2:=by kernel_rfl
noncomputable def qji:F7 S:=⟨[(.st 20),(.sl (.st 21)),(.st 22)],[.bool],fun xs=>X3j xs.1 xs.2.1 xs.2.2.1⟩
theorem X5C:Z7Q X 7 qji:=Zho (Zhn xok qj2 qhM qjg 12 7) fun xs _ h=>((qjh xs.1 xs.2.1 xs.2.2.1).trans (X4k xs.1 xs.2.1 xs.2.2.1).symm).trans h
end Nore
