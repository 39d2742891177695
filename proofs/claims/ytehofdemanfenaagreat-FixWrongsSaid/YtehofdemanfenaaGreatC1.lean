/- The code comes to the plain functions. -/
import Derived.Test.YtehofdemanfenaaGreatY
import Derived.Test.YtehofdemanfenaaGreatD
import Derived.Test.YtehofdemanfenaaGreatK6
set_option linter.unusedSectionVars false
set_option linter.unusedVariables false
set_option linter.unusedSimpArgs false
set_option maxRecDepth 100000
open Go Go.Ab Go.Proofs Go.Proofs.YtehofdemanfenaaGreat
open Go.Ab.Tr renaming node→N,leaf→L
namespace Nore
noncomputable section
abbrev t1v:Type:=List (Zh×Int)
abbrev t1u:Type:=Int×(List Int)×Int
abbrev t1t:Type:=List (ByteArray×Int)
abbrev t1s:Type:=Int×Int×Int×Zw
abbrev t1r:Type:=Int×(List Zt)×Int
abbrev t1q:Type:=Int×(List Zu)×ZI
abbrev t1p:Type:=(Int×Int×Zt)⊕Unit
abbrev t1o:Type:=(List Zl)×Int×ZI
abbrev t1n:Type:=(List Int)×Int×(List Int)
abbrev t1m:Type:=Int×(List Int)×(List Int)
abbrev t1l:Type:=Int×(List ByteArray)×ZI
abbrev t1k:Type:=Int×Int×(List Zu)×Int
abbrev t1j:Type:=Int×(List Zu)×Int×Int
abbrev t1i:Type:=(Int×Int×Int)⊕(Int×Int)
abbrev t1h:Type:=Int×Int×ZI×(List Zu)
abbrev t1g:Type:=Int×(List ByteArray)×Zk
abbrev t1f:Type:=Int×Zk×(List ByteArray)
abbrev t1e:Type:=Int×(List Zt)×Int×Zu
abbrev t1d:Type:=(Nat→Zu)×Int×Int×Zu
abbrev t1c:Type:=Int×ByteArray×ByteArray×Nat
abbrev t1b:Type:=ByteArray×Int×(List ByteArray)
abbrev t1a:Type:=Int×(List Int)×Int×Int×Int
abbrev t19:Type:=Int×Int×(List ZE)×Int×Int
abbrev t18:Type:=Int×(List Z5)×Int×ZI
abbrev t17:Type:=Int×(List Zl)×Int×Int×ZI
abbrev t16:Type:=ZI×(List Zl)×Int×Int×Unit
abbrev t15:Type:=Int×Int×Int×(List Zj)×(List Int)
abbrev t14:Type:=Int×(List Z5)×Int×Z5
abbrev t13:Type:=(Int×(List Int)×ZI×(List Int))⊕ZI
abbrev t12:Type:=(List Zl)×(List Bool)×ZI×(List Bool)
abbrev t11:Type:=(Int×Z5×Z5)⊕Z5
abbrev t10:Type:=Int×Int×Int×t1t×CtSand
abbrev tZ:Type:=Int×(List Zl)×Int×(List (List Int))×ZI
abbrev tY:Type:=Int×(List Zl)×Int×ZI×(List (List Int))
abbrev tX:Type:=(Int×(List Int)×Zu×(List Int)×Zt)⊕Zu
abbrev tW:Type:=(Int×Int×Z5×Z5×ZI)⊕ZI
abbrev tV:Type:=Int×Int×Int×(List ByteArray)×Zw×(List ByteArray)
abbrev tU:Type:=ZI×(List Zl)×(Nat→Nat)×t1v
abbrev tT:Type:=Int×(List CtSand)×Int×Zk×t1t
abbrev tS:Type:=Int×Int×(List Zw)×Zk×t1t
abbrev tR:Type:=(Bool×ByteArray×Nat)⊕t1c
abbrev tQ:Type:=Int×(List (List Int))×Int×(List Int)×ZI×(List Int)
abbrev tP:Type:=(List Bool)×Int×(List Zl)×(List Bool)×Zu×ZI
abbrev tO:Type:=Int×ZI×(List Zl)×(Nat→Nat)×t1v
abbrev tN:Type:=(List Zl)×Int×(List Int)×(List Bool)×ZI×(List Bool)
abbrev tM:Type:=Int×(List Zl)×(List Bool)×Int×Zu×ZI×(List Int)
abbrev tL:Type:=Int×(List Zl)×(List Zu)×(List Bool)×ZI×(List Bool)
abbrev tK:Type:=(Int×(List Int)×ZI×(List Int))⊕t1o
abbrev tJ:Type:=(Int×Int×Int×(List ByteArray)×ZI)⊕((List ByteArray)×ZI)
abbrev tI:Type:=(Nat→Int)×ZI×(List Zl)×(Nat→Nat)×t1v
abbrev tH:Type:=Int×(List Zl)×Bool×(List Bool)×Int×Zu×ZI×(List Int)
abbrev tG:Type:=(List Zu)×ZI×(List Zl)×(Nat→Nat)×t1v
abbrev tF:Type:=(Bool×(List Bool)×ZI×(List Bool))⊕((List Bool)×ZI×(List Bool))
abbrev tE:Type:=Int×(List (List Int))×(List Zl)×Int×Int×ZI×(List (List Int))
abbrev tD:Type:=Int×(List Zl)×Bool×(List Bool)×Int×Int×Zu×ZI×(List Int)
abbrev tC:Type:=(Int×Bool×ZI×(List Zl)×(Nat→Nat)×Int×t1v)
abbrev tB:Type:=Int×(List Zu)×ZI×(List Zl)×(Nat→Nat)×t1v
abbrev tA:Type:=Int×ZI×(List Zl)×(Nat→Nat)×t1v×(List Zu)
abbrev tz:Type:=Int×Int×Int×ZI×(List Zl)×(Nat→Nat)×Int×t1v
abbrev ty:Type:=(List Zl)×ZI×ZI×(List Zl)×(Nat→Nat)×t1v
abbrev tx:Type:=Int×Int×Int×t1v×ZI×ZI×(List Zl)×(Nat→Nat)
abbrev tw:Type:=tz
abbrev tv:Type:=Int×Z7×Bool×Int×Bool×Z7×Bool×Int×Z7×Z6
abbrev tu:Type:=Int×Int×ZI×(List Zl)×(Nat→Nat)×t1v×(List Zu)
abbrev tt:Type:=Int×(List Zl)×Int×ZI×(List Zl)×(Nat→Nat)×t1v
abbrev ts:Type:=Int×Int×ZI×(List Zl)×(Nat→Nat)×t1v×Bool×Int×Int
abbrev tr:Type:=Int×Int×Int×(List Zl)×ZI×(List Zl)×(Nat→Nat)×t1v
abbrev tq:Type:=Int×Int×(Nat→ZE)×ZI×(List Zl)×(Nat→Nat)×t1v×Zu
abbrev tp:Type:=Int×Int×Int×ZI×(List Zl)×(Nat→Nat)×t1v×Bool×Int×Int
abbrev to:Type:=Int×Int×Int×Bool×Int×t1v×ZI×ZI×(List Zl)×(Nat→Nat)
abbrev tn:Type:=Int×(List Int)×t1v×ZI×(List Int)×ZI×(List Zl)×(Nat→Nat)
abbrev tm:Type:=Int×Int×(List Zu)×Int×Int×(Nat→Int)×ZI×(List Zl)×(Nat→Nat)×t1v
abbrev tl:Type:=Int×Int×(List Zu)×Int×Z7×Bool×Int×Bool×Z7×Bool×Int×Z7×Z6
abbrev tk:Type:=Int×Int×(List Zu)×Z7×Bool×Int×Bool×Z7×Bool×Int×Z7×(List Int)×Zu
abbrev tj:Type:=(List Z5)×(List Zl)×Int×Int×ZI×ZI×(List Zl)×(Nat→Nat)×t1v
abbrev ti:Type:=Int×Int×Int×Int×Int×(List Int)×t1v×ZI×(List Int)×ZI×(List Zl)×(Nat→Nat)
abbrev th:Type:=Int×Int×(List Zl)×Int×Int×(Nat→ZE)×ZI×(List Zl)×(Nat→Nat)×t1v×Zu
abbrev tg:Type:=Int×Int×Int×Zk×(List Int)×Bool×Int×Bool×Zk×Int×Bool×(List Int)×Int×(List Zj)×Zw
abbrev tf:Type:=Int×Int×Int×Int×(List Z5)×(Nat→ZE)×ZI×(List Zl)×(Nat→Nat)×t1v×Zu
abbrev te:Type:=Int×Int×(List Zu)×Int×Int×(Nat→Int)×ZI×(List Zl)×(Nat→Nat)×t1v×(Nat→ZE)×Zu
abbrev td:Type:=Int×Int×Int×(List Zu)×Int×Int×Int×Int×(Nat→Int)×ZI×(List Zl)×(Nat→Nat)×t1v×(Nat→ZE)×Zu
abbrev tc:Type:=(Int×Bool×ZI×(List Zl)×(Nat→Nat)×Int×t1v)⊕(ZI×(List Zl)×(Nat→Nat)×Int×t1v)
abbrev tb:Type:=(Int×Int×ZI×(List Zl)×(Nat→Nat)×Zl×Zl×t1v)⊕tU
abbrev ta:Type:=(Int×Int×Int×(List ByteArray)×(List ByteArray)×Zk)⊕(Int×Int×Int×(List ByteArray)×(List ByteArray)×Zk)⊕((List ByteArray)×Zk)
abbrev t9:Type:=(Int×(List Int)×(List Int)×Zj)⊕(Int×(List Int)×(List Int)×(List Int)×Zj)⊕(Int×(List Int)×(List Int)×(List Int)×Zj)⊕(List Int)
abbrev t8:Type:=(Int×Int×Int×(List ByteArray)×ZI×(List ByteArray)×Z5)⊕(Int×Int×Int×(List ByteArray)×ZI×(List ByteArray)×Z5)⊕((List ByteArray)×ZI)
abbrev t7:Type:=(Int×ZI×(List Zl)×(Nat→Nat)×(Nat→ZE)×Zu×t1v×Bool×Int×Int)⊕(Int×ZI×(List Zl)×(Nat→Nat)×t1v×Bool×Int×Int)
abbrev t6:Type:=(Z7×Bool×Int×Bool×Z7×Bool×Int×Z7×Zu×Z6×(List Int)×Zu)⊕(Z7×Bool×Int×Bool×Z7×Bool×Int×Z7×(List Int)×Zu)
abbrev t5:Type:=(Int×ZI×(List Zl)×(Nat→Nat)×(Nat→ZE)×Zu×t1v×Bool×Int×Int)⊕ts
abbrev t4:Type:=(Int×Int×Int×Zk×t1t×CtSand)⊕(Int×Int×Int×Zk×t1t×CtSand)⊕(Int×Int×Int×Zk×t1t×CtSand)⊕(Zk×t1t)
abbrev t3:Type:=(Zj×Int×Int×Zk×(List Int)×Bool×Int×Bool×Zk×Int×Bool×(List Int)×Int×(List Zj)×Zw)⊕(Int×Int×Zk×(List Int)×Bool×Int×Bool×Zk×Int×Bool×(List Int)×Int×(List Zj)×Zw)
abbrev t2:Type:=(Int×Int×Int×(List ByteArray)×Zw×Zk×(List ByteArray))⊕(Int×Int×Int×(List ByteArray)×Zw×Zk×(List ByteArray))⊕(Int×Int×Int×(List ByteArray)×Zw×Zk×(List ByteArray))⊕(Zk×(List ByteArray))
abbrev t1:Type:=(Bool×(Nat→ZE)×ZI×(List Zl)×(Nat→Nat)×ZE×t1v×Zu×Zl)⊕(Bool×(Nat→ZE)×ZI×(List Zl)×(Nat→Nat)×ZE×t1v×Zu×Zl)⊕((Nat→ZE)×ZI×(List Zl)×(Nat→Nat)×t1v×Zu)
abbrev t0:Type:=(Int×Int×Int×Zw×Zk×t1t)⊕(Int×Int×Int×Zw×Zk×t1t)⊕(Int×Int×Int×Zw×Zk×t1t×(List Zu))⊕(Int×Int×Int×Zw×Zk×t1t×(List Zu))⊕(Zk×t1t)
abbrev vU:Option (TV S):=some (.int .i64 0)
abbrev vT:Option (TV S):=some (.bool false)
abbrev vS:Option (TV S):=some (.sl .bool [])
abbrev vR:Option (TV S):=some (.sl (.st 2) [])
abbrev vQ:Option (TV S):=some (.sl (.st 21) [])
abbrev vP:Option (TV S):=some (.sl (.st 18) [])
abbrev oO:Option (Zi S):=some (.row 9 .str [] 1 1)
abbrev oN:Option (Zi S):=some (.row 9 .str [] 0 0)
abbrev oM:Option (Zi S):=some (.row 9 .str [] 1 0)
abbrev vL:Option (TV S):=some (.sl (.int .i64) [])
abbrev oK:Option (Zi S):=some (.row 4 .bool [] 1 0)
abbrev oJ:Option (Zi S):=some (.row 4 .bool [] 0 0)
abbrev vI:Option (TV S):=some (.str ByteArray.empty)
abbrev oH:Option (Zi S):=some (.cells 163 [(.map 4)])
abbrev oG:Option (Zi S):=some (.cells 80 [(.ptr 3 0)])
abbrev oF:Option (Zi S):=some (.cells 80 [(.ptr 1 0)])
abbrev oE:Option (Zi S):=some (.row 57 (.st 2) [] 1 0)
abbrev oD:Option (Zi S):=some (.cells 80 [(.ptr 14 0)])
abbrev oC:Option (Zi S):=some (.cells 80 [(.ptr 20 0)])
abbrev vB:Option (TV S):=some (.sl (.sl (.int .i64)) [])
abbrev oA:Option (Zi S):=some (.cells 4 [(.bool false)])
abbrev oz:Option (Zi S):=some (.map .str (.int .i64) [])
abbrev oy:Option (Zi S):=some (.cells 3 [(.int .i64 0)])
abbrev ox:Option (Zi S):=some (.siter ByteArray.empty 0)
abbrev ow:Option (Zi S):=some (.cells 32 [(.int .i64 0)])
abbrev ov:Option (Zi S):=some (.row 3 (.int .i64) [] 1 0)
abbrev vu:Option (TV S):=some (.agg [(.stc 2 (T.dflt 2))])
abbrev vt:Option (TV S):=some (.agg [(.stc 8 (T.dflt 8))])
abbrev vs:Option (TV S):=some (.agg [(.stc 21 (T.dflt 21))])
abbrev or:Option (Zi S):=some (.map (.st 23) (.int .i64) [])
abbrev vq:Option (TV S):=some (.agg [(.stc 15 (T.dflt 15))])
abbrev op:Option (Zi S):=some (.cells 107 [(.sl (.st 3) [])])
abbrev vo:Option (TV S):=some (.fn (.func 91) [] [(.ptr 5 0)])
abbrev on:Option (Zi S):=some (.cells 25 [(.stc 8 (T.dflt 8))])
abbrev om:Option (Zi S):=some (.cells 57 [(.stc 2 (T.dflt 2))])
abbrev ol:Option (Zi S):=some (.row 44 (.sl (.int .i64)) [] 1 0)
abbrev vk:Option (TV S):=some (.fn (.func 132) [] [(.ptr 36 0)])
abbrev oj:Option (Zi S):=some (.cells 169 [(.stc 7 (T.dflt 7))])
abbrev oi:Option (Zi S):=some (.cells 109 [(.stc 4 (T.dflt 4))])
abbrev vh:Option (TV S):=some (.fn (.func 131) [] [(.ptr 23 0)])
abbrev og:Option (Zi S):=some (.cells 148 [(.stc 3 (T.dflt 3))])
abbrev of:Option (Zi S):=some (.cells 72 [(.stc 21 (T.dflt 21))])
abbrev oe:Option (Zi S):=some (.cells 29 [(.stc 20 (T.dflt 20))])
abbrev od:Option (Zi S):=some (.cells 70 [(.stc 18 (T.dflt 18))])
abbrev oc:Option (Zi S):=some (.cells 115 [(.stc 19 (T.dflt 19))])
abbrev ob:Option (Zi S):=some (.cells 196 [(.stc 17 (T.dflt 17))])
abbrev oa:Option (Zi S):=some (.cells 171 [(.stc 15 (T.dflt 15))])
abbrev o9:Option (Zi S):=some (.cells 119 [(.arr (.st 5) 4 (fun _=>tdf T (.st 5)))])
abbrev o8:Option (Zi S):=some (.cells 151 [(.arr (.int .i64) 32 (fun _=>tdf T (.int .i64)))])
abbrev o7:Option (Zi S):=some (.cells 90 [(.fn (.func 45) [] [(.ptr 4 0),(.ptr 1 0),(.ptr 0 0)])])
abbrev o6:Option (Zi S):=some (.cells 90 [(.fn (.func 45) [] [(.ptr 10 0),(.ptr 23 0),(.ptr 26 0)])])
abbrev o5:Option (Zi S):=some (.cells 104 [(.stc 20 (T.dflt 20)),(.sl (.st 21) []),(.earr [97,159] 3 4 (fun _=>0)),(.map 2)])
abbrev o4:Option (Zi S):=some (.cells 104 [(.stc 20 (T.dflt 20)),(.sl (.st 21) []),(.earr [97,159] 1 4 (fun _=>0)),(.map 0)])
abbrev o3:Option (Zi S):=some (.cells 104 [(.stc 20 (T.dflt 20)),(.sl (.st 21) []),(.earr [97,159] 14 4 (fun _=>0)),(.map 13)])
abbrev o2:Option (Zi S):=some (.cells 104 [(.stc 20 (T.dflt 20)),(.sl (.st 21) []),(.earr [97,159] 20 4 (fun _=>0)),(.map 18)])
abbrev o1:Option (Zi S):=some (.loop 36 (N (N (N (N L (some (.fn (.func 108) [] [(.ptr 6 0)])) L) none L) (some (.ptr 2 0)) L) (some (.ptr 1 0)) (N L (some (.ptr 3 0)) L)) (8::[]) .skip .skip 0 .normal (0::(36::[])) (0::(1::(0::(1::[])))))
abbrev o0:Option (Zi S):=some (.loop 46 (N (N (N L (some (.ptr 3 0)) (N (N L (some (.fn (.func 108) [] [(.ptr 18 0)])) L) none L)) vU (N L (some (.ptr 14 0)) L)) (some (.ptr 1 0)) (N (N L (some (.ptr 4 0)) L) (some (.ptr 2 0)) L)) (20::[]) .skip .skip 0 .normal (0::(46::[])) (0::(1::(0::(1::(1::[]))))))
abbrev o1Q:Tr (Zi S):=N L none (N (N L oM L) none L)
abbrev o1P:Tr (Zi S):=N (N (N L oE L) none L) none L
abbrev v1O:Tr (TV S):=N L none (N (N L vT L) none L)
abbrev o1N:Tr (Zi S):=N (N L none (N L ov L)) none L
abbrev v1M:Tr (TV S):=N (N L none (N L vU L)) none L
abbrev o1L:Tr (Zi S):=N (N (N L om L) none L) none L
abbrev o1K:Tr (Zi S):=N (N (N L ov L) none L) none L
abbrev v1J:Tr (TV S):=N L none (N (N L vU L) none L)
abbrev v1I:Tr (TV S):=N (N (N L vU L) none L) none L
abbrev o1H:Tr (Zi S):=N (N (N L ox L) none L) none L
abbrev v1G:Tr (TV S):=N (N L vU L) (some (.ptr 0 0)) L
abbrev v1F:Tr (TV S):=N (N L (some (.rs 7 0)) L) none L
abbrev v1E:Tr (TV S):=N L none (N L (some (.rs 41 0)) L)
abbrev v1D:Tr (TV S):=N (N L (some (.ptr 3 0)) L) none L
abbrev o1C:Tr (Zi S):=N (N (N L o9 L) o4 L) or (N L om L)
abbrev o1B:Tr (Zi S):=N (N (N L o5 L) oy L) o7 (N (N L oG L) or L)
abbrev v1A:Tr (TV S):=N (N (N L vU L) none L) none (N (N L vU L) vU L)
abbrev o1z:Tr (Zi S):=N (N L none (N L oH L)) on (N (N L oz L) none L)
abbrev v1y:Tr (TV S):=N (N L none (N L vU L)) none (N (N L vU L) none L)
abbrev v1x:Tr (TV S):=N (N L vQ L) (some (.agg [(.stc 20 (T.dflt 20))])) L
abbrev o1w:Tr (Zi S):=N L none (N (N (N (N L od L) none L) none L) none L)
abbrev v1v:Tr (TV S):=N (N L (some (.ptr 0 0)) L) none (N (N L vU L) none L)
abbrev v1u:Tr (TV S):=N (N (N L vU L) (some (.ptr 6 0)) L) (some (.yld 11)) L
abbrev v1t:Tr (TV S):=N (N (N L vU L) (some (.ptr 18 0)) L) (some (.yld 22)) L
abbrev o1s:Tr (Zi S):=N (N L om L) oe (N o1N none L)
abbrev o1r:Tr (Zi S):=N L oe (N (N (N (N (N L ol L) none L) none L) none L) none L)
abbrev o1q:Tr (Zi S):=N (N (N o1Q none L) none L) oe L
abbrev v1p:Tr (TV S):=N (N L vQ (N (N L vU L) none L)) none (N L (some (.ptr 0 0)) L)
abbrev v1o:Tr (TV S):=N L (some (.tup [(.agg [(.stc 5 (T.dflt 5))]),(.bool false)])) L
abbrev o1n:Tr (Zi S):=N (N (N L o8 L) o4 L) or (N L none (N (N (N L o9 L) om L) none L))
abbrev o1m:Tr (Zi S):=N (N L none (N L oH (N (N L oi L) none L))) on (N (N L oz L) none L)
abbrev o1l:Tr (Zi S):=N (N L none (N L oH L)) on (N (N L oz L) none (N L none (N L none (N L oj L))))
abbrev o1k:Tr (Zi S):=N (N (N (N (N L oJ L) none L) none L) none L) oe (N L none (N L none (N L oJ L)))
abbrev v1j:Tr (TV S):=N v1O none (N v1D none L)
abbrev v1i:Tr (TV S):=N (N L none (N L (some (.rs 42 0)) L)) none (N (N L (some (.rs 41 0)) L) none (N L vU L))
abbrev o1h:Tr (Zi S):=N L none (N (N (N (N L (some (.cells 37 [(.stc 5 (T.dflt 5))])) L) none L) none L) none L)
abbrev o1g:Tr (Zi S):=N (N L oC L) oe (N (N L none (N (N L o2 L) none L)) none (N (N (N L or L) none L) none L))
abbrev o1f:Tr (Zi S):=N (N (N L (some (.cells 31 [(.rs 19 0)])) (N (N L oE L) o1 L)) o4 L) or (N L oF (N L oF L))
abbrev o1e:Tr (Zi S):=N (N L none (N (N L none (N L oK L)) none L)) oe (N (N (N L none (N L oK L)) none L) none L)
abbrev o1d:Tr (Zi S):=N (N (N L none (N L none (N (N L oN L) none L))) none (N L none (N (N L oO L) none L))) on L
abbrev o1c:Tr (Zi S):=N (N L oC L) none (N (N L none (N (N L o2 L) none L)) none (N (N (N L or L) none L) none L))
abbrev o1b:Tr (Zi S):=N (N (N L oy L) o4 L) or (N (N L oA L) oF (N (N (N L oF L) none L) none (N (N L o0 L) oy L)))
abbrev v1a:Tr (TV S):=N (N (N L (some (.ptr 1 0)) L) vU (N L (some (.rs 24 0)) L)) vQ (N L (some (.ptr 0 0)) (N L vT L))
abbrev v19:Tr (TV S):=N (N (N (N L vU L) none L) (some (.fn (.func 97) [] [(.ptr 0 0)])) L) vP v1I
abbrev o18:Tr (Zi S):=N (N L none (N L oH (N (N L oi L) none L))) on (N (N L oz L) none (N (N (N L none (N L oE L)) none L) none L))
abbrev o17:Tr (Zi S):=N (N (N L ov L) none (N L none (N (N L ov L) none L))) none (N (N (N (N L ov L) none L) none (N L og L)) none L)
abbrev o16:Tr (Zi S):=N (N (N L (some (.cells 31 [(.rs 34 0)])) (N L o1 L)) o4 L) or (N L oF (N o1P oF L))
abbrev o15:Tr (Zi S):=N (N L none (N (N L none (N (N L ov L) none L)) none L)) oe (N L none (N (N L none (N (N L ov L) none L)) none L))
abbrev o14:Tr (Zi S):=N (N (N (N L none (N L oy L)) none L) none (N L none (N L or L))) oe (N L none (N (N L oD (N L o6 L)) none (N L o3 L)))
abbrev o13:Tr (Zi S):=N (N (N (N (N (N L oN L) none L) none L) none L) none (N L none (N (N L oi L) none L))) on (N L none (N (N L oO L) none L))
abbrev v12:Tr (TV S):=N (N (N L none (N L vU L)) (some (.fn (.func 66) [] [])) (N (N L (some (.sl (.st 19) [])) L) none L)) none v1J
abbrev o11:Tr (Zi S):=N (N (N (N L none (N (N L oO L) none L)) none L) none L) oe (N (N L none (N L none (N L none (N L oN L)))) none (N (N (N L none (N L od L)) none L) none L))
abbrev v10:Tr (TV S):=N (N (N L vU L) none (N (N (N L vU L) (some (.ptr 3 0)) L) none L)) (some (.ptr 1 0)) (N (N (N (N L vR L) none L) none L) vU v1I)
abbrev oZ:Tr (Zi S):=N (N (N (N L none (N L oy L)) none L) none (N (N L none (N (N L ov L) none L)) none (N L or L))) oe (N (N (N L none (N (N L ov L) none L)) none L) none (N (N L oD (N L o6 L)) none (N L o3 L)))
abbrev oY:Tr (Zi S):=N (N (N (N L none (N L oa L)) none (N L none (N L (some (.loop 95 (N (N (N (N (N L vT L) none L) vU L) (some (.ptr 0 0)) (N (N L none (N L vT L)) none L)) vq (N (N (N L vT L) none (N L none (N L vh L))) (some (.ptr 1 0)) L)) (29::[]) .skip .skip 1 .normal (1::(95::[])) (0::(1::(0::(1::(1::(1::[])))))))) L))) ow L) oa (N L none (N L ov o1L))
abbrev oX:Tr (Zi S):=N (N (N (N L none (N L oa L)) none (N L none (N L (some (.loop 95 (N (N (N (N (N L vT L) none L) vU L) (some (.ptr 0 0)) (N (N L none (N L vT L)) none L)) vq (N (N (N L vT L) none (N L none (N L vh L))) (some (.ptr 1 0)) L)) (29::[]) .skip .skip 1 .busy (1::(95::[])) (0::(1::(0::(1::(1::(1::[])))))))) L))) ow L) oa (N L none (N (N L none (N L none (N L ob L))) none L))
abbrev oW:Tr (Zi S):=N (N (N L oy L) oy L) on (N (N (N (N L ov L) none (N (N L (some (.loop 109 (N (N (N (N L (some (.ptr 3 0)) L) (some (.ptr 0 0)) (N L none (N (N L vk L) vT L))) vU (N (N (N L vT L) none L) none L)) vt (N (N (N L (some (.ptr 4 0)) L) (some (.ptr 1 0)) L) vU (N L (some (.ptr 2 0)) (N (N L vT L) none L)))) (44::(45::[])) .skip .skip 1 .normal (1::(109::[])) (0::(1::(0::(1::(1::(1::(1::[]))))))))) L) ov L)) ow (N (N (N L op L) none L) none L)) oi L)
abbrev oV:Tr (Zi S):=N (N (N L oy L) o4 (N (N L none (N L none (N (N L o9 L) none L))) none (N o1L none L))) or (N (N L oA L) oF (N (N (N L oF L) none L) none (N (N L (some (.loop 46 (N (N (N L (some (.ptr 3 0)) (N (N L (some (.fn (.func 108) [] [(.ptr 18 0)])) L) none L)) vU (N L (some (.ptr 14 0)) L)) (some (.ptr 1 0)) (N (N L (some (.ptr 4 0)) L) (some (.ptr 2 0)) L)) (20::[]) .skip .skip 0 .ret (0::(46::[])) (0::(1::(0::(1::(1::[]))))))) L) oy L)))
def q0 {R:Type}:Prs S R:=Zh1
theorem q1 {R:Type}:Z7N X (q0 (R:=R)):=Zh2 X
def q2:List (Nat×F7 S):=[]
theorem q3:Z9h X (q2):=trivial
abbrev q4 {R:Type}:Z2t S R:=Zg9
theorem q5 {R:Type}:Z3J X (q4 (R:=R)):=ZgE X
def q6:Key:=⟨[92],92,none,[0,0,1,0,1,1],0,4⟩
def q7:StT S:=⟨(N (N (N (N L (some (.iter 3)) L) (some (.int .i32 0)) L) none L) vI L),o1H,4⟩
def q8:Way S:=⟨.ret,⟨(N L none (N L vT L)),o1H,23⟩,[.bool,.str,.nat]⟩
def q9:Way S:=⟨(.exit 0),⟨(N (N (N L (some (.int .i32 0)) L) none L) vI L),o1H,6⟩,[.int,.str,.str,.nat]⟩
def qa:LE S:=⟨q6,q7,[.int,.str,.str,.nat],[q8,q9]⟩
def qb (x:t1c):((Bool×Nat)⊕(Int×Nat))→tR:=Sum.elim (fun y0=>(.inl (y0.1,x.2.2.1,y0.2))) (fun y1=>(.inr (y1.1,x.2.1,x.2.2.1,y1.2)))
def qc {R:Type} (x:t1c) (k:tR→Option R):Option R:=(X56 x.2.1 x.2.2.1 (x.1,x.2.2.2)).bind (Sum.elim (fun y0=>k (.inl (y0.1,x.2.2.1,y0.2))) (fun y1=>k (.inr (y1.1,x.2.1,x.2.2.1,y1.2))))
def qd (x:t1c) (v:(Int×Nat)):t1c:=(v.1,x.2.1,x.2.2.1,v.2)
theorem qe (x:t1c):LE.step X qa q2 q0 q4 12 x=X1j x.2.1 x.2.2.1 x.1 x.2.2.2 (fun w0 w1=>(Sum.inl (w0,x.2.1,x.2.2.1,w1))) (fun p0 p1=>(Sum.inr (.inl (p0,x.2.2.1,p1)))) (fun p0 p1=>(Sum.inr (.inr (p0,x.2.1,x.2.2.1,p1)))):=by kernel_rfl
theorem qg {R:Type} (x:t1c) (k:tR→Option R) (r:R) (h:qc x k=some r):∃ o,Z5p (LE.step X qa q2 q0 q4 12) x o∧k o=some r:=by
 obtain ⟨o,h1,h2⟩:=Z0 h
 exact ⟨qb x o,Zh7 (st:=fun (x:t1c)=>X1d x.2.1 x.2.2.1) (prj:=fun x=>(x.1,x.2.2.2)) (emb:=qd) (embO:=qb) (fun x=>(qe x).trans (by unfold X1d X1j;simp only [ZgZ,ZgU,Zh0,Option.map_some,Option.map_none];rfl)) (fun _ _=>rfl) (fun _ _=>rfl) (fun _ _ _=>rfl) (fun _ _ _=>rfl) (fun _=>rfl) (Z1Q.1 h1),by first|exact h2|(rcases o with o|o<;>exact h2)⟩
def qh {R:Type}:Z2t S R:=LE.ls X qa qc q4
theorem qi {R:Type}:Z3J X (qh (R:=R)):=Zhc xok q3 (e:=qa) q1 q5 qg q5
theorem qj (x0:ByteArray):Zhe X q2 [.str] [.bool] q0 qh 12 92 (x0,())=X3l x0:=by kernel_rfl
def qk:F7 S:=⟨[.str],[.bool],fun xs=>X3l xs.1⟩
theorem ql:Z97 X 92 qk:=Zhb (Zha xok q3 q1 qi 12 92) fun xs _ h=>(qj xs.1).trans h
def qq:Key:=⟨[114,2,1,89,2,1,117],114,none,[0,0,1,0,1],0,17⟩
def qr:StT S:=⟨(N (N (N (N L vU L) none L) (some (.fn (.func 130) [] [(.ptr 0 0),(.ptr 1 0)])) L) vL v1I),(N (N L oy L) oy L),17⟩
def qs:Way S:=⟨.ret,⟨v1J,(N (N L oy L) oy L),38⟩,[.int,.int,.int]⟩
def qt:Way S:=⟨(.exit 0),⟨L,(N (N L oy L) oy L),18⟩,[.int,.int]⟩
def qu:LE S:=⟨qq,qr,[.int,(.lst (.int .i64)),.int,.int,.int],[qs,qt]⟩
def qv (x:t1a):(Int⊕Unit)→t1i:=Sum.elim (fun y0=>(.inl (y0,x.2.2.2.1,x.2.2.2.2))) (fun y1=>(.inr (x.2.2.2.1,x.2.2.2.2)))
def qw {R:Type} (x:t1a) (k:t1i→Option R):Option R:=(X5u x.1 x.2.1 x.2.2.2.1 x.2.2.2.2 x.2.2.1).bind (Sum.elim (fun y0=>k (.inl (y0,x.2.2.2.1,x.2.2.2.2))) (fun y1=>k (.inr (x.2.2.2.1,x.2.2.2.2))))
def qx (x:t1a) (v:Int):t1a:=(x.1,x.2.1,v,x.2.2.2.1,x.2.2.2.2)
theorem qy (x:t1a):LE.step X qu q2 q0 q4 12 x=X1M x.1 x.2.1 x.2.2.2.1 x.2.2.2.2 x.2.2.1 (fun w0=>(Sum.inl (x.1,x.2.1,w0,x.2.2.2.1,x.2.2.2.2))) (fun p0=>(Sum.inr (.inl (p0,x.2.2.2.1,x.2.2.2.2)))) (Sum.inr (.inr (x.2.2.2.1,x.2.2.2.2))):=by kernel_rfl
theorem qA {R:Type} (x:t1a) (k:t1i→Option R) (r:R) (h:qw x k=some r):∃ o,Z5p (LE.step X qu q2 q0 q4 12) x o∧k o=some r:=by
 obtain ⟨o,h1,h2⟩:=Z0 h
 exact ⟨qv x o,Zh7 (st:=fun (x:t1a)=>X1H x.1 x.2.1 x.2.2.2.1 x.2.2.2.2) (prj:=fun x=>x.2.2.1) (emb:=qx) (embO:=qv) (fun x=>(qy x).trans (by unfold X1H X1M;simp only [ZgZ,ZgU,Zh0,Option.map_some,Option.map_none];rfl)) (fun _ _=>rfl) (fun _ _=>rfl) (fun _ _ _=>rfl) (fun _ _ _=>rfl) (fun _=>rfl) (Z1Q.1 h1),by first|exact h2|(rcases o with o|o<;>exact h2)⟩
def qB {R:Type}:Z2t S R:=LE.ls X qu qw q4
theorem qC {R:Type}:Z3J X (qB (R:=R)):=Zhc xok q3 (e:=qu) q1 q5 qA q5
theorem qD (x0:Int) (x1:Int) (x2:List Int):Zhe X q2 [(.int .i64),(.int .i64),(.sl (.int .i64))] [.bool] q0 qB 12 117 (x0,x1,x2,())=X1G x0 x1 x2:=by kernel_rfl
def qE:F7 S:=⟨[(.int .i64),(.int .i64),(.sl (.int .i64))],[.bool],fun xs=>X1G xs.1 xs.2.1 xs.2.2.1⟩
theorem qF:Z97 X 117 qE:=Zhb (Zha xok q3 q1 qC 12 117) fun xs _ h=>(qD xs.1 xs.2.1 xs.2.2.1).trans h
def qG:List (Nat×F7 S):=[(117,qE)]
theorem qH:Z9h X (qG):=⟨qF,trivial⟩
def qK:Key:=⟨[129,2,1,115,2,1,93],129,none,[0,0,1,0,1],0,16⟩
def qL:StT S:=⟨(N (N (N (N L vU L) none L) (some (.fn (.func 116) [] [(.ptr 0 0)])) L) vR v1I),(N L oy L),16⟩
def qM:Way S:=⟨.ret,⟨v1J,(N (N L none (N (N L none (N L om L)) none L)) oy (N L none (N o1K none L))),39⟩,[.int,(.st 2),.int,(.lst (.int .i64))]⟩
def qN:Way S:=⟨(.exit 0),⟨L,(N L oy L),17⟩,[.int]⟩
def qO:LE S:=⟨qK,qL,[.int,(.lst (.st 2)),.int,.int],[qM,qN]⟩
def qP (x:t1j):((Int×Zu×(List Int))⊕Unit)→((Int×Zu×Int×(List Int))⊕Int):=Sum.elim (fun y0=>(.inl (y0.1,y0.2.1,x.2.2.2,y0.2.2))) (fun y1=>(.inr x.2.2.2))
def qQ {R:Type} (x:t1j) (k:((Int×Zu×Int×(List Int))⊕Int)→Option R):Option R:=(X5s x.1 x.2.1 x.2.2.2 x.2.2.1).bind (Sum.elim (fun y0=>k (.inl (y0.1,y0.2.1,x.2.2.2,y0.2.2))) (fun y1=>k (.inr x.2.2.2)))
def qR (x:t1j) (v:Int):t1j:=(x.1,x.2.1,v,x.2.2.2)
theorem qS (x:t1j):LE.step X qO qG q0 q4 12 x=X1L x.1 x.2.1 x.2.2.2 x.2.2.1 (fun w0=>(Sum.inl (x.1,x.2.1,w0,x.2.2.2))) (fun p0 p1 p2=>(Sum.inr (.inl (p0,p1,x.2.2.2,p2)))) (Sum.inr (.inr x.2.2.2)):=by kernel_rfl
theorem qU {R:Type} (x:t1j) (k:((Int×Zu×Int×(List Int))⊕Int)→Option R) (r:R) (h:qQ x k=some r):∃ o,Z5p (LE.step X qO qG q0 q4 12) x o∧k o=some r:=by
 obtain ⟨o,h1,h2⟩:=Z0 h
 exact ⟨qP x o,Zh7 (st:=fun (x:t1j)=>X1F x.1 x.2.1 x.2.2.2) (prj:=fun x=>x.2.2.1) (emb:=qR) (embO:=qP) (fun x=>(qS x).trans (by unfold X1F X1L;simp only [ZgZ,ZgU,Zh0,Option.map_some,Option.map_none];rfl)) (fun _ _=>rfl) (fun _ _=>rfl) (fun _ _ _=>rfl) (fun _ _ _=>rfl) (fun _=>rfl) (Z1Q.1 h1),by first|exact h2|(rcases o with o|o<;>exact h2)⟩
def qV {R:Type}:Z2t S R:=LE.ls X qO qQ q4
theorem qW {R:Type}:Z3J X (qV (R:=R)):=Zhc xok qH (e:=qO) q1 q5 qU q5
theorem qX (x0:Int) (x1:List Zu):Zhe X qG [(.int .i64),(.sl (.st 2))] [.bool] q0 qV 12 93 (x0,x1,())=X4H x0 x1:=by kernel_rfl
def qY:F7 S:=⟨[(.int .i64),(.sl (.st 2))],[.bool],fun xs=>X4H xs.1 xs.2.1⟩
theorem qZ:Z97 X 93 qY:=Zhb (Zha xok qH q1 qW 12 93) fun xs _ h=>(qX xs.1 xs.2.1).trans h
def q14:Key:=⟨[94],94,none,[0,0,1,0,1,1,1],0,9⟩
def q15:StT S:=⟨(N (N (N L vU (N L vU L)) none L) none (N (N L none (N L vU L)) none (N (N L (some (.sl (.st 3) [])) L) none L))),o1K,9⟩
def q16:Way S:=⟨.ret,⟨(N L none (N L vU L)),(N (N (N L ov L) none L) none (N (N (N (N L ov L) none L) none (N L og L)) none L)),26⟩,[.int,(.lst (.int .i64)),(.lst (.int .i64)),(.st 3)]⟩
def q17:Way S:=⟨.ret,⟨(N L none (N L vU L)),o17,26⟩,[.int,(.lst (.int .i64)),(.lst (.int .i64)),(.lst (.int .i64)),(.st 3)]⟩
def q18:Way S:=⟨.ret,⟨(N L none (N L vU L)),o17,31⟩,[.int,(.lst (.int .i64)),(.lst (.int .i64)),(.lst (.int .i64)),(.st 3)]⟩
def q19:Way S:=⟨(.exit 0),⟨L,o1K,10⟩,[(.lst (.int .i64))]⟩
def q1a:LE S:=⟨q14,q15,[.int,.int,.int,(.lst (.st 3)),(.lst (.int .i64))],[q16,q17,q18,q19]⟩
def q1b (x:t15):((Int×(List Int)×Zj)⊕(Int×(List Int)×(List Int)×Zj)⊕(Int×(List Int)×(List Int)×Zj)⊕Unit)→t9:=Sum.elim (fun y0=>(.inl (y0.1,x.2.2.2.2,y0.2.1,y0.2.2))) (Sum.elim (fun y1=>(.inr (.inl (y1.1,x.2.2.2.2,y1.2.1,y1.2.2.1,y1.2.2.2)))) (Sum.elim (fun y2=>(.inr (.inr (.inl (y2.1,x.2.2.2.2,y2.2.1,y2.2.2.1,y2.2.2.2))))) (fun y3=>(.inr (.inr (.inr x.2.2.2.2))))))
def q1c {R:Type} (x:t15) (k:t9→Option R):Option R:=(X4v x.2.1 x.2.2.2.1 x.2.2.2.2 (x.1,x.2.2.1)).bind (Sum.elim (fun y0=>k (.inl (y0.1,x.2.2.2.2,y0.2.1,y0.2.2))) (Sum.elim (fun y1=>k (.inr (.inl (y1.1,x.2.2.2.2,y1.2.1,y1.2.2.1,y1.2.2.2)))) (Sum.elim (fun y2=>k (.inr (.inr (.inl (y2.1,x.2.2.2.2,y2.2.1,y2.2.2.1,y2.2.2.2))))) (fun y3=>k (.inr (.inr (.inr x.2.2.2.2)))))))
def q1d (x:t15) (v:(Int×Int)):t15:=(v.1,x.2.1,v.2,x.2.2.2.1,x.2.2.2.2)
theorem q1e (x:t15):LE.step X q1a qG q0 q4 12 x=Wi x.2.1 x.2.2.2.1 x.2.2.2.2 x.1 x.2.2.1 (fun w0 w1=>(Sum.inl (w0,x.2.1,w1,x.2.2.2.1,x.2.2.2.2))) (fun p0 p1 p2=>(Sum.inr (.inl (p0,x.2.2.2.2,p1,p2)))) (fun p0 p1 p2 p3=>(Sum.inr (.inr (.inl (p0,x.2.2.2.2,p1,p2,p3))))) (fun p0 p1 p2 p3=>(Sum.inr (.inr (.inr (.inl (p0,x.2.2.2.2,p1,p2,p3)))))) (Sum.inr (.inr (.inr (.inr x.2.2.2.2)))):=by kernel_rfl
theorem q1g {R:Type} (x:t15) (k:t9→Option R) (r:R) (h:q1c x k=some r):∃ o,Z5p (LE.step X q1a qG q0 q4 12) x o∧k o=some r:=by
 obtain ⟨o,h1,h2⟩:=Z0 h
 exact ⟨q1b x o,Zh7 (st:=fun (x:t15)=>W8 x.2.1 x.2.2.2.1 x.2.2.2.2) (prj:=fun x=>(x.1,x.2.2.1)) (emb:=q1d) (embO:=q1b) (fun x=>(q1e x).trans (by unfold W8 Wi;simp only [ZgZ,ZgU,Zh0,Option.map_some,Option.map_none];rfl)) (fun _ _=>rfl) (fun _ _=>rfl) (fun _ _ _=>rfl) (fun _ _ _=>rfl) (fun _=>rfl) (Z1Q.1 h1),by first|exact h2|(rcases o with o|o|o|o<;>exact h2)⟩
def q1h {R:Type}:Z2t S R:=LE.ls X q1a q1c q4
theorem q1i {R:Type}:Z3J X (q1h (R:=R)):=Zhc xok qH (e:=q1a) q1 q5 q1g q5
theorem q1j (x0:List Zj):Zhe X qG [(.sl (.st 3))] [(.int .i64)] q0 q1h 12 94 (x0,())=X3E x0:=by kernel_rfl
def q1k:F7 S:=⟨[(.sl (.st 3))],[(.int .i64)],fun xs=>X3E xs.1⟩
theorem q1l:Z97 X 94 q1k:=Zhb (Zha xok qH q1 q1i 12 94) fun xs _ h=>(q1j xs.1).trans h
theorem q1q (x0:ZB) (x1:Int):Zhe X qG [(.st 6),(.int .i64)] [(.int .i64)] q0 q4 12 118 (x0,x1,())=X5r x0 x1:=by kernel_rfl
def q1r:F7 S:=⟨[(.st 6),(.int .i64)],[(.int .i64)],fun xs=>X5r xs.1 xs.2.1⟩
theorem q1s:Z97 X 118 q1r:=Zhb (Zha xok qH q1 q5 12 118) fun xs _ h=>(q1q xs.1 xs.2.1).trans h
theorem q1x (x0:Zu) (x1:Zu):Zhe X q2 [(.st 2),(.st 2)] [(.st 2)] q0 q4 12 121 (x0,x1,())=X7N x0 x1:=by kernel_rfl
def q1y:F7 S:=⟨[(.st 2),(.st 2)],[(.st 2)],fun xs=>X7N xs.1 xs.2.1⟩
theorem q1z:Z97 X 121 q1y:=Zhb (Zha xok q3 q1 q5 12 121) fun xs _ h=>(q1x xs.1 xs.2.1).trans h
theorem q1E (x0:Zu) (x1:Zu):Zhe X q2 [(.st 2),(.st 2)] [(.int .i64)] q0 q4 12 120 (x0,x1,())=X7O x0 x1:=by kernel_rfl
def q1F:F7 S:=⟨[(.st 2),(.st 2)],[(.int .i64)],fun xs=>X7O xs.1 xs.2.1⟩
theorem q1G:Z97 X 120 q1F:=Zhb (Zha xok q3 q1 q5 12 120) fun xs _ h=>(q1E xs.1 xs.2.1).trans h
def q1H:List (Nat×F7 S):=[(117,qE),(93,qY),(118,q1r),(121,q1y),(120,q1F)]
theorem q1I:Z9h X (q1H):=⟨qF,qZ,q1s,q1z,q1G,trivial⟩
def q1L:Key:=⟨[27,6,4,131,1,95],95,(some 27),[0,0,1,0,1,0,1,0,1,0,1,1,1],3,66⟩
def q1M:StT S:=⟨(N (N L none (N v1I vU L)) none (N (N (N (N (N L vR L) none L) none L) (some (.ptr 58 0)) L) (some (.ptr 1 0)) (N v1I none L))),oX,66⟩
def q1N:Way S:=⟨(.exit 3),⟨(N (N L none (N L vU L)) none (N (N L (some (.ptr 58 0)) L) (some (.ptr 1 0)) L)),oX,67⟩,[.int,(.st 15),.bool,.int,.bool,(.st 15),.bool,.int,(.st 15),(.st 17)]⟩
def q1O:LE S:=⟨q1L,q1M,[.int,.int,(.lst (.st 2)),.int,(.st 15),.bool,.int,.bool,(.st 15),.bool,.int,(.st 15),(.st 17)],[q1N]⟩
def q1P (x:tl):Int→tv:=fun y0=>(y0,x.2.2.2.2.1,x.2.2.2.2.2.1,x.2.2.2.2.2.2.1,x.2.2.2.2.2.2.2.1,x.2.2.2.2.2.2.2.2.1,x.2.2.2.2.2.2.2.2.2.1,x.2.2.2.2.2.2.2.2.2.2.1,x.2.2.2.2.2.2.2.2.2.2.2.1,x.2.2.2.2.2.2.2.2.2.2.2.2)
def q1Q {R:Type} (x:tl) (k:tv→Option R):Option R:=(Wt x.1 x.2.2.1 x.2.2.2.2.1 x.2.2.2.2.2.1 x.2.2.2.2.2.2.1 x.2.2.2.2.2.2.2.1 x.2.2.2.2.2.2.2.2.1 x.2.2.2.2.2.2.2.2.2.1 x.2.2.2.2.2.2.2.2.2.2.1 x.2.2.2.2.2.2.2.2.2.2.2.1 x.2.2.2.2.2.2.2.2.2.2.2.2 (x.2.1,x.2.2.2.1)).bind (fun y0=>k (y0,x.2.2.2.2.1,x.2.2.2.2.2.1,x.2.2.2.2.2.2.1,x.2.2.2.2.2.2.2.1,x.2.2.2.2.2.2.2.2.1,x.2.2.2.2.2.2.2.2.2.1,x.2.2.2.2.2.2.2.2.2.2.1,x.2.2.2.2.2.2.2.2.2.2.2.1,x.2.2.2.2.2.2.2.2.2.2.2.2))
def q1R (x:tl) (v:(Int×Int)):tl:=(x.1,v.1,x.2.2.1,v.2,x.2.2.2.2.1,x.2.2.2.2.2.1,x.2.2.2.2.2.2.1,x.2.2.2.2.2.2.2.1,x.2.2.2.2.2.2.2.2.1,x.2.2.2.2.2.2.2.2.2.1,x.2.2.2.2.2.2.2.2.2.2.1,x.2.2.2.2.2.2.2.2.2.2.2.1,x.2.2.2.2.2.2.2.2.2.2.2.2)
theorem q1S (x:tl):LE.step X q1O q1H q0 q4 12 x=Xt x.1 x.2.2.1 x.2.2.2.2.1 x.2.2.2.2.2.1 x.2.2.2.2.2.2.1 x.2.2.2.2.2.2.2.1 x.2.2.2.2.2.2.2.2.1 x.2.2.2.2.2.2.2.2.2.1 x.2.2.2.2.2.2.2.2.2.2.1 x.2.2.2.2.2.2.2.2.2.2.2.1 x.2.2.2.2.2.2.2.2.2.2.2.2 x.2.1 x.2.2.2.1 (fun w0 w1=>(Sum.inl (x.1,w0,x.2.2.1,w1,x.2.2.2.2.1,x.2.2.2.2.2.1,x.2.2.2.2.2.2.1,x.2.2.2.2.2.2.2.1,x.2.2.2.2.2.2.2.2.1,x.2.2.2.2.2.2.2.2.2.1,x.2.2.2.2.2.2.2.2.2.2.1,x.2.2.2.2.2.2.2.2.2.2.2.1,x.2.2.2.2.2.2.2.2.2.2.2.2))) (fun p0=>(Sum.inr (p0,x.2.2.2.2.1,x.2.2.2.2.2.1,x.2.2.2.2.2.2.1,x.2.2.2.2.2.2.2.1,x.2.2.2.2.2.2.2.2.1,x.2.2.2.2.2.2.2.2.2.1,x.2.2.2.2.2.2.2.2.2.2.1,x.2.2.2.2.2.2.2.2.2.2.2.1,x.2.2.2.2.2.2.2.2.2.2.2.2))):=by kernel_rfl
theorem q1U {R:Type} (x:tl) (k:tv→Option R) (r:R) (h:q1Q x k=some r):∃ o,Z5p (LE.step X q1O q1H q0 q4 12) x o∧k o=some r:=by
 obtain ⟨o,h1,h2⟩:=Z0 h
 exact ⟨q1P x o,Zh7 (st:=fun (x:tl)=>Xk x.1 x.2.2.1 x.2.2.2.2.1 x.2.2.2.2.2.1 x.2.2.2.2.2.2.1 x.2.2.2.2.2.2.2.1 x.2.2.2.2.2.2.2.2.1 x.2.2.2.2.2.2.2.2.2.1 x.2.2.2.2.2.2.2.2.2.2.1 x.2.2.2.2.2.2.2.2.2.2.2.1 x.2.2.2.2.2.2.2.2.2.2.2.2) (prj:=fun x=>(x.2.1,x.2.2.2.1)) (emb:=q1R) (embO:=q1P) (fun x=>(q1S x).trans (by unfold Xk Xt;simp only [ZgZ,ZgU,Zh0,Option.map_some,Option.map_none];rfl)) (fun _ _=>rfl) (fun _ _=>rfl) (fun _ _ _=>rfl) (fun _ _ _=>rfl) (fun _=>rfl) (Z1Q.1 h1),by first|exact h2|(rcases o with o<;>exact h2)⟩
def q1V {R:Type}:Z2t S R:=LE.ls X q1O q1Q q4
theorem q1W {R:Type}:Z3J X (q1V (R:=R)):=Zhc xok q1I (e:=q1O) q1 q5 q1U q5
def q1X:Key:=⟨[131,1,95],131,none,[0,0,1,1],0,45⟩
def q1Y:StT S:=⟨(N (N (N L (some (.ptr 38 0)) (N (N L vU L) none L)) none L) (some (.yld 27)) (N v1J none (N (N (N L vR L) none L) none L))),oY,45⟩
def q1Z:Way S:=⟨.ret,⟨L,(N (N (N (N L none (N L oa L)) none (N L none (N L (some (.loop 95 (N (N (N (N (N L vT L) none L) vU L) (some (.ptr 0 0)) (N (N L none (N L vT L)) none L)) vq (N (N (N L vT L) none (N L none (N L vh L))) (some (.ptr 1 0)) L)) (29::[]) .skip .skip 1 .ret (1::(95::[])) (0::(1::(0::(1::(1::(1::[])))))))) L))) ow L) oa (N (N (N (N L none (N L om L)) none L) none L) none (N (N L none (N L none (N L ob L))) ov o1L))),76⟩,[(.st 15),.bool,.int,.bool,(.st 15),.bool,.int,(.st 15),(.st 2),(.st 17),(.lst (.int .i64)),(.st 2)]⟩
def q20:Way S:=⟨(.exit 0),⟨L,oY,46⟩,[(.st 15),.bool,.int,.bool,(.st 15),.bool,.int,(.st 15),(.lst (.int .i64)),(.st 2)]⟩
def q21:LE S:=⟨q1X,q1Y,[.int,.int,(.lst (.st 2)),(.st 15),.bool,.int,.bool,(.st 15),.bool,.int,(.st 15),(.lst (.int .i64)),(.st 2)],[q1Z,q20]⟩
def q22 (x:tk):((Int×Zu×Z6×Zu)⊕Zu)→t6:=Sum.elim (fun y0=>(.inl (x.2.2.2.1,x.2.2.2.2.1,x.2.2.2.2.2.1,x.2.2.2.2.2.2.1,x.2.2.2.2.2.2.2.1,x.2.2.2.2.2.2.2.2.1,y0.1,x.2.2.2.2.2.2.2.2.2.2.1,y0.2.1,y0.2.2.1,x.2.2.2.2.2.2.2.2.2.2.2.1,y0.2.2.2))) (fun y1=>(.inr (x.2.2.2.1,x.2.2.2.2.1,x.2.2.2.2.2.1,x.2.2.2.2.2.2.1,x.2.2.2.2.2.2.2.1,x.2.2.2.2.2.2.2.2.1,x.2.2.2.2.2.2.2.2.2.1,x.2.2.2.2.2.2.2.2.2.2.1,x.2.2.2.2.2.2.2.2.2.2.2.1,y1)))
def q23 {R:Type} (x:tk) (k:t6→Option R):Option R:=(X3y x.1 x.2.2.1 x.2.2.2.1 x.2.2.2.2.1 x.2.2.2.2.2.1 x.2.2.2.2.2.2.1 x.2.2.2.2.2.2.2.1 x.2.2.2.2.2.2.2.2.1 x.2.2.2.2.2.2.2.2.2.1 x.2.2.2.2.2.2.2.2.2.2.1 x.2.2.2.2.2.2.2.2.2.2.2.1 (x.2.1,x.2.2.2.2.2.2.2.2.2.2.2.2)).bind (Sum.elim (fun y0=>k (.inl (x.2.2.2.1,x.2.2.2.2.1,x.2.2.2.2.2.1,x.2.2.2.2.2.2.1,x.2.2.2.2.2.2.2.1,x.2.2.2.2.2.2.2.2.1,y0.1,x.2.2.2.2.2.2.2.2.2.2.1,y0.2.1,y0.2.2.1,x.2.2.2.2.2.2.2.2.2.2.2.1,y0.2.2.2))) (fun y1=>k (.inr (x.2.2.2.1,x.2.2.2.2.1,x.2.2.2.2.2.1,x.2.2.2.2.2.2.1,x.2.2.2.2.2.2.2.1,x.2.2.2.2.2.2.2.2.1,x.2.2.2.2.2.2.2.2.2.1,x.2.2.2.2.2.2.2.2.2.2.1,x.2.2.2.2.2.2.2.2.2.2.2.1,y1))))
def q24 (x:tk) (v:(Int×Zu)):tk:=(x.1,v.1,x.2.2.1,x.2.2.2.1,x.2.2.2.2.1,x.2.2.2.2.2.1,x.2.2.2.2.2.2.1,x.2.2.2.2.2.2.2.1,x.2.2.2.2.2.2.2.2.1,x.2.2.2.2.2.2.2.2.2.1,x.2.2.2.2.2.2.2.2.2.2.1,x.2.2.2.2.2.2.2.2.2.2.2.1,v.2)
theorem q25 (x:tk):LE.step X q21 q1H q0 q1V 12 x=Xs x.1 x.2.2.1 x.2.2.2.1 x.2.2.2.2.1 x.2.2.2.2.2.1 x.2.2.2.2.2.2.1 x.2.2.2.2.2.2.2.1 x.2.2.2.2.2.2.2.2.1 x.2.2.2.2.2.2.2.2.2.1 x.2.2.2.2.2.2.2.2.2.2.1 x.2.2.2.2.2.2.2.2.2.2.2.1 x.2.1 x.2.2.2.2.2.2.2.2.2.2.2.2 (fun w0 w1=>(Sum.inl (x.1,w0,x.2.2.1,x.2.2.2.1,x.2.2.2.2.1,x.2.2.2.2.2.1,x.2.2.2.2.2.2.1,x.2.2.2.2.2.2.2.1,x.2.2.2.2.2.2.2.2.1,x.2.2.2.2.2.2.2.2.2.1,x.2.2.2.2.2.2.2.2.2.2.1,x.2.2.2.2.2.2.2.2.2.2.2.1,w1))) (fun p0 p1 p2 p3=>(Sum.inr (.inl (x.2.2.2.1,x.2.2.2.2.1,x.2.2.2.2.2.1,x.2.2.2.2.2.2.1,x.2.2.2.2.2.2.2.1,x.2.2.2.2.2.2.2.2.1,p0,x.2.2.2.2.2.2.2.2.2.2.1,p1,p2,x.2.2.2.2.2.2.2.2.2.2.2.1,p3)))) (fun p0=>(Sum.inr (.inr (x.2.2.2.1,x.2.2.2.2.1,x.2.2.2.2.2.1,x.2.2.2.2.2.2.1,x.2.2.2.2.2.2.2.1,x.2.2.2.2.2.2.2.2.1,x.2.2.2.2.2.2.2.2.2.1,x.2.2.2.2.2.2.2.2.2.2.1,x.2.2.2.2.2.2.2.2.2.2.2.1,p0)))):=by kernel_rfl
theorem q27 {R:Type} (x:tk) (k:t6→Option R) (r:R) (h:q23 x k=some r):∃ o,Z5p (LE.step X q21 q1H q0 q1V 12) x o∧k o=some r:=by
 obtain ⟨o,h1,h2⟩:=Z0 h
 exact ⟨q22 x o,Zh7 (st:=fun (x:tk)=>Xj x.1 x.2.2.1 x.2.2.2.1 x.2.2.2.2.1 x.2.2.2.2.2.1 x.2.2.2.2.2.2.1 x.2.2.2.2.2.2.2.1 x.2.2.2.2.2.2.2.2.1 x.2.2.2.2.2.2.2.2.2.1 x.2.2.2.2.2.2.2.2.2.2.1 x.2.2.2.2.2.2.2.2.2.2.2.1) (prj:=fun x=>(x.2.1,x.2.2.2.2.2.2.2.2.2.2.2.2)) (emb:=q24) (embO:=q22) (fun x=>(q25 x).trans (by unfold Xj Xs;simp only [ZgZ,ZgU,Zh0,Option.map_some,Option.map_none];rfl)) (fun _ _=>rfl) (fun _ _=>rfl) (fun _ _ _=>rfl) (fun _ _ _=>rfl) (fun _=>rfl) (Z1Q.1 h1),by first|exact h2|(rcases o with o|o<;>exact h2)⟩
def q28 {R:Type}:Z2t S R:=LE.ls X q21 q23 q1V
theorem q29 {R:Type}:Z3J X (q28 (R:=R)):=Zhc xok q1I (e:=q21) q1 q1W q27 q1W
theorem q2a (x0:Z7):Zhe X q1H [(.st 15)] [(.int .i64)] q0 q28 12 95 (x0,())=X27 x0:=by kernel_rfl
def q2b:F7 S:=⟨[(.st 15)],[(.int .i64)],fun xs=>X27 xs.1⟩
theorem q2c:Z97 X 95 q2b:=Zhb (Zha xok q1I q1 q29 12 95) fun xs _ h=>(q2a xs.1).trans h
def q2d:List (Nat×F7 S):=[(92,qk),(93,qY),(94,q1k),(95,q2b)]
theorem q2e:Z9h X (q2d):=⟨ql,qZ,q1l,q2c,trivial⟩
def q2h:Key:=⟨[61],61,none,[0,0,1,0,1,1,1,1],0,17⟩
def q2i:StT S:=⟨(N (N v1J (some (.ptr 0 0)) L) none (N v1J none (N (N (N L (some (.sl (.st 4) [])) L) none L) vo L))),o1z,17⟩
def q2j:Way S:=⟨.ret,⟨v1A,o1m,57⟩,[.int,.int,.int,(.st 4),(.st 8),(.mp .str (.int .i64))]⟩
def q2k:Way S:=⟨.ret,⟨v1A,o1m,62⟩,[.int,.int,.int,(.st 4),(.st 8),(.mp .str (.int .i64))]⟩
def q2l:Way S:=⟨.ret,⟨v1A,o18,63⟩,[.int,.int,.int,(.st 4),(.st 8),(.mp .str (.int .i64)),(.lst (.st 2))]⟩
def q2m:Way S:=⟨.ret,⟨v1A,o18,66⟩,[.int,.int,.int,(.st 4),(.st 8),(.mp .str (.int .i64)),(.lst (.st 2))]⟩
def q2n:Way S:=⟨(.exit 0),⟨(N (N L (some (.ptr 0 0)) L) none (N L none (N L vo L))),o1z,18⟩,[(.st 8),(.mp .str (.int .i64))]⟩
def q2o:LE S:=⟨q2h,q2i,[.int,.int,(.lst (.st 4)),(.st 8),(.mp .str (.int .i64))],[q2j,q2k,q2l,q2m,q2n]⟩
def q2p (x:tS):((Int×Int×Int×Zw×t1t)⊕(Int×Int×Int×Zw×t1t)⊕(Int×Int×Int×Zw×t1t×(List Zu))⊕(Int×Int×Int×Zw×t1t×(List Zu))⊕t1t)→t0:=Sum.elim (fun y0=>(.inl (y0.1,y0.2.1,y0.2.2.1,y0.2.2.2.1,x.2.2.2.1,y0.2.2.2.2))) (Sum.elim (fun y1=>(.inr (.inl (y1.1,y1.2.1,y1.2.2.1,y1.2.2.2.1,x.2.2.2.1,y1.2.2.2.2)))) (Sum.elim (fun y2=>(.inr (.inr (.inl (y2.1,y2.2.1,y2.2.2.1,y2.2.2.2.1,x.2.2.2.1,y2.2.2.2.2.1,y2.2.2.2.2.2))))) (Sum.elim (fun y3=>(.inr (.inr (.inr (.inl (y3.1,y3.2.1,y3.2.2.1,y3.2.2.2.1,x.2.2.2.1,y3.2.2.2.2.1,y3.2.2.2.2.2)))))) (fun y4=>(.inr (.inr (.inr (.inr (x.2.2.2.1,y4)))))))))
def q2q {R:Type} (x:tS) (k:t0→Option R):Option R:=(X4L x.1 x.2.2.1 x.2.2.2.1 (x.2.1,x.2.2.2.2)).bind (Sum.elim (fun y0=>k (.inl (y0.1,y0.2.1,y0.2.2.1,y0.2.2.2.1,x.2.2.2.1,y0.2.2.2.2))) (Sum.elim (fun y1=>k (.inr (.inl (y1.1,y1.2.1,y1.2.2.1,y1.2.2.2.1,x.2.2.2.1,y1.2.2.2.2)))) (Sum.elim (fun y2=>k (.inr (.inr (.inl (y2.1,y2.2.1,y2.2.2.1,y2.2.2.2.1,x.2.2.2.1,y2.2.2.2.2.1,y2.2.2.2.2.2))))) (Sum.elim (fun y3=>k (.inr (.inr (.inr (.inl (y3.1,y3.2.1,y3.2.2.1,y3.2.2.2.1,x.2.2.2.1,y3.2.2.2.2.1,y3.2.2.2.2.2)))))) (fun y4=>k (.inr (.inr (.inr (.inr (x.2.2.2.1,y4))))))))))
def q2r (x:tS) (v:(Int×t1t)):tS:=(x.1,v.1,x.2.2.1,x.2.2.2.1,v.2)
theorem q2s (x:tS):LE.step X q2o q2d q0 q4 12 x=WO x.1 x.2.2.1 x.2.2.2.1 x.2.1 x.2.2.2.2 (fun w0 w1=>(Sum.inl (x.1,w0,x.2.2.1,x.2.2.2.1,w1))) (fun p0 p1 p2 p3 p4=>(Sum.inr (.inl (p0,p1,p2,p3,x.2.2.2.1,p4)))) (fun p0 p1 p2 p3 p4=>(Sum.inr (.inr (.inl (p0,p1,p2,p3,x.2.2.2.1,p4))))) (fun p0 p1 p2 p3 p4 p5=>(Sum.inr (.inr (.inr (.inl (p0,p1,p2,p3,x.2.2.2.1,p4,p5)))))) (fun p0 p1 p2 p3 p4 p5=>(Sum.inr (.inr (.inr (.inr (.inl (p0,p1,p2,p3,x.2.2.2.1,p4,p5))))))) (fun p0=>(Sum.inr (.inr (.inr (.inr (.inr (x.2.2.2.1,p0))))))):=by kernel_rfl
theorem q2u {R:Type} (x:tS) (k:t0→Option R) (r:R) (h:q2q x k=some r):∃ o,Z5p (LE.step X q2o q2d q0 q4 12) x o∧k o=some r:=by
 obtain ⟨o,h1,h2⟩:=Z0 h
 exact ⟨q2p x o,Zh7 (st:=fun (x:tS)=>Wr x.1 x.2.2.1 x.2.2.2.1) (prj:=fun x=>(x.2.1,x.2.2.2.2)) (emb:=q2r) (embO:=q2p) (fun x=>(q2s x).trans (by unfold Wr WO;simp only [ZgZ,ZgU,Zh0,Option.map_some,Option.map_none];rfl)) (fun _ _=>rfl) (fun _ _=>rfl) (fun _ _ _=>rfl) (fun _ _ _=>rfl) (fun _=>rfl) (Z1Q.1 h1),by first|exact h2|(rcases o with o|o|o|o|o<;>exact h2)⟩
def q2v {R:Type}:Z2t S R:=LE.ls X q2o q2q q4
theorem q2w {R:Type}:Z3J X (q2v (R:=R)):=Zhc xok q2e (e:=q2o) q1 q5 q2u q5
def q2x:Key:=⟨[61],61,none,[0,0,1,0,1,1,1,1,1,1],2,26⟩
def q2y:StT S:=⟨(N (N L none (N L none v1M)) none (N (N L none (N (N L none (N L (some (.sl (.st 7) [])) L)) none L)) none (N L vo v1M))),o1z,26⟩
def q2z:Way S:=⟨.ret,⟨v1A,o1l,58⟩,[.int,.int,.int,(.st 8),(.mp .str (.int .i64)),(.st 7)]⟩
def q2A:Way S:=⟨.ret,⟨v1A,o1l,63⟩,[.int,.int,.int,(.st 8),(.mp .str (.int .i64)),(.st 7)]⟩
def q2B:Way S:=⟨.ret,⟨v1A,o1l,67⟩,[.int,.int,.int,(.st 8),(.mp .str (.int .i64)),(.st 7)]⟩
def q2C:Way S:=⟨(.exit 2),⟨L,o1z,27⟩,[(.st 8),(.mp .str (.int .i64))]⟩
def q2D:LE S:=⟨q2x,q2y,[.int,(.lst (.st 7)),.int,(.st 8),(.mp .str (.int .i64))],[q2z,q2A,q2B,q2C]⟩
def q2E (x:tT):(t10⊕t10⊕t10⊕t1t)→t4:=Sum.elim (fun y0=>(.inl (y0.1,y0.2.1,y0.2.2.1,x.2.2.2.1,y0.2.2.2.1,y0.2.2.2.2))) (Sum.elim (fun y1=>(.inr (.inl (y1.1,y1.2.1,y1.2.2.1,x.2.2.2.1,y1.2.2.2.1,y1.2.2.2.2)))) (Sum.elim (fun y2=>(.inr (.inr (.inl (y2.1,y2.2.1,y2.2.2.1,x.2.2.2.1,y2.2.2.2.1,y2.2.2.2.2))))) (fun y3=>(.inr (.inr (.inr (x.2.2.2.1,y3)))))))
def q2F {R:Type} (x:tT) (k:t4→Option R):Option R:=(X2l x.1 x.2.1 x.2.2.2.1 (x.2.2.1,x.2.2.2.2)).bind (Sum.elim (fun y0=>k (.inl (y0.1,y0.2.1,y0.2.2.1,x.2.2.2.1,y0.2.2.2.1,y0.2.2.2.2))) (Sum.elim (fun y1=>k (.inr (.inl (y1.1,y1.2.1,y1.2.2.1,x.2.2.2.1,y1.2.2.2.1,y1.2.2.2.2)))) (Sum.elim (fun y2=>k (.inr (.inr (.inl (y2.1,y2.2.1,y2.2.2.1,x.2.2.2.1,y2.2.2.2.1,y2.2.2.2.2))))) (fun y3=>k (.inr (.inr (.inr (x.2.2.2.1,y3))))))))
def q2G (x:tT) (v:(Int×t1t)):tT:=(x.1,x.2.1,v.1,x.2.2.2.1,v.2)
theorem q2H (x:tT):LE.step X q2D q2d q0 q2v 12 x=WP x.1 x.2.1 x.2.2.2.1 x.2.2.1 x.2.2.2.2 (fun w0 w1=>(Sum.inl (x.1,x.2.1,w0,x.2.2.2.1,w1))) (fun p0 p1 p2 p3 p4=>(Sum.inr (.inl (p0,p1,p2,x.2.2.2.1,p3,p4)))) (fun p0 p1 p2 p3 p4=>(Sum.inr (.inr (.inl (p0,p1,p2,x.2.2.2.1,p3,p4))))) (fun p0 p1 p2 p3 p4=>(Sum.inr (.inr (.inr (.inl (p0,p1,p2,x.2.2.2.1,p3,p4)))))) (fun p0=>(Sum.inr (.inr (.inr (.inr (x.2.2.2.1,p0)))))):=by kernel_rfl
theorem q2J {R:Type} (x:tT) (k:t4→Option R) (r:R) (h:q2F x k=some r):∃ o,Z5p (LE.step X q2D q2d q0 q2v 12) x o∧k o=some r:=by
 obtain ⟨o,h1,h2⟩:=Z0 h
 exact ⟨q2E x o,Zh7 (st:=fun (x:tT)=>Ws x.1 x.2.1 x.2.2.2.1) (prj:=fun x=>(x.2.2.1,x.2.2.2.2)) (emb:=q2G) (embO:=q2E) (fun x=>(q2H x).trans (by unfold Ws WP;simp only [ZgZ,ZgU,Zh0,Option.map_some,Option.map_none];rfl)) (fun _ _=>rfl) (fun _ _=>rfl) (fun _ _ _=>rfl) (fun _ _ _=>rfl) (fun _=>rfl) (Z1Q.1 h1),by first|exact h2|(rcases o with o|o|o|o<;>exact h2)⟩
def q2K {R:Type}:Z2t S R:=LE.ls X q2D q2F q2v
theorem q2L {R:Type}:Z3J X (q2K (R:=R)):=Zhc xok q2e (e:=q2D) q1 q2w q2J q2w
theorem q2M (x0:Zk):Zhe X q2d [(.st 8)] [(.int .i64),(.int .i64),(.int .i64)] q0 q2K 12 61 (x0,())=X3x x0:=by kernel_rfl
def q2N:F7 S:=⟨[(.st 8)],[(.int .i64),(.int .i64),(.int .i64)],fun xs=>X3x xs.1⟩
theorem q2O:Z97 X 61 q2N:=Zhb (Zha xok q2e q1 q2L 12 61) fun xs _ h=>(q2M xs.1).trans h
def q2T:Key:=⟨[114,2,1,89,2,1,57],114,none,[0,0,1,0,1],0,17⟩
def q2U:StT S:=⟨(N (N (N (N L vU L) none L) (some (.fn (.func 90) [] [(.ptr 0 0),(.ptr 1 0)])) L) vL v1I),(N (N L oy L) oy L),17⟩
def q2X:LE S:=⟨q2T,q2U,[.int,(.lst (.int .i64)),.int,.int,.int],[qs,qt]⟩
def q2Z {R:Type} (x:t1a) (k:t1i→Option R):Option R:=(X4R x.1 x.2.1 x.2.2.2.1 x.2.2.2.2 x.2.2.1).bind (Sum.elim (fun y0=>k (.inl (y0,x.2.2.2.1,x.2.2.2.2))) (fun y1=>k (.inr (x.2.2.2.1,x.2.2.2.2))))
theorem q31 (x:t1a):LE.step X q2X q2 q0 q4 12 x=WU x.1 x.2.1 x.2.2.2.1 x.2.2.2.2 x.2.2.1 (fun w0=>(Sum.inl (x.1,x.2.1,w0,x.2.2.2.1,x.2.2.2.2))) (fun p0=>(Sum.inr (.inl (p0,x.2.2.2.1,x.2.2.2.2)))) (Sum.inr (.inr (x.2.2.2.1,x.2.2.2.2))):=by kernel_rfl
theorem q33 {R:Type} (x:t1a) (k:t1i→Option R) (r:R) (h:q2Z x k=some r):∃ o,Z5p (LE.step X q2X q2 q0 q4 12) x o∧k o=some r:=by
 obtain ⟨o,h1,h2⟩:=Z0 h
 exact ⟨qv x o,Zh7 (st:=fun (x:t1a)=>Wz x.1 x.2.1 x.2.2.2.1 x.2.2.2.2) (prj:=fun x=>x.2.2.1) (emb:=qx) (embO:=qv) (fun x=>(q31 x).trans (by unfold Wz WU;simp only [ZgZ,ZgU,Zh0,Option.map_some,Option.map_none];rfl)) (fun _ _=>rfl) (fun _ _=>rfl) (fun _ _ _=>rfl) (fun _ _ _=>rfl) (fun _=>rfl) (Z1Q.1 h1),by first|exact h2|(rcases o with o|o<;>exact h2)⟩
def q34 {R:Type}:Z2t S R:=LE.ls X q2X q2Z q4
theorem q35 {R:Type}:Z3J X (q34 (R:=R)):=Zhc xok q3 (e:=q2X) q1 q5 q33 q5
theorem q36 (x0:Int) (x1:Int) (x2:List Int):Zhe X q2 [(.int .i64),(.int .i64),(.sl (.int .i64))] [.bool] q0 q34 12 57 (x0,x1,x2,())=X2v x0 x1 x2:=by kernel_rfl
def q37:F7 S:=⟨[(.int .i64),(.int .i64),(.sl (.int .i64))],[.bool],fun xs=>X3 xs.1 xs.2.1 xs.2.2.1⟩
theorem q38:Z97 X 57 q37:=Zhb (Zha xok q3 q1 q35 12 57) fun xs _ h=>((q36 xs.1 xs.2.1 xs.2.2.1).trans (X6f xs.1 xs.2.1 xs.2.2.1).symm).trans h
def q39:List (Nat×F7 S):=[(92,qk),(57,q37)]
theorem q3a:Z9h X (q39):=⟨ql,q38,trivial⟩
def q3d:Key:=⟨[122,2,1,96,2,6,64],122,none,[0,0,1,0,1],0,25⟩
def q3e:StT S:=⟨v19,(N L od L),25⟩
def q3f:Way S:=⟨.ret,⟨v1J,(N L od o1w),44⟩,[.int,(.st 18),(.st 18)]⟩
def q3g:Way S:=⟨(.exit 0),⟨L,(N L od L),26⟩,[(.st 18)]⟩
def q3h:LE S:=⟨q3d,q3e,[.int,(.lst (.st 18)),.int,(.st 18)],[q3f,q3g]⟩
def q3i (x:t14):((Int×Z5)⊕Unit)→t11:=Sum.elim (fun y0=>(.inl (y0.1,x.2.2.2,y0.2))) (fun y1=>(.inr x.2.2.2))
def q3j {R:Type} (x:t14) (k:t11→Option R):Option R:=(X2z x.1 x.2.1 x.2.2.2 x.2.2.1).bind (Sum.elim (fun y0=>k (.inl (y0.1,x.2.2.2,y0.2))) (fun y1=>k (.inr x.2.2.2)))
def q3k (x:t14) (v:Int):t14:=(x.1,x.2.1,v,x.2.2.2)
theorem q3l (x:t14):LE.step X q3h q39 q0 q4 12 x=XO x.1 x.2.1 x.2.2.2 x.2.2.1 (fun w0=>(Sum.inl (x.1,x.2.1,w0,x.2.2.2))) (fun p0 p1=>(Sum.inr (.inl (p0,x.2.2.2,p1)))) (Sum.inr (.inr x.2.2.2)):=by kernel_rfl
theorem q3n {R:Type} (x:t14) (k:t11→Option R) (r:R) (h:q3j x k=some r):∃ o,Z5p (LE.step X q3h q39 q0 q4 12) x o∧k o=some r:=by
 obtain ⟨o,h1,h2⟩:=Z0 h
 exact ⟨q3i x o,Zh7 (st:=fun (x:t14)=>XH x.1 x.2.1 x.2.2.2) (prj:=fun x=>x.2.2.1) (emb:=q3k) (embO:=q3i) (fun x=>(q3l x).trans (by unfold XH XO;simp only [ZgZ,ZgU,Zh0,Option.map_some,Option.map_none];rfl)) (fun _ _=>rfl) (fun _ _=>rfl) (fun _ _ _=>rfl) (fun _ _ _=>rfl) (fun _=>rfl) (Z1Q.1 h1),by first|exact h2|(rcases o with o|o<;>exact h2)⟩
def q3o {R:Type}:Z2t S R:=LE.ls X q3h q3j q4
theorem q3p {R:Type}:Z3J X (q3o (R:=R)):=Zhc xok q3a (e:=q3h) q1 q5 q3n q5
def q3q:Key:=⟨[122,2,1,96,2,6,64],122,none,[0,0,1,0,1],0,24⟩
def q3r:StT S:=⟨v19,(N L od L),24⟩
def q3s:Way S:=⟨.ret,⟨v1J,(N o1w od L),43⟩,[.int,(.st 18),(.st 18)]⟩
def q3t:Way S:=⟨(.exit 0),⟨L,(N L od L),25⟩,[(.st 18)]⟩
def q3u:LE S:=⟨q3q,q3r,[.int,(.lst (.st 18)),.int,(.st 18)],[q3s,q3t]⟩
def q3v (x:t14):((Int×Z5)⊕Unit)→t11:=Sum.elim (fun y0=>(.inl (y0.1,y0.2,x.2.2.2))) (fun y1=>(.inr x.2.2.2))
def q3w {R:Type} (x:t14) (k:t11→Option R):Option R:=(X2A x.1 x.2.1 x.2.2.2 x.2.2.1).bind (Sum.elim (fun y0=>k (.inl (y0.1,y0.2,x.2.2.2))) (fun y1=>k (.inr x.2.2.2)))
theorem q3y (x:t14):LE.step X q3u q39 q0 q3o 12 x=XP x.1 x.2.1 x.2.2.2 x.2.2.1 (fun w0=>(Sum.inl (x.1,x.2.1,w0,x.2.2.2))) (fun p0 p1=>(Sum.inr (.inl (p0,p1,x.2.2.2)))) (Sum.inr (.inr x.2.2.2)):=by kernel_rfl
theorem q3A {R:Type} (x:t14) (k:t11→Option R) (r:R) (h:q3w x k=some r):∃ o,Z5p (LE.step X q3u q39 q0 q3o 12) x o∧k o=some r:=by
 obtain ⟨o,h1,h2⟩:=Z0 h
 exact ⟨q3v x o,Zh7 (st:=fun (x:t14)=>XI x.1 x.2.1 x.2.2.2) (prj:=fun x=>x.2.2.1) (emb:=q3k) (embO:=q3v) (fun x=>(q3y x).trans (by unfold XI XP;simp only [ZgZ,ZgU,Zh0,Option.map_some,Option.map_none];rfl)) (fun _ _=>rfl) (fun _ _=>rfl) (fun _ _ _=>rfl) (fun _ _ _=>rfl) (fun _=>rfl) (Z1Q.1 h1),by first|exact h2|(rcases o with o|o<;>exact h2)⟩
def q3B {R:Type}:Z2t S R:=LE.ls X q3u q3w q3o
theorem q3C {R:Type}:Z3J X (q3B (R:=R)):=Zhc xok q3a (e:=q3u) q1 q3p q3A q3p
theorem q3D (x0:Z5) (x1:List Z5):Zhe X q39 [(.st 18),(.sl (.st 18))] [(.int .i64)] q0 q3B 12 64 (x0,x1,())=X1n x0 x1:=by kernel_rfl
def q3E:F7 S:=⟨[(.st 18),(.sl (.st 18))],[(.int .i64)],fun xs=>X3T xs.1 xs.2.1⟩
theorem q3F:Z97 X 64 q3E:=Zhb (Zha xok q3a q1 q3C 12 64) fun xs _ h=>((q3D xs.1 xs.2.1).trans (X59 xs.1 xs.2.1).symm).trans h
def q3G:List (Nat×F7 S):=[(57,q37)]
theorem q3H:Z9h X (q3G):=⟨q38,trivial⟩
theorem q3K (x0:Zt):Zhe X q3G [(.st 19)] [(.int .i64)] q0 q4 12 67 (x0,())=X3G x0:=by kernel_rfl
def q3L:F7 S:=⟨[(.st 19)],[(.int .i64)],fun xs=>X76 xs.1⟩
theorem q3M:Z97 X 67 q3L:=Zhb (Zha xok q3H q1 q5 12 67) fun xs _ h=>((q3K xs.1).trans (X7m xs.1).symm).trans h
def q3N:List (Nat×F7 S):=[(67,q3L)]
theorem q3O:Z9h X (q3N):=⟨q3M,trivial⟩
theorem q3R (x0:Int) (x1:Zt):Zhe X q3N [(.int .i64),(.st 19)] [(.int .i64)] q0 q4 12 66 (x0,x1,())=X2s x0 x1:=by kernel_rfl
def q3S:F7 S:=⟨[(.int .i64),(.st 19)],[(.int .i64)],fun xs=>X4i xs.1 xs.2.1⟩
theorem q3T:Z97 X 66 q3S:=Zhb (Zha xok q3O q1 q5 12 66) fun xs _ h=>((q3R xs.1 xs.2.1).trans (X6a xs.1 xs.2.1).symm).trans h
def q3U:List (Nat×F7 S):=[(61,q2N),(57,q37),(64,q3E),(66,q3S)]
theorem q3V:Z9h X (q3U):=⟨q2O,q38,q3F,q3T,trivial⟩
def q3Y:Key:=⟨[62,3,8,29],62,none,[0,0,1,0,1],0,51⟩
def q3Z:StT S:=⟨(N (N (N L none (N L vU L)) (some (.fn (.func 63) [] [(.ptr 0 0)])) (N (N L vP L) none L)) none v1J),(N L oe L),51⟩
def q40:Way S:=⟨.ret,⟨v1y,(N (N (N (N (N (N (N L od L) none L) none L) none (N L none (N L od L))) none L) none L) oe L),78⟩,[.int,.int,(.st 18),(.st 18),(.st 20)]⟩
def q41:Way S:=⟨(.exit 0),⟨L,(N L oe L),52⟩,[(.st 20)]⟩
def q42:LE S:=⟨q3Y,q3Z,[.int,(.lst (.st 18)),.int,(.st 20)],[q40,q41]⟩
def q43 (x:t18):((Int×Int×Z5×Z5)⊕Unit)→tW:=Sum.elim (fun y0=>(.inl (y0.1,y0.2.1,y0.2.2.1,y0.2.2.2,x.2.2.2))) (fun y1=>(.inr x.2.2.2))
def q44 {R:Type} (x:t18) (k:tW→Option R):Option R:=(X49 x.2.1 x.2.2.1 x.2.2.2 x.1).bind (Sum.elim (fun y0=>k (.inl (y0.1,y0.2.1,y0.2.2.1,y0.2.2.2,x.2.2.2))) (fun y1=>k (.inr x.2.2.2)))
def q45 (x:t18) (v:Int):t18:=(v,x.2.1,x.2.2.1,x.2.2.2)
theorem q46 (x:t18):LE.step X q42 q3U q0 q4 12 x=X1N x.2.1 x.2.2.1 x.2.2.2 x.1 (fun w0=>(Sum.inl (w0,x.2.1,x.2.2.1,x.2.2.2))) (fun p0 p1 p2 p3=>(Sum.inr (.inl (p0,p1,p2,p3,x.2.2.2)))) (Sum.inr (.inr x.2.2.2)):=by kernel_rfl
theorem q48 {R:Type} (x:t18) (k:tW→Option R) (r:R) (h:q44 x k=some r):∃ o,Z5p (LE.step X q42 q3U q0 q4 12) x o∧k o=some r:=by
 obtain ⟨o,h1,h2⟩:=Z0 h
 exact ⟨q43 x o,Zh7 (st:=fun (x:t18)=>X1I x.2.1 x.2.2.1 x.2.2.2) (prj:=fun x=>x.1) (emb:=q45) (embO:=q43) (fun x=>(q46 x).trans (by unfold X1I X1N;simp only [ZgZ,ZgU,Zh0,Option.map_some,Option.map_none];rfl)) (fun _ _=>rfl) (fun _ _=>rfl) (fun _ _ _=>rfl) (fun _ _ _=>rfl) (fun _=>rfl) (Z1Q.1 h1),by first|exact h2|(rcases o with o|o<;>exact h2)⟩
def q49 {R:Type}:Z2t S R:=LE.ls X q42 q44 q4
theorem q4a {R:Type}:Z3J X (q49 (R:=R)):=Zhc xok q3V (e:=q42) q1 q5 q48 q5
def q4b:Key:=⟨[65,2,13,29],65,none,[0,0,1,0,1],0,97⟩
def q4c:StT S:=⟨v12,L,97⟩
def q4d:Way S:=⟨.ret,⟨v1y,(N (N L none (N L none (N (N (N L none (N L oc L)) none L) none L))) none L),115⟩,[.int,.int,(.st 19)]⟩
def q4e:Way S:=⟨(.exit 0),⟨L,L,98⟩,[]⟩
def q4f:LE S:=⟨q4b,q4c,[.int,(.lst (.st 19)),.int],[q4d,q4e]⟩
def q4g (x:t1r):t1p→t1p:=Sum.elim (fun y0=>(.inl (y0.1,y0.2.1,y0.2.2))) (fun y1=>(.inr ()))
def q4h {R:Type} (x:t1r) (k:t1p→Option R):Option R:=(X4a x.2.1 x.2.2 x.1).bind (Sum.elim (fun y0=>k (.inl (y0.1,y0.2.1,y0.2.2))) (fun y1=>k (.inr ())))
def q4i (x:t1r) (v:Int):t1r:=(v,x.2.1,x.2.2)
theorem q4j (x:t1r):LE.step X q4f q3U q0 q49 12 x=X1O x.2.1 x.2.2 x.1 (fun w0=>(Sum.inl (w0,x.2.1,x.2.2))) (fun p0 p1 p2=>(Sum.inr (.inl (p0,p1,p2)))) (Sum.inr (.inr ())):=by kernel_rfl
theorem q4l {R:Type} (x:t1r) (k:t1p→Option R) (r:R) (h:q4h x k=some r):∃ o,Z5p (LE.step X q4f q3U q0 q49 12) x o∧k o=some r:=by
 obtain ⟨o,h1,h2⟩:=Z0 h
 exact ⟨q4g x o,Zh7 (st:=fun (x:t1r)=>X1J x.2.1 x.2.2) (prj:=fun x=>x.1) (emb:=q4i) (embO:=q4g) (fun x=>(q4j x).trans (by unfold X1J X1O;simp only [ZgZ,ZgU,Zh0,Option.map_some,Option.map_none];rfl)) (fun _ _=>rfl) (fun _ _=>rfl) (fun _ _ _=>rfl) (fun _ _ _=>rfl) (fun _=>rfl) (Z1Q.1 h1),by first|exact h2|(rcases o with o|o<;>exact h2)⟩
def q4m {R:Type}:Z2t S R:=LE.ls X q4f q4h q49
theorem q4n {R:Type}:Z3J X (q4m (R:=R)):=Zhc xok q3V (e:=q4f) q1 q4a q4l q4a
def q4o:Key:=⟨[65,2,13,29],65,none,[0,0,1,0,1],0,73⟩
def q4p:StT S:=⟨v12,L,73⟩
def q4q:Way S:=⟨.ret,⟨v1y,(N (N L none (N L none (N L none (N (N (N L oc L) none L) none L)))) none L),91⟩,[.int,.int,(.st 19)]⟩
def q4r:Way S:=⟨(.exit 0),⟨L,L,74⟩,[]⟩
def q4s:LE S:=⟨q4o,q4p,[.int,(.lst (.st 19)),.int],[q4q,q4r]⟩
def q4u {R:Type} (x:t1r) (k:t1p→Option R):Option R:=(X2U x.2.1 x.2.2 x.1).bind (Sum.elim (fun y0=>k (.inl (y0.1,y0.2.1,y0.2.2))) (fun y1=>k (.inr ())))
theorem q4w (x:t1r):LE.step X q4s q3U q0 q4m 12 x=X3F x.2.1 x.2.2 x.1 (fun w0=>(Sum.inl (w0,x.2.1,x.2.2))) (fun p0 p1 p2=>(Sum.inr (.inl (p0,p1,p2)))) (Sum.inr (.inr ())):=by kernel_rfl
theorem q4y {R:Type} (x:t1r) (k:t1p→Option R) (r:R) (h:q4u x k=some r):∃ o,Z5p (LE.step X q4s q3U q0 q4m 12) x o∧k o=some r:=by
 obtain ⟨o,h1,h2⟩:=Z0 h
 exact ⟨q4g x o,Zh7 (st:=fun (x:t1r)=>X4r x.2.1 x.2.2) (prj:=fun x=>x.1) (emb:=q4i) (embO:=q4g) (fun x=>(q4w x).trans (by unfold X4r X3F;simp only [ZgZ,ZgU,Zh0,Option.map_some,Option.map_none];rfl)) (fun _ _=>rfl) (fun _ _=>rfl) (fun _ _ _=>rfl) (fun _ _ _=>rfl) (fun _=>rfl) (Z1Q.1 h1),by first|exact h2|(rcases o with o|o<;>exact h2)⟩
def q4z {R:Type}:Z2t S R:=LE.ls X q4s q4u q4m
theorem q4A {R:Type}:Z3J X (q4z (R:=R)):=Zhc xok q3V (e:=q4s) q1 q4n q4y q4n
theorem q4B (x0:ZI):Zhe X q3U [(.st 20)] [(.int .i64),(.int .i64),(.int .i64)] q0 q4z 12 29 (x0,())=X3b x0:=by kernel_rfl
def q4C:F7 S:=⟨[(.st 20)],[(.int .i64),(.int .i64),(.int .i64)],fun xs=>X6x xs.1⟩
theorem q4D:Z97 X 29 q4C:=Zhb (Zha xok q3V q1 q4A 12 29) fun xs _ h=>((q4B xs.1).trans (X72 xs.1).symm).trans h
def q4E:List (Nat×F7 S):=[(61,q2N),(117,qE)]
theorem q4F:Z9h X (q4E):=⟨q2O,qF,trivial⟩
def q4I:Key:=⟨[132,1,109],132,none,[0,0,1],0,45⟩
def q4J:StT S:=⟨(N (N (N L vU L) (some (.ptr 36 0)) L) (some (.yld 40)) L),oW,45⟩
def q4K:Way S:=⟨.ret,⟨L,(N (N (N (N L none (N L none (N L og L))) oy L) oy L) on (N (N (N (N L ov L) none (N (N L (some (.loop 109 (N (N (N (N L (some (.ptr 3 0)) L) (some (.ptr 0 0)) (N L none (N (N L vk L) vT L))) vU (N (N (N L vT L) none L) none L)) vt (N (N (N L (some (.ptr 4 0)) L) (some (.ptr 1 0)) L) vU (N L (some (.ptr 2 0)) (N (N L vT L) none L)))) (44::(45::[])) .skip .skip 1 .ret (1::(109::[])) (0::(1::(0::(1::(1::(1::(1::[]))))))))) L) ov L)) ow (N (N (N L op L) none L) none L)) oi L)),67⟩,[(.st 3),.int,.int,(.st 8),(.lst (.int .i64)),.bool,.int,.bool,(.st 8),.int,.bool,(.lst (.int .i64)),.int,(.lst (.st 3)),(.st 4)]⟩
def q4L:Way S:=⟨(.exit 0),⟨L,oW,47⟩,[.int,.int,(.st 8),(.lst (.int .i64)),.bool,.int,.bool,(.st 8),.int,.bool,(.lst (.int .i64)),.int,(.lst (.st 3)),(.st 4)]⟩
def q4M:LE S:=⟨q4I,q4J,[.int,.int,.int,(.st 8),(.lst (.int .i64)),.bool,.int,.bool,(.st 8),.int,.bool,(.lst (.int .i64)),.int,(.lst (.st 3)),(.st 4)],[q4K,q4L]⟩
def q4N (x:tg):((Zj×Int×Int)⊕Unit)→t3:=Sum.elim (fun y0=>(.inl (y0.1,y0.2.1,x.2.2.1,x.2.2.2.1,x.2.2.2.2.1,x.2.2.2.2.2.1,x.2.2.2.2.2.2.1,x.2.2.2.2.2.2.2.1,x.2.2.2.2.2.2.2.2.1,x.2.2.2.2.2.2.2.2.2.1,x.2.2.2.2.2.2.2.2.2.2.1,x.2.2.2.2.2.2.2.2.2.2.2.1,y0.2.2,x.2.2.2.2.2.2.2.2.2.2.2.2.2.1,x.2.2.2.2.2.2.2.2.2.2.2.2.2.2))) (fun y1=>(.inr (x.2.1,x.2.2.1,x.2.2.2.1,x.2.2.2.2.1,x.2.2.2.2.2.1,x.2.2.2.2.2.2.1,x.2.2.2.2.2.2.2.1,x.2.2.2.2.2.2.2.2.1,x.2.2.2.2.2.2.2.2.2.1,x.2.2.2.2.2.2.2.2.2.2.1,x.2.2.2.2.2.2.2.2.2.2.2.1,x.2.2.2.2.2.2.2.2.2.2.2.2.1,x.2.2.2.2.2.2.2.2.2.2.2.2.2.1,x.2.2.2.2.2.2.2.2.2.2.2.2.2.2)))
def q4O {R:Type} (x:tg) (k:t3→Option R):Option R:=(X1Z x.2.2.1 x.2.2.2.2.2.2.2.2.2.2.2.2.2.1 x.1).bind (Sum.elim (fun y0=>k (.inl (y0.1,y0.2.1,x.2.2.1,x.2.2.2.1,x.2.2.2.2.1,x.2.2.2.2.2.1,x.2.2.2.2.2.2.1,x.2.2.2.2.2.2.2.1,x.2.2.2.2.2.2.2.2.1,x.2.2.2.2.2.2.2.2.2.1,x.2.2.2.2.2.2.2.2.2.2.1,x.2.2.2.2.2.2.2.2.2.2.2.1,y0.2.2,x.2.2.2.2.2.2.2.2.2.2.2.2.2.1,x.2.2.2.2.2.2.2.2.2.2.2.2.2.2))) (fun y1=>k (.inr (x.2.1,x.2.2.1,x.2.2.2.1,x.2.2.2.2.1,x.2.2.2.2.2.1,x.2.2.2.2.2.2.1,x.2.2.2.2.2.2.2.1,x.2.2.2.2.2.2.2.2.1,x.2.2.2.2.2.2.2.2.2.1,x.2.2.2.2.2.2.2.2.2.2.1,x.2.2.2.2.2.2.2.2.2.2.2.1,x.2.2.2.2.2.2.2.2.2.2.2.2.1,x.2.2.2.2.2.2.2.2.2.2.2.2.2.1,x.2.2.2.2.2.2.2.2.2.2.2.2.2.2))))
def q4P (x:tg) (v:Int):tg:=(v,x.2.1,x.2.2.1,x.2.2.2.1,x.2.2.2.2.1,x.2.2.2.2.2.1,x.2.2.2.2.2.2.1,x.2.2.2.2.2.2.2.1,x.2.2.2.2.2.2.2.2.1,x.2.2.2.2.2.2.2.2.2.1,x.2.2.2.2.2.2.2.2.2.2.1,x.2.2.2.2.2.2.2.2.2.2.2.1,x.2.2.2.2.2.2.2.2.2.2.2.2.1,x.2.2.2.2.2.2.2.2.2.2.2.2.2.1,x.2.2.2.2.2.2.2.2.2.2.2.2.2.2)
theorem q4Q (x:tg):LE.step X q4M q4E q0 q4 12 x=Wh x.2.2.1 x.2.2.2.2.2.2.2.2.2.2.2.2.2.1 x.1 (fun w0=>(Sum.inl (w0,x.2.1,x.2.2.1,x.2.2.2.1,x.2.2.2.2.1,x.2.2.2.2.2.1,x.2.2.2.2.2.2.1,x.2.2.2.2.2.2.2.1,x.2.2.2.2.2.2.2.2.1,x.2.2.2.2.2.2.2.2.2.1,x.2.2.2.2.2.2.2.2.2.2.1,x.2.2.2.2.2.2.2.2.2.2.2.1,x.2.2.2.2.2.2.2.2.2.2.2.2.1,x.2.2.2.2.2.2.2.2.2.2.2.2.2.1,x.2.2.2.2.2.2.2.2.2.2.2.2.2.2))) (fun p0 p1 p2=>(Sum.inr (.inl (p0,p1,x.2.2.1,x.2.2.2.1,x.2.2.2.2.1,x.2.2.2.2.2.1,x.2.2.2.2.2.2.1,x.2.2.2.2.2.2.2.1,x.2.2.2.2.2.2.2.2.1,x.2.2.2.2.2.2.2.2.2.1,x.2.2.2.2.2.2.2.2.2.2.1,x.2.2.2.2.2.2.2.2.2.2.2.1,p2,x.2.2.2.2.2.2.2.2.2.2.2.2.2.1,x.2.2.2.2.2.2.2.2.2.2.2.2.2.2)))) (Sum.inr (.inr (x.2.1,x.2.2.1,x.2.2.2.1,x.2.2.2.2.1,x.2.2.2.2.2.1,x.2.2.2.2.2.2.1,x.2.2.2.2.2.2.2.1,x.2.2.2.2.2.2.2.2.1,x.2.2.2.2.2.2.2.2.2.1,x.2.2.2.2.2.2.2.2.2.2.1,x.2.2.2.2.2.2.2.2.2.2.2.1,x.2.2.2.2.2.2.2.2.2.2.2.2.1,x.2.2.2.2.2.2.2.2.2.2.2.2.2.1,x.2.2.2.2.2.2.2.2.2.2.2.2.2.2))):=by kernel_rfl
theorem q4S {R:Type} (x:tg) (k:t3→Option R) (r:R) (h:q4O x k=some r):∃ o,Z5p (LE.step X q4M q4E q0 q4 12) x o∧k o=some r:=by
 obtain ⟨o,h1,h2⟩:=Z0 h
 exact ⟨q4N x o,Zh7 (st:=fun (x:tg)=>W7 x.2.2.1 x.2.2.2.2.2.2.2.2.2.2.2.2.2.1) (prj:=fun x=>x.1) (emb:=q4P) (embO:=q4N) (fun x=>(q4Q x).trans (by unfold W7 Wh;simp only [ZgZ,ZgU,Zh0,Option.map_some,Option.map_none];rfl)) (fun _ _=>rfl) (fun _ _=>rfl) (fun _ _ _=>rfl) (fun _ _ _=>rfl) (fun _=>rfl) (Z1Q.1 h1),by first|exact h2|(rcases o with o|o<;>exact h2)⟩
def q4T {R:Type}:Z2t S R:=LE.ls X q4M q4O q4
theorem q4U {R:Type}:Z3J X (q4T (R:=R)):=Zhc xok q4F (e:=q4M) q1 q5 q4S q5
theorem q4V (x0:Zk) (x1:Int) (x2:Int):Zhe X q4E [(.st 8),(.int .i64),(.int .i64)] [(.st 4),(.int .i64),(.int .i64)] q0 q4T 12 109 (x0,x1,x2,())=X26 x0 x1 x2:=by kernel_rfl
def q4W:F7 S:=⟨[(.st 8),(.int .i64),(.int .i64)],[(.st 4),(.int .i64),(.int .i64)],fun xs=>X3D xs.1 xs.2.1 xs.2.2.1⟩
theorem q4X:Z97 X 109 q4W:=Zhb (Zha xok q4F q1 q4U 12 109) fun xs _ h=>((q4V xs.1 xs.2.1 xs.2.2.1).trans (X5T xs.1 xs.2.1 xs.2.2.1).symm).trans h
def q4Y:List (Nat×F7 S):=[(109,q4W)]
theorem q4Z:Z9h X (q4Y):=⟨q4X,trivial⟩
theorem q52 (x0:Zk) (x1:Int) (x2:Int):Zhe X q4Y [(.st 8),(.int .i64),(.int .i64)] [(.int .i64),(.int .i64)] q0 q4 12 82 (x0,x1,x2,())=X25 x0 x1 x2:=by kernel_rfl
def q53:F7 S:=⟨[(.st 8),(.int .i64),(.int .i64)],[(.int .i64),(.int .i64)],fun xs=>X5F xs.1 xs.2.1 xs.2.2.1⟩
theorem q54:Z97 X 82 q53:=Zhb (Zha xok q4Z q1 q5 12 82) fun xs _ h=>((q52 xs.1 xs.2.1 xs.2.2.1).trans (X5R xs.1 xs.2.1 xs.2.2.1).symm).trans h
theorem q59 (x0:Zk) (x1:Int) (x2:Int):Zhe X q4Y [(.st 8),(.int .i64),(.int .i64)] [(.st 4),(.int .i64)] q0 q4 12 126 (x0,x1,x2,())=X1k x0 x1 x2:=by kernel_rfl
def q5a:F7 S:=⟨[(.st 8),(.int .i64),(.int .i64)],[(.st 4),(.int .i64)],fun xs=>X4M xs.1 xs.2.1 xs.2.2.1⟩
theorem q5b:Z97 X 126 q5a:=Zhb (Zha xok q4Z q1 q5 12 126) fun xs _ h=>((q59 xs.1 xs.2.1 xs.2.2.1).trans (X57 xs.1 xs.2.1 xs.2.2.1).symm).trans h
theorem q5g:Zhe X q2 [] [(.arr 8 (.st 2))] q0 q4 12 133 (())=X6H:=by kernel_rfl
def q5h:F7 S:=⟨[],[(.arr 8 (.st 2))],fun xs=>X6H⟩
theorem q5i:Z97 X 133 q5h:=Zhb (Zha xok q3 q1 q5 12 133) fun xs _ h=>(q5g).trans h
def q5j:List (Nat×F7 S):=[(133,q5h),(120,q1F)]
theorem q5k:Z9h X (q5j):=⟨q5i,q1G,trivial⟩
def q5n:Key:=⟨[127],127,none,[0,0,0,1],0,2⟩
def q5o:StT S:=⟨(N (N L (some (.ptr 0 0)) L) none (N L vU L)),(N L om L),2⟩
def q5p:Way S:=⟨(.exit 0),⟨(N (N L (some (.ptr 0 0)) L) none (N L vU L)),(N L om L),10⟩,[.int,(.st 2)]⟩
def q5q:LE S:=⟨q5n,q5o,[.int,(.st 2)],[q5p]⟩
def q5r (x:(Int×Zu)):(Int×Zu)→(Int×Zu):=fun y0=>(y0.1,y0.2)
def q5s {R:Type} (x:(Int×Zu)) (k:(Int×Zu)→Option R):Option R:=(X20 (x.1,x.2)).bind (fun y0=>k (y0.1,y0.2))
def q5t (x:(Int×Zu)) (v:(Int×Zu)):(Int×Zu):=(v.1,v.2)
theorem q5u (x:(Int×Zu)):LE.step X q5q q5j q0 q4 12 x=Xz x.1 x.2 (fun w0 w1=>(Sum.inl (w0,w1))) (fun p0 p1=>(Sum.inr (p0,p1))):=by kernel_rfl
theorem q5w {R:Type} (x:(Int×Zu)) (k:(Int×Zu)→Option R) (r:R) (h:q5s x k=some r):∃ o,Z5p (LE.step X q5q q5j q0 q4 12) x o∧k o=some r:=by
 obtain ⟨o,h1,h2⟩:=Z0 h
 exact ⟨q5r x o,Zh7 (st:=fun (x:(Int×Zu))=>Xd) (prj:=fun x=>(x.1,x.2)) (emb:=q5t) (embO:=q5r) (fun x=>(q5u x).trans (by unfold Xd Xz;simp only [ZgZ,ZgU,Zh0,Option.map_some,Option.map_none];rfl)) (fun _ _=>rfl) (fun _ _=>rfl) (fun _ _ _=>rfl) (fun _ _ _=>rfl) (fun _=>rfl) (Z1Q.1 h1),by first|exact h2|(rcases o with o<;>exact h2)⟩
def q5x {R:Type}:Z2t S R:=LE.ls X q5q q5s q4
theorem q5y {R:Type}:Z3J X (q5x (R:=R)):=Zhc xok q5k (e:=q5q) q1 q5 q5w q5
def q5z:Key:=⟨[127],127,none,[0,0,1,0,1,1],2,12⟩
def q5A:StT S:=⟨(N (N L (some (.ptr 0 0)) (N L none (N (N L (some (.agg [(.arr (.st 2) 8 (fun _=>tdf T (.st 2)))])) L) none L))) none (N L vU v1J)),(N L om L),12⟩
def q5B:Way S:=⟨(.exit 2),⟨(N L none (N L vU L)),(N L om L),13⟩,[.int,(.st 2)]⟩
def q5C:LE S:=⟨q5z,q5A,[(.arr (.st 2)),.int,.int,(.st 2)],[q5B]⟩
def q5D (x:t1d):Int→(Int×Zu):=fun y0=>(y0,x.2.2.2)
def q5E {R:Type} (x:t1d) (k:(Int×Zu)→Option R):Option R:=(X36 x.1 x.2.2.2 (x.2.1,x.2.2.1)).bind (fun y0=>k (y0,x.2.2.2))
def q5F (x:t1d) (v:(Int×Int)):t1d:=(x.1,v.1,v.2,x.2.2.2)
theorem q5G (x:t1d):LE.step X q5C q5j q0 q5x 12 x=Wj x.1 x.2.2.2 x.2.1 x.2.2.1 (fun w0 w1=>(Sum.inl (x.1,w0,w1,x.2.2.2))) (fun p0=>(Sum.inr (p0,x.2.2.2))):=by kernel_rfl
theorem q5I {R:Type} (x:t1d) (k:(Int×Zu)→Option R) (r:R) (h:q5E x k=some r):∃ o,Z5p (LE.step X q5C q5j q0 q5x 12) x o∧k o=some r:=by
 obtain ⟨o,h1,h2⟩:=Z0 h
 exact ⟨q5D x o,Zh7 (st:=fun (x:t1d)=>W9 x.1 x.2.2.2) (prj:=fun x=>(x.2.1,x.2.2.1)) (emb:=q5F) (embO:=q5D) (fun x=>(q5G x).trans (by unfold W9 Wj;simp only [ZgZ,ZgU,Zh0,Option.map_some,Option.map_none];rfl)) (fun _ _=>rfl) (fun _ _=>rfl) (fun _ _ _=>rfl) (fun _ _ _=>rfl) (fun _=>rfl) (Z1Q.1 h1),by first|exact h2|(rcases o with o<;>exact h2)⟩
def q5J {R:Type}:Z2t S R:=LE.ls X q5C q5E q5x
theorem q5K {R:Type}:Z3J X (q5J (R:=R)):=Zhc xok q5k (e:=q5C) q1 q5y q5I q5y
theorem q5L (x0:Zu):Zhe X q5j [(.st 2)] [(.int .i64)] q0 q5J 12 127 (x0,())=X28 x0:=by kernel_rfl
def q5M:F7 S:=⟨[(.st 2)],[(.int .i64)],fun xs=>X4D xs.1⟩
theorem q5N:Z97 X 127 q5M:=Zhb (Zha xok q5k q1 q5K 12 127) fun xs _ h=>((q5L xs.1).trans (X5V xs.1).symm).trans h
def q5O:List (Nat×F7 S):=[(126,q5a),(93,qY),(121,q1y),(127,q5M)]
theorem q5P:Z9h X (q5O):=⟨q5b,qZ,q1z,q5N,trivial⟩
theorem q5S (x0:Zk) (x1:Int) (x2:Int) (x3:Zu):Zhe X q5O [(.st 8),(.int .i64),(.int .i64),(.st 2)] [(.int .i64),(.int .i64)] q0 q4 12 110 (x0,x1,x2,x3,())=X2H x0 x1 x2 x3:=by kernel_rfl
def q5T:F7 S:=⟨[(.st 8),(.int .i64),(.int .i64),(.st 2)],[(.int .i64),(.int .i64)],fun xs=>X5G xs.1 xs.2.1 xs.2.2.1 xs.2.2.2.1⟩
theorem q5U:Z97 X 110 q5T:=Zhb (Zha xok q5P q1 q5 12 110) fun xs _ h=>((q5S xs.1 xs.2.1 xs.2.2.1 xs.2.2.2.1).trans (X6F xs.1 xs.2.1 xs.2.2.1 xs.2.2.2.1).symm).trans h
def q5V:StT S:=⟨(N (N L vU L) (some (.ptr 1 0)) L),(N (N L o4 L) or L),2⟩
def q5W:Way S:=⟨.ret,⟨(N L vT L),(N (N L o4 L) or L),2⟩,[.bool,(.st 20),(.lst (.st 21)),.en,(.mp (.st 23) (.int .i64))]⟩
def q5X:PE S:=⟨49,2,q5V,[.int,(.st 20),(.lst (.st 21)),.en,(.mp (.st 23) (.int .i64))],[q5W]⟩
def q5Y:List (Nat×F7 S):=[(82,q53)]
theorem q5Z:Z9h X q5Y:=⟨q54,trivial⟩
theorem q62 (x:tO):PE.step X q5X q5Y q0 q4 12 x=XD x.1 x.2.1 x.2.2.1 x.2.2.2.1 x.2.2.2.2:=by kernel_rfl
theorem q63:ZaS X q5X XS:=Zhd (ZgI xok q5Z q1 q5 12) fun x _ h=>((q62 x).trans (X3K x).symm).trans h
def q64 {R:Type}:Prs S R:=PE.ps X q5X (fun x q=>(XS x).bind q) q0
theorem q65 {R:Type}:Z7N X (q64 (R:=R)):=Zh4 (e:=q5X) q63 q1
def q66:StT S:=⟨(N (N L vs L) (some (.ptr 1 0)) L),(N (N L o4 L) or L),2⟩
def q67:Way S:=⟨.ret,⟨(N L vU L),(N (N L o4 L) or L),2⟩,[.int,(.st 20),(.lst (.st 21)),.en,(.mp (.st 23) (.int .i64))]⟩
def q68:PE S:=⟨105,2,q66,[(.st 21),(.st 20),(.lst (.st 21)),.en,(.mp (.st 23) (.int .i64))],[q67]⟩
def q69:List (Nat×F7 S):=[(57,q37),(82,q53)]
theorem q6a:Z9h X q69:=⟨q38,q54,trivial⟩
theorem q6d (x:(Zl×ZI×(List Zl)×(Nat→Nat)×t1v)):PE.step X q68 q69 q64 q4 12 x=XN x.1 x.2.1 x.2.2.1 x.2.2.2.1 x.2.2.2.2:=by kernel_rfl
theorem q6e:ZaS X q68 X1l:=Zhd (ZgI xok q6a q65 q5 12) fun x _ h=>((q6d x).trans (X43 x).symm).trans h
def q6f {R:Type}:Prs S R:=PE.ps X q68 (fun x q=>(X1l x).bind q) q64
theorem q6g {R:Type}:Z7N X (q6f (R:=R)):=Zh4 (e:=q68) q6e q65
def q6h:StT S:=⟨v1x,L,0⟩
def q6i:Way S:=⟨.ret,⟨(N L (some (.tup [.nilp,(.int .i64 0),(.int .i64 0)])) L),L,0⟩,[.int,.int]⟩
def q6j:Way S:=⟨.ret,⟨(N L (some (.tup [(.ptr 1 0),(.int .i64 0),(.int .i64 0)])) L),(N (N L o4 L) or L),2⟩,[.int,.int,(.st 20),(.lst (.st 21)),.en,(.mp (.st 23) (.int .i64))]⟩
def q6k:PE S:=⟨74,2,q6h,[(.lst (.st 21)),(.st 20)],[q6i,q6j]⟩
def q6l:List (Nat×F7 S):=[(29,q4C),(57,q37),(82,q53)]
theorem q6m:Z9h X q6l:=⟨q4D,q38,q54,trivial⟩
def q6p:Key:=⟨[74],74,none,[0,0,1,0,1,1,1,1],0,26⟩
def q6q:StT S:=⟨(N (N (N L none (N L none (N L vP L))) vQ (N L none (N L none (N L vU L)))) none (N (N L (some (.ptr 1 0)) (N L none (N L vU L))) none L)),o1g,26⟩
def q6r:Way S:=⟨(.exit 0),⟨(N (N L vQ L) none (N (N L (some (.ptr 1 0)) L) none L)),o1g,27⟩,[(.lst (.st 21)),(.st 20),(.st 20),(.lst (.st 21)),.en,(.mp (.st 23) (.int .i64))]⟩
def q6s:LE S:=⟨q6p,q6q,[(.lst (.st 18)),(.lst (.st 21)),.int,.int,(.st 20),(.st 20),(.lst (.st 21)),.en,(.mp (.st 23) (.int .i64))],[q6r]⟩
def q6t (x:tj):(Nat→Nat)→ty:=fun y0=>(x.2.1,x.2.2.2.2.1,x.2.2.2.2.2.1,x.2.2.2.2.2.2.1,y0,x.2.2.2.2.2.2.2.2)
def q6u {R:Type} (x:tj) (k:ty→Option R):Option R:=(X3m x.1 x.2.2.2.1 (x.2.2.1,x.2.2.2.2.2.2.2.1)).bind (fun y0=>k (x.2.1,x.2.2.2.2.1,x.2.2.2.2.2.1,x.2.2.2.2.2.2.1,y0,x.2.2.2.2.2.2.2.2))
def q6v (x:tj) (v:(Int×(Nat→Nat))):tj:=(x.1,x.2.1,v.1,x.2.2.2.1,x.2.2.2.2.1,x.2.2.2.2.2.1,x.2.2.2.2.2.2.1,v.2,x.2.2.2.2.2.2.2.2)
theorem q6w (x:tj):LE.step X q6s q6l q0 q4 12 x=WS x.1 x.2.2.2.1 x.2.2.1 x.2.2.2.2.2.2.2.1 (fun w0 w1=>(Sum.inl (x.1,x.2.1,w0,x.2.2.2.1,x.2.2.2.2.1,x.2.2.2.2.2.1,x.2.2.2.2.2.2.1,w1,x.2.2.2.2.2.2.2.2))) (fun p0=>(Sum.inr (x.2.1,x.2.2.2.2.1,x.2.2.2.2.2.1,x.2.2.2.2.2.2.1,p0,x.2.2.2.2.2.2.2.2))):=by kernel_rfl
theorem q6y {R:Type} (x:tj) (k:ty→Option R) (r:R) (h:q6u x k=some r):∃ o,Z5p (LE.step X q6s q6l q0 q4 12) x o∧k o=some r:=by
 obtain ⟨o,h1,h2⟩:=Z0 h
 exact ⟨q6t x o,Zh7 (st:=fun (x:tj)=>Wx x.1 x.2.2.2.1) (prj:=fun x=>(x.2.2.1,x.2.2.2.2.2.2.2.1)) (emb:=q6v) (embO:=q6t) (fun x=>(q6w x).trans (by unfold Wx WS;simp only [ZgZ,ZgU,Zh0,Option.map_some,Option.map_none];rfl)) (fun _ _=>rfl) (fun _ _=>rfl) (fun _ _ _=>rfl) (fun _ _ _=>rfl) (fun _=>rfl) (Z1Q.1 h1),by first|exact h2|(rcases o with o<;>exact h2)⟩
def q6z {R:Type}:Z2t S R:=LE.ls X q6s q6u q4
theorem q6A {R:Type}:Z3J X (q6z (R:=R)):=Zhc xok q6m (e:=q6s) q1 q5 q6y q5
def q6B:Key:=⟨[103,2,14,74],103,none,[0,0,1,0,1],0,40⟩
def q6C:StT S:=⟨(N (N (N L none (N L vU L)) (some (.fn (.func 104) [] [(.ptr 1 0)])) (N (N L vQ L) none L)) none v1J),o1c,40⟩
def q6D:Way S:=⟨.ret,⟨v1y,(N (N L oC L) none (N (N L none (N (N L o2 (N L of L)) none (N (N L of L) none L))) none (N (N (N L or L) none L) none L))),64⟩,[.int,.int,(.st 20),(.lst (.st 21)),.en,(.st 21),(.st 21),(.mp (.st 23) (.int .i64))]⟩
def q6E:Way S:=⟨(.exit 0),⟨L,o1c,41⟩,[(.st 20),(.lst (.st 21)),.en,(.mp (.st 23) (.int .i64))]⟩
def q6F:LE S:=⟨q6B,q6C,[.int,(.lst (.st 21)),.int,(.st 20),(.lst (.st 21)),.en,(.mp (.st 23) (.int .i64))],[q6D,q6E]⟩
def q6G (x:tt):tb→tb:=Sum.elim (fun y0=>(.inl (y0.1,y0.2.1,y0.2.2.1,y0.2.2.2.1,y0.2.2.2.2.1,y0.2.2.2.2.2.1,y0.2.2.2.2.2.2.1,y0.2.2.2.2.2.2.2))) (fun y1=>(.inr (y1.1,y1.2.1,y1.2.2.1,y1.2.2.2)))
def q6H {R:Type} (x:tt) (k:tb→Option R):Option R:=(X3n x.2.1 x.2.2.1 (x.1,x.2.2.2.1,x.2.2.2.2.1,x.2.2.2.2.2.1,x.2.2.2.2.2.2)).bind (Sum.elim (fun y0=>k (.inl (y0.1,y0.2.1,y0.2.2.1,y0.2.2.2.1,y0.2.2.2.2.1,y0.2.2.2.2.2.1,y0.2.2.2.2.2.2.1,y0.2.2.2.2.2.2.2))) (fun y1=>k (.inr (y1.1,y1.2.1,y1.2.2.1,y1.2.2.2))))
def q6I (x:tt) (v:tO):tt:=(v.1,x.2.1,x.2.2.1,v.2.1,v.2.2.1,v.2.2.2.1,v.2.2.2.2)
theorem q6J (x:tt):LE.step X q6F q6l q6f q6z 12 x=WT x.2.1 x.2.2.1 x.1 x.2.2.2.1 x.2.2.2.2.1 x.2.2.2.2.2.1 x.2.2.2.2.2.2 (fun w0 w1 w2 w3 w4=>(Sum.inl (w0,x.2.1,x.2.2.1,w1,w2,w3,w4))) (fun p0 p1 p2 p3 p4 p5 p6 p7=>(Sum.inr (.inl (p0,p1,p2,p3,p4,p5,p6,p7)))) (fun p0 p1 p2 p3=>(Sum.inr (.inr (p0,p1,p2,p3)))):=by kernel_rfl
theorem q6L {R:Type} (x:tt) (k:tb→Option R) (r:R) (h:q6H x k=some r):∃ o,Z5p (LE.step X q6F q6l q6f q6z 12) x o∧k o=some r:=by
 obtain ⟨o,h1,h2⟩:=Z0 h
 exact ⟨q6G x o,Zh7 (st:=fun (x:tt)=>Wy x.2.1 x.2.2.1) (prj:=fun x=>(x.1,x.2.2.2.1,x.2.2.2.2.1,x.2.2.2.2.2.1,x.2.2.2.2.2.2)) (emb:=q6I) (embO:=q6G) (fun x=>(q6J x).trans (by unfold Wy WT;simp only [ZgZ,ZgU,Zh0,Option.map_some,Option.map_none];rfl)) (fun _ _=>rfl) (fun _ _=>rfl) (fun _ _ _=>rfl) (fun _ _ _=>rfl) (fun _=>rfl) (Z1Q.1 h1),by first|exact h2|(rcases o with o|o<;>exact h2)⟩
def q6M {R:Type}:Z2t S R:=LE.ls X q6F q6H q6z
theorem q6N {R:Type}:Z3J X (q6M (R:=R)):=Zhc xok q6m (e:=q6F) q6g q6A q6L q6A
theorem q6O (x:((List Zl)×ZI)):PE.step X q6k q6l q6f q6M 12 x=X2u x.1 x.2:=by kernel_rfl
theorem q6P:ZaS X q6k X5b:=Zhd (ZgI xok q6m q6g q6N 12) fun x _ h=>((q6O x).trans (X6d x).symm).trans h
def q6Q {R:Type}:Prs S R:=PE.ps X q6k (fun x q=>(X5b x).bind q) q6f
theorem q6R {R:Type}:Z7N X (q6Q (R:=R)):=Zh4 (e:=q6k) q6P q6g
def q6T:Way S:=⟨.ret,⟨(N L (some (.tup [.nilp,(.int .i64 0)])) L),L,0⟩,[.int]⟩
def q6U:Way S:=⟨.ret,⟨(N L (some (.tup [(.ptr 1 0),(.int .i64 0)])) L),(N (N L o4 L) or L),2⟩,[.int,(.st 20),(.lst (.st 21)),.en,(.mp (.st 23) (.int .i64))]⟩
def q6V:PE S:=⟨35,2,q6h,[(.lst (.st 21)),(.st 20)],[q6T,q6U]⟩
theorem q70 (x:((List Zl)×ZI)):PE.step X q6V q6l q6Q q4 12 x=X2b x.1 x.2:=by kernel_rfl
theorem q71:ZaS X q6V X2W:=Zhd (ZgI xok q6m q6R q5 12) fun x _ h=>((q70 x).trans (X5X x).symm).trans h
def q72 {R:Type}:Prs S R:=PE.ps X q6V (fun x q=>(X2W x).bind q) q6Q
theorem q73 {R:Type}:Z7N X (q72 (R:=R)):=Zh4 (e:=q6V) q71 q6R
def q74:StT S:=⟨(N L (some .nilp) L),L,0⟩
def q75:PE S:=⟨36,1,q74,[],[]⟩
def q76:List (Nat×F7 S):=[(110,q5T),(57,q37)]
theorem q77:Z9h X q76:=⟨q5U,q38,trivial⟩
theorem q7a (x:Unit):PE.step X q75 q76 q72 q4 12 x=Wu:=by kernel_rfl
theorem q7b:ZaS X q75 X37:=Zhd (ZgI xok q77 q73 q5 12) fun x _ h=>((q7a x).trans (X5J x).symm).trans h
def q7c {R:Type}:Prs S R:=PE.ps X q75 (fun x q=>(X37 x).bind q) q72
theorem q7d {R:Type}:Z7N X (q7c (R:=R)):=Zh4 (e:=q75) q7b q73
def q7e:StT S:=⟨(N (N L vU L) (some (.ptr 1 0)) (N L vu L)),(N (N L o4 L) or L),2⟩
def q7g:PE S:=⟨83,3,q7e,[.int,(.st 2),(.st 20),(.lst (.st 21)),.en,(.mp (.st 23) (.int .i64))],[q67]⟩
def q7h:List (Nat×F7 S):=[(110,q5T)]
theorem q7i:Z9h X q7h:=⟨q5U,trivial⟩
theorem q7l (x:(Int×Zu×ZI×(List Zl)×(Nat→Nat)×t1v)):PE.step X q7g q7h q7c q4 12 x=XF x.1 x.2.1 x.2.2.1 x.2.2.2.1 x.2.2.2.2.1 x.2.2.2.2.2:=by kernel_rfl
theorem q7m:ZaS X q7g XT:=Zhd (ZgI xok q7i q7d q5 12) fun x _ h=>((q7l x).trans (X3P x).symm).trans h
def q7n {R:Type}:Prs S R:=PE.ps X q7g (fun x q=>(XT x).bind q) q7c
theorem q7o {R:Type}:Z7N X (q7n (R:=R)):=Zh4 (e:=q7g) q7m q7d
def q7p:StT S:=⟨(N (N L vu L) (some (.agg [(.ptr 1 0)])) (N L vs L)),(N (N L o4 L) or L),2⟩
def q7q:Way S:=⟨.ret,⟨v1o,(N (N L o4 L) or L),2⟩,[(.st 5),.bool,(.st 20),(.lst (.st 21)),.en,(.mp (.st 23) (.int .i64))]⟩
def q7r:PE S:=⟨149,3,q7p,[(.st 2),(.st 21),(.st 20),(.lst (.st 21)),.en,(.mp (.st 23) (.int .i64))],[q7q]⟩
theorem q7w (x:(Zu×Zl×ZI×(List Zl)×(Nat→Nat)×t1v)):PE.step X q7r q7h q7n q4 12 x=XG x.1 x.2.1 x.2.2.1 x.2.2.2.1 x.2.2.2.2.1 x.2.2.2.2.2:=by kernel_rfl
theorem q7x:ZaS X q7r Xn:=Zhd (ZgI xok q7i q7o q5 12) fun x _ h=>((q7w x).trans (X3R x).symm).trans h
def q7y {R:Type}:Prs S R:=PE.ps X q7r (fun x q=>(Xn x).bind q) q7n
theorem q7z {R:Type}:Z7N X (q7y (R:=R)):=Zh4 (e:=q7r) q7x q7o
def q7C:PE S:=⟨150,3,q7p,[(.st 2),(.st 21),(.st 20),(.lst (.st 21)),.en,(.mp (.st 23) (.int .i64))],[q7q]⟩
theorem q7E:Z9h X q3G:=⟨q38,trivial⟩
def q7H:Key:=⟨[151,7,1,150],151,none,[0,0,1,0,1],0,20⟩
def q7I:StT S:=⟨(N (N (N (N L vU L) none L) (some (.fn (.func 152) [] [(.ptr 3 0)])) L) (some (.sl (.st 19) [])) v1I),o1L,20⟩
def q7J:Way S:=⟨.ret,⟨v1J,(N (N (N (N L none (N (N L ov L) none L)) om o1N) none (N L none (N L none (N L oc L)))) none L),58⟩,[.int,(.lst (.int .i64)),(.st 2),(.lst (.int .i64)),(.st 19)]⟩
def q7K:Way S:=⟨(.exit 0),⟨L,o1L,21⟩,[(.st 2)]⟩
def q7L:LE S:=⟨q7H,q7I,[.int,(.lst (.st 19)),.int,(.st 2)],[q7J,q7K]⟩
def q7M (x:t1e):((Int×(List Int)×(List Int)×Zt)⊕Unit)→tX:=Sum.elim (fun y0=>(.inl (y0.1,y0.2.1,x.2.2.2,y0.2.2.1,y0.2.2.2))) (fun y1=>(.inr x.2.2.2))
def q7N {R:Type} (x:t1e) (k:tX→Option R):Option R:=(X3B x.1 x.2.1 x.2.2.2 x.2.2.1).bind (Sum.elim (fun y0=>k (.inl (y0.1,y0.2.1,x.2.2.2,y0.2.2.1,y0.2.2.2))) (fun y1=>k (.inr x.2.2.2)))
def q7O (x:t1e) (v:Int):t1e:=(x.1,x.2.1,v,x.2.2.2)
theorem q7P (x:t1e):LE.step X q7L q3G q7y q4 12 x=Xv x.1 x.2.1 x.2.2.2 x.2.2.1 (fun w0=>(Sum.inl (x.1,x.2.1,w0,x.2.2.2))) (fun p0 p1 p2 p3=>(Sum.inr (.inl (p0,p1,x.2.2.2,p2,p3)))) (Sum.inr (.inr x.2.2.2)):=by kernel_rfl
theorem q7R {R:Type} (x:t1e) (k:tX→Option R) (r:R) (h:q7N x k=some r):∃ o,Z5p (LE.step X q7L q3G q7y q4 12) x o∧k o=some r:=by
 obtain ⟨o,h1,h2⟩:=Z0 h
 exact ⟨q7M x o,Zh7 (st:=fun (x:t1e)=>Xl x.1 x.2.1 x.2.2.2) (prj:=fun x=>x.2.2.1) (emb:=q7O) (embO:=q7M) (fun x=>(q7P x).trans (by unfold Xl Xv;simp only [ZgZ,ZgU,Zh0,Option.map_some,Option.map_none];rfl)) (fun _ _=>rfl) (fun _ _=>rfl) (fun _ _ _=>rfl) (fun _ _ _=>rfl) (fun _=>rfl) (Z1Q.1 h1),by first|exact h2|(rcases o with o|o<;>exact h2)⟩
def q7S {R:Type}:Z2t S R:=LE.ls X q7L q7N q4
theorem q7T {R:Type}:Z3J X (q7S (R:=R)):=Zhc xok q7E (e:=q7L) q7z q5 q7R q5
theorem q7U (x:(Zu×Zl×ZI×(List Zl)×(Nat→Nat)×t1v)):PE.step X q7C q3G q7y q7S 12 x=Wl x.1 x.2.1 x.2.2.1 x.2.2.2.1 x.2.2.2.2.1 x.2.2.2.2.2:=by kernel_rfl
theorem q7V:ZaS X q7C Wa:=Zhd (ZgI xok q7E q7z q7T 12) fun x _ h=>((q7U x).trans (X4w x).symm).trans h
def q7W {R:Type}:Prs S R:=PE.ps X q7C (fun x q=>(Wa x).bind q) q7y
theorem q7X {R:Type}:Z7N X (q7W (R:=R)):=Zh4 (e:=q7C) q7V q7z
def q7Y:StT S:=⟨(N (N (N L vU L) vu L) (some (.ptr 1 0)) (N L vU L)),(N (N L o4 L) or L),2⟩
def q7Z:Way S:=⟨.ret,⟨(N L (some (.tup [(.agg [(.arr (.st 5) 4 (fun _=>tdf T (.st 5)))]),(.bool false)])) L),(N (N L o4 L) or L),2⟩,[(.arr (.st 5)),.bool,(.st 20),(.lst (.st 21)),.en,(.mp (.st 23) (.int .i64))]⟩
def q80:PE S:=⟨58,4,q7Y,[.int,(.st 2),.int,(.st 20),(.lst (.st 21)),.en,(.mp (.st 23) (.int .i64))],[q7Z]⟩
def q85:Key:=⟨[58],58,none,[0,0,1,0,0,1],0,12⟩
def q86:StT S:=⟨(N (N (N (N L none (N L vU L)) vU L) none (N L (some (.ptr 2 0)) L)) (some (.ptr 1 0)) (N (N (N L (some (.ptr 3 0)) (N L vU L)) none L) vU (N L none (N (N L vP L) none L)))),o1C,12⟩
def q87:Way S:=⟨(.exit 0),⟨(N (N (N L vU L) none (N L (some (.ptr 2 0)) L)) (some (.ptr 1 0)) (N v1D vU L)),o1C,13⟩,[.int,.int,(.arr (.st 5)),(.st 20),(.lst (.st 21)),.en,(.mp (.st 23) (.int .i64)),(.st 2)]⟩
def q88:LE S:=⟨q85,q86,[.int,.int,.int,.int,(.lst (.st 18)),(.arr (.st 5)),(.st 20),(.lst (.st 21)),.en,(.mp (.st 23) (.int .i64)),(.st 2)],[q87]⟩
def q89 (x:tf):(Nat→ZE)→tq:=fun y0=>(x.2.1,x.2.2.2.1,y0,x.2.2.2.2.2.2.1,x.2.2.2.2.2.2.2.1,x.2.2.2.2.2.2.2.2.1,x.2.2.2.2.2.2.2.2.2.1,x.2.2.2.2.2.2.2.2.2.2)
def q8a {R:Type} (x:tf) (k:tq→Option R):Option R:=(X2n x.1 x.2.1 x.2.2.2.1 x.2.2.2.2.1 x.2.2.2.2.2.2.1 x.2.2.2.2.2.2.2.1 x.2.2.2.2.2.2.2.2.1 x.2.2.2.2.2.2.2.2.2.1 x.2.2.2.2.2.2.2.2.2.2 (x.2.2.1,x.2.2.2.2.2.1)).bind (fun y0=>k (x.2.1,x.2.2.2.1,y0,x.2.2.2.2.2.2.1,x.2.2.2.2.2.2.2.1,x.2.2.2.2.2.2.2.2.1,x.2.2.2.2.2.2.2.2.2.1,x.2.2.2.2.2.2.2.2.2.2))
def q8b (x:tf) (v:(Int×(Nat→ZE))):tf:=(x.1,x.2.1,v.1,x.2.2.2.1,x.2.2.2.2.1,v.2,x.2.2.2.2.2.2.1,x.2.2.2.2.2.2.2.1,x.2.2.2.2.2.2.2.2.1,x.2.2.2.2.2.2.2.2.2.1,x.2.2.2.2.2.2.2.2.2.2)
theorem q8c (x:tf):LE.step X q88 q76 q7c q4 12 x=XB x.1 x.2.1 x.2.2.2.1 x.2.2.2.2.1 x.2.2.2.2.2.2.1 x.2.2.2.2.2.2.2.1 x.2.2.2.2.2.2.2.2.1 x.2.2.2.2.2.2.2.2.2.1 x.2.2.2.2.2.2.2.2.2.2 x.2.2.1 x.2.2.2.2.2.1 (fun w0 w1=>(Sum.inl (x.1,x.2.1,w0,x.2.2.2.1,x.2.2.2.2.1,w1,x.2.2.2.2.2.2.1,x.2.2.2.2.2.2.2.1,x.2.2.2.2.2.2.2.2.1,x.2.2.2.2.2.2.2.2.2.1,x.2.2.2.2.2.2.2.2.2.2))) (fun p0=>(Sum.inr (x.2.1,x.2.2.2.1,p0,x.2.2.2.2.2.2.1,x.2.2.2.2.2.2.2.1,x.2.2.2.2.2.2.2.2.1,x.2.2.2.2.2.2.2.2.2.1,x.2.2.2.2.2.2.2.2.2.2))):=by kernel_rfl
theorem q8e {R:Type} (x:tf) (k:tq→Option R) (r:R) (h:q8a x k=some r):∃ o,Z5p (LE.step X q88 q76 q7c q4 12) x o∧k o=some r:=by
 obtain ⟨o,h1,h2⟩:=Z0 h
 exact ⟨q89 x o,Zh7 (st:=fun (x:tf)=>Xq x.1 x.2.1 x.2.2.2.1 x.2.2.2.2.1 x.2.2.2.2.2.2.1 x.2.2.2.2.2.2.2.1 x.2.2.2.2.2.2.2.2.1 x.2.2.2.2.2.2.2.2.2.1 x.2.2.2.2.2.2.2.2.2.2) (prj:=fun x=>(x.2.2.1,x.2.2.2.2.2.1)) (emb:=q8b) (embO:=q89) (fun x=>(q8c x).trans (by unfold Xq XB;simp only [ZgZ,ZgU,Zh0,Option.map_some,Option.map_none];rfl)) (fun _ _=>rfl) (fun _ _=>rfl) (fun _ _ _=>rfl) (fun _ _ _=>rfl) (fun _=>rfl) (Z1Q.1 h1),by first|exact h2|(rcases o with o<;>exact h2)⟩
def q8f {R:Type}:Z2t S R:=LE.ls X q88 q8a q4
theorem q8g {R:Type}:Z3J X (q8f (R:=R)):=Zhc xok q77 (e:=q88) q7d q5 q8e q5
def q8h:Key:=⟨[58],58,none,[0,0,1,0,1,1,0,1],2,19⟩
def q8i:StT S:=⟨(N (N (N v1J vU L) none (N L (some (.ptr 2 0)) (N (N (N L vQ L) none L) none L))) (some (.ptr 1 0)) (N v1D vU (N L none v1I))),o1C,19⟩
def q8j:Way S:=⟨.ret,⟨v1j,(N (N (N L o9 (N (N (N L (some (.cells 159 [.nilp])) L) none L) none L)) o4 o1h) or (N L om (N L none (N (N L of L) none L)))),102⟩,[.bool,(.arr (.st 5)),(.st 20),(.lst (.st 21)),.en,(.st 5),(.mp (.st 23) (.int .i64)),(.st 2),(.st 21)]⟩
def q8k:Way S:=⟨.ret,⟨v1j,(N (N (N L o9 (N (N (N L (some (.cells 159 [(.ptr 1 0)])) L) none L) none L)) o4 o1h) or (N L om (N L none (N (N L of L) none L)))),102⟩,[.bool,(.arr (.st 5)),(.st 20),(.lst (.st 21)),.en,(.st 5),(.mp (.st 23) (.int .i64)),(.st 2),(.st 21)]⟩
def q8l:Way S:=⟨(.exit 2),⟨(N L none (N v1D none L)),o1C,20⟩,[(.arr (.st 5)),(.st 20),(.lst (.st 21)),.en,(.mp (.st 23) (.int .i64)),(.st 2)]⟩
def q8m:LE S:=⟨q8h,q8i,[.int,.int,(.lst (.st 21)),.int,.int,(.arr (.st 5)),(.st 20),(.lst (.st 21)),.en,(.mp (.st 23) (.int .i64)),(.st 2)],[q8j,q8k,q8l]⟩
def q8n (x:th):((Bool×(Nat→ZE)×ZI×(List Zl)×(Nat→Nat)×ZE×t1v×Zl)⊕(Bool×(Nat→ZE)×ZI×(List Zl)×(Nat→Nat)×ZE×t1v×Zl)⊕((Nat→ZE)×ZI×(List Zl)×(Nat→Nat)×t1v))→t1:=Sum.elim (fun y0=>(.inl (y0.1,y0.2.1,y0.2.2.1,y0.2.2.2.1,y0.2.2.2.2.1,y0.2.2.2.2.2.1,y0.2.2.2.2.2.2.1,x.2.2.2.2.2.2.2.2.2.2,y0.2.2.2.2.2.2.2))) (Sum.elim (fun y1=>(.inr (.inl (y1.1,y1.2.1,y1.2.2.1,y1.2.2.2.1,y1.2.2.2.2.1,y1.2.2.2.2.2.1,y1.2.2.2.2.2.2.1,x.2.2.2.2.2.2.2.2.2.2,y1.2.2.2.2.2.2.2)))) (fun y2=>(.inr (.inr (y2.1,y2.2.1,y2.2.2.1,y2.2.2.2.1,y2.2.2.2.2,x.2.2.2.2.2.2.2.2.2.2)))))
def q8o {R:Type} (x:th) (k:t1→Option R):Option R:=(X2o x.2.1 x.2.2.1 x.2.2.2.1 x.2.2.2.2.1 x.2.2.2.2.2.2.2.2.2.2 (x.1,x.2.2.2.2.2.1,x.2.2.2.2.2.2.1,x.2.2.2.2.2.2.2.1,x.2.2.2.2.2.2.2.2.1,x.2.2.2.2.2.2.2.2.2.1)).bind (Sum.elim (fun y0=>k (.inl (y0.1,y0.2.1,y0.2.2.1,y0.2.2.2.1,y0.2.2.2.2.1,y0.2.2.2.2.2.1,y0.2.2.2.2.2.2.1,x.2.2.2.2.2.2.2.2.2.2,y0.2.2.2.2.2.2.2))) (Sum.elim (fun y1=>k (.inr (.inl (y1.1,y1.2.1,y1.2.2.1,y1.2.2.2.1,y1.2.2.2.2.1,y1.2.2.2.2.2.1,y1.2.2.2.2.2.2.1,x.2.2.2.2.2.2.2.2.2.2,y1.2.2.2.2.2.2.2)))) (fun y2=>k (.inr (.inr (y2.1,y2.2.1,y2.2.2.1,y2.2.2.2.1,y2.2.2.2.2,x.2.2.2.2.2.2.2.2.2.2))))))
def q8p (x:th) (v:(Int×(Nat→ZE)×ZI×(List Zl)×(Nat→Nat)×t1v)):th:=(v.1,x.2.1,x.2.2.1,x.2.2.2.1,x.2.2.2.2.1,v.2.1,v.2.2.1,v.2.2.2.1,v.2.2.2.2.1,v.2.2.2.2.2,x.2.2.2.2.2.2.2.2.2.2)
theorem q8q (x:th):LE.step X q8m q76 q7W q8f 12 x=XC x.2.1 x.2.2.1 x.2.2.2.1 x.2.2.2.2.1 x.2.2.2.2.2.2.2.2.2.2 x.1 x.2.2.2.2.2.1 x.2.2.2.2.2.2.1 x.2.2.2.2.2.2.2.1 x.2.2.2.2.2.2.2.2.1 x.2.2.2.2.2.2.2.2.2.1 (fun w0 w1 w2 w3 w4 w5=>(Sum.inl (w0,x.2.1,x.2.2.1,x.2.2.2.1,x.2.2.2.2.1,w1,w2,w3,w4,w5,x.2.2.2.2.2.2.2.2.2.2))) (fun p0 p1 p2 p3 p4 p5 p6 p7=>(Sum.inr (.inl (p0,p1,p2,p3,p4,p5,p6,x.2.2.2.2.2.2.2.2.2.2,p7)))) (fun p0 p1 p2 p3 p4 p5 p6 p7=>(Sum.inr (.inr (.inl (p0,p1,p2,p3,p4,p5,p6,x.2.2.2.2.2.2.2.2.2.2,p7))))) (fun p0 p1 p2 p3 p4=>(Sum.inr (.inr (.inr (p0,p1,p2,p3,p4,x.2.2.2.2.2.2.2.2.2.2))))):=by kernel_rfl
theorem q8s {R:Type} (x:th) (k:t1→Option R) (r:R) (h:q8o x k=some r):∃ o,Z5p (LE.step X q8m q76 q7W q8f 12) x o∧k o=some r:=by
 obtain ⟨o,h1,h2⟩:=Z0 h
 exact ⟨q8n x o,Zh7 (st:=fun (x:th)=>Xr x.2.1 x.2.2.1 x.2.2.2.1 x.2.2.2.2.1 x.2.2.2.2.2.2.2.2.2.2) (prj:=fun x=>(x.1,x.2.2.2.2.2.1,x.2.2.2.2.2.2.1,x.2.2.2.2.2.2.2.1,x.2.2.2.2.2.2.2.2.1,x.2.2.2.2.2.2.2.2.2.1)) (emb:=q8p) (embO:=q8n) (fun x=>(q8q x).trans (by unfold Xr XC;simp only [ZgZ,ZgU,Zh0,Option.map_some,Option.map_none];rfl)) (fun _ _=>rfl) (fun _ _=>rfl) (fun _ _ _=>rfl) (fun _ _ _=>rfl) (fun _=>rfl) (Z1Q.1 h1),by first|exact h2|(rcases o with o|o|o<;>exact h2)⟩
def q8t {R:Type}:Z2t S R:=LE.ls X q8m q8o q8f
theorem q8u {R:Type}:Z3J X (q8t (R:=R)):=Zhc xok q77 (e:=q8m) q7X q8g q8s q8g
theorem q8v (x:(Int×Zu×Int×ZI×(List Zl)×(Nat→Nat)×t1v)):PE.step X q80 q76 q7W q8t 12 x=WQ x.1 x.2.1 x.2.2.1 x.2.2.2.1 x.2.2.2.2.1 x.2.2.2.2.2.1 x.2.2.2.2.2.2:=by kernel_rfl
theorem q8w:ZaS X q80 WM:=Zhd (ZgI xok q77 q7X q8u 12) fun x _ h=>((q8v x).trans (X4O x).symm).trans h
def q8x {R:Type}:Prs S R:=PE.ps X q80 (fun x q=>(WM x).bind q) q7W
theorem q8y {R:Type}:Z7N X (q8x (R:=R)):=Zh4 (e:=q80) q8w q7X
def q8z:StT S:=⟨(N L (some (.ptr 1 0)) L),(N (N L o4 L) or L),2⟩
def q8A:Way S:=⟨.ret,⟨(N L (some (.rs 2 0)) L),(N (N L o4 L) or (N L oE L)),3⟩,[(.st 20),(.lst (.st 21)),.en,(.mp (.st 23) (.int .i64)),(.lst (.st 2))]⟩
def q8B:PE S:=⟨36,1,q8z,[(.st 20),(.lst (.st 21)),.en,(.mp (.st 23) (.int .i64))],[q8A]⟩
def q8G:Key:=⟨[108,0,36],108,none,[0,0,1,0,0,1,0,0,1],2,34⟩
def q8H:StT S:=⟨(N (N (N L vU L) (some (.ptr 6 0)) L) (some (.yld 11)) (N (N L vU L) none L)),o16,35⟩
def q8I:Way S:=⟨(.exit 2),⟨v1u,o16,42⟩,[.int,(.st 20),(.lst (.st 21)),.en,(.mp (.st 23) (.int .i64)),(.lst (.st 2))]⟩
def q8J:LE S:=⟨q8G,q8H,[.int,.int,(.st 20),(.lst (.st 21)),.en,(.mp (.st 23) (.int .i64)),(.lst (.st 2))],[q8I]⟩
def q8K (x:tu):(ZI×(List Zl)×(Nat→Nat)×t1v×(List Zu))→tA:=fun y0=>(x.1,y0.1,y0.2.1,y0.2.2.1,y0.2.2.2.1,y0.2.2.2.2)
def q8L {R:Type} (x:tu) (k:tA→Option R):Option R:=(X2K x.1 (x.2.1,x.2.2.1,x.2.2.2.1,x.2.2.2.2.1,x.2.2.2.2.2.1,x.2.2.2.2.2.2)).bind (fun y0=>k (x.1,y0.1,y0.2.1,y0.2.2.1,y0.2.2.2.1,y0.2.2.2.2))
def q8M (x:tu) (v:tA):tu:=(x.1,v.1,v.2.1,v.2.2.1,v.2.2.2.1,v.2.2.2.2.1,v.2.2.2.2.2)
theorem q8N (x:tu):LE.step X q8J q76 q8x q4 12 x=X1a x.1 x.2.1 x.2.2.1 x.2.2.2.1 x.2.2.2.2.1 x.2.2.2.2.2.1 x.2.2.2.2.2.2 (fun w0 w1 w2 w3 w4 w5=>(Sum.inl (x.1,w0,w1,w2,w3,w4,w5))) (fun p0 p1 p2 p3 p4=>(Sum.inr (x.1,p0,p1,p2,p3,p4))):=by kernel_rfl
theorem q8P {R:Type} (x:tu) (k:tA→Option R) (r:R) (h:q8L x k=some r):∃ o,Z5p (LE.step X q8J q76 q8x q4 12) x o∧k o=some r:=by
 obtain ⟨o,h1,h2⟩:=Z0 h
 exact ⟨q8K x o,Zh7 (st:=fun (x:tu)=>X1E x.1) (prj:=fun x=>(x.2.1,x.2.2.1,x.2.2.2.1,x.2.2.2.2.1,x.2.2.2.2.2.1,x.2.2.2.2.2.2)) (emb:=q8M) (embO:=q8K) (fun x=>(q8N x).trans (by unfold X1E X1a;simp only [ZgZ,ZgU,Zh0,Option.map_some,Option.map_none];rfl)) (fun _ _=>rfl) (fun _ _=>rfl) (fun _ _ _=>rfl) (fun _ _ _=>rfl) (fun _=>rfl) (Z1Q.1 h1),by first|exact h2|(rcases o with o<;>exact h2)⟩
def q8Q {R:Type}:Z2t S R:=LE.ls X q8J q8L q4
theorem q8R {R:Type}:Z3J X (q8Q (R:=R)):=Zhc xok q77 (e:=q8J) q8y q5 q8P q5
def q8S:Key:=⟨[108,0,36],108,none,[0,0,1],0,19⟩
def q8T:StT S:=⟨v1u,o1f,20⟩
def q8U:Way S:=⟨(.exit 0),⟨L,o1f,27⟩,[(.lst (.st 2)),(.st 20),(.lst (.st 21)),.en,(.mp (.st 23) (.int .i64))]⟩
def q8V:LE S:=⟨q8S,q8T,[.int,(.lst (.st 2)),(.st 20),(.lst (.st 21)),.en,(.mp (.st 23) (.int .i64))],[q8U]⟩
def q8W (x:tB):tG→tG:=fun y0=>(y0.1,y0.2.1,y0.2.2.1,y0.2.2.2.1,y0.2.2.2.2)
def q8X {R:Type} (x:tB) (k:tG→Option R):Option R:=(X2J (x.1,x.2.1,x.2.2.1,x.2.2.2.1,x.2.2.2.2.1,x.2.2.2.2.2)).bind (fun y0=>k (y0.1,y0.2.1,y0.2.2.1,y0.2.2.2.1,y0.2.2.2.2))
def q8Y (x:tB) (v:tB):tB:=(v.1,v.2.1,v.2.2.1,v.2.2.2.1,v.2.2.2.2.1,v.2.2.2.2.2)
theorem q8Z (x:tB):LE.step X q8V q76 q8x q8Q 12 x=X19 x.1 x.2.1 x.2.2.1 x.2.2.2.1 x.2.2.2.2.1 x.2.2.2.2.2 (fun w0 w1 w2 w3 w4 w5=>(Sum.inl (w0,w1,w2,w3,w4,w5))) (fun p0 p1 p2 p3 p4=>(Sum.inr (p0,p1,p2,p3,p4))):=by kernel_rfl
theorem q91 {R:Type} (x:tB) (k:tG→Option R) (r:R) (h:q8X x k=some r):∃ o,Z5p (LE.step X q8V q76 q8x q8Q 12) x o∧k o=some r:=by
 obtain ⟨o,h1,h2⟩:=Z0 h
 exact ⟨q8W x o,Zh7 (st:=fun (x:tB)=>X1D) (prj:=fun x=>(x.1,x.2.1,x.2.2.1,x.2.2.2.1,x.2.2.2.2.1,x.2.2.2.2.2)) (emb:=q8Y) (embO:=q8W) (fun x=>(q8Z x).trans (by unfold X1D X19;simp only [ZgZ,ZgU,Zh0,Option.map_some,Option.map_none];rfl)) (fun _ _=>rfl) (fun _ _=>rfl) (fun _ _ _=>rfl) (fun _ _ _=>rfl) (fun _=>rfl) (Z1Q.1 h1),by first|exact h2|(rcases o with o<;>exact h2)⟩
def q92 {R:Type}:Z2t S R:=LE.ls X q8V q8X q8Q
theorem q93 {R:Type}:Z3J X (q92 (R:=R)):=Zhc xok q77 (e:=q8V) q8y q8R q91 q8R
theorem q94 (x:tU):PE.step X q8B q76 q8x q92 12 x=Wv x.1 x.2.1 x.2.2.1 x.2.2.2:=by kernel_rfl
theorem q95:ZaS X q8B X38:=Zhd (ZgI xok q77 q8y q93 12) fun x _ h=>((q94 x).trans (X5K x).symm).trans h
def q96 {R:Type}:Prs S R:=PE.ps X q8B (fun x q=>(X38 x).bind q) q8x
theorem q97 {R:Type}:Z7N X (q96 (R:=R)):=Zh4 (e:=q8B) q95 q8y
theorem q9c (x0:Int) (x1:Int) (x2:Int):Zhe X q2 [(.int .i64),(.int .i64),(.int .i64)] [.bool] q96 q4 12 106 (x0,x1,x2,())=X2e x0 x1 x2:=by kernel_rfl
def q9d:F7 S:=⟨[(.int .i64),(.int .i64),(.int .i64)],[.bool],fun xs=>X2e xs.1 xs.2.1 xs.2.2.1⟩
theorem q9e:Z97 X 106 q9d:=Zhb (Zha xok q3 q97 q5 12 106) fun xs _ h=>(q9c xs.1 xs.2.1 xs.2.2.1).trans h
def q9f:List (Nat×F7 S):=[(106,q9d)]
theorem q9g:Z9h X (q9f):=⟨q9e,trivial⟩
def q9j:Key:=⟨[100],100,none,[0,0,1,0,1,1],0,6⟩
def q9k:StT S:=⟨(N (N (N L vU L) none L) vI L),L,6⟩
def q9l:Way S:=⟨.ret,⟨(N L none (N L vT L)),L,43⟩,[.bool]⟩
def q9m:Way S:=⟨(.exit 0),⟨L,L,10⟩,[]⟩
def q9n:LE S:=⟨q9j,q9k,[.int,.str],[q9l,q9m]⟩
def q9o (x:(Int×ByteArray)):(Bool⊕Unit)→(Bool⊕Unit):=Sum.elim (fun y0=>(.inl y0)) (fun y1=>(.inr ()))
def q9p {R:Type} (x:(Int×ByteArray)) (k:(Bool⊕Unit)→Option R):Option R:=(X5e x.2 x.1).bind (Sum.elim (fun y0=>k (.inl y0)) (fun y1=>k (.inr ())))
def q9q (x:(Int×ByteArray)) (v:Int):(Int×ByteArray):=(v,x.2)
theorem q9r (x:(Int×ByteArray)):LE.step X q9n q9f q96 q4 12 x=X1s x.2 x.1 (fun w0=>(Sum.inl (w0,x.2))) (fun p0=>(Sum.inr (.inl p0))) (Sum.inr (.inr ())):=by kernel_rfl
theorem q9t {R:Type} (x:(Int×ByteArray)) (k:(Bool⊕Unit)→Option R) (r:R) (h:q9p x k=some r):∃ o,Z5p (LE.step X q9n q9f q96 q4 12) x o∧k o=some r:=by
 obtain ⟨o,h1,h2⟩:=Z0 h
 exact ⟨q9o x o,Zh7 (st:=fun (x:(Int×ByteArray))=>X1f x.2) (prj:=fun x=>x.1) (emb:=q9q) (embO:=q9o) (fun x=>(q9r x).trans (by unfold X1f X1s;simp only [ZgZ,ZgU,Zh0,Option.map_some,Option.map_none];rfl)) (fun _ _=>rfl) (fun _ _=>rfl) (fun _ _ _=>rfl) (fun _ _ _=>rfl) (fun _=>rfl) (Z1Q.1 h1),by first|exact h2|(rcases o with o|o<;>exact h2)⟩
def q9u {R:Type}:Z2t S R:=LE.ls X q9n q9p q4
theorem q9v {R:Type}:Z3J X (q9u (R:=R)):=Zhc xok q9g (e:=q9n) q97 q5 q9t q5
theorem q9w (x0:ByteArray):Zhe X q9f [.str] [.bool] q96 q9u 12 100 (x0,())=X51 x0:=by kernel_rfl
def q9x:F7 S:=⟨[.str],[.bool],fun xs=>X51 xs.1⟩
theorem q9y:Z97 X 100 q9x:=Zhb (Zha xok q9g q97 q9v 12 100) fun xs _ h=>(q9w xs.1).trans h
def q9D:Key:=⟨[101],101,none,[0,0,1,0,1],0,2⟩
def q9E:StT S:=⟨(N (N L vI (N L vU L)) (some (.sl .str [])) L),L,2⟩
def q9F:Way S:=⟨.ret,⟨v1J,L,14⟩,[.int]⟩
def q9G:Way S:=⟨(.exit 0),⟨L,L,6⟩,[]⟩
def q9H:LE S:=⟨q9D,q9E,[.str,.int,(.lst .str)],[q9F,q9G]⟩
def q9I (x:t1b):(Int⊕Unit)→(Int⊕Unit):=Sum.elim (fun y0=>(.inl y0)) (fun y1=>(.inr ()))
def q9J {R:Type} (x:t1b) (k:(Int⊕Unit)→Option R):Option R:=(X3o x.1 x.2.2 x.2.1).bind (Sum.elim (fun y0=>k (.inl y0)) (fun y1=>k (.inr ())))
def q9K (x:t1b) (v:Int):t1b:=(x.1,v,x.2.2)
theorem q9L (x:t1b):LE.step X q9H q2 q96 q4 12 x=WY x.1 x.2.2 x.2.1 (fun w0=>(Sum.inl (x.1,w0,x.2.2))) (fun p0=>(Sum.inr (.inl p0))) (Sum.inr (.inr ())):=by kernel_rfl
theorem q9N {R:Type} (x:t1b) (k:(Int⊕Unit)→Option R) (r:R) (h:q9J x k=some r):∃ o,Z5p (LE.step X q9H q2 q96 q4 12) x o∧k o=some r:=by
 obtain ⟨o,h1,h2⟩:=Z0 h
 exact ⟨q9I x o,Zh7 (st:=fun (x:t1b)=>XQ x.1 x.2.2) (prj:=fun x=>x.2.1) (emb:=q9K) (embO:=q9I) (fun x=>(q9L x).trans (by unfold XQ WY;simp only [ZgZ,ZgU,Zh0,Option.map_some,Option.map_none];rfl)) (fun _ _=>rfl) (fun _ _=>rfl) (fun _ _ _=>rfl) (fun _ _ _=>rfl) (fun _=>rfl) (Z1Q.1 h1),by first|exact h2|(rcases o with o|o<;>exact h2)⟩
def q9O {R:Type}:Z2t S R:=LE.ls X q9H q9J q4
theorem q9P {R:Type}:Z3J X (q9O (R:=R)):=Zhc xok q3 (e:=q9H) q97 q5 q9N q5
theorem q9Q (x0:List ByteArray) (x1:ByteArray):Zhe X q2 [(.sl .str),.str] [(.int .i64)] q96 q9O 12 101 (x0,x1,())=X5f x0 x1:=by kernel_rfl
def q9R:F7 S:=⟨[(.sl .str),.str],[(.int .i64)],fun xs=>X5f xs.1 xs.2.1⟩
theorem q9S:Z97 X 101 q9R:=Zhb (Zha xok q3 q97 q9P 12 101) fun xs _ h=>(q9Q xs.1 xs.2.1).trans h
def q9T:List (Nat×F7 S):=[(100,q9x),(101,q9R)]
theorem q9U:Z9h X (q9T):=⟨q9y,q9S,trivial⟩
theorem q9X (x0:ByteArray) (x1:List ByteArray):Zhe X q9T [.str,(.sl .str)] [(.int .i64)] q96 q4 12 70 (x0,x1,())=X2L x0 x1:=by kernel_rfl
def q9Y:F7 S:=⟨[.str,(.sl .str)],[(.int .i64)],fun xs=>X2L xs.1 xs.2.1⟩
theorem q9Z:Z97 X 70 q9Y:=Zhb (Zha xok q9U q97 q5 12 70) fun xs _ h=>(q9X xs.1 xs.2.1).trans h
theorem qa4 (x0:Zu) (x1:Int):Zhe X q9f [(.st 2),(.int .i64)] [.bool] q96 q4 12 76 (x0,x1,())=X2Z x0 x1:=by kernel_rfl
def qa5:F7 S:=⟨[(.st 2),(.int .i64)],[.bool],fun xs=>X2Z xs.1 xs.2.1⟩
theorem qa6:Z97 X 76 qa5:=Zhb (Zha xok q9g q97 q5 12 76) fun xs _ h=>(qa4 xs.1 xs.2.1).trans h
def qab:Key:=⟨[98],98,none,[0,0,1,0,1,1],0,6⟩
def qac:StT S:=⟨(N (N (N L vU L) none L) (some (.sl (.st 3) [])) L),L,6⟩
def qad:Way S:=⟨.ret,⟨(N L none (N L vU L)),L,27⟩,[.int]⟩
def qae:Way S:=⟨.ret,⟨(N L none (N L vU L)),L,43⟩,[.int]⟩
def qag:LE S:=⟨qab,qac,[.int,(.lst (.st 3))],[qad,qae,q9m]⟩
def qah (x:(Int×(List Zj))):(Int⊕Int⊕Unit)→(Int⊕Int⊕Unit):=Sum.elim (fun y0=>(.inl y0)) (Sum.elim (fun y1=>(.inr (.inl y1))) (fun y2=>(.inr (.inr ()))))
def qai {R:Type} (x:(Int×(List Zj))) (k:(Int⊕Int⊕Unit)→Option R):Option R:=(X4A x.2 x.1).bind (Sum.elim (fun y0=>k (.inl y0)) (Sum.elim (fun y1=>k (.inr (.inl y1))) (fun y2=>k (.inr (.inr ())))))
def qaj (x:(Int×(List Zj))) (v:Int):(Int×(List Zj)):=(v,x.2)
theorem qak (x:(Int×(List Zj))):LE.step X qag q9f q96 q4 12 x=Wo x.2 x.1 (fun w0=>(Sum.inl (w0,x.2))) (fun p0=>(Sum.inr (.inl p0))) (fun p0=>(Sum.inr (.inr (.inl p0)))) (Sum.inr (.inr (.inr ()))):=by kernel_rfl
theorem qam {R:Type} (x:(Int×(List Zj))) (k:(Int⊕Int⊕Unit)→Option R) (r:R) (h:qai x k=some r):∃ o,Z5p (LE.step X qag q9f q96 q4 12) x o∧k o=some r:=by
 obtain ⟨o,h1,h2⟩:=Z0 h
 exact ⟨qah x o,Zh7 (st:=fun (x:(Int×(List Zj)))=>Wd x.2) (prj:=fun x=>x.1) (emb:=qaj) (embO:=qah) (fun x=>(qak x).trans (by unfold Wd Wo;simp only [ZgZ,ZgU,Zh0,Option.map_some,Option.map_none];rfl)) (fun _ _=>rfl) (fun _ _=>rfl) (fun _ _ _=>rfl) (fun _ _ _=>rfl) (fun _=>rfl) (Z1Q.1 h1),by first|exact h2|(rcases o with o|o|o<;>exact h2)⟩
def qan {R:Type}:Z2t S R:=LE.ls X qag qai q4
theorem qao {R:Type}:Z3J X (qan (R:=R)):=Zhc xok q9g (e:=qag) q97 q5 qam q5
theorem qap (x0:List Zj):Zhe X q9f [(.sl (.st 3))] [(.int .i64)] q96 qan 12 98 (x0,())=X30 x0:=by kernel_rfl
def qaq:F7 S:=⟨[(.sl (.st 3))],[(.int .i64)],fun xs=>X30 xs.1⟩
theorem qar:Z97 X 98 qaq:=Zhb (Zha xok q9g q97 qao 12 98) fun xs _ h=>(qap xs.1).trans h
def qaw:Key:=⟨[102],102,none,[0,0,1,0,1,1],0,3⟩
def qax:StT S:=⟨(N (N (N (N L vU L) none L) vU L) (some (.sl (.st 5) [])) (N (N (N L vU L) none L) vU L)),L,3⟩
def qay:Way S:=⟨.ret,⟨(N L none (N L none (N L vU L))),L,28⟩,[.int]⟩
def qaz:Way S:=⟨(.exit 0),⟨(N v1I none L),L,7⟩,[.int]⟩
def qaA:LE S:=⟨qaw,qax,[.int,.int,(.lst (.st 5)),.int,.int],[qay,qaz]⟩
def qaB (x:t19):(Int⊕Int)→(Int⊕Int):=Sum.elim (fun y0=>(.inl y0)) (fun y1=>(.inr y1))
def qaC {R:Type} (x:t19) (k:(Int⊕Int)→Option R):Option R:=(X4y x.2.1 x.2.2.1 x.2.2.2.2 (x.1,x.2.2.2.1)).bind (Sum.elim (fun y0=>k (.inl y0)) (fun y1=>k (.inr y1)))
def qaD (x:t19) (v:(Int×Int)):t19:=(v.1,x.2.1,x.2.2.1,v.2,x.2.2.2.2)
theorem qaE (x:t19):LE.step X qaA q9f q96 q4 12 x=Wm x.2.1 x.2.2.1 x.2.2.2.2 x.1 x.2.2.2.1 (fun w0 w1=>(Sum.inl (w0,x.2.1,x.2.2.1,w1,x.2.2.2.2))) (fun p0=>(Sum.inr (.inl p0))) (fun p0=>(Sum.inr (.inr p0))):=by kernel_rfl
theorem qaG {R:Type} (x:t19) (k:(Int⊕Int)→Option R) (r:R) (h:qaC x k=some r):∃ o,Z5p (LE.step X qaA q9f q96 q4 12) x o∧k o=some r:=by
 obtain ⟨o,h1,h2⟩:=Z0 h
 exact ⟨qaB x o,Zh7 (st:=fun (x:t19)=>Wb x.2.1 x.2.2.1 x.2.2.2.2) (prj:=fun x=>(x.1,x.2.2.2.1)) (emb:=qaD) (embO:=qaB) (fun x=>(qaE x).trans (by unfold Wb Wm;simp only [ZgZ,ZgU,Zh0,Option.map_some,Option.map_none];rfl)) (fun _ _=>rfl) (fun _ _=>rfl) (fun _ _ _=>rfl) (fun _ _ _=>rfl) (fun _=>rfl) (Z1Q.1 h1),by first|exact h2|(rcases o with o|o<;>exact h2)⟩
def qaH {R:Type}:Z2t S R:=LE.ls X qaA qaC q4
theorem qaI {R:Type}:Z3J X (qaH (R:=R)):=Zhc xok q9g (e:=qaA) q97 q5 qaG q5
theorem qaJ (x0:List ZE) (x1:Int) (x2:Int):Zhe X q9f [(.sl (.st 5)),(.int .i64),(.int .i64)] [(.int .i64)] q96 qaH 12 102 (x0,x1,x2,())=X2q x0 x1 x2:=by kernel_rfl
def qaK:F7 S:=⟨[(.sl (.st 5)),(.int .i64),(.int .i64)],[(.int .i64)],fun xs=>X2q xs.1 xs.2.1 xs.2.2.1⟩
theorem qaL:Z97 X 102 qaK:=Zhb (Zha xok q9g q97 qaI 12 102) fun xs _ h=>(qaJ xs.1 xs.2.1 xs.2.2.1).trans h
def qaM:List (Nat×F7 S):=[(102,qaK)]
theorem qaN:Z9h X (qaM):=⟨qaL,trivial⟩
theorem qaQ (x0:ZB) (x1:Int) (x2:Int):Zhe X qaM [(.st 6),(.int .i64),(.int .i64)] [(.int .i64)] q96 q4 12 123 (x0,x1,x2,())=X5x x0 x1 x2:=by kernel_rfl
def qaR:F7 S:=⟨[(.st 6),(.int .i64),(.int .i64)],[(.int .i64)],fun xs=>X5x xs.1 xs.2.1 xs.2.2.1⟩
theorem qaS:Z97 X 123 qaR:=Zhb (Zha xok qaN q97 q5 12 123) fun xs _ h=>(qaQ xs.1 xs.2.1 xs.2.2.1).trans h
theorem qaX (x0:Zu) (x1:Zu):Zhe X q2 [(.st 2),(.st 2)] [(.st 2)] q96 q4 12 88 (x0,x1,())=X7X x0 x1:=by kernel_rfl
def qaY:F7 S:=⟨[(.st 2),(.st 2)],[(.st 2)],fun xs=>X7X xs.1 xs.2.1⟩
theorem qaZ:Z97 X 88 qaY:=Zhb (Zha xok q3 q97 q5 12 88) fun xs _ h=>(qaX xs.1 xs.2.1).trans h
theorem qb4 (x0:Zu) (x1:Zu):Zhe X q2 [(.st 2),(.st 2)] [(.int .i64)] q96 q4 12 112 (x0,x1,())=X7W x0 x1:=by kernel_rfl
def qb5:F7 S:=⟨[(.st 2),(.st 2)],[(.int .i64)],fun xs=>X7W xs.1 xs.2.1⟩
theorem qb6:Z97 X 112 qb5:=Zhb (Zha xok q3 q97 q5 12 112) fun xs _ h=>(qb4 xs.1 xs.2.1).trans h
def qb7:List (Nat×F7 S):=[(88,qaY),(112,qb5)]
theorem qb8:Z9h X (qb7):=⟨qaZ,qb6,trivial⟩
def qbb:Key:=⟨[124],124,none,[0,0,1,1,0,0,1,0,0,1,0,1],2,13⟩
def qbc:StT S:=⟨(N (N (N L vU L) none (N L vU L)) vR (N (N L vU L) none L)),L,13⟩
def qbd:Way S:=⟨.ret,⟨(N L none (N L vT L)),L,48⟩,[.bool]⟩
def qbe:Way S:=⟨(.exit 2),⟨(N (N (N L vU L) none L) vR L),L,17⟩,[.int,(.lst (.st 2))]⟩
def qbf:LE S:=⟨qbb,qbc,[.int,.int,(.lst (.st 2)),.int],[qbd,qbe]⟩
def qbg (x:t1k):(Bool⊕Unit)→(Bool⊕(Int×(List Zu))):=Sum.elim (fun y0=>(.inl y0)) (fun y1=>(.inr (x.1,x.2.2.1)))
def qbh {R:Type} (x:t1k) (k:(Bool⊕(Int×(List Zu)))→Option R):Option R:=(X2r x.1 x.2.2.1 x.2.2.2 x.2.1).bind (Sum.elim (fun y0=>k (.inl y0)) (fun y1=>k (.inr (x.1,x.2.2.1))))
def qbi (x:t1k) (v:Int):t1k:=(x.1,v,x.2.2.1,x.2.2.2)
theorem qbj (x:t1k):LE.step X qbf qb7 q96 q4 12 x=X10 x.1 x.2.2.1 x.2.2.2 x.2.1 (fun w0=>(Sum.inl (x.1,w0,x.2.2.1,x.2.2.2))) (fun p0=>(Sum.inr (.inl p0))) (Sum.inr (.inr (x.1,x.2.2.1))):=by kernel_rfl
theorem qbl {R:Type} (x:t1k) (k:(Bool⊕(Int×(List Zu)))→Option R) (r:R) (h:qbh x k=some r):∃ o,Z5p (LE.step X qbf qb7 q96 q4 12) x o∧k o=some r:=by
 obtain ⟨o,h1,h2⟩:=Z0 h
 exact ⟨qbg x o,Zh7 (st:=fun (x:t1k)=>WD x.1 x.2.2.1 x.2.2.2) (prj:=fun x=>x.2.1) (emb:=qbi) (embO:=qbg) (fun x=>(qbj x).trans (by unfold WD X10;simp only [ZgZ,ZgU,Zh0,Option.map_some,Option.map_none];rfl)) (fun _ _=>rfl) (fun _ _=>rfl) (fun _ _ _=>rfl) (fun _ _ _=>rfl) (fun _=>rfl) (Z1Q.1 h1),by first|exact h2|(rcases o with o|o<;>exact h2)⟩
def qbm {R:Type}:Z2t S R:=LE.ls X qbf qbh q4
theorem qbn {R:Type}:Z3J X (qbm (R:=R)):=Zhc xok qb8 (e:=qbf) q97 q5 qbl q5
def qbo:Key:=⟨[124],124,none,[0,0,1,0,1],0,2⟩
def qbp:StT S:=⟨(N (N (N L vU L) none L) vR L),L,2⟩
def qbs:LE S:=⟨qbo,qbp,[.int,(.lst (.st 2))],[qbd,q9G]⟩
def qbt (x:(Int×(List Zu))):(Bool⊕Unit)→(Bool⊕Unit):=Sum.elim (fun y0=>(.inl y0)) (fun y1=>(.inr ()))
def qbu {R:Type} (x:(Int×(List Zu))) (k:(Bool⊕Unit)→Option R):Option R:=(X52 x.2 x.1).bind (Sum.elim (fun y0=>k (.inl y0)) (fun y1=>k (.inr ())))
def qbv (x:(Int×(List Zu))) (v:Int):(Int×(List Zu)):=(v,x.2)
theorem qbw (x:(Int×(List Zu))):LE.step X qbs qb7 q96 qbm 12 x=WZ x.2 x.1 (fun w0=>(Sum.inl (w0,x.2))) (fun p0=>(Sum.inr (.inl p0))) (Sum.inr (.inr ())):=by kernel_rfl
theorem qby {R:Type} (x:(Int×(List Zu))) (k:(Bool⊕Unit)→Option R) (r:R) (h:qbu x k=some r):∃ o,Z5p (LE.step X qbs qb7 q96 qbm 12) x o∧k o=some r:=by
 obtain ⟨o,h1,h2⟩:=Z0 h
 exact ⟨qbt x o,Zh7 (st:=fun (x:(Int×(List Zu)))=>WC x.2) (prj:=fun x=>x.1) (emb:=qbv) (embO:=qbt) (fun x=>(qbw x).trans (by unfold WC WZ;simp only [ZgZ,ZgU,Zh0,Option.map_some,Option.map_none];rfl)) (fun _ _=>rfl) (fun _ _=>rfl) (fun _ _ _=>rfl) (fun _ _ _=>rfl) (fun _=>rfl) (Z1Q.1 h1),by first|exact h2|(rcases o with o|o<;>exact h2)⟩
def qbz {R:Type}:Z2t S R:=LE.ls X qbs qbu qbm
theorem qbA {R:Type}:Z3J X (qbz (R:=R)):=Zhc xok qb8 (e:=qbs) q97 qbn qby qbn
theorem qbB (x0:List Zu):Zhe X qb7 [(.sl (.st 2))] [.bool] q96 qbz 12 124 (x0,())=X4m x0:=by kernel_rfl
def qbC:F7 S:=⟨[(.sl (.st 2))],[.bool],fun xs=>X4m xs.1⟩
theorem qbD:Z97 X 124 qbC:=Zhb (Zha xok qb8 q97 qbA 12 124) fun xs _ h=>(qbB xs.1).trans h
def qbE:List (Nat×F7 S):=[(106,q9d),(76,qa5),(123,qaR),(124,qbC)]
theorem qbF:Z9h X (qbE):=⟨q9e,qa6,qaS,qbD,trivial⟩
def qbI:Key:=⟨[99],99,none,[0,0,1,0,1,1],0,8⟩
def qbJ:StT S:=⟨(N v1G none L),(N L oj L),8⟩
def qbK:Way S:=⟨.ret,⟨(N L none (N L vU L)),(N L oj L),21⟩,[.int,(.st 7)]⟩
def qbL:Way S:=⟨(.exit 0),⟨(N (N L (some (.ptr 0 0)) L) none L),(N L oj L),13⟩,[(.st 7)]⟩
def qbM:LE S:=⟨qbI,qbJ,[.int,(.st 7)],[qbK,qbL]⟩
def qbN (x:(Int×CtSand)):(Int⊕Unit)→((Int×CtSand)⊕CtSand):=Sum.elim (fun y0=>(.inl (y0,x.2))) (fun y1=>(.inr x.2))
def qbO {R:Type} (x:(Int×CtSand)) (k:((Int×CtSand)⊕CtSand)→Option R):Option R:=(X3W x.2 x.1).bind (Sum.elim (fun y0=>k (.inl (y0,x.2))) (fun y1=>k (.inr x.2)))
def qbP (x:(Int×CtSand)) (v:Int):(Int×CtSand):=(v,x.2)
theorem qbQ (x:(Int×CtSand)):LE.step X qbM qbE q96 q4 12 x=X1t x.2 x.1 (fun w0=>(Sum.inl (w0,x.2))) (fun p0=>(Sum.inr (.inl (p0,x.2)))) (Sum.inr (.inr x.2)):=by kernel_rfl
theorem qbS {R:Type} (x:(Int×CtSand)) (k:((Int×CtSand)⊕CtSand)→Option R) (r:R) (h:qbO x k=some r):∃ o,Z5p (LE.step X qbM qbE q96 q4 12) x o∧k o=some r:=by
 obtain ⟨o,h1,h2⟩:=Z0 h
 exact ⟨qbN x o,Zh7 (st:=fun (x:(Int×CtSand))=>We x.2) (prj:=fun x=>x.1) (emb:=qbP) (embO:=qbN) (fun x=>(qbQ x).trans (by unfold We X1t;simp only [ZgZ,ZgU,Zh0,Option.map_some,Option.map_none];rfl)) (fun _ _=>rfl) (fun _ _=>rfl) (fun _ _ _=>rfl) (fun _ _ _=>rfl) (fun _=>rfl) (Z1Q.1 h1),by first|exact h2|(rcases o with o|o<;>exact h2)⟩
def qbT {R:Type}:Z2t S R:=LE.ls X qbM qbO q4
theorem qbU {R:Type}:Z3J X (qbT (R:=R)):=Zhc xok qbF (e:=qbM) q97 q5 qbS q5
theorem qbV (x0:CtSand):Zhe X qbE [(.st 7)] [(.int .i64)] q96 qbT 12 99 (x0,())=X53 x0:=by kernel_rfl
def qbW:F7 S:=⟨[(.st 7)],[(.int .i64)],fun xs=>X53 xs.1⟩
theorem qbX:Z97 X 99 qbW:=Zhb (Zha xok qbF q97 qbU 12 99) fun xs _ h=>(qbV xs.1).trans h
def qbY:List (Nat×F7 S):=[(70,q9Y),(76,qa5),(98,qaq),(99,qbW)]
theorem qbZ:Z9h X (qbY):=⟨q9Z,qa6,qar,qbX,trivial⟩
def qc2:Key:=⟨[68],68,none,[0,0,1,0,1,1,1],0,10⟩
def qc3:StT S:=⟨(N (N L (some (.ptr 0 0)) (N L (some (.rs 10 0)) L)) none (N L none (N L vU L))),(N L on o1Q),11⟩
def qc4:Way S:=⟨.ret,⟨v1A,o13,52⟩,[.int,.int,.int,(.lst .str),(.st 4),(.st 8),(.lst .str)]⟩
def qc5:Way S:=⟨.ret,⟨v1A,o13,55⟩,[.int,.int,.int,(.lst .str),(.st 4),(.st 8),(.lst .str)]⟩
def qc6:Way S:=⟨.ret,⟨v1A,o13,51⟩,[.int,.int,.int,(.lst .str),(.st 4),(.st 8),(.lst .str)]⟩
def qc7:Way S:=⟨(.exit 0),⟨(N (N L (some (.ptr 0 0)) (N L (some (.rs 10 0)) L)) none L),(N L on o1Q),16⟩,[(.st 8),(.lst .str)]⟩
def qc8:LE S:=⟨qc2,qc3,[.int,(.st 8),(.lst .str)],[qc4,qc5,qc6,qc7]⟩
def qc9 (x:t1f):(tV⊕tV⊕tV⊕(List ByteArray))→t2:=Sum.elim (fun y0=>(.inl (y0.1,y0.2.1,y0.2.2.1,y0.2.2.2.1,y0.2.2.2.2.1,x.2.1,y0.2.2.2.2.2))) (Sum.elim (fun y1=>(.inr (.inl (y1.1,y1.2.1,y1.2.2.1,y1.2.2.2.1,y1.2.2.2.2.1,x.2.1,y1.2.2.2.2.2)))) (Sum.elim (fun y2=>(.inr (.inr (.inl (y2.1,y2.2.1,y2.2.2.1,y2.2.2.2.1,y2.2.2.2.2.1,x.2.1,y2.2.2.2.2.2))))) (fun y3=>(.inr (.inr (.inr (x.2.1,y3)))))))
def qca {R:Type} (x:t1f) (k:t2→Option R):Option R:=(X4Z x.2.1 (x.1,x.2.2)).bind (Sum.elim (fun y0=>k (.inl (y0.1,y0.2.1,y0.2.2.1,y0.2.2.2.1,y0.2.2.2.2.1,x.2.1,y0.2.2.2.2.2))) (Sum.elim (fun y1=>k (.inr (.inl (y1.1,y1.2.1,y1.2.2.1,y1.2.2.2.1,y1.2.2.2.2.1,x.2.1,y1.2.2.2.2.2)))) (Sum.elim (fun y2=>k (.inr (.inr (.inl (y2.1,y2.2.1,y2.2.2.1,y2.2.2.2.1,y2.2.2.2.2.1,x.2.1,y2.2.2.2.2.2))))) (fun y3=>k (.inr (.inr (.inr (x.2.1,y3))))))))
def qcb (x:t1f) (v:(Int×(List ByteArray))):t1f:=(v.1,x.2.1,v.2)
theorem qcc (x:t1f):LE.step X qc8 qbY q96 q4 12 x=WW x.2.1 x.1 x.2.2 (fun w0 w1=>(Sum.inl (w0,x.2.1,w1))) (fun p0 p1 p2 p3 p4 p5=>(Sum.inr (.inl (p0,p1,p2,p3,p4,x.2.1,p5)))) (fun p0 p1 p2 p3 p4 p5=>(Sum.inr (.inr (.inl (p0,p1,p2,p3,p4,x.2.1,p5))))) (fun p0 p1 p2 p3 p4 p5=>(Sum.inr (.inr (.inr (.inl (p0,p1,p2,p3,p4,x.2.1,p5)))))) (fun p0=>(Sum.inr (.inr (.inr (.inr (x.2.1,p0)))))):=by kernel_rfl
theorem qce {R:Type} (x:t1f) (k:t2→Option R) (r:R) (h:qca x k=some r):∃ o,Z5p (LE.step X qc8 qbY q96 q4 12) x o∧k o=some r:=by
 obtain ⟨o,h1,h2⟩:=Z0 h
 exact ⟨qc9 x o,Zh7 (st:=fun (x:t1f)=>WA x.2.1) (prj:=fun x=>(x.1,x.2.2)) (emb:=qcb) (embO:=qc9) (fun x=>(qcc x).trans (by unfold WA WW;simp only [ZgZ,ZgU,Zh0,Option.map_some,Option.map_none];rfl)) (fun _ _=>rfl) (fun _ _=>rfl) (fun _ _ _=>rfl) (fun _ _ _=>rfl) (fun _=>rfl) (Z1Q.1 h1),by first|exact h2|(rcases o with o|o|o|o<;>exact h2)⟩
def qcf {R:Type}:Z2t S R:=LE.ls X qc8 qca q4
theorem qcg {R:Type}:Z3J X (qcf (R:=R)):=Zhc xok qbZ (e:=qc8) q97 q5 qce q5
def qch:Key:=⟨[68],68,none,[0,0,1,0,1,1,1,1,1],2,21⟩
def qci:StT S:=⟨(N (N L (some (.ptr 0 0)) (N (N L vU L) (some (.rs 21 0)) L)) none L),(N (N L none o1Q) on L),22⟩
def qcj:Way S:=⟨.ret,⟨v1A,o1d,62⟩,[.int,.int,.int,(.lst .str),(.lst .str),(.st 8)]⟩
def qck:Way S:=⟨.ret,⟨v1A,o1d,55⟩,[.int,.int,.int,(.lst .str),(.lst .str),(.st 8)]⟩
def qcl:Way S:=⟨(.exit 2),⟨L,(N (N L none o1Q) on L),27⟩,[(.lst .str),(.st 8)]⟩
def qcm:LE S:=⟨qch,qci,[.int,(.lst .str),(.st 8)],[qcj,qck,qcl]⟩
def qcn (x:t1g):((Int×Int×Int×(List ByteArray)×(List ByteArray))⊕(Int×Int×Int×(List ByteArray)×(List ByteArray))⊕(List ByteArray))→ta:=Sum.elim (fun y0=>(.inl (y0.1,y0.2.1,y0.2.2.1,y0.2.2.2.1,y0.2.2.2.2,x.2.2))) (Sum.elim (fun y1=>(.inr (.inl (y1.1,y1.2.1,y1.2.2.1,y1.2.2.2.1,y1.2.2.2.2,x.2.2)))) (fun y2=>(.inr (.inr (y2,x.2.2)))))
def qco {R:Type} (x:t1g) (k:ta→Option R):Option R:=(X2p x.2.2 (x.1,x.2.1)).bind (Sum.elim (fun y0=>k (.inl (y0.1,y0.2.1,y0.2.2.1,y0.2.2.2.1,y0.2.2.2.2,x.2.2))) (Sum.elim (fun y1=>k (.inr (.inl (y1.1,y1.2.1,y1.2.2.1,y1.2.2.2.1,y1.2.2.2.2,x.2.2)))) (fun y2=>k (.inr (.inr (y2,x.2.2))))))
def qcp (x:t1g) (v:(Int×(List ByteArray))):t1g:=(v.1,v.2,x.2.2)
theorem qcq (x:t1g):LE.step X qcm qbY q96 qcf 12 x=WX x.2.2 x.1 x.2.1 (fun w0 w1=>(Sum.inl (w0,w1,x.2.2))) (fun p0 p1 p2 p3 p4=>(Sum.inr (.inl (p0,p1,p2,p3,p4,x.2.2)))) (fun p0 p1 p2 p3 p4=>(Sum.inr (.inr (.inl (p0,p1,p2,p3,p4,x.2.2))))) (fun p0=>(Sum.inr (.inr (.inr (p0,x.2.2))))):=by kernel_rfl
theorem qcs {R:Type} (x:t1g) (k:ta→Option R) (r:R) (h:qco x k=some r):∃ o,Z5p (LE.step X qcm qbY q96 qcf 12) x o∧k o=some r:=by
 obtain ⟨o,h1,h2⟩:=Z0 h
 exact ⟨qcn x o,Zh7 (st:=fun (x:t1g)=>WB x.2.2) (prj:=fun x=>(x.1,x.2.1)) (emb:=qcp) (embO:=qcn) (fun x=>(qcq x).trans (by unfold WB WX;simp only [ZgZ,ZgU,Zh0,Option.map_some,Option.map_none];rfl)) (fun _ _=>rfl) (fun _ _=>rfl) (fun _ _ _=>rfl) (fun _ _ _=>rfl) (fun _=>rfl) (Z1Q.1 h1),by first|exact h2|(rcases o with o|o|o<;>exact h2)⟩
def qct {R:Type}:Z2t S R:=LE.ls X qcm qco qcf
theorem qcu {R:Type}:Z3J X (qct (R:=R)):=Zhc xok qbZ (e:=qcm) q97 qcg qcs qcg
theorem qcv (x0:Zk):Zhe X qbY [(.st 8)] [(.int .i64),(.int .i64),(.int .i64)] q96 qct 12 68 (x0,())=X4k x0:=by kernel_rfl
def qcw:F7 S:=⟨[(.st 8)],[(.int .i64),(.int .i64),(.int .i64)],fun xs=>X4k xs.1⟩
theorem qcx:Z97 X 68 qcw:=Zhb (Zha xok qbZ q97 qcu 12 68) fun xs _ h=>(qcv xs.1).trans h
theorem qcC (x0:Int) (x1:Int) (x2:Int):Zhe X q2 [(.int .i64),(.int .i64),(.int .i64)] [.bool] q96 q4 12 69 (x0,x1,x2,())=X3Z x0 x1 x2:=by kernel_rfl
def qcD:F7 S:=⟨[(.int .i64),(.int .i64),(.int .i64)],[.bool],fun xs=>X15 xs.1 xs.2.1 xs.2.2.1⟩
theorem qcE:Z97 X 69 qcD:=Zhb (Zha xok q3 q97 q5 12 69) fun xs _ h=>((qcC xs.1 xs.2.1 xs.2.2.1).trans (X7t xs.1 xs.2.1 xs.2.2.1).symm).trans h
theorem qcJ (x0:Z5):Zhe X q2 [(.st 18)] [(.int .i64)] q96 q4 12 72 (x0,())=X3f x0:=by kernel_rfl
def qcK:F7 S:=⟨[(.st 18)],[(.int .i64)],fun xs=>X5C xs.1⟩
theorem qcL:Z97 X 72 qcK:=Zhb (Zha xok q3 q97 q5 12 72) fun xs _ h=>((qcJ xs.1).trans (X7c xs.1).symm).trans h
theorem qcQ (x0:ZE) (x1:Int) (x2:Int):Zhe X qaM [(.st 5),(.int .i64),(.int .i64)] [(.int .i64)] q96 q4 12 71 (x0,x1,x2,())=X3C x0 x1 x2:=by kernel_rfl
def qcR:F7 S:=⟨[(.st 5),(.int .i64),(.int .i64)],[(.int .i64)],fun xs=>X3C xs.1 xs.2.1 xs.2.2.1⟩
theorem qcS:Z97 X 71 qcR:=Zhb (Zha xok qaN q97 q5 12 71) fun xs _ h=>(qcQ xs.1 xs.2.1 xs.2.2.1).trans h
def qcT:List (Nat×F7 S):=[(102,qaK),(71,qcR),(69,qcD)]
theorem qcU:Z9h X (qcT):=⟨qaL,qcS,qcE,trivial⟩
theorem qcX (x0:Zt):Zhe X qcT [(.st 19)] [(.int .i64)] q96 q4 12 73 (x0,())=X2P x0:=by kernel_rfl
def qcY:F7 S:=⟨[(.st 19)],[(.int .i64)],fun xs=>X5N xs.1⟩
theorem qcZ:Z97 X 73 qcY:=Zhb (Zha xok qcU q97 q5 12 73) fun xs _ h=>((qcX xs.1).trans (X6K xs.1).symm).trans h
def qd0:List (Nat×F7 S):=[(68,qcw),(69,qcD),(70,q9Y),(72,qcK),(71,qcR),(73,qcY)]
theorem qd1:Z9h X (qd0):=⟨qcx,qcE,q9Z,qcL,qcS,qcZ,trivial⟩
def qd4:Key:=⟨[30],30,none,[0,0,1,0,1,1,1,1,1,1],0,39⟩
def qd5:StT S:=⟨(N (N L (some (.ptr 0 0)) (N (N L vU L) none L)) none (N (N (N L (some (.rs 39 0)) L) none L) none L)),o1q,40⟩
def qd6:Way S:=⟨.ret,⟨v1A,o11,81⟩,[.int,.int,.int,(.lst .str),(.st 20),(.lst .str),(.st 18)]⟩
def qd7:Way S:=⟨.ret,⟨v1A,o11,72⟩,[.int,.int,.int,(.lst .str),(.st 20),(.lst .str),(.st 18)]⟩
def qd8:Way S:=⟨(.exit 0),⟨(N (N L (some (.ptr 0 0)) L) none L),o1q,45⟩,[(.lst .str),(.st 20)]⟩
def qd9:LE S:=⟨qd4,qd5,[.int,(.lst .str),(.st 20)],[qd6,qd7,qd8]⟩
def qda (x:t1l):((Int×Int×Int×(List ByteArray)×(List ByteArray)×Z5)⊕(Int×Int×Int×(List ByteArray)×(List ByteArray)×Z5)⊕(List ByteArray))→t8:=Sum.elim (fun y0=>(.inl (y0.1,y0.2.1,y0.2.2.1,y0.2.2.2.1,x.2.2,y0.2.2.2.2.1,y0.2.2.2.2.2))) (Sum.elim (fun y1=>(.inr (.inl (y1.1,y1.2.1,y1.2.2.1,y1.2.2.2.1,x.2.2,y1.2.2.2.2.1,y1.2.2.2.2.2)))) (fun y2=>(.inr (.inr (y2,x.2.2)))))
def qdb {R:Type} (x:t1l) (k:t8→Option R):Option R:=(X3p x.2.2 (x.1,x.2.1)).bind (Sum.elim (fun y0=>k (.inl (y0.1,y0.2.1,y0.2.2.1,y0.2.2.2.1,x.2.2,y0.2.2.2.2.1,y0.2.2.2.2.2))) (Sum.elim (fun y1=>k (.inr (.inl (y1.1,y1.2.1,y1.2.2.1,y1.2.2.2.1,x.2.2,y1.2.2.2.2.1,y1.2.2.2.2.2)))) (fun y2=>k (.inr (.inr (y2,x.2.2))))))
def qdc (x:t1l) (v:(Int×(List ByteArray))):t1l:=(v.1,v.2,x.2.2)
theorem qdd (x:t1l):LE.step X qd9 qd0 q96 q4 12 x=X11 x.2.2 x.1 x.2.1 (fun w0 w1=>(Sum.inl (w0,w1,x.2.2))) (fun p0 p1 p2 p3 p4 p5=>(Sum.inr (.inl (p0,p1,p2,p3,x.2.2,p4,p5)))) (fun p0 p1 p2 p3 p4 p5=>(Sum.inr (.inr (.inl (p0,p1,p2,p3,x.2.2,p4,p5))))) (fun p0=>(Sum.inr (.inr (.inr (p0,x.2.2))))):=by kernel_rfl
theorem qdf {R:Type} (x:t1l) (k:t8→Option R) (r:R) (h:qdb x k=some r):∃ o,Z5p (LE.step X qd9 qd0 q96 q4 12) x o∧k o=some r:=by
 obtain ⟨o,h1,h2⟩:=Z0 h
 exact ⟨qda x o,Zh7 (st:=fun (x:t1l)=>WE x.2.2) (prj:=fun x=>(x.1,x.2.1)) (emb:=qdc) (embO:=qda) (fun x=>(qdd x).trans (by unfold WE X11;simp only [ZgZ,ZgU,Zh0,Option.map_some,Option.map_none];rfl)) (fun _ _=>rfl) (fun _ _=>rfl) (fun _ _ _=>rfl) (fun _ _ _=>rfl) (fun _=>rfl) (Z1Q.1 h1),by first|exact h2|(rcases o with o|o|o<;>exact h2)⟩
def qdg {R:Type}:Z2t S R:=LE.ls X qd9 qdb q4
theorem qdh {R:Type}:Z3J X (qdg (R:=R)):=Zhc xok qd1 (e:=qd9) q97 q5 qdf q5
def qdi:Key:=⟨[30],30,none,[0,0,1,0,1,1,1,1,1,1,1,1],2,50⟩
def qdj:StT S:=⟨(N (N (N L none (N L vU L)) (some (.ptr 0 0)) L) none L),o1q,50⟩
def qdk:Way S:=⟨.ret,⟨v1A,o1q,69⟩,[.int,.int,.int,(.lst .str),(.st 20)]⟩
def qdl:Way S:=⟨(.exit 2),⟨L,o1q,55⟩,[(.lst .str),(.st 20)]⟩
def qdm:LE S:=⟨qdi,qdj,[.int,(.lst .str),(.st 20)],[qdk,qdl]⟩
def qdn (x:t1l):((Int×Int×Int)⊕Unit)→tJ:=Sum.elim (fun y0=>(.inl (y0.1,y0.2.1,y0.2.2,x.2.1,x.2.2))) (fun y1=>(.inr (x.2.1,x.2.2)))
def qdo {R:Type} (x:t1l) (k:tJ→Option R):Option R:=(X3q x.2.2 x.1).bind (Sum.elim (fun y0=>k (.inl (y0.1,y0.2.1,y0.2.2,x.2.1,x.2.2))) (fun y1=>k (.inr (x.2.1,x.2.2))))
def qdp (x:t1l) (v:Int):t1l:=(v,x.2.1,x.2.2)
theorem qdq (x:t1l):LE.step X qdm qd0 q96 qdg 12 x=X12 x.2.2 x.1 (fun w0=>(Sum.inl (w0,x.2.1,x.2.2))) (fun p0 p1 p2=>(Sum.inr (.inl (p0,p1,p2,x.2.1,x.2.2)))) (Sum.inr (.inr (x.2.1,x.2.2))):=by kernel_rfl
theorem qds {R:Type} (x:t1l) (k:tJ→Option R) (r:R) (h:qdo x k=some r):∃ o,Z5p (LE.step X qdm qd0 q96 qdg 12) x o∧k o=some r:=by
 obtain ⟨o,h1,h2⟩:=Z0 h
 exact ⟨qdn x o,Zh7 (st:=fun (x:t1l)=>WF x.2.2) (prj:=fun x=>x.1) (emb:=qdp) (embO:=qdn) (fun x=>(qdq x).trans (by unfold WF X12;simp only [ZgZ,ZgU,Zh0,Option.map_some,Option.map_none];rfl)) (fun _ _=>rfl) (fun _ _=>rfl) (fun _ _ _=>rfl) (fun _ _ _=>rfl) (fun _=>rfl) (Z1Q.1 h1),by first|exact h2|(rcases o with o|o<;>exact h2)⟩
def qdt {R:Type}:Z2t S R:=LE.ls X qdm qdo qdg
theorem qdu {R:Type}:Z3J X (qdt (R:=R)):=Zhc xok qd1 (e:=qdm) q97 qdh qds qdh
theorem qdv (x0:ZI):Zhe X qd0 [(.st 20)] [(.int .i64),(.int .i64),(.int .i64)] q96 qdt 12 30 (x0,())=X2w x0:=by kernel_rfl
def qdw:F7 S:=⟨[(.st 20)],[(.int .i64),(.int .i64),(.int .i64)],fun xs=>X5g xs.1⟩
theorem qdx:Z97 X 30 qdw:=Zhb (Zha xok qd1 q97 qdu 12 30) fun xs _ h=>((qdv xs.1).trans (X6n xs.1).symm).trans h
def qdC:Key:=⟨[51],51,none,[0,0,1,0,1,1],0,4⟩
def qdD:StT S:=⟨(N (N L vU (N L vU L)) none (N L (some (.ptr 0 0)) (N L vU L))),(N L oi L),4⟩
def qdE:Way S:=⟨(.exit 0),⟨v1M,(N L oi L),9⟩,[.int,(.st 4)]⟩
def qdF:LE S:=⟨qdC,qdD,[.int,.int,.int,(.st 4)],[qdE]⟩
def qdG (x:t1s):Int→(Int×Zw):=fun y0=>(y0,x.2.2.2)
def qdH {R:Type} (x:t1s) (k:(Int×Zw)→Option R):Option R:=(X4l x.1 x.2.2.2 (x.2.1,x.2.2.1)).bind (fun y0=>k (y0,x.2.2.2))
def qdI (x:t1s) (v:(Int×Int)):t1s:=(x.1,v.1,v.2,x.2.2.2)
theorem qdJ (x:t1s):LE.step X qdF q2 q96 q4 12 x=W1 x.1 x.2.2.2 x.2.1 x.2.2.1 (fun w0 w1=>(Sum.inl (x.1,w0,w1,x.2.2.2))) (fun p0=>(Sum.inr (p0,x.2.2.2))):=by kernel_rfl
theorem qdL {R:Type} (x:t1s) (k:(Int×Zw)→Option R) (r:R) (h:qdH x k=some r):∃ o,Z5p (LE.step X qdF q2 q96 q4 12) x o∧k o=some r:=by
 obtain ⟨o,h1,h2⟩:=Z0 h
 exact ⟨qdG x o,Zh7 (st:=fun (x:t1s)=>XU x.1 x.2.2.2) (prj:=fun x=>(x.2.1,x.2.2.1)) (emb:=qdI) (embO:=qdG) (fun x=>(qdJ x).trans (by unfold XU W1;simp only [ZgZ,ZgU,Zh0,Option.map_some,Option.map_none];rfl)) (fun _ _=>rfl) (fun _ _=>rfl) (fun _ _ _=>rfl) (fun _ _ _=>rfl) (fun _=>rfl) (Z1Q.1 h1),by first|exact h2|(rcases o with o<;>exact h2)⟩
def qdM {R:Type}:Z2t S R:=LE.ls X qdF qdH q4
theorem qdN {R:Type}:Z3J X (qdM (R:=R)):=Zhc xok q3 (e:=qdF) q97 q5 qdL q5
theorem qdO (x0:Zw) (x1:Int):Zhe X q2 [(.st 4),(.int .i64)] [(.int .i64)] q96 qdM 12 51 (x0,x1,())=X1R x0 x1:=by kernel_rfl
def qdP:F7 S:=⟨[(.st 4),(.int .i64)],[(.int .i64)],fun xs=>X4f xs.1 xs.2.1⟩
theorem qdQ:Z97 X 51 qdP:=Zhb (Zha xok q3 q97 qdN 12 51) fun xs _ h=>((qdO xs.1 xs.2.1).trans (X5y xs.1 xs.2.1).symm).trans h
def qdR:List (Nat×F7 S):=[(69,qcD),(51,qdP)]
theorem qdS:Z9h X (qdR):=⟨qcE,qdQ,trivial⟩
theorem qdV (x0:ZI) (x1:Zl):Zhe X qdR [(.st 20),(.st 21)] [(.int .i64)] q96 q4 12 75 (x0,x1,())=X2y x0 x1:=by kernel_rfl
def qdW:F7 S:=⟨[(.st 20),(.st 21)],[(.int .i64)],fun xs=>X5j xs.1 xs.2.1⟩
theorem qdX:Z97 X 75 qdW:=Zhb (Zha xok qdS q97 q5 12 75) fun xs _ h=>((qdV xs.1 xs.2.1).trans (X6r xs.1 xs.2.1).symm).trans h
def qdY:List (Nat×F7 S):=[(30,qdw),(75,qdW)]
theorem qdZ:Z9h X (qdY):=⟨qdx,qdX,trivial⟩
def qe2:Key:=⟨[32],32,none,[0,0,1,0,1,1,1,1],0,22⟩
def qe3:StT S:=⟨v1p,(N L oe L),22⟩
def qe4:Way S:=⟨.ret,⟨v1y,(N L oe L),39⟩,[.int,.int,(.st 20)]⟩
def qe5:Way S:=⟨(.exit 0),⟨L,(N L oe L),26⟩,[(.st 20)]⟩
def qe6:LE S:=⟨qe2,qe3,[(.lst (.st 21)),.int,(.st 20)],[qe4,qe5]⟩
def qe7 (x:t1o):((Int×Int)⊕Unit)→((Int×Int×ZI)⊕ZI):=Sum.elim (fun y0=>(.inl (y0.1,y0.2,x.2.2))) (fun y1=>(.inr x.2.2))
def qe8 {R:Type} (x:t1o) (k:((Int×Int×ZI)⊕ZI)→Option R):Option R:=(X1W x.1 x.2.2 x.2.1).bind (Sum.elim (fun y0=>k (.inl (y0.1,y0.2,x.2.2))) (fun y1=>k (.inr x.2.2)))
def qe9 (x:t1o) (v:Int):t1o:=(x.1,v,x.2.2)
theorem qea (x:t1o):LE.step X qe6 qdY q96 q4 12 x=Xm x.1 x.2.2 x.2.1 (fun w0=>(Sum.inl (x.1,w0,x.2.2))) (fun p0 p1=>(Sum.inr (.inl (p0,p1,x.2.2)))) (Sum.inr (.inr x.2.2)):=by kernel_rfl
theorem qec {R:Type} (x:t1o) (k:((Int×Int×ZI)⊕ZI)→Option R) (r:R) (h:qe8 x k=some r):∃ o,Z5p (LE.step X qe6 qdY q96 q4 12) x o∧k o=some r:=by
 obtain ⟨o,h1,h2⟩:=Z0 h
 exact ⟨qe7 x o,Zh7 (st:=fun (x:t1o)=>Xh x.1 x.2.2) (prj:=fun x=>x.2.1) (emb:=qe9) (embO:=qe7) (fun x=>(qea x).trans (by unfold Xh Xm;simp only [ZgZ,ZgU,Zh0,Option.map_some,Option.map_none];rfl)) (fun _ _=>rfl) (fun _ _=>rfl) (fun _ _ _=>rfl) (fun _ _ _=>rfl) (fun _=>rfl) (Z1Q.1 h1),by first|exact h2|(rcases o with o|o<;>exact h2)⟩
def qed {R:Type}:Z2t S R:=LE.ls X qe6 qe8 q4
theorem qee {R:Type}:Z3J X (qed (R:=R)):=Zhc xok qdZ (e:=qe6) q97 q5 qec q5
theorem qef (x0:ZI) (x1:List Zl):Zhe X qdY [(.st 20),(.sl (.st 21))] [(.int .i64),(.int .i64)] q96 qed 12 32 (x0,x1,())=W2 x0 x1:=by kernel_rfl
def qeg:F7 S:=⟨[(.st 20),(.sl (.st 21))],[(.int .i64),(.int .i64)],fun xs=>X2D xs.1 xs.2.1⟩
theorem qeh:Z97 X 32 qeg:=Zhb (Zha xok qdZ q97 qee 12 32) fun xs _ h=>((qef xs.1 xs.2.1).trans (X4n xs.1 xs.2.1).symm).trans h
def qem:Key:=⟨[79],79,none,[0,0,1,0,0,1,0,0,1,0,1,1],2,16⟩
def qen:StT S:=⟨(N (N (N L (some (.rs 16 0)) L) (some (.ptr 0 0)) (N L vU L)) none (N (N L vU L) none L)),(N L oe (N o1P none L)),17⟩
def qeo:Way S:=⟨(.exit 2),⟨(N (N (N L (some (.rs 16 0)) L) (some (.ptr 0 0)) L) none (N (N L vU L) none L)),(N L oe (N o1P none L)),21⟩,[.int,(.st 20),(.lst (.st 2))]⟩
def qep:LE S:=⟨qem,qen,[.int,.int,(.st 20),(.lst (.st 2))],[qeo]⟩
def qeq (x:t1h):(List Zu)→(Int×ZI×(List Zu)):=fun y0=>(x.2.1,x.2.2.1,y0)
def qer {R:Type} (x:t1h) (k:(Int×ZI×(List Zu))→Option R):Option R:=(X2E x.2.1 x.2.2.1 (x.1,x.2.2.2)).bind (fun y0=>k (x.2.1,x.2.2.1,y0))
def qes (x:t1h) (v:(Int×(List Zu))):t1h:=(v.1,x.2.1,x.2.2.1,v.2)
theorem qet (x:t1h):LE.step X qep q2 q96 q4 12 x=X1v x.2.1 x.2.2.1 x.1 x.2.2.2 (fun w0 w1=>(Sum.inl (w0,x.2.1,x.2.2.1,w1))) (fun p0=>(Sum.inr (x.2.1,x.2.2.1,p0))):=by kernel_rfl
theorem qev {R:Type} (x:t1h) (k:(Int×ZI×(List Zu))→Option R) (r:R) (h:qer x k=some r):∃ o,Z5p (LE.step X qep q2 q96 q4 12) x o∧k o=some r:=by
 obtain ⟨o,h1,h2⟩:=Z0 h
 exact ⟨qeq x o,Zh7 (st:=fun (x:t1h)=>X1h x.2.1 x.2.2.1) (prj:=fun x=>(x.1,x.2.2.2)) (emb:=qes) (embO:=qeq) (fun x=>(qet x).trans (by unfold X1h X1v;simp only [ZgZ,ZgU,Zh0,Option.map_some,Option.map_none];rfl)) (fun _ _=>rfl) (fun _ _=>rfl) (fun _ _ _=>rfl) (fun _ _ _=>rfl) (fun _=>rfl) (Z1Q.1 h1),by first|exact h2|(rcases o with o<;>exact h2)⟩
def qew {R:Type}:Z2t S R:=LE.ls X qep qer q4
theorem qex {R:Type}:Z3J X (qew (R:=R)):=Zhc xok q3 (e:=qep) q97 q5 qev q5
def qey:Key:=⟨[79],79,none,[0,0,1,0,1,1],0,7⟩
def qez:StT S:=⟨(N (N (N L (some (.rs 7 0)) L) (some (.ptr 0 0)) L) none (N (N L vU L) none L)),(N o1P oe L),8⟩
def qeA:Way S:=⟨(.exit 0),⟨(N v1F none L),(N o1P oe L),12⟩,[(.lst (.st 2)),(.st 20)]⟩
def qeB:LE S:=⟨qey,qez,[.int,(.lst (.st 2)),(.st 20)],[qeA]⟩
def qeC (x:t1q):(List Zu)→((List Zu)×ZI):=fun y0=>(y0,x.2.2)
def qeD {R:Type} (x:t1q) (k:((List Zu)×ZI)→Option R):Option R:=(X3Y x.2.2 (x.1,x.2.1)).bind (fun y0=>k (y0,x.2.2))
def qeE (x:t1q) (v:(Int×(List Zu))):t1q:=(v.1,v.2,x.2.2)
theorem qeF (x:t1q):LE.step X qeB q2 q96 qew 12 x=X1u x.2.2 x.1 x.2.1 (fun w0 w1=>(Sum.inl (w0,w1,x.2.2))) (fun p0=>(Sum.inr (p0,x.2.2))):=by kernel_rfl
theorem qeH {R:Type} (x:t1q) (k:((List Zu)×ZI)→Option R) (r:R) (h:qeD x k=some r):∃ o,Z5p (LE.step X qeB q2 q96 qew 12) x o∧k o=some r:=by
 obtain ⟨o,h1,h2⟩:=Z0 h
 exact ⟨qeC x o,Zh7 (st:=fun (x:t1q)=>X1g x.2.2) (prj:=fun x=>(x.1,x.2.1)) (emb:=qeE) (embO:=qeC) (fun x=>(qeF x).trans (by unfold X1g X1u;simp only [ZgZ,ZgU,Zh0,Option.map_some,Option.map_none];rfl)) (fun _ _=>rfl) (fun _ _=>rfl) (fun _ _ _=>rfl) (fun _ _ _=>rfl) (fun _=>rfl) (Z1Q.1 h1),by first|exact h2|(rcases o with o<;>exact h2)⟩
def qeI {R:Type}:Z2t S R:=LE.ls X qeB qeD qew
theorem qeJ {R:Type}:Z3J X (qeI (R:=R)):=Zhc xok q3 (e:=qeB) q97 qex qeH qex
theorem qeK (x0:ZI):Zhe X q2 [(.st 20)] [(.sl (.st 2))] q96 qeI 12 79 (x0,())=X2M x0:=by kernel_rfl
def qeL:F7 S:=⟨[(.st 20)],[(.sl (.st 2))],fun xs=>X5M xs.1⟩
theorem qeM:Z97 X 79 qeL:=Zhb (Zha xok q3 q97 qeJ 12 79) fun xs _ h=>((qeK xs.1).trans (X6I xs.1).symm).trans h
theorem qeR (x0:Zu):Zhe X q2 [(.st 2)] [(.st 2)] q96 q4 12 128 (x0,())=X7b x0:=by kernel_rfl
def qeS:F7 S:=⟨[(.st 2)],[(.st 2)],fun xs=>X7b xs.1⟩
theorem qeT:Z97 X 128 qeS:=Zhb (Zha xok q3 q97 q5 12 128) fun xs _ h=>(qeR xs.1).trans h
def qeU (ih:(Int×Unit)→Option (Zu)):List (Nat×F7 S):=[(128,qeS),(113,⟨[(.int .i64)],[(.st 2)],ih⟩)]
theorem qeV (ih:(Int×Unit)→Option (Zu)) (hih:Z97 X 113 ⟨[(.int .i64)],[(.st 2)],ih⟩):Z9h X (qeU ih):=⟨qeT,hih,trivial⟩
abbrev qeW (ih:(Int×Unit)→Option (Zu)) {R:Type}:Z2t S R:=Zg9
theorem qeX (ih:(Int×Unit)→Option (Zu)) (hih:Z97 X 113 ⟨[(.int .i64)],[(.st 2)],ih⟩) {R:Type}:Z3J X (qeW ih (R:=R)):=ZgE X
theorem qeY (ih:(Int×Unit)→Option (Zu)) (x0:Int):Zhe X (qeU ih) [(.int .i64)] [(.st 2)] q96 (qeW ih) 12 113 (x0,())=X2C ih x0:=by kernel_rfl
def qeZ:F7 S:=⟨[(.int .i64)],[(.st 2)],fun xs=>X4e xs.1⟩
theorem qf0:Z97 X 113 qeZ:=ZhA (X:=X) (g:=113) (pts:=[(.int .i64)]) (rts:=[(.st 2)]) (t:=Xb) fun ih hih=>Zhb (Zha xok (qeV ih hih) q97 (qeX ih hih) 12 113) fun xs _ h=>(qeY ih xs.1).trans h
def qf1:List (Nat×F7 S):=[(113,qeZ),(112,qb5)]
theorem qf2:Z9h X (qf1):=⟨qf0,qb6,trivial⟩
def qf5:Key:=⟨[87],87,none,[0,0,0,1,1],0,3⟩
def qf6:StT S:=⟨(N v1G none L),(N L om L),3⟩
def qf7:Way S:=⟨(.exit 0),⟨v1I,(N L om L),17⟩,[.int,(.st 2)]⟩
def qf8:LE S:=⟨qf5,qf6,[.int,(.st 2)],[qf7]⟩
def qf9 (x:(Int×Zu)):Int→(Int×Zu):=fun y0=>(y0,x.2)
def qfa {R:Type} (x:(Int×Zu)) (k:(Int×Zu)→Option R):Option R:=(X4z x.2 x.1).bind (fun y0=>k (y0,x.2))
def qfb (x:(Int×Zu)) (v:Int):(Int×Zu):=(v,x.2)
theorem qfc (x:(Int×Zu)):LE.step X qf8 qf1 q96 q4 12 x=Wn x.2 x.1 (fun w0=>(Sum.inl (w0,x.2))) (fun p0=>(Sum.inr (p0,x.2))):=by kernel_rfl
theorem qfe {R:Type} (x:(Int×Zu)) (k:(Int×Zu)→Option R) (r:R) (h:qfa x k=some r):∃ o,Z5p (LE.step X qf8 qf1 q96 q4 12) x o∧k o=some r:=by
 obtain ⟨o,h1,h2⟩:=Z0 h
 exact ⟨qf9 x o,Zh7 (st:=fun (x:(Int×Zu))=>Wc x.2) (prj:=fun x=>x.1) (emb:=qfb) (embO:=qf9) (fun x=>(qfc x).trans (by unfold Wc Wn;simp only [ZgZ,ZgU,Zh0,Option.map_some,Option.map_none];rfl)) (fun _ _=>rfl) (fun _ _=>rfl) (fun _ _ _=>rfl) (fun _ _ _=>rfl) (fun _=>rfl) (Z1Q.1 h1),by first|exact h2|(rcases o with o<;>exact h2)⟩
def qff {R:Type}:Z2t S R:=LE.ls X qf8 qfa q4
theorem qfg {R:Type}:Z3J X (qff (R:=R)):=Zhc xok qf2 (e:=qf8) q97 q5 qfe q5
theorem qfh (x0:Zu):Zhe X qf1 [(.st 2)] [(.int .i64)] q96 qff 12 87 (x0,())=X2Y x0:=by kernel_rfl
def qfi:F7 S:=⟨[(.st 2)],[(.int .i64)],fun xs=>X2Y xs.1⟩
theorem qfj:Z97 X 87 qfi:=Zhb (Zha xok qf2 q97 qfg 12 87) fun xs _ h=>(qfh xs.1).trans h
def qfk:List (Nat×F7 S):=[(69,qcD)]
theorem qfl:Z9h X (qfk):=⟨qcE,trivial⟩
def qfo:Key:=⟨[53],53,none,[0,0,1,0,1],0,4⟩
def qfp:StT S:=⟨(N (N (N L (some (.ptr 1 0)) L) none (N L vU L)) none (N L (some (.ptr 0 0)) L)),(N (N L om L) oe L),4⟩
def qfq:Way S:=⟨.ret,⟨v1J,(N (N L om L) oe L),47⟩,[.int,(.st 2),(.st 20)]⟩
def qfr:Way S:=⟨(.exit 0),⟨L,(N (N L om L) oe L),9⟩,[(.st 2),(.st 20)]⟩
def qfs:LE S:=⟨qfo,qfp,[.int,(.st 2),(.st 20)],[qfq,qfr]⟩
def qft (x:(Int×Zu×ZI)):(Int⊕Unit)→((Int×Zu×ZI)⊕(Zu×ZI)):=Sum.elim (fun y0=>(.inl (y0,x.2.1,x.2.2))) (fun y1=>(.inr (x.2.1,x.2.2)))
def qfu {R:Type} (x:(Int×Zu×ZI)) (k:((Int×Zu×ZI)⊕(Zu×ZI))→Option R):Option R:=(X39 x.2.1 x.2.2 x.1).bind (Sum.elim (fun y0=>k (.inl (y0,x.2.1,x.2.2))) (fun y1=>k (.inr (x.2.1,x.2.2))))
def qfv (x:(Int×Zu×ZI)) (v:Int):(Int×Zu×ZI):=(v,x.2.1,x.2.2)
theorem qfw (x:(Int×Zu×ZI)):LE.step X qfs qfk q96 q4 12 x=Wp x.2.1 x.2.2 x.1 (fun w0=>(Sum.inl (w0,x.2.1,x.2.2))) (fun p0=>(Sum.inr (.inl (p0,x.2.1,x.2.2)))) (Sum.inr (.inr (x.2.1,x.2.2))):=by kernel_rfl
theorem qfy {R:Type} (x:(Int×Zu×ZI)) (k:((Int×Zu×ZI)⊕(Zu×ZI))→Option R) (r:R) (h:qfu x k=some r):∃ o,Z5p (LE.step X qfs qfk q96 q4 12) x o∧k o=some r:=by
 obtain ⟨o,h1,h2⟩:=Z0 h
 exact ⟨qft x o,Zh7 (st:=fun (x:(Int×Zu×ZI))=>Wf x.2.1 x.2.2) (prj:=fun x=>x.1) (emb:=qfv) (embO:=qft) (fun x=>(qfw x).trans (by unfold Wf Wp;simp only [ZgZ,ZgU,Zh0,Option.map_some,Option.map_none];rfl)) (fun _ _=>rfl) (fun _ _=>rfl) (fun _ _ _=>rfl) (fun _ _ _=>rfl) (fun _=>rfl) (Z1Q.1 h1),by first|exact h2|(rcases o with o|o<;>exact h2)⟩
def qfz {R:Type}:Z2t S R:=LE.ls X qfs qfu q4
theorem qfA {R:Type}:Z3J X (qfz (R:=R)):=Zhc xok qfl (e:=qfs) q97 q5 qfy q5
theorem qfB (x0:ZI) (x1:Zu):Zhe X qfk [(.st 20),(.st 2)] [(.int .i64)] q96 qfz 12 53 (x0,x1,())=X2g x0 x1:=by kernel_rfl
def qfC:F7 S:=⟨[(.st 20),(.st 2)],[(.int .i64)],fun xs=>X4E xs.1 xs.2.1⟩
theorem qfD:Z97 X 53 qfC:=Zhb (Zha xok qfl q97 qfA 12 53) fun xs _ h=>((qfB xs.1 xs.2.1).trans (X62 xs.1 xs.2.1).symm).trans h
def qfE:List (Nat×F7 S):=[(88,qaY),(87,qfi),(53,qfC),(69,qcD)]
theorem qfF:Z9h X (qfE):=⟨qaZ,qfj,qfD,qcE,trivial⟩
theorem qfI (x0:ZI) (x1:Zl) (x2:Zu) (x3:Int):Zhe X qfE [(.st 20),(.st 21),(.st 2),(.int .i64)] [.bool] q96 q4 12 107 (x0,x1,x2,x3,())=X2f x0 x1 x2 x3:=by kernel_rfl
def qfJ:F7 S:=⟨[(.st 20),(.st 21),(.st 2),(.int .i64)],[.bool],fun xs=>X3X xs.1 xs.2.1 xs.2.2.1 xs.2.2.2.1⟩
theorem qfK:Z97 X 107 qfJ:=Zhb (Zha xok qfF q97 q5 12 107) fun xs _ h=>((qfI xs.1 xs.2.1 xs.2.2.1 xs.2.2.2.1).trans (X60 xs.1 xs.2.1 xs.2.2.1 xs.2.2.2.1).symm).trans h
def qfL:List (Nat×F7 S):=[(107,qfJ)]
theorem qfM:Z9h X (qfL):=⟨qfK,trivial⟩
def qfP:Key:=⟨[77],77,none,[0,0,1,0,1,0,0,1,0,0,1,0,1,1],2,24⟩
def qfQ:StT S:=⟨(N v1a none (N (N L vS (N L vU L)) none (N L none (N L vU L)))),o1s,25⟩
def qfR:Way S:=⟨(.exit 2),⟨(N v1a none (N (N L vS (N L vU L)) none L)),o1s,32⟩,[.int,(.lst (.st 21)),.bool,(.lst .bool),.int,(.st 2),(.st 20),(.lst (.int .i64))]⟩
def qfS:LE S:=⟨qfP,qfQ,[.int,(.lst (.st 21)),.bool,(.lst .bool),.int,.int,(.st 2),(.st 20),(.lst (.int .i64))],[qfR]⟩
def qfT (x:tD):Bool→tH:=fun y0=>(x.1,x.2.1,y0,x.2.2.2.1,x.2.2.2.2.1,x.2.2.2.2.2.2.1,x.2.2.2.2.2.2.2.1,x.2.2.2.2.2.2.2.2)
def qfU {R:Type} (x:tD) (k:tH→Option R):Option R:=(X2R x.1 x.2.1 x.2.2.2.1 x.2.2.2.2.1 x.2.2.2.2.2.2.1 x.2.2.2.2.2.2.2.1 (x.2.2.1,x.2.2.2.2.2.1)).bind (fun y0=>k (x.1,x.2.1,y0,x.2.2.2.1,x.2.2.2.2.1,x.2.2.2.2.2.2.1,x.2.2.2.2.2.2.2.1,x.2.2.2.2.2.2.2.2))
def qfV (x:tD) (v:(Bool×Int)):tD:=(x.1,x.2.1,v.1,x.2.2.2.1,x.2.2.2.2.1,v.2,x.2.2.2.2.2.2.1,x.2.2.2.2.2.2.2.1,x.2.2.2.2.2.2.2.2)
theorem qfW (x:tD):LE.step X qfS qfL q96 q4 12 x=W6 x.1 x.2.1 x.2.2.2.1 x.2.2.2.2.1 x.2.2.2.2.2.2.1 x.2.2.2.2.2.2.2.1 x.2.2.1 x.2.2.2.2.2.1 (fun w0 w1=>(Sum.inl (x.1,x.2.1,w0,x.2.2.2.1,x.2.2.2.2.1,w1,x.2.2.2.2.2.2.1,x.2.2.2.2.2.2.2.1,x.2.2.2.2.2.2.2.2))) (fun p0=>(Sum.inr (x.1,x.2.1,p0,x.2.2.2.1,x.2.2.2.2.1,x.2.2.2.2.2.2.1,x.2.2.2.2.2.2.2.1,x.2.2.2.2.2.2.2.2))):=by kernel_rfl
theorem qfY {R:Type} (x:tD) (k:tH→Option R) (r:R) (h:qfU x k=some r):∃ o,Z5p (LE.step X qfS qfL q96 q4 12) x o∧k o=some r:=by
 obtain ⟨o,h1,h2⟩:=Z0 h
 exact ⟨qfT x o,Zh7 (st:=fun (x:tD)=>XY x.1 x.2.1 x.2.2.2.1 x.2.2.2.2.1 x.2.2.2.2.2.2.1 x.2.2.2.2.2.2.2.1) (prj:=fun x=>(x.2.2.1,x.2.2.2.2.2.1)) (emb:=qfV) (embO:=qfT) (fun x=>(qfW x).trans (by unfold XY W6;simp only [ZgZ,ZgU,Zh0,Option.map_some,Option.map_none];rfl)) (fun _ _=>rfl) (fun _ _=>rfl) (fun _ _ _=>rfl) (fun _ _ _=>rfl) (fun _=>rfl) (Z1Q.1 h1),by first|exact h2|(rcases o with o<;>exact h2)⟩
def qfZ {R:Type}:Z2t S R:=LE.ls X qfS qfU q4
theorem qg0 {R:Type}:Z3J X (qfZ (R:=R)):=Zhc xok qfM (e:=qfS) q97 q5 qfY q5
def qg1:Key:=⟨[77],77,none,[0,0,1,0,1,1],0,12⟩
def qg2:StT S:=⟨(N (N (N (N L (some (.ptr 1 0)) L) vU (N L (some (.rs 12 0)) L)) vQ (N L (some (.ptr 0 0)) L)) none (N (N L vS (N L vU L)) none L)),(N (N L om L) oe o1N),13⟩
def qg3:Way S:=⟨(.exit 0),⟨(N (N (N L none (N L (some (.rs 12 0)) L)) none L) none L),(N (N L om L) oe o1N),22⟩,[(.st 2),(.st 20),(.lst (.int .i64))]⟩
def qg4:LE S:=⟨qg1,qg2,[.int,(.lst (.st 21)),(.lst .bool),.int,(.st 2),(.st 20),(.lst (.int .i64))],[qg3]⟩
def qg5 (x:tM):(List Int)→(Zu×ZI×(List Int)):=fun y0=>(x.2.2.2.2.1,x.2.2.2.2.2.1,y0)
def qg6 {R:Type} (x:tM) (k:(Zu×ZI×(List Int))→Option R):Option R:=(X2Q x.1 x.2.1 x.2.2.1 x.2.2.2.2.1 x.2.2.2.2.2.1 (x.2.2.2.1,x.2.2.2.2.2.2)).bind (fun y0=>k (x.2.2.2.2.1,x.2.2.2.2.2.1,y0))
def qg7 (x:tM) (v:(Int×(List Int))):tM:=(x.1,x.2.1,x.2.2.1,v.1,x.2.2.2.2.1,x.2.2.2.2.2.1,v.2)
theorem qg8 (x:tM):LE.step X qg4 qfL q96 qfZ 12 x=W5 x.1 x.2.1 x.2.2.1 x.2.2.2.2.1 x.2.2.2.2.2.1 x.2.2.2.1 x.2.2.2.2.2.2 (fun w0 w1=>(Sum.inl (x.1,x.2.1,x.2.2.1,w0,x.2.2.2.2.1,x.2.2.2.2.2.1,w1))) (fun p0=>(Sum.inr (x.2.2.2.2.1,x.2.2.2.2.2.1,p0))):=by kernel_rfl
theorem qga {R:Type} (x:tM) (k:(Zu×ZI×(List Int))→Option R) (r:R) (h:qg6 x k=some r):∃ o,Z5p (LE.step X qg4 qfL q96 qfZ 12) x o∧k o=some r:=by
 obtain ⟨o,h1,h2⟩:=Z0 h
 exact ⟨qg5 x o,Zh7 (st:=fun (x:tM)=>XX x.1 x.2.1 x.2.2.1 x.2.2.2.2.1 x.2.2.2.2.2.1) (prj:=fun x=>(x.2.2.2.1,x.2.2.2.2.2.2)) (emb:=qg7) (embO:=qg5) (fun x=>(qg8 x).trans (by unfold XX W5;simp only [ZgZ,ZgU,Zh0,Option.map_some,Option.map_none];rfl)) (fun _ _=>rfl) (fun _ _=>rfl) (fun _ _ _=>rfl) (fun _ _ _=>rfl) (fun _=>rfl) (Z1Q.1 h1),by first|exact h2|(rcases o with o<;>exact h2)⟩
def qgb {R:Type}:Z2t S R:=LE.ls X qg4 qg6 qfZ
theorem qgc {R:Type}:Z3J X (qgb (R:=R)):=Zhc xok qfM (e:=qg4) q97 qg0 qga qg0
theorem qgd (x0:ZI) (x1:List Zl) (x2:Zu) (x3:Int) (x4:List Bool):Zhe X qfL [(.st 20),(.sl (.st 21)),(.st 2),(.int .i64),(.sl .bool)] [(.sl (.int .i64))] q96 qgb 12 77 (x0,x1,x2,x3,x4,())=X1V x0 x1 x2 x3 x4:=by kernel_rfl
def qge:F7 S:=⟨[(.st 20),(.sl (.st 21)),(.st 2),(.int .i64),(.sl .bool)],[(.sl (.int .i64))],fun xs=>X4h xs.1 xs.2.1 xs.2.2.1 xs.2.2.2.1 xs.2.2.2.2.1⟩
theorem qgf:Z97 X 77 qge:=Zhb (Zha xok qfM q97 qgc 12 77) fun xs _ h=>((qgd xs.1 xs.2.1 xs.2.2.1 xs.2.2.2.1 xs.2.2.2.2.1).trans (X5D xs.1 xs.2.1 xs.2.2.1 xs.2.2.2.1 xs.2.2.2.2.1).symm).trans h
def qgg:List (Nat×F7 S):=[(77,qge)]
theorem qgh:Z9h X (qgg):=⟨qgf,trivial⟩
def qgk:Key:=⟨[80],80,none,[0,0,1,0,1],0,4⟩
def qgl:StT S:=⟨(N (N (N (N L (some (.ptr 1 0)) L) vS (N L vU L)) vQ (N L (some (.ptr 0 0)) L)) none (N (N L vS L) none L)),(N (N L om L) oe L),4⟩
def qgm:Way S:=⟨.ret,⟨(N L none v1O),(N (N L om L) oe L),25⟩,[.bool,(.st 2),(.st 20)]⟩
def qgo:LE S:=⟨qgk,qgl,[(.lst .bool),.int,(.lst (.st 21)),(.lst .bool),(.st 2),(.st 20)],[qgm,qfr]⟩
def qgp (x:tP):(Bool⊕Unit)→((Bool×Zu×ZI)⊕(Zu×ZI)):=Sum.elim (fun y0=>(.inl (y0,x.2.2.2.2.1,x.2.2.2.2.2))) (fun y1=>(.inr (x.2.2.2.2.1,x.2.2.2.2.2)))
def qgq {R:Type} (x:tP) (k:((Bool×Zu×ZI)⊕(Zu×ZI))→Option R):Option R:=(X3a x.1 x.2.2.1 x.2.2.2.1 x.2.2.2.2.1 x.2.2.2.2.2 x.2.1).bind (Sum.elim (fun y0=>k (.inl (y0,x.2.2.2.2.1,x.2.2.2.2.2))) (fun y1=>k (.inr (x.2.2.2.2.1,x.2.2.2.2.2))))
def qgr (x:tP) (v:Int):tP:=(x.1,v,x.2.2.1,x.2.2.2.1,x.2.2.2.2.1,x.2.2.2.2.2)
theorem qgs (x:tP):LE.step X qgo qgg q96 q4 12 x=Wq x.1 x.2.2.1 x.2.2.2.1 x.2.2.2.2.1 x.2.2.2.2.2 x.2.1 (fun w0=>(Sum.inl (x.1,w0,x.2.2.1,x.2.2.2.1,x.2.2.2.2.1,x.2.2.2.2.2))) (fun p0=>(Sum.inr (.inl (p0,x.2.2.2.2.1,x.2.2.2.2.2)))) (Sum.inr (.inr (x.2.2.2.2.1,x.2.2.2.2.2))):=by kernel_rfl
theorem qgu {R:Type} (x:tP) (k:((Bool×Zu×ZI)⊕(Zu×ZI))→Option R) (r:R) (h:qgq x k=some r):∃ o,Z5p (LE.step X qgo qgg q96 q4 12) x o∧k o=some r:=by
 obtain ⟨o,h1,h2⟩:=Z0 h
 exact ⟨qgp x o,Zh7 (st:=fun (x:tP)=>Wg x.1 x.2.2.1 x.2.2.2.1 x.2.2.2.2.1 x.2.2.2.2.2) (prj:=fun x=>x.2.1) (emb:=qgr) (embO:=qgp) (fun x=>(qgs x).trans (by unfold Wg Wq;simp only [ZgZ,ZgU,Zh0,Option.map_some,Option.map_none];rfl)) (fun _ _=>rfl) (fun _ _=>rfl) (fun _ _ _=>rfl) (fun _ _ _=>rfl) (fun _=>rfl) (Z1Q.1 h1),by first|exact h2|(rcases o with o|o<;>exact h2)⟩
def qgv {R:Type}:Z2t S R:=LE.ls X qgo qgq q4
theorem qgw {R:Type}:Z3J X (qgv (R:=R)):=Zhc xok qgh (e:=qgo) q97 q5 qgu q5
theorem qgx (x0:ZI) (x1:List Zl) (x2:Zu) (x3:List Bool) (x4:List Bool):Zhe X qgg [(.st 20),(.sl (.st 21)),(.st 2),(.sl .bool),(.sl .bool)] [.bool] q96 qgv 12 80 (x0,x1,x2,x3,x4,())=X2h x0 x1 x2 x3 x4:=by kernel_rfl
def qgy:F7 S:=⟨[(.st 20),(.sl (.st 21)),(.st 2),(.sl .bool),(.sl .bool)],[.bool],fun xs=>X4F xs.1 xs.2.1 xs.2.2.1 xs.2.2.2.1 xs.2.2.2.2.1⟩
theorem qgz:Z97 X 80 qgy:=Zhb (Zha xok qgh q97 qgw 12 80) fun xs _ h=>((qgx xs.1 xs.2.1 xs.2.2.1 xs.2.2.2.1 xs.2.2.2.2.1).trans (X64 xs.1 xs.2.1 xs.2.2.1 xs.2.2.2.1 xs.2.2.2.2.1).symm).trans h
def qgA:StT S:=⟨(N (N (N L vU L) vu L) (some .nilp) (N L vU L)),L,0⟩
def qgB:PE S:=⟨58,4,qgA,[.int,(.st 2),.int],[]⟩
theorem qgG (x:(Int×Zu×Int)):PE.step X qgB q76 q96 q4 12 x=X22 x.1 x.2.1 x.2.2:=by kernel_rfl
theorem qgH:ZaS X qgB X4s:=Zhd (ZgI xok q77 q97 q5 12) fun x _ h=>((qgG x).trans (X6T x).symm).trans h
def qgI {R:Type}:Prs S R:=PE.ps X qgB (fun x q=>(X4s x).bind q) q96
theorem qgJ {R:Type}:Z7N X (qgI (R:=R)):=Zh4 (e:=qgB) qgH q97
def qgL:PE S:=⟨44,1,q74,[],[]⟩
theorem qgN:Z9h X q2:=trivial
theorem qgQ (x:Unit):PE.step X qgL q2 qgI q4 12 x=Ww:=by kernel_rfl
theorem qgR:ZaS X qgL X23:=Zhd (ZgI xok qgN qgJ q5 12) fun x _ h=>((qgQ x).trans (X5L x).symm).trans h
def qgS {R:Type}:Prs S R:=PE.ps X qgL (fun x q=>(X23 x).bind q) qgI
theorem qgT {R:Type}:Z7N X (qgS (R:=R)):=Zh4 (e:=qgL) qgR qgJ
def qgW:PE S:=⟨44,1,q8z,[(.st 20),(.lst (.st 21)),.en,(.mp (.st 23) (.int .i64))],[q67]⟩
def qh1:Key:=⟨[44],44,none,[0,0,1,0,1],0,9⟩
def qh2:StT S:=⟨(N v1M (some (.ptr 1 0)) (N (N L none (N L vU L)) vU (N (N L vQ L) none L))),(N (N L o4 L) or L),9⟩
def qh3:Way S:=⟨(.exit 0),⟨(N L none (N L vU L)),(N (N L o4 L) or L),10⟩,[.int,(.st 20),(.lst (.st 21)),.en,(.mp (.st 23) (.int .i64))]⟩
def qh4:LE S:=⟨qh1,qh2,[.int,.int,.int,(.lst (.st 21)),(.st 20),(.lst (.st 21)),.en,(.mp (.st 23) (.int .i64))],[qh3]⟩
def qh5 (x:tr):Int→tO:=fun y0=>(y0,x.2.2.2.2.1,x.2.2.2.2.2.1,x.2.2.2.2.2.2.1,x.2.2.2.2.2.2.2)
def qh6 {R:Type} (x:tr) (k:tO→Option R):Option R:=(X1m x.1 x.2.2.2.1 x.2.2.2.2.1 x.2.2.2.2.2.2.1 (x.2.1,x.2.2.1)).bind (fun y0=>k (y0,x.2.2.2.2.1,x.2.2.2.2.2.1,x.2.2.2.2.2.2.1,x.2.2.2.2.2.2.2))
def qh7 (x:tr) (v:(Int×Int)):tr:=(x.1,v.1,v.2,x.2.2.2.1,x.2.2.2.2.1,x.2.2.2.2.2.1,x.2.2.2.2.2.2.1,x.2.2.2.2.2.2.2)
theorem qh8 (x:tr):LE.step X qh4 q2 qgS q4 12 x=Xg x.1 x.2.2.2.1 x.2.2.2.2.1 x.2.2.2.2.2.2.1 x.2.1 x.2.2.1 (fun w0 w1=>(Sum.inl (x.1,w0,w1,x.2.2.2.1,x.2.2.2.2.1,x.2.2.2.2.2.1,x.2.2.2.2.2.2.1,x.2.2.2.2.2.2.2))) (fun p0=>(Sum.inr (p0,x.2.2.2.2.1,x.2.2.2.2.2.1,x.2.2.2.2.2.2.1,x.2.2.2.2.2.2.2))):=by kernel_rfl
theorem qha {R:Type} (x:tr) (k:tO→Option R) (r:R) (h:qh6 x k=some r):∃ o,Z5p (LE.step X qh4 q2 qgS q4 12) x o∧k o=some r:=by
 obtain ⟨o,h1,h2⟩:=Z0 h
 exact ⟨qh5 x o,Zh7 (st:=fun (x:tr)=>Xc x.1 x.2.2.2.1 x.2.2.2.2.1 x.2.2.2.2.2.2.1) (prj:=fun x=>(x.2.1,x.2.2.1)) (emb:=qh7) (embO:=qh5) (fun x=>(qh8 x).trans (by unfold Xc Xg;simp only [ZgZ,ZgU,Zh0,Option.map_some,Option.map_none];rfl)) (fun _ _=>rfl) (fun _ _=>rfl) (fun _ _ _=>rfl) (fun _ _ _=>rfl) (fun _=>rfl) (Z1Q.1 h1),by first|exact h2|(rcases o with o<;>exact h2)⟩
def qhb {R:Type}:Z2t S R:=LE.ls X qh4 qh6 q4
theorem qhc {R:Type}:Z3J X (qhb (R:=R)):=Zhc xok qgN (e:=qh4) qgT q5 qha q5
theorem qhd (x:tU):PE.step X qgW q2 qgS qhb 12 x=XE x.1 x.2.1 x.2.2.1 x.2.2.2:=by kernel_rfl
theorem qhe:ZaS X qgW WR:=Zhd (ZgI xok qgN qgT qhc 12) fun x _ h=>((qhd x).trans (X3N x).symm).trans h
def qhf {R:Type}:Prs S R:=PE.ps X qgW (fun x q=>(WR x).bind q) qgS
theorem qhg {R:Type}:Z7N X (qhf (R:=R)):=Zh4 (e:=qgW) qhe qgT
def qhj:PE S:=⟨46,2,q5V,[.int,(.st 20),(.lst (.st 21)),.en,(.mp (.st 23) (.int .i64))],[q5W]⟩
def qho:Key:=⟨[108,0,46],108,none,[0,0,1,0,0,1,0,0,1],2,44⟩
def qhp:StT S:=⟨(N (N (N L vU L) (some (.ptr 18 0)) L) (some (.yld 22)) (N (N L vU L) none L)),o1b,44⟩
def qhq:Way S:=⟨.ret,⟨L,oV,94⟩,[.int,(.st 20),(.lst (.st 21)),.en,(.arr (.st 5)),(.st 2),(.mp (.st 23) (.int .i64)),.bool,.int,.int]⟩
def qhr:Way S:=⟨(.exit 2),⟨v1t,o1b,51⟩,[.int,.int,(.st 20),(.lst (.st 21)),.en,(.mp (.st 23) (.int .i64)),.bool,.int,.int]⟩
def qhs:LE S:=⟨qho,qhp,[.int,.int,.int,(.st 20),(.lst (.st 21)),.en,(.mp (.st 23) (.int .i64)),.bool,.int,.int],[qhq,qhr]⟩
def qht (x:tp):((ZI×(List Zl)×(Nat→Nat)×(Nat→ZE)×Zu×t1v×Bool)⊕tU)→t5:=Sum.elim (fun y0=>(.inl (x.2.2.1,y0.1,y0.2.1,y0.2.2.1,y0.2.2.2.1,y0.2.2.2.2.1,y0.2.2.2.2.2.1,y0.2.2.2.2.2.2,x.2.2.2.2.2.2.2.2.1,x.2.2.2.2.2.2.2.2.2))) (fun y1=>(.inr (x.1,x.2.2.1,y1.1,y1.2.1,y1.2.2.1,y1.2.2.2,x.2.2.2.2.2.2.2.1,x.2.2.2.2.2.2.2.2.1,x.2.2.2.2.2.2.2.2.2)))
def qhu {R:Type} (x:tp) (k:t5→Option R):Option R:=(XJ x.1 x.2.2.1 x.2.2.2.2.2.2.2.2.2 (x.2.1,x.2.2.2.1,x.2.2.2.2.1,x.2.2.2.2.2.1,x.2.2.2.2.2.2.1)).bind (Sum.elim (fun y0=>k (.inl (x.2.2.1,y0.1,y0.2.1,y0.2.2.1,y0.2.2.2.1,y0.2.2.2.2.1,y0.2.2.2.2.2.1,y0.2.2.2.2.2.2,x.2.2.2.2.2.2.2.2.1,x.2.2.2.2.2.2.2.2.2))) (fun y1=>k (.inr (x.1,x.2.2.1,y1.1,y1.2.1,y1.2.2.1,y1.2.2.2,x.2.2.2.2.2.2.2.1,x.2.2.2.2.2.2.2.2.1,x.2.2.2.2.2.2.2.2.2))))
def qhv (x:tp) (v:tO):tp:=(x.1,v.1,x.2.2.1,v.2.1,v.2.2.1,v.2.2.2.1,v.2.2.2.2,x.2.2.2.2.2.2.2.1,x.2.2.2.2.2.2.2.2.1,x.2.2.2.2.2.2.2.2.2)
theorem qhw (x:tp):LE.step X qhs q76 qhf q4 12 x=Xf x.1 x.2.2.1 x.2.2.2.2.2.2.2.2.2 x.2.1 x.2.2.2.1 x.2.2.2.2.1 x.2.2.2.2.2.1 x.2.2.2.2.2.2.1 (fun w0 w1 w2 w3 w4=>(Sum.inl (x.1,w0,x.2.2.1,w1,w2,w3,w4,x.2.2.2.2.2.2.2.1,x.2.2.2.2.2.2.2.2.1,x.2.2.2.2.2.2.2.2.2))) (fun p0 p1 p2 p3 p4 p5 p6=>(Sum.inr (.inl (x.2.2.1,p0,p1,p2,p3,p4,p5,p6,x.2.2.2.2.2.2.2.2.1,x.2.2.2.2.2.2.2.2.2)))) (fun p0 p1 p2 p3=>(Sum.inr (.inr (x.1,x.2.2.1,p0,p1,p2,p3,x.2.2.2.2.2.2.2.1,x.2.2.2.2.2.2.2.2.1,x.2.2.2.2.2.2.2.2.2)))):=by kernel_rfl
theorem qhy {R:Type} (x:tp) (k:t5→Option R) (r:R) (h:qhu x k=some r):∃ o,Z5p (LE.step X qhs q76 qhf q4 12) x o∧k o=some r:=by
 obtain ⟨o,h1,h2⟩:=Z0 h
 exact ⟨qht x o,Zh7 (st:=fun (x:tp)=>Xa x.1 x.2.2.1 x.2.2.2.2.2.2.2.2.2) (prj:=fun x=>(x.2.1,x.2.2.2.1,x.2.2.2.2.1,x.2.2.2.2.2.1,x.2.2.2.2.2.2.1)) (emb:=qhv) (embO:=qht) (fun x=>(qhw x).trans (by unfold Xa Xf;simp only [ZgZ,ZgU,Zh0,Option.map_some,Option.map_none];rfl)) (fun _ _=>rfl) (fun _ _=>rfl) (fun _ _ _=>rfl) (fun _ _ _=>rfl) (fun _=>rfl) (Z1Q.1 h1),by first|exact h2|(rcases o with o|o<;>exact h2)⟩
def qhz {R:Type}:Z2t S R:=LE.ls X qhs qhu q4
theorem qhA {R:Type}:Z3J X (qhz (R:=R)):=Zhc xok q77 (e:=qhs) qhg q5 qhy q5
def qhB:Key:=⟨[108,0,46],108,none,[0,0,1],0,30⟩
def qhC:StT S:=⟨v1t,o1b,30⟩
def qhE:Way S:=⟨(.exit 0),⟨L,o1b,37⟩,[.int,(.st 20),(.lst (.st 21)),.en,(.mp (.st 23) (.int .i64)),.bool,.int,.int]⟩
def qhF:LE S:=⟨qhB,qhC,[.int,.int,(.st 20),(.lst (.st 21)),.en,(.mp (.st 23) (.int .i64)),.bool,.int,.int],[qhq,qhE]⟩
def qhG (x:ts):((ZI×(List Zl)×(Nat→Nat)×(Nat→ZE)×Zu×t1v×Bool)⊕tU)→t7:=Sum.elim (fun y0=>(.inl (x.2.1,y0.1,y0.2.1,y0.2.2.1,y0.2.2.2.1,y0.2.2.2.2.1,y0.2.2.2.2.2.1,y0.2.2.2.2.2.2,x.2.2.2.2.2.2.2.1,x.2.2.2.2.2.2.2.2))) (fun y1=>(.inr (x.2.1,y1.1,y1.2.1,y1.2.2.1,y1.2.2.2,x.2.2.2.2.2.2.1,x.2.2.2.2.2.2.2.1,x.2.2.2.2.2.2.2.2)))
def qhH {R:Type} (x:ts) (k:t7→Option R):Option R:=(X1b x.2.1 x.2.2.2.2.2.2.2.2 (x.1,x.2.2.1,x.2.2.2.1,x.2.2.2.2.1,x.2.2.2.2.2.1)).bind (Sum.elim (fun y0=>k (.inl (x.2.1,y0.1,y0.2.1,y0.2.2.1,y0.2.2.2.1,y0.2.2.2.2.1,y0.2.2.2.2.2.1,y0.2.2.2.2.2.2,x.2.2.2.2.2.2.2.1,x.2.2.2.2.2.2.2.2))) (fun y1=>k (.inr (x.2.1,y1.1,y1.2.1,y1.2.2.1,y1.2.2.2,x.2.2.2.2.2.2.1,x.2.2.2.2.2.2.2.1,x.2.2.2.2.2.2.2.2))))
def qhI (x:ts) (v:tO):ts:=(v.1,x.2.1,v.2.1,v.2.2.1,v.2.2.2.1,v.2.2.2.2,x.2.2.2.2.2.2.1,x.2.2.2.2.2.2.2.1,x.2.2.2.2.2.2.2.2)
theorem qhJ (x:ts):LE.step X qhF q76 qhf qhz 12 x=Xe x.2.1 x.2.2.2.2.2.2.2.2 x.1 x.2.2.1 x.2.2.2.1 x.2.2.2.2.1 x.2.2.2.2.2.1 (fun w0 w1 w2 w3 w4=>(Sum.inl (w0,x.2.1,w1,w2,w3,w4,x.2.2.2.2.2.2.1,x.2.2.2.2.2.2.2.1,x.2.2.2.2.2.2.2.2))) (fun p0 p1 p2 p3 p4 p5 p6=>(Sum.inr (.inl (x.2.1,p0,p1,p2,p3,p4,p5,p6,x.2.2.2.2.2.2.2.1,x.2.2.2.2.2.2.2.2)))) (fun p0 p1 p2 p3=>(Sum.inr (.inr (x.2.1,p0,p1,p2,p3,x.2.2.2.2.2.2.1,x.2.2.2.2.2.2.2.1,x.2.2.2.2.2.2.2.2)))):=by kernel_rfl
theorem qhL {R:Type} (x:ts) (k:t7→Option R) (r:R) (h:qhH x k=some r):∃ o,Z5p (LE.step X qhF q76 qhf qhz 12) x o∧k o=some r:=by
 obtain ⟨o,h1,h2⟩:=Z0 h
 exact ⟨qhG x o,Zh7 (st:=fun (x:ts)=>X9 x.2.1 x.2.2.2.2.2.2.2.2) (prj:=fun x=>(x.1,x.2.2.1,x.2.2.2.1,x.2.2.2.2.1,x.2.2.2.2.2.1)) (emb:=qhI) (embO:=qhG) (fun x=>(qhJ x).trans (by unfold X9 Xe;simp only [ZgZ,ZgU,Zh0,Option.map_some,Option.map_none];rfl)) (fun _ _=>rfl) (fun _ _=>rfl) (fun _ _ _=>rfl) (fun _ _ _=>rfl) (fun _=>rfl) (Z1Q.1 h1),by first|exact h2|(rcases o with o|o<;>exact h2)⟩
def qhM {R:Type}:Z2t S R:=LE.ls X qhF qhH qhz
theorem qhN {R:Type}:Z3J X (qhM (R:=R)):=Zhc xok q77 (e:=qhF) qhg qhA qhL qhA
theorem qhO (x:tO):PE.step X qhj q76 qhf qhM 12 x=Xu x.1 x.2.1 x.2.2.1 x.2.2.2.1 x.2.2.2.2:=by kernel_rfl
theorem qhP:ZaS X qhj Wk:=Zhd (ZgI xok q77 qhg qhN 12) fun x _ h=>((qhO x).trans (X3z x).symm).trans h
def qhQ {R:Type}:Prs S R:=PE.ps X qhj (fun x q=>(Wk x).bind q) qhf
theorem qhR {R:Type}:Z7N X (qhQ (R:=R)):=Zh4 (e:=qhj) qhP qhg
def qhS:StT S:=⟨(N (N (N L (some (.ptr 4 0)) L) vU (N L (some (.ptr 0 0)) L)) vU (N (N L (some (.ptr 1 0)) L) vU L)),o1B,5⟩
def qhT:Way S:=⟨.ret,⟨(N L (some (.tup [(.int .i64 0),(.bool false)])) L),o1B,5⟩,[.int,.bool,(.st 20),(.lst (.st 21)),.en,.int,(.mp (.st 23) (.int .i64))]⟩
def qhU:PE S:=⟨45,6,qhS,[.int,.int,.int,(.st 20),(.lst (.st 21)),.en,.int,(.mp (.st 23) (.int .i64))],[qhT]⟩
abbrev qhX (ih:tw→Option tC) {R:Type}:Z2t S R:=Zg9
theorem qhY (ih:tw→Option tC) (hih:ZaS X qhU ih) {R:Type}:Z3J X (qhX ih (R:=R)):=ZgE X
def qhZ:Key:=⟨[45],45,none,[0,0,1,0,1,1],0,11⟩
def qi0:StT S:=⟨(N (N (N L none (N L vU L)) none (N L (some (.ptr 0 0)) L)) vU (N (N L (some (.ptr 1 0)) L) vU L)),o1B,11⟩
def qi1:Way S:=⟨.ret,⟨(N v1J none v1O),o1B,39⟩,[.int,.bool,(.st 20),(.lst (.st 21)),.en,.int,(.mp (.st 23) (.int .i64))]⟩
def qi2:Way S:=⟨(.exit 0),⟨L,o1B,15⟩,[(.st 20),(.lst (.st 21)),.en,.int,(.mp (.st 23) (.int .i64))]⟩
def qi3:LE S:=⟨qhZ,qi0,[.int,.int,.int,(.st 20),(.lst (.st 21)),.en,.int,(.mp (.st 23) (.int .i64))],[qi1,qi2]⟩
def qi4 (x:tz):tc→tc:=Sum.elim (fun y0=>(.inl (y0.1,y0.2.1,y0.2.2.1,y0.2.2.2.1,y0.2.2.2.2.1,y0.2.2.2.2.2.1,y0.2.2.2.2.2.2))) (fun y1=>(.inr (y1.1,y1.2.1,y1.2.2.1,y1.2.2.2.1,y1.2.2.2.2)))
def qi5 (ih:tw→Option tC) {R:Type} (x:tz) (k:tc→Option R):Option R:=(X42 ih x.2.1 x.2.2.1 (x.1,x.2.2.2.1,x.2.2.2.2.1,x.2.2.2.2.2.1,x.2.2.2.2.2.2.1,x.2.2.2.2.2.2.2)).bind (Sum.elim (fun y0=>k (.inl (y0.1,y0.2.1,y0.2.2.1,y0.2.2.2.1,y0.2.2.2.2.1,y0.2.2.2.2.2.1,y0.2.2.2.2.2.2))) (fun y1=>k (.inr (y1.1,y1.2.1,y1.2.2.1,y1.2.2.2.1,y1.2.2.2.2))))
def qi6 (x:tz) (v:(Int×ZI×(List Zl)×(Nat→Nat)×Int×t1v)):tz:=(v.1,x.2.1,x.2.2.1,v.2.1,v.2.2.1,v.2.2.2.1,v.2.2.2.2.1,v.2.2.2.2.2)
theorem qi7 (ih:tw→Option tC) (x:tz):LE.step X qi3 q76 (PE.ps X qhU (fun x q=>(ih x).bind q) qhQ) (qhX ih) 12 x=XM ih x.2.1 x.2.2.1 x.1 x.2.2.2.1 x.2.2.2.2.1 x.2.2.2.2.2.1 x.2.2.2.2.2.2.1 x.2.2.2.2.2.2.2 (fun w0 w1 w2 w3 w4 w5=>(Sum.inl (w0,x.2.1,x.2.2.1,w1,w2,w3,w4,w5))) (fun p0 p1 p2 p3 p4 p5 p6=>(Sum.inr (.inl (p0,p1,p2,p3,p4,p5,p6)))) (fun p0 p1 p2 p3 p4=>(Sum.inr (.inr (p0,p1,p2,p3,p4)))):=by kernel_rfl
theorem qi9 (ih:tw→Option tC) {R:Type} (x:tz) (k:tc→Option R) (r:R) (h:qi5 ih x k=some r):∃ o,Z5p (LE.step X qi3 q76 (PE.ps X qhU (fun x q=>(ih x).bind q) qhQ) (qhX ih) 12) x o∧k o=some r:=by
 obtain ⟨o,h1,h2⟩:=Z0 h
 exact ⟨qi4 x o,Zh7 (st:=fun (x:tz)=>XA ih x.2.1 x.2.2.1) (prj:=fun x=>(x.1,x.2.2.2.1,x.2.2.2.2.1,x.2.2.2.2.2.1,x.2.2.2.2.2.2.1,x.2.2.2.2.2.2.2)) (emb:=qi6) (embO:=qi4) (fun x=>(qi7 ih x).trans (by unfold XA XM;simp only [ZgZ,ZgU,Zh0,Option.map_some,Option.map_none];rfl)) (fun _ _=>rfl) (fun _ _=>rfl) (fun _ _ _=>rfl) (fun _ _ _=>rfl) (fun _=>rfl) (Z1Q.1 h1),by first|exact h2|(rcases o with o|o<;>exact h2)⟩
def qia (ih:tw→Option tC) {R:Type}:Z2t S R:=LE.ls X qi3 (qi5 ih) (qhX ih)
theorem qib (ih:tw→Option tC) (hih:ZaS X qhU ih) {R:Type}:Z3J X (qia ih (R:=R)):=Zhc xok q77 (e:=qi3) (Zh4 (e:=qhU) hih qhR) (qhY ih hih) (qi9 ih) (qhY ih hih)
theorem qic (ih:tw→Option tC) (x:tz):PE.step X qhU q76 (PE.ps X qhU (fun x q=>(ih x).bind q) qhQ) (qia ih) 12 x=X2m ih x.1 x.2.1 x.2.2.1 x.2.2.2.1 x.2.2.2.2.1 x.2.2.2.2.2.1 x.2.2.2.2.2.2.1 x.2.2.2.2.2.2.2:=by kernel_rfl
theorem qid:ZaS X qhU X2I:=Zh5 (X:=X) (e:=qhU) (t:=Xi) fun ih hih=>Zhd (ZgI xok q77 (Zh4 (e:=qhU) hih qhR) (qib ih hih) 12) fun x _ h=>(qic ih x).trans h
def qie {R:Type}:Prs S R:=PE.ps X qhU (fun x q=>(X2I x).bind q) qhQ
theorem qif {R:Type}:Z7N X (qie (R:=R)):=Zh4 (e:=qhU) qid qhR
def qig:List (Nat×F7 S):=[(29,q4C),(57,q37),(82,q53),(110,q5T)]
theorem qih:Z9h X (qig):=⟨q4D,q38,q54,q5U,trivial⟩
def qik:Key:=⟨[15],15,none,[0,0,1,0,1,1,1,1,1,1,1],0,32⟩
def qil:StT S:=⟨(N (N (N L none (N L vU L)) none (N (N L vU L) (some .nils) (N L vU L))) none (N (N L (some .nils) (N L vT L)) (some (.ptr 0 0)) (N (N L (some (.ptr 26 0)) L) none L))),o14,32⟩
def qim:Way S:=⟨(.exit 0),⟨(N (N (N L none (N L vU L)) none (N (N L vU L) (some .nils) L)) none (N (N L (some .nils) L) (some (.ptr 0 0)) L)),o14,34⟩,[.int,.int,.int,(.mp (.st 23) (.int .i64)),(.st 20),(.st 20),(.lst (.st 21)),.en]⟩
def qin:LE S:=⟨qik,qil,[.int,.int,.int,.bool,.int,(.mp (.st 23) (.int .i64)),(.st 20),(.st 20),(.lst (.st 21)),.en],[qim]⟩
def qio (x:to):(Int×Int×t1v×ZI×(List Zl)×(Nat→Nat))→tx:=fun y0=>(y0.1,x.2.1,y0.2.1,y0.2.2.1,x.2.2.2.2.2.2.1,y0.2.2.2.1,y0.2.2.2.2.1,y0.2.2.2.2.2)
def qip {R:Type} (x:to) (k:tx→Option R):Option R:=(X2V (x.1,x.2.2.1,x.2.2.2.1,x.2.2.2.2.1,x.2.2.2.2.2.1,x.2.2.2.2.2.2.2.1,x.2.2.2.2.2.2.2.2.1,x.2.2.2.2.2.2.2.2.2)).bind (fun y0=>k (y0.1,x.2.1,y0.2.1,y0.2.2.1,x.2.2.2.2.2.2.1,y0.2.2.2.1,y0.2.2.2.2.1,y0.2.2.2.2.2))
def qiq (x:to) (v:(Int×Int×Bool×Int×t1v×ZI×(List Zl)×(Nat→Nat))):to:=(v.1,x.2.1,v.2.1,v.2.2.1,v.2.2.2.1,v.2.2.2.2.1,x.2.2.2.2.2.2.1,v.2.2.2.2.2.1,v.2.2.2.2.2.2.1,v.2.2.2.2.2.2.2)
theorem qir (x:to):LE.step X qin qig qie q4 12 x=X1P x.1 x.2.2.1 x.2.2.2.1 x.2.2.2.2.1 x.2.2.2.2.2.1 x.2.2.2.2.2.2.2.1 x.2.2.2.2.2.2.2.2.1 x.2.2.2.2.2.2.2.2.2 (fun w0 w1 w2 w3 w4 w5 w6 w7=>(Sum.inl (w0,x.2.1,w1,w2,w3,w4,x.2.2.2.2.2.2.1,w5,w6,w7))) (fun p0 p1 p2 p3 p4 p5=>(Sum.inr (p0,x.2.1,p1,p2,x.2.2.2.2.2.2.1,p3,p4,p5))):=by kernel_rfl
theorem qit {R:Type} (x:to) (k:tx→Option R) (r:R) (h:qip x k=some r):∃ o,Z5p (LE.step X qin qig qie q4 12) x o∧k o=some r:=by
 obtain ⟨o,h1,h2⟩:=Z0 h
 exact ⟨qio x o,Zh7 (st:=fun (x:to)=>X2t) (prj:=fun x=>(x.1,x.2.2.1,x.2.2.2.1,x.2.2.2.2.1,x.2.2.2.2.2.1,x.2.2.2.2.2.2.2.1,x.2.2.2.2.2.2.2.2.1,x.2.2.2.2.2.2.2.2.2)) (emb:=qiq) (embO:=qio) (fun x=>(qir x).trans (by unfold X2t X1P;simp only [ZgZ,ZgU,Zh0,Option.map_some,Option.map_none];rfl)) (fun _ _=>rfl) (fun _ _=>rfl) (fun _ _ _=>rfl) (fun _ _ _=>rfl) (fun _=>rfl) (Z1Q.1 h1),by first|exact h2|(rcases o with o<;>exact h2)⟩
def qiu {R:Type}:Z2t S R:=LE.ls X qin qip q4
theorem qiv {R:Type}:Z3J X (qiu (R:=R)):=Zhc xok qih (e:=qin) qif q5 qit q5
def qiw:Key:=⟨[15],15,none,[0,0,1,0,1,1,1,1,1,1,1,1],2,40⟩
def qix:StT S:=⟨(N (N (N L none (N L vU L)) none (N (N L vU L) (some (.rs 41 0)) v1J)) none (N (N L (some (.rs 40 0)) L) none (N L none v1J))),oZ,42⟩
def qiy:Way S:=⟨(.exit 2),⟨(N v1E none (N (N L (some (.rs 40 0)) L) none L)),oZ,43⟩,[.int,(.lst (.int .i64)),(.mp (.st 23) (.int .i64)),(.st 20),(.lst (.int .i64)),(.st 20),(.lst (.st 21)),.en]⟩
def qiz:LE S:=⟨qiw,qix,[.int,.int,.int,.int,.int,(.lst (.int .i64)),(.mp (.st 23) (.int .i64)),(.st 20),(.lst (.int .i64)),(.st 20),(.lst (.st 21)),.en],[qiy]⟩
def qiA (x:ti):((List Int)×(List Int))→tn:=fun y0=>(x.2.2.2.2.1,y0.1,x.2.2.2.2.2.2.1,x.2.2.2.2.2.2.2.1,y0.2,x.2.2.2.2.2.2.2.2.2.1,x.2.2.2.2.2.2.2.2.2.2.1,x.2.2.2.2.2.2.2.2.2.2.2)
def qiB {R:Type} (x:ti) (k:tn→Option R):Option R:=(X4b x.1 x.2.1 x.2.2.1 (x.2.2.2.1,x.2.2.2.2.2.1,x.2.2.2.2.2.2.2.2.1)).bind (fun y0=>k (x.2.2.2.2.1,y0.1,x.2.2.2.2.2.2.1,x.2.2.2.2.2.2.2.1,y0.2,x.2.2.2.2.2.2.2.2.2.1,x.2.2.2.2.2.2.2.2.2.2.1,x.2.2.2.2.2.2.2.2.2.2.2))
def qiC (x:ti) (v:t1m):ti:=(x.1,x.2.1,x.2.2.1,v.1,x.2.2.2.2.1,v.2.1,x.2.2.2.2.2.2.1,x.2.2.2.2.2.2.2.1,v.2.2,x.2.2.2.2.2.2.2.2.2.1,x.2.2.2.2.2.2.2.2.2.2.1,x.2.2.2.2.2.2.2.2.2.2.2)
theorem qiD (x:ti):LE.step X qiz qig qie qiu 12 x=X1Q x.1 x.2.1 x.2.2.1 x.2.2.2.1 x.2.2.2.2.2.1 x.2.2.2.2.2.2.2.2.1 (fun w0 w1 w2=>(Sum.inl (x.1,x.2.1,x.2.2.1,w0,x.2.2.2.2.1,w1,x.2.2.2.2.2.2.1,x.2.2.2.2.2.2.2.1,w2,x.2.2.2.2.2.2.2.2.2.1,x.2.2.2.2.2.2.2.2.2.2.1,x.2.2.2.2.2.2.2.2.2.2.2))) (fun p0 p1=>(Sum.inr (x.2.2.2.2.1,p0,x.2.2.2.2.2.2.1,x.2.2.2.2.2.2.2.1,p1,x.2.2.2.2.2.2.2.2.2.1,x.2.2.2.2.2.2.2.2.2.2.1,x.2.2.2.2.2.2.2.2.2.2.2))):=by kernel_rfl
theorem qiF {R:Type} (x:ti) (k:tn→Option R) (r:R) (h:qiB x k=some r):∃ o,Z5p (LE.step X qiz qig qie qiu 12) x o∧k o=some r:=by
 obtain ⟨o,h1,h2⟩:=Z0 h
 exact ⟨qiA x o,Zh7 (st:=fun (x:ti)=>X1K x.1 x.2.1 x.2.2.1) (prj:=fun x=>(x.2.2.2.1,x.2.2.2.2.2.1,x.2.2.2.2.2.2.2.2.1)) (emb:=qiC) (embO:=qiA) (fun x=>(qiD x).trans (by unfold X1K X1Q;simp only [ZgZ,ZgU,Zh0,Option.map_some,Option.map_none];rfl)) (fun _ _=>rfl) (fun _ _=>rfl) (fun _ _ _=>rfl) (fun _ _ _=>rfl) (fun _=>rfl) (Z1Q.1 h1),by first|exact h2|(rcases o with o<;>exact h2)⟩
def qiG {R:Type}:Z2t S R:=LE.ls X qiz qiB qiu
theorem qiH {R:Type}:Z3J X (qiG (R:=R)):=Zhc xok qih (e:=qiz) qif qiv qiF qiv
theorem qiI (x0:ZI) (x1:List Zl):Zhe X qig [(.st 20),(.sl (.st 21))] [(.sl (.int .i64)),(.sl (.int .i64)),(.int .i64)] qie qiG 12 15 (x0,x1,())=X3c x0 x1:=by kernel_rfl
def qiJ:F7 S:=⟨[(.st 20),(.sl (.st 21))],[(.sl (.int .i64)),(.sl (.int .i64)),(.int .i64)],fun xs=>X6y xs.1 xs.2.1⟩
theorem qiK:Z97 X 15 qiJ:=Zhb (Zha xok qih qif qiH 12 15) fun xs _ h=>((qiI xs.1 xs.2.1).trans (X74 xs.1 xs.2.1).symm).trans h
def qiP:Key:=⟨[84],84,none,[0,0,1,0,1,1,1],0,9⟩
def qiQ:StT S:=⟨(N (N (N L vU L) none L) vL (N (N L vU L) none L)),L,9⟩
def qiR:Way S:=⟨(.exit 0),⟨v1I,L,13⟩,[.int]⟩
def qiS:LE S:=⟨qiP,qiQ,[.int,(.lst (.int .i64)),.int],[qiR]⟩
def qiT (x:t1u):Int→Int:=fun y0=>y0
def qiU {R:Type} (x:t1u) (k:Int→Option R):Option R:=(X35 x.2.1 (x.1,x.2.2)).bind (fun y0=>k y0)
def qiV (x:t1u) (v:(Int×Int)):t1u:=(v.1,x.2.1,v.2)
theorem qiW (x:t1u):LE.step X qiS q2 qie q4 12 x=X1x x.2.1 x.1 x.2.2 (fun w0 w1=>(Sum.inl (w0,x.2.1,w1))) (fun p0=>(Sum.inr p0)):=by kernel_rfl
theorem qiY {R:Type} (x:t1u) (k:Int→Option R) (r:R) (h:qiU x k=some r):∃ o,Z5p (LE.step X qiS q2 qie q4 12) x o∧k o=some r:=by
 obtain ⟨o,h1,h2⟩:=Z0 h
 exact ⟨qiT x o,Zh7 (st:=fun (x:t1u)=>X1X x.2.1) (prj:=fun x=>(x.1,x.2.2)) (emb:=qiV) (embO:=qiT) (fun x=>(qiW x).trans (by unfold X1X X1x;simp only [ZgZ,ZgU,Zh0,Option.map_some,Option.map_none];rfl)) (fun _ _=>rfl) (fun _ _=>rfl) (fun _ _ _=>rfl) (fun _ _ _=>rfl) (fun _=>rfl) (Z1Q.1 h1),by first|exact h2|(rcases o with o<;>exact h2)⟩
def qiZ {R:Type}:Z2t S R:=LE.ls X qiS qiU q4
theorem qj0 {R:Type}:Z3J X (qiZ (R:=R)):=Zhc xok q3 (e:=qiS) qif q5 qiY q5
theorem qj1 (x0:List Int):Zhe X q2 [(.sl (.int .i64))] [(.int .i64)] qie qiZ 12 84 (x0,())=X1c x0:=by kernel_rfl
def qj2:F7 S:=⟨[(.sl (.int .i64))],[(.int .i64)],fun xs=>X3w xs.1⟩
theorem qj3:Z97 X 84 qj2:=Zhb (Zha xok q3 qif qj0 12 84) fun xs _ h=>((qj1 xs.1).trans (X68 xs.1).symm).trans h
def qj4:StT S:=⟨(N (N (N L vU L) vR L) (some (.ptr 1 0)) (N L vU L)),(N (N L o4 L) or L),2⟩
def qj6:PE S:=⟨50,4,qj4,[.int,(.lst (.st 2)),.int,(.st 20),(.lst (.st 21)),.en,(.mp (.st 23) (.int .i64))],[q67]⟩
def qj7:List (Nat×F7 S):=[(110,q5T),(57,q37),(84,qj2)]
theorem qj8:Z9h X qj7:=⟨q5U,q38,qj3,trivial⟩
def qjb:Key:=⟨[50],50,none,[0,0,1,1,1,1,1,0,0,1,1,0,0,1,0,1,1],2,39⟩
def qjc:StT S:=⟨(N (N (N L vU v1J) none (N (N (N L vU L) (some (.ptr 3 0)) L) none L)) (some (.ptr 1 0)) (N (N (N (N L vR L) none L) none (N L (some (.ptr 18 0)) (N (N L vU L) none L))) vU (N (N (N L vU L) none L) none (N L vU L)))),o1n,39⟩
def qjd:Way S:=⟨(.exit 2),⟨v10,o1n,40⟩,[.int,.int,(.lst (.st 2)),.int,.int,(.arr (.int .i64)),(.st 20),(.lst (.st 21)),.en,(.mp (.st 23) (.int .i64)),(.arr (.st 5)),(.st 2)]⟩
def qje:LE S:=⟨qjb,qjc,[.int,.int,.int,(.lst (.st 2)),.int,.int,.int,.int,(.arr (.int .i64)),(.st 20),(.lst (.st 21)),.en,(.mp (.st 23) (.int .i64)),(.arr (.st 5)),(.st 2)],[qjd]⟩
def qjf (x:td):(Nat→Int)→te:=fun y0=>(x.1,x.2.2.1,x.2.2.2.1,x.2.2.2.2.2.1,x.2.2.2.2.2.2.1,y0,x.2.2.2.2.2.2.2.2.2.1,x.2.2.2.2.2.2.2.2.2.2.1,x.2.2.2.2.2.2.2.2.2.2.2.1,x.2.2.2.2.2.2.2.2.2.2.2.2.1,x.2.2.2.2.2.2.2.2.2.2.2.2.2.1,x.2.2.2.2.2.2.2.2.2.2.2.2.2.2)
def qjg {R:Type} (x:td) (k:te→Option R):Option R:=(X3e x.1 x.2.1 x.2.2.1 x.2.2.2.1 x.2.2.2.2.2.1 x.2.2.2.2.2.2.1 x.2.2.2.2.2.2.2.1 x.2.2.2.2.2.2.2.2.2.1 x.2.2.2.2.2.2.2.2.2.2.1 x.2.2.2.2.2.2.2.2.2.2.2.1 x.2.2.2.2.2.2.2.2.2.2.2.2.1 x.2.2.2.2.2.2.2.2.2.2.2.2.2.1 x.2.2.2.2.2.2.2.2.2.2.2.2.2.2 (x.2.2.2.2.1,x.2.2.2.2.2.2.2.2.1)).bind (fun y0=>k (x.1,x.2.2.1,x.2.2.2.1,x.2.2.2.2.2.1,x.2.2.2.2.2.2.1,y0,x.2.2.2.2.2.2.2.2.2.1,x.2.2.2.2.2.2.2.2.2.2.1,x.2.2.2.2.2.2.2.2.2.2.2.1,x.2.2.2.2.2.2.2.2.2.2.2.2.1,x.2.2.2.2.2.2.2.2.2.2.2.2.2.1,x.2.2.2.2.2.2.2.2.2.2.2.2.2.2))
def qjh (x:td) (v:(Int×(Nat→Int))):td:=(x.1,x.2.1,x.2.2.1,x.2.2.2.1,v.1,x.2.2.2.2.2.1,x.2.2.2.2.2.2.1,x.2.2.2.2.2.2.2.1,v.2,x.2.2.2.2.2.2.2.2.2.1,x.2.2.2.2.2.2.2.2.2.2.1,x.2.2.2.2.2.2.2.2.2.2.2.1,x.2.2.2.2.2.2.2.2.2.2.2.2.1,x.2.2.2.2.2.2.2.2.2.2.2.2.2.1,x.2.2.2.2.2.2.2.2.2.2.2.2.2.2)
theorem qji (x:td):LE.step X qje qj7 qie q4 12 x=X1C x.1 x.2.1 x.2.2.1 x.2.2.2.1 x.2.2.2.2.2.1 x.2.2.2.2.2.2.1 x.2.2.2.2.2.2.2.1 x.2.2.2.2.2.2.2.2.2.1 x.2.2.2.2.2.2.2.2.2.2.1 x.2.2.2.2.2.2.2.2.2.2.2.1 x.2.2.2.2.2.2.2.2.2.2.2.2.1 x.2.2.2.2.2.2.2.2.2.2.2.2.2.1 x.2.2.2.2.2.2.2.2.2.2.2.2.2.2 x.2.2.2.2.1 x.2.2.2.2.2.2.2.2.1 (fun w0 w1=>(Sum.inl (x.1,x.2.1,x.2.2.1,x.2.2.2.1,w0,x.2.2.2.2.2.1,x.2.2.2.2.2.2.1,x.2.2.2.2.2.2.2.1,w1,x.2.2.2.2.2.2.2.2.2.1,x.2.2.2.2.2.2.2.2.2.2.1,x.2.2.2.2.2.2.2.2.2.2.2.1,x.2.2.2.2.2.2.2.2.2.2.2.2.1,x.2.2.2.2.2.2.2.2.2.2.2.2.2.1,x.2.2.2.2.2.2.2.2.2.2.2.2.2.2))) (fun p0=>(Sum.inr (x.1,x.2.2.1,x.2.2.2.1,x.2.2.2.2.2.1,x.2.2.2.2.2.2.1,p0,x.2.2.2.2.2.2.2.2.2.1,x.2.2.2.2.2.2.2.2.2.2.1,x.2.2.2.2.2.2.2.2.2.2.2.1,x.2.2.2.2.2.2.2.2.2.2.2.2.1,x.2.2.2.2.2.2.2.2.2.2.2.2.2.1,x.2.2.2.2.2.2.2.2.2.2.2.2.2.2))):=by kernel_rfl
theorem qjk {R:Type} (x:td) (k:te→Option R) (r:R) (h:qjg x k=some r):∃ o,Z5p (LE.step X qje qj7 qie q4 12) x o∧k o=some r:=by
 obtain ⟨o,h1,h2⟩:=Z0 h
 exact ⟨qjf x o,Zh7 (st:=fun (x:td)=>X2a x.1 x.2.1 x.2.2.1 x.2.2.2.1 x.2.2.2.2.2.1 x.2.2.2.2.2.2.1 x.2.2.2.2.2.2.2.1 x.2.2.2.2.2.2.2.2.2.1 x.2.2.2.2.2.2.2.2.2.2.1 x.2.2.2.2.2.2.2.2.2.2.2.1 x.2.2.2.2.2.2.2.2.2.2.2.2.1 x.2.2.2.2.2.2.2.2.2.2.2.2.2.1 x.2.2.2.2.2.2.2.2.2.2.2.2.2.2) (prj:=fun x=>(x.2.2.2.2.1,x.2.2.2.2.2.2.2.2.1)) (emb:=qjh) (embO:=qjf) (fun x=>(qji x).trans (by unfold X2a X1C;simp only [ZgZ,ZgU,Zh0,Option.map_some,Option.map_none];rfl)) (fun _ _=>rfl) (fun _ _=>rfl) (fun _ _ _=>rfl) (fun _ _ _=>rfl) (fun _=>rfl) (Z1Q.1 h1),by first|exact h2|(rcases o with o<;>exact h2)⟩
def qjl {R:Type}:Z2t S R:=LE.ls X qje qjg q4
theorem qjm {R:Type}:Z3J X (qjl (R:=R)):=Zhc xok qj8 (e:=qje) qif q5 qjk q5
def qjn:Key:=⟨[50],50,none,[0,0,1,0,1,1],0,7⟩
def qjo:StT S:=⟨v10,(N (N (N L o8 L) o4 L) or L),7⟩
def qjp:Way S:=⟨(.exit 0),⟨(N (N L none v1D) none L),(N (N (N L o8 L) o4 L) or L),8⟩,[(.arr (.int .i64)),(.st 20),(.lst (.st 21)),.en,(.mp (.st 23) (.int .i64))]⟩
def qjq:LE S:=⟨qjn,qjo,[.int,.int,(.lst (.st 2)),.int,.int,(.arr (.int .i64)),(.st 20),(.lst (.st 21)),.en,(.mp (.st 23) (.int .i64))],[qjp]⟩
def qjr (x:tm):tI→tI:=fun y0=>(y0.1,y0.2.1,y0.2.2.1,y0.2.2.2.1,y0.2.2.2.2)
def qjs {R:Type} (x:tm) (k:tI→Option R):Option R:=(X3d x.1 x.2.1 x.2.2.1 x.2.2.2.1 (x.2.2.2.2.1,x.2.2.2.2.2.1,x.2.2.2.2.2.2.1,x.2.2.2.2.2.2.2.1,x.2.2.2.2.2.2.2.2.1,x.2.2.2.2.2.2.2.2.2)).bind (fun y0=>k (y0.1,y0.2.1,y0.2.2.1,y0.2.2.2.1,y0.2.2.2.2))
def qjt (x:tm) (v:(Int×(Nat→Int)×ZI×(List Zl)×(Nat→Nat)×t1v)):tm:=(x.1,x.2.1,x.2.2.1,x.2.2.2.1,v.1,v.2.1,v.2.2.1,v.2.2.2.1,v.2.2.2.2.1,v.2.2.2.2.2)
theorem qju (x:tm):LE.step X qjq qj7 qie qjl 12 x=X1B x.1 x.2.1 x.2.2.1 x.2.2.2.1 x.2.2.2.2.1 x.2.2.2.2.2.1 x.2.2.2.2.2.2.1 x.2.2.2.2.2.2.2.1 x.2.2.2.2.2.2.2.2.1 x.2.2.2.2.2.2.2.2.2 (fun w0 w1 w2 w3 w4 w5=>(Sum.inl (x.1,x.2.1,x.2.2.1,x.2.2.2.1,w0,w1,w2,w3,w4,w5))) (fun p0 p1 p2 p3 p4=>(Sum.inr (p0,p1,p2,p3,p4))):=by kernel_rfl
theorem qjw {R:Type} (x:tm) (k:tI→Option R) (r:R) (h:qjs x k=some r):∃ o,Z5p (LE.step X qjq qj7 qie qjl 12) x o∧k o=some r:=by
 obtain ⟨o,h1,h2⟩:=Z0 h
 exact ⟨qjr x o,Zh7 (st:=fun (x:tm)=>X29 x.1 x.2.1 x.2.2.1 x.2.2.2.1) (prj:=fun x=>(x.2.2.2.2.1,x.2.2.2.2.2.1,x.2.2.2.2.2.2.1,x.2.2.2.2.2.2.2.1,x.2.2.2.2.2.2.2.2.1,x.2.2.2.2.2.2.2.2.2)) (emb:=qjt) (embO:=qjr) (fun x=>(qju x).trans (by unfold X29 X1B;simp only [ZgZ,ZgU,Zh0,Option.map_some,Option.map_none];rfl)) (fun _ _=>rfl) (fun _ _=>rfl) (fun _ _ _=>rfl) (fun _ _ _=>rfl) (fun _=>rfl) (Z1Q.1 h1),by first|exact h2|(rcases o with o<;>exact h2)⟩
def qjx {R:Type}:Z2t S R:=LE.ls X qjq qjs qjl
theorem qjy {R:Type}:Z3J X (qjx (R:=R)):=Zhc xok qj8 (e:=qjq) qif qjm qjw qjm
theorem qjz (x:(Int×(List Zu)×Int×ZI×(List Zl)×(Nat→Nat)×t1v)):PE.step X qj6 qj7 qie qjx 12 x=X1y x.1 x.2.1 x.2.2.1 x.2.2.2.1 x.2.2.2.2.1 x.2.2.2.2.2.1 x.2.2.2.2.2.2:=by kernel_rfl
theorem qjA:ZaS X qj6 X3H:=Zhd (ZgI xok qj8 qif qjy 12) fun x _ h=>((qjz x).trans (X6c x).symm).trans h
def qjB {R:Type}:Prs S R:=PE.ps X qj6 (fun x q=>(X3H x).bind q) qie
theorem qjC {R:Type}:Z7N X (qjB (R:=R)):=Zh4 (e:=qj6) qjA qif
def qjH:Key:=⟨[17],17,none,[0,0,1,0,1,1],0,7⟩
def qjI:StT S:=⟨(N (N L vL (N L vU L)) vL L),L,7⟩
def qjJ:Way S:=⟨.ret,⟨v1O,L,21⟩,[.bool]⟩
def qjK:Way S:=⟨(.exit 0),⟨L,L,11⟩,[]⟩
def qjL:LE S:=⟨qjH,qjI,[(.lst (.int .i64)),.int,(.lst (.int .i64))],[qjJ,qjK]⟩
def qjM (x:t1n):(Bool⊕Unit)→(Bool⊕Unit):=Sum.elim (fun y0=>(.inl y0)) (fun y1=>(.inr ()))
def qjN {R:Type} (x:t1n) (k:(Bool⊕Unit)→Option R):Option R:=(X3V x.1 x.2.2 x.2.1).bind (Sum.elim (fun y0=>k (.inl y0)) (fun y1=>k (.inr ())))
def qjO (x:t1n) (v:Int):t1n:=(x.1,v,x.2.2)
theorem qjP (x:t1n):LE.step X qjL q2 qjB q4 12 x=X1r x.1 x.2.2 x.2.1 (fun w0=>(Sum.inl (x.1,w0,x.2.2))) (fun p0=>(Sum.inr (.inl p0))) (Sum.inr (.inr ())):=by kernel_rfl
theorem qjR {R:Type} (x:t1n) (k:(Bool⊕Unit)→Option R) (r:R) (h:qjN x k=some r):∃ o,Z5p (LE.step X qjL q2 qjB q4 12) x o∧k o=some r:=by
 obtain ⟨o,h1,h2⟩:=Z0 h
 exact ⟨qjM x o,Zh7 (st:=fun (x:t1n)=>X1e x.1 x.2.2) (prj:=fun x=>x.2.1) (emb:=qjO) (embO:=qjM) (fun x=>(qjP x).trans (by unfold X1e X1r;simp only [ZgZ,ZgU,Zh0,Option.map_some,Option.map_none];rfl)) (fun _ _=>rfl) (fun _ _=>rfl) (fun _ _ _=>rfl) (fun _ _ _=>rfl) (fun _=>rfl) (Z1Q.1 h1),by first|exact h2|(rcases o with o|o<;>exact h2)⟩
def qjS {R:Type}:Z2t S R:=LE.ls X qjL qjN q4
theorem qjT {R:Type}:Z3J X (qjS (R:=R)):=Zhc xok q3 (e:=qjL) qjC q5 qjR q5
theorem qjU (x0:List Int) (x1:List Int):Zhe X q2 [(.sl (.int .i64)),(.sl (.int .i64))] [.bool] qjB qjS 12 17 (x0,x1,())=X4c x0 x1:=by kernel_rfl
def qjV:F7 S:=⟨[(.sl (.int .i64)),(.sl (.int .i64))],[.bool],fun xs=>X4c xs.1 xs.2.1⟩
theorem qjW:Z97 X 17 qjV:=Zhb (Zha xok q3 qjC qjT 12 17) fun xs _ h=>(qjU xs.1 xs.2.1).trans h
def qjX:F7 S:=⟨[],[.bool],fun _=>X7p⟩
theorem qjY:Z97 X 14 qjX:=ZeH (X:=X) (F:=X7p) rfl Zdq
def qk3:Key:=⟨[81],81,none,[0,0,1,0,1,1],0,8⟩
def qk4:StT S:=⟨(N (N v1G vQ L) none (N (N (N L vU L) none L) vU L)),(N L oe L),8⟩
def qk5:Way S:=⟨.ret,⟨(N L none (N L none (N L vT L))),(N L oe L),44⟩,[.bool,(.st 20)]⟩
def qk6:Way S:=⟨(.exit 0),⟨L,(N L oe L),12⟩,[(.st 20)]⟩
def qk7:LE S:=⟨qk3,qk4,[.int,(.lst (.st 21)),.int,.int,(.st 20)],[qk5,qk6]⟩
def qk8 (x:t17):(Bool⊕Unit)→((Bool×ZI)⊕ZI):=Sum.elim (fun y0=>(.inl (y0,x.2.2.2.2))) (fun y1=>(.inr x.2.2.2.2))
def qk9 {R:Type} (x:t17) (k:((Bool×ZI)⊕ZI)→Option R):Option R:=(X40 x.1 x.2.1 x.2.2.2.1 x.2.2.2.2 x.2.2.1).bind (Sum.elim (fun y0=>k (.inl (y0,x.2.2.2.2))) (fun y1=>k (.inr x.2.2.2.2)))
def qka (x:t17) (v:Int):t17:=(x.1,x.2.1,v,x.2.2.2.1,x.2.2.2.2)
theorem qkb (x:t17):LE.step X qk7 q2 qjB q4 12 x=X1w x.1 x.2.1 x.2.2.2.1 x.2.2.2.2 x.2.2.1 (fun w0=>(Sum.inl (x.1,x.2.1,w0,x.2.2.2.1,x.2.2.2.2))) (fun p0=>(Sum.inr (.inl (p0,x.2.2.2.2)))) (Sum.inr (.inr x.2.2.2.2)):=by kernel_rfl
theorem qkd {R:Type} (x:t17) (k:((Bool×ZI)⊕ZI)→Option R) (r:R) (h:qk9 x k=some r):∃ o,Z5p (LE.step X qk7 q2 qjB q4 12) x o∧k o=some r:=by
 obtain ⟨o,h1,h2⟩:=Z0 h
 exact ⟨qk8 x o,Zh7 (st:=fun (x:t17)=>X1i x.1 x.2.1 x.2.2.2.1 x.2.2.2.2) (prj:=fun x=>x.2.2.1) (emb:=qka) (embO:=qk8) (fun x=>(qkb x).trans (by unfold X1i X1w;simp only [ZgZ,ZgU,Zh0,Option.map_some,Option.map_none];rfl)) (fun _ _=>rfl) (fun _ _=>rfl) (fun _ _ _=>rfl) (fun _ _ _=>rfl) (fun _=>rfl) (Z1Q.1 h1),by first|exact h2|(rcases o with o|o<;>exact h2)⟩
def qke {R:Type}:Z2t S R:=LE.ls X qk7 qk9 q4
theorem qkf {R:Type}:Z3J X (qke (R:=R)):=Zhc xok q3 (e:=qk7) qjC q5 qkd q5
theorem qkg (x0:ZI) (x1:List Zl) (x2:Int):Zhe X q2 [(.st 20),(.sl (.st 21)),(.int .i64)] [.bool] qjB qke 12 81 (x0,x1,x2,())=X2S x0 x1 x2:=by kernel_rfl
def qkh:F7 S:=⟨[(.st 20),(.sl (.st 21)),(.int .i64)],[.bool],fun xs=>X5O xs.1 xs.2.1 xs.2.2.1⟩
theorem qki:Z97 X 81 qkh:=Zhb (Zha xok q3 qjC qkf 12 81) fun xs _ h=>((qkg xs.1 xs.2.1 xs.2.2.1).trans (X6M xs.1 xs.2.1 xs.2.2.1).symm).trans h
def qkj (ih:t16→Option (List (List Int))):List (Nat×F7 S):=[(81,qkh),(47,⟨[(.st 20),(.sl (.st 21)),(.int .i64),(.int .i64)],[(.sl (.sl (.int .i64)))],ih⟩)]
theorem qkk (ih:t16→Option (List (List Int))) (hih:Z97 X 47 ⟨[(.st 20),(.sl (.st 21)),(.int .i64),(.int .i64)],[(.sl (.sl (.int .i64)))],ih⟩):Z9h X (qkj ih):=⟨qki,hih,trivial⟩
abbrev qkl (ih:t16→Option (List (List Int))) {R:Type}:Z2t S R:=Zg9
theorem qkm (ih:t16→Option (List (List Int))) (hih:Z97 X 47 ⟨[(.st 20),(.sl (.st 21)),(.int .i64),(.int .i64)],[(.sl (.sl (.int .i64)))],ih⟩) {R:Type}:Z3J X (qkl ih (R:=R)):=ZgE X
def qkn:Key:=⟨[47],47,none,[0,0,1,1,1,0,0,1,0,0,1,0,1,1,1],2,32⟩
def qko:StT S:=⟨(N (N (N L vU (N L vB L)) vQ (N (N L (some (.rs 32 0)) L) none L)) none (N (N L (some (.ptr 0 0)) (N L vU L)) none (N (N L vU L) none L))),o1r,33⟩
def qkp:Way S:=⟨(.exit 2),⟨(N (N (N L vU L) vQ (N (N L (some (.rs 32 0)) L) none L)) none v1v),o1r,37⟩,[.int,(.lst (.st 21)),.int,(.st 20),(.lst (.sl (.int .i64)))]⟩
def qkq:LE S:=⟨qkn,qko,[.int,(.lst (.sl (.int .i64))),(.lst (.st 21)),.int,.int,(.st 20),(.lst (.sl (.int .i64)))],[qkp]⟩
def qkr (x:tE):(List (List Int))→tY:=fun y0=>(x.1,x.2.2.1,x.2.2.2.2.1,x.2.2.2.2.2.1,y0)
def qks (ih:t16→Option (List (List Int))) {R:Type} (x:tE) (k:tY→Option R):Option R:=(X3v ih x.2.1 x.2.2.2.2.1 (x.2.2.2.1,x.2.2.2.2.2.2)).bind (fun y0=>k (x.1,x.2.2.1,x.2.2.2.2.1,x.2.2.2.2.2.1,y0))
def qkt (x:tE) (v:(Int×(List (List Int)))):tE:=(x.1,x.2.1,x.2.2.1,v.1,x.2.2.2.2.1,x.2.2.2.2.2.1,v.2)
theorem qku (ih:t16→Option (List (List Int))) (x:tE):LE.step X qkq (qkj ih) qjB (qkl ih) 12 x=X17 ih x.2.1 x.2.2.2.2.1 x.2.2.2.1 x.2.2.2.2.2.2 (fun w0 w1=>(Sum.inl (x.1,x.2.1,x.2.2.1,w0,x.2.2.2.2.1,x.2.2.2.2.2.1,w1))) (fun p0=>(Sum.inr (x.1,x.2.2.1,x.2.2.2.2.1,x.2.2.2.2.2.1,p0))):=by kernel_rfl
theorem qkw (ih:t16→Option (List (List Int))) {R:Type} (x:tE) (k:tY→Option R) (r:R) (h:qks ih x k=some r):∃ o,Z5p (LE.step X qkq (qkj ih) qjB (qkl ih) 12) x o∧k o=some r:=by
 obtain ⟨o,h1,h2⟩:=Z0 h
 exact ⟨qkr x o,Zh7 (st:=fun (x:tE)=>WJ ih x.2.1 x.2.2.2.2.1) (prj:=fun x=>(x.2.2.2.1,x.2.2.2.2.2.2)) (emb:=qkt) (embO:=qkr) (fun x=>(qku ih x).trans (by unfold WJ X17;simp only [ZgZ,ZgU,Zh0,Option.map_some,Option.map_none];rfl)) (fun _ _=>rfl) (fun _ _=>rfl) (fun _ _ _=>rfl) (fun _ _ _=>rfl) (fun _=>rfl) (Z1Q.1 h1),by first|exact h2|(rcases o with o<;>exact h2)⟩
def qkx (ih:t16→Option (List (List Int))) {R:Type}:Z2t S R:=LE.ls X qkq (qks ih) (qkl ih)
theorem qky (ih:t16→Option (List (List Int))) (hih:Z97 X 47 ⟨[(.st 20),(.sl (.st 21)),(.int .i64),(.int .i64)],[(.sl (.sl (.int .i64)))],ih⟩) {R:Type}:Z3J X (qkx ih (R:=R)):=Zhc xok (qkk ih hih) (e:=qkq) qjC (qkm ih hih) (qkw ih) (qkm ih hih)
def qkz:Key:=⟨[47],47,none,[0,0,1,0,1,1,1],0,7⟩
def qkA:StT S:=⟨(N (N (N L vU L) vQ v1F) none v1v),(N (N (N (N L ol L) none L) none L) oe L),8⟩
def qkB:Way S:=⟨(.exit 0),⟨(N (N L none v1F) none L),(N (N (N (N L ol L) none L) none L) oe L),18⟩,[(.lst (.sl (.int .i64))),(.st 20)]⟩
def qkC:LE S:=⟨qkz,qkA,[.int,(.lst (.st 21)),.int,(.lst (.sl (.int .i64))),(.st 20)],[qkB]⟩
def qkD (x:tZ):(List (List Int))→((List (List Int))×ZI):=fun y0=>(y0,x.2.2.2.2)
def qkE (ih:t16→Option (List (List Int))) {R:Type} (x:tZ) (k:((List (List Int))×ZI)→Option R):Option R:=(X3u ih x.1 x.2.1 x.2.2.2.2 (x.2.2.1,x.2.2.2.1)).bind (fun y0=>k (y0,x.2.2.2.2))
def qkF (x:tZ) (v:(Int×(List (List Int)))):tZ:=(x.1,x.2.1,v.1,v.2,x.2.2.2.2)
theorem qkG (ih:t16→Option (List (List Int))) (x:tZ):LE.step X qkC (qkj ih) qjB (qkx ih) 12 x=X16 ih x.1 x.2.1 x.2.2.2.2 x.2.2.1 x.2.2.2.1 (fun w0 w1=>(Sum.inl (x.1,x.2.1,w0,w1,x.2.2.2.2))) (fun p0=>(Sum.inr (p0,x.2.2.2.2))):=by kernel_rfl
theorem qkI (ih:t16→Option (List (List Int))) {R:Type} (x:tZ) (k:((List (List Int))×ZI)→Option R) (r:R) (h:qkE ih x k=some r):∃ o,Z5p (LE.step X qkC (qkj ih) qjB (qkx ih) 12) x o∧k o=some r:=by
 obtain ⟨o,h1,h2⟩:=Z0 h
 exact ⟨qkD x o,Zh7 (st:=fun (x:tZ)=>WI ih x.1 x.2.1 x.2.2.2.2) (prj:=fun x=>(x.2.2.1,x.2.2.2.1)) (emb:=qkF) (embO:=qkD) (fun x=>(qkG ih x).trans (by unfold WI X16;simp only [ZgZ,ZgU,Zh0,Option.map_some,Option.map_none];rfl)) (fun _ _=>rfl) (fun _ _=>rfl) (fun _ _ _=>rfl) (fun _ _ _=>rfl) (fun _=>rfl) (Z1Q.1 h1),by first|exact h2|(rcases o with o<;>exact h2)⟩
def qkJ (ih:t16→Option (List (List Int))) {R:Type}:Z2t S R:=LE.ls X qkC (qkE ih) (qkx ih)
theorem qkK (ih:t16→Option (List (List Int))) (hih:Z97 X 47 ⟨[(.st 20),(.sl (.st 21)),(.int .i64),(.int .i64)],[(.sl (.sl (.int .i64)))],ih⟩) {R:Type}:Z3J X (qkJ ih (R:=R)):=Zhc xok (qkk ih hih) (e:=qkC) qjC (qky ih hih) (qkI ih) (qky ih hih)
theorem qkL (ih:t16→Option (List (List Int))) (x0:ZI) (x1:List Zl) (x2:Int) (x3:Int):Zhe X (qkj ih) [(.st 20),(.sl (.st 21)),(.int .i64),(.int .i64)] [(.sl (.sl (.int .i64)))] qjB (qkJ ih) 12 47 (x0,x1,x2,x3,())=X3j ih x0 x1 x2 x3:=by kernel_rfl
def qkM:F7 S:=⟨[(.st 20),(.sl (.st 21)),(.int .i64),(.int .i64)],[(.sl (.sl (.int .i64)))],fun xs=>X5i xs.1 xs.2.1 xs.2.2.1 xs.2.2.2.1⟩
theorem qkN:Z97 X 47 qkM:=ZhA (X:=X) (g:=47) (pts:=[(.st 20),(.sl (.st 21)),(.int .i64),(.int .i64)]) (rts:=[(.sl (.sl (.int .i64)))]) (t:=WN) fun ih hih=>Zhb (Zha xok (qkk ih hih) qjC (qkK ih hih) 12 47) fun xs _ h=>(qkL ih xs.1 xs.2.1 xs.2.2.1 xs.2.2.2.1).trans h
def qkO:List (Nat×F7 S):=[(79,qeL),(80,qgy)]
theorem qkP:Z9h X (qkO):=⟨qeM,qgz,trivial⟩
def qkS:Key:=⟨[48],48,none,[0,0,1,0,1,1],0,14⟩
def qkT:StT S:=⟨(N (N (N (N L (some (.rs 14 0)) L) (some (.ptr 0 0)) L) vQ (N (N L vU L) none L)) none (N (N (N L (some (.rs 15 0)) L) none L) vL L)),o1k,16⟩
def qkU:Way S:=⟨(.exit 0),⟨(N (N (N (N L (some (.rs 14 0)) L) (some (.ptr 0 0)) L) vQ L) none (N (N (N L (some (.rs 15 0)) L) none L) none L)),o1k,20⟩,[(.lst (.st 21)),(.lst .bool),(.st 20),(.lst .bool)]⟩
def qkV:LE S:=⟨qkS,qkT,[(.lst (.st 21)),.int,(.lst (.int .i64)),(.lst .bool),(.st 20),(.lst .bool)],[qkU]⟩
def qkW (x:tN):((List Bool)×(List Bool))→t12:=fun y0=>(x.1,y0.1,x.2.2.2.2.1,y0.2)
def qkX {R:Type} (x:tN) (k:t12→Option R):Option R:=(X2N x.2.2.1 (x.2.1,x.2.2.2.1,x.2.2.2.2.2)).bind (fun y0=>k (x.1,y0.1,x.2.2.2.2.1,y0.2))
def qkY (x:tN) (v:(Int×(List Bool)×(List Bool))):tN:=(x.1,v.1,x.2.2.1,v.2.1,x.2.2.2.2.1,v.2.2)
theorem qkZ (x:tN):LE.step X qkV qkO qjB q4 12 x=W3 x.2.2.1 x.2.1 x.2.2.2.1 x.2.2.2.2.2 (fun w0 w1 w2=>(Sum.inl (x.1,w0,x.2.2.1,w1,x.2.2.2.2.1,w2))) (fun p0 p1=>(Sum.inr (x.1,p0,x.2.2.2.2.1,p1))):=by kernel_rfl
theorem ql1 {R:Type} (x:tN) (k:t12→Option R) (r:R) (h:qkX x k=some r):∃ o,Z5p (LE.step X qkV qkO qjB q4 12) x o∧k o=some r:=by
 obtain ⟨o,h1,h2⟩:=Z0 h
 exact ⟨qkW x o,Zh7 (st:=fun (x:tN)=>XV x.2.2.1) (prj:=fun x=>(x.2.1,x.2.2.2.1,x.2.2.2.2.2)) (emb:=qkY) (embO:=qkW) (fun x=>(qkZ x).trans (by unfold XV W3;simp only [ZgZ,ZgU,Zh0,Option.map_some,Option.map_none];rfl)) (fun _ _=>rfl) (fun _ _=>rfl) (fun _ _ _=>rfl) (fun _ _ _=>rfl) (fun _=>rfl) (Z1Q.1 h1),by first|exact h2|(rcases o with o<;>exact h2)⟩
def ql2 {R:Type}:Z2t S R:=LE.ls X qkV qkX q4
theorem ql3 {R:Type}:Z3J X (ql2 (R:=R)):=Zhc xok qkP (e:=qkV) qjC q5 ql1 q5
def ql4:Key:=⟨[48],48,none,[0,0,1,0,1,1,1,1],2,24⟩
def ql5:StT S:=⟨(N (N (N (N L (some (.rs 24 0)) L) (some (.ptr 0 0)) (N L vU L)) vQ L) none (N (N (N L (some (.rs 25 0)) L) none L) none (N (N L vR L) none L))),o1e,26⟩
def ql6:Way S:=⟨.ret,⟨(N L none (N L none (N L vT L))),o1e,40⟩,[.bool,(.lst .bool),(.st 20),(.lst .bool)]⟩
def ql7:Way S:=⟨(.exit 2),⟨L,o1e,30⟩,[(.lst .bool),(.st 20),(.lst .bool)]⟩
def ql8:LE S:=⟨ql4,ql5,[.int,(.lst (.st 21)),(.lst (.st 2)),(.lst .bool),(.st 20),(.lst .bool)],[ql6,ql7]⟩
def ql9 (x:tL):(Bool⊕Unit)→tF:=Sum.elim (fun y0=>(.inl (y0,x.2.2.2.1,x.2.2.2.2.1,x.2.2.2.2.2))) (fun y1=>(.inr (x.2.2.2.1,x.2.2.2.2.1,x.2.2.2.2.2)))
def qla {R:Type} (x:tL) (k:tF→Option R):Option R:=(X2O x.2.1 x.2.2.1 x.2.2.2.1 x.2.2.2.2.1 x.2.2.2.2.2 x.1).bind (Sum.elim (fun y0=>k (.inl (y0,x.2.2.2.1,x.2.2.2.2.1,x.2.2.2.2.2))) (fun y1=>k (.inr (x.2.2.2.1,x.2.2.2.2.1,x.2.2.2.2.2))))
def qlb (x:tL) (v:Int):tL:=(v,x.2.1,x.2.2.1,x.2.2.2.1,x.2.2.2.2.1,x.2.2.2.2.2)
theorem qlc (x:tL):LE.step X ql8 qkO qjB ql2 12 x=W4 x.2.1 x.2.2.1 x.2.2.2.1 x.2.2.2.2.1 x.2.2.2.2.2 x.1 (fun w0=>(Sum.inl (w0,x.2.1,x.2.2.1,x.2.2.2.1,x.2.2.2.2.1,x.2.2.2.2.2))) (fun p0=>(Sum.inr (.inl (p0,x.2.2.2.1,x.2.2.2.2.1,x.2.2.2.2.2)))) (Sum.inr (.inr (x.2.2.2.1,x.2.2.2.2.1,x.2.2.2.2.2))):=by kernel_rfl
theorem qle {R:Type} (x:tL) (k:tF→Option R) (r:R) (h:qla x k=some r):∃ o,Z5p (LE.step X ql8 qkO qjB ql2 12) x o∧k o=some r:=by
 obtain ⟨o,h1,h2⟩:=Z0 h
 exact ⟨ql9 x o,Zh7 (st:=fun (x:tL)=>XW x.2.1 x.2.2.1 x.2.2.2.1 x.2.2.2.2.1 x.2.2.2.2.2) (prj:=fun x=>x.1) (emb:=qlb) (embO:=ql9) (fun x=>(qlc x).trans (by unfold XW W4;simp only [ZgZ,ZgU,Zh0,Option.map_some,Option.map_none];rfl)) (fun _ _=>rfl) (fun _ _=>rfl) (fun _ _ _=>rfl) (fun _ _ _=>rfl) (fun _=>rfl) (Z1Q.1 h1),by first|exact h2|(rcases o with o|o<;>exact h2)⟩
def qlf {R:Type}:Z2t S R:=LE.ls X ql8 qla ql2
theorem qlg {R:Type}:Z3J X (qlf (R:=R)):=Zhc xok qkP (e:=ql8) qjC ql3 qle ql3
theorem qlh (x0:ZI) (x1:List Zl) (x2:List Int):Zhe X qkO [(.st 20),(.sl (.st 21)),(.sl (.int .i64))] [.bool] qjB qlf 12 48 (x0,x1,x2,())=X1T x0 x1 x2:=by kernel_rfl
def qli:F7 S:=⟨[(.st 20),(.sl (.st 21)),(.sl (.int .i64))],[.bool],fun xs=>X4g xs.1 xs.2.1 xs.2.2.1⟩
theorem qlj:Z97 X 48 qli:=Zhb (Zha xok qkP qjC qlg 12 48) fun xs _ h=>((qlh xs.1 xs.2.1 xs.2.2.1).trans (X5A xs.1 xs.2.1 xs.2.2.1).symm).trans h
def qlk:List (Nat×F7 S):=[(32,qeg),(47,qkM),(48,qli)]
theorem qll:Z9h X (qlk):=⟨qeh,qkN,qlj,trivial⟩
def qlo:Key:=⟨[16],16,none,[0,0,1,0,1,1,0,0,1,0,0,1,1,0,0,1,0,0,1,0,1,1,1],4,41⟩
def qlp:StT S:=⟨(N (N (N L none (N L vU L)) none (N L none (N L (some (.rs 42 0)) L))) none (N v1E (some (.ptr 0 0)) (N (N L vB L) none (N L vU L)))),o15,43⟩
def qlq:Way S:=⟨(.exit 4),⟨(N (N L none (N L none (N L (some (.rs 42 0)) L))) none (N v1E none L)),o15,50⟩,[(.lst (.int .i64)),(.st 20),(.lst (.int .i64))]⟩
def qlr:LE S:=⟨qlo,qlp,[.int,(.lst (.sl (.int .i64))),.int,(.lst (.int .i64)),(.st 20),(.lst (.int .i64))],[qlq]⟩
def qls (x:tQ):((List Int)×(List Int))→((List Int)×ZI×(List Int)):=fun y0=>(y0.1,x.2.2.2.2.1,y0.2)
def qlt {R:Type} (x:tQ) (k:((List Int)×ZI×(List Int))→Option R):Option R:=(X3t x.1 x.2.1 x.2.2.2.2.1 (x.2.2.1,x.2.2.2.1,x.2.2.2.2.2)).bind (fun y0=>k (y0.1,x.2.2.2.2.1,y0.2))
def qlu (x:tQ) (v:t1m):tQ:=(x.1,x.2.1,v.1,v.2.1,x.2.2.2.2.1,v.2.2)
theorem qlv (x:tQ):LE.step X qlr qlk qjB q4 12 x=X14 x.1 x.2.1 x.2.2.2.2.1 x.2.2.1 x.2.2.2.1 x.2.2.2.2.2 (fun w0 w1 w2=>(Sum.inl (x.1,x.2.1,w0,w1,x.2.2.2.2.1,w2))) (fun p0 p1=>(Sum.inr (p0,x.2.2.2.2.1,p1))):=by kernel_rfl
theorem qlx {R:Type} (x:tQ) (k:((List Int)×ZI×(List Int))→Option R) (r:R) (h:qlt x k=some r):∃ o,Z5p (LE.step X qlr qlk qjB q4 12) x o∧k o=some r:=by
 obtain ⟨o,h1,h2⟩:=Z0 h
 exact ⟨qls x o,Zh7 (st:=fun (x:tQ)=>WH x.1 x.2.1 x.2.2.2.2.1) (prj:=fun x=>(x.2.2.1,x.2.2.2.1,x.2.2.2.2.2)) (emb:=qlu) (embO:=qls) (fun x=>(qlv x).trans (by unfold WH X14;simp only [ZgZ,ZgU,Zh0,Option.map_some,Option.map_none];rfl)) (fun _ _=>rfl) (fun _ _=>rfl) (fun _ _ _=>rfl) (fun _ _ _=>rfl) (fun _=>rfl) (Z1Q.1 h1),by first|exact h2|(rcases o with o<;>exact h2)⟩
def qly {R:Type}:Z2t S R:=LE.ls X qlr qlt q4
theorem qlz {R:Type}:Z3J X (qly (R:=R)):=Zhc xok qll (e:=qlr) qjC q5 qlx q5
def qlA:Key:=⟨[16],16,none,[0,0,1,1,0,0,1,0,0,1,0,1,1,1],2,26⟩
def qlB:StT S:=⟨(N (N (N L none (N L vU L)) vQ (N (N L vU L) none L)) none (N L (some (.ptr 0 0)) (N (N L vB L) none L))),(N L oe L),26⟩
def qlC:Way S:=⟨.ret,⟨v1i,o15,55⟩,[.int,(.lst (.int .i64)),(.st 20),(.lst (.int .i64))]⟩
def qlD:Way S:=⟨(.exit 2),⟨v1p,(N L oe L),30⟩,[(.lst (.st 21)),.int,(.st 20)]⟩
def qlE:LE S:=⟨qlA,qlB,[.int,(.lst (.st 21)),.int,(.lst (.sl (.int .i64))),(.st 20)],[qlC,qlD]⟩
def qlF (x:tZ):(t1m⊕Unit)→tK:=Sum.elim (fun y0=>(.inl (y0.1,y0.2.1,x.2.2.2.2,y0.2.2))) (fun y1=>(.inr (x.2.1,x.2.2.1,x.2.2.2.2)))
def qlG {R:Type} (x:tZ) (k:tK→Option R):Option R:=(X3s x.2.1 x.2.2.2.1 x.2.2.2.2 x.1).bind (Sum.elim (fun y0=>k (.inl (y0.1,y0.2.1,x.2.2.2.2,y0.2.2))) (fun y1=>k (.inr (x.2.1,x.2.2.1,x.2.2.2.2))))
def qlH (x:tZ) (v:Int):tZ:=(v,x.2.1,x.2.2.1,x.2.2.2.1,x.2.2.2.2)
theorem qlI (x:tZ):LE.step X qlE qlk qjB qly 12 x=X13 x.2.1 x.2.2.2.1 x.2.2.2.2 x.1 (fun w0=>(Sum.inl (w0,x.2.1,x.2.2.1,x.2.2.2.1,x.2.2.2.2))) (fun p0 p1 p2=>(Sum.inr (.inl (p0,p1,x.2.2.2.2,p2)))) (Sum.inr (.inr (x.2.1,x.2.2.1,x.2.2.2.2))):=by kernel_rfl
theorem qlK {R:Type} (x:tZ) (k:tK→Option R) (r:R) (h:qlG x k=some r):∃ o,Z5p (LE.step X qlE qlk qjB qly 12) x o∧k o=some r:=by
 obtain ⟨o,h1,h2⟩:=Z0 h
 exact ⟨qlF x o,Zh7 (st:=fun (x:tZ)=>WG x.2.1 x.2.2.2.1 x.2.2.2.2) (prj:=fun x=>x.1) (emb:=qlH) (embO:=qlF) (fun x=>(qlI x).trans (by unfold WG X13;simp only [ZgZ,ZgU,Zh0,Option.map_some,Option.map_none];rfl)) (fun _ _=>rfl) (fun _ _=>rfl) (fun _ _ _=>rfl) (fun _ _ _=>rfl) (fun _=>rfl) (Z1Q.1 h1),by first|exact h2|(rcases o with o|o<;>exact h2)⟩
def qlL {R:Type}:Z2t S R:=LE.ls X qlE qlG qly
theorem qlM {R:Type}:Z3J X (qlL (R:=R)):=Zhc xok qll (e:=qlE) qjC qlz qlK qlz
def qlN:Key:=⟨[16],16,none,[0,0,1,0,1,1,1],0,15⟩
def qlO:StT S:=⟨v1p,(N L oe L),15⟩
def qlQ:Way S:=⟨(.exit 0),⟨L,(N L oe L),20⟩,[(.st 20)]⟩
def qlR:LE S:=⟨qlN,qlO,[(.lst (.st 21)),.int,(.st 20)],[qlC,qlQ]⟩
def qlS (x:t1o):(t1m⊕Unit)→t13:=Sum.elim (fun y0=>(.inl (y0.1,y0.2.1,x.2.2,y0.2.2))) (fun y1=>(.inr x.2.2))
def qlT {R:Type} (x:t1o) (k:t13→Option R):Option R:=(X3r x.1 x.2.2 x.2.1).bind (Sum.elim (fun y0=>k (.inl (y0.1,y0.2.1,x.2.2,y0.2.2))) (fun y1=>k (.inr x.2.2)))
theorem qlV (x:t1o):LE.step X qlR qlk qjB qlL 12 x=X24 x.1 x.2.2 x.2.1 (fun w0=>(Sum.inl (x.1,w0,x.2.2))) (fun p0 p1 p2=>(Sum.inr (.inl (p0,p1,x.2.2,p2)))) (Sum.inr (.inr x.2.2)):=by kernel_rfl
theorem qlX {R:Type} (x:t1o) (k:t13→Option R) (r:R) (h:qlT x k=some r):∃ o,Z5p (LE.step X qlR qlk qjB qlL 12) x o∧k o=some r:=by
 obtain ⟨o,h1,h2⟩:=Z0 h
 exact ⟨qlS x o,Zh7 (st:=fun (x:t1o)=>X1U x.1 x.2.2) (prj:=fun x=>x.2.1) (emb:=qe9) (embO:=qlS) (fun x=>(qlV x).trans (by unfold X1U X24;simp only [ZgZ,ZgU,Zh0,Option.map_some,Option.map_none];rfl)) (fun _ _=>rfl) (fun _ _=>rfl) (fun _ _ _=>rfl) (fun _ _ _=>rfl) (fun _=>rfl) (Z1Q.1 h1),by first|exact h2|(rcases o with o|o<;>exact h2)⟩
def qlY {R:Type}:Z2t S R:=LE.ls X qlR qlT qlL
theorem qlZ {R:Type}:Z3J X (qlY (R:=R)):=Zhc xok qll (e:=qlR) qjC qlM qlX qlM
theorem qm0 (x0:ZI) (x1:List Zl):Zhe X qlk [(.st 20),(.sl (.st 21))] [(.sl (.int .i64)),(.sl (.int .i64)),(.int .i64)] qjB qlY 12 16 (x0,x1,())=X2x x0 x1:=by kernel_rfl
def qm1:F7 S:=⟨[(.st 20),(.sl (.st 21))],[(.sl (.int .i64)),(.sl (.int .i64)),(.int .i64)],fun xs=>X5h xs.1 xs.2.1⟩
theorem qm2:Z97 X 16 qm1:=Zhb (Zha xok qll qjC qlZ 12 16) fun xs _ h=>((qm0 xs.1 xs.2.1).trans (X6p xs.1 xs.2.1).symm).trans h
def qm3:List (Nat×F7 S):=[(15,qiJ),(16,qm1),(17,qjV),(14,qjX)]
theorem qm4:Z9h X (qm3):=⟨qiK,qm2,qjW,qjY,trivial⟩
theorem qm7 (x0:ZI) (x1:List Zl):Zhe X qm3 [(.st 20),(.sl (.st 21))] [.bool] qjB q4 12 4 (x0,x1,())=WV x0 x1:=by kernel_rfl
def qm8:F7 S:=⟨[(.st 20),(.sl (.st 21))],[.bool],fun xs=>X3h xs.1 xs.2.1⟩
theorem X6i:Z97 X 4 qm8:=Zhb (Zha xok qm4 qjC q5 12 4) fun xs _ h=>((qm7 xs.1 xs.2.1).trans (X4T xs.1 xs.2.1).symm).trans h
end
end Nore
