/- The code comes to the plain functions. -/
import Derived.Test.YtehofdemanfenaaGreatY
import Derived.Test.YtehofdemanfenaaGreatD
import Derived.Test.YtehofdemanfenaaGreatK6
set_option linter.unusedSectionVars false
set_option linter.unusedVariables false
set_option linter.unusedSimpArgs false
set_option maxRecDepth 100000
open Go Go.Ab Go.Proofs Go.Proofs.YtehofdemanfenaaGreat
open Go.Ab.Tr renaming node→N,leaf→L
namespace Nore
noncomputable section
abbrev t1i:Type:=List (Zh×Int)
abbrev t1h:Type:=Int×(List Int)×Int
abbrev t1g:Type:=List (ByteArray×Int)
abbrev t1f:Type:=Int×Int×Int×Zw
abbrev t1e:Type:=Int×(List Zt)×Int
abbrev t1d:Type:=Int×(List Zu)×Zu
abbrev t1c:Type:=(Int×Int×Zt)⊕Unit
abbrev t1b:Type:=(List Zn)×Int×ZJ
abbrev t1a:Type:=Int×(List ByteArray)×ZJ
abbrev t19:Type:=Int×Int×(List Zu)×Int
abbrev t18:Type:=Int×(List Zu)×Int×Int
abbrev t17:Type:=(Int×Int×Int)⊕(Int×Int)
abbrev t16:Type:=Int×(List ByteArray)×Zl
abbrev t15:Type:=Int×Zl×(List ByteArray)
abbrev t14:Type:=Int×(List Zt)×Int×Zu
abbrev t13:Type:=(Nat→Zu)×Int×Int×Zu
abbrev t12:Type:=Int×ByteArray×ByteArray×Nat
abbrev t11:Type:=ByteArray×Int×(List ByteArray)
abbrev t10:Type:=Int×(List Int)×Int×Int×Int
abbrev tZ:Type:=Int×Int×(List ZE)×Int×Int
abbrev tY:Type:=Int×(List Z5)×Int×ZJ
abbrev tX:Type:=Int×Int×Int×(List Zk)×(List Int)
abbrev tW:Type:=Int×(List Z5)×Int×Z5
abbrev tV:Type:=Zu×Z4×ZJ×(List Zn)
abbrev tU:Type:=(Int×Z5×Z5)⊕Z5
abbrev tT:Type:=Int×Int×Int×t1g×CtSand
abbrev tS:Type:=Int×Zu×Z4×ZJ×(List Zn)
abbrev tR:Type:=(Int×(List Int)×Zu×(List Int)×Zt)⊕Zu
abbrev tQ:Type:=(Int×Int×Z5×Z5×ZJ)⊕ZJ
abbrev tP:Type:=Int×Int×Int×(List ByteArray)×Zw×(List ByteArray)
abbrev tO:Type:=ZJ×(List Zn)×(Nat→Nat)×t1i
abbrev tN:Type:=Int×(List CtSand)×Int×Zl×t1g
abbrev tM:Type:=Int×Int×(List Zw)×Zl×t1g
abbrev tL:Type:=(Bool×ByteArray×Nat)⊕t12
abbrev tK:Type:=Int×ZJ×(List Zn)×(Nat→Nat)×t1i
abbrev tJ:Type:=(List Zu)×(List ZE)×Int×Z4×ZB×ZJ×Zu
abbrev tI:Type:=(Int×Int×Int×(List ByteArray)×ZJ)⊕((List ByteArray)×ZJ)
abbrev tH:Type:=(Nat→Int)×ZJ×(List Zn)×(Nat→Nat)×t1i
abbrev tG:Type:=(List Zu)×ZJ×(List Zn)×(Nat→Nat)×t1i
abbrev tF:Type:=(Int×Bool×ZJ×(List Zn)×(Nat→Nat)×Int×t1i)
abbrev tE:Type:=Int×(List Zu)×ZJ×(List Zn)×(Nat→Nat)×t1i
abbrev tD:Type:=Int×ZJ×(List Zn)×(Nat→Nat)×t1i×(List Zu)
abbrev tC:Type:=Int×Int×Int×ZJ×(List Zn)×(Nat→Nat)×Int×t1i
abbrev tB:Type:=(List Zn)×ZJ×ZJ×(List Zn)×(Nat→Nat)×t1i
abbrev tA:Type:=Int×Int×Int×t1i×ZJ×ZJ×(List Zn)×(Nat→Nat)
abbrev tz:Type:=tC
abbrev ty:Type:=Int×Z8×Bool×Int×Bool×Z8×Bool×Int×Z8×Z6
abbrev tx:Type:=Int×Int×ZJ×(List Zn)×(Nat→Nat)×t1i×(List Zu)
abbrev tw:Type:=Int×(List Zn)×Int×ZJ×(List Zn)×(Nat→Nat)×t1i
abbrev tv:Type:=Int×Int×ZJ×(List Zn)×(Nat→Nat)×t1i×Bool×Int×Int
abbrev tu:Type:=Int×Int×Int×(List Zn)×ZJ×(List Zn)×(Nat→Nat)×t1i
abbrev tt:Type:=Int×Int×(Nat→ZE)×ZJ×(List Zn)×(Nat→Nat)×t1i×Zu
abbrev ts:Type:=Int×Int×Int×ZJ×(List Zn)×(Nat→Nat)×t1i×Bool×Int×Int
abbrev tr:Type:=Int×Int×Int×Bool×Int×t1i×ZJ×ZJ×(List Zn)×(Nat→Nat)
abbrev tq:Type:=t1i×ZB×Zu×ZJ×ZJ×(List Zn)×(Nat→Nat)×(List Zu)
abbrev tp:Type:=Int×(List Int)×t1i×ZJ×(List Int)×ZJ×(List Zn)×(Nat→Nat)
abbrev to:Type:=(Bool×Z4×ZB×ZJ×Zu)⊕((List Zu)×Z4×ZB×ZJ×Zu)
abbrev tn:Type:=Int×Int×t1i×ZB×Zu×ZJ×ZJ×(List Zn)×(Nat→Nat)×(List Zu)
abbrev tm:Type:=Int×Int×(List Zu)×Int×Int×(Nat→Int)×ZJ×(List Zn)×(Nat→Nat)×t1i
abbrev tl:Type:=Int×Int×(List Zu)×Int×Z8×Bool×Int×Bool×Z8×Bool×Int×Z8×Z6
abbrev tk:Type:=Int×Int×(List Zu)×Z8×Bool×Int×Bool×Z8×Bool×Int×Z8×(List Int)×Zu
abbrev tj:Type:=(List Z5)×(List Zn)×Int×Int×ZJ×ZJ×(List Zn)×(Nat→Nat)×t1i
abbrev ti:Type:=Int×Int×Int×Int×Int×(List Int)×t1i×ZJ×(List Int)×ZJ×(List Zn)×(Nat→Nat)
abbrev th:Type:=Int×Int×(List Zn)×Int×Int×(Nat→ZE)×ZJ×(List Zn)×(Nat→Nat)×t1i×Zu
abbrev tg:Type:=Int×Int×Int×Zl×(List Int)×Bool×Int×Bool×Zl×Int×Bool×(List Int)×Int×(List Zk)×Zw
abbrev tf:Type:=Int×Int×Int×Int×(List Z5)×(Nat→ZE)×ZJ×(List Zn)×(Nat→Nat)×t1i×Zu
abbrev te:Type:=Int×Int×(List Zu)×Int×Int×(Nat→Int)×ZJ×(List Zn)×(Nat→Nat)×t1i×(Nat→ZE)×Zu
abbrev td:Type:=Int×Int×Int×(List Zu)×Int×Int×Int×Int×(Nat→Int)×ZJ×(List Zn)×(Nat→Nat)×t1i×(Nat→ZE)×Zu
abbrev tc:Type:=(Int×Bool×ZJ×(List Zn)×(Nat→Nat)×Int×t1i)⊕(ZJ×(List Zn)×(Nat→Nat)×Int×t1i)
abbrev tb:Type:=(Int×Int×ZJ×(List Zn)×(Nat→Nat)×Zn×Zn×t1i)⊕tO
abbrev ta:Type:=(Int×Int×Int×(List ByteArray)×(List ByteArray)×Zl)⊕(Int×Int×Int×(List ByteArray)×(List ByteArray)×Zl)⊕((List ByteArray)×Zl)
abbrev t9:Type:=(Int×(List Int)×(List Int)×Zk)⊕(Int×(List Int)×(List Int)×(List Int)×Zk)⊕(Int×(List Int)×(List Int)×(List Int)×Zk)⊕(List Int)
abbrev t8:Type:=(Int×Int×Int×(List ByteArray)×ZJ×(List ByteArray)×Z5)⊕(Int×Int×Int×(List ByteArray)×ZJ×(List ByteArray)×Z5)⊕((List ByteArray)×ZJ)
abbrev t7:Type:=(Int×ZJ×(List Zn)×(Nat→Nat)×(Nat→ZE)×Zu×t1i×Bool×Int×Int)⊕(Int×ZJ×(List Zn)×(Nat→Nat)×t1i×Bool×Int×Int)
abbrev t6:Type:=(Z8×Bool×Int×Bool×Z8×Bool×Int×Z8×Zu×Z6×(List Int)×Zu)⊕(Z8×Bool×Int×Bool×Z8×Bool×Int×Z8×(List Int)×Zu)
abbrev t5:Type:=(Int×ZJ×(List Zn)×(Nat→Nat)×(Nat→ZE)×Zu×t1i×Bool×Int×Int)⊕tv
abbrev t4:Type:=(Int×Int×Int×Zl×t1g×CtSand)⊕(Int×Int×Int×Zl×t1g×CtSand)⊕(Int×Int×Int×Zl×t1g×CtSand)⊕(Zl×t1g)
abbrev t3:Type:=(Zk×Int×Int×Zl×(List Int)×Bool×Int×Bool×Zl×Int×Bool×(List Int)×Int×(List Zk)×Zw)⊕(Int×Int×Zl×(List Int)×Bool×Int×Bool×Zl×Int×Bool×(List Int)×Int×(List Zk)×Zw)
abbrev t2:Type:=(Int×Int×Int×(List ByteArray)×Zw×Zl×(List ByteArray))⊕(Int×Int×Int×(List ByteArray)×Zw×Zl×(List ByteArray))⊕(Int×Int×Int×(List ByteArray)×Zw×Zl×(List ByteArray))⊕(Zl×(List ByteArray))
abbrev t1:Type:=(Bool×(Nat→ZE)×ZJ×(List Zn)×(Nat→Nat)×ZE×t1i×Zu×Zn)⊕(Bool×(Nat→ZE)×ZJ×(List Zn)×(Nat→Nat)×ZE×t1i×Zu×Zn)⊕((Nat→ZE)×ZJ×(List Zn)×(Nat→Nat)×t1i×Zu)
abbrev t0:Type:=(Int×Int×Int×Zw×Zl×t1g)⊕(Int×Int×Int×Zw×Zl×t1g)⊕(Int×Int×Int×Zw×Zl×t1g×(List Zu))⊕(Int×Int×Int×Zw×Zl×t1g×(List Zu))⊕(Zl×t1g)
abbrev vQ:Option (TV S):=some (.int .i64 0)
abbrev vP:Option (TV S):=some (.bool false)
abbrev vO:Option (TV S):=some (.sl (.st 2) [])
abbrev vN:Option (TV S):=some (.sl (.st 21) [])
abbrev vM:Option (TV S):=some (.sl (.st 18) [])
abbrev oL:Option (Zi S):=some (.row 9 .str [] 1 1)
abbrev oK:Option (Zi S):=some (.row 9 .str [] 0 0)
abbrev oJ:Option (Zi S):=some (.row 9 .str [] 1 0)
abbrev vI:Option (TV S):=some (.str ByteArray.empty)
abbrev oH:Option (Zi S):=some (.cells 163 [(.map 4)])
abbrev oG:Option (Zi S):=some (.cells 80 [(.ptr 3 0)])
abbrev oF:Option (Zi S):=some (.cells 80 [(.ptr 1 0)])
abbrev oE:Option (Zi S):=some (.row 57 (.st 2) [] 1 0)
abbrev oD:Option (Zi S):=some (.cells 80 [(.ptr 14 0)])
abbrev oC:Option (Zi S):=some (.cells 80 [(.ptr 20 0)])
abbrev oB:Option (Zi S):=some (.cells 4 [(.bool false)])
abbrev oA:Option (Zi S):=some (.map .str (.int .i64) [])
abbrev oz:Option (Zi S):=some (.cells 3 [(.int .i64 0)])
abbrev oy:Option (Zi S):=some (.siter ByteArray.empty 0)
abbrev ox:Option (Zi S):=some (.cells 32 [(.int .i64 0)])
abbrev ow:Option (Zi S):=some (.row 3 (.int .i64) [] 1 0)
abbrev vv:Option (TV S):=some (.agg [(.stc 2 (T.dflt 2))])
abbrev vu:Option (TV S):=some (.agg [(.stc 8 (T.dflt 8))])
abbrev vt:Option (TV S):=some (.agg [(.stc 21 (T.dflt 21))])
abbrev os:Option (Zi S):=some (.map (.st 23) (.int .i64) [])
abbrev vr:Option (TV S):=some (.agg [(.stc 15 (T.dflt 15))])
abbrev oq:Option (Zi S):=some (.cells 107 [(.sl (.st 3) [])])
abbrev vp:Option (TV S):=some (.fn (.func 91) [] [(.ptr 5 0)])
abbrev oo:Option (Zi S):=some (.cells 39 [(.stc 6 (T.dflt 6))])
abbrev on:Option (Zi S):=some (.cells 25 [(.stc 8 (T.dflt 8))])
abbrev om:Option (Zi S):=some (.cells 57 [(.stc 2 (T.dflt 2))])
abbrev vl:Option (TV S):=some (.fn (.func 132) [] [(.ptr 36 0)])
abbrev ok:Option (Zi S):=some (.cells 169 [(.stc 7 (T.dflt 7))])
abbrev oj:Option (Zi S):=some (.cells 109 [(.stc 4 (T.dflt 4))])
abbrev vi:Option (TV S):=some (.fn (.func 131) [] [(.ptr 23 0)])
abbrev oh:Option (Zi S):=some (.cells 148 [(.stc 3 (T.dflt 3))])
abbrev og:Option (Zi S):=some (.cells 53 [(.stc 22 (T.dflt 22))])
abbrev of:Option (Zi S):=some (.cells 72 [(.stc 21 (T.dflt 21))])
abbrev oe:Option (Zi S):=some (.cells 29 [(.stc 20 (T.dflt 20))])
abbrev od:Option (Zi S):=some (.cells 70 [(.stc 18 (T.dflt 18))])
abbrev oc:Option (Zi S):=some (.cells 115 [(.stc 19 (T.dflt 19))])
abbrev ob:Option (Zi S):=some (.cells 196 [(.stc 17 (T.dflt 17))])
abbrev oa:Option (Zi S):=some (.cells 171 [(.stc 15 (T.dflt 15))])
abbrev o9:Option (Zi S):=some (.cells 119 [(.arr (.st 5) 4 (fun _=>tdf T (.st 5)))])
abbrev o8:Option (Zi S):=some (.cells 151 [(.arr (.int .i64) 32 (fun _=>tdf T (.int .i64)))])
abbrev o7:Option (Zi S):=some (.cells 90 [(.fn (.func 45) [] [(.ptr 4 0),(.ptr 1 0),(.ptr 0 0)])])
abbrev o6:Option (Zi S):=some (.cells 90 [(.fn (.func 45) [] [(.ptr 10 0),(.ptr 23 0),(.ptr 26 0)])])
abbrev o5:Option (Zi S):=some (.cells 104 [(.stc 20 (T.dflt 20)),(.sl (.st 21) []),(.earr [97,159] 3 4 (fun _=>0)),(.map 2)])
abbrev o4:Option (Zi S):=some (.cells 104 [(.stc 20 (T.dflt 20)),(.sl (.st 21) []),(.earr [97,159] 1 4 (fun _=>0)),(.map 0)])
abbrev o3:Option (Zi S):=some (.cells 104 [(.stc 20 (T.dflt 20)),(.sl (.st 21) []),(.earr [97,159] 14 4 (fun _=>0)),(.map 13)])
abbrev o2:Option (Zi S):=some (.cells 104 [(.stc 20 (T.dflt 20)),(.sl (.st 21) []),(.earr [97,159] 20 4 (fun _=>0)),(.map 18)])
abbrev o1:Option (Zi S):=some (.loop 36 (N (N (N (N L (some (.fn (.func 108) [] [(.ptr 6 0)])) L) none L) (some (.ptr 2 0)) L) (some (.ptr 1 0)) (N L (some (.ptr 3 0)) L)) (8::[]) .skip .skip 0 .normal (0::(36::[])) (0::(1::(0::(1::[])))))
abbrev o0:Option (Zi S):=some (.loop 46 (N (N (N L (some (.ptr 3 0)) (N (N L (some (.fn (.func 108) [] [(.ptr 18 0)])) L) none L)) vQ (N L (some (.ptr 14 0)) L)) (some (.ptr 1 0)) (N (N L (some (.ptr 4 0)) L) (some (.ptr 2 0)) L)) (20::[]) .skip .skip 0 .normal (0::(46::[])) (0::(1::(0::(1::(1::[]))))))
abbrev o1D:Tr (Zi S):=N L none (N (N L oJ L) none L)
abbrev v1C:Tr (TV S):=N L none (N (N L vP L) none L)
abbrev v1B:Tr (TV S):=N (N L none (N L vQ L)) none L
abbrev o1A:Tr (Zi S):=N (N (N L om L) none L) none L
abbrev o1z:Tr (Zi S):=N (N (N L ow L) none L) none L
abbrev v1y:Tr (TV S):=N L none (N (N L vQ L) none L)
abbrev v1x:Tr (TV S):=N (N (N L vQ L) none L) none L
abbrev o1w:Tr (Zi S):=N (N (N L oy L) none L) none L
abbrev v1v:Tr (TV S):=N (N L vQ L) (some (.ptr 1 0)) L
abbrev v1u:Tr (TV S):=N (N L (some (.ptr 3 0)) L) none L
abbrev o1t:Tr (Zi S):=N (N (N L o9 L) o4 L) os (N L om L)
abbrev v1s:Tr (TV S):=N (N L (some (.ptr 0 0)) L) none (N L vQ L)
abbrev o1r:Tr (Zi S):=N (N (N L o5 L) oz L) o7 (N (N L oG L) os L)
abbrev v1q:Tr (TV S):=N (N (N L vQ L) none L) none (N (N L vQ L) vQ L)
abbrev o1p:Tr (Zi S):=N (N L none (N L oH L)) on (N (N L oA L) none L)
abbrev v1o:Tr (TV S):=N (N L none (N L vQ L)) none (N (N L vQ L) none L)
abbrev v1n:Tr (TV S):=N (N L vN L) (some (.agg [(.stc 20 (T.dflt 20))])) L
abbrev o1m:Tr (Zi S):=N L none (N (N (N (N L od L) none L) none L) none L)
abbrev v1l:Tr (TV S):=N (N (N L vQ L) (some (.ptr 6 0)) L) (some (.yld 11)) L
abbrev v1k:Tr (TV S):=N (N (N L vQ L) (some (.ptr 18 0)) L) (some (.yld 22)) L
abbrev o1j:Tr (Zi S):=N (N (N o1D none L) none L) oe L
abbrev v1i:Tr (TV S):=N L (some (.tup [(.agg [(.stc 5 (T.dflt 5))]),(.bool false)])) L
abbrev o1h:Tr (Zi S):=N (N (N L o8 L) o4 L) os (N L none (N (N (N L o9 L) om L) none L))
abbrev o1g:Tr (Zi S):=N (N L none (N L oH (N (N L oj L) none L))) on (N (N L oA L) none L)
abbrev o1f:Tr (Zi S):=N (N L og (N L none (N L none (N L oo L)))) oe (N (N L none (N L om L)) none L)
abbrev o1e:Tr (Zi S):=N (N L none (N L oH L)) on (N (N L oA L) none (N L none (N L none (N L ok L))))
abbrev v1d:Tr (TV S):=N v1C none (N v1u none L)
abbrev o1c:Tr (Zi S):=N L none (N (N (N (N L (some (.cells 37 [(.stc 5 (T.dflt 5))])) L) none L) none L) none L)
abbrev o1b:Tr (Zi S):=N (N L oC L) oe (N (N L none (N (N L o2 L) none L)) none (N (N (N L os L) none L) none L))
abbrev o1a:Tr (Zi S):=N (N (N L (some (.cells 31 [(.rs 19 0)])) (N (N L oE L) o1 L)) o4 L) os (N L oF (N L oF L))
abbrev o19:Tr (Zi S):=N (N (N L none (N L none (N (N L oK L) none L))) none (N L none (N (N L oL L) none L))) on L
abbrev o18:Tr (Zi S):=N (N L oC L) none (N (N L none (N (N L o2 L) none L)) none (N (N (N L os L) none L) none L))
abbrev o17:Tr (Zi S):=N (N (N L oz L) o4 L) os (N (N L oB L) oF (N (N (N L oF L) none L) none (N (N L o0 L) oz L)))
abbrev o16:Tr (Zi S):=N (N (N (N L om L) none L) og L) oe (N L none (N (N L (some (.row 72 (.st 21) [] 1 0)) L) none L))
abbrev v15:Tr (TV S):=N (N (N (N L vQ L) none L) (some (.fn (.func 97) [] [(.ptr 0 0)])) L) vM v1x
abbrev o14:Tr (Zi S):=N (N L none (N L oH (N (N L oj L) none L))) on (N (N L oA L) none (N (N (N L none (N L oE L)) none L) none L))
abbrev o13:Tr (Zi S):=N (N (N L ow L) none (N L none (N (N L ow L) none L))) none (N (N (N (N L ow L) none L) none (N L oh L)) none L)
abbrev o12:Tr (Zi S):=N (N (N L (some (.cells 31 [(.rs 34 0)])) (N L o1 L)) o4 L) os (N L oF (N (N (N (N L oE L) none L) none L) oF L))
abbrev o11:Tr (Zi S):=N (N (N (N L none (N L oz L)) none L) none (N L none (N L os L))) oe (N L none (N (N L oD (N L o6 L)) none (N L o3 L)))
abbrev o10:Tr (Zi S):=N (N (N (N (N (N L oK L) none L) none L) none L) none (N L none (N (N L oj L) none L))) on (N L none (N (N L oL L) none L))
abbrev vZ:Tr (TV S):=N (N (N L none (N L vQ L)) (some (.fn (.func 66) [] [])) (N (N L (some (.sl (.st 19) [])) L) none L)) none v1y
abbrev oY:Tr (Zi S):=N (N (N (N L none (N (N L oL L) none L)) none L) none L) oe (N (N L none (N L none (N L none (N L oK L)))) none (N (N (N L none (N L od L)) none L) none L))
abbrev vX:Tr (TV S):=N (N (N L vQ L) none (N (N (N L vQ L) (some (.ptr 3 0)) L) none L)) (some (.ptr 1 0)) (N (N (N (N L vO L) none L) none L) vQ v1x)
abbrev oW:Tr (Zi S):=N (N (N (N L none (N L oz L)) none L) none (N (N L none (N (N L ow L) none L)) none (N L os L))) oe (N (N (N L none (N (N L ow L) none L)) none L) none (N (N L oD (N L o6 L)) none (N L o3 L)))
abbrev oV:Tr (Zi S):=N (N (N L none (N L os L)) oo (N (N L none (N L om L)) none L)) oe (N (N L none (N L (some (.cells 104 [(.stc 20 (T.dflt 20)),(.sl (.st 21) []),(.earr [97,159] 12 4 (fun _=>0)),(.map 11)])) L)) none (N (N L none (N (N L oE L) none L)) none L))
abbrev oU:Tr (Zi S):=N (N (N (N L none (N L oa L)) none (N L none (N L (some (.loop 95 (N (N (N (N (N L vP L) none L) vQ L) (some (.ptr 0 0)) (N (N L none (N L vP L)) none L)) vr (N (N (N L vP L) none (N L none (N L vi L))) (some (.ptr 1 0)) L)) (29::[]) .skip .skip 1 .normal (1::(95::[])) (0::(1::(0::(1::(1::(1::[])))))))) L))) ox L) oa (N L none (N L ow o1A))
abbrev oT:Tr (Zi S):=N (N (N (N L none (N L oa L)) none (N L none (N L (some (.loop 95 (N (N (N (N (N L vP L) none L) vQ L) (some (.ptr 0 0)) (N (N L none (N L vP L)) none L)) vr (N (N (N L vP L) none (N L none (N L vi L))) (some (.ptr 1 0)) L)) (29::[]) .skip .skip 1 .busy (1::(95::[])) (0::(1::(0::(1::(1::(1::[])))))))) L))) ox L) oa (N L none (N (N L none (N L none (N L ob L))) none L))
abbrev oS:Tr (Zi S):=N (N (N L oz L) oz L) on (N (N (N (N L ow L) none (N (N L (some (.loop 109 (N (N (N (N L (some (.ptr 3 0)) L) (some (.ptr 0 0)) (N L none (N (N L vl L) vP L))) vQ (N (N (N L vP L) none L) none L)) vu (N (N (N L (some (.ptr 4 0)) L) (some (.ptr 1 0)) L) vQ (N L (some (.ptr 2 0)) (N (N L vP L) none L)))) (44::(45::[])) .skip .skip 1 .normal (1::(109::[])) (0::(1::(0::(1::(1::(1::(1::[]))))))))) L) ow L)) ox (N (N (N L oq L) none L) none L)) oj L)
abbrev oR:Tr (Zi S):=N (N (N L oz L) o4 (N (N L none (N L none (N (N L o9 L) none L))) none (N o1A none L))) os (N (N L oB L) oF (N (N (N L oF L) none L) none (N (N L (some (.loop 46 (N (N (N L (some (.ptr 3 0)) (N (N L (some (.fn (.func 108) [] [(.ptr 18 0)])) L) none L)) vQ (N L (some (.ptr 14 0)) L)) (some (.ptr 1 0)) (N (N L (some (.ptr 4 0)) L) (some (.ptr 2 0)) L)) (20::[]) .skip .skip 0 .ret (0::(46::[])) (0::(1::(0::(1::(1::[]))))))) L) oz L)))
def q0 {R:Type}:Prs S R:=Zhf
theorem q1 {R:Type}:Z7R X (q0 (R:=R)):=Zhg X
def q2:List (Nat×F7 S):=[]
theorem q3:Z9n X (q2):=trivial
abbrev q4 {R:Type}:Z27 S R:=Zgi
theorem q5 {R:Type}:Z3J X (q4 (R:=R)):=ZgQ X
def q6:Key:=⟨[92],92,none,[0,0,1,0,1,1],0,4⟩
def q7:StT S:=⟨(N (N (N (N L (some (.iter 3)) L) (some (.int .i32 0)) L) none L) vI L),o1w,4⟩
def q8:Way S:=⟨.ret,⟨(N L none (N L vP L)),o1w,23⟩,[.bool,.str,.nat]⟩
def q9:Way S:=⟨(.exit 0),⟨(N (N (N L (some (.int .i32 0)) L) none L) vI L),o1w,6⟩,[.int,.str,.str,.nat]⟩
def qa:LE S:=⟨q6,q7,[.int,.str,.str,.nat],[q8,q9]⟩
def qb (x:t12):((Bool×Nat)⊕(Int×Nat))→tL:=Sum.elim (fun y0=>(.inl (y0.1,x.2.2.1,y0.2))) (fun y1=>(.inr (y1.1,x.2.1,x.2.2.1,y1.2)))
def qc {R:Type} (x:t12) (k:tL→Option R):Option R:=(X4M x.2.1 x.2.2.1 (x.1,x.2.2.2)).bind (Sum.elim (fun y0=>k (.inl (y0.1,x.2.2.1,y0.2))) (fun y1=>k (.inr (y1.1,x.2.1,x.2.2.1,y1.2))))
def qd (x:t12) (v:(Int×Nat)):t12:=(v.1,x.2.1,x.2.2.1,v.2)
theorem qe (x:t12):LE.step X qa q2 q0 q4 12 x=X1b x.2.1 x.2.2.1 x.1 x.2.2.2 (fun w0 w1=>(Sum.inl (w0,x.2.1,x.2.2.1,w1))) (fun p0 p1=>(Sum.inr (.inl (p0,x.2.2.1,p1)))) (fun p0 p1=>(Sum.inr (.inr (p0,x.2.1,x.2.2.1,p1)))):=by kernel_rfl
theorem qg {R:Type} (x:t12) (k:tL→Option R) (r:R) (h:qc x k=some r):∃ o,Z5s (LE.step X qa q2 q0 q4 12) x o∧k o=some r:=by
 obtain ⟨o,h1,h2⟩:=Z0 h
 exact ⟨qb x o,Zhl (st:=fun (x:t12)=>X19 x.2.1 x.2.2.1) (prj:=fun x=>(x.1,x.2.2.2)) (emb:=qd) (embO:=qb) (fun x=>(qe x).trans (by unfold X19 X1b;simp only [Zhd,Zh8,Zhe,Option.map_some,Option.map_none];rfl)) (fun _ _=>rfl) (fun _ _=>rfl) (fun _ _ _=>rfl) (fun _ _ _=>rfl) (fun _=>rfl) (Z1S.1 h1),by
  first
  | exact h2
  | (rcases o with o|o<;>exact h2)⟩
def qh {R:Type}:Z27 S R:=LE.ls X qa qc q4
theorem qi {R:Type}:Z3J X (qh (R:=R)):=Zhq xok q3 (e:=qa) q1 q5 qg q5
theorem qj (x0:ByteArray):Zhs X q2 [.str] [.bool] q0 qh 12 92 (x0,())=X30 x0:=by kernel_rfl
def qk:F7 S:=⟨[.str],[.bool],fun xs=>X30 xs.1⟩
theorem ql:Z7Q X 92 qk:=Zho (Zhn xok q3 q1 qi 12 92) fun xs _ h=>(qj xs.1).trans h
def qm:List (Nat×F7 S):=[]
theorem qn:Z9n X (qm):=trivial
abbrev qo {R:Type}:Z27 S R:=Zgi
theorem qp {R:Type}:Z3J X (qo (R:=R)):=ZgQ X
def qq:Key:=⟨[114,2,1,89,2,1,117],114,none,[0,0,1,0,1],0,17⟩
def qr:StT S:=⟨(N (N (N (N L vQ L) none L) (some (.fn (.func 130) [] [(.ptr 0 0),(.ptr 1 0)])) L) (some (.sl (.int .i64) [])) v1x),(N (N L oz L) oz L),17⟩
def qs:Way S:=⟨.ret,⟨v1y,(N (N L oz L) oz L),38⟩,[.int,.int,.int]⟩
def qt:Way S:=⟨(.exit 0),⟨L,(N (N L oz L) oz L),18⟩,[.int,.int]⟩
def qu:LE S:=⟨qq,qr,[.int,(.lst (.int .i64)),.int,.int,.int],[qs,qt]⟩
def qv (x:t10):(Int⊕Unit)→t17:=Sum.elim (fun y0=>(.inl (y0,x.2.2.2.1,x.2.2.2.2))) (fun y1=>(.inr (x.2.2.2.1,x.2.2.2.2)))
def qw {R:Type} (x:t10) (k:t17→Option R):Option R:=(X5a x.1 x.2.1 x.2.2.2.1 x.2.2.2.2 x.2.2.1).bind (Sum.elim (fun y0=>k (.inl (y0,x.2.2.2.1,x.2.2.2.2))) (fun y1=>k (.inr (x.2.2.2.1,x.2.2.2.2))))
def qx (x:t10) (v:Int):t10:=(x.1,x.2.1,v,x.2.2.2.1,x.2.2.2.2)
theorem qy (x:t10):LE.step X qu qm q0 qo 12 x=X1C x.1 x.2.1 x.2.2.2.1 x.2.2.2.2 x.2.2.1 (fun w0=>(Sum.inl (x.1,x.2.1,w0,x.2.2.2.1,x.2.2.2.2))) (fun p0=>(Sum.inr (.inl (p0,x.2.2.2.1,x.2.2.2.2)))) (Sum.inr (.inr (x.2.2.2.1,x.2.2.2.2))):=by kernel_rfl
theorem qA {R:Type} (x:t10) (k:t17→Option R) (r:R) (h:qw x k=some r):∃ o,Z5s (LE.step X qu qm q0 qo 12) x o∧k o=some r:=by
 obtain ⟨o,h1,h2⟩:=Z0 h
 exact ⟨qv x o,Zhl (st:=fun (x:t10)=>X1v x.1 x.2.1 x.2.2.2.1 x.2.2.2.2) (prj:=fun x=>x.2.2.1) (emb:=qx) (embO:=qv) (fun x=>(qy x).trans (by unfold X1v X1C;simp only [Zhd,Zh8,Zhe,Option.map_some,Option.map_none];rfl)) (fun _ _=>rfl) (fun _ _=>rfl) (fun _ _ _=>rfl) (fun _ _ _=>rfl) (fun _=>rfl) (Z1S.1 h1),by
  first
  | exact h2
  | (rcases o with o|o<;>exact h2)⟩
def qB {R:Type}:Z27 S R:=LE.ls X qu qw qo
theorem qC {R:Type}:Z3J X (qB (R:=R)):=Zhq xok qn (e:=qu) q1 qp qA qp
theorem qD (x0:Int) (x1:Int) (x2:List Int):Zhs X qm [(.int .i64),(.int .i64),(.sl (.int .i64))] [.bool] q0 qB 12 117 (x0,x1,x2,())=X1u x0 x1 x2:=by kernel_rfl
def qE:F7 S:=⟨[(.int .i64),(.int .i64),(.sl (.int .i64))],[.bool],fun xs=>X1u xs.1 xs.2.1 xs.2.2.1⟩
theorem qF:Z7Q X 117 qE:=Zho (Zhn xok qn q1 qC 12 117) fun xs _ h=>(qD xs.1 xs.2.1 xs.2.2.1).trans h
def qG:List (Nat×F7 S):=[(117,qE)]
theorem qH:Z9n X (qG):=⟨qF,trivial⟩
abbrev qI {R:Type}:Z27 S R:=Zgi
theorem qJ {R:Type}:Z3J X (qI (R:=R)):=ZgQ X
def qK:Key:=⟨[129,2,1,115,2,1,93],129,none,[0,0,1,0,1],0,16⟩
def qL:StT S:=⟨(N (N (N (N L vQ L) none L) (some (.fn (.func 116) [] [(.ptr 0 0)])) L) vO v1x),(N L oz L),16⟩
def qM:Way S:=⟨.ret,⟨v1y,(N (N L none (N (N L none (N L om L)) none L)) oz (N L none (N o1z none L))),39⟩,[.int,(.st 2),.int,(.lst (.int .i64))]⟩
def qN:Way S:=⟨(.exit 0),⟨L,(N L oz L),17⟩,[.int]⟩
def qO:LE S:=⟨qK,qL,[.int,(.lst (.st 2)),.int,.int],[qM,qN]⟩
def qP (x:t18):((Int×Zu×(List Int))⊕Unit)→((Int×Zu×Int×(List Int))⊕Int):=Sum.elim (fun y0=>(.inl (y0.1,y0.2.1,x.2.2.2,y0.2.2))) (fun y1=>(.inr x.2.2.2))
def qQ {R:Type} (x:t18) (k:((Int×Zu×Int×(List Int))⊕Int)→Option R):Option R:=(X58 x.1 x.2.1 x.2.2.2 x.2.2.1).bind (Sum.elim (fun y0=>k (.inl (y0.1,y0.2.1,x.2.2.2,y0.2.2))) (fun y1=>k (.inr x.2.2.2)))
def qR (x:t18) (v:Int):t18:=(x.1,x.2.1,v,x.2.2.2)
theorem qS (x:t18):LE.step X qO qG q0 qI 12 x=X1B x.1 x.2.1 x.2.2.2 x.2.2.1 (fun w0=>(Sum.inl (x.1,x.2.1,w0,x.2.2.2))) (fun p0 p1 p2=>(Sum.inr (.inl (p0,p1,x.2.2.2,p2)))) (Sum.inr (.inr x.2.2.2)):=by kernel_rfl
theorem qU {R:Type} (x:t18) (k:((Int×Zu×Int×(List Int))⊕Int)→Option R) (r:R) (h:qQ x k=some r):∃ o,Z5s (LE.step X qO qG q0 qI 12) x o∧k o=some r:=by
 obtain ⟨o,h1,h2⟩:=Z0 h
 exact ⟨qP x o,Zhl (st:=fun (x:t18)=>X1t x.1 x.2.1 x.2.2.2) (prj:=fun x=>x.2.2.1) (emb:=qR) (embO:=qP) (fun x=>(qS x).trans (by unfold X1t X1B;simp only [Zhd,Zh8,Zhe,Option.map_some,Option.map_none];rfl)) (fun _ _=>rfl) (fun _ _=>rfl) (fun _ _ _=>rfl) (fun _ _ _=>rfl) (fun _=>rfl) (Z1S.1 h1),by
  first
  | exact h2
  | (rcases o with o|o<;>exact h2)⟩
def qV {R:Type}:Z27 S R:=LE.ls X qO qQ qI
theorem qW {R:Type}:Z3J X (qV (R:=R)):=Zhq xok qH (e:=qO) q1 qJ qU qJ
theorem qX (x0:Int) (x1:List Zu):Zhs X qG [(.int .i64),(.sl (.st 2))] [.bool] q0 qV 12 93 (x0,x1,())=X4n x0 x1:=by kernel_rfl
def qY:F7 S:=⟨[(.int .i64),(.sl (.st 2))],[.bool],fun xs=>X4n xs.1 xs.2.1⟩
theorem qZ:Z7Q X 93 qY:=Zho (Zhn xok qH q1 qW 12 93) fun xs _ h=>(qX xs.1 xs.2.1).trans h
def q10:List (Nat×F7 S):=[(117,qE)]
theorem q11:Z9n X (q10):=⟨qF,trivial⟩
abbrev q12 {R:Type}:Z27 S R:=Zgi
theorem q13 {R:Type}:Z3J X (q12 (R:=R)):=ZgQ X
def q14:Key:=⟨[94],94,none,[0,0,1,0,1,1,1],0,9⟩
def q15:StT S:=⟨(N (N (N L vQ (N L vQ L)) none L) none (N (N L none (N L vQ L)) none (N (N L (some (.sl (.st 3) [])) L) none L))),o1z,9⟩
def q16:Way S:=⟨.ret,⟨(N L none (N L vQ L)),(N (N (N L ow L) none L) none (N (N (N (N L ow L) none L) none (N L oh L)) none L)),26⟩,[.int,(.lst (.int .i64)),(.lst (.int .i64)),(.st 3)]⟩
def q17:Way S:=⟨.ret,⟨(N L none (N L vQ L)),o13,26⟩,[.int,(.lst (.int .i64)),(.lst (.int .i64)),(.lst (.int .i64)),(.st 3)]⟩
def q18:Way S:=⟨.ret,⟨(N L none (N L vQ L)),o13,31⟩,[.int,(.lst (.int .i64)),(.lst (.int .i64)),(.lst (.int .i64)),(.st 3)]⟩
def q19:Way S:=⟨(.exit 0),⟨L,o1z,10⟩,[(.lst (.int .i64))]⟩
def q1a:LE S:=⟨q14,q15,[.int,.int,.int,(.lst (.st 3)),(.lst (.int .i64))],[q16,q17,q18,q19]⟩
def q1b (x:tX):((Int×(List Int)×Zk)⊕(Int×(List Int)×(List Int)×Zk)⊕(Int×(List Int)×(List Int)×Zk)⊕Unit)→t9:=Sum.elim (fun y0=>(.inl (y0.1,x.2.2.2.2,y0.2.1,y0.2.2))) (Sum.elim (fun y1=>(.inr (.inl (y1.1,x.2.2.2.2,y1.2.1,y1.2.2.1,y1.2.2.2)))) (Sum.elim (fun y2=>(.inr (.inr (.inl (y2.1,x.2.2.2.2,y2.2.1,y2.2.2.1,y2.2.2.2))))) (fun y3=>(.inr (.inr (.inr x.2.2.2.2))))))
def q1c {R:Type} (x:tX) (k:t9→Option R):Option R:=(X4e x.2.1 x.2.2.2.1 x.2.2.2.2 (x.1,x.2.2.1)).bind (Sum.elim (fun y0=>k (.inl (y0.1,x.2.2.2.2,y0.2.1,y0.2.2))) (Sum.elim (fun y1=>k (.inr (.inl (y1.1,x.2.2.2.2,y1.2.1,y1.2.2.1,y1.2.2.2)))) (Sum.elim (fun y2=>k (.inr (.inr (.inl (y2.1,x.2.2.2.2,y2.2.1,y2.2.2.1,y2.2.2.2))))) (fun y3=>k (.inr (.inr (.inr x.2.2.2.2)))))))
def q1d (x:tX) (v:(Int×Int)):tX:=(v.1,x.2.1,v.2,x.2.2.2.1,x.2.2.2.2)
theorem q1e (x:tX):LE.step X q1a q10 q0 q12 12 x=Wp x.2.1 x.2.2.2.1 x.2.2.2.2 x.1 x.2.2.1 (fun w0 w1=>(Sum.inl (w0,x.2.1,w1,x.2.2.2.1,x.2.2.2.2))) (fun p0 p1 p2=>(Sum.inr (.inl (p0,x.2.2.2.2,p1,p2)))) (fun p0 p1 p2 p3=>(Sum.inr (.inr (.inl (p0,x.2.2.2.2,p1,p2,p3))))) (fun p0 p1 p2 p3=>(Sum.inr (.inr (.inr (.inl (p0,x.2.2.2.2,p1,p2,p3)))))) (Sum.inr (.inr (.inr (.inr x.2.2.2.2)))):=by kernel_rfl
theorem q1g {R:Type} (x:tX) (k:t9→Option R) (r:R) (h:q1c x k=some r):∃ o,Z5s (LE.step X q1a q10 q0 q12 12) x o∧k o=some r:=by
 obtain ⟨o,h1,h2⟩:=Z0 h
 exact ⟨q1b x o,Zhl (st:=fun (x:tX)=>We x.2.1 x.2.2.2.1 x.2.2.2.2) (prj:=fun x=>(x.1,x.2.2.1)) (emb:=q1d) (embO:=q1b) (fun x=>(q1e x).trans (by unfold We Wp;simp only [Zhd,Zh8,Zhe,Option.map_some,Option.map_none];rfl)) (fun _ _=>rfl) (fun _ _=>rfl) (fun _ _ _=>rfl) (fun _ _ _=>rfl) (fun _=>rfl) (Z1S.1 h1),by
  first
  | exact h2
  | (rcases o with o|o|o|o<;>exact h2)⟩
def q1h {R:Type}:Z27 S R:=LE.ls X q1a q1c q12
theorem q1i {R:Type}:Z3J X (q1h (R:=R)):=Zhq xok q11 (e:=q1a) q1 q13 q1g q13
theorem q1j (x0:List Zk):Zhs X q10 [(.sl (.st 3))] [(.int .i64)] q0 q1h 12 94 (x0,())=X3j x0:=by kernel_rfl
def q1k:F7 S:=⟨[(.sl (.st 3))],[(.int .i64)],fun xs=>X3j xs.1⟩
theorem q1l:Z7Q X 94 q1k:=Zho (Zhn xok q11 q1 q1i 12 94) fun xs _ h=>(q1j xs.1).trans h
def q1m:List (Nat×F7 S):=[(117,qE)]
theorem q1n:Z9n X (q1m):=⟨qF,trivial⟩
abbrev q1o {R:Type}:Z27 S R:=Zgi
theorem q1p {R:Type}:Z3J X (q1o (R:=R)):=ZgQ X
theorem q1q (x0:ZB) (x1:Int):Zhs X q1m [(.st 6),(.int .i64)] [(.int .i64)] q0 q1o 12 118 (x0,x1,())=X57 x0 x1:=by kernel_rfl
def q1r:F7 S:=⟨[(.st 6),(.int .i64)],[(.int .i64)],fun xs=>X57 xs.1 xs.2.1⟩
theorem q1s:Z7Q X 118 q1r:=Zho (Zhn xok q1n q1 q1p 12 118) fun xs _ h=>(q1q xs.1 xs.2.1).trans h
def q1t:List (Nat×F7 S):=[]
theorem q1u:Z9n X (q1t):=trivial
abbrev q1v {R:Type}:Z27 S R:=Zgi
theorem q1w {R:Type}:Z3J X (q1v (R:=R)):=ZgQ X
theorem q1x (x0:Zu) (x1:Zu):Zhs X q1t [(.st 2),(.st 2)] [(.st 2)] q0 q1v 12 121 (x0,x1,())=X7O x0 x1:=by kernel_rfl
def q1y:F7 S:=⟨[(.st 2),(.st 2)],[(.st 2)],fun xs=>X7O xs.1 xs.2.1⟩
theorem q1z:Z7Q X 121 q1y:=Zho (Zhn xok q1u q1 q1w 12 121) fun xs _ h=>(q1x xs.1 xs.2.1).trans h
def q1A:List (Nat×F7 S):=[]
theorem q1B:Z9n X (q1A):=trivial
abbrev q1C {R:Type}:Z27 S R:=Zgi
theorem q1D {R:Type}:Z3J X (q1C (R:=R)):=ZgQ X
theorem q1E (x0:Zu) (x1:Zu):Zhs X q1A [(.st 2),(.st 2)] [(.int .i64)] q0 q1C 12 120 (x0,x1,())=X7P x0 x1:=by kernel_rfl
def q1F:F7 S:=⟨[(.st 2),(.st 2)],[(.int .i64)],fun xs=>X7P xs.1 xs.2.1⟩
theorem q1G:Z7Q X 120 q1F:=Zho (Zhn xok q1B q1 q1D 12 120) fun xs _ h=>(q1E xs.1 xs.2.1).trans h
def q1H:List (Nat×F7 S):=[(117,qE),(93,qY),(118,q1r),(121,q1y),(120,q1F)]
theorem q1I:Z9n X (q1H):=⟨qF,qZ,q1s,q1z,q1G,trivial⟩
abbrev q1J {R:Type}:Z27 S R:=Zgi
theorem q1K {R:Type}:Z3J X (q1J (R:=R)):=ZgQ X
def q1L:Key:=⟨[27,6,4,131,1,95],95,(some 27),[0,0,1,0,1,0,1,0,1,0,1,1,1],3,66⟩
def q1M:StT S:=⟨(N (N L none (N v1x vQ L)) none (N (N (N (N (N L vO L) none L) none L) (some (.ptr 58 0)) L) (some (.ptr 1 0)) (N v1x none L))),oT,66⟩
def q1N:Way S:=⟨(.exit 3),⟨(N (N L none (N L vQ L)) none (N (N L (some (.ptr 58 0)) L) (some (.ptr 1 0)) L)),oT,67⟩,[.int,(.st 15),.bool,.int,.bool,(.st 15),.bool,.int,(.st 15),(.st 17)]⟩
def q1O:LE S:=⟨q1L,q1M,[.int,.int,(.lst (.st 2)),.int,(.st 15),.bool,.int,.bool,(.st 15),.bool,.int,(.st 15),(.st 17)],[q1N]⟩
def q1P (x:tl):Int→ty:=fun y0=>(y0,x.2.2.2.2.1,x.2.2.2.2.2.1,x.2.2.2.2.2.2.1,x.2.2.2.2.2.2.2.1,x.2.2.2.2.2.2.2.2.1,x.2.2.2.2.2.2.2.2.2.1,x.2.2.2.2.2.2.2.2.2.2.1,x.2.2.2.2.2.2.2.2.2.2.2.1,x.2.2.2.2.2.2.2.2.2.2.2.2)
def q1Q {R:Type} (x:tl) (k:ty→Option R):Option R:=(WA x.1 x.2.2.1 x.2.2.2.2.1 x.2.2.2.2.2.1 x.2.2.2.2.2.2.1 x.2.2.2.2.2.2.2.1 x.2.2.2.2.2.2.2.2.1 x.2.2.2.2.2.2.2.2.2.1 x.2.2.2.2.2.2.2.2.2.2.1 x.2.2.2.2.2.2.2.2.2.2.2.1 x.2.2.2.2.2.2.2.2.2.2.2.2 (x.2.1,x.2.2.2.1)).bind (fun y0=>k (y0,x.2.2.2.2.1,x.2.2.2.2.2.1,x.2.2.2.2.2.2.1,x.2.2.2.2.2.2.2.1,x.2.2.2.2.2.2.2.2.1,x.2.2.2.2.2.2.2.2.2.1,x.2.2.2.2.2.2.2.2.2.2.1,x.2.2.2.2.2.2.2.2.2.2.2.1,x.2.2.2.2.2.2.2.2.2.2.2.2))
def q1R (x:tl) (v:(Int×Int)):tl:=(x.1,v.1,x.2.2.1,v.2,x.2.2.2.2.1,x.2.2.2.2.2.1,x.2.2.2.2.2.2.1,x.2.2.2.2.2.2.2.1,x.2.2.2.2.2.2.2.2.1,x.2.2.2.2.2.2.2.2.2.1,x.2.2.2.2.2.2.2.2.2.2.1,x.2.2.2.2.2.2.2.2.2.2.2.1,x.2.2.2.2.2.2.2.2.2.2.2.2)
theorem q1S (x:tl):LE.step X q1O q1H q0 q1J 12 x=Xy x.1 x.2.2.1 x.2.2.2.2.1 x.2.2.2.2.2.1 x.2.2.2.2.2.2.1 x.2.2.2.2.2.2.2.1 x.2.2.2.2.2.2.2.2.1 x.2.2.2.2.2.2.2.2.2.1 x.2.2.2.2.2.2.2.2.2.2.1 x.2.2.2.2.2.2.2.2.2.2.2.1 x.2.2.2.2.2.2.2.2.2.2.2.2 x.2.1 x.2.2.2.1 (fun w0 w1=>(Sum.inl (x.1,w0,x.2.2.1,w1,x.2.2.2.2.1,x.2.2.2.2.2.1,x.2.2.2.2.2.2.1,x.2.2.2.2.2.2.2.1,x.2.2.2.2.2.2.2.2.1,x.2.2.2.2.2.2.2.2.2.1,x.2.2.2.2.2.2.2.2.2.2.1,x.2.2.2.2.2.2.2.2.2.2.2.1,x.2.2.2.2.2.2.2.2.2.2.2.2))) (fun p0=>(Sum.inr (p0,x.2.2.2.2.1,x.2.2.2.2.2.1,x.2.2.2.2.2.2.1,x.2.2.2.2.2.2.2.1,x.2.2.2.2.2.2.2.2.1,x.2.2.2.2.2.2.2.2.2.1,x.2.2.2.2.2.2.2.2.2.2.1,x.2.2.2.2.2.2.2.2.2.2.2.1,x.2.2.2.2.2.2.2.2.2.2.2.2))):=by kernel_rfl
theorem q1U {R:Type} (x:tl) (k:ty→Option R) (r:R) (h:q1Q x k=some r):∃ o,Z5s (LE.step X q1O q1H q0 q1J 12) x o∧k o=some r:=by
 obtain ⟨o,h1,h2⟩:=Z0 h
 exact ⟨q1P x o,Zhl (st:=fun (x:tl)=>Xq x.1 x.2.2.1 x.2.2.2.2.1 x.2.2.2.2.2.1 x.2.2.2.2.2.2.1 x.2.2.2.2.2.2.2.1 x.2.2.2.2.2.2.2.2.1 x.2.2.2.2.2.2.2.2.2.1 x.2.2.2.2.2.2.2.2.2.2.1 x.2.2.2.2.2.2.2.2.2.2.2.1 x.2.2.2.2.2.2.2.2.2.2.2.2) (prj:=fun x=>(x.2.1,x.2.2.2.1)) (emb:=q1R) (embO:=q1P) (fun x=>(q1S x).trans (by unfold Xq Xy;simp only [Zhd,Zh8,Zhe,Option.map_some,Option.map_none];rfl)) (fun _ _=>rfl) (fun _ _=>rfl) (fun _ _ _=>rfl) (fun _ _ _=>rfl) (fun _=>rfl) (Z1S.1 h1),by
  first
  | exact h2
  | (rcases o with o<;>exact h2)⟩
def q1V {R:Type}:Z27 S R:=LE.ls X q1O q1Q q1J
theorem q1W {R:Type}:Z3J X (q1V (R:=R)):=Zhq xok q1I (e:=q1O) q1 q1K q1U q1K
def q1X:Key:=⟨[131,1,95],131,none,[0,0,1,1],0,45⟩
def q1Y:StT S:=⟨(N (N (N L (some (.ptr 38 0)) (N (N L vQ L) none L)) none L) (some (.yld 27)) (N v1y none (N (N (N L vO L) none L) none L))),oU,45⟩
def q1Z:Way S:=⟨.ret,⟨L,(N (N (N (N L none (N L oa L)) none (N L none (N L (some (.loop 95 (N (N (N (N (N L vP L) none L) vQ L) (some (.ptr 0 0)) (N (N L none (N L vP L)) none L)) vr (N (N (N L vP L) none (N L none (N L vi L))) (some (.ptr 1 0)) L)) (29::[]) .skip .skip 1 .ret (1::(95::[])) (0::(1::(0::(1::(1::(1::[])))))))) L))) ox L) oa (N (N (N (N L none (N L om L)) none L) none L) none (N (N L none (N L none (N L ob L))) ow o1A))),76⟩,[(.st 15),.bool,.int,.bool,(.st 15),.bool,.int,(.st 15),(.st 2),(.st 17),(.lst (.int .i64)),(.st 2)]⟩
def q20:Way S:=⟨(.exit 0),⟨L,oU,46⟩,[(.st 15),.bool,.int,.bool,(.st 15),.bool,.int,(.st 15),(.lst (.int .i64)),(.st 2)]⟩
def q21:LE S:=⟨q1X,q1Y,[.int,.int,(.lst (.st 2)),(.st 15),.bool,.int,.bool,(.st 15),.bool,.int,(.st 15),(.lst (.int .i64)),(.st 2)],[q1Z,q20]⟩
def q22 (x:tk):((Int×Zu×Z6×Zu)⊕Zu)→t6:=Sum.elim (fun y0=>(.inl (x.2.2.2.1,x.2.2.2.2.1,x.2.2.2.2.2.1,x.2.2.2.2.2.2.1,x.2.2.2.2.2.2.2.1,x.2.2.2.2.2.2.2.2.1,y0.1,x.2.2.2.2.2.2.2.2.2.2.1,y0.2.1,y0.2.2.1,x.2.2.2.2.2.2.2.2.2.2.2.1,y0.2.2.2))) (fun y1=>(.inr (x.2.2.2.1,x.2.2.2.2.1,x.2.2.2.2.2.1,x.2.2.2.2.2.2.1,x.2.2.2.2.2.2.2.1,x.2.2.2.2.2.2.2.2.1,x.2.2.2.2.2.2.2.2.2.1,x.2.2.2.2.2.2.2.2.2.2.1,x.2.2.2.2.2.2.2.2.2.2.2.1,y1)))
def q23 {R:Type} (x:tk) (k:t6→Option R):Option R:=(X39 x.1 x.2.2.1 x.2.2.2.1 x.2.2.2.2.1 x.2.2.2.2.2.1 x.2.2.2.2.2.2.1 x.2.2.2.2.2.2.2.1 x.2.2.2.2.2.2.2.2.1 x.2.2.2.2.2.2.2.2.2.1 x.2.2.2.2.2.2.2.2.2.2.1 x.2.2.2.2.2.2.2.2.2.2.2.1 (x.2.1,x.2.2.2.2.2.2.2.2.2.2.2.2)).bind (Sum.elim (fun y0=>k (.inl (x.2.2.2.1,x.2.2.2.2.1,x.2.2.2.2.2.1,x.2.2.2.2.2.2.1,x.2.2.2.2.2.2.2.1,x.2.2.2.2.2.2.2.2.1,y0.1,x.2.2.2.2.2.2.2.2.2.2.1,y0.2.1,y0.2.2.1,x.2.2.2.2.2.2.2.2.2.2.2.1,y0.2.2.2))) (fun y1=>k (.inr (x.2.2.2.1,x.2.2.2.2.1,x.2.2.2.2.2.1,x.2.2.2.2.2.2.1,x.2.2.2.2.2.2.2.1,x.2.2.2.2.2.2.2.2.1,x.2.2.2.2.2.2.2.2.2.1,x.2.2.2.2.2.2.2.2.2.2.1,x.2.2.2.2.2.2.2.2.2.2.2.1,y1))))
def q24 (x:tk) (v:(Int×Zu)):tk:=(x.1,v.1,x.2.2.1,x.2.2.2.1,x.2.2.2.2.1,x.2.2.2.2.2.1,x.2.2.2.2.2.2.1,x.2.2.2.2.2.2.2.1,x.2.2.2.2.2.2.2.2.1,x.2.2.2.2.2.2.2.2.2.1,x.2.2.2.2.2.2.2.2.2.2.1,x.2.2.2.2.2.2.2.2.2.2.2.1,v.2)
theorem q25 (x:tk):LE.step X q21 q1H q0 q1V 12 x=Xx x.1 x.2.2.1 x.2.2.2.1 x.2.2.2.2.1 x.2.2.2.2.2.1 x.2.2.2.2.2.2.1 x.2.2.2.2.2.2.2.1 x.2.2.2.2.2.2.2.2.1 x.2.2.2.2.2.2.2.2.2.1 x.2.2.2.2.2.2.2.2.2.2.1 x.2.2.2.2.2.2.2.2.2.2.2.1 x.2.1 x.2.2.2.2.2.2.2.2.2.2.2.2 (fun w0 w1=>(Sum.inl (x.1,w0,x.2.2.1,x.2.2.2.1,x.2.2.2.2.1,x.2.2.2.2.2.1,x.2.2.2.2.2.2.1,x.2.2.2.2.2.2.2.1,x.2.2.2.2.2.2.2.2.1,x.2.2.2.2.2.2.2.2.2.1,x.2.2.2.2.2.2.2.2.2.2.1,x.2.2.2.2.2.2.2.2.2.2.2.1,w1))) (fun p0 p1 p2 p3=>(Sum.inr (.inl (x.2.2.2.1,x.2.2.2.2.1,x.2.2.2.2.2.1,x.2.2.2.2.2.2.1,x.2.2.2.2.2.2.2.1,x.2.2.2.2.2.2.2.2.1,p0,x.2.2.2.2.2.2.2.2.2.2.1,p1,p2,x.2.2.2.2.2.2.2.2.2.2.2.1,p3)))) (fun p0=>(Sum.inr (.inr (x.2.2.2.1,x.2.2.2.2.1,x.2.2.2.2.2.1,x.2.2.2.2.2.2.1,x.2.2.2.2.2.2.2.1,x.2.2.2.2.2.2.2.2.1,x.2.2.2.2.2.2.2.2.2.1,x.2.2.2.2.2.2.2.2.2.2.1,x.2.2.2.2.2.2.2.2.2.2.2.1,p0)))):=by kernel_rfl
theorem q27 {R:Type} (x:tk) (k:t6→Option R) (r:R) (h:q23 x k=some r):∃ o,Z5s (LE.step X q21 q1H q0 q1V 12) x o∧k o=some r:=by
 obtain ⟨o,h1,h2⟩:=Z0 h
 exact ⟨q22 x o,Zhl (st:=fun (x:tk)=>Xp x.1 x.2.2.1 x.2.2.2.1 x.2.2.2.2.1 x.2.2.2.2.2.1 x.2.2.2.2.2.2.1 x.2.2.2.2.2.2.2.1 x.2.2.2.2.2.2.2.2.1 x.2.2.2.2.2.2.2.2.2.1 x.2.2.2.2.2.2.2.2.2.2.1 x.2.2.2.2.2.2.2.2.2.2.2.1) (prj:=fun x=>(x.2.1,x.2.2.2.2.2.2.2.2.2.2.2.2)) (emb:=q24) (embO:=q22) (fun x=>(q25 x).trans (by unfold Xp Xx;simp only [Zhd,Zh8,Zhe,Option.map_some,Option.map_none];rfl)) (fun _ _=>rfl) (fun _ _=>rfl) (fun _ _ _=>rfl) (fun _ _ _=>rfl) (fun _=>rfl) (Z1S.1 h1),by
  first
  | exact h2
  | (rcases o with o|o<;>exact h2)⟩
def q28 {R:Type}:Z27 S R:=LE.ls X q21 q23 q1V
theorem q29 {R:Type}:Z3J X (q28 (R:=R)):=Zhq xok q1I (e:=q21) q1 q1W q27 q1W
theorem q2a (x0:Z8):Zhs X q1H [(.st 15)] [(.int .i64)] q0 q28 12 95 (x0,())=X1U x0:=by kernel_rfl
def q2b:F7 S:=⟨[(.st 15)],[(.int .i64)],fun xs=>X1U xs.1⟩
theorem q2c:Z7Q X 95 q2b:=Zho (Zhn xok q1I q1 q29 12 95) fun xs _ h=>(q2a xs.1).trans h
def q2d:List (Nat×F7 S):=[(92,qk),(93,qY),(94,q1k),(95,q2b)]
theorem q2e:Z9n X (q2d):=⟨ql,qZ,q1l,q2c,trivial⟩
abbrev q2f {R:Type}:Z27 S R:=Zgi
theorem q2g {R:Type}:Z3J X (q2f (R:=R)):=ZgQ X
def q2h:Key:=⟨[61],61,none,[0,0,1,0,1,1,1,1],0,17⟩
def q2i:StT S:=⟨(N (N v1y (some (.ptr 0 0)) L) none (N v1y none (N (N (N L (some (.sl (.st 4) [])) L) none L) vp L))),o1p,17⟩
def q2j:Way S:=⟨.ret,⟨v1q,o1g,57⟩,[.int,.int,.int,(.st 4),(.st 8),(.mp .str (.int .i64))]⟩
def q2k:Way S:=⟨.ret,⟨v1q,o1g,62⟩,[.int,.int,.int,(.st 4),(.st 8),(.mp .str (.int .i64))]⟩
def q2l:Way S:=⟨.ret,⟨v1q,o14,63⟩,[.int,.int,.int,(.st 4),(.st 8),(.mp .str (.int .i64)),(.lst (.st 2))]⟩
def q2m:Way S:=⟨.ret,⟨v1q,o14,66⟩,[.int,.int,.int,(.st 4),(.st 8),(.mp .str (.int .i64)),(.lst (.st 2))]⟩
def q2n:Way S:=⟨(.exit 0),⟨(N (N L (some (.ptr 0 0)) L) none (N L none (N L vp L))),o1p,18⟩,[(.st 8),(.mp .str (.int .i64))]⟩
def q2o:LE S:=⟨q2h,q2i,[.int,.int,(.lst (.st 4)),(.st 8),(.mp .str (.int .i64))],[q2j,q2k,q2l,q2m,q2n]⟩
def q2p (x:tM):((Int×Int×Int×Zw×t1g)⊕(Int×Int×Int×Zw×t1g)⊕(Int×Int×Int×Zw×t1g×(List Zu))⊕(Int×Int×Int×Zw×t1g×(List Zu))⊕t1g)→t0:=Sum.elim (fun y0=>(.inl (y0.1,y0.2.1,y0.2.2.1,y0.2.2.2.1,x.2.2.2.1,y0.2.2.2.2))) (Sum.elim (fun y1=>(.inr (.inl (y1.1,y1.2.1,y1.2.2.1,y1.2.2.2.1,x.2.2.2.1,y1.2.2.2.2)))) (Sum.elim (fun y2=>(.inr (.inr (.inl (y2.1,y2.2.1,y2.2.2.1,y2.2.2.2.1,x.2.2.2.1,y2.2.2.2.2.1,y2.2.2.2.2.2))))) (Sum.elim (fun y3=>(.inr (.inr (.inr (.inl (y3.1,y3.2.1,y3.2.2.1,y3.2.2.2.1,x.2.2.2.1,y3.2.2.2.2.1,y3.2.2.2.2.2)))))) (fun y4=>(.inr (.inr (.inr (.inr (x.2.2.2.1,y4)))))))))
def q2q {R:Type} (x:tM) (k:t0→Option R):Option R:=(X4p x.1 x.2.2.1 x.2.2.2.1 (x.2.1,x.2.2.2.2)).bind (Sum.elim (fun y0=>k (.inl (y0.1,y0.2.1,y0.2.2.1,y0.2.2.2.1,x.2.2.2.1,y0.2.2.2.2))) (Sum.elim (fun y1=>k (.inr (.inl (y1.1,y1.2.1,y1.2.2.1,y1.2.2.2.1,x.2.2.2.1,y1.2.2.2.2)))) (Sum.elim (fun y2=>k (.inr (.inr (.inl (y2.1,y2.2.1,y2.2.2.1,y2.2.2.2.1,x.2.2.2.1,y2.2.2.2.2.1,y2.2.2.2.2.2))))) (Sum.elim (fun y3=>k (.inr (.inr (.inr (.inl (y3.1,y3.2.1,y3.2.2.1,y3.2.2.2.1,x.2.2.2.1,y3.2.2.2.2.1,y3.2.2.2.2.2)))))) (fun y4=>k (.inr (.inr (.inr (.inr (x.2.2.2.1,y4))))))))))
def q2r (x:tM) (v:(Int×t1g)):tM:=(x.1,v.1,x.2.2.1,x.2.2.2.1,v.2)
theorem q2s (x:tM):LE.step X q2o q2d q0 q2f 12 x=WM x.1 x.2.2.1 x.2.2.2.1 x.2.1 x.2.2.2.2 (fun w0 w1=>(Sum.inl (x.1,w0,x.2.2.1,x.2.2.2.1,w1))) (fun p0 p1 p2 p3 p4=>(Sum.inr (.inl (p0,p1,p2,p3,x.2.2.2.1,p4)))) (fun p0 p1 p2 p3 p4=>(Sum.inr (.inr (.inl (p0,p1,p2,p3,x.2.2.2.1,p4))))) (fun p0 p1 p2 p3 p4 p5=>(Sum.inr (.inr (.inr (.inl (p0,p1,p2,p3,x.2.2.2.1,p4,p5)))))) (fun p0 p1 p2 p3 p4 p5=>(Sum.inr (.inr (.inr (.inr (.inl (p0,p1,p2,p3,x.2.2.2.1,p4,p5))))))) (fun p0=>(Sum.inr (.inr (.inr (.inr (.inr (x.2.2.2.1,p0))))))):=by kernel_rfl
theorem q2u {R:Type} (x:tM) (k:t0→Option R) (r:R) (h:q2q x k=some r):∃ o,Z5s (LE.step X q2o q2d q0 q2f 12) x o∧k o=some r:=by
 obtain ⟨o,h1,h2⟩:=Z0 h
 exact ⟨q2p x o,Zhl (st:=fun (x:tM)=>Wy x.1 x.2.2.1 x.2.2.2.1) (prj:=fun x=>(x.2.1,x.2.2.2.2)) (emb:=q2r) (embO:=q2p) (fun x=>(q2s x).trans (by unfold Wy WM;simp only [Zhd,Zh8,Zhe,Option.map_some,Option.map_none];rfl)) (fun _ _=>rfl) (fun _ _=>rfl) (fun _ _ _=>rfl) (fun _ _ _=>rfl) (fun _=>rfl) (Z1S.1 h1),by
  first
  | exact h2
  | (rcases o with o|o|o|o|o<;>exact h2)⟩
def q2v {R:Type}:Z27 S R:=LE.ls X q2o q2q q2f
theorem q2w {R:Type}:Z3J X (q2v (R:=R)):=Zhq xok q2e (e:=q2o) q1 q2g q2u q2g
def q2x:Key:=⟨[61],61,none,[0,0,1,0,1,1,1,1,1,1],2,26⟩
def q2y:StT S:=⟨(N (N L none (N L none v1B)) none (N (N L none (N (N L none (N L (some (.sl (.st 7) [])) L)) none L)) none (N L vp v1B))),o1p,26⟩
def q2z:Way S:=⟨.ret,⟨v1q,o1e,58⟩,[.int,.int,.int,(.st 8),(.mp .str (.int .i64)),(.st 7)]⟩
def q2A:Way S:=⟨.ret,⟨v1q,o1e,63⟩,[.int,.int,.int,(.st 8),(.mp .str (.int .i64)),(.st 7)]⟩
def q2B:Way S:=⟨.ret,⟨v1q,o1e,67⟩,[.int,.int,.int,(.st 8),(.mp .str (.int .i64)),(.st 7)]⟩
def q2C:Way S:=⟨(.exit 2),⟨L,o1p,27⟩,[(.st 8),(.mp .str (.int .i64))]⟩
def q2D:LE S:=⟨q2x,q2y,[.int,(.lst (.st 7)),.int,(.st 8),(.mp .str (.int .i64))],[q2z,q2A,q2B,q2C]⟩
def q2E (x:tN):(tT⊕tT⊕tT⊕t1g)→t4:=Sum.elim (fun y0=>(.inl (y0.1,y0.2.1,y0.2.2.1,x.2.2.2.1,y0.2.2.2.1,y0.2.2.2.2))) (Sum.elim (fun y1=>(.inr (.inl (y1.1,y1.2.1,y1.2.2.1,x.2.2.2.1,y1.2.2.2.1,y1.2.2.2.2)))) (Sum.elim (fun y2=>(.inr (.inr (.inl (y2.1,y2.2.1,y2.2.2.1,x.2.2.2.1,y2.2.2.2.1,y2.2.2.2.2))))) (fun y3=>(.inr (.inr (.inr (x.2.2.2.1,y3)))))))
def q2F {R:Type} (x:tN) (k:t4→Option R):Option R:=(X24 x.1 x.2.1 x.2.2.2.1 (x.2.2.1,x.2.2.2.2)).bind (Sum.elim (fun y0=>k (.inl (y0.1,y0.2.1,y0.2.2.1,x.2.2.2.1,y0.2.2.2.1,y0.2.2.2.2))) (Sum.elim (fun y1=>k (.inr (.inl (y1.1,y1.2.1,y1.2.2.1,x.2.2.2.1,y1.2.2.2.1,y1.2.2.2.2)))) (Sum.elim (fun y2=>k (.inr (.inr (.inl (y2.1,y2.2.1,y2.2.2.1,x.2.2.2.1,y2.2.2.2.1,y2.2.2.2.2))))) (fun y3=>k (.inr (.inr (.inr (x.2.2.2.1,y3))))))))
def q2G (x:tN) (v:(Int×t1g)):tN:=(x.1,x.2.1,v.1,x.2.2.2.1,v.2)
theorem q2H (x:tN):LE.step X q2D q2d q0 q2v 12 x=WN x.1 x.2.1 x.2.2.2.1 x.2.2.1 x.2.2.2.2 (fun w0 w1=>(Sum.inl (x.1,x.2.1,w0,x.2.2.2.1,w1))) (fun p0 p1 p2 p3 p4=>(Sum.inr (.inl (p0,p1,p2,x.2.2.2.1,p3,p4)))) (fun p0 p1 p2 p3 p4=>(Sum.inr (.inr (.inl (p0,p1,p2,x.2.2.2.1,p3,p4))))) (fun p0 p1 p2 p3 p4=>(Sum.inr (.inr (.inr (.inl (p0,p1,p2,x.2.2.2.1,p3,p4)))))) (fun p0=>(Sum.inr (.inr (.inr (.inr (x.2.2.2.1,p0)))))):=by kernel_rfl
theorem q2J {R:Type} (x:tN) (k:t4→Option R) (r:R) (h:q2F x k=some r):∃ o,Z5s (LE.step X q2D q2d q0 q2v 12) x o∧k o=some r:=by
 obtain ⟨o,h1,h2⟩:=Z0 h
 exact ⟨q2E x o,Zhl (st:=fun (x:tN)=>Wz x.1 x.2.1 x.2.2.2.1) (prj:=fun x=>(x.2.2.1,x.2.2.2.2)) (emb:=q2G) (embO:=q2E) (fun x=>(q2H x).trans (by unfold Wz WN;simp only [Zhd,Zh8,Zhe,Option.map_some,Option.map_none];rfl)) (fun _ _=>rfl) (fun _ _=>rfl) (fun _ _ _=>rfl) (fun _ _ _=>rfl) (fun _=>rfl) (Z1S.1 h1),by
  first
  | exact h2
  | (rcases o with o|o|o|o<;>exact h2)⟩
def q2K {R:Type}:Z27 S R:=LE.ls X q2D q2F q2v
theorem q2L {R:Type}:Z3J X (q2K (R:=R)):=Zhq xok q2e (e:=q2D) q1 q2w q2J q2w
theorem q2M (x0:Zl):Zhs X q2d [(.st 8)] [(.int .i64),(.int .i64),(.int .i64)] q0 q2K 12 61 (x0,())=X38 x0:=by kernel_rfl
def q2N:F7 S:=⟨[(.st 8)],[(.int .i64),(.int .i64),(.int .i64)],fun xs=>X38 xs.1⟩
theorem q2O:Z7Q X 61 q2N:=Zho (Zhn xok q2e q1 q2L 12 61) fun xs _ h=>(q2M xs.1).trans h
def q2P:List (Nat×F7 S):=[]
theorem q2Q:Z9n X (q2P):=trivial
abbrev q2R {R:Type}:Z27 S R:=Zgi
theorem q2S {R:Type}:Z3J X (q2R (R:=R)):=ZgQ X
def q2T:Key:=⟨[114,2,1,89,2,1,57],114,none,[0,0,1,0,1],0,17⟩
def q2U:StT S:=⟨(N (N (N (N L vQ L) none L) (some (.fn (.func 90) [] [(.ptr 0 0),(.ptr 1 0)])) L) (some (.sl (.int .i64) [])) v1x),(N (N L oz L) oz L),17⟩
def q2V:Way S:=⟨.ret,⟨v1y,(N (N L oz L) oz L),38⟩,[.int,.int,.int]⟩
def q2W:Way S:=⟨(.exit 0),⟨L,(N (N L oz L) oz L),18⟩,[.int,.int]⟩
def q2X:LE S:=⟨q2T,q2U,[.int,(.lst (.int .i64)),.int,.int,.int],[q2V,q2W]⟩
def q2Y (x:t10):(Int⊕Unit)→t17:=Sum.elim (fun y0=>(.inl (y0,x.2.2.2.1,x.2.2.2.2))) (fun y1=>(.inr (x.2.2.2.1,x.2.2.2.2)))
def q2Z {R:Type} (x:t10) (k:t17→Option R):Option R:=(X4v x.1 x.2.1 x.2.2.2.1 x.2.2.2.2 x.2.2.1).bind (Sum.elim (fun y0=>k (.inl (y0,x.2.2.2.1,x.2.2.2.2))) (fun y1=>k (.inr (x.2.2.2.1,x.2.2.2.2))))
def q30 (x:t10) (v:Int):t10:=(x.1,x.2.1,v,x.2.2.2.1,x.2.2.2.2)
theorem q31 (x:t10):LE.step X q2X q2P q0 q2R 12 x=WT x.1 x.2.1 x.2.2.2.1 x.2.2.2.2 x.2.2.1 (fun w0=>(Sum.inl (x.1,x.2.1,w0,x.2.2.2.1,x.2.2.2.2))) (fun p0=>(Sum.inr (.inl (p0,x.2.2.2.1,x.2.2.2.2)))) (Sum.inr (.inr (x.2.2.2.1,x.2.2.2.2))):=by kernel_rfl
theorem q33 {R:Type} (x:t10) (k:t17→Option R) (r:R) (h:q2Z x k=some r):∃ o,Z5s (LE.step X q2X q2P q0 q2R 12) x o∧k o=some r:=by
 obtain ⟨o,h1,h2⟩:=Z0 h
 exact ⟨q2Y x o,Zhl (st:=fun (x:t10)=>WF x.1 x.2.1 x.2.2.2.1 x.2.2.2.2) (prj:=fun x=>x.2.2.1) (emb:=q30) (embO:=q2Y) (fun x=>(q31 x).trans (by unfold WF WT;simp only [Zhd,Zh8,Zhe,Option.map_some,Option.map_none];rfl)) (fun _ _=>rfl) (fun _ _=>rfl) (fun _ _ _=>rfl) (fun _ _ _=>rfl) (fun _=>rfl) (Z1S.1 h1),by
  first
  | exact h2
  | (rcases o with o|o<;>exact h2)⟩
def q34 {R:Type}:Z27 S R:=LE.ls X q2X q2Z q2R
theorem q35 {R:Type}:Z3J X (q34 (R:=R)):=Zhq xok q2Q (e:=q2X) q1 q2S q33 q2S
theorem q36 (x0:Int) (x1:Int) (x2:List Int):Zhs X q2P [(.int .i64),(.int .i64),(.sl (.int .i64))] [.bool] q0 q34 12 57 (x0,x1,x2,())=X2f x0 x1 x2:=by kernel_rfl
def q37:F7 S:=⟨[(.int .i64),(.int .i64),(.sl (.int .i64))],[.bool],fun xs=>X2 xs.1 xs.2.1 xs.2.2.1⟩
theorem q38:Z7Q X 57 q37:=Zho (Zhn xok q2Q q1 q35 12 57) fun xs _ h=>((q36 xs.1 xs.2.1 xs.2.2.1).trans (X61 xs.1 xs.2.1 xs.2.2.1).symm).trans h
def q39:List (Nat×F7 S):=[(92,qk),(57,q37)]
theorem q3a:Z9n X (q39):=⟨ql,q38,trivial⟩
abbrev q3b {R:Type}:Z27 S R:=Zgi
theorem q3c {R:Type}:Z3J X (q3b (R:=R)):=ZgQ X
def q3d:Key:=⟨[122,2,1,96,2,6,64],122,none,[0,0,1,0,1],0,25⟩
def q3e:StT S:=⟨v15,(N L od L),25⟩
def q3f:Way S:=⟨.ret,⟨v1y,(N L od o1m),44⟩,[.int,(.st 18),(.st 18)]⟩
def q3g:Way S:=⟨(.exit 0),⟨L,(N L od L),26⟩,[(.st 18)]⟩
def q3h:LE S:=⟨q3d,q3e,[.int,(.lst (.st 18)),.int,(.st 18)],[q3f,q3g]⟩
def q3i (x:tW):((Int×Z5)⊕Unit)→tU:=Sum.elim (fun y0=>(.inl (y0.1,x.2.2.2,y0.2))) (fun y1=>(.inr x.2.2.2))
def q3j {R:Type} (x:tW) (k:tU→Option R):Option R:=(X2l x.1 x.2.1 x.2.2.2 x.2.2.1).bind (Sum.elim (fun y0=>k (.inl (y0.1,x.2.2.2,y0.2))) (fun y1=>k (.inr x.2.2.2)))
def q3k (x:tW) (v:Int):tW:=(x.1,x.2.1,v,x.2.2.2)
theorem q3l (x:tW):LE.step X q3h q39 q0 q3b 12 x=XY x.1 x.2.1 x.2.2.2 x.2.2.1 (fun w0=>(Sum.inl (x.1,x.2.1,w0,x.2.2.2))) (fun p0 p1=>(Sum.inr (.inl (p0,x.2.2.2,p1)))) (Sum.inr (.inr x.2.2.2)):=by kernel_rfl
theorem q3n {R:Type} (x:tW) (k:tU→Option R) (r:R) (h:q3j x k=some r):∃ o,Z5s (LE.step X q3h q39 q0 q3b 12) x o∧k o=some r:=by
 obtain ⟨o,h1,h2⟩:=Z0 h
 exact ⟨q3i x o,Zhl (st:=fun (x:tW)=>XO x.1 x.2.1 x.2.2.2) (prj:=fun x=>x.2.2.1) (emb:=q3k) (embO:=q3i) (fun x=>(q3l x).trans (by unfold XO XY;simp only [Zhd,Zh8,Zhe,Option.map_some,Option.map_none];rfl)) (fun _ _=>rfl) (fun _ _=>rfl) (fun _ _ _=>rfl) (fun _ _ _=>rfl) (fun _=>rfl) (Z1S.1 h1),by
  first
  | exact h2
  | (rcases o with o|o<;>exact h2)⟩
def q3o {R:Type}:Z27 S R:=LE.ls X q3h q3j q3b
theorem q3p {R:Type}:Z3J X (q3o (R:=R)):=Zhq xok q3a (e:=q3h) q1 q3c q3n q3c
def q3q:Key:=⟨[122,2,1,96,2,6,64],122,none,[0,0,1,0,1],0,24⟩
def q3r:StT S:=⟨v15,(N L od L),24⟩
def q3s:Way S:=⟨.ret,⟨v1y,(N o1m od L),43⟩,[.int,(.st 18),(.st 18)]⟩
def q3t:Way S:=⟨(.exit 0),⟨L,(N L od L),25⟩,[(.st 18)]⟩
def q3u:LE S:=⟨q3q,q3r,[.int,(.lst (.st 18)),.int,(.st 18)],[q3s,q3t]⟩
def q3v (x:tW):((Int×Z5)⊕Unit)→tU:=Sum.elim (fun y0=>(.inl (y0.1,y0.2,x.2.2.2))) (fun y1=>(.inr x.2.2.2))
def q3w {R:Type} (x:tW) (k:tU→Option R):Option R:=(X2m x.1 x.2.1 x.2.2.2 x.2.2.1).bind (Sum.elim (fun y0=>k (.inl (y0.1,y0.2,x.2.2.2))) (fun y1=>k (.inr x.2.2.2)))
def q3x (x:tW) (v:Int):tW:=(x.1,x.2.1,v,x.2.2.2)
theorem q3y (x:tW):LE.step X q3u q39 q0 q3o 12 x=XZ x.1 x.2.1 x.2.2.2 x.2.2.1 (fun w0=>(Sum.inl (x.1,x.2.1,w0,x.2.2.2))) (fun p0 p1=>(Sum.inr (.inl (p0,p1,x.2.2.2)))) (Sum.inr (.inr x.2.2.2)):=by kernel_rfl
theorem q3A {R:Type} (x:tW) (k:tU→Option R) (r:R) (h:q3w x k=some r):∃ o,Z5s (LE.step X q3u q39 q0 q3o 12) x o∧k o=some r:=by
 obtain ⟨o,h1,h2⟩:=Z0 h
 exact ⟨q3v x o,Zhl (st:=fun (x:tW)=>XP x.1 x.2.1 x.2.2.2) (prj:=fun x=>x.2.2.1) (emb:=q3x) (embO:=q3v) (fun x=>(q3y x).trans (by unfold XP XZ;simp only [Zhd,Zh8,Zhe,Option.map_some,Option.map_none];rfl)) (fun _ _=>rfl) (fun _ _=>rfl) (fun _ _ _=>rfl) (fun _ _ _=>rfl) (fun _=>rfl) (Z1S.1 h1),by
  first
  | exact h2
  | (rcases o with o|o<;>exact h2)⟩
def q3B {R:Type}:Z27 S R:=LE.ls X q3u q3w q3o
theorem q3C {R:Type}:Z3J X (q3B (R:=R)):=Zhq xok q3a (e:=q3u) q1 q3p q3A q3p
theorem q3D (x0:Z5) (x1:List Z5):Zhs X q39 [(.st 18),(.sl (.st 18))] [(.int .i64)] q0 q3B 12 64 (x0,x1,())=X1f x0 x1:=by kernel_rfl
def q3E:F7 S:=⟨[(.st 18),(.sl (.st 18))],[(.int .i64)],fun xs=>X3B xs.1 xs.2.1⟩
theorem q3F:Z7Q X 64 q3E:=Zho (Zhn xok q3a q1 q3C 12 64) fun xs _ h=>((q3D xs.1 xs.2.1).trans (X4P xs.1 xs.2.1).symm).trans h
def q3G:List (Nat×F7 S):=[(57,q37)]
theorem q3H:Z9n X (q3G):=⟨q38,trivial⟩
abbrev q3I {R:Type}:Z27 S R:=Zgi
theorem q3J {R:Type}:Z3J X (q3I (R:=R)):=ZgQ X
theorem q3K (x0:Zt):Zhs X q3G [(.st 19)] [(.int .i64)] q0 q3I 12 67 (x0,())=X3n x0:=by kernel_rfl
def q3L:F7 S:=⟨[(.st 19)],[(.int .i64)],fun xs=>X73 xs.1⟩
theorem q3M:Z7Q X 67 q3L:=Zho (Zhn xok q3H q1 q3J 12 67) fun xs _ h=>((q3K xs.1).trans (X7q xs.1).symm).trans h
def q3N:List (Nat×F7 S):=[(67,q3L)]
theorem q3O:Z9n X (q3N):=⟨q3M,trivial⟩
abbrev q3P {R:Type}:Z27 S R:=Zgi
theorem q3Q {R:Type}:Z3J X (q3P (R:=R)):=ZgQ X
theorem q3R (x0:Int) (x1:Zt):Zhs X q3N [(.int .i64),(.st 19)] [(.int .i64)] q0 q3P 12 66 (x0,x1,())=X2c x0 x1:=by kernel_rfl
def q3S:F7 S:=⟨[(.int .i64),(.st 19)],[(.int .i64)],fun xs=>X3Z xs.1 xs.2.1⟩
theorem q3T:Z7Q X 66 q3S:=Zho (Zhn xok q3O q1 q3Q 12 66) fun xs _ h=>((q3R xs.1 xs.2.1).trans (X5V xs.1 xs.2.1).symm).trans h
def q3U:List (Nat×F7 S):=[(61,q2N),(57,q37),(64,q3E),(66,q3S)]
theorem q3V:Z9n X (q3U):=⟨q2O,q38,q3F,q3T,trivial⟩
abbrev q3W {R:Type}:Z27 S R:=Zgi
theorem q3X {R:Type}:Z3J X (q3W (R:=R)):=ZgQ X
def q3Y:Key:=⟨[62,3,8,29],62,none,[0,0,1,0,1],0,51⟩
def q3Z:StT S:=⟨(N (N (N L none (N L vQ L)) (some (.fn (.func 63) [] [(.ptr 0 0)])) (N (N L vM L) none L)) none v1y),(N L oe L),51⟩
def q40:Way S:=⟨.ret,⟨v1o,(N (N (N (N (N (N (N L od L) none L) none L) none (N L none (N L od L))) none L) none L) oe L),78⟩,[.int,.int,(.st 18),(.st 18),(.st 20)]⟩
def q41:Way S:=⟨(.exit 0),⟨L,(N L oe L),52⟩,[(.st 20)]⟩
def q42:LE S:=⟨q3Y,q3Z,[.int,(.lst (.st 18)),.int,(.st 20)],[q40,q41]⟩
def q43 (x:tY):((Int×Int×Z5×Z5)⊕Unit)→tQ:=Sum.elim (fun y0=>(.inl (y0.1,y0.2.1,y0.2.2.1,y0.2.2.2,x.2.2.2))) (fun y1=>(.inr x.2.2.2))
def q44 {R:Type} (x:tY) (k:tQ→Option R):Option R:=(X3P x.2.1 x.2.2.1 x.2.2.2 x.1).bind (Sum.elim (fun y0=>k (.inl (y0.1,y0.2.1,y0.2.2.1,y0.2.2.2,x.2.2.2))) (fun y1=>k (.inr x.2.2.2)))
def q45 (x:tY) (v:Int):tY:=(v,x.2.1,x.2.2.1,x.2.2.2)
theorem q46 (x:tY):LE.step X q42 q3U q0 q3W 12 x=X1D x.2.1 x.2.2.1 x.2.2.2 x.1 (fun w0=>(Sum.inl (w0,x.2.1,x.2.2.1,x.2.2.2))) (fun p0 p1 p2 p3=>(Sum.inr (.inl (p0,p1,p2,p3,x.2.2.2)))) (Sum.inr (.inr x.2.2.2)):=by kernel_rfl
theorem q48 {R:Type} (x:tY) (k:tQ→Option R) (r:R) (h:q44 x k=some r):∃ o,Z5s (LE.step X q42 q3U q0 q3W 12) x o∧k o=some r:=by
 obtain ⟨o,h1,h2⟩:=Z0 h
 exact ⟨q43 x o,Zhl (st:=fun (x:tY)=>X1w x.2.1 x.2.2.1 x.2.2.2) (prj:=fun x=>x.1) (emb:=q45) (embO:=q43) (fun x=>(q46 x).trans (by unfold X1w X1D;simp only [Zhd,Zh8,Zhe,Option.map_some,Option.map_none];rfl)) (fun _ _=>rfl) (fun _ _=>rfl) (fun _ _ _=>rfl) (fun _ _ _=>rfl) (fun _=>rfl) (Z1S.1 h1),by
  first
  | exact h2
  | (rcases o with o|o<;>exact h2)⟩
def q49 {R:Type}:Z27 S R:=LE.ls X q42 q44 q3W
theorem q4a {R:Type}:Z3J X (q49 (R:=R)):=Zhq xok q3V (e:=q42) q1 q3X q48 q3X
def q4b:Key:=⟨[65,2,13,29],65,none,[0,0,1,0,1],0,97⟩
def q4c:StT S:=⟨vZ,L,97⟩
def q4d:Way S:=⟨.ret,⟨v1o,(N (N L none (N L none (N (N (N L none (N L oc L)) none L) none L))) none L),115⟩,[.int,.int,(.st 19)]⟩
def q4e:Way S:=⟨(.exit 0),⟨L,L,98⟩,[]⟩
def q4f:LE S:=⟨q4b,q4c,[.int,(.lst (.st 19)),.int],[q4d,q4e]⟩
def q4g (x:t1e):t1c→t1c:=Sum.elim (fun y0=>(.inl (y0.1,y0.2.1,y0.2.2))) (fun y1=>(.inr ()))
def q4h {R:Type} (x:t1e) (k:t1c→Option R):Option R:=(X3Q x.2.1 x.2.2 x.1).bind (Sum.elim (fun y0=>k (.inl (y0.1,y0.2.1,y0.2.2))) (fun y1=>k (.inr ())))
def q4i (x:t1e) (v:Int):t1e:=(v,x.2.1,x.2.2)
theorem q4j (x:t1e):LE.step X q4f q3U q0 q49 12 x=X1E x.2.1 x.2.2 x.1 (fun w0=>(Sum.inl (w0,x.2.1,x.2.2))) (fun p0 p1 p2=>(Sum.inr (.inl (p0,p1,p2)))) (Sum.inr (.inr ())):=by kernel_rfl
theorem q4l {R:Type} (x:t1e) (k:t1c→Option R) (r:R) (h:q4h x k=some r):∃ o,Z5s (LE.step X q4f q3U q0 q49 12) x o∧k o=some r:=by
 obtain ⟨o,h1,h2⟩:=Z0 h
 exact ⟨q4g x o,Zhl (st:=fun (x:t1e)=>X1x x.2.1 x.2.2) (prj:=fun x=>x.1) (emb:=q4i) (embO:=q4g) (fun x=>(q4j x).trans (by unfold X1x X1E;simp only [Zhd,Zh8,Zhe,Option.map_some,Option.map_none];rfl)) (fun _ _=>rfl) (fun _ _=>rfl) (fun _ _ _=>rfl) (fun _ _ _=>rfl) (fun _=>rfl) (Z1S.1 h1),by
  first
  | exact h2
  | (rcases o with o|o<;>exact h2)⟩
def q4m {R:Type}:Z27 S R:=LE.ls X q4f q4h q49
theorem q4n {R:Type}:Z3J X (q4m (R:=R)):=Zhq xok q3V (e:=q4f) q1 q4a q4l q4a
def q4o:Key:=⟨[65,2,13,29],65,none,[0,0,1,0,1],0,73⟩
def q4p:StT S:=⟨vZ,L,73⟩
def q4q:Way S:=⟨.ret,⟨v1o,(N (N L none (N L none (N L none (N (N (N L oc L) none L) none L)))) none L),91⟩,[.int,.int,(.st 19)]⟩
def q4r:Way S:=⟨(.exit 0),⟨L,L,74⟩,[]⟩
def q4s:LE S:=⟨q4o,q4p,[.int,(.lst (.st 19)),.int],[q4q,q4r]⟩
def q4t (x:t1e):t1c→t1c:=Sum.elim (fun y0=>(.inl (y0.1,y0.2.1,y0.2.2))) (fun y1=>(.inr ()))
def q4u {R:Type} (x:t1e) (k:t1c→Option R):Option R:=(X2E x.2.1 x.2.2 x.1).bind (Sum.elim (fun y0=>k (.inl (y0.1,y0.2.1,y0.2.2))) (fun y1=>k (.inr ())))
def q4v (x:t1e) (v:Int):t1e:=(v,x.2.1,x.2.2)
theorem q4w (x:t1e):LE.step X q4s q3U q0 q4m 12 x=X3l x.2.1 x.2.2 x.1 (fun w0=>(Sum.inl (w0,x.2.1,x.2.2))) (fun p0 p1 p2=>(Sum.inr (.inl (p0,p1,p2)))) (Sum.inr (.inr ())):=by kernel_rfl
theorem q4y {R:Type} (x:t1e) (k:t1c→Option R) (r:R) (h:q4u x k=some r):∃ o,Z5s (LE.step X q4s q3U q0 q4m 12) x o∧k o=some r:=by
 obtain ⟨o,h1,h2⟩:=Z0 h
 exact ⟨q4t x o,Zhl (st:=fun (x:t1e)=>X4b x.2.1 x.2.2) (prj:=fun x=>x.1) (emb:=q4v) (embO:=q4t) (fun x=>(q4w x).trans (by unfold X4b X3l;simp only [Zhd,Zh8,Zhe,Option.map_some,Option.map_none];rfl)) (fun _ _=>rfl) (fun _ _=>rfl) (fun _ _ _=>rfl) (fun _ _ _=>rfl) (fun _=>rfl) (Z1S.1 h1),by
  first
  | exact h2
  | (rcases o with o|o<;>exact h2)⟩
def q4z {R:Type}:Z27 S R:=LE.ls X q4s q4u q4m
theorem q4A {R:Type}:Z3J X (q4z (R:=R)):=Zhq xok q3V (e:=q4s) q1 q4n q4y q4n
theorem q4B (x0:ZJ):Zhs X q3U [(.st 20)] [(.int .i64),(.int .i64),(.int .i64)] q0 q4z 12 29 (x0,())=X2O x0:=by kernel_rfl
def q4C:F7 S:=⟨[(.st 20)],[(.int .i64),(.int .i64),(.int .i64)],fun xs=>X6m xs.1⟩
theorem q4D:Z7Q X 29 q4C:=Zho (Zhn xok q3V q1 q4A 12 29) fun xs _ h=>((q4B xs.1).trans (X6W xs.1).symm).trans h
def q4E:List (Nat×F7 S):=[(61,q2N),(117,qE)]
theorem q4F:Z9n X (q4E):=⟨q2O,qF,trivial⟩
abbrev q4G {R:Type}:Z27 S R:=Zgi
theorem q4H {R:Type}:Z3J X (q4G (R:=R)):=ZgQ X
def q4I:Key:=⟨[132,1,109],132,none,[0,0,1],0,45⟩
def q4J:StT S:=⟨(N (N (N L vQ L) (some (.ptr 36 0)) L) (some (.yld 40)) L),oS,45⟩
def q4K:Way S:=⟨.ret,⟨L,(N (N (N (N L none (N L none (N L oh L))) oz L) oz L) on (N (N (N (N L ow L) none (N (N L (some (.loop 109 (N (N (N (N L (some (.ptr 3 0)) L) (some (.ptr 0 0)) (N L none (N (N L vl L) vP L))) vQ (N (N (N L vP L) none L) none L)) vu (N (N (N L (some (.ptr 4 0)) L) (some (.ptr 1 0)) L) vQ (N L (some (.ptr 2 0)) (N (N L vP L) none L)))) (44::(45::[])) .skip .skip 1 .ret (1::(109::[])) (0::(1::(0::(1::(1::(1::(1::[]))))))))) L) ow L)) ox (N (N (N L oq L) none L) none L)) oj L)),67⟩,[(.st 3),.int,.int,(.st 8),(.lst (.int .i64)),.bool,.int,.bool,(.st 8),.int,.bool,(.lst (.int .i64)),.int,(.lst (.st 3)),(.st 4)]⟩
def q4L:Way S:=⟨(.exit 0),⟨L,oS,47⟩,[.int,.int,(.st 8),(.lst (.int .i64)),.bool,.int,.bool,(.st 8),.int,.bool,(.lst (.int .i64)),.int,(.lst (.st 3)),(.st 4)]⟩
def q4M:LE S:=⟨q4I,q4J,[.int,.int,.int,(.st 8),(.lst (.int .i64)),.bool,.int,.bool,(.st 8),.int,.bool,(.lst (.int .i64)),.int,(.lst (.st 3)),(.st 4)],[q4K,q4L]⟩
def q4N (x:tg):((Zk×Int×Int)⊕Unit)→t3:=Sum.elim (fun y0=>(.inl (y0.1,y0.2.1,x.2.2.1,x.2.2.2.1,x.2.2.2.2.1,x.2.2.2.2.2.1,x.2.2.2.2.2.2.1,x.2.2.2.2.2.2.2.1,x.2.2.2.2.2.2.2.2.1,x.2.2.2.2.2.2.2.2.2.1,x.2.2.2.2.2.2.2.2.2.2.1,x.2.2.2.2.2.2.2.2.2.2.2.1,y0.2.2,x.2.2.2.2.2.2.2.2.2.2.2.2.2.1,x.2.2.2.2.2.2.2.2.2.2.2.2.2.2))) (fun y1=>(.inr (x.2.1,x.2.2.1,x.2.2.2.1,x.2.2.2.2.1,x.2.2.2.2.2.1,x.2.2.2.2.2.2.1,x.2.2.2.2.2.2.2.1,x.2.2.2.2.2.2.2.2.1,x.2.2.2.2.2.2.2.2.2.1,x.2.2.2.2.2.2.2.2.2.2.1,x.2.2.2.2.2.2.2.2.2.2.2.1,x.2.2.2.2.2.2.2.2.2.2.2.2.1,x.2.2.2.2.2.2.2.2.2.2.2.2.2.1,x.2.2.2.2.2.2.2.2.2.2.2.2.2.2)))
def q4O {R:Type} (x:tg) (k:t3→Option R):Option R:=(X1N x.2.2.1 x.2.2.2.2.2.2.2.2.2.2.2.2.2.1 x.1).bind (Sum.elim (fun y0=>k (.inl (y0.1,y0.2.1,x.2.2.1,x.2.2.2.1,x.2.2.2.2.1,x.2.2.2.2.2.1,x.2.2.2.2.2.2.1,x.2.2.2.2.2.2.2.1,x.2.2.2.2.2.2.2.2.1,x.2.2.2.2.2.2.2.2.2.1,x.2.2.2.2.2.2.2.2.2.2.1,x.2.2.2.2.2.2.2.2.2.2.2.1,y0.2.2,x.2.2.2.2.2.2.2.2.2.2.2.2.2.1,x.2.2.2.2.2.2.2.2.2.2.2.2.2.2))) (fun y1=>k (.inr (x.2.1,x.2.2.1,x.2.2.2.1,x.2.2.2.2.1,x.2.2.2.2.2.1,x.2.2.2.2.2.2.1,x.2.2.2.2.2.2.2.1,x.2.2.2.2.2.2.2.2.1,x.2.2.2.2.2.2.2.2.2.1,x.2.2.2.2.2.2.2.2.2.2.1,x.2.2.2.2.2.2.2.2.2.2.2.1,x.2.2.2.2.2.2.2.2.2.2.2.2.1,x.2.2.2.2.2.2.2.2.2.2.2.2.2.1,x.2.2.2.2.2.2.2.2.2.2.2.2.2.2))))
def q4P (x:tg) (v:Int):tg:=(v,x.2.1,x.2.2.1,x.2.2.2.1,x.2.2.2.2.1,x.2.2.2.2.2.1,x.2.2.2.2.2.2.1,x.2.2.2.2.2.2.2.1,x.2.2.2.2.2.2.2.2.1,x.2.2.2.2.2.2.2.2.2.1,x.2.2.2.2.2.2.2.2.2.2.1,x.2.2.2.2.2.2.2.2.2.2.2.1,x.2.2.2.2.2.2.2.2.2.2.2.2.1,x.2.2.2.2.2.2.2.2.2.2.2.2.2.1,x.2.2.2.2.2.2.2.2.2.2.2.2.2.2)
theorem q4Q (x:tg):LE.step X q4M q4E q0 q4G 12 x=Wo x.2.2.1 x.2.2.2.2.2.2.2.2.2.2.2.2.2.1 x.1 (fun w0=>(Sum.inl (w0,x.2.1,x.2.2.1,x.2.2.2.1,x.2.2.2.2.1,x.2.2.2.2.2.1,x.2.2.2.2.2.2.1,x.2.2.2.2.2.2.2.1,x.2.2.2.2.2.2.2.2.1,x.2.2.2.2.2.2.2.2.2.1,x.2.2.2.2.2.2.2.2.2.2.1,x.2.2.2.2.2.2.2.2.2.2.2.1,x.2.2.2.2.2.2.2.2.2.2.2.2.1,x.2.2.2.2.2.2.2.2.2.2.2.2.2.1,x.2.2.2.2.2.2.2.2.2.2.2.2.2.2))) (fun p0 p1 p2=>(Sum.inr (.inl (p0,p1,x.2.2.1,x.2.2.2.1,x.2.2.2.2.1,x.2.2.2.2.2.1,x.2.2.2.2.2.2.1,x.2.2.2.2.2.2.2.1,x.2.2.2.2.2.2.2.2.1,x.2.2.2.2.2.2.2.2.2.1,x.2.2.2.2.2.2.2.2.2.2.1,x.2.2.2.2.2.2.2.2.2.2.2.1,p2,x.2.2.2.2.2.2.2.2.2.2.2.2.2.1,x.2.2.2.2.2.2.2.2.2.2.2.2.2.2)))) (Sum.inr (.inr (x.2.1,x.2.2.1,x.2.2.2.1,x.2.2.2.2.1,x.2.2.2.2.2.1,x.2.2.2.2.2.2.1,x.2.2.2.2.2.2.2.1,x.2.2.2.2.2.2.2.2.1,x.2.2.2.2.2.2.2.2.2.1,x.2.2.2.2.2.2.2.2.2.2.1,x.2.2.2.2.2.2.2.2.2.2.2.1,x.2.2.2.2.2.2.2.2.2.2.2.2.1,x.2.2.2.2.2.2.2.2.2.2.2.2.2.1,x.2.2.2.2.2.2.2.2.2.2.2.2.2.2))):=by kernel_rfl
theorem q4S {R:Type} (x:tg) (k:t3→Option R) (r:R) (h:q4O x k=some r):∃ o,Z5s (LE.step X q4M q4E q0 q4G 12) x o∧k o=some r:=by
 obtain ⟨o,h1,h2⟩:=Z0 h
 exact ⟨q4N x o,Zhl (st:=fun (x:tg)=>Wd x.2.2.1 x.2.2.2.2.2.2.2.2.2.2.2.2.2.1) (prj:=fun x=>x.1) (emb:=q4P) (embO:=q4N) (fun x=>(q4Q x).trans (by unfold Wd Wo;simp only [Zhd,Zh8,Zhe,Option.map_some,Option.map_none];rfl)) (fun _ _=>rfl) (fun _ _=>rfl) (fun _ _ _=>rfl) (fun _ _ _=>rfl) (fun _=>rfl) (Z1S.1 h1),by
  first
  | exact h2
  | (rcases o with o|o<;>exact h2)⟩
def q4T {R:Type}:Z27 S R:=LE.ls X q4M q4O q4G
theorem q4U {R:Type}:Z3J X (q4T (R:=R)):=Zhq xok q4F (e:=q4M) q1 q4H q4S q4H
theorem q4V (x0:Zl) (x1:Int) (x2:Int):Zhs X q4E [(.st 8),(.int .i64),(.int .i64)] [(.st 4),(.int .i64),(.int .i64)] q0 q4T 12 109 (x0,x1,x2,())=X1T x0 x1 x2:=by kernel_rfl
def q4W:F7 S:=⟨[(.st 8),(.int .i64),(.int .i64)],[(.st 4),(.int .i64),(.int .i64)],fun xs=>X3i xs.1 xs.2.1 xs.2.2.1⟩
theorem q4X:Z7Q X 109 q4W:=Zho (Zhn xok q4F q1 q4U 12 109) fun xs _ h=>((q4V xs.1 xs.2.1 xs.2.2.1).trans (X5E xs.1 xs.2.1 xs.2.2.1).symm).trans h
def q4Y:List (Nat×F7 S):=[(109,q4W)]
theorem q4Z:Z9n X (q4Y):=⟨q4X,trivial⟩
abbrev q50 {R:Type}:Z27 S R:=Zgi
theorem q51 {R:Type}:Z3J X (q50 (R:=R)):=ZgQ X
theorem q52 (x0:Zl) (x1:Int) (x2:Int):Zhs X q4Y [(.st 8),(.int .i64),(.int .i64)] [(.int .i64),(.int .i64)] q0 q50 12 82 (x0,x1,x2,())=X1S x0 x1 x2:=by kernel_rfl
def q53:F7 S:=⟨[(.st 8),(.int .i64),(.int .i64)],[(.int .i64),(.int .i64)],fun xs=>X5l xs.1 xs.2.1 xs.2.2.1⟩
theorem q54:Z7Q X 82 q53:=Zho (Zhn xok q4Z q1 q51 12 82) fun xs _ h=>((q52 xs.1 xs.2.1 xs.2.2.1).trans (X5C xs.1 xs.2.1 xs.2.2.1).symm).trans h
def q55:List (Nat×F7 S):=[(109,q4W)]
theorem q56:Z9n X (q55):=⟨q4X,trivial⟩
abbrev q57 {R:Type}:Z27 S R:=Zgi
theorem q58 {R:Type}:Z3J X (q57 (R:=R)):=ZgQ X
theorem q59 (x0:Zl) (x1:Int) (x2:Int):Zhs X q55 [(.st 8),(.int .i64),(.int .i64)] [(.st 4),(.int .i64)] q0 q57 12 126 (x0,x1,x2,())=X1c x0 x1 x2:=by kernel_rfl
def q5a:F7 S:=⟨[(.st 8),(.int .i64),(.int .i64)],[(.st 4),(.int .i64)],fun xs=>X4q xs.1 xs.2.1 xs.2.2.1⟩
theorem q5b:Z7Q X 126 q5a:=Zho (Zhn xok q56 q1 q58 12 126) fun xs _ h=>((q59 xs.1 xs.2.1 xs.2.2.1).trans (X4N xs.1 xs.2.1 xs.2.2.1).symm).trans h
def q5c:List (Nat×F7 S):=[]
theorem q5d:Z9n X (q5c):=trivial
abbrev q5e {R:Type}:Z27 S R:=Zgi
theorem q5f {R:Type}:Z3J X (q5e (R:=R)):=ZgQ X
theorem q5g:Zhs X q5c [] [(.arr 8 (.st 2))] q0 q5e 12 133 (())=X6w:=by kernel_rfl
def q5h:F7 S:=⟨[],[(.arr 8 (.st 2))],fun xs=>X6w⟩
theorem q5i:Z7Q X 133 q5h:=Zho (Zhn xok q5d q1 q5f 12 133) fun xs _ h=>(q5g).trans h
def q5j:List (Nat×F7 S):=[(133,q5h),(120,q1F)]
theorem q5k:Z9n X (q5j):=⟨q5i,q1G,trivial⟩
abbrev q5l {R:Type}:Z27 S R:=Zgi
theorem q5m {R:Type}:Z3J X (q5l (R:=R)):=ZgQ X
def q5n:Key:=⟨[127],127,none,[0,0,0,1],0,2⟩
def q5o:StT S:=⟨v1s,(N L om L),2⟩
def q5p:Way S:=⟨(.exit 0),⟨v1s,(N L om L),10⟩,[.int,(.st 2)]⟩
def q5q:LE S:=⟨q5n,q5o,[.int,(.st 2)],[q5p]⟩
def q5r (x:(Int×Zu)):(Int×Zu)→(Int×Zu):=fun y0=>(y0.1,y0.2)
def q5s {R:Type} (x:(Int×Zu)) (k:(Int×Zu)→Option R):Option R:=(X1O (x.1,x.2)).bind (fun y0=>k (y0.1,y0.2))
def q5t (x:(Int×Zu)) (v:(Int×Zu)):(Int×Zu):=(v.1,v.2)
theorem q5u (x:(Int×Zu)):LE.step X q5q q5j q0 q5l 12 x=XE x.1 x.2 (fun w0 w1=>(Sum.inl (w0,w1))) (fun p0 p1=>(Sum.inr (p0,p1))):=by kernel_rfl
theorem q5w {R:Type} (x:(Int×Zu)) (k:(Int×Zu)→Option R) (r:R) (h:q5s x k=some r):∃ o,Z5s (LE.step X q5q q5j q0 q5l 12) x o∧k o=some r:=by
 obtain ⟨o,h1,h2⟩:=Z0 h
 exact ⟨q5r x o,Zhl (st:=fun (x:(Int×Zu))=>Xf) (prj:=fun x=>(x.1,x.2)) (emb:=q5t) (embO:=q5r) (fun x=>(q5u x).trans (by unfold Xf XE;simp only [Zhd,Zh8,Zhe,Option.map_some,Option.map_none];rfl)) (fun _ _=>rfl) (fun _ _=>rfl) (fun _ _ _=>rfl) (fun _ _ _=>rfl) (fun _=>rfl) (Z1S.1 h1),by
  first
  | exact h2
  | (rcases o with o<;>exact h2)⟩
def q5x {R:Type}:Z27 S R:=LE.ls X q5q q5s q5l
theorem q5y {R:Type}:Z3J X (q5x (R:=R)):=Zhq xok q5k (e:=q5q) q1 q5m q5w q5m
def q5z:Key:=⟨[127],127,none,[0,0,1,0,1,1],2,12⟩
def q5A:StT S:=⟨(N (N L (some (.ptr 0 0)) (N L none (N (N L (some (.agg [(.arr (.st 2) 8 (fun _=>tdf T (.st 2)))])) L) none L))) none (N L vQ v1y)),(N L om L),12⟩
def q5B:Way S:=⟨(.exit 2),⟨(N L none (N L vQ L)),(N L om L),13⟩,[.int,(.st 2)]⟩
def q5C:LE S:=⟨q5z,q5A,[(.arr (.st 2)),.int,.int,(.st 2)],[q5B]⟩
def q5D (x:t13):Int→(Int×Zu):=fun y0=>(y0,x.2.2.2)
def q5E {R:Type} (x:t13) (k:(Int×Zu)→Option R):Option R:=(X2M x.1 x.2.2.2 (x.2.1,x.2.2.1)).bind (fun y0=>k (y0,x.2.2.2))
def q5F (x:t13) (v:(Int×Int)):t13:=(x.1,v.1,v.2,x.2.2.2)
theorem q5G (x:t13):LE.step X q5C q5j q0 q5x 12 x=Wq x.1 x.2.2.2 x.2.1 x.2.2.1 (fun w0 w1=>(Sum.inl (x.1,w0,w1,x.2.2.2))) (fun p0=>(Sum.inr (p0,x.2.2.2))):=by kernel_rfl
theorem q5I {R:Type} (x:t13) (k:(Int×Zu)→Option R) (r:R) (h:q5E x k=some r):∃ o,Z5s (LE.step X q5C q5j q0 q5x 12) x o∧k o=some r:=by
 obtain ⟨o,h1,h2⟩:=Z0 h
 exact ⟨q5D x o,Zhl (st:=fun (x:t13)=>Wf x.1 x.2.2.2) (prj:=fun x=>(x.2.1,x.2.2.1)) (emb:=q5F) (embO:=q5D) (fun x=>(q5G x).trans (by unfold Wf Wq;simp only [Zhd,Zh8,Zhe,Option.map_some,Option.map_none];rfl)) (fun _ _=>rfl) (fun _ _=>rfl) (fun _ _ _=>rfl) (fun _ _ _=>rfl) (fun _=>rfl) (Z1S.1 h1),by
  first
  | exact h2
  | (rcases o with o<;>exact h2)⟩
def q5J {R:Type}:Z27 S R:=LE.ls X q5C q5E q5x
theorem q5K {R:Type}:Z3J X (q5J (R:=R)):=Zhq xok q5k (e:=q5C) q1 q5y q5I q5y
theorem q5L (x0:Zu):Zhs X q5j [(.st 2)] [(.int .i64)] q0 q5J 12 127 (x0,())=X1V x0:=by kernel_rfl
def q5M:F7 S:=⟨[(.st 2)],[(.int .i64)],fun xs=>X4l xs.1⟩
theorem q5N:Z7Q X 127 q5M:=Zho (Zhn xok q5k q1 q5K 12 127) fun xs _ h=>((q5L xs.1).trans (X5G xs.1).symm).trans h
def q5O:List (Nat×F7 S):=[(126,q5a),(93,qY),(121,q1y),(127,q5M)]
theorem q5P:Z9n X (q5O):=⟨q5b,qZ,q1z,q5N,trivial⟩
abbrev q5Q {R:Type}:Z27 S R:=Zgi
theorem q5R {R:Type}:Z3J X (q5Q (R:=R)):=ZgQ X
theorem q5S (x0:Zl) (x1:Int) (x2:Int) (x3:Zu):Zhs X q5O [(.st 8),(.int .i64),(.int .i64),(.st 2)] [(.int .i64),(.int .i64)] q0 q5Q 12 110 (x0,x1,x2,x3,())=X2t x0 x1 x2 x3:=by kernel_rfl
def q5T:F7 S:=⟨[(.st 8),(.int .i64),(.int .i64),(.st 2)],[(.int .i64),(.int .i64)],fun xs=>X5m xs.1 xs.2.1 xs.2.2.1 xs.2.2.2.1⟩
theorem q5U:Z7Q X 110 q5T:=Zho (Zhn xok q5P q1 q5R 12 110) fun xs _ h=>((q5S xs.1 xs.2.1 xs.2.2.1 xs.2.2.2.1).trans (X6u xs.1 xs.2.1 xs.2.2.1 xs.2.2.2.1).symm).trans h
def q5V:StT S:=⟨v1v,(N (N L o4 L) os L),2⟩
def q5W:Way S:=⟨.ret,⟨(N L vP L),(N (N L o4 L) os L),2⟩,[.bool,(.st 20),(.lst (.st 21)),.en,(.mp (.st 23) (.int .i64))]⟩
def q5X:PE S:=⟨49,2,q5V,[.int,(.st 20),(.lst (.st 21)),.en,(.mp (.st 23) (.int .i64))],[q5W]⟩
def q5Y:List (Nat×F7 S):=[(82,q53)]
theorem q5Z:Z9n X q5Y:=⟨q54,trivial⟩
abbrev q60 {R:Type}:Z27 S R:=Zgi
theorem q61 {R:Type}:Z3J X (q60 (R:=R)):=ZgQ X
theorem q62 (x:tK):PE.step X q5X q5Y q0 q60 12 x=XJ x.1 x.2.1 x.2.2.1 x.2.2.2.1 x.2.2.2.2:=by kernel_rfl
theorem q63:ZaX X q5X W4:=Zhr (ZgU xok q5Z q1 q61 12) fun x _ h=>((q62 x).trans (X3s x).symm).trans h
def q64 {R:Type}:Prs S R:=PE.ps X q5X (fun x q=>(W4 x).bind q) q0
theorem q65 {R:Type}:Z7R X (q64 (R:=R)):=Zhi (e:=q5X) q63 q1
def q66:StT S:=⟨(N (N L vt L) (some (.ptr 1 0)) L),(N (N L o4 L) os L),2⟩
def q67:Way S:=⟨.ret,⟨(N L vQ L),(N (N L o4 L) os L),2⟩,[.int,(.st 20),(.lst (.st 21)),.en,(.mp (.st 23) (.int .i64))]⟩
def q68:PE S:=⟨105,2,q66,[(.st 21),(.st 20),(.lst (.st 21)),.en,(.mp (.st 23) (.int .i64))],[q67]⟩
def q69:List (Nat×F7 S):=[(57,q37),(82,q53)]
theorem q6a:Z9n X q69:=⟨q38,q54,trivial⟩
abbrev q6b {R:Type}:Z27 S R:=Zgi
theorem q6c {R:Type}:Z3J X (q6b (R:=R)):=ZgQ X
theorem q6d (x:(Zn×ZJ×(List Zn)×(Nat→Nat)×t1i)):PE.step X q68 q69 q64 q6b 12 x=XX x.1 x.2.1 x.2.2.1 x.2.2.2.1 x.2.2.2.2:=by kernel_rfl
theorem q6e:ZaX X q68 X1d:=Zhr (ZgU xok q6a q65 q6c 12) fun x _ h=>((q6d x).trans (X3K x).symm).trans h
def q6f {R:Type}:Prs S R:=PE.ps X q68 (fun x q=>(X1d x).bind q) q64
theorem q6g {R:Type}:Z7R X (q6f (R:=R)):=Zhi (e:=q68) q6e q65
def q6h:StT S:=⟨v1n,L,0⟩
def q6i:Way S:=⟨.ret,⟨(N L (some (.tup [.nilp,(.int .i64 0),(.int .i64 0)])) L),L,0⟩,[.int,.int]⟩
def q6j:Way S:=⟨.ret,⟨(N L (some (.tup [(.ptr 1 0),(.int .i64 0),(.int .i64 0)])) L),(N (N L o4 L) os L),2⟩,[.int,.int,(.st 20),(.lst (.st 21)),.en,(.mp (.st 23) (.int .i64))]⟩
def q6k:PE S:=⟨74,2,q6h,[(.lst (.st 21)),(.st 20)],[q6i,q6j]⟩
def q6l:List (Nat×F7 S):=[(29,q4C),(57,q37),(82,q53)]
theorem q6m:Z9n X q6l:=⟨q4D,q38,q54,trivial⟩
abbrev q6n {R:Type}:Z27 S R:=Zgi
theorem q6o {R:Type}:Z3J X (q6n (R:=R)):=ZgQ X
def q6p:Key:=⟨[74],74,none,[0,0,1,0,1,1,1,1],0,26⟩
def q6q:StT S:=⟨(N (N (N L none (N L none (N L vM L))) vN (N L none (N L none (N L vQ L)))) none (N (N L (some (.ptr 1 0)) (N L none (N L vQ L))) none L)),o1b,26⟩
def q6r:Way S:=⟨(.exit 0),⟨(N (N L vN L) none (N (N L (some (.ptr 1 0)) L) none L)),o1b,27⟩,[(.lst (.st 21)),(.st 20),(.st 20),(.lst (.st 21)),.en,(.mp (.st 23) (.int .i64))]⟩
def q6s:LE S:=⟨q6p,q6q,[(.lst (.st 18)),(.lst (.st 21)),.int,.int,(.st 20),(.st 20),(.lst (.st 21)),.en,(.mp (.st 23) (.int .i64))],[q6r]⟩
def q6t (x:tj):(Nat→Nat)→tB:=fun y0=>(x.2.1,x.2.2.2.2.1,x.2.2.2.2.2.1,x.2.2.2.2.2.2.1,y0,x.2.2.2.2.2.2.2.2)
def q6u {R:Type} (x:tj) (k:tB→Option R):Option R:=(X31 x.1 x.2.2.2.1 (x.2.2.1,x.2.2.2.2.2.2.2.1)).bind (fun y0=>k (x.2.1,x.2.2.2.2.1,x.2.2.2.2.2.1,x.2.2.2.2.2.2.1,y0,x.2.2.2.2.2.2.2.2))
def q6v (x:tj) (v:(Int×(Nat→Nat))):tj:=(x.1,x.2.1,v.1,x.2.2.2.1,x.2.2.2.2.1,x.2.2.2.2.2.1,x.2.2.2.2.2.2.1,v.2,x.2.2.2.2.2.2.2.2)
theorem q6w (x:tj):LE.step X q6s q6l q0 q6n 12 x=WR x.1 x.2.2.2.1 x.2.2.1 x.2.2.2.2.2.2.2.1 (fun w0 w1=>(Sum.inl (x.1,x.2.1,w0,x.2.2.2.1,x.2.2.2.2.1,x.2.2.2.2.2.1,x.2.2.2.2.2.2.1,w1,x.2.2.2.2.2.2.2.2))) (fun p0=>(Sum.inr (x.2.1,x.2.2.2.2.1,x.2.2.2.2.2.1,x.2.2.2.2.2.2.1,p0,x.2.2.2.2.2.2.2.2))):=by kernel_rfl
theorem q6y {R:Type} (x:tj) (k:tB→Option R) (r:R) (h:q6u x k=some r):∃ o,Z5s (LE.step X q6s q6l q0 q6n 12) x o∧k o=some r:=by
 obtain ⟨o,h1,h2⟩:=Z0 h
 exact ⟨q6t x o,Zhl (st:=fun (x:tj)=>WD x.1 x.2.2.2.1) (prj:=fun x=>(x.2.2.1,x.2.2.2.2.2.2.2.1)) (emb:=q6v) (embO:=q6t) (fun x=>(q6w x).trans (by unfold WD WR;simp only [Zhd,Zh8,Zhe,Option.map_some,Option.map_none];rfl)) (fun _ _=>rfl) (fun _ _=>rfl) (fun _ _ _=>rfl) (fun _ _ _=>rfl) (fun _=>rfl) (Z1S.1 h1),by
  first
  | exact h2
  | (rcases o with o<;>exact h2)⟩
def q6z {R:Type}:Z27 S R:=LE.ls X q6s q6u q6n
theorem q6A {R:Type}:Z3J X (q6z (R:=R)):=Zhq xok q6m (e:=q6s) q1 q6o q6y q6o
def q6B:Key:=⟨[103,2,14,74],103,none,[0,0,1,0,1],0,40⟩
def q6C:StT S:=⟨(N (N (N L none (N L vQ L)) (some (.fn (.func 104) [] [(.ptr 1 0)])) (N (N L vN L) none L)) none v1y),o18,40⟩
def q6D:Way S:=⟨.ret,⟨v1o,(N (N L oC L) none (N (N L none (N (N L o2 (N L of L)) none (N (N L of L) none L))) none (N (N (N L os L) none L) none L))),64⟩,[.int,.int,(.st 20),(.lst (.st 21)),.en,(.st 21),(.st 21),(.mp (.st 23) (.int .i64))]⟩
def q6E:Way S:=⟨(.exit 0),⟨L,o18,41⟩,[(.st 20),(.lst (.st 21)),.en,(.mp (.st 23) (.int .i64))]⟩
def q6F:LE S:=⟨q6B,q6C,[.int,(.lst (.st 21)),.int,(.st 20),(.lst (.st 21)),.en,(.mp (.st 23) (.int .i64))],[q6D,q6E]⟩
def q6G (x:tw):tb→tb:=Sum.elim (fun y0=>(.inl (y0.1,y0.2.1,y0.2.2.1,y0.2.2.2.1,y0.2.2.2.2.1,y0.2.2.2.2.2.1,y0.2.2.2.2.2.2.1,y0.2.2.2.2.2.2.2))) (fun y1=>(.inr (y1.1,y1.2.1,y1.2.2.1,y1.2.2.2)))
def q6H {R:Type} (x:tw) (k:tb→Option R):Option R:=(X32 x.2.1 x.2.2.1 (x.1,x.2.2.2.1,x.2.2.2.2.1,x.2.2.2.2.2.1,x.2.2.2.2.2.2)).bind (Sum.elim (fun y0=>k (.inl (y0.1,y0.2.1,y0.2.2.1,y0.2.2.2.1,y0.2.2.2.2.1,y0.2.2.2.2.2.1,y0.2.2.2.2.2.2.1,y0.2.2.2.2.2.2.2))) (fun y1=>k (.inr (y1.1,y1.2.1,y1.2.2.1,y1.2.2.2))))
def q6I (x:tw) (v:tK):tw:=(v.1,x.2.1,x.2.2.1,v.2.1,v.2.2.1,v.2.2.2.1,v.2.2.2.2)
theorem q6J (x:tw):LE.step X q6F q6l q6f q6z 12 x=WS x.2.1 x.2.2.1 x.1 x.2.2.2.1 x.2.2.2.2.1 x.2.2.2.2.2.1 x.2.2.2.2.2.2 (fun w0 w1 w2 w3 w4=>(Sum.inl (w0,x.2.1,x.2.2.1,w1,w2,w3,w4))) (fun p0 p1 p2 p3 p4 p5 p6 p7=>(Sum.inr (.inl (p0,p1,p2,p3,p4,p5,p6,p7)))) (fun p0 p1 p2 p3=>(Sum.inr (.inr (p0,p1,p2,p3)))):=by kernel_rfl
theorem q6L {R:Type} (x:tw) (k:tb→Option R) (r:R) (h:q6H x k=some r):∃ o,Z5s (LE.step X q6F q6l q6f q6z 12) x o∧k o=some r:=by
 obtain ⟨o,h1,h2⟩:=Z0 h
 exact ⟨q6G x o,Zhl (st:=fun (x:tw)=>WE x.2.1 x.2.2.1) (prj:=fun x=>(x.1,x.2.2.2.1,x.2.2.2.2.1,x.2.2.2.2.2.1,x.2.2.2.2.2.2)) (emb:=q6I) (embO:=q6G) (fun x=>(q6J x).trans (by unfold WE WS;simp only [Zhd,Zh8,Zhe,Option.map_some,Option.map_none];rfl)) (fun _ _=>rfl) (fun _ _=>rfl) (fun _ _ _=>rfl) (fun _ _ _=>rfl) (fun _=>rfl) (Z1S.1 h1),by
  first
  | exact h2
  | (rcases o with o|o<;>exact h2)⟩
def q6M {R:Type}:Z27 S R:=LE.ls X q6F q6H q6z
theorem q6N {R:Type}:Z3J X (q6M (R:=R)):=Zhq xok q6m (e:=q6F) q6g q6A q6L q6A
theorem q6O (x:((List Zn)×ZJ)):PE.step X q6k q6l q6f q6M 12 x=X2e x.1 x.2:=by kernel_rfl
theorem q6P:ZaX X q6k X4R:=Zhr (ZgU xok q6m q6g q6N 12) fun x _ h=>((q6O x).trans (X5Z x).symm).trans h
def q6Q {R:Type}:Prs S R:=PE.ps X q6k (fun x q=>(X4R x).bind q) q6f
theorem q6R {R:Type}:Z7R X (q6Q (R:=R)):=Zhi (e:=q6k) q6P q6g
def q6S:StT S:=⟨v1n,L,0⟩
def q6T:Way S:=⟨.ret,⟨(N L (some (.tup [.nilp,(.int .i64 0)])) L),L,0⟩,[.int]⟩
def q6U:Way S:=⟨.ret,⟨(N L (some (.tup [(.ptr 1 0),(.int .i64 0)])) L),(N (N L o4 L) os L),2⟩,[.int,(.st 20),(.lst (.st 21)),.en,(.mp (.st 23) (.int .i64))]⟩
def q6V:PE S:=⟨35,2,q6S,[(.lst (.st 21)),(.st 20)],[q6T,q6U]⟩
def q6W:List (Nat×F7 S):=[(29,q4C),(57,q37),(82,q53)]
theorem q6X:Z9n X q6W:=⟨q4D,q38,q54,trivial⟩
abbrev q6Y {R:Type}:Z27 S R:=Zgi
theorem q6Z {R:Type}:Z3J X (q6Y (R:=R)):=ZgQ X
theorem q70 (x:((List Zn)×ZJ)):PE.step X q6V q6W q6Q q6Y 12 x=X1Y x.1 x.2:=by kernel_rfl
theorem q71:ZaX X q6V X16:=Zhr (ZgU xok q6X q6R q6Z 12) fun x _ h=>((q70 x).trans (X5I x).symm).trans h
def q72 {R:Type}:Prs S R:=PE.ps X q6V (fun x q=>(X16 x).bind q) q6Q
theorem q73 {R:Type}:Z7R X (q72 (R:=R)):=Zhi (e:=q6V) q71 q6R
def q74:StT S:=⟨(N L (some .nilp) L),L,0⟩
def q75:PE S:=⟨36,1,q74,[],[]⟩
def q76:List (Nat×F7 S):=[(110,q5T),(57,q37)]
theorem q77:Z9n X q76:=⟨q5U,q38,trivial⟩
abbrev q78 {R:Type}:Z27 S R:=Zgi
theorem q79 {R:Type}:Z3J X (q78 (R:=R)):=ZgQ X
theorem q7a (x:Unit):PE.step X q75 q76 q72 q78 12 x=WB:=by kernel_rfl
theorem q7b:ZaX X q75 WP:=Zhr (ZgU xok q77 q73 q79 12) fun x _ h=>((q7a x).trans (X5q x).symm).trans h
def q7c {R:Type}:Prs S R:=PE.ps X q75 (fun x q=>(WP x).bind q) q72
theorem q7d {R:Type}:Z7R X (q7c (R:=R)):=Zhi (e:=q75) q7b q73
def q7e:StT S:=⟨(N (N L vQ L) (some (.ptr 1 0)) (N L vv L)),(N (N L o4 L) os L),2⟩
def q7f:Way S:=⟨.ret,⟨(N L vQ L),(N (N L o4 L) os L),2⟩,[.int,(.st 20),(.lst (.st 21)),.en,(.mp (.st 23) (.int .i64))]⟩
def q7g:PE S:=⟨83,3,q7e,[.int,(.st 2),(.st 20),(.lst (.st 21)),.en,(.mp (.st 23) (.int .i64))],[q7f]⟩
def q7h:List (Nat×F7 S):=[(110,q5T)]
theorem q7i:Z9n X q7h:=⟨q5U,trivial⟩
abbrev q7j {R:Type}:Z27 S R:=Zgi
theorem q7k {R:Type}:Z3J X (q7j (R:=R)):=ZgQ X
theorem q7l (x:(Int×Zu×ZJ×(List Zn)×(Nat→Nat)×t1i)):PE.step X q7g q7h q7c q7j 12 x=XM x.1 x.2.1 x.2.2.1 x.2.2.2.1 x.2.2.2.2.1 x.2.2.2.2.2:=by kernel_rfl
theorem q7m:ZaX X q7g W5:=Zhr (ZgU xok q7i q7d q7k 12) fun x _ h=>((q7l x).trans (X3x x).symm).trans h
def q7n {R:Type}:Prs S R:=PE.ps X q7g (fun x q=>(W5 x).bind q) q7c
theorem q7o {R:Type}:Z7R X (q7n (R:=R)):=Zhi (e:=q7g) q7m q7d
def q7p:StT S:=⟨(N (N L vv L) (some (.agg [(.ptr 1 0)])) (N L vt L)),(N (N L o4 L) os L),2⟩
def q7q:Way S:=⟨.ret,⟨v1i,(N (N L o4 L) os L),2⟩,[(.st 5),.bool,(.st 20),(.lst (.st 21)),.en,(.mp (.st 23) (.int .i64))]⟩
def q7r:PE S:=⟨149,3,q7p,[(.st 2),(.st 21),(.st 20),(.lst (.st 21)),.en,(.mp (.st 23) (.int .i64))],[q7q]⟩
def q7s:List (Nat×F7 S):=[(110,q5T)]
theorem q7t:Z9n X q7s:=⟨q5U,trivial⟩
abbrev q7u {R:Type}:Z27 S R:=Zgi
theorem q7v {R:Type}:Z3J X (q7u (R:=R)):=ZgQ X
theorem q7w (x:(Zu×Zn×ZJ×(List Zn)×(Nat→Nat)×t1i)):PE.step X q7r q7s q7n q7u 12 x=XN x.1 x.2.1 x.2.2.1 x.2.2.2.1 x.2.2.2.2.1 x.2.2.2.2.2:=by kernel_rfl
theorem q7x:ZaX X q7r Xt:=Zhr (ZgU xok q7t q7o q7v 12) fun x _ h=>((q7w x).trans (X3z x).symm).trans h
def q7y {R:Type}:Prs S R:=PE.ps X q7r (fun x q=>(Xt x).bind q) q7n
theorem q7z {R:Type}:Z7R X (q7y (R:=R)):=Zhi (e:=q7r) q7x q7o
def q7A:StT S:=⟨(N (N L vv L) (some (.agg [(.ptr 1 0)])) (N L vt L)),(N (N L o4 L) os L),2⟩
def q7B:Way S:=⟨.ret,⟨v1i,(N (N L o4 L) os L),2⟩,[(.st 5),.bool,(.st 20),(.lst (.st 21)),.en,(.mp (.st 23) (.int .i64))]⟩
def q7C:PE S:=⟨150,3,q7A,[(.st 2),(.st 21),(.st 20),(.lst (.st 21)),.en,(.mp (.st 23) (.int .i64))],[q7B]⟩
def q7D:List (Nat×F7 S):=[(57,q37)]
theorem q7E:Z9n X q7D:=⟨q38,trivial⟩
abbrev q7F {R:Type}:Z27 S R:=Zgi
theorem q7G {R:Type}:Z3J X (q7F (R:=R)):=ZgQ X
def q7H:Key:=⟨[151,7,1,150],151,none,[0,0,1,0,1],0,20⟩
def q7I:StT S:=⟨(N (N (N (N L vQ L) none L) (some (.fn (.func 152) [] [(.ptr 3 0)])) L) (some (.sl (.st 19) [])) v1x),o1A,20⟩
def q7J:Way S:=⟨.ret,⟨v1y,(N (N (N (N L none (N (N L ow L) none L)) om (N (N L none (N L ow L)) none L)) none (N L none (N L none (N L oc L)))) none L),58⟩,[.int,(.lst (.int .i64)),(.st 2),(.lst (.int .i64)),(.st 19)]⟩
def q7K:Way S:=⟨(.exit 0),⟨L,o1A,21⟩,[(.st 2)]⟩
def q7L:LE S:=⟨q7H,q7I,[.int,(.lst (.st 19)),.int,(.st 2)],[q7J,q7K]⟩
def q7M (x:t14):((Int×(List Int)×(List Int)×Zt)⊕Unit)→tR:=Sum.elim (fun y0=>(.inl (y0.1,y0.2.1,x.2.2.2,y0.2.2.1,y0.2.2.2))) (fun y1=>(.inr x.2.2.2))
def q7N {R:Type} (x:t14) (k:tR→Option R):Option R:=(X3c x.1 x.2.1 x.2.2.2 x.2.2.1).bind (Sum.elim (fun y0=>k (.inl (y0.1,y0.2.1,x.2.2.2,y0.2.2.1,y0.2.2.2))) (fun y1=>k (.inr x.2.2.2)))
def q7O (x:t14) (v:Int):t14:=(x.1,x.2.1,v,x.2.2.2)
theorem q7P (x:t14):LE.step X q7L q7D q7y q7F 12 x=XA x.1 x.2.1 x.2.2.2 x.2.2.1 (fun w0=>(Sum.inl (x.1,x.2.1,w0,x.2.2.2))) (fun p0 p1 p2 p3=>(Sum.inr (.inl (p0,p1,x.2.2.2,p2,p3)))) (Sum.inr (.inr x.2.2.2)):=by kernel_rfl
theorem q7R {R:Type} (x:t14) (k:tR→Option R) (r:R) (h:q7N x k=some r):∃ o,Z5s (LE.step X q7L q7D q7y q7F 12) x o∧k o=some r:=by
 obtain ⟨o,h1,h2⟩:=Z0 h
 exact ⟨q7M x o,Zhl (st:=fun (x:t14)=>Xr x.1 x.2.1 x.2.2.2) (prj:=fun x=>x.2.2.1) (emb:=q7O) (embO:=q7M) (fun x=>(q7P x).trans (by unfold Xr XA;simp only [Zhd,Zh8,Zhe,Option.map_some,Option.map_none];rfl)) (fun _ _=>rfl) (fun _ _=>rfl) (fun _ _ _=>rfl) (fun _ _ _=>rfl) (fun _=>rfl) (Z1S.1 h1),by
  first
  | exact h2
  | (rcases o with o|o<;>exact h2)⟩
def q7S {R:Type}:Z27 S R:=LE.ls X q7L q7N q7F
theorem q7T {R:Type}:Z3J X (q7S (R:=R)):=Zhq xok q7E (e:=q7L) q7z q7G q7R q7G
theorem q7U (x:(Zu×Zn×ZJ×(List Zn)×(Nat→Nat)×t1i)):PE.step X q7C q7D q7y q7S 12 x=Ws x.1 x.2.1 x.2.2.1 x.2.2.2.1 x.2.2.2.2.1 x.2.2.2.2.2:=by kernel_rfl
theorem q7V:ZaX X q7C Wg:=Zhr (ZgU xok q7E q7z q7T 12) fun x _ h=>((q7U x).trans (X4f x).symm).trans h
def q7W {R:Type}:Prs S R:=PE.ps X q7C (fun x q=>(Wg x).bind q) q7y
theorem q7X {R:Type}:Z7R X (q7W (R:=R)):=Zhi (e:=q7C) q7V q7z
def q7Y:StT S:=⟨(N (N (N L vQ L) vv L) (some (.ptr 1 0)) (N L vQ L)),(N (N L o4 L) os L),2⟩
def q7Z:Way S:=⟨.ret,⟨(N L (some (.tup [(.agg [(.arr (.st 5) 4 (fun _=>tdf T (.st 5)))]),(.bool false)])) L),(N (N L o4 L) os L),2⟩,[(.arr (.st 5)),.bool,(.st 20),(.lst (.st 21)),.en,(.mp (.st 23) (.int .i64))]⟩
def q80:PE S:=⟨58,4,q7Y,[.int,(.st 2),.int,(.st 20),(.lst (.st 21)),.en,(.mp (.st 23) (.int .i64))],[q7Z]⟩
def q81:List (Nat×F7 S):=[(110,q5T),(57,q37)]
theorem q82:Z9n X q81:=⟨q5U,q38,trivial⟩
abbrev q83 {R:Type}:Z27 S R:=Zgi
theorem q84 {R:Type}:Z3J X (q83 (R:=R)):=ZgQ X
def q85:Key:=⟨[58],58,none,[0,0,1,0,0,1],0,12⟩
def q86:StT S:=⟨(N (N (N (N L none (N L vQ L)) vQ L) none (N L (some (.ptr 2 0)) L)) (some (.ptr 1 0)) (N (N (N L (some (.ptr 3 0)) (N L vQ L)) none L) vQ (N L none (N (N L vM L) none L)))),o1t,12⟩
def q87:Way S:=⟨(.exit 0),⟨(N (N (N L vQ L) none (N L (some (.ptr 2 0)) L)) (some (.ptr 1 0)) (N v1u vQ L)),o1t,13⟩,[.int,.int,(.arr (.st 5)),(.st 20),(.lst (.st 21)),.en,(.mp (.st 23) (.int .i64)),(.st 2)]⟩
def q88:LE S:=⟨q85,q86,[.int,.int,.int,.int,(.lst (.st 18)),(.arr (.st 5)),(.st 20),(.lst (.st 21)),.en,(.mp (.st 23) (.int .i64)),(.st 2)],[q87]⟩
def q89 (x:tf):(Nat→ZE)→tt:=fun y0=>(x.2.1,x.2.2.2.1,y0,x.2.2.2.2.2.2.1,x.2.2.2.2.2.2.2.1,x.2.2.2.2.2.2.2.2.1,x.2.2.2.2.2.2.2.2.2.1,x.2.2.2.2.2.2.2.2.2.2)
def q8a {R:Type} (x:tf) (k:tt→Option R):Option R:=(X26 x.1 x.2.1 x.2.2.2.1 x.2.2.2.2.1 x.2.2.2.2.2.2.1 x.2.2.2.2.2.2.2.1 x.2.2.2.2.2.2.2.2.1 x.2.2.2.2.2.2.2.2.2.1 x.2.2.2.2.2.2.2.2.2.2 (x.2.2.1,x.2.2.2.2.2.1)).bind (fun y0=>k (x.2.1,x.2.2.2.1,y0,x.2.2.2.2.2.2.1,x.2.2.2.2.2.2.2.1,x.2.2.2.2.2.2.2.2.1,x.2.2.2.2.2.2.2.2.2.1,x.2.2.2.2.2.2.2.2.2.2))
def q8b (x:tf) (v:(Int×(Nat→ZE))):tf:=(x.1,x.2.1,v.1,x.2.2.2.1,x.2.2.2.2.1,v.2,x.2.2.2.2.2.2.1,x.2.2.2.2.2.2.2.1,x.2.2.2.2.2.2.2.2.1,x.2.2.2.2.2.2.2.2.2.1,x.2.2.2.2.2.2.2.2.2.2)
theorem q8c (x:tf):LE.step X q88 q81 q7c q83 12 x=XG x.1 x.2.1 x.2.2.2.1 x.2.2.2.2.1 x.2.2.2.2.2.2.1 x.2.2.2.2.2.2.2.1 x.2.2.2.2.2.2.2.2.1 x.2.2.2.2.2.2.2.2.2.1 x.2.2.2.2.2.2.2.2.2.2 x.2.2.1 x.2.2.2.2.2.1 (fun w0 w1=>(Sum.inl (x.1,x.2.1,w0,x.2.2.2.1,x.2.2.2.2.1,w1,x.2.2.2.2.2.2.1,x.2.2.2.2.2.2.2.1,x.2.2.2.2.2.2.2.2.1,x.2.2.2.2.2.2.2.2.2.1,x.2.2.2.2.2.2.2.2.2.2))) (fun p0=>(Sum.inr (x.2.1,x.2.2.2.1,p0,x.2.2.2.2.2.2.1,x.2.2.2.2.2.2.2.1,x.2.2.2.2.2.2.2.2.1,x.2.2.2.2.2.2.2.2.2.1,x.2.2.2.2.2.2.2.2.2.2))):=by kernel_rfl
theorem q8e {R:Type} (x:tf) (k:tt→Option R) (r:R) (h:q8a x k=some r):∃ o,Z5s (LE.step X q88 q81 q7c q83 12) x o∧k o=some r:=by
 obtain ⟨o,h1,h2⟩:=Z0 h
 exact ⟨q89 x o,Zhl (st:=fun (x:tf)=>Xv x.1 x.2.1 x.2.2.2.1 x.2.2.2.2.1 x.2.2.2.2.2.2.1 x.2.2.2.2.2.2.2.1 x.2.2.2.2.2.2.2.2.1 x.2.2.2.2.2.2.2.2.2.1 x.2.2.2.2.2.2.2.2.2.2) (prj:=fun x=>(x.2.2.1,x.2.2.2.2.2.1)) (emb:=q8b) (embO:=q89) (fun x=>(q8c x).trans (by unfold Xv XG;simp only [Zhd,Zh8,Zhe,Option.map_some,Option.map_none];rfl)) (fun _ _=>rfl) (fun _ _=>rfl) (fun _ _ _=>rfl) (fun _ _ _=>rfl) (fun _=>rfl) (Z1S.1 h1),by
  first
  | exact h2
  | (rcases o with o<;>exact h2)⟩
def q8f {R:Type}:Z27 S R:=LE.ls X q88 q8a q83
theorem q8g {R:Type}:Z3J X (q8f (R:=R)):=Zhq xok q82 (e:=q88) q7d q84 q8e q84
def q8h:Key:=⟨[58],58,none,[0,0,1,0,1,1,0,1],2,19⟩
def q8i:StT S:=⟨(N (N (N v1y vQ L) none (N L (some (.ptr 2 0)) (N (N (N L vN L) none L) none L))) (some (.ptr 1 0)) (N v1u vQ (N L none v1x))),o1t,19⟩
def q8j:Way S:=⟨.ret,⟨v1d,(N (N (N L o9 (N (N (N L (some (.cells 159 [.nilp])) L) none L) none L)) o4 o1c) os (N L om (N L none (N (N L of L) none L)))),102⟩,[.bool,(.arr (.st 5)),(.st 20),(.lst (.st 21)),.en,(.st 5),(.mp (.st 23) (.int .i64)),(.st 2),(.st 21)]⟩
def q8k:Way S:=⟨.ret,⟨v1d,(N (N (N L o9 (N (N (N L (some (.cells 159 [(.ptr 1 0)])) L) none L) none L)) o4 o1c) os (N L om (N L none (N (N L of L) none L)))),102⟩,[.bool,(.arr (.st 5)),(.st 20),(.lst (.st 21)),.en,(.st 5),(.mp (.st 23) (.int .i64)),(.st 2),(.st 21)]⟩
def q8l:Way S:=⟨(.exit 2),⟨(N L none (N v1u none L)),o1t,20⟩,[(.arr (.st 5)),(.st 20),(.lst (.st 21)),.en,(.mp (.st 23) (.int .i64)),(.st 2)]⟩
def q8m:LE S:=⟨q8h,q8i,[.int,.int,(.lst (.st 21)),.int,.int,(.arr (.st 5)),(.st 20),(.lst (.st 21)),.en,(.mp (.st 23) (.int .i64)),(.st 2)],[q8j,q8k,q8l]⟩
def q8n (x:th):((Bool×(Nat→ZE)×ZJ×(List Zn)×(Nat→Nat)×ZE×t1i×Zn)⊕(Bool×(Nat→ZE)×ZJ×(List Zn)×(Nat→Nat)×ZE×t1i×Zn)⊕((Nat→ZE)×ZJ×(List Zn)×(Nat→Nat)×t1i))→t1:=Sum.elim (fun y0=>(.inl (y0.1,y0.2.1,y0.2.2.1,y0.2.2.2.1,y0.2.2.2.2.1,y0.2.2.2.2.2.1,y0.2.2.2.2.2.2.1,x.2.2.2.2.2.2.2.2.2.2,y0.2.2.2.2.2.2.2))) (Sum.elim (fun y1=>(.inr (.inl (y1.1,y1.2.1,y1.2.2.1,y1.2.2.2.1,y1.2.2.2.2.1,y1.2.2.2.2.2.1,y1.2.2.2.2.2.2.1,x.2.2.2.2.2.2.2.2.2.2,y1.2.2.2.2.2.2.2)))) (fun y2=>(.inr (.inr (y2.1,y2.2.1,y2.2.2.1,y2.2.2.2.1,y2.2.2.2.2,x.2.2.2.2.2.2.2.2.2.2)))))
def q8o {R:Type} (x:th) (k:t1→Option R):Option R:=(X27 x.2.1 x.2.2.1 x.2.2.2.1 x.2.2.2.2.1 x.2.2.2.2.2.2.2.2.2.2 (x.1,x.2.2.2.2.2.1,x.2.2.2.2.2.2.1,x.2.2.2.2.2.2.2.1,x.2.2.2.2.2.2.2.2.1,x.2.2.2.2.2.2.2.2.2.1)).bind (Sum.elim (fun y0=>k (.inl (y0.1,y0.2.1,y0.2.2.1,y0.2.2.2.1,y0.2.2.2.2.1,y0.2.2.2.2.2.1,y0.2.2.2.2.2.2.1,x.2.2.2.2.2.2.2.2.2.2,y0.2.2.2.2.2.2.2))) (Sum.elim (fun y1=>k (.inr (.inl (y1.1,y1.2.1,y1.2.2.1,y1.2.2.2.1,y1.2.2.2.2.1,y1.2.2.2.2.2.1,y1.2.2.2.2.2.2.1,x.2.2.2.2.2.2.2.2.2.2,y1.2.2.2.2.2.2.2)))) (fun y2=>k (.inr (.inr (y2.1,y2.2.1,y2.2.2.1,y2.2.2.2.1,y2.2.2.2.2,x.2.2.2.2.2.2.2.2.2.2))))))
def q8p (x:th) (v:(Int×(Nat→ZE)×ZJ×(List Zn)×(Nat→Nat)×t1i)):th:=(v.1,x.2.1,x.2.2.1,x.2.2.2.1,x.2.2.2.2.1,v.2.1,v.2.2.1,v.2.2.2.1,v.2.2.2.2.1,v.2.2.2.2.2,x.2.2.2.2.2.2.2.2.2.2)
theorem q8q (x:th):LE.step X q8m q81 q7W q8f 12 x=XH x.2.1 x.2.2.1 x.2.2.2.1 x.2.2.2.2.1 x.2.2.2.2.2.2.2.2.2.2 x.1 x.2.2.2.2.2.1 x.2.2.2.2.2.2.1 x.2.2.2.2.2.2.2.1 x.2.2.2.2.2.2.2.2.1 x.2.2.2.2.2.2.2.2.2.1 (fun w0 w1 w2 w3 w4 w5=>(Sum.inl (w0,x.2.1,x.2.2.1,x.2.2.2.1,x.2.2.2.2.1,w1,w2,w3,w4,w5,x.2.2.2.2.2.2.2.2.2.2))) (fun p0 p1 p2 p3 p4 p5 p6 p7=>(Sum.inr (.inl (p0,p1,p2,p3,p4,p5,p6,x.2.2.2.2.2.2.2.2.2.2,p7)))) (fun p0 p1 p2 p3 p4 p5 p6 p7=>(Sum.inr (.inr (.inl (p0,p1,p2,p3,p4,p5,p6,x.2.2.2.2.2.2.2.2.2.2,p7))))) (fun p0 p1 p2 p3 p4=>(Sum.inr (.inr (.inr (p0,p1,p2,p3,p4,x.2.2.2.2.2.2.2.2.2.2))))):=by kernel_rfl
theorem q8s {R:Type} (x:th) (k:t1→Option R) (r:R) (h:q8o x k=some r):∃ o,Z5s (LE.step X q8m q81 q7W q8f 12) x o∧k o=some r:=by
 obtain ⟨o,h1,h2⟩:=Z0 h
 exact ⟨q8n x o,Zhl (st:=fun (x:th)=>Xw x.2.1 x.2.2.1 x.2.2.2.1 x.2.2.2.2.1 x.2.2.2.2.2.2.2.2.2.2) (prj:=fun x=>(x.1,x.2.2.2.2.2.1,x.2.2.2.2.2.2.1,x.2.2.2.2.2.2.2.1,x.2.2.2.2.2.2.2.2.1,x.2.2.2.2.2.2.2.2.2.1)) (emb:=q8p) (embO:=q8n) (fun x=>(q8q x).trans (by unfold Xw XH;simp only [Zhd,Zh8,Zhe,Option.map_some,Option.map_none];rfl)) (fun _ _=>rfl) (fun _ _=>rfl) (fun _ _ _=>rfl) (fun _ _ _=>rfl) (fun _=>rfl) (Z1S.1 h1),by
  first
  | exact h2
  | (rcases o with o|o|o<;>exact h2)⟩
def q8t {R:Type}:Z27 S R:=LE.ls X q8m q8o q8f
theorem q8u {R:Type}:Z3J X (q8t (R:=R)):=Zhq xok q82 (e:=q8m) q7X q8g q8s q8g
theorem q8v (x:(Int×Zu×Int×ZJ×(List Zn)×(Nat→Nat)×t1i)):PE.step X q80 q81 q7W q8t 12 x=WO x.1 x.2.1 x.2.2.1 x.2.2.2.1 x.2.2.2.2.1 x.2.2.2.2.2.1 x.2.2.2.2.2.2:=by kernel_rfl
theorem q8w:ZaX X q80 XC:=Zhr (ZgU xok q82 q7X q8u 12) fun x _ h=>((q8v x).trans (X4s x).symm).trans h
def q8x {R:Type}:Prs S R:=PE.ps X q80 (fun x q=>(XC x).bind q) q7W
theorem q8y {R:Type}:Z7R X (q8x (R:=R)):=Zhi (e:=q80) q8w q7X
def q8z:StT S:=⟨(N L (some (.ptr 1 0)) L),(N (N L o4 L) os L),2⟩
def q8A:Way S:=⟨.ret,⟨(N L (some (.rs 2 0)) L),(N (N L o4 L) os (N L oE L)),3⟩,[(.st 20),(.lst (.st 21)),.en,(.mp (.st 23) (.int .i64)),(.lst (.st 2))]⟩
def q8B:PE S:=⟨36,1,q8z,[(.st 20),(.lst (.st 21)),.en,(.mp (.st 23) (.int .i64))],[q8A]⟩
def q8C:List (Nat×F7 S):=[(110,q5T),(57,q37)]
theorem q8D:Z9n X q8C:=⟨q5U,q38,trivial⟩
abbrev q8E {R:Type}:Z27 S R:=Zgi
theorem q8F {R:Type}:Z3J X (q8E (R:=R)):=ZgQ X
def q8G:Key:=⟨[108,0,36],108,none,[0,0,1,0,0,1,0,0,1],2,34⟩
def q8H:StT S:=⟨(N (N (N L vQ L) (some (.ptr 6 0)) L) (some (.yld 11)) (N (N L vQ L) none L)),o12,35⟩
def q8I:Way S:=⟨(.exit 2),⟨v1l,o12,42⟩,[.int,(.st 20),(.lst (.st 21)),.en,(.mp (.st 23) (.int .i64)),(.lst (.st 2))]⟩
def q8J:LE S:=⟨q8G,q8H,[.int,.int,(.st 20),(.lst (.st 21)),.en,(.mp (.st 23) (.int .i64)),(.lst (.st 2))],[q8I]⟩
def q8K (x:tx):(ZJ×(List Zn)×(Nat→Nat)×t1i×(List Zu))→tD:=fun y0=>(x.1,y0.1,y0.2.1,y0.2.2.1,y0.2.2.2.1,y0.2.2.2.2)
def q8L {R:Type} (x:tx) (k:tD→Option R):Option R:=(XW x.1 (x.2.1,x.2.2.1,x.2.2.2.1,x.2.2.2.2.1,x.2.2.2.2.2.1,x.2.2.2.2.2.2)).bind (fun y0=>k (x.1,y0.1,y0.2.1,y0.2.2.1,y0.2.2.2.1,y0.2.2.2.2))
def q8M (x:tx) (v:tD):tx:=(x.1,v.1,v.2.1,v.2.2.1,v.2.2.2.1,v.2.2.2.2.1,v.2.2.2.2.2)
theorem q8N (x:tx):LE.step X q8J q8C q8x q8E 12 x=Xk x.1 x.2.1 x.2.2.1 x.2.2.2.1 x.2.2.2.2.1 x.2.2.2.2.2.1 x.2.2.2.2.2.2 (fun w0 w1 w2 w3 w4 w5=>(Sum.inl (x.1,w0,w1,w2,w3,w4,w5))) (fun p0 p1 p2 p3 p4=>(Sum.inr (x.1,p0,p1,p2,p3,p4))):=by kernel_rfl
theorem q8P {R:Type} (x:tx) (k:tD→Option R) (r:R) (h:q8L x k=some r):∃ o,Z5s (LE.step X q8J q8C q8x q8E 12) x o∧k o=some r:=by
 obtain ⟨o,h1,h2⟩:=Z0 h
 exact ⟨q8K x o,Zhl (st:=fun (x:tx)=>Xd x.1) (prj:=fun x=>(x.2.1,x.2.2.1,x.2.2.2.1,x.2.2.2.2.1,x.2.2.2.2.2.1,x.2.2.2.2.2.2)) (emb:=q8M) (embO:=q8K) (fun x=>(q8N x).trans (by unfold Xd Xk;simp only [Zhd,Zh8,Zhe,Option.map_some,Option.map_none];rfl)) (fun _ _=>rfl) (fun _ _=>rfl) (fun _ _ _=>rfl) (fun _ _ _=>rfl) (fun _=>rfl) (Z1S.1 h1),by
  first
  | exact h2
  | (rcases o with o<;>exact h2)⟩
def q8Q {R:Type}:Z27 S R:=LE.ls X q8J q8L q8E
theorem q8R {R:Type}:Z3J X (q8Q (R:=R)):=Zhq xok q8D (e:=q8J) q8y q8F q8P q8F
def q8S:Key:=⟨[108,0,36],108,none,[0,0,1],0,19⟩
def q8T:StT S:=⟨v1l,o1a,20⟩
def q8U:Way S:=⟨(.exit 0),⟨L,o1a,27⟩,[(.lst (.st 2)),(.st 20),(.lst (.st 21)),.en,(.mp (.st 23) (.int .i64))]⟩
def q8V:LE S:=⟨q8S,q8T,[.int,(.lst (.st 2)),(.st 20),(.lst (.st 21)),.en,(.mp (.st 23) (.int .i64))],[q8U]⟩
def q8W (x:tE):tG→tG:=fun y0=>(y0.1,y0.2.1,y0.2.2.1,y0.2.2.2.1,y0.2.2.2.2)
def q8X {R:Type} (x:tE) (k:tG→Option R):Option R:=(XV (x.1,x.2.1,x.2.2.1,x.2.2.2.1,x.2.2.2.2.1,x.2.2.2.2.2)).bind (fun y0=>k (y0.1,y0.2.1,y0.2.2.1,y0.2.2.2.1,y0.2.2.2.2))
def q8Y (x:tE) (v:tE):tE:=(v.1,v.2.1,v.2.2.1,v.2.2.2.1,v.2.2.2.2.1,v.2.2.2.2.2)
theorem q8Z (x:tE):LE.step X q8V q8C q8x q8Q 12 x=Xj x.1 x.2.1 x.2.2.1 x.2.2.2.1 x.2.2.2.2.1 x.2.2.2.2.2 (fun w0 w1 w2 w3 w4 w5=>(Sum.inl (w0,w1,w2,w3,w4,w5))) (fun p0 p1 p2 p3 p4=>(Sum.inr (p0,p1,p2,p3,p4))):=by kernel_rfl
theorem q91 {R:Type} (x:tE) (k:tG→Option R) (r:R) (h:q8X x k=some r):∃ o,Z5s (LE.step X q8V q8C q8x q8Q 12) x o∧k o=some r:=by
 obtain ⟨o,h1,h2⟩:=Z0 h
 exact ⟨q8W x o,Zhl (st:=fun (x:tE)=>Xc) (prj:=fun x=>(x.1,x.2.1,x.2.2.1,x.2.2.2.1,x.2.2.2.2.1,x.2.2.2.2.2)) (emb:=q8Y) (embO:=q8W) (fun x=>(q8Z x).trans (by unfold Xc Xj;simp only [Zhd,Zh8,Zhe,Option.map_some,Option.map_none];rfl)) (fun _ _=>rfl) (fun _ _=>rfl) (fun _ _ _=>rfl) (fun _ _ _=>rfl) (fun _=>rfl) (Z1S.1 h1),by
  first
  | exact h2
  | (rcases o with o<;>exact h2)⟩
def q92 {R:Type}:Z27 S R:=LE.ls X q8V q8X q8Q
theorem q93 {R:Type}:Z3J X (q92 (R:=R)):=Zhq xok q8D (e:=q8V) q8y q8R q91 q8R
theorem q94 (x:tO):PE.step X q8B q8C q8x q92 12 x=XI x.1 x.2.1 x.2.2.1 x.2.2.2:=by kernel_rfl
theorem q95:ZaX X q8B W3:=Zhr (ZgU xok q8D q8y q93 12) fun x _ h=>((q94 x).trans (X3q x).symm).trans h
def q96 {R:Type}:Prs S R:=PE.ps X q8B (fun x q=>(W3 x).bind q) q8x
theorem q97 {R:Type}:Z7R X (q96 (R:=R)):=Zhi (e:=q8B) q95 q8y
def q98:List (Nat×F7 S):=[(29,q4C),(57,q37),(82,q53),(110,q5T)]
theorem q99:Z9n X (q98):=⟨q4D,q38,q54,q5U,trivial⟩
abbrev q9a {R:Type}:Z27 S R:=Zgi
theorem q9b {R:Type}:Z3J X (q9a (R:=R)):=ZgQ X
theorem q9c (x0:ZJ) (x1:List Zn):Zhs X q98 [(.st 20),(.sl (.st 21))] [(.sl (.st 2)),(.int .i64)] q96 q9a 12 9 (x0,x1,())=X2u x0 x1:=by kernel_rfl
def q9d:F7 S:=⟨[(.st 20),(.sl (.st 21))],[(.sl (.st 2)),(.int .i64)],fun xs=>X4r xs.1 xs.2.1⟩
theorem q9e:Z7Q X 9 q9d:=Zho (Zhn xok q99 q97 q9b 12 9) fun xs _ h=>((q9c xs.1 xs.2.1).trans (X6x xs.1 xs.2.1).symm).trans h
def q9f:List (Nat×F7 S):=[]
theorem q9g:Z9n X (q9f):=trivial
abbrev q9h {R:Type}:Z27 S R:=Zgi
theorem q9i {R:Type}:Z3J X (q9h (R:=R)):=ZgQ X
theorem q9j (x0:Int) (x1:Int) (x2:Int):Zhs X q9f [(.int .i64),(.int .i64),(.int .i64)] [.bool] q96 q9h 12 106 (x0,x1,x2,())=WY x0 x1 x2:=by kernel_rfl
def q9k:F7 S:=⟨[(.int .i64),(.int .i64),(.int .i64)],[.bool],fun xs=>WY xs.1 xs.2.1 xs.2.2.1⟩
theorem q9l:Z7Q X 106 q9k:=Zho (Zhn xok q9g q97 q9i 12 106) fun xs _ h=>(q9j xs.1 xs.2.1 xs.2.2.1).trans h
def q9m:List (Nat×F7 S):=[(106,q9k)]
theorem q9n:Z9n X (q9m):=⟨q9l,trivial⟩
abbrev q9o {R:Type}:Z27 S R:=Zgi
theorem q9p {R:Type}:Z3J X (q9o (R:=R)):=ZgQ X
def q9q:Key:=⟨[100],100,none,[0,0,1,0,1,1],0,6⟩
def q9r:StT S:=⟨(N (N (N L vQ L) none L) vI L),L,6⟩
def q9s:Way S:=⟨.ret,⟨(N L none (N L vP L)),L,43⟩,[.bool]⟩
def q9t:Way S:=⟨(.exit 0),⟨L,L,10⟩,[]⟩
def q9u:LE S:=⟨q9q,q9r,[.int,.str],[q9s,q9t]⟩
def q9v (x:(Int×ByteArray)):(Bool⊕Unit)→(Bool⊕Unit):=Sum.elim (fun y0=>(.inl y0)) (fun y1=>(.inr ()))
def q9w {R:Type} (x:(Int×ByteArray)) (k:(Bool⊕Unit)→Option R):Option R:=(X4W x.2 x.1).bind (Sum.elim (fun y0=>k (.inl y0)) (fun y1=>k (.inr ())))
def q9x (x:(Int×ByteArray)) (v:Int):(Int×ByteArray):=(v,x.2)
theorem q9y (x:(Int×ByteArray)):LE.step X q9u q9m q96 q9o 12 x=X1h x.2 x.1 (fun w0=>(Sum.inl (w0,x.2))) (fun p0=>(Sum.inr (.inl p0))) (Sum.inr (.inr ())):=by kernel_rfl
theorem q9A {R:Type} (x:(Int×ByteArray)) (k:(Bool⊕Unit)→Option R) (r:R) (h:q9w x k=some r):∃ o,Z5s (LE.step X q9u q9m q96 q9o 12) x o∧k o=some r:=by
 obtain ⟨o,h1,h2⟩:=Z0 h
 exact ⟨q9v x o,Zhl (st:=fun (x:(Int×ByteArray))=>X1a x.2) (prj:=fun x=>x.1) (emb:=q9x) (embO:=q9v) (fun x=>(q9y x).trans (by unfold X1a X1h;simp only [Zhd,Zh8,Zhe,Option.map_some,Option.map_none];rfl)) (fun _ _=>rfl) (fun _ _=>rfl) (fun _ _ _=>rfl) (fun _ _ _=>rfl) (fun _=>rfl) (Z1S.1 h1),by
  first
  | exact h2
  | (rcases o with o|o<;>exact h2)⟩
def q9B {R:Type}:Z27 S R:=LE.ls X q9u q9w q9o
theorem q9C {R:Type}:Z3J X (q9B (R:=R)):=Zhq xok q9n (e:=q9u) q97 q9p q9A q9p
theorem q9D (x0:ByteArray):Zhs X q9m [.str] [.bool] q96 q9B 12 100 (x0,())=X4D x0:=by kernel_rfl
def q9E:F7 S:=⟨[.str],[.bool],fun xs=>X4D xs.1⟩
theorem q9F:Z7Q X 100 q9E:=Zho (Zhn xok q9n q97 q9C 12 100) fun xs _ h=>(q9D xs.1).trans h
def q9G:List (Nat×F7 S):=[]
theorem q9H:Z9n X (q9G):=trivial
abbrev q9I {R:Type}:Z27 S R:=Zgi
theorem q9J {R:Type}:Z3J X (q9I (R:=R)):=ZgQ X
def q9K:Key:=⟨[101],101,none,[0,0,1,0,1],0,2⟩
def q9L:StT S:=⟨(N (N L vI (N L vQ L)) (some (.sl .str [])) L),L,2⟩
def q9M:Way S:=⟨.ret,⟨v1y,L,14⟩,[.int]⟩
def q9N:Way S:=⟨(.exit 0),⟨L,L,6⟩,[]⟩
def q9O:LE S:=⟨q9K,q9L,[.str,.int,(.lst .str)],[q9M,q9N]⟩
def q9P (x:t11):(Int⊕Unit)→(Int⊕Unit):=Sum.elim (fun y0=>(.inl y0)) (fun y1=>(.inr ()))
def q9Q {R:Type} (x:t11) (k:(Int⊕Unit)→Option R):Option R:=(X33 x.1 x.2.2 x.2.1).bind (Sum.elim (fun y0=>k (.inl y0)) (fun y1=>k (.inr ())))
def q9R (x:t11) (v:Int):t11:=(x.1,v,x.2.2)
theorem q9S (x:t11):LE.step X q9O q9G q96 q9I 12 x=WX x.1 x.2.2 x.2.1 (fun w0=>(Sum.inl (x.1,w0,x.2.2))) (fun p0=>(Sum.inr (.inl p0))) (Sum.inr (.inr ())):=by kernel_rfl
theorem q9U {R:Type} (x:t11) (k:(Int⊕Unit)→Option R) (r:R) (h:q9Q x k=some r):∃ o,Z5s (LE.step X q9O q9G q96 q9I 12) x o∧k o=some r:=by
 obtain ⟨o,h1,h2⟩:=Z0 h
 exact ⟨q9P x o,Zhl (st:=fun (x:t11)=>W1 x.1 x.2.2) (prj:=fun x=>x.2.1) (emb:=q9R) (embO:=q9P) (fun x=>(q9S x).trans (by unfold W1 WX;simp only [Zhd,Zh8,Zhe,Option.map_some,Option.map_none];rfl)) (fun _ _=>rfl) (fun _ _=>rfl) (fun _ _ _=>rfl) (fun _ _ _=>rfl) (fun _=>rfl) (Z1S.1 h1),by
  first
  | exact h2
  | (rcases o with o|o<;>exact h2)⟩
def q9V {R:Type}:Z27 S R:=LE.ls X q9O q9Q q9I
theorem q9W {R:Type}:Z3J X (q9V (R:=R)):=Zhq xok q9H (e:=q9O) q97 q9J q9U q9J
theorem q9X (x0:List ByteArray) (x1:ByteArray):Zhs X q9G [(.sl .str),.str] [(.int .i64)] q96 q9V 12 101 (x0,x1,())=X4Y x0 x1:=by kernel_rfl
def q9Y:F7 S:=⟨[(.sl .str),.str],[(.int .i64)],fun xs=>X4Y xs.1 xs.2.1⟩
theorem q9Z:Z7Q X 101 q9Y:=Zho (Zhn xok q9H q97 q9W 12 101) fun xs _ h=>(q9X xs.1 xs.2.1).trans h
def qa0:List (Nat×F7 S):=[(100,q9E),(101,q9Y)]
theorem qa1:Z9n X (qa0):=⟨q9F,q9Z,trivial⟩
abbrev qa2 {R:Type}:Z27 S R:=Zgi
theorem qa3 {R:Type}:Z3J X (qa2 (R:=R)):=ZgQ X
theorem qa4 (x0:ByteArray) (x1:List ByteArray):Zhs X qa0 [.str,(.sl .str)] [(.int .i64)] q96 qa2 12 70 (x0,x1,())=X2A x0 x1:=by kernel_rfl
def qa5:F7 S:=⟨[.str,(.sl .str)],[(.int .i64)],fun xs=>X2A xs.1 xs.2.1⟩
theorem qa6:Z7Q X 70 qa5:=Zho (Zhn xok qa1 q97 qa3 12 70) fun xs _ h=>(qa4 xs.1 xs.2.1).trans h
def qa7:List (Nat×F7 S):=[(106,q9k)]
theorem qa8:Z9n X (qa7):=⟨q9l,trivial⟩
abbrev qa9 {R:Type}:Z27 S R:=Zgi
theorem qaa {R:Type}:Z3J X (qa9 (R:=R)):=ZgQ X
theorem qab (x0:Zu) (x1:Int):Zhs X qa7 [(.st 2),(.int .i64)] [.bool] q96 qa9 12 76 (x0,x1,())=X2a x0 x1:=by kernel_rfl
def qac:F7 S:=⟨[(.st 2),(.int .i64)],[.bool],fun xs=>X2a xs.1 xs.2.1⟩
theorem qad:Z7Q X 76 qac:=Zho (Zhn xok qa8 q97 qaa 12 76) fun xs _ h=>(qab xs.1 xs.2.1).trans h
def qae:List (Nat×F7 S):=[(106,q9k)]
theorem qaf:Z9n X (qae):=⟨q9l,trivial⟩
abbrev qag {R:Type}:Z27 S R:=Zgi
theorem qah {R:Type}:Z3J X (qag (R:=R)):=ZgQ X
def qai:Key:=⟨[98],98,none,[0,0,1,0,1,1],0,6⟩
def qaj:StT S:=⟨(N (N (N L vQ L) none L) (some (.sl (.st 3) [])) L),L,6⟩
def qak:Way S:=⟨.ret,⟨(N L none (N L vQ L)),L,27⟩,[.int]⟩
def qal:Way S:=⟨.ret,⟨(N L none (N L vQ L)),L,43⟩,[.int]⟩
def qam:Way S:=⟨(.exit 0),⟨L,L,10⟩,[]⟩
def qan:LE S:=⟨qai,qaj,[.int,(.lst (.st 3))],[qak,qal,qam]⟩
def qao (x:(Int×(List Zk))):(Int⊕Int⊕Unit)→(Int⊕Int⊕Unit):=Sum.elim (fun y0=>(.inl y0)) (Sum.elim (fun y1=>(.inr (.inl y1))) (fun y2=>(.inr (.inr ()))))
def qap {R:Type} (x:(Int×(List Zk))) (k:(Int⊕Int⊕Unit)→Option R):Option R:=(X4j x.2 x.1).bind (Sum.elim (fun y0=>k (.inl y0)) (Sum.elim (fun y1=>k (.inr (.inl y1))) (fun y2=>k (.inr (.inr ())))))
def qaq (x:(Int×(List Zk))) (v:Int):(Int×(List Zk)):=(v,x.2)
theorem qar (x:(Int×(List Zk))):LE.step X qan qae q96 qag 12 x=Ww x.2 x.1 (fun w0=>(Sum.inl (w0,x.2))) (fun p0=>(Sum.inr (.inl p0))) (fun p0=>(Sum.inr (.inr (.inl p0)))) (Sum.inr (.inr (.inr ()))):=by kernel_rfl
theorem qat {R:Type} (x:(Int×(List Zk))) (k:(Int⊕Int⊕Unit)→Option R) (r:R) (h:qap x k=some r):∃ o,Z5s (LE.step X qan qae q96 qag 12) x o∧k o=some r:=by
 obtain ⟨o,h1,h2⟩:=Z0 h
 exact ⟨qao x o,Zhl (st:=fun (x:(Int×(List Zk)))=>Wj x.2) (prj:=fun x=>x.1) (emb:=qaq) (embO:=qao) (fun x=>(qar x).trans (by unfold Wj Ww;simp only [Zhd,Zh8,Zhe,Option.map_some,Option.map_none];rfl)) (fun _ _=>rfl) (fun _ _=>rfl) (fun _ _ _=>rfl) (fun _ _ _=>rfl) (fun _=>rfl) (Z1S.1 h1),by
  first
  | exact h2
  | (rcases o with o|o|o<;>exact h2)⟩
def qau {R:Type}:Z27 S R:=LE.ls X qan qap qag
theorem qav {R:Type}:Z3J X (qau (R:=R)):=Zhq xok qaf (e:=qan) q97 qah qat qah
theorem qaw (x0:List Zk):Zhs X qae [(.sl (.st 3))] [(.int .i64)] q96 qau 12 98 (x0,())=X2H x0:=by kernel_rfl
def qax:F7 S:=⟨[(.sl (.st 3))],[(.int .i64)],fun xs=>X2H xs.1⟩
theorem qay:Z7Q X 98 qax:=Zho (Zhn xok qaf q97 qav 12 98) fun xs _ h=>(qaw xs.1).trans h
def qaz:List (Nat×F7 S):=[(106,q9k)]
theorem qaA:Z9n X (qaz):=⟨q9l,trivial⟩
abbrev qaB {R:Type}:Z27 S R:=Zgi
theorem qaC {R:Type}:Z3J X (qaB (R:=R)):=ZgQ X
def qaD:Key:=⟨[102],102,none,[0,0,1,0,1,1],0,3⟩
def qaE:StT S:=⟨(N (N (N (N L vQ L) none L) vQ L) (some (.sl (.st 5) [])) (N (N (N L vQ L) none L) vQ L)),L,3⟩
def qaF:Way S:=⟨.ret,⟨(N L none (N L none (N L vQ L))),L,28⟩,[.int]⟩
def qaG:Way S:=⟨(.exit 0),⟨(N v1x none L),L,7⟩,[.int]⟩
def qaH:LE S:=⟨qaD,qaE,[.int,.int,(.lst (.st 5)),.int,.int],[qaF,qaG]⟩
def qaI (x:tZ):(Int⊕Int)→(Int⊕Int):=Sum.elim (fun y0=>(.inl y0)) (fun y1=>(.inr y1))
def qaJ {R:Type} (x:tZ) (k:(Int⊕Int)→Option R):Option R:=(X4h x.2.1 x.2.2.1 x.2.2.2.2 (x.1,x.2.2.2.1)).bind (Sum.elim (fun y0=>k (.inl y0)) (fun y1=>k (.inr y1)))
def qaK (x:tZ) (v:(Int×Int)):tZ:=(v.1,x.2.1,x.2.2.1,v.2,x.2.2.2.2)
theorem qaL (x:tZ):LE.step X qaH qaz q96 qaB 12 x=Wt x.2.1 x.2.2.1 x.2.2.2.2 x.1 x.2.2.2.1 (fun w0 w1=>(Sum.inl (w0,x.2.1,x.2.2.1,w1,x.2.2.2.2))) (fun p0=>(Sum.inr (.inl p0))) (fun p0=>(Sum.inr (.inr p0))):=by kernel_rfl
theorem qaN {R:Type} (x:tZ) (k:(Int⊕Int)→Option R) (r:R) (h:qaJ x k=some r):∃ o,Z5s (LE.step X qaH qaz q96 qaB 12) x o∧k o=some r:=by
 obtain ⟨o,h1,h2⟩:=Z0 h
 exact ⟨qaI x o,Zhl (st:=fun (x:tZ)=>Wh x.2.1 x.2.2.1 x.2.2.2.2) (prj:=fun x=>(x.1,x.2.2.2.1)) (emb:=qaK) (embO:=qaI) (fun x=>(qaL x).trans (by unfold Wh Wt;simp only [Zhd,Zh8,Zhe,Option.map_some,Option.map_none];rfl)) (fun _ _=>rfl) (fun _ _=>rfl) (fun _ _ _=>rfl) (fun _ _ _=>rfl) (fun _=>rfl) (Z1S.1 h1),by
  first
  | exact h2
  | (rcases o with o|o<;>exact h2)⟩
def qaO {R:Type}:Z27 S R:=LE.ls X qaH qaJ qaB
theorem qaP {R:Type}:Z3J X (qaO (R:=R)):=Zhq xok qaA (e:=qaH) q97 qaC qaN qaC
theorem qaQ (x0:List ZE) (x1:Int) (x2:Int):Zhs X qaz [(.sl (.st 5)),(.int .i64),(.int .i64)] [(.int .i64)] q96 qaO 12 102 (x0,x1,x2,())=X29 x0 x1 x2:=by kernel_rfl
def qaR:F7 S:=⟨[(.sl (.st 5)),(.int .i64),(.int .i64)],[(.int .i64)],fun xs=>X29 xs.1 xs.2.1 xs.2.2.1⟩
theorem qaS:Z7Q X 102 qaR:=Zho (Zhn xok qaA q97 qaP 12 102) fun xs _ h=>(qaQ xs.1 xs.2.1 xs.2.2.1).trans h
def qaT:List (Nat×F7 S):=[(102,qaR)]
theorem qaU:Z9n X (qaT):=⟨qaS,trivial⟩
abbrev qaV {R:Type}:Z27 S R:=Zgi
theorem qaW {R:Type}:Z3J X (qaV (R:=R)):=ZgQ X
theorem qaX (x0:ZB) (x1:Int) (x2:Int):Zhs X qaT [(.st 6),(.int .i64),(.int .i64)] [(.int .i64)] q96 qaV 12 123 (x0,x1,x2,())=X5f x0 x1 x2:=by kernel_rfl
def qaY:F7 S:=⟨[(.st 6),(.int .i64),(.int .i64)],[(.int .i64)],fun xs=>X5f xs.1 xs.2.1 xs.2.2.1⟩
theorem qaZ:Z7Q X 123 qaY:=Zho (Zhn xok qaU q97 qaW 12 123) fun xs _ h=>(qaX xs.1 xs.2.1 xs.2.2.1).trans h
def qb0:List (Nat×F7 S):=[]
theorem qb1:Z9n X (qb0):=trivial
abbrev qb2 {R:Type}:Z27 S R:=Zgi
theorem qb3 {R:Type}:Z3J X (qb2 (R:=R)):=ZgQ X
theorem qb4 (x0:Zu) (x1:Zu):Zhs X qb0 [(.st 2),(.st 2)] [(.st 2)] q96 qb2 12 88 (x0,x1,())=X7Z x0 x1:=by kernel_rfl
def qb5:F7 S:=⟨[(.st 2),(.st 2)],[(.st 2)],fun xs=>X7Z xs.1 xs.2.1⟩
theorem qb6:Z7Q X 88 qb5:=Zho (Zhn xok qb1 q97 qb3 12 88) fun xs _ h=>(qb4 xs.1 xs.2.1).trans h
def qb7:List (Nat×F7 S):=[]
theorem qb8:Z9n X (qb7):=trivial
abbrev qb9 {R:Type}:Z27 S R:=Zgi
theorem qba {R:Type}:Z3J X (qb9 (R:=R)):=ZgQ X
theorem qbb (x0:Zu) (x1:Zu):Zhs X qb7 [(.st 2),(.st 2)] [(.int .i64)] q96 qb9 12 112 (x0,x1,())=X7Y x0 x1:=by kernel_rfl
def qbc:F7 S:=⟨[(.st 2),(.st 2)],[(.int .i64)],fun xs=>X7Y xs.1 xs.2.1⟩
theorem qbd:Z7Q X 112 qbc:=Zho (Zhn xok qb8 q97 qba 12 112) fun xs _ h=>(qbb xs.1 xs.2.1).trans h
def qbe:List (Nat×F7 S):=[(88,qb5),(112,qbc)]
theorem qbf:Z9n X (qbe):=⟨qb6,qbd,trivial⟩
abbrev qbg {R:Type}:Z27 S R:=Zgi
theorem qbh {R:Type}:Z3J X (qbg (R:=R)):=ZgQ X
def qbi:Key:=⟨[124],124,none,[0,0,1,1,0,0,1,0,0,1,0,1],2,13⟩
def qbj:StT S:=⟨(N (N (N L vQ L) none (N L vQ L)) vO (N (N L vQ L) none L)),L,13⟩
def qbk:Way S:=⟨.ret,⟨(N L none (N L vP L)),L,48⟩,[.bool]⟩
def qbl:Way S:=⟨(.exit 2),⟨(N (N (N L vQ L) none L) vO L),L,17⟩,[.int,(.lst (.st 2))]⟩
def qbm:LE S:=⟨qbi,qbj,[.int,.int,(.lst (.st 2)),.int],[qbk,qbl]⟩
def qbn (x:t19):(Bool⊕Unit)→(Bool⊕(Int×(List Zu))):=Sum.elim (fun y0=>(.inl y0)) (fun y1=>(.inr (x.1,x.2.2.1)))
def qbo {R:Type} (x:t19) (k:(Bool⊕(Int×(List Zu)))→Option R):Option R:=(X2b x.1 x.2.2.1 x.2.2.2 x.2.1).bind (Sum.elim (fun y0=>k (.inl y0)) (fun y1=>k (.inr (x.1,x.2.2.1))))
def qbp (x:t19) (v:Int):t19:=(x.1,v,x.2.2.1,x.2.2.2)
theorem qbq (x:t19):LE.step X qbm qbe q96 qbg 12 x=X10 x.1 x.2.2.1 x.2.2.2 x.2.1 (fun w0=>(Sum.inl (x.1,w0,x.2.2.1,x.2.2.2))) (fun p0=>(Sum.inr (.inl p0))) (Sum.inr (.inr (x.1,x.2.2.1))):=by kernel_rfl
theorem qbs {R:Type} (x:t19) (k:(Bool⊕(Int×(List Zu)))→Option R) (r:R) (h:qbo x k=some r):∃ o,Z5s (LE.step X qbm qbe q96 qbg 12) x o∧k o=some r:=by
 obtain ⟨o,h1,h2⟩:=Z0 h
 exact ⟨qbn x o,Zhl (st:=fun (x:t19)=>WJ x.1 x.2.2.1 x.2.2.2) (prj:=fun x=>x.2.1) (emb:=qbp) (embO:=qbn) (fun x=>(qbq x).trans (by unfold WJ X10;simp only [Zhd,Zh8,Zhe,Option.map_some,Option.map_none];rfl)) (fun _ _=>rfl) (fun _ _=>rfl) (fun _ _ _=>rfl) (fun _ _ _=>rfl) (fun _=>rfl) (Z1S.1 h1),by
  first
  | exact h2
  | (rcases o with o|o<;>exact h2)⟩
def qbt {R:Type}:Z27 S R:=LE.ls X qbm qbo qbg
theorem qbu {R:Type}:Z3J X (qbt (R:=R)):=Zhq xok qbf (e:=qbm) q97 qbh qbs qbh
def qbv:Key:=⟨[124],124,none,[0,0,1,0,1],0,2⟩
def qbw:StT S:=⟨(N (N (N L vQ L) none L) vO L),L,2⟩
def qbx:Way S:=⟨.ret,⟨(N L none (N L vP L)),L,48⟩,[.bool]⟩
def qby:Way S:=⟨(.exit 0),⟨L,L,6⟩,[]⟩
def qbz:LE S:=⟨qbv,qbw,[.int,(.lst (.st 2))],[qbx,qby]⟩
def qbA (x:(Int×(List Zu))):(Bool⊕Unit)→(Bool⊕Unit):=Sum.elim (fun y0=>(.inl y0)) (fun y1=>(.inr ()))
def qbB {R:Type} (x:(Int×(List Zu))) (k:(Bool⊕Unit)→Option R):Option R:=(X4E x.2 x.1).bind (Sum.elim (fun y0=>k (.inl y0)) (fun y1=>k (.inr ())))
def qbC (x:(Int×(List Zu))) (v:Int):(Int×(List Zu)):=(v,x.2)
theorem qbD (x:(Int×(List Zu))):LE.step X qbz qbe q96 qbt 12 x=WZ x.2 x.1 (fun w0=>(Sum.inl (w0,x.2))) (fun p0=>(Sum.inr (.inl p0))) (Sum.inr (.inr ())):=by kernel_rfl
theorem qbF {R:Type} (x:(Int×(List Zu))) (k:(Bool⊕Unit)→Option R) (r:R) (h:qbB x k=some r):∃ o,Z5s (LE.step X qbz qbe q96 qbt 12) x o∧k o=some r:=by
 obtain ⟨o,h1,h2⟩:=Z0 h
 exact ⟨qbA x o,Zhl (st:=fun (x:(Int×(List Zu)))=>WI x.2) (prj:=fun x=>x.1) (emb:=qbC) (embO:=qbA) (fun x=>(qbD x).trans (by unfold WI WZ;simp only [Zhd,Zh8,Zhe,Option.map_some,Option.map_none];rfl)) (fun _ _=>rfl) (fun _ _=>rfl) (fun _ _ _=>rfl) (fun _ _ _=>rfl) (fun _=>rfl) (Z1S.1 h1),by
  first
  | exact h2
  | (rcases o with o|o<;>exact h2)⟩
def qbG {R:Type}:Z27 S R:=LE.ls X qbz qbB qbt
theorem qbH {R:Type}:Z3J X (qbG (R:=R)):=Zhq xok qbf (e:=qbz) q97 qbu qbF qbu
theorem qbI (x0:List Zu):Zhs X qbe [(.sl (.st 2))] [.bool] q96 qbG 12 124 (x0,())=X44 x0:=by kernel_rfl
def qbJ:F7 S:=⟨[(.sl (.st 2))],[.bool],fun xs=>X44 xs.1⟩
theorem qbK:Z7Q X 124 qbJ:=Zho (Zhn xok qbf q97 qbH 12 124) fun xs _ h=>(qbI xs.1).trans h
def qbL:List (Nat×F7 S):=[(106,q9k),(76,qac),(123,qaY),(124,qbJ)]
theorem qbM:Z9n X (qbL):=⟨q9l,qad,qaZ,qbK,trivial⟩
abbrev qbN {R:Type}:Z27 S R:=Zgi
theorem qbO {R:Type}:Z3J X (qbN (R:=R)):=ZgQ X
def qbP:Key:=⟨[99],99,none,[0,0,1,0,1,1],0,8⟩
def qbQ:StT S:=⟨(N (N (N L vQ L) (some (.ptr 0 0)) L) none L),(N L ok L),8⟩
def qbR:Way S:=⟨.ret,⟨(N L none (N L vQ L)),(N L ok L),21⟩,[.int,(.st 7)]⟩
def qbS:Way S:=⟨(.exit 0),⟨(N (N L (some (.ptr 0 0)) L) none L),(N L ok L),13⟩,[(.st 7)]⟩
def qbT:LE S:=⟨qbP,qbQ,[.int,(.st 7)],[qbR,qbS]⟩
def qbU (x:(Int×CtSand)):(Int⊕Unit)→((Int×CtSand)⊕CtSand):=Sum.elim (fun y0=>(.inl (y0,x.2))) (fun y1=>(.inr x.2))
def qbV {R:Type} (x:(Int×CtSand)) (k:((Int×CtSand)⊕CtSand)→Option R):Option R:=(X3F x.2 x.1).bind (Sum.elim (fun y0=>k (.inl (y0,x.2))) (fun y1=>k (.inr x.2)))
def qbW (x:(Int×CtSand)) (v:Int):(Int×CtSand):=(v,x.2)
theorem qbX (x:(Int×CtSand)):LE.step X qbT qbL q96 qbN 12 x=X1i x.2 x.1 (fun w0=>(Sum.inl (w0,x.2))) (fun p0=>(Sum.inr (.inl (p0,x.2)))) (Sum.inr (.inr x.2)):=by kernel_rfl
theorem qbZ {R:Type} (x:(Int×CtSand)) (k:((Int×CtSand)⊕CtSand)→Option R) (r:R) (h:qbV x k=some r):∃ o,Z5s (LE.step X qbT qbL q96 qbN 12) x o∧k o=some r:=by
 obtain ⟨o,h1,h2⟩:=Z0 h
 exact ⟨qbU x o,Zhl (st:=fun (x:(Int×CtSand))=>Wk x.2) (prj:=fun x=>x.1) (emb:=qbW) (embO:=qbU) (fun x=>(qbX x).trans (by unfold Wk X1i;simp only [Zhd,Zh8,Zhe,Option.map_some,Option.map_none];rfl)) (fun _ _=>rfl) (fun _ _=>rfl) (fun _ _ _=>rfl) (fun _ _ _=>rfl) (fun _=>rfl) (Z1S.1 h1),by
  first
  | exact h2
  | (rcases o with o|o<;>exact h2)⟩
def qc0 {R:Type}:Z27 S R:=LE.ls X qbT qbV qbN
theorem qc1 {R:Type}:Z3J X (qc0 (R:=R)):=Zhq xok qbM (e:=qbT) q97 qbO qbZ qbO
theorem qc2 (x0:CtSand):Zhs X qbL [(.st 7)] [(.int .i64)] q96 qc0 12 99 (x0,())=X4F x0:=by kernel_rfl
def qc3:F7 S:=⟨[(.st 7)],[(.int .i64)],fun xs=>X4F xs.1⟩
theorem qc4:Z7Q X 99 qc3:=Zho (Zhn xok qbM q97 qc1 12 99) fun xs _ h=>(qc2 xs.1).trans h
def qc5:List (Nat×F7 S):=[(70,qa5),(76,qac),(98,qax),(99,qc3)]
theorem qc6:Z9n X (qc5):=⟨qa6,qad,qay,qc4,trivial⟩
abbrev qc7 {R:Type}:Z27 S R:=Zgi
theorem qc8 {R:Type}:Z3J X (qc7 (R:=R)):=ZgQ X
def qc9:Key:=⟨[68],68,none,[0,0,1,0,1,1,1],0,10⟩
def qca:StT S:=⟨(N (N L (some (.ptr 0 0)) (N L (some (.rs 10 0)) L)) none (N L none (N L vQ L))),(N L on o1D),11⟩
def qcb:Way S:=⟨.ret,⟨v1q,o10,52⟩,[.int,.int,.int,(.lst .str),(.st 4),(.st 8),(.lst .str)]⟩
def qcc:Way S:=⟨.ret,⟨v1q,o10,55⟩,[.int,.int,.int,(.lst .str),(.st 4),(.st 8),(.lst .str)]⟩
def qcd:Way S:=⟨.ret,⟨v1q,o10,51⟩,[.int,.int,.int,(.lst .str),(.st 4),(.st 8),(.lst .str)]⟩
def qce:Way S:=⟨(.exit 0),⟨(N (N L (some (.ptr 0 0)) (N L (some (.rs 10 0)) L)) none L),(N L on o1D),16⟩,[(.st 8),(.lst .str)]⟩
def qcf:LE S:=⟨qc9,qca,[.int,(.st 8),(.lst .str)],[qcb,qcc,qcd,qce]⟩
def qcg (x:t15):(tP⊕tP⊕tP⊕(List ByteArray))→t2:=Sum.elim (fun y0=>(.inl (y0.1,y0.2.1,y0.2.2.1,y0.2.2.2.1,y0.2.2.2.2.1,x.2.1,y0.2.2.2.2.2))) (Sum.elim (fun y1=>(.inr (.inl (y1.1,y1.2.1,y1.2.2.1,y1.2.2.2.1,y1.2.2.2.2.1,x.2.1,y1.2.2.2.2.2)))) (Sum.elim (fun y2=>(.inr (.inr (.inl (y2.1,y2.2.1,y2.2.2.1,y2.2.2.2.1,y2.2.2.2.2.1,x.2.1,y2.2.2.2.2.2))))) (fun y3=>(.inr (.inr (.inr (x.2.1,y3)))))))
def qch {R:Type} (x:t15) (k:t2→Option R):Option R:=(X4B x.2.1 (x.1,x.2.2)).bind (Sum.elim (fun y0=>k (.inl (y0.1,y0.2.1,y0.2.2.1,y0.2.2.2.1,y0.2.2.2.2.1,x.2.1,y0.2.2.2.2.2))) (Sum.elim (fun y1=>k (.inr (.inl (y1.1,y1.2.1,y1.2.2.1,y1.2.2.2.1,y1.2.2.2.2.1,x.2.1,y1.2.2.2.2.2)))) (Sum.elim (fun y2=>k (.inr (.inr (.inl (y2.1,y2.2.1,y2.2.2.1,y2.2.2.2.1,y2.2.2.2.2.1,x.2.1,y2.2.2.2.2.2))))) (fun y3=>k (.inr (.inr (.inr (x.2.1,y3))))))))
def qci (x:t15) (v:(Int×(List ByteArray))):t15:=(v.1,x.2.1,v.2)
theorem qcj (x:t15):LE.step X qcf qc5 q96 qc7 12 x=WV x.2.1 x.1 x.2.2 (fun w0 w1=>(Sum.inl (w0,x.2.1,w1))) (fun p0 p1 p2 p3 p4 p5=>(Sum.inr (.inl (p0,p1,p2,p3,p4,x.2.1,p5)))) (fun p0 p1 p2 p3 p4 p5=>(Sum.inr (.inr (.inl (p0,p1,p2,p3,p4,x.2.1,p5))))) (fun p0 p1 p2 p3 p4 p5=>(Sum.inr (.inr (.inr (.inl (p0,p1,p2,p3,p4,x.2.1,p5)))))) (fun p0=>(Sum.inr (.inr (.inr (.inr (x.2.1,p0)))))):=by kernel_rfl
theorem qcl {R:Type} (x:t15) (k:t2→Option R) (r:R) (h:qch x k=some r):∃ o,Z5s (LE.step X qcf qc5 q96 qc7 12) x o∧k o=some r:=by
 obtain ⟨o,h1,h2⟩:=Z0 h
 exact ⟨qcg x o,Zhl (st:=fun (x:t15)=>WG x.2.1) (prj:=fun x=>(x.1,x.2.2)) (emb:=qci) (embO:=qcg) (fun x=>(qcj x).trans (by unfold WG WV;simp only [Zhd,Zh8,Zhe,Option.map_some,Option.map_none];rfl)) (fun _ _=>rfl) (fun _ _=>rfl) (fun _ _ _=>rfl) (fun _ _ _=>rfl) (fun _=>rfl) (Z1S.1 h1),by
  first
  | exact h2
  | (rcases o with o|o|o|o<;>exact h2)⟩
def qcm {R:Type}:Z27 S R:=LE.ls X qcf qch qc7
theorem qcn {R:Type}:Z3J X (qcm (R:=R)):=Zhq xok qc6 (e:=qcf) q97 qc8 qcl qc8
def qco:Key:=⟨[68],68,none,[0,0,1,0,1,1,1,1,1],2,21⟩
def qcp:StT S:=⟨(N (N L (some (.ptr 0 0)) (N (N L vQ L) (some (.rs 21 0)) L)) none L),(N (N L none o1D) on L),22⟩
def qcq:Way S:=⟨.ret,⟨v1q,o19,62⟩,[.int,.int,.int,(.lst .str),(.lst .str),(.st 8)]⟩
def qcr:Way S:=⟨.ret,⟨v1q,o19,55⟩,[.int,.int,.int,(.lst .str),(.lst .str),(.st 8)]⟩
def qcs:Way S:=⟨(.exit 2),⟨L,(N (N L none o1D) on L),27⟩,[(.lst .str),(.st 8)]⟩
def qct:LE S:=⟨qco,qcp,[.int,(.lst .str),(.st 8)],[qcq,qcr,qcs]⟩
def qcu (x:t16):((Int×Int×Int×(List ByteArray)×(List ByteArray))⊕(Int×Int×Int×(List ByteArray)×(List ByteArray))⊕(List ByteArray))→ta:=Sum.elim (fun y0=>(.inl (y0.1,y0.2.1,y0.2.2.1,y0.2.2.2.1,y0.2.2.2.2,x.2.2))) (Sum.elim (fun y1=>(.inr (.inl (y1.1,y1.2.1,y1.2.2.1,y1.2.2.2.1,y1.2.2.2.2,x.2.2)))) (fun y2=>(.inr (.inr (y2,x.2.2)))))
def qcv {R:Type} (x:t16) (k:ta→Option R):Option R:=(X28 x.2.2 (x.1,x.2.1)).bind (Sum.elim (fun y0=>k (.inl (y0.1,y0.2.1,y0.2.2.1,y0.2.2.2.1,y0.2.2.2.2,x.2.2))) (Sum.elim (fun y1=>k (.inr (.inl (y1.1,y1.2.1,y1.2.2.1,y1.2.2.2.1,y1.2.2.2.2,x.2.2)))) (fun y2=>k (.inr (.inr (y2,x.2.2))))))
def qcw (x:t16) (v:(Int×(List ByteArray))):t16:=(v.1,v.2,x.2.2)
theorem qcx (x:t16):LE.step X qct qc5 q96 qcm 12 x=WW x.2.2 x.1 x.2.1 (fun w0 w1=>(Sum.inl (w0,w1,x.2.2))) (fun p0 p1 p2 p3 p4=>(Sum.inr (.inl (p0,p1,p2,p3,p4,x.2.2)))) (fun p0 p1 p2 p3 p4=>(Sum.inr (.inr (.inl (p0,p1,p2,p3,p4,x.2.2))))) (fun p0=>(Sum.inr (.inr (.inr (p0,x.2.2))))):=by kernel_rfl
theorem qcz {R:Type} (x:t16) (k:ta→Option R) (r:R) (h:qcv x k=some r):∃ o,Z5s (LE.step X qct qc5 q96 qcm 12) x o∧k o=some r:=by
 obtain ⟨o,h1,h2⟩:=Z0 h
 exact ⟨qcu x o,Zhl (st:=fun (x:t16)=>WH x.2.2) (prj:=fun x=>(x.1,x.2.1)) (emb:=qcw) (embO:=qcu) (fun x=>(qcx x).trans (by unfold WH WW;simp only [Zhd,Zh8,Zhe,Option.map_some,Option.map_none];rfl)) (fun _ _=>rfl) (fun _ _=>rfl) (fun _ _ _=>rfl) (fun _ _ _=>rfl) (fun _=>rfl) (Z1S.1 h1),by
  first
  | exact h2
  | (rcases o with o|o|o<;>exact h2)⟩
def qcA {R:Type}:Z27 S R:=LE.ls X qct qcv qcm
theorem qcB {R:Type}:Z3J X (qcA (R:=R)):=Zhq xok qc6 (e:=qct) q97 qcn qcz qcn
theorem qcC (x0:Zl):Zhs X qc5 [(.st 8)] [(.int .i64),(.int .i64),(.int .i64)] q96 qcA 12 68 (x0,())=X3d x0:=by kernel_rfl
def qcD:F7 S:=⟨[(.st 8)],[(.int .i64),(.int .i64),(.int .i64)],fun xs=>X3d xs.1⟩
theorem qcE:Z7Q X 68 qcD:=Zho (Zhn xok qc6 q97 qcB 12 68) fun xs _ h=>(qcC xs.1).trans h
def qcF:List (Nat×F7 S):=[]
theorem qcG:Z9n X (qcF):=trivial
abbrev qcH {R:Type}:Z27 S R:=Zgi
theorem qcI {R:Type}:Z3J X (qcH (R:=R)):=ZgQ X
theorem qcJ (x0:Int) (x1:Int) (x2:Int):Zhs X qcF [(.int .i64),(.int .i64),(.int .i64)] [.bool] q96 qcH 12 69 (x0,x1,x2,())=X3G x0 x1 x2:=by kernel_rfl
def qcK:F7 S:=⟨[(.int .i64),(.int .i64),(.int .i64)],[.bool],fun xs=>X1k xs.1 xs.2.1 xs.2.2.1⟩
theorem qcL:Z7Q X 69 qcK:=Zho (Zhn xok qcG q97 qcI 12 69) fun xs _ h=>((qcJ xs.1 xs.2.1 xs.2.2.1).trans (X7z xs.1 xs.2.1 xs.2.2.1).symm).trans h
def qcM:List (Nat×F7 S):=[]
theorem qcN:Z9n X (qcM):=trivial
abbrev qcO {R:Type}:Z27 S R:=Zgi
theorem qcP {R:Type}:Z3J X (qcO (R:=R)):=ZgQ X
theorem qcQ (x0:Z5):Zhs X qcM [(.st 18)] [(.int .i64)] q96 qcO 12 72 (x0,())=X2W x0:=by kernel_rfl
def qcR:F7 S:=⟨[(.st 18)],[(.int .i64)],fun xs=>X5i xs.1⟩
theorem qcS:Z7Q X 72 qcR:=Zho (Zhn xok qcN q97 qcP 12 72) fun xs _ h=>((qcQ xs.1).trans (X7d xs.1).symm).trans h
def qcT:List (Nat×F7 S):=[(102,qaR)]
theorem qcU:Z9n X (qcT):=⟨qaS,trivial⟩
abbrev qcV {R:Type}:Z27 S R:=Zgi
theorem qcW {R:Type}:Z3J X (qcV (R:=R)):=ZgQ X
theorem qcX (x0:ZE) (x1:Int) (x2:Int):Zhs X qcT [(.st 5),(.int .i64),(.int .i64)] [(.int .i64)] q96 qcV 12 71 (x0,x1,x2,())=X3e x0 x1 x2:=by kernel_rfl
def qcY:F7 S:=⟨[(.st 5),(.int .i64),(.int .i64)],[(.int .i64)],fun xs=>X3e xs.1 xs.2.1 xs.2.2.1⟩
theorem qcZ:Z7Q X 71 qcY:=Zho (Zhn xok qcU q97 qcW 12 71) fun xs _ h=>(qcX xs.1 xs.2.1 xs.2.2.1).trans h
def qd0:List (Nat×F7 S):=[(102,qaR),(71,qcY),(69,qcK)]
theorem qd1:Z9n X (qd0):=⟨qaS,qcZ,qcL,trivial⟩
abbrev qd2 {R:Type}:Z27 S R:=Zgi
theorem qd3 {R:Type}:Z3J X (qd2 (R:=R)):=ZgQ X
theorem qd4 (x0:Zt):Zhs X qd0 [(.st 19)] [(.int .i64)] q96 qd2 12 73 (x0,())=X2C x0:=by kernel_rfl
def qd5:F7 S:=⟨[(.st 19)],[(.int .i64)],fun xs=>X5y xs.1⟩
theorem qd6:Z7Q X 73 qd5:=Zho (Zhn xok qd1 q97 qd3 12 73) fun xs _ h=>((qd4 xs.1).trans (X6H xs.1).symm).trans h
def qd7:List (Nat×F7 S):=[(68,qcD),(69,qcK),(70,qa5),(72,qcR),(71,qcY),(73,qd5)]
theorem qd8:Z9n X (qd7):=⟨qcE,qcL,qa6,qcS,qcZ,qd6,trivial⟩
abbrev qd9 {R:Type}:Z27 S R:=Zgi
theorem qda {R:Type}:Z3J X (qd9 (R:=R)):=ZgQ X
def qdb:Key:=⟨[30],30,none,[0,0,1,0,1,1,1,1,1,1],0,39⟩
def qdc:StT S:=⟨(N (N L (some (.ptr 0 0)) (N (N L vQ L) none L)) none (N (N (N L (some (.rs 39 0)) L) none L) none L)),o1j,40⟩
def qdd:Way S:=⟨.ret,⟨v1q,oY,81⟩,[.int,.int,.int,(.lst .str),(.st 20),(.lst .str),(.st 18)]⟩
def qde:Way S:=⟨.ret,⟨v1q,oY,72⟩,[.int,.int,.int,(.lst .str),(.st 20),(.lst .str),(.st 18)]⟩
def qdf:Way S:=⟨(.exit 0),⟨(N (N L (some (.ptr 0 0)) L) none L),o1j,45⟩,[(.lst .str),(.st 20)]⟩
def qdg:LE S:=⟨qdb,qdc,[.int,(.lst .str),(.st 20)],[qdd,qde,qdf]⟩
def qdh (x:t1a):((Int×Int×Int×(List ByteArray)×(List ByteArray)×Z5)⊕(Int×Int×Int×(List ByteArray)×(List ByteArray)×Z5)⊕(List ByteArray))→t8:=Sum.elim (fun y0=>(.inl (y0.1,y0.2.1,y0.2.2.1,y0.2.2.2.1,x.2.2,y0.2.2.2.2.1,y0.2.2.2.2.2))) (Sum.elim (fun y1=>(.inr (.inl (y1.1,y1.2.1,y1.2.2.1,y1.2.2.2.1,x.2.2,y1.2.2.2.2.1,y1.2.2.2.2.2)))) (fun y2=>(.inr (.inr (y2,x.2.2)))))
def qdi {R:Type} (x:t1a) (k:t8→Option R):Option R:=(X34 x.2.2 (x.1,x.2.1)).bind (Sum.elim (fun y0=>k (.inl (y0.1,y0.2.1,y0.2.2.1,y0.2.2.2.1,x.2.2,y0.2.2.2.2.1,y0.2.2.2.2.2))) (Sum.elim (fun y1=>k (.inr (.inl (y1.1,y1.2.1,y1.2.2.1,y1.2.2.2.1,x.2.2,y1.2.2.2.2.1,y1.2.2.2.2.2)))) (fun y2=>k (.inr (.inr (y2,x.2.2))))))
def qdj (x:t1a) (v:(Int×(List ByteArray))):t1a:=(v.1,v.2,x.2.2)
theorem qdk (x:t1a):LE.step X qdg qd7 q96 qd9 12 x=X11 x.2.2 x.1 x.2.1 (fun w0 w1=>(Sum.inl (w0,w1,x.2.2))) (fun p0 p1 p2 p3 p4 p5=>(Sum.inr (.inl (p0,p1,p2,p3,x.2.2,p4,p5)))) (fun p0 p1 p2 p3 p4 p5=>(Sum.inr (.inr (.inl (p0,p1,p2,p3,x.2.2,p4,p5))))) (fun p0=>(Sum.inr (.inr (.inr (p0,x.2.2))))):=by kernel_rfl
theorem qdm {R:Type} (x:t1a) (k:t8→Option R) (r:R) (h:qdi x k=some r):∃ o,Z5s (LE.step X qdg qd7 q96 qd9 12) x o∧k o=some r:=by
 obtain ⟨o,h1,h2⟩:=Z0 h
 exact ⟨qdh x o,Zhl (st:=fun (x:t1a)=>WK x.2.2) (prj:=fun x=>(x.1,x.2.1)) (emb:=qdj) (embO:=qdh) (fun x=>(qdk x).trans (by unfold WK X11;simp only [Zhd,Zh8,Zhe,Option.map_some,Option.map_none];rfl)) (fun _ _=>rfl) (fun _ _=>rfl) (fun _ _ _=>rfl) (fun _ _ _=>rfl) (fun _=>rfl) (Z1S.1 h1),by
  first
  | exact h2
  | (rcases o with o|o|o<;>exact h2)⟩
def qdn {R:Type}:Z27 S R:=LE.ls X qdg qdi qd9
theorem qdo {R:Type}:Z3J X (qdn (R:=R)):=Zhq xok qd8 (e:=qdg) q97 qda qdm qda
def qdp:Key:=⟨[30],30,none,[0,0,1,0,1,1,1,1,1,1,1,1],2,50⟩
def qdq:StT S:=⟨(N (N (N L none (N L vQ L)) (some (.ptr 0 0)) L) none L),o1j,50⟩
def qdr:Way S:=⟨.ret,⟨v1q,o1j,69⟩,[.int,.int,.int,(.lst .str),(.st 20)]⟩
def qds:Way S:=⟨(.exit 2),⟨L,o1j,55⟩,[(.lst .str),(.st 20)]⟩
def qdt:LE S:=⟨qdp,qdq,[.int,(.lst .str),(.st 20)],[qdr,qds]⟩
def qdu (x:t1a):((Int×Int×Int)⊕Unit)→tI:=Sum.elim (fun y0=>(.inl (y0.1,y0.2.1,y0.2.2,x.2.1,x.2.2))) (fun y1=>(.inr (x.2.1,x.2.2)))
def qdv {R:Type} (x:t1a) (k:tI→Option R):Option R:=(X35 x.2.2 x.1).bind (Sum.elim (fun y0=>k (.inl (y0.1,y0.2.1,y0.2.2,x.2.1,x.2.2))) (fun y1=>k (.inr (x.2.1,x.2.2))))
def qdw (x:t1a) (v:Int):t1a:=(v,x.2.1,x.2.2)
theorem qdx (x:t1a):LE.step X qdt qd7 q96 qdn 12 x=X12 x.2.2 x.1 (fun w0=>(Sum.inl (w0,x.2.1,x.2.2))) (fun p0 p1 p2=>(Sum.inr (.inl (p0,p1,p2,x.2.1,x.2.2)))) (Sum.inr (.inr (x.2.1,x.2.2))):=by kernel_rfl
theorem qdz {R:Type} (x:t1a) (k:tI→Option R) (r:R) (h:qdv x k=some r):∃ o,Z5s (LE.step X qdt qd7 q96 qdn 12) x o∧k o=some r:=by
 obtain ⟨o,h1,h2⟩:=Z0 h
 exact ⟨qdu x o,Zhl (st:=fun (x:t1a)=>WL x.2.2) (prj:=fun x=>x.1) (emb:=qdw) (embO:=qdu) (fun x=>(qdx x).trans (by unfold WL X12;simp only [Zhd,Zh8,Zhe,Option.map_some,Option.map_none];rfl)) (fun _ _=>rfl) (fun _ _=>rfl) (fun _ _ _=>rfl) (fun _ _ _=>rfl) (fun _=>rfl) (Z1S.1 h1),by
  first
  | exact h2
  | (rcases o with o|o<;>exact h2)⟩
def qdA {R:Type}:Z27 S R:=LE.ls X qdt qdv qdn
theorem qdB {R:Type}:Z3J X (qdA (R:=R)):=Zhq xok qd8 (e:=qdt) q97 qdo qdz qdo
theorem qdC (x0:ZJ):Zhs X qd7 [(.st 20)] [(.int .i64),(.int .i64),(.int .i64)] q96 qdA 12 30 (x0,())=X2j x0:=by kernel_rfl
def qdD:F7 S:=⟨[(.st 20)],[(.int .i64),(.int .i64),(.int .i64)],fun xs=>X45 xs.1⟩
theorem qdE:Z7Q X 30 qdD:=Zho (Zhn xok qd8 q97 qdB 12 30) fun xs _ h=>((qdC xs.1).trans (X6e xs.1).symm).trans h
def qdF:List (Nat×F7 S):=[]
theorem qdG:Z9n X (qdF):=trivial
abbrev qdH {R:Type}:Z27 S R:=Zgi
theorem qdI {R:Type}:Z3J X (qdH (R:=R)):=ZgQ X
def qdJ:Key:=⟨[51],51,none,[0,0,1,0,1,1],0,4⟩
def qdK:StT S:=⟨(N (N L vQ (N L vQ L)) none (N L (some (.ptr 0 0)) (N L vQ L))),(N L oj L),4⟩
def qdL:Way S:=⟨(.exit 0),⟨v1B,(N L oj L),9⟩,[.int,(.st 4)]⟩
def qdM:LE S:=⟨qdJ,qdK,[.int,.int,.int,(.st 4)],[qdL]⟩
def qdN (x:t1f):Int→(Int×Zw):=fun y0=>(y0,x.2.2.2)
def qdO {R:Type} (x:t1f) (k:(Int×Zw)→Option R):Option R:=(X43 x.1 x.2.2.2 (x.2.1,x.2.2.1)).bind (fun y0=>k (y0,x.2.2.2))
def qdP (x:t1f) (v:(Int×Int)):t1f:=(x.1,v.1,v.2,x.2.2.2)
theorem qdQ (x:t1f):LE.step X qdM qdF q96 qdH 12 x=Wb x.1 x.2.2.2 x.2.1 x.2.2.1 (fun w0 w1=>(Sum.inl (x.1,w0,w1,x.2.2.2))) (fun p0=>(Sum.inr (p0,x.2.2.2))):=by kernel_rfl
theorem qdS {R:Type} (x:t1f) (k:(Int×Zw)→Option R) (r:R) (h:qdO x k=some r):∃ o,Z5s (LE.step X qdM qdF q96 qdH 12) x o∧k o=some r:=by
 obtain ⟨o,h1,h2⟩:=Z0 h
 exact ⟨qdN x o,Zhl (st:=fun (x:t1f)=>W7 x.1 x.2.2.2) (prj:=fun x=>(x.2.1,x.2.2.1)) (emb:=qdP) (embO:=qdN) (fun x=>(qdQ x).trans (by unfold W7 Wb;simp only [Zhd,Zh8,Zhe,Option.map_some,Option.map_none];rfl)) (fun _ _=>rfl) (fun _ _=>rfl) (fun _ _ _=>rfl) (fun _ _ _=>rfl) (fun _=>rfl) (Z1S.1 h1),by
  first
  | exact h2
  | (rcases o with o<;>exact h2)⟩
def qdT {R:Type}:Z27 S R:=LE.ls X qdM qdO qdH
theorem qdU {R:Type}:Z3J X (qdT (R:=R)):=Zhq xok qdG (e:=qdM) q97 qdI qdS qdI
theorem qdV (x0:Zw) (x1:Int):Zhs X qdF [(.st 4),(.int .i64)] [(.int .i64)] q96 qdT 12 51 (x0,x1,())=X1K x0 x1:=by kernel_rfl
def qdW:F7 S:=⟨[(.st 4),(.int .i64)],[(.int .i64)],fun xs=>X2V xs.1 xs.2.1⟩
theorem qdX:Z7Q X 51 qdW:=Zho (Zhn xok qdG q97 qdU 12 51) fun xs _ h=>((qdV xs.1 xs.2.1).trans (X5g xs.1 xs.2.1).symm).trans h
def qdY:List (Nat×F7 S):=[(69,qcK),(51,qdW)]
theorem qdZ:Z9n X (qdY):=⟨qcL,qdX,trivial⟩
abbrev qe0 {R:Type}:Z27 S R:=Zgi
theorem qe1 {R:Type}:Z3J X (qe0 (R:=R)):=ZgQ X
theorem qe2 (x0:ZJ) (x1:Zn):Zhs X qdY [(.st 20),(.st 21)] [(.int .i64)] q96 qe0 12 75 (x0,x1,())=X2k x0 x1:=by kernel_rfl
def qe3:F7 S:=⟨[(.st 20),(.st 21)],[(.int .i64)],fun xs=>X51 xs.1 xs.2.1⟩
theorem qe4:Z7Q X 75 qe3:=Zho (Zhn xok qdZ q97 qe1 12 75) fun xs _ h=>((qe2 xs.1 xs.2.1).trans (X6g xs.1 xs.2.1).symm).trans h
def qe5:List (Nat×F7 S):=[(30,qdD),(75,qe3)]
theorem qe6:Z9n X (qe5):=⟨qdE,qe4,trivial⟩
abbrev qe7 {R:Type}:Z27 S R:=Zgi
theorem qe8 {R:Type}:Z3J X (qe7 (R:=R)):=ZgQ X
def qe9:Key:=⟨[32],32,none,[0,0,1,0,1,1,1,1],0,22⟩
def qea:StT S:=⟨(N (N L vN (N (N L vQ L) none L)) none (N L (some (.ptr 0 0)) L)),(N L oe L),22⟩
def qeb:Way S:=⟨.ret,⟨v1o,(N L oe L),39⟩,[.int,.int,(.st 20)]⟩
def qec:Way S:=⟨(.exit 0),⟨L,(N L oe L),26⟩,[(.st 20)]⟩
def qed:LE S:=⟨qe9,qea,[(.lst (.st 21)),.int,(.st 20)],[qeb,qec]⟩
def qee (x:t1b):((Int×Int)⊕Unit)→((Int×Int×ZJ)⊕ZJ):=Sum.elim (fun y0=>(.inl (y0.1,y0.2,x.2.2))) (fun y1=>(.inr x.2.2))
def qef {R:Type} (x:t1b) (k:((Int×Int×ZJ)⊕ZJ)→Option R):Option R:=(X1L x.1 x.2.2 x.2.1).bind (Sum.elim (fun y0=>k (.inl (y0.1,y0.2,x.2.2))) (fun y1=>k (.inr x.2.2)))
def qeg (x:t1b) (v:Int):t1b:=(x.1,v,x.2.2)
theorem qeh (x:t1b):LE.step X qed qe5 q96 qe7 12 x=Xs x.1 x.2.2 x.2.1 (fun w0=>(Sum.inl (x.1,w0,x.2.2))) (fun p0 p1=>(Sum.inr (.inl (p0,p1,x.2.2)))) (Sum.inr (.inr x.2.2)):=by kernel_rfl
theorem qej {R:Type} (x:t1b) (k:((Int×Int×ZJ)⊕ZJ)→Option R) (r:R) (h:qef x k=some r):∃ o,Z5s (LE.step X qed qe5 q96 qe7 12) x o∧k o=some r:=by
 obtain ⟨o,h1,h2⟩:=Z0 h
 exact ⟨qee x o,Zhl (st:=fun (x:t1b)=>Xm x.1 x.2.2) (prj:=fun x=>x.2.1) (emb:=qeg) (embO:=qee) (fun x=>(qeh x).trans (by unfold Xm Xs;simp only [Zhd,Zh8,Zhe,Option.map_some,Option.map_none];rfl)) (fun _ _=>rfl) (fun _ _=>rfl) (fun _ _ _=>rfl) (fun _ _ _=>rfl) (fun _=>rfl) (Z1S.1 h1),by
  first
  | exact h2
  | (rcases o with o|o<;>exact h2)⟩
def qek {R:Type}:Z27 S R:=LE.ls X qed qef qe7
theorem qel {R:Type}:Z3J X (qek (R:=R)):=Zhq xok qe6 (e:=qed) q97 qe8 qej qe8
theorem qem (x0:ZJ) (x1:List Zn):Zhs X qe5 [(.st 20),(.sl (.st 21))] [(.int .i64),(.int .i64)] q96 qek 12 32 (x0,x1,())=Wc x0 x1:=by kernel_rfl
def qen:F7 S:=⟨[(.st 20),(.sl (.st 21))],[(.int .i64),(.int .i64)],fun xs=>X2r xs.1 xs.2.1⟩
theorem qeo:Z7Q X 32 qen:=Zho (Zhn xok qe6 q97 qel 12 32) fun xs _ h=>((qem xs.1 xs.2.1).trans (X46 xs.1 xs.2.1).symm).trans h
def qep:List (Nat×F7 S):=[]
theorem qeq:Z9n X (qep):=trivial
abbrev qer {R:Type}:Z27 S R:=Zgi
theorem qes {R:Type}:Z3J X (qer (R:=R)):=ZgQ X
theorem qet (x0:Zu):Zhs X qep [(.st 2)] [(.st 2)] q96 qer 12 128 (x0,())=X7c x0:=by kernel_rfl
def qeu:F7 S:=⟨[(.st 2)],[(.st 2)],fun xs=>X7c xs.1⟩
theorem qev:Z7Q X 128 qeu:=Zho (Zhn xok qeq q97 qes 12 128) fun xs _ h=>(qet xs.1).trans h
def qew (ih:(Int×Unit)→Option (Zu)):List (Nat×F7 S):=[(128,qeu),(113,⟨[(.int .i64)],[(.st 2)],ih⟩)]
theorem qex (ih:(Int×Unit)→Option (Zu)) (hih:Z7Q X 113 ⟨[(.int .i64)],[(.st 2)],ih⟩):Z9n X (qew ih):=⟨qev,hih,trivial⟩
abbrev qey (ih:(Int×Unit)→Option (Zu)) {R:Type}:Z27 S R:=Zgi
theorem qez (ih:(Int×Unit)→Option (Zu)) (hih:Z7Q X 113 ⟨[(.int .i64)],[(.st 2)],ih⟩) {R:Type}:Z3J X (qey ih (R:=R)):=ZgQ X
theorem qeA (ih:(Int×Unit)→Option (Zu)) (x0:Int):Zhs X (qew ih) [(.int .i64)] [(.st 2)] q96 (qey ih) 12 113 (x0,())=X2q ih x0:=by kernel_rfl
def qeB:F7 S:=⟨[(.int .i64)],[(.st 2)],fun xs=>X3X xs.1⟩
theorem qeC:Z7Q X 113 qeB:=ZhO (X:=X) (g:=113) (pts:=[(.int .i64)]) (rts:=[(.st 2)]) (t:=Xb) fun ih hih=>Zho (Zhn xok (qex ih hih) q97 (qez ih hih) 12 113) fun xs _ h=>(qeA ih xs.1).trans h
def qeD:List (Nat×F7 S):=[(113,qeB),(112,qbc)]
theorem qeE:Z9n X (qeD):=⟨qeC,qbd,trivial⟩
abbrev qeF {R:Type}:Z27 S R:=Zgi
theorem qeG {R:Type}:Z3J X (qeF (R:=R)):=ZgQ X
def qeH:Key:=⟨[87],87,none,[0,0,0,1,1],0,3⟩
def qeI:StT S:=⟨(N (N (N L vQ L) (some (.ptr 0 0)) L) none L),(N L om L),3⟩
def qeJ:Way S:=⟨(.exit 0),⟨v1x,(N L om L),17⟩,[.int,(.st 2)]⟩
def qeK:LE S:=⟨qeH,qeI,[.int,(.st 2)],[qeJ]⟩
def qeL (x:(Int×Zu)):Int→(Int×Zu):=fun y0=>(y0,x.2)
def qeM {R:Type} (x:(Int×Zu)) (k:(Int×Zu)→Option R):Option R:=(X4i x.2 x.1).bind (fun y0=>k (y0,x.2))
def qeN (x:(Int×Zu)) (v:Int):(Int×Zu):=(v,x.2)
theorem qeO (x:(Int×Zu)):LE.step X qeK qeD q96 qeF 12 x=Wu x.2 x.1 (fun w0=>(Sum.inl (w0,x.2))) (fun p0=>(Sum.inr (p0,x.2))):=by kernel_rfl
theorem qeQ {R:Type} (x:(Int×Zu)) (k:(Int×Zu)→Option R) (r:R) (h:qeM x k=some r):∃ o,Z5s (LE.step X qeK qeD q96 qeF 12) x o∧k o=some r:=by
 obtain ⟨o,h1,h2⟩:=Z0 h
 exact ⟨qeL x o,Zhl (st:=fun (x:(Int×Zu))=>Wi x.2) (prj:=fun x=>x.1) (emb:=qeN) (embO:=qeL) (fun x=>(qeO x).trans (by unfold Wi Wu;simp only [Zhd,Zh8,Zhe,Option.map_some,Option.map_none];rfl)) (fun _ _=>rfl) (fun _ _=>rfl) (fun _ _ _=>rfl) (fun _ _ _=>rfl) (fun _=>rfl) (Z1S.1 h1),by
  first
  | exact h2
  | (rcases o with o<;>exact h2)⟩
def qeR {R:Type}:Z27 S R:=LE.ls X qeK qeM qeF
theorem qeS {R:Type}:Z3J X (qeR (R:=R)):=Zhq xok qeE (e:=qeK) q97 qeG qeQ qeG
theorem qeT (x0:Zu):Zhs X qeD [(.st 2)] [(.int .i64)] q96 qeR 12 87 (x0,())=X17 x0:=by kernel_rfl
def qeU:F7 S:=⟨[(.st 2)],[(.int .i64)],fun xs=>X17 xs.1⟩
theorem qeV:Z7Q X 87 qeU:=Zho (Zhn xok qeE q97 qeS 12 87) fun xs _ h=>(qeT xs.1).trans h
def qeW:List (Nat×F7 S):=[(69,qcK)]
theorem qeX:Z9n X (qeW):=⟨qcL,trivial⟩
abbrev qeY {R:Type}:Z27 S R:=Zgi
theorem qeZ {R:Type}:Z3J X (qeY (R:=R)):=ZgQ X
def qf0:Key:=⟨[53],53,none,[0,0,1,0,1],0,4⟩
def qf1:StT S:=⟨(N (N (N L (some (.ptr 1 0)) L) none (N L vQ L)) none (N L (some (.ptr 0 0)) L)),(N (N L om L) oe L),4⟩
def qf2:Way S:=⟨.ret,⟨v1y,(N (N L om L) oe L),47⟩,[.int,(.st 2),(.st 20)]⟩
def qf3:Way S:=⟨(.exit 0),⟨L,(N (N L om L) oe L),9⟩,[(.st 2),(.st 20)]⟩
def qf4:LE S:=⟨qf0,qf1,[.int,(.st 2),(.st 20)],[qf2,qf3]⟩
def qf5 (x:(Int×Zu×ZJ)):(Int⊕Unit)→((Int×Zu×ZJ)⊕(Zu×ZJ)):=Sum.elim (fun y0=>(.inl (y0,x.2.1,x.2.2))) (fun y1=>(.inr (x.2.1,x.2.2)))
def qf6 {R:Type} (x:(Int×Zu×ZJ)) (k:((Int×Zu×ZJ)⊕(Zu×ZJ))→Option R):Option R:=(X2N x.2.1 x.2.2 x.1).bind (Sum.elim (fun y0=>k (.inl (y0,x.2.1,x.2.2))) (fun y1=>k (.inr (x.2.1,x.2.2))))
def qf7 (x:(Int×Zu×ZJ)) (v:Int):(Int×Zu×ZJ):=(v,x.2.1,x.2.2)
theorem qf8 (x:(Int×Zu×ZJ)):LE.step X qf4 qeW q96 qeY 12 x=Wx x.2.1 x.2.2 x.1 (fun w0=>(Sum.inl (w0,x.2.1,x.2.2))) (fun p0=>(Sum.inr (.inl (p0,x.2.1,x.2.2)))) (Sum.inr (.inr (x.2.1,x.2.2))):=by kernel_rfl
theorem qfa {R:Type} (x:(Int×Zu×ZJ)) (k:((Int×Zu×ZJ)⊕(Zu×ZJ))→Option R) (r:R) (h:qf6 x k=some r):∃ o,Z5s (LE.step X qf4 qeW q96 qeY 12) x o∧k o=some r:=by
 obtain ⟨o,h1,h2⟩:=Z0 h
 exact ⟨qf5 x o,Zhl (st:=fun (x:(Int×Zu×ZJ))=>Wl x.2.1 x.2.2) (prj:=fun x=>x.1) (emb:=qf7) (embO:=qf5) (fun x=>(qf8 x).trans (by unfold Wl Wx;simp only [Zhd,Zh8,Zhe,Option.map_some,Option.map_none];rfl)) (fun _ _=>rfl) (fun _ _=>rfl) (fun _ _ _=>rfl) (fun _ _ _=>rfl) (fun _=>rfl) (Z1S.1 h1),by
  first
  | exact h2
  | (rcases o with o|o<;>exact h2)⟩
def qfb {R:Type}:Z27 S R:=LE.ls X qf4 qf6 qeY
theorem qfc {R:Type}:Z3J X (qfb (R:=R)):=Zhq xok qeX (e:=qf4) q97 qeZ qfa qeZ
theorem qfd (x0:ZJ) (x1:Zu):Zhs X qeW [(.st 20),(.st 2)] [(.int .i64)] q96 qfb 12 53 (x0,x1,())=X22 x0 x1:=by kernel_rfl
def qfe:F7 S:=⟨[(.st 20),(.st 2)],[(.int .i64)],fun xs=>X4m xs.1 xs.2.1⟩
theorem qff:Z7Q X 53 qfe:=Zho (Zhn xok qeX q97 qfc 12 53) fun xs _ h=>((qfd xs.1 xs.2.1).trans (X5M xs.1 xs.2.1).symm).trans h
def qfg:List (Nat×F7 S):=[(29,q4C),(57,q37),(82,q53),(110,q5T)]
theorem qfh:Z9n X (qfg):=⟨q4D,q38,q54,q5U,trivial⟩
abbrev qfi {R:Type}:Z27 S R:=Zgi
theorem qfj {R:Type}:Z3J X (qfi (R:=R)):=ZgQ X
def qfk:Key:=⟨[12],12,none,[0,0,1,0,1,1,1,1,1,1,1],0,42⟩
def qfl:StT S:=⟨(N (N (N L none v1y) none (N (N L none (N (N L (some (.rs 42 0)) L) none L)) none L)) none (N (N L (some (.ptr 1 0)) L) none (N v1y none L))),oV,43⟩
def qfm:Way S:=⟨(.exit 0),⟨(N L none (N (N L (some (.ptr 1 0)) L) none L)),oV,44⟩,[(.mp (.st 23) (.int .i64)),(.st 6),(.st 2),(.st 20),(.st 20),(.lst (.st 21)),.en,(.lst (.st 2))]⟩
def qfn:LE S:=⟨qfk,qfl,[.int,.int,(.mp (.st 23) (.int .i64)),(.st 6),(.st 2),(.st 20),(.st 20),(.lst (.st 21)),.en,(.lst (.st 2))],[qfm]⟩
def qfo (x:tn):ZB→tq:=fun y0=>(x.2.2.1,y0,x.2.2.2.2.1,x.2.2.2.2.2.1,x.2.2.2.2.2.2.1,x.2.2.2.2.2.2.2.1,x.2.2.2.2.2.2.2.2.1,x.2.2.2.2.2.2.2.2.2)
def qfp {R:Type} (x:tn) (k:tq→Option R):Option R:=(X3R x.2.1 x.2.2.2.2.2.2.2.2.2 (x.1,x.2.2.2.1)).bind (fun y0=>k (x.2.2.1,y0,x.2.2.2.2.1,x.2.2.2.2.2.1,x.2.2.2.2.2.2.1,x.2.2.2.2.2.2.2.1,x.2.2.2.2.2.2.2.2.1,x.2.2.2.2.2.2.2.2.2))
def qfq (x:tn) (v:(Int×ZB)):tn:=(v.1,x.2.1,x.2.2.1,v.2,x.2.2.2.2.1,x.2.2.2.2.2.1,x.2.2.2.2.2.2.1,x.2.2.2.2.2.2.2.1,x.2.2.2.2.2.2.2.2.1,x.2.2.2.2.2.2.2.2.2)
theorem qfr (x:tn):LE.step X qfn qfg q96 qfi 12 x=X1F x.2.1 x.2.2.2.2.2.2.2.2.2 x.1 x.2.2.2.1 (fun w0 w1=>(Sum.inl (w0,x.2.1,x.2.2.1,w1,x.2.2.2.2.1,x.2.2.2.2.2.1,x.2.2.2.2.2.2.1,x.2.2.2.2.2.2.2.1,x.2.2.2.2.2.2.2.2.1,x.2.2.2.2.2.2.2.2.2))) (fun p0=>(Sum.inr (x.2.2.1,p0,x.2.2.2.2.1,x.2.2.2.2.2.1,x.2.2.2.2.2.2.1,x.2.2.2.2.2.2.2.1,x.2.2.2.2.2.2.2.2.1,x.2.2.2.2.2.2.2.2.2))):=by kernel_rfl
theorem qft {R:Type} (x:tn) (k:tq→Option R) (r:R) (h:qfp x k=some r):∃ o,Z5s (LE.step X qfn qfg q96 qfi 12) x o∧k o=some r:=by
 obtain ⟨o,h1,h2⟩:=Z0 h
 exact ⟨qfo x o,Zhl (st:=fun (x:tn)=>X1y x.2.1 x.2.2.2.2.2.2.2.2.2) (prj:=fun x=>(x.1,x.2.2.2.1)) (emb:=qfq) (embO:=qfo) (fun x=>(qfr x).trans (by unfold X1y X1F;simp only [Zhd,Zh8,Zhe,Option.map_some,Option.map_none];rfl)) (fun _ _=>rfl) (fun _ _=>rfl) (fun _ _ _=>rfl) (fun _ _ _=>rfl) (fun _=>rfl) (Z1S.1 h1),by
  first
  | exact h2
  | (rcases o with o<;>exact h2)⟩
def qfu {R:Type}:Z27 S R:=LE.ls X qfn qfp qfi
theorem qfv {R:Type}:Z3J X (qfu (R:=R)):=Zhq xok qfh (e:=qfn) q97 qfj qft qfj
theorem qfw (x0:ZJ) (x1:List Zn):Zhs X qfg [(.st 20),(.sl (.st 21))] [(.st 6),(.int .i64)] q96 qfu 12 12 (x0,x1,())=X2P x0 x1:=by kernel_rfl
def qfx:F7 S:=⟨[(.st 20),(.sl (.st 21))],[(.st 6),(.int .i64)],fun xs=>X6n xs.1 xs.2.1⟩
theorem qfy:Z7Q X 12 qfx:=Zho (Zhn xok qfh q97 qfv 12 12) fun xs _ h=>((qfw xs.1 xs.2.1).trans (X6Z xs.1 xs.2.1).symm).trans h
def qfz:List (Nat×F7 S):=[]
theorem qfA:Z9n X (qfz):=trivial
abbrev qfB {R:Type}:Z27 S R:=Zgi
theorem qfC {R:Type}:Z3J X (qfB (R:=R)):=ZgQ X
theorem qfD (x0:List ZE):Zhs X qfz [(.sl (.st 5))] [(.sl (.st 5))] q96 qfB 12 59 (x0,())=X6 x0:=by kernel_rfl
def qfE:F7 S:=⟨[(.sl (.st 5))],[(.sl (.st 5))],fun xs=>Wm xs.1⟩
theorem qfF:Z7Q X 59 qfE:=Zho (Zhn xok qfA q97 qfC 12 59) fun xs _ h=>((qfD xs.1).trans (X1o xs.1).symm).trans h
def qfG:StT S:=⟨(N (N (N L vQ L) vv L) (some .nilp) (N L vQ L)),L,0⟩
def qfH:PE S:=⟨58,4,qfG,[.int,(.st 2),.int],[]⟩
def qfI:List (Nat×F7 S):=[(110,q5T),(57,q37)]
theorem qfJ:Z9n X qfI:=⟨q5U,q38,trivial⟩
abbrev qfK {R:Type}:Z27 S R:=Zgi
theorem qfL {R:Type}:Z3J X (qfK (R:=R)):=ZgQ X
theorem qfM (x:(Int×Zu×Int)):PE.step X qfH qfI q96 qfK 12 x=X1Q x.1 x.2.1 x.2.2:=by kernel_rfl
theorem qfN:ZaX X qfH X2X:=Zhr (ZgU xok qfJ q97 qfL 12) fun x _ h=>((qfM x).trans (X6N x).symm).trans h
def qfO {R:Type}:Prs S R:=PE.ps X qfH (fun x q=>(X2X x).bind q) q96
theorem qfP {R:Type}:Z7R X (qfO (R:=R)):=Zhi (e:=qfH) qfN q97
def qfQ:List (Nat×F7 S):=[(29,q4C),(57,q37),(82,q53),(110,q5T),(59,qfE)]
theorem qfR:Z9n X (qfQ):=⟨q4D,q38,q54,q5U,qfF,trivial⟩
abbrev qfS {R:Type}:Z27 S R:=Zgi
theorem qfT {R:Type}:Z3J X (qfS (R:=R)):=ZgQ X
theorem qfU (x0:ZJ) (x1:List Zn) (x2:Zu):Zhs X qfQ [(.st 20),(.sl (.st 21)),(.st 2)] [(.sl (.st 5)),(.int .i64)] qfO qfS 12 23 (x0,x1,x2,())=X3m x0 x1 x2:=by kernel_rfl
def qfV:F7 S:=⟨[(.st 20),(.sl (.st 21)),(.st 2)],[(.sl (.st 5)),(.int .i64)],fun xs=>X6Y xs.1 xs.2.1 xs.2.2.1⟩
theorem qfW:Z7Q X 23 qfV:=Zho (Zhn xok qfR qfP qfT 12 23) fun xs _ h=>((qfU xs.1 xs.2.1 xs.2.2.1).trans (X7o xs.1 xs.2.1 xs.2.2.1).symm).trans h
def qfX:StT S:=⟨(N L (some .nilp) L),L,0⟩
def qfY:PE S:=⟨44,1,qfX,[],[]⟩
def qfZ:List (Nat×F7 S):=[]
theorem qg0:Z9n X qfZ:=trivial
abbrev qg1 {R:Type}:Z27 S R:=Zgi
theorem qg2 {R:Type}:Z3J X (qg1 (R:=R)):=ZgQ X
theorem qg3 (x:Unit):PE.step X qfY qfZ qfO qg1 12 x=WC:=by kernel_rfl
theorem qg4:ZaX X qfY X1R:=Zhr (ZgU xok qg0 qfP qg2 12) fun x _ h=>((qg3 x).trans (X5r x).symm).trans h
def qg5 {R:Type}:Prs S R:=PE.ps X qfY (fun x q=>(X1R x).bind q) qfO
theorem qg6 {R:Type}:Z7R X (qg5 (R:=R)):=Zhi (e:=qfY) qg4 qfP
def qg7:StT S:=⟨(N L (some (.ptr 1 0)) L),(N (N L o4 L) os L),2⟩
def qg8:Way S:=⟨.ret,⟨(N L vQ L),(N (N L o4 L) os L),2⟩,[.int,(.st 20),(.lst (.st 21)),.en,(.mp (.st 23) (.int .i64))]⟩
def qg9:PE S:=⟨44,1,qg7,[(.st 20),(.lst (.st 21)),.en,(.mp (.st 23) (.int .i64))],[qg8]⟩
def qga:List (Nat×F7 S):=[]
theorem qgb:Z9n X qga:=trivial
abbrev qgc {R:Type}:Z27 S R:=Zgi
theorem qgd {R:Type}:Z3J X (qgc (R:=R)):=ZgQ X
def qge:Key:=⟨[44],44,none,[0,0,1,0,1],0,9⟩
def qgf:StT S:=⟨(N v1B (some (.ptr 1 0)) (N (N L none (N L vQ L)) vQ (N (N L vN L) none L))),(N (N L o4 L) os L),9⟩
def qgg:Way S:=⟨(.exit 0),⟨(N L none (N L vQ L)),(N (N L o4 L) os L),10⟩,[.int,(.st 20),(.lst (.st 21)),.en,(.mp (.st 23) (.int .i64))]⟩
def qgh:LE S:=⟨qge,qgf,[.int,.int,.int,(.lst (.st 21)),(.st 20),(.lst (.st 21)),.en,(.mp (.st 23) (.int .i64))],[qgg]⟩
def qgi (x:tu):Int→tK:=fun y0=>(y0,x.2.2.2.2.1,x.2.2.2.2.2.1,x.2.2.2.2.2.2.1,x.2.2.2.2.2.2.2)
def qgj {R:Type} (x:tu) (k:tK→Option R):Option R:=(X1e x.1 x.2.2.2.1 x.2.2.2.2.1 x.2.2.2.2.2.2.1 (x.2.1,x.2.2.1)).bind (fun y0=>k (y0,x.2.2.2.2.1,x.2.2.2.2.2.1,x.2.2.2.2.2.2.1,x.2.2.2.2.2.2.2))
def qgk (x:tu) (v:(Int×Int)):tu:=(x.1,v.1,v.2,x.2.2.2.1,x.2.2.2.2.1,x.2.2.2.2.2.1,x.2.2.2.2.2.2.1,x.2.2.2.2.2.2.2)
theorem qgl (x:tu):LE.step X qgh qga qg5 qgc 12 x=Xl x.1 x.2.2.2.1 x.2.2.2.2.1 x.2.2.2.2.2.2.1 x.2.1 x.2.2.1 (fun w0 w1=>(Sum.inl (x.1,w0,w1,x.2.2.2.1,x.2.2.2.2.1,x.2.2.2.2.2.1,x.2.2.2.2.2.2.1,x.2.2.2.2.2.2.2))) (fun p0=>(Sum.inr (p0,x.2.2.2.2.1,x.2.2.2.2.2.1,x.2.2.2.2.2.2.1,x.2.2.2.2.2.2.2))):=by kernel_rfl
theorem qgn {R:Type} (x:tu) (k:tK→Option R) (r:R) (h:qgj x k=some r):∃ o,Z5s (LE.step X qgh qga qg5 qgc 12) x o∧k o=some r:=by
 obtain ⟨o,h1,h2⟩:=Z0 h
 exact ⟨qgi x o,Zhl (st:=fun (x:tu)=>Xe x.1 x.2.2.2.1 x.2.2.2.2.1 x.2.2.2.2.2.2.1) (prj:=fun x=>(x.2.1,x.2.2.1)) (emb:=qgk) (embO:=qgi) (fun x=>(qgl x).trans (by unfold Xe Xl;simp only [Zhd,Zh8,Zhe,Option.map_some,Option.map_none];rfl)) (fun _ _=>rfl) (fun _ _=>rfl) (fun _ _ _=>rfl) (fun _ _ _=>rfl) (fun _=>rfl) (Z1S.1 h1),by
  first
  | exact h2
  | (rcases o with o<;>exact h2)⟩
def qgo {R:Type}:Z27 S R:=LE.ls X qgh qgj qgc
theorem qgp {R:Type}:Z3J X (qgo (R:=R)):=Zhq xok qgb (e:=qgh) qg6 qgd qgn qgd
theorem qgq (x:tO):PE.step X qg9 qga qg5 qgo 12 x=XK x.1 x.2.1 x.2.2.1 x.2.2.2:=by kernel_rfl
theorem qgr:ZaX X qg9 WQ:=Zhr (ZgU xok qgb qg6 qgp 12) fun x _ h=>((qgq x).trans (X3v x).symm).trans h
def qgs {R:Type}:Prs S R:=PE.ps X qg9 (fun x q=>(WQ x).bind q) qg5
theorem qgt {R:Type}:Z7R X (qgs (R:=R)):=Zhi (e:=qg9) qgr qg6
def qgu:StT S:=⟨v1v,(N (N L o4 L) os L),2⟩
def qgv:Way S:=⟨.ret,⟨(N L vP L),(N (N L o4 L) os L),2⟩,[.bool,(.st 20),(.lst (.st 21)),.en,(.mp (.st 23) (.int .i64))]⟩
def qgw:PE S:=⟨46,2,qgu,[.int,(.st 20),(.lst (.st 21)),.en,(.mp (.st 23) (.int .i64))],[qgv]⟩
def qgx:List (Nat×F7 S):=[(110,q5T),(57,q37)]
theorem qgy:Z9n X qgx:=⟨q5U,q38,trivial⟩
abbrev qgz {R:Type}:Z27 S R:=Zgi
theorem qgA {R:Type}:Z3J X (qgz (R:=R)):=ZgQ X
def qgB:Key:=⟨[108,0,46],108,none,[0,0,1,0,0,1,0,0,1],2,44⟩
def qgC:StT S:=⟨(N (N (N L vQ L) (some (.ptr 18 0)) L) (some (.yld 22)) (N (N L vQ L) none L)),o17,44⟩
def qgD:Way S:=⟨.ret,⟨L,oR,94⟩,[.int,(.st 20),(.lst (.st 21)),.en,(.arr (.st 5)),(.st 2),(.mp (.st 23) (.int .i64)),.bool,.int,.int]⟩
def qgE:Way S:=⟨(.exit 2),⟨v1k,o17,51⟩,[.int,.int,(.st 20),(.lst (.st 21)),.en,(.mp (.st 23) (.int .i64)),.bool,.int,.int]⟩
def qgF:LE S:=⟨qgB,qgC,[.int,.int,.int,(.st 20),(.lst (.st 21)),.en,(.mp (.st 23) (.int .i64)),.bool,.int,.int],[qgD,qgE]⟩
def qgG (x:ts):((ZJ×(List Zn)×(Nat→Nat)×(Nat→ZE)×Zu×t1i×Bool)⊕tO)→t5:=Sum.elim (fun y0=>(.inl (x.2.2.1,y0.1,y0.2.1,y0.2.2.1,y0.2.2.2.1,y0.2.2.2.2.1,y0.2.2.2.2.2.1,y0.2.2.2.2.2.2,x.2.2.2.2.2.2.2.2.1,x.2.2.2.2.2.2.2.2.2))) (fun y1=>(.inr (x.1,x.2.2.1,y1.1,y1.2.1,y1.2.2.1,y1.2.2.2,x.2.2.2.2.2.2.2.1,x.2.2.2.2.2.2.2.2.1,x.2.2.2.2.2.2.2.2.2)))
def qgH {R:Type} (x:ts) (k:t5→Option R):Option R:=(XR x.1 x.2.2.1 x.2.2.2.2.2.2.2.2.2 (x.2.1,x.2.2.2.1,x.2.2.2.2.1,x.2.2.2.2.2.1,x.2.2.2.2.2.2.1)).bind (Sum.elim (fun y0=>k (.inl (x.2.2.1,y0.1,y0.2.1,y0.2.2.1,y0.2.2.2.1,y0.2.2.2.2.1,y0.2.2.2.2.2.1,y0.2.2.2.2.2.2,x.2.2.2.2.2.2.2.2.1,x.2.2.2.2.2.2.2.2.2))) (fun y1=>k (.inr (x.1,x.2.2.1,y1.1,y1.2.1,y1.2.2.1,y1.2.2.2,x.2.2.2.2.2.2.2.1,x.2.2.2.2.2.2.2.2.1,x.2.2.2.2.2.2.2.2.2))))
def qgI (x:ts) (v:tK):ts:=(x.1,v.1,x.2.2.1,v.2.1,v.2.2.1,v.2.2.2.1,v.2.2.2.2,x.2.2.2.2.2.2.2.1,x.2.2.2.2.2.2.2.2.1,x.2.2.2.2.2.2.2.2.2)
theorem qgJ (x:ts):LE.step X qgF qgx qgs qgz 12 x=Xi x.1 x.2.2.1 x.2.2.2.2.2.2.2.2.2 x.2.1 x.2.2.2.1 x.2.2.2.2.1 x.2.2.2.2.2.1 x.2.2.2.2.2.2.1 (fun w0 w1 w2 w3 w4=>(Sum.inl (x.1,w0,x.2.2.1,w1,w2,w3,w4,x.2.2.2.2.2.2.2.1,x.2.2.2.2.2.2.2.2.1,x.2.2.2.2.2.2.2.2.2))) (fun p0 p1 p2 p3 p4 p5 p6=>(Sum.inr (.inl (x.2.2.1,p0,p1,p2,p3,p4,p5,p6,x.2.2.2.2.2.2.2.2.1,x.2.2.2.2.2.2.2.2.2)))) (fun p0 p1 p2 p3=>(Sum.inr (.inr (x.1,x.2.2.1,p0,p1,p2,p3,x.2.2.2.2.2.2.2.1,x.2.2.2.2.2.2.2.2.1,x.2.2.2.2.2.2.2.2.2)))):=by kernel_rfl
theorem qgL {R:Type} (x:ts) (k:t5→Option R) (r:R) (h:qgH x k=some r):∃ o,Z5s (LE.step X qgF qgx qgs qgz 12) x o∧k o=some r:=by
 obtain ⟨o,h1,h2⟩:=Z0 h
 exact ⟨qgG x o,Zhl (st:=fun (x:ts)=>X9 x.1 x.2.2.1 x.2.2.2.2.2.2.2.2.2) (prj:=fun x=>(x.2.1,x.2.2.2.1,x.2.2.2.2.1,x.2.2.2.2.2.1,x.2.2.2.2.2.2.1)) (emb:=qgI) (embO:=qgG) (fun x=>(qgJ x).trans (by unfold X9 Xi;simp only [Zhd,Zh8,Zhe,Option.map_some,Option.map_none];rfl)) (fun _ _=>rfl) (fun _ _=>rfl) (fun _ _ _=>rfl) (fun _ _ _=>rfl) (fun _=>rfl) (Z1S.1 h1),by
  first
  | exact h2
  | (rcases o with o|o<;>exact h2)⟩
def qgM {R:Type}:Z27 S R:=LE.ls X qgF qgH qgz
theorem qgN {R:Type}:Z3J X (qgM (R:=R)):=Zhq xok qgy (e:=qgF) qgt qgA qgL qgA
def qgO:Key:=⟨[108,0,46],108,none,[0,0,1],0,30⟩
def qgP:StT S:=⟨v1k,o17,30⟩
def qgQ:Way S:=⟨.ret,⟨L,oR,94⟩,[.int,(.st 20),(.lst (.st 21)),.en,(.arr (.st 5)),(.st 2),(.mp (.st 23) (.int .i64)),.bool,.int,.int]⟩
def qgR:Way S:=⟨(.exit 0),⟨L,o17,37⟩,[.int,(.st 20),(.lst (.st 21)),.en,(.mp (.st 23) (.int .i64)),.bool,.int,.int]⟩
def qgS:LE S:=⟨qgO,qgP,[.int,.int,(.st 20),(.lst (.st 21)),.en,(.mp (.st 23) (.int .i64)),.bool,.int,.int],[qgQ,qgR]⟩
def qgT (x:tv):((ZJ×(List Zn)×(Nat→Nat)×(Nat→ZE)×Zu×t1i×Bool)⊕tO)→t7:=Sum.elim (fun y0=>(.inl (x.2.1,y0.1,y0.2.1,y0.2.2.1,y0.2.2.2.1,y0.2.2.2.2.1,y0.2.2.2.2.2.1,y0.2.2.2.2.2.2,x.2.2.2.2.2.2.2.1,x.2.2.2.2.2.2.2.2))) (fun y1=>(.inr (x.2.1,y1.1,y1.2.1,y1.2.2.1,y1.2.2.2,x.2.2.2.2.2.2.1,x.2.2.2.2.2.2.2.1,x.2.2.2.2.2.2.2.2)))
def qgU {R:Type} (x:tv) (k:t7→Option R):Option R:=(X15 x.2.1 x.2.2.2.2.2.2.2.2 (x.1,x.2.2.1,x.2.2.2.1,x.2.2.2.2.1,x.2.2.2.2.2.1)).bind (Sum.elim (fun y0=>k (.inl (x.2.1,y0.1,y0.2.1,y0.2.2.1,y0.2.2.2.1,y0.2.2.2.2.1,y0.2.2.2.2.2.1,y0.2.2.2.2.2.2,x.2.2.2.2.2.2.2.1,x.2.2.2.2.2.2.2.2))) (fun y1=>k (.inr (x.2.1,y1.1,y1.2.1,y1.2.2.1,y1.2.2.2,x.2.2.2.2.2.2.1,x.2.2.2.2.2.2.2.1,x.2.2.2.2.2.2.2.2))))
def qgV (x:tv) (v:tK):tv:=(v.1,x.2.1,v.2.1,v.2.2.1,v.2.2.2.1,v.2.2.2.2,x.2.2.2.2.2.2.1,x.2.2.2.2.2.2.2.1,x.2.2.2.2.2.2.2.2)
theorem qgW (x:tv):LE.step X qgS qgx qgs qgM 12 x=Xh x.2.1 x.2.2.2.2.2.2.2.2 x.1 x.2.2.1 x.2.2.2.1 x.2.2.2.2.1 x.2.2.2.2.2.1 (fun w0 w1 w2 w3 w4=>(Sum.inl (w0,x.2.1,w1,w2,w3,w4,x.2.2.2.2.2.2.1,x.2.2.2.2.2.2.2.1,x.2.2.2.2.2.2.2.2))) (fun p0 p1 p2 p3 p4 p5 p6=>(Sum.inr (.inl (x.2.1,p0,p1,p2,p3,p4,p5,p6,x.2.2.2.2.2.2.2.1,x.2.2.2.2.2.2.2.2)))) (fun p0 p1 p2 p3=>(Sum.inr (.inr (x.2.1,p0,p1,p2,p3,x.2.2.2.2.2.2.1,x.2.2.2.2.2.2.2.1,x.2.2.2.2.2.2.2.2)))):=by kernel_rfl
theorem qgY {R:Type} (x:tv) (k:t7→Option R) (r:R) (h:qgU x k=some r):∃ o,Z5s (LE.step X qgS qgx qgs qgM 12) x o∧k o=some r:=by
 obtain ⟨o,h1,h2⟩:=Z0 h
 exact ⟨qgT x o,Zhl (st:=fun (x:tv)=>X8 x.2.1 x.2.2.2.2.2.2.2.2) (prj:=fun x=>(x.1,x.2.2.1,x.2.2.2.1,x.2.2.2.2.1,x.2.2.2.2.2.1)) (emb:=qgV) (embO:=qgT) (fun x=>(qgW x).trans (by unfold X8 Xh;simp only [Zhd,Zh8,Zhe,Option.map_some,Option.map_none];rfl)) (fun _ _=>rfl) (fun _ _=>rfl) (fun _ _ _=>rfl) (fun _ _ _=>rfl) (fun _=>rfl) (Z1S.1 h1),by
  first
  | exact h2
  | (rcases o with o|o<;>exact h2)⟩
def qgZ {R:Type}:Z27 S R:=LE.ls X qgS qgU qgM
theorem qh0 {R:Type}:Z3J X (qgZ (R:=R)):=Zhq xok qgy (e:=qgS) qgt qgN qgY qgN
theorem qh1 (x:tK):PE.step X qgw qgx qgs qgZ 12 x=Xz x.1 x.2.1 x.2.2.1 x.2.2.2.1 x.2.2.2.2:=by kernel_rfl
theorem qh2:ZaX X qgw Wr:=Zhr (ZgU xok qgy qgt qh0 12) fun x _ h=>((qh1 x).trans (X3a x).symm).trans h
def qh3 {R:Type}:Prs S R:=PE.ps X qgw (fun x q=>(Wr x).bind q) qgs
theorem qh4 {R:Type}:Z7R X (qh3 (R:=R)):=Zhi (e:=qgw) qh2 qgt
def qh5:StT S:=⟨(N (N (N L (some (.ptr 4 0)) L) vQ (N L (some (.ptr 0 0)) L)) vQ (N (N L (some (.ptr 1 0)) L) vQ L)),o1r,5⟩
def qh6:Way S:=⟨.ret,⟨(N L (some (.tup [(.int .i64 0),(.bool false)])) L),o1r,5⟩,[.int,.bool,(.st 20),(.lst (.st 21)),.en,.int,(.mp (.st 23) (.int .i64))]⟩
def qh7:PE S:=⟨45,6,qh5,[.int,.int,.int,(.st 20),(.lst (.st 21)),.en,.int,(.mp (.st 23) (.int .i64))],[qh6]⟩
def qh8:List (Nat×F7 S):=[(110,q5T),(57,q37)]
theorem qh9:Z9n X qh8:=⟨q5U,q38,trivial⟩
abbrev qha (ih:tz→Option tF) {R:Type}:Z27 S R:=Zgi
theorem qhb (ih:tz→Option tF) (hih:ZaX X qh7 ih) {R:Type}:Z3J X (qha ih (R:=R)):=ZgQ X
def qhc:Key:=⟨[45],45,none,[0,0,1,0,1,1],0,11⟩
def qhd:StT S:=⟨(N (N (N L none (N L vQ L)) none (N L (some (.ptr 0 0)) L)) vQ (N (N L (some (.ptr 1 0)) L) vQ L)),o1r,11⟩
def qhe:Way S:=⟨.ret,⟨(N v1y none v1C),o1r,39⟩,[.int,.bool,(.st 20),(.lst (.st 21)),.en,.int,(.mp (.st 23) (.int .i64))]⟩
def qhf:Way S:=⟨(.exit 0),⟨L,o1r,15⟩,[(.st 20),(.lst (.st 21)),.en,.int,(.mp (.st 23) (.int .i64))]⟩
def qhg:LE S:=⟨qhc,qhd,[.int,.int,.int,(.st 20),(.lst (.st 21)),.en,.int,(.mp (.st 23) (.int .i64))],[qhe,qhf]⟩
def qhh (x:tC):tc→tc:=Sum.elim (fun y0=>(.inl (y0.1,y0.2.1,y0.2.2.1,y0.2.2.2.1,y0.2.2.2.2.1,y0.2.2.2.2.2.1,y0.2.2.2.2.2.2))) (fun y1=>(.inr (y1.1,y1.2.1,y1.2.2.1,y1.2.2.2.1,y1.2.2.2.2)))
def qhi (ih:tz→Option tF) {R:Type} (x:tC) (k:tc→Option R):Option R:=(X3J ih x.2.1 x.2.2.1 (x.1,x.2.2.2.1,x.2.2.2.2.1,x.2.2.2.2.2.1,x.2.2.2.2.2.2.1,x.2.2.2.2.2.2.2)).bind (Sum.elim (fun y0=>k (.inl (y0.1,y0.2.1,y0.2.2.1,y0.2.2.2.1,y0.2.2.2.2.1,y0.2.2.2.2.2.1,y0.2.2.2.2.2.2))) (fun y1=>k (.inr (y1.1,y1.2.1,y1.2.2.1,y1.2.2.2.1,y1.2.2.2.2))))
def qhj (x:tC) (v:(Int×ZJ×(List Zn)×(Nat→Nat)×Int×t1i)):tC:=(v.1,x.2.1,x.2.2.1,v.2.1,v.2.2.1,v.2.2.2.1,v.2.2.2.2.1,v.2.2.2.2.2)
theorem qhk (ih:tz→Option tF) (x:tC):LE.step X qhg qh8 (PE.ps X qh7 (fun x q=>(ih x).bind q) qh3) (qha ih) 12 x=XU ih x.2.1 x.2.2.1 x.1 x.2.2.2.1 x.2.2.2.2.1 x.2.2.2.2.2.1 x.2.2.2.2.2.2.1 x.2.2.2.2.2.2.2 (fun w0 w1 w2 w3 w4 w5=>(Sum.inl (w0,x.2.1,x.2.2.1,w1,w2,w3,w4,w5))) (fun p0 p1 p2 p3 p4 p5 p6=>(Sum.inr (.inl (p0,p1,p2,p3,p4,p5,p6)))) (fun p0 p1 p2 p3 p4=>(Sum.inr (.inr (p0,p1,p2,p3,p4)))):=by kernel_rfl
theorem qhm (ih:tz→Option tF) {R:Type} (x:tC) (k:tc→Option R) (r:R) (h:qhi ih x k=some r):∃ o,Z5s (LE.step X qhg qh8 (PE.ps X qh7 (fun x q=>(ih x).bind q) qh3) (qha ih) 12) x o∧k o=some r:=by
 obtain ⟨o,h1,h2⟩:=Z0 h
 exact ⟨qhh x o,Zhl (st:=fun (x:tC)=>XF ih x.2.1 x.2.2.1) (prj:=fun x=>(x.1,x.2.2.2.1,x.2.2.2.2.1,x.2.2.2.2.2.1,x.2.2.2.2.2.2.1,x.2.2.2.2.2.2.2)) (emb:=qhj) (embO:=qhh) (fun x=>(qhk ih x).trans (by unfold XF XU;simp only [Zhd,Zh8,Zhe,Option.map_some,Option.map_none];rfl)) (fun _ _=>rfl) (fun _ _=>rfl) (fun _ _ _=>rfl) (fun _ _ _=>rfl) (fun _=>rfl) (Z1S.1 h1),by
  first
  | exact h2
  | (rcases o with o|o<;>exact h2)⟩
def qhn (ih:tz→Option tF) {R:Type}:Z27 S R:=LE.ls X qhg (qhi ih) (qha ih)
theorem qho (ih:tz→Option tF) (hih:ZaX X qh7 ih) {R:Type}:Z3J X (qhn ih (R:=R)):=Zhq xok qh9 (e:=qhg) (Zhi (e:=qh7) hih qh4) (qhb ih hih) (qhm ih) (qhb ih hih)
theorem qhp (ih:tz→Option tF) (x:tC):PE.step X qh7 qh8 (PE.ps X qh7 (fun x q=>(ih x).bind q) qh3) (qhn ih) 12 x=X25 ih x.1 x.2.1 x.2.2.1 x.2.2.2.1 x.2.2.2.2.1 x.2.2.2.2.2.1 x.2.2.2.2.2.2.1 x.2.2.2.2.2.2.2:=by kernel_rfl
theorem qhq:ZaX X qh7 X2v:=Zhj (X:=X) (e:=qh7) (t:=Xn) fun ih hih=>Zhr (ZgU xok qh9 (Zhi (e:=qh7) hih qh4) (qho ih hih) 12) fun x _ h=>(qhp ih x).trans h
def qhr {R:Type}:Prs S R:=PE.ps X qh7 (fun x q=>(X2v x).bind q) qh3
theorem qhs {R:Type}:Z7R X (qhr (R:=R)):=Zhi (e:=qh7) qhq qh4
def qht:List (Nat×F7 S):=[(29,q4C),(57,q37),(82,q53),(110,q5T)]
theorem qhu:Z9n X (qht):=⟨q4D,q38,q54,q5U,trivial⟩
abbrev qhv {R:Type}:Z27 S R:=Zgi
theorem qhw {R:Type}:Z3J X (qhv (R:=R)):=ZgQ X
def qhx:Key:=⟨[15],15,none,[0,0,1,0,1,1,1,1,1,1,1],0,32⟩
def qhy:StT S:=⟨(N (N (N L none (N L vQ L)) none (N (N L vQ L) (some .nils) (N L vQ L))) none (N (N L (some .nils) (N L vP L)) (some (.ptr 0 0)) (N (N L (some (.ptr 26 0)) L) none L))),o11,32⟩
def qhz:Way S:=⟨(.exit 0),⟨(N (N (N L none (N L vQ L)) none (N (N L vQ L) (some .nils) L)) none (N (N L (some .nils) L) (some (.ptr 0 0)) L)),o11,34⟩,[.int,.int,.int,(.mp (.st 23) (.int .i64)),(.st 20),(.st 20),(.lst (.st 21)),.en]⟩
def qhA:LE S:=⟨qhx,qhy,[.int,.int,.int,.bool,.int,(.mp (.st 23) (.int .i64)),(.st 20),(.st 20),(.lst (.st 21)),.en],[qhz]⟩
def qhB (x:tr):(Int×Int×t1i×ZJ×(List Zn)×(Nat→Nat))→tA:=fun y0=>(y0.1,x.2.1,y0.2.1,y0.2.2.1,x.2.2.2.2.2.2.1,y0.2.2.2.1,y0.2.2.2.2.1,y0.2.2.2.2.2)
def qhC {R:Type} (x:tr) (k:tA→Option R):Option R:=(X2F (x.1,x.2.2.1,x.2.2.2.1,x.2.2.2.2.1,x.2.2.2.2.2.1,x.2.2.2.2.2.2.2.1,x.2.2.2.2.2.2.2.2.1,x.2.2.2.2.2.2.2.2.2)).bind (fun y0=>k (y0.1,x.2.1,y0.2.1,y0.2.2.1,x.2.2.2.2.2.2.1,y0.2.2.2.1,y0.2.2.2.2.1,y0.2.2.2.2.2))
def qhD (x:tr) (v:(Int×Int×Bool×Int×t1i×ZJ×(List Zn)×(Nat→Nat))):tr:=(v.1,x.2.1,v.2.1,v.2.2.1,v.2.2.2.1,v.2.2.2.2.1,x.2.2.2.2.2.2.1,v.2.2.2.2.2.1,v.2.2.2.2.2.2.1,v.2.2.2.2.2.2.2)
theorem qhE (x:tr):LE.step X qhA qht qhr qhv 12 x=X1G x.1 x.2.2.1 x.2.2.2.1 x.2.2.2.2.1 x.2.2.2.2.2.1 x.2.2.2.2.2.2.2.1 x.2.2.2.2.2.2.2.2.1 x.2.2.2.2.2.2.2.2.2 (fun w0 w1 w2 w3 w4 w5 w6 w7=>(Sum.inl (w0,x.2.1,w1,w2,w3,w4,x.2.2.2.2.2.2.1,w5,w6,w7))) (fun p0 p1 p2 p3 p4 p5=>(Sum.inr (p0,x.2.1,p1,p2,x.2.2.2.2.2.2.1,p3,p4,p5))):=by kernel_rfl
theorem qhG {R:Type} (x:tr) (k:tA→Option R) (r:R) (h:qhC x k=some r):∃ o,Z5s (LE.step X qhA qht qhr qhv 12) x o∧k o=some r:=by
 obtain ⟨o,h1,h2⟩:=Z0 h
 exact ⟨qhB x o,Zhl (st:=fun (x:tr)=>X2d) (prj:=fun x=>(x.1,x.2.2.1,x.2.2.2.1,x.2.2.2.2.1,x.2.2.2.2.2.1,x.2.2.2.2.2.2.2.1,x.2.2.2.2.2.2.2.2.1,x.2.2.2.2.2.2.2.2.2)) (emb:=qhD) (embO:=qhB) (fun x=>(qhE x).trans (by unfold X2d X1G;simp only [Zhd,Zh8,Zhe,Option.map_some,Option.map_none];rfl)) (fun _ _=>rfl) (fun _ _=>rfl) (fun _ _ _=>rfl) (fun _ _ _=>rfl) (fun _=>rfl) (Z1S.1 h1),by
  first
  | exact h2
  | (rcases o with o<;>exact h2)⟩
def qhH {R:Type}:Z27 S R:=LE.ls X qhA qhC qhv
theorem qhI {R:Type}:Z3J X (qhH (R:=R)):=Zhq xok qhu (e:=qhA) qhs qhw qhG qhw
def qhJ:Key:=⟨[15],15,none,[0,0,1,0,1,1,1,1,1,1,1,1],2,40⟩
def qhK:StT S:=⟨(N (N (N L none (N L vQ L)) none (N (N L vQ L) (some (.rs 41 0)) v1y)) none (N (N L (some (.rs 40 0)) L) none (N L none v1y))),oW,42⟩
def qhL:Way S:=⟨(.exit 2),⟨(N (N L none (N L (some (.rs 41 0)) L)) none (N (N L (some (.rs 40 0)) L) none L)),oW,43⟩,[.int,(.lst (.int .i64)),(.mp (.st 23) (.int .i64)),(.st 20),(.lst (.int .i64)),(.st 20),(.lst (.st 21)),.en]⟩
def qhM:LE S:=⟨qhJ,qhK,[.int,.int,.int,.int,.int,(.lst (.int .i64)),(.mp (.st 23) (.int .i64)),(.st 20),(.lst (.int .i64)),(.st 20),(.lst (.st 21)),.en],[qhL]⟩
def qhN (x:ti):((List Int)×(List Int))→tp:=fun y0=>(x.2.2.2.2.1,y0.1,x.2.2.2.2.2.2.1,x.2.2.2.2.2.2.2.1,y0.2,x.2.2.2.2.2.2.2.2.2.1,x.2.2.2.2.2.2.2.2.2.2.1,x.2.2.2.2.2.2.2.2.2.2.2)
def qhO {R:Type} (x:ti) (k:tp→Option R):Option R:=(X3S x.1 x.2.1 x.2.2.1 (x.2.2.2.1,x.2.2.2.2.2.1,x.2.2.2.2.2.2.2.2.1)).bind (fun y0=>k (x.2.2.2.2.1,y0.1,x.2.2.2.2.2.2.1,x.2.2.2.2.2.2.2.1,y0.2,x.2.2.2.2.2.2.2.2.2.1,x.2.2.2.2.2.2.2.2.2.2.1,x.2.2.2.2.2.2.2.2.2.2.2))
def qhP (x:ti) (v:(Int×(List Int)×(List Int))):ti:=(x.1,x.2.1,x.2.2.1,v.1,x.2.2.2.2.1,v.2.1,x.2.2.2.2.2.2.1,x.2.2.2.2.2.2.2.1,v.2.2,x.2.2.2.2.2.2.2.2.2.1,x.2.2.2.2.2.2.2.2.2.2.1,x.2.2.2.2.2.2.2.2.2.2.2)
theorem qhQ (x:ti):LE.step X qhM qht qhr qhH 12 x=X1H x.1 x.2.1 x.2.2.1 x.2.2.2.1 x.2.2.2.2.2.1 x.2.2.2.2.2.2.2.2.1 (fun w0 w1 w2=>(Sum.inl (x.1,x.2.1,x.2.2.1,w0,x.2.2.2.2.1,w1,x.2.2.2.2.2.2.1,x.2.2.2.2.2.2.2.1,w2,x.2.2.2.2.2.2.2.2.2.1,x.2.2.2.2.2.2.2.2.2.2.1,x.2.2.2.2.2.2.2.2.2.2.2))) (fun p0 p1=>(Sum.inr (x.2.2.2.2.1,p0,x.2.2.2.2.2.2.1,x.2.2.2.2.2.2.2.1,p1,x.2.2.2.2.2.2.2.2.2.1,x.2.2.2.2.2.2.2.2.2.2.1,x.2.2.2.2.2.2.2.2.2.2.2))):=by kernel_rfl
theorem qhS {R:Type} (x:ti) (k:tp→Option R) (r:R) (h:qhO x k=some r):∃ o,Z5s (LE.step X qhM qht qhr qhH 12) x o∧k o=some r:=by
 obtain ⟨o,h1,h2⟩:=Z0 h
 exact ⟨qhN x o,Zhl (st:=fun (x:ti)=>X1z x.1 x.2.1 x.2.2.1) (prj:=fun x=>(x.2.2.2.1,x.2.2.2.2.2.1,x.2.2.2.2.2.2.2.2.1)) (emb:=qhP) (embO:=qhN) (fun x=>(qhQ x).trans (by unfold X1z X1H;simp only [Zhd,Zh8,Zhe,Option.map_some,Option.map_none];rfl)) (fun _ _=>rfl) (fun _ _=>rfl) (fun _ _ _=>rfl) (fun _ _ _=>rfl) (fun _=>rfl) (Z1S.1 h1),by
  first
  | exact h2
  | (rcases o with o<;>exact h2)⟩
def qhT {R:Type}:Z27 S R:=LE.ls X qhM qhO qhH
theorem qhU {R:Type}:Z3J X (qhT (R:=R)):=Zhq xok qhu (e:=qhM) qhs qhI qhS qhI
theorem qhV (x0:ZJ) (x1:List Zn):Zhs X qht [(.st 20),(.sl (.st 21))] [(.sl (.int .i64)),(.sl (.int .i64)),(.int .i64)] qhr qhT 12 15 (x0,x1,())=X2Q x0 x1:=by kernel_rfl
def qhW:F7 S:=⟨[(.st 20),(.sl (.st 21))],[(.sl (.int .i64)),(.sl (.int .i64)),(.int .i64)],fun xs=>X6o xs.1 xs.2.1⟩
theorem qhX:Z7Q X 15 qhW:=Zho (Zhn xok qhu qhs qhU 12 15) fun xs _ h=>((qhV xs.1 xs.2.1).trans (X71 xs.1 xs.2.1).symm).trans h
def qhY:List (Nat×F7 S):=[]
theorem qhZ:Z9n X (qhY):=trivial
abbrev qi0 {R:Type}:Z27 S R:=Zgi
theorem qi1 {R:Type}:Z3J X (qi0 (R:=R)):=ZgQ X
def qi2:Key:=⟨[84],84,none,[0,0,1,0,1,1,1],0,9⟩
def qi3:StT S:=⟨(N (N (N L vQ L) none L) (some (.sl (.int .i64) [])) (N (N L vQ L) none L)),L,9⟩
def qi4:Way S:=⟨(.exit 0),⟨v1x,L,13⟩,[.int]⟩
def qi5:LE S:=⟨qi2,qi3,[.int,(.lst (.int .i64)),.int],[qi4]⟩
def qi6 (x:t1h):Int→Int:=fun y0=>y0
def qi7 {R:Type} (x:t1h) (k:Int→Option R):Option R:=(X2L x.2.1 (x.1,x.2.2)).bind (fun y0=>k y0)
def qi8 (x:t1h) (v:(Int×Int)):t1h:=(v.1,x.2.1,v.2)
theorem qi9 (x:t1h):LE.step X qi5 qhY qhr qi0 12 x=X1l x.2.1 x.1 x.2.2 (fun w0 w1=>(Sum.inl (w0,x.2.1,w1))) (fun p0=>(Sum.inr p0)):=by kernel_rfl
theorem qib {R:Type} (x:t1h) (k:Int→Option R) (r:R) (h:qi7 x k=some r):∃ o,Z5s (LE.step X qi5 qhY qhr qi0 12) x o∧k o=some r:=by
 obtain ⟨o,h1,h2⟩:=Z0 h
 exact ⟨qi6 x o,Zhl (st:=fun (x:t1h)=>X1M x.2.1) (prj:=fun x=>(x.1,x.2.2)) (emb:=qi8) (embO:=qi6) (fun x=>(qi9 x).trans (by unfold X1M X1l;simp only [Zhd,Zh8,Zhe,Option.map_some,Option.map_none];rfl)) (fun _ _=>rfl) (fun _ _=>rfl) (fun _ _ _=>rfl) (fun _ _ _=>rfl) (fun _=>rfl) (Z1S.1 h1),by
  first
  | exact h2
  | (rcases o with o<;>exact h2)⟩
def qic {R:Type}:Z27 S R:=LE.ls X qi5 qi7 qi0
theorem qid {R:Type}:Z3J X (qic (R:=R)):=Zhq xok qhZ (e:=qi5) qhs qi1 qib qi1
theorem qie (x0:List Int):Zhs X qhY [(.sl (.int .i64))] [(.int .i64)] qhr qic 12 84 (x0,())=X18 x0:=by kernel_rfl
def qif:F7 S:=⟨[(.sl (.int .i64))],[(.int .i64)],fun xs=>X36 xs.1⟩
theorem qig:Z7Q X 84 qif:=Zho (Zhn xok qhZ qhs qid 12 84) fun xs _ h=>((qie xs.1).trans (X5R xs.1).symm).trans h
def qih:StT S:=⟨(N (N (N L vQ L) vO L) (some (.ptr 1 0)) (N L vQ L)),(N (N L o4 L) os L),2⟩
def qii:Way S:=⟨.ret,⟨(N L vQ L),(N (N L o4 L) os L),2⟩,[.int,(.st 20),(.lst (.st 21)),.en,(.mp (.st 23) (.int .i64))]⟩
def qij:PE S:=⟨50,4,qih,[.int,(.lst (.st 2)),.int,(.st 20),(.lst (.st 21)),.en,(.mp (.st 23) (.int .i64))],[qii]⟩
def qik:List (Nat×F7 S):=[(110,q5T),(57,q37),(84,qif)]
theorem qil:Z9n X qik:=⟨q5U,q38,qig,trivial⟩
abbrev qim {R:Type}:Z27 S R:=Zgi
theorem qin {R:Type}:Z3J X (qim (R:=R)):=ZgQ X
def qio:Key:=⟨[50],50,none,[0,0,1,1,1,1,1,0,0,1,1,0,0,1,0,1,1],2,39⟩
def qip:StT S:=⟨(N (N (N L vQ v1y) none (N (N (N L vQ L) (some (.ptr 3 0)) L) none L)) (some (.ptr 1 0)) (N (N (N (N L vO L) none L) none (N L (some (.ptr 18 0)) (N (N L vQ L) none L))) vQ (N (N (N L vQ L) none L) none (N L vQ L)))),o1h,39⟩
def qiq:Way S:=⟨(.exit 2),⟨vX,o1h,40⟩,[.int,.int,(.lst (.st 2)),.int,.int,(.arr (.int .i64)),(.st 20),(.lst (.st 21)),.en,(.mp (.st 23) (.int .i64)),(.arr (.st 5)),(.st 2)]⟩
def qir:LE S:=⟨qio,qip,[.int,.int,.int,(.lst (.st 2)),.int,.int,.int,.int,(.arr (.int .i64)),(.st 20),(.lst (.st 21)),.en,(.mp (.st 23) (.int .i64)),(.arr (.st 5)),(.st 2)],[qiq]⟩
def qis (x:td):(Nat→Int)→te:=fun y0=>(x.1,x.2.2.1,x.2.2.2.1,x.2.2.2.2.2.1,x.2.2.2.2.2.2.1,y0,x.2.2.2.2.2.2.2.2.2.1,x.2.2.2.2.2.2.2.2.2.2.1,x.2.2.2.2.2.2.2.2.2.2.2.1,x.2.2.2.2.2.2.2.2.2.2.2.2.1,x.2.2.2.2.2.2.2.2.2.2.2.2.2.1,x.2.2.2.2.2.2.2.2.2.2.2.2.2.2)
def qit {R:Type} (x:td) (k:te→Option R):Option R:=(X2S x.1 x.2.1 x.2.2.1 x.2.2.2.1 x.2.2.2.2.2.1 x.2.2.2.2.2.2.1 x.2.2.2.2.2.2.2.1 x.2.2.2.2.2.2.2.2.2.1 x.2.2.2.2.2.2.2.2.2.2.1 x.2.2.2.2.2.2.2.2.2.2.2.1 x.2.2.2.2.2.2.2.2.2.2.2.2.1 x.2.2.2.2.2.2.2.2.2.2.2.2.2.1 x.2.2.2.2.2.2.2.2.2.2.2.2.2.2 (x.2.2.2.2.1,x.2.2.2.2.2.2.2.2.1)).bind (fun y0=>k (x.1,x.2.2.1,x.2.2.2.1,x.2.2.2.2.2.1,x.2.2.2.2.2.2.1,y0,x.2.2.2.2.2.2.2.2.2.1,x.2.2.2.2.2.2.2.2.2.2.1,x.2.2.2.2.2.2.2.2.2.2.2.1,x.2.2.2.2.2.2.2.2.2.2.2.2.1,x.2.2.2.2.2.2.2.2.2.2.2.2.2.1,x.2.2.2.2.2.2.2.2.2.2.2.2.2.2))
def qiu (x:td) (v:(Int×(Nat→Int))):td:=(x.1,x.2.1,x.2.2.1,x.2.2.2.1,v.1,x.2.2.2.2.2.1,x.2.2.2.2.2.2.1,x.2.2.2.2.2.2.2.1,v.2,x.2.2.2.2.2.2.2.2.2.1,x.2.2.2.2.2.2.2.2.2.2.1,x.2.2.2.2.2.2.2.2.2.2.2.1,x.2.2.2.2.2.2.2.2.2.2.2.2.1,x.2.2.2.2.2.2.2.2.2.2.2.2.2.1,x.2.2.2.2.2.2.2.2.2.2.2.2.2.2)
theorem qiv (x:td):LE.step X qir qik qhr qim 12 x=X1r x.1 x.2.1 x.2.2.1 x.2.2.2.1 x.2.2.2.2.2.1 x.2.2.2.2.2.2.1 x.2.2.2.2.2.2.2.1 x.2.2.2.2.2.2.2.2.2.1 x.2.2.2.2.2.2.2.2.2.2.1 x.2.2.2.2.2.2.2.2.2.2.2.1 x.2.2.2.2.2.2.2.2.2.2.2.2.1 x.2.2.2.2.2.2.2.2.2.2.2.2.2.1 x.2.2.2.2.2.2.2.2.2.2.2.2.2.2 x.2.2.2.2.1 x.2.2.2.2.2.2.2.2.1 (fun w0 w1=>(Sum.inl (x.1,x.2.1,x.2.2.1,x.2.2.2.1,w0,x.2.2.2.2.2.1,x.2.2.2.2.2.2.1,x.2.2.2.2.2.2.2.1,w1,x.2.2.2.2.2.2.2.2.2.1,x.2.2.2.2.2.2.2.2.2.2.1,x.2.2.2.2.2.2.2.2.2.2.2.1,x.2.2.2.2.2.2.2.2.2.2.2.2.1,x.2.2.2.2.2.2.2.2.2.2.2.2.2.1,x.2.2.2.2.2.2.2.2.2.2.2.2.2.2))) (fun p0=>(Sum.inr (x.1,x.2.2.1,x.2.2.2.1,x.2.2.2.2.2.1,x.2.2.2.2.2.2.1,p0,x.2.2.2.2.2.2.2.2.2.1,x.2.2.2.2.2.2.2.2.2.2.1,x.2.2.2.2.2.2.2.2.2.2.2.1,x.2.2.2.2.2.2.2.2.2.2.2.2.1,x.2.2.2.2.2.2.2.2.2.2.2.2.2.1,x.2.2.2.2.2.2.2.2.2.2.2.2.2.2))):=by kernel_rfl
theorem qix {R:Type} (x:td) (k:te→Option R) (r:R) (h:qit x k=some r):∃ o,Z5s (LE.step X qir qik qhr qim 12) x o∧k o=some r:=by
 obtain ⟨o,h1,h2⟩:=Z0 h
 exact ⟨qis x o,Zhl (st:=fun (x:td)=>X1X x.1 x.2.1 x.2.2.1 x.2.2.2.1 x.2.2.2.2.2.1 x.2.2.2.2.2.2.1 x.2.2.2.2.2.2.2.1 x.2.2.2.2.2.2.2.2.2.1 x.2.2.2.2.2.2.2.2.2.2.1 x.2.2.2.2.2.2.2.2.2.2.2.1 x.2.2.2.2.2.2.2.2.2.2.2.2.1 x.2.2.2.2.2.2.2.2.2.2.2.2.2.1 x.2.2.2.2.2.2.2.2.2.2.2.2.2.2) (prj:=fun x=>(x.2.2.2.2.1,x.2.2.2.2.2.2.2.2.1)) (emb:=qiu) (embO:=qis) (fun x=>(qiv x).trans (by unfold X1X X1r;simp only [Zhd,Zh8,Zhe,Option.map_some,Option.map_none];rfl)) (fun _ _=>rfl) (fun _ _=>rfl) (fun _ _ _=>rfl) (fun _ _ _=>rfl) (fun _=>rfl) (Z1S.1 h1),by
  first
  | exact h2
  | (rcases o with o<;>exact h2)⟩
def qiy {R:Type}:Z27 S R:=LE.ls X qir qit qim
theorem qiz {R:Type}:Z3J X (qiy (R:=R)):=Zhq xok qil (e:=qir) qhs qin qix qin
def qiA:Key:=⟨[50],50,none,[0,0,1,0,1,1],0,7⟩
def qiB:StT S:=⟨vX,(N (N (N L o8 L) o4 L) os L),7⟩
def qiC:Way S:=⟨(.exit 0),⟨(N (N L none v1u) none L),(N (N (N L o8 L) o4 L) os L),8⟩,[(.arr (.int .i64)),(.st 20),(.lst (.st 21)),.en,(.mp (.st 23) (.int .i64))]⟩
def qiD:LE S:=⟨qiA,qiB,[.int,.int,(.lst (.st 2)),.int,.int,(.arr (.int .i64)),(.st 20),(.lst (.st 21)),.en,(.mp (.st 23) (.int .i64))],[qiC]⟩
def qiE (x:tm):tH→tH:=fun y0=>(y0.1,y0.2.1,y0.2.2.1,y0.2.2.2.1,y0.2.2.2.2)
def qiF {R:Type} (x:tm) (k:tH→Option R):Option R:=(X2R x.1 x.2.1 x.2.2.1 x.2.2.2.1 (x.2.2.2.2.1,x.2.2.2.2.2.1,x.2.2.2.2.2.2.1,x.2.2.2.2.2.2.2.1,x.2.2.2.2.2.2.2.2.1,x.2.2.2.2.2.2.2.2.2)).bind (fun y0=>k (y0.1,y0.2.1,y0.2.2.1,y0.2.2.2.1,y0.2.2.2.2))
def qiG (x:tm) (v:(Int×(Nat→Int)×ZJ×(List Zn)×(Nat→Nat)×t1i)):tm:=(x.1,x.2.1,x.2.2.1,x.2.2.2.1,v.1,v.2.1,v.2.2.1,v.2.2.2.1,v.2.2.2.2.1,v.2.2.2.2.2)
theorem qiH (x:tm):LE.step X qiD qik qhr qiy 12 x=X1q x.1 x.2.1 x.2.2.1 x.2.2.2.1 x.2.2.2.2.1 x.2.2.2.2.2.1 x.2.2.2.2.2.2.1 x.2.2.2.2.2.2.2.1 x.2.2.2.2.2.2.2.2.1 x.2.2.2.2.2.2.2.2.2 (fun w0 w1 w2 w3 w4 w5=>(Sum.inl (x.1,x.2.1,x.2.2.1,x.2.2.2.1,w0,w1,w2,w3,w4,w5))) (fun p0 p1 p2 p3 p4=>(Sum.inr (p0,p1,p2,p3,p4))):=by kernel_rfl
theorem qiJ {R:Type} (x:tm) (k:tH→Option R) (r:R) (h:qiF x k=some r):∃ o,Z5s (LE.step X qiD qik qhr qiy 12) x o∧k o=some r:=by
 obtain ⟨o,h1,h2⟩:=Z0 h
 exact ⟨qiE x o,Zhl (st:=fun (x:tm)=>X1W x.1 x.2.1 x.2.2.1 x.2.2.2.1) (prj:=fun x=>(x.2.2.2.2.1,x.2.2.2.2.2.1,x.2.2.2.2.2.2.1,x.2.2.2.2.2.2.2.1,x.2.2.2.2.2.2.2.2.1,x.2.2.2.2.2.2.2.2.2)) (emb:=qiG) (embO:=qiE) (fun x=>(qiH x).trans (by unfold X1W X1q;simp only [Zhd,Zh8,Zhe,Option.map_some,Option.map_none];rfl)) (fun _ _=>rfl) (fun _ _=>rfl) (fun _ _ _=>rfl) (fun _ _ _=>rfl) (fun _=>rfl) (Z1S.1 h1),by
  first
  | exact h2
  | (rcases o with o<;>exact h2)⟩
def qiK {R:Type}:Z27 S R:=LE.ls X qiD qiF qiy
theorem qiL {R:Type}:Z3J X (qiK (R:=R)):=Zhq xok qil (e:=qiD) qhs qiz qiJ qiz
theorem qiM (x:(Int×(List Zu)×Int×ZJ×(List Zn)×(Nat→Nat)×t1i)):PE.step X qij qik qhr qiK 12 x=X1m x.1 x.2.1 x.2.2.1 x.2.2.2.1 x.2.2.2.2.1 x.2.2.2.2.2.1 x.2.2.2.2.2.2:=by kernel_rfl
theorem qiN:ZaX X qij X3o:=Zhr (ZgU xok qil qhs qiL 12) fun x _ h=>((qiM x).trans (X5Y x).symm).trans h
def qiO {R:Type}:Prs S R:=PE.ps X qij (fun x q=>(X3o x).bind q) qhr
theorem qiP {R:Type}:Z7R X (qiO (R:=R)):=Zhi (e:=qij) qiN qhs
def qiQ:F7 S:=⟨[],[.bool],fun _=>X7v⟩
theorem qiR:Z7Q X 14 qiQ:=ZeO (X:=X) (F:=X7v) rfl Zdy
def qiS:List (Nat×F7 S):=[(30,qdD)]
theorem qiT:Z9n X (qiS):=⟨qdE,trivial⟩
abbrev qiU {R:Type}:Z27 S R:=Zgi
theorem qiV {R:Type}:Z3J X (qiU (R:=R)):=ZgQ X
theorem qiW (x0:ZJ):Zhs X qiS [(.st 20)] [.bool] qiO qiU 12 20 (x0,())=X2h x0:=by kernel_rfl
def qiX:F7 S:=⟨[(.st 20)],[.bool],fun xs=>X4T xs.1⟩
theorem qiY:Z7Q X 20 qiX:=Zho (Zhn xok qiT qiP qiV 12 20) fun xs _ h=>((qiW xs.1).trans (X66 xs.1).symm).trans h
def qiZ:List (Nat×F7 S):=[]
theorem qj0:Z9n X (qiZ):=trivial
abbrev qj1 {R:Type}:Z27 S R:=Zgi
theorem qj2 {R:Type}:Z3J X (qj1 (R:=R)):=ZgQ X
theorem qj3 (x0:ZJ) (x1:Z4):Zhs X qiZ [(.st 20),(.st 22)] [(.st 2)] qiO qj1 12 22 (x0,x1,())=X3C x0 x1:=by kernel_rfl
def qj4:F7 S:=⟨[(.st 20),(.st 22)],[(.st 2)],fun xs=>X63 xs.1 xs.2.1⟩
theorem qj5:Z7Q X 22 qj4:=Zho (Zhn xok qj0 qiP qj2 12 22) fun xs _ h=>((qj3 xs.1 xs.2.1).trans (X7t xs.1 xs.2.1).symm).trans h
def qj6:List (Nat×F7 S):=[]
theorem qj7:Z9n X (qj6):=trivial
abbrev qj8 {R:Type}:Z27 S R:=Zgi
theorem qj9 {R:Type}:Z3J X (qj8 (R:=R)):=ZgQ X
theorem qja (x0:List Int) (x1:Int):Zhs X qj6 [(.sl (.int .u16)),(.int .i64)] [(.int .i64)] qiO qj8 12 60 (x0,x1,())=X2z x0 x1:=by kernel_rfl
def qjb:F7 S:=⟨[(.sl (.int .u16)),(.int .i64)],[(.int .i64)],fun xs=>X5u xs.1 xs.2.1⟩
theorem qjc:Z7Q X 60 qjb:=Zho (Zhn xok qj7 qiP qj9 12 60) fun xs _ h=>((qja xs.1 xs.2.1).trans (X6D xs.1 xs.2.1).symm).trans h
def qjd:List (Nat×F7 S):=[]
theorem qje:Z9n X (qjd):=trivial
abbrev qjf {R:Type}:Z27 S R:=Zgi
theorem qjg {R:Type}:Z3J X (qjf (R:=R)):=ZgQ X
theorem qjh (x0:ZE) (x1:Int):Zhs X qjd [(.st 5),(.int .i64)] [(.int .i64)] qiO qjf 12 54 (x0,x1,())=X2g x0 x1:=by kernel_rfl
def qji:F7 S:=⟨[(.st 5),(.int .i64)],[(.int .i64)],fun xs=>X42 xs.1 xs.2.1⟩
theorem qjj:Z7Q X 54 qji:=Zho (Zhn xok qje qiP qjg 12 54) fun xs _ h=>((qjh xs.1 xs.2.1).trans (X64 xs.1 xs.2.1).symm).trans h
def qjk:List (Nat×F7 S):=[(60,qjb),(54,qji)]
theorem qjl:Z9n X (qjk):=⟨qjc,qjj,trivial⟩
abbrev qjm {R:Type}:Z27 S R:=Zgi
theorem qjn {R:Type}:Z3J X (qjm (R:=R)):=ZgQ X
theorem qjo (x0:ZJ) (x1:Z4) (x2:Int):Zhs X qjk [(.st 20),(.st 22),(.int .i64)] [(.int .i64)] qiO qjm 12 25 (x0,x1,x2,())=X2T x0 x1 x2:=by kernel_rfl
def qjp:F7 S:=⟨[(.st 20),(.st 22),(.int .i64)],[(.int .i64)],fun xs=>X5d xs.1 xs.2.1 xs.2.2.1⟩
theorem qjq:Z7Q X 25 qjp:=Zho (Zhn xok qjl qiP qjn 12 25) fun xs _ h=>((qjo xs.1 xs.2.1 xs.2.2.1).trans (X76 xs.1 xs.2.1 xs.2.2.1).symm).trans h
def qjr:List (Nat×F7 S):=[(68,qcD),(106,q9k)]
theorem qjs:Z9n X (qjr):=⟨qcE,q9l,trivial⟩
abbrev qjt {R:Type}:Z27 S R:=Zgi
theorem qju {R:Type}:Z3J X (qjt (R:=R)):=ZgQ X
theorem qjv (x0:Zl) (x1:Int) (x2:Int):Zhs X qjr [(.st 8),(.int .i64),(.int .i64)] [(.int .i64)] qiO qjt 12 111 (x0,x1,x2,())=X2i x0 x1 x2:=by kernel_rfl
def qjw:F7 S:=⟨[(.st 8),(.int .i64),(.int .i64)],[(.int .i64)],fun xs=>X6b xs.1 xs.2.1 xs.2.2.1⟩
theorem qjx:Z7Q X 111 qjw:=Zho (Zhn xok qjs qiP qju 12 111) fun xs _ h=>((qjv xs.1 xs.2.1 xs.2.2.1).trans (X6c xs.1 xs.2.1 xs.2.2.1).symm).trans h
def qjy:List (Nat×F7 S):=[(111,qjw),(51,qdW)]
theorem qjz:Z9n X (qjy):=⟨qjx,qdX,trivial⟩
abbrev qjA {R:Type}:Z27 S R:=Zgi
theorem qjB {R:Type}:Z3J X (qjA (R:=R)):=ZgQ X
theorem qjC (x0:Zl) (x1:Int) (x2:Int):Zhs X qjy [(.st 8),(.int .i64),(.int .i64)] [(.int .i64)] qiO qjA 12 86 (x0,x1,x2,())=X1j x0 x1 x2:=by kernel_rfl
def qjD:F7 S:=⟨[(.st 8),(.int .i64),(.int .i64)],[(.int .i64)],fun xs=>X4G xs.1 xs.2.1 xs.2.2.1⟩
theorem qjE:Z7Q X 86 qjD:=Zho (Zhn xok qjz qiP qjB 12 86) fun xs _ h=>((qjC xs.1 xs.2.1 xs.2.2.1).trans (X4Z xs.1 xs.2.1 xs.2.2.1).symm).trans h
def qjF:List (Nat×F7 S):=[(86,qjD),(76,qac),(88,qb5),(87,qeU)]
theorem qjG:Z9n X (qjF):=⟨qjE,qad,qb6,qeV,trivial⟩
abbrev qjH {R:Type}:Z27 S R:=Zgi
theorem qjI {R:Type}:Z3J X (qjH (R:=R)):=ZgQ X
theorem qjJ (x0:Zl) (x1:Int) (x2:Int) (x3:Zu):Zhs X qjF [(.st 8),(.int .i64),(.int .i64),(.st 2)] [(.int .i64),(.int .i64)] qiO qjH 12 55 (x0,x1,x2,x3,())=X2B x0 x1 x2 x3:=by kernel_rfl
def qjK:F7 S:=⟨[(.st 8),(.int .i64),(.int .i64),(.st 2)],[(.int .i64),(.int .i64)],fun xs=>X5x xs.1 xs.2.1 xs.2.2.1 xs.2.2.2.1⟩
theorem qjL:Z7Q X 55 qjK:=Zho (Zhn xok qjG qiP qjI 12 55) fun xs _ h=>((qjJ xs.1 xs.2.1 xs.2.2.1 xs.2.2.2.1).trans (X6F xs.1 xs.2.1 xs.2.2.1 xs.2.2.2.1).symm).trans h
def qjM:List (Nat×F7 S):=[(32,qen)]
theorem qjN:Z9n X (qjM):=⟨qeo,trivial⟩
abbrev qjO {R:Type}:Z27 S R:=Zgi
theorem qjP {R:Type}:Z3J X (qjO (R:=R)):=ZgQ X
theorem qjQ (x0:ZJ) (x1:List Zn):Zhs X qjM [(.st 20),(.sl (.st 21))] [.bool] qiO qjO 12 56 (x0,x1,())=X2y x0 x1:=by kernel_rfl
def qjR:F7 S:=⟨[(.st 20),(.sl (.st 21))],[.bool],fun xs=>X3T xs.1 xs.2.1⟩
theorem qjS:Z7Q X 56 qjR:=Zho (Zhn xok qjN qiP qjP 12 56) fun xs _ h=>((qjQ xs.1 xs.2.1).trans (X6B xs.1 xs.2.1).symm).trans h
def qjT:List (Nat×F7 S):=[(22,qj4),(25,qjp),(53,qfe),(54,qji),(55,qjK),(56,qjR)]
theorem qjU:Z9n X (qjT):=⟨qj5,qjq,qff,qjj,qjL,qjS,trivial⟩
abbrev qjV {R:Type}:Z27 S R:=Zgi
theorem qjW {R:Type}:Z3J X (qjV (R:=R)):=ZgQ X
def qjX:Key:=⟨[21],21,none,[0,0,1,0,1,1,1],0,10⟩
def qjY:StT S:=⟨(N (N v1v none (N L (some (.rs 10 0)) L)) none (N L (some (.ptr 0 0)) (N L (some (.ptr 7 0)) L))),o16,11⟩
def qjZ:Way S:=⟨(.exit 0),⟨(N (N L none (N L (some (.rs 10 0)) L)) none L),o16,22⟩,[(.st 2),(.st 22),(.st 20),(.lst (.st 21))]⟩
def qk0:LE S:=⟨qjX,qjY,[.int,(.st 2),(.st 22),(.st 20),(.lst (.st 21))],[qjZ]⟩
def qk1 (x:tS):(List Zn)→tV:=fun y0=>(x.2.1,x.2.2.1,x.2.2.2.1,y0)
def qk2 {R:Type} (x:tS) (k:tV→Option R):Option R:=(X3D x.2.1 x.2.2.1 x.2.2.2.1 (x.1,x.2.2.2.2)).bind (fun y0=>k (x.2.1,x.2.2.1,x.2.2.2.1,y0))
def qk3 (x:tS) (v:(Int×(List Zn))):tS:=(v.1,x.2.1,x.2.2.1,x.2.2.2.1,v.2)
theorem qk4 (x:tS):LE.step X qk0 qjT qiO qjV 12 x=XD x.2.1 x.2.2.1 x.2.2.2.1 x.1 x.2.2.2.2 (fun w0 w1=>(Sum.inl (w0,x.2.1,x.2.2.1,x.2.2.2.1,w1))) (fun p0=>(Sum.inr (x.2.1,x.2.2.1,x.2.2.2.1,p0))):=by kernel_rfl
theorem qk6 {R:Type} (x:tS) (k:tV→Option R) (r:R) (h:qk2 x k=some r):∃ o,Z5s (LE.step X qk0 qjT qiO qjV 12) x o∧k o=some r:=by
 obtain ⟨o,h1,h2⟩:=Z0 h
 exact ⟨qk1 x o,Zhl (st:=fun (x:tS)=>XQ x.2.1 x.2.2.1 x.2.2.2.1) (prj:=fun x=>(x.1,x.2.2.2.2)) (emb:=qk3) (embO:=qk1) (fun x=>(qk4 x).trans (by unfold XQ XD;simp only [Zhd,Zh8,Zhe,Option.map_some,Option.map_none];rfl)) (fun _ _=>rfl) (fun _ _=>rfl) (fun _ _ _=>rfl) (fun _ _ _=>rfl) (fun _=>rfl) (Z1S.1 h1),by
  first
  | exact h2
  | (rcases o with o<;>exact h2)⟩
def qk7 {R:Type}:Z27 S R:=LE.ls X qk0 qk2 qjV
theorem qk8 {R:Type}:Z3J X (qk7 (R:=R)):=Zhq xok qjU (e:=qk0) qiP qjW qk6 qjW
theorem qk9 (x0:ZJ) (x1:Z4):Zhs X qjT [(.st 20),(.st 22)] [(.sl (.st 21))] qiO qk7 12 21 (x0,x1,())=X2x x0 x1:=by kernel_rfl
def qka:F7 S:=⟨[(.st 20),(.st 22)],[(.sl (.st 21))],fun xs=>X5t xs.1 xs.2.1⟩
theorem qkb:Z7Q X 21 qka:=Zho (Zhn xok qjU qiP qk8 12 21) fun xs _ h=>((qk9 xs.1 xs.2.1).trans (X6z xs.1 xs.2.1).symm).trans h
def qkc:List (Nat×F7 S):=[]
theorem qkd:Z9n X (qkc):=trivial
abbrev qke {R:Type}:Z27 S R:=Zgi
theorem qkf {R:Type}:Z3J X (qke (R:=R)):=ZgQ X
theorem qkg (x0:Int) (x1:ZE):Zhs X qkc [(.int .i64),(.st 5)] [.bool] qiO qke 12 24 (x0,x1,())=X20 x0 x1:=by kernel_rfl
def qkh:F7 S:=⟨[(.int .i64),(.st 5)],[.bool],fun xs=>X2G xs.1 xs.2.1⟩
theorem qki:Z7Q X 24 qkh:=Zho (Zhn xok qkd qiP qkf 12 24) fun xs _ h=>((qkg xs.1 xs.2.1).trans (X5K xs.1 xs.2.1).symm).trans h
def qkj:List (Nat×F7 S):=[]
theorem qkk:Z9n X (qkj):=trivial
abbrev qkl {R:Type}:Z27 S R:=Zgi
theorem qkm {R:Type}:Z3J X (qkl (R:=R)):=ZgQ X
def qkn:Key:=⟨[26],26,none,[0,0,1,0,1],0,3⟩
def qko:StT S:=⟨(N v1s vO L),(N L om L),3⟩
def qkp:Way S:=⟨.ret,⟨v1C,(N L om L),14⟩,[.bool,(.st 2)]⟩
def qkq:Way S:=⟨(.exit 0),⟨L,(N L om L),7⟩,[(.st 2)]⟩
def qkr:LE S:=⟨qkn,qko,[.int,(.lst (.st 2)),(.st 2)],[qkp,qkq]⟩
def qks (x:t1d):(Bool⊕Unit)→((Bool×Zu)⊕Zu):=Sum.elim (fun y0=>(.inl (y0,x.2.2))) (fun y1=>(.inr x.2.2))
def qkt {R:Type} (x:t1d) (k:((Bool×Zu)⊕Zu)→Option R):Option R:=(X5e x.2.1 x.2.2 x.1).bind (Sum.elim (fun y0=>k (.inl (y0,x.2.2))) (fun y1=>k (.inr x.2.2)))
def qku (x:t1d) (v:Int):t1d:=(v,x.2.1,x.2.2)
theorem qkv (x:t1d):LE.step X qkr qkj qiO qkl 12 x=X1J x.2.1 x.2.2 x.1 (fun w0=>(Sum.inl (w0,x.2.1,x.2.2))) (fun p0=>(Sum.inr (.inl (p0,x.2.2)))) (Sum.inr (.inr x.2.2)):=by kernel_rfl
theorem qkx {R:Type} (x:t1d) (k:((Bool×Zu)⊕Zu)→Option R) (r:R) (h:qkt x k=some r):∃ o,Z5s (LE.step X qkr qkj qiO qkl 12) x o∧k o=some r:=by
 obtain ⟨o,h1,h2⟩:=Z0 h
 exact ⟨qks x o,Zhl (st:=fun (x:t1d)=>X1A x.2.1 x.2.2) (prj:=fun x=>x.1) (emb:=qku) (embO:=qks) (fun x=>(qkv x).trans (by unfold X1A X1J;simp only [Zhd,Zh8,Zhe,Option.map_some,Option.map_none];rfl)) (fun _ _=>rfl) (fun _ _=>rfl) (fun _ _ _=>rfl) (fun _ _ _=>rfl) (fun _=>rfl) (Z1S.1 h1),by
  first
  | exact h2
  | (rcases o with o|o<;>exact h2)⟩
def qky {R:Type}:Z27 S R:=LE.ls X qkr qkt qkl
theorem qkz {R:Type}:Z3J X (qky (R:=R)):=Zhq xok qkk (e:=qkr) qiP qkm qkx qkm
theorem qkA (x0:List Zu) (x1:Zu):Zhs X qkj [(.sl (.st 2)),(.st 2)] [.bool] qiO qky 12 26 (x0,x1,())=X2U x0 x1:=by kernel_rfl
def qkB:F7 S:=⟨[(.sl (.st 2)),(.st 2)],[.bool],fun xs=>X6p xs.1 xs.2.1⟩
theorem qkC:Z7Q X 26 qkB:=Zho (Zhn xok qkk qiP qkz 12 26) fun xs _ h=>((qkA xs.1 xs.2.1).trans (X78 xs.1 xs.2.1).symm).trans h
def qkD:List (Nat×F7 S):=[(20,qiX),(9,q9d),(14,qiQ),(21,qka),(22,qj4),(12,qfx),(23,qfV),(15,qhW),(25,qjp),(24,qkh),(26,qkB)]
theorem qkE:Z9n X (qkD):=⟨qiY,q9e,qiR,qkb,qj5,qfy,qfW,qhX,qjq,qki,qkC,trivial⟩
abbrev qkF {R:Type}:Z27 S R:=Zgi
theorem qkG {R:Type}:Z3J X (qkF (R:=R)):=ZgQ X
def qkH:Key:=⟨[6],6,none,[0,0,1,0,1,1,1,1,1,1,1,1],0,84⟩
def qkI:StT S:=⟨(N (N (N L (some (.ptr 1 0)) (N L (some (.ptr 29 0)) L)) none (N (N L vO L) none (N L (some (.sl (.st 5) [])) L))) none (N (N (N L (some (.ptr 12 0)) L) none L) (some (.ptr 0 0)) v1x)),o1f,84⟩
def qkJ:Way S:=⟨.ret,⟨v1C,o1f,99⟩,[.bool,(.st 22),(.st 6),(.st 20),(.st 2)]⟩
def qkK:Way S:=⟨(.exit 0),⟨(N (N (N L none (N L (some (.ptr 29 0)) L)) none (N (N L vO L) none L)) none (N (N (N L (some (.ptr 12 0)) L) none L) none L)),o1f,88⟩,[(.lst (.st 2)),(.st 22),(.st 6),(.st 20),(.st 2)]⟩
def qkL:LE S:=⟨qkH,qkI,[(.lst (.st 2)),(.lst (.st 5)),.int,(.st 22),(.st 6),(.st 20),(.st 2)],[qkJ,qkK]⟩
def qkM (x:tJ):(Bool⊕Unit)→to:=Sum.elim (fun y0=>(.inl (y0,x.2.2.2.1,x.2.2.2.2.1,x.2.2.2.2.2.1,x.2.2.2.2.2.2))) (fun y1=>(.inr (x.1,x.2.2.2.1,x.2.2.2.2.1,x.2.2.2.2.2.1,x.2.2.2.2.2.2)))
def qkN {R:Type} (x:tJ) (k:to→Option R):Option R:=(X2w x.2.1 x.2.2.2.1 x.2.2.2.2.2.1 x.2.2.1).bind (Sum.elim (fun y0=>k (.inl (y0,x.2.2.2.1,x.2.2.2.2.1,x.2.2.2.2.2.1,x.2.2.2.2.2.2))) (fun y1=>k (.inr (x.1,x.2.2.2.1,x.2.2.2.2.1,x.2.2.2.2.2.1,x.2.2.2.2.2.2))))
def qkO (x:tJ) (v:Int):tJ:=(x.1,x.2.1,v,x.2.2.2.1,x.2.2.2.2.1,x.2.2.2.2.2.1,x.2.2.2.2.2.2)
theorem qkP (x:tJ):LE.step X qkL qkD qiO qkF 12 x=Wa x.2.1 x.2.2.2.1 x.2.2.2.2.2.1 x.2.2.1 (fun w0=>(Sum.inl (x.1,x.2.1,w0,x.2.2.2.1,x.2.2.2.2.1,x.2.2.2.2.2.1,x.2.2.2.2.2.2))) (fun p0=>(Sum.inr (.inl (p0,x.2.2.2.1,x.2.2.2.2.1,x.2.2.2.2.2.1,x.2.2.2.2.2.2)))) (Sum.inr (.inr (x.1,x.2.2.2.1,x.2.2.2.2.1,x.2.2.2.2.2.1,x.2.2.2.2.2.2))):=by kernel_rfl
theorem qkR {R:Type} (x:tJ) (k:to→Option R) (r:R) (h:qkN x k=some r):∃ o,Z5s (LE.step X qkL qkD qiO qkF 12) x o∧k o=some r:=by
 obtain ⟨o,h1,h2⟩:=Z0 h
 exact ⟨qkM x o,Zhl (st:=fun (x:tJ)=>W6 x.2.1 x.2.2.2.1 x.2.2.2.2.2.1) (prj:=fun x=>x.2.2.1) (emb:=qkO) (embO:=qkM) (fun x=>(qkP x).trans (by unfold W6 Wa;simp only [Zhd,Zh8,Zhe,Option.map_some,Option.map_none];rfl)) (fun _ _=>rfl) (fun _ _=>rfl) (fun _ _ _=>rfl) (fun _ _ _=>rfl) (fun _=>rfl) (Z1S.1 h1),by
  first
  | exact h2
  | (rcases o with o|o<;>exact h2)⟩
def qkS {R:Type}:Z27 S R:=LE.ls X qkL qkN qkF
theorem qkT {R:Type}:Z3J X (qkS (R:=R)):=Zhq xok qkE (e:=qkL) qiP qkG qkR qkG
theorem qkU (x0:ZJ) (x1:Z4):Zhs X qkD [(.st 20),(.st 22)] [.bool] qiO qkS 12 6 (x0,x1,())=X1I x0 x1:=by kernel_rfl
def qkV:F7 S:=⟨[(.st 20),(.st 22)],[.bool],fun xs=>X3W xs.1 xs.2.1⟩
theorem X6Q:Z7Q X 6 qkV:=Zho (Zhn xok qkE qiP qkT 12 6) fun xs _ h=>((qkU xs.1 xs.2.1).trans (X5b xs.1 xs.2.1).symm).trans h
end
end Nore
