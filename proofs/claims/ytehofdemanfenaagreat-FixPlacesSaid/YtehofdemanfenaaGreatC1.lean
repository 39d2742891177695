/- The code comes to the plain functions. -/
import Derived.Test.YtehofdemanfenaaGreatY
import Derived.Test.YtehofdemanfenaaGreatD
import Derived.Test.YtehofdemanfenaaGreatK6
set_option linter.unusedSectionVars false
set_option linter.unusedVariables false
set_option linter.unusedSimpArgs false
set_option maxRecDepth 100000
open Go Go.Ab Go.Proofs Go.Proofs.YtehofdemanfenaaGreat
open Go.Ab.Tr renaming node→N,leaf→L
namespace Nore
abbrev t1i:Type:=List (Zh×Int)
abbrev t1h:Type:=Int×(List Int)×Int
abbrev t1g:Type:=List (ByteArray×Int)
abbrev t1f:Type:=Int×Int×Int×Zw
abbrev t1e:Type:=Int×(List Zt)×Int
abbrev t1d:Type:=Int×(List Zu)×ZJ
abbrev t1c:Type:=(Int×Int×Zt)⊕Unit
abbrev t1b:Type:=(List Zn)×Int×ZJ
abbrev t1a:Type:=Int×(List ByteArray)×ZJ
abbrev t19:Type:=Int×Int×(List Zu)×Int
abbrev t18:Type:=Int×(List Zu)×Int×Int
abbrev t17:Type:=(Int×Int×Int)⊕(Int×Int)
abbrev t16:Type:=Int×Int×ZJ×(List Zu)
abbrev t15:Type:=Int×(List ByteArray)×Zl
abbrev t14:Type:=Int×Zl×(List ByteArray)
abbrev t13:Type:=(List Zu)×Int×(List Zu)
abbrev t12:Type:=Int×(List Zt)×Int×Zu
abbrev t11:Type:=(Nat→Zu)×Int×Int×Zu
abbrev t10:Type:=Int×ByteArray×ByteArray×Nat
abbrev tZ:Type:=ByteArray×Int×(List ByteArray)
abbrev tY:Type:=Int×(List Int)×Int×Int×Int
abbrev tX:Type:=Int×Int×(List ZE)×Int×Int
abbrev tW:Type:=Int×(List Z5)×Int×ZJ
abbrev tV:Type:=Int×Int×Int×(List Zk)×(List Int)
abbrev tU:Type:=Int×(List Z5)×Int×Z5
abbrev tT:Type:=Int×(List Zu)×ZE×ZB×ZJ×ZE
abbrev tS:Type:=(Int×Z5×Z5)⊕Z5
abbrev tR:Type:=Int×Int×Int×t1g×CtSand
abbrev tQ:Type:=(Int×(List Int)×Zu×(List Int)×Zt)⊕Zu
abbrev tP:Type:=(Int×Int×Z5×Z5×ZJ)⊕ZJ
abbrev tO:Type:=Int×(List Zn)×(List Zu)×(List Zu)×ZJ
abbrev tN:Type:=Int×Int×Int×(List ByteArray)×Zw×(List ByteArray)
abbrev tM:Type:=ZJ×(List Zn)×(Nat→Nat)×t1i
abbrev tL:Type:=Int×(List CtSand)×Int×Zl×t1g
abbrev tK:Type:=Int×Int×(List Zw)×Zl×t1g
abbrev tJ:Type:=(Bool×ByteArray×Nat)⊕t10
abbrev tI:Type:=(List Bool)×Int×(List Zn)×(List Bool)×Zu×ZJ
abbrev tH:Type:=Int×ZJ×(List Zn)×(Nat→Nat)×t1i
abbrev tG:Type:=Int×(List Zn)×(List Bool)×Int×Zu×ZJ×(List Int)
abbrev tF:Type:=(Int×Int×Int×(List ByteArray)×ZJ)⊕((List ByteArray)×ZJ)
abbrev tE:Type:=(Nat→Int)×ZJ×(List Zn)×(Nat→Nat)×t1i
abbrev tD:Type:=Int×(List Zn)×Bool×(List Bool)×Int×Zu×ZJ×(List Int)
abbrev tC:Type:=(List Zu)×ZJ×(List Zn)×(Nat→Nat)×t1i
abbrev tB:Type:=Int×(List Zn)×Bool×(List Bool)×Int×Int×Zu×ZJ×(List Int)
abbrev tA:Type:=(Int×Bool×ZJ×(List Zn)×(Nat→Nat)×Int×t1i)
abbrev tz:Type:=Int×(List Zu)×ZJ×(List Zn)×(Nat→Nat)×t1i
abbrev ty:Type:=Int×ZJ×(List Zn)×(Nat→Nat)×t1i×(List Zu)
abbrev tx:Type:=Int×Int×Int×ZJ×(List Zn)×(Nat→Nat)×Int×t1i
abbrev tw:Type:=(List Zn)×ZJ×ZJ×(List Zn)×(Nat→Nat)×t1i
abbrev tv:Type:=tx
abbrev tu:Type:=Int×Z8×Bool×Int×Bool×Z8×Bool×Int×Z8×Z6
abbrev tt:Type:=Int×Int×ZJ×(List Zn)×(Nat→Nat)×t1i×(List Zu)
abbrev ts:Type:=Int×(List Zn)×Int×ZJ×(List Zn)×(Nat→Nat)×t1i
abbrev tr:Type:=Int×Int×ZJ×(List Zn)×(Nat→Nat)×t1i×Bool×Int×Int
abbrev tq:Type:=Int×Int×Int×(List Zn)×ZJ×(List Zn)×(Nat→Nat)×t1i
abbrev tp:Type:=Int×Int×(Nat→ZE)×ZJ×(List Zn)×(Nat→Nat)×t1i×Zu
abbrev to:Type:=Int×Int×Int×ZJ×(List Zn)×(Nat→Nat)×t1i×Bool×Int×Int
abbrev tn:Type:=t1i×ZB×Zu×ZJ×ZJ×(List Zn)×(Nat→Nat)×(List Zu)
abbrev tm:Type:=Int×Int×t1i×ZB×Zu×ZJ×ZJ×(List Zn)×(Nat→Nat)×(List Zu)
abbrev tl:Type:=Int×Int×(List Zu)×Int×Int×(Nat→Int)×ZJ×(List Zn)×(Nat→Nat)×t1i
abbrev tk:Type:=Int×Int×(List Zu)×Int×Z8×Bool×Int×Bool×Z8×Bool×Int×Z8×Z6
abbrev tj:Type:=Int×Int×(List Zu)×Z8×Bool×Int×Bool×Z8×Bool×Int×Z8×(List Int)×Zu
abbrev ti:Type:=(List Z5)×(List Zn)×Int×Int×ZJ×ZJ×(List Zn)×(Nat→Nat)×t1i
abbrev th:Type:=Int×Int×(List Zn)×Int×Int×(Nat→ZE)×ZJ×(List Zn)×(Nat→Nat)×t1i×Zu
abbrev tg:Type:=Int×Int×Int×Zl×(List Int)×Bool×Int×Bool×Zl×Int×Bool×(List Int)×Int×(List Zk)×Zw
abbrev tf:Type:=Int×Int×Int×Int×(List Z5)×(Nat→ZE)×ZJ×(List Zn)×(Nat→Nat)×t1i×Zu
abbrev te:Type:=Int×Int×(List Zu)×Int×Int×(Nat→Int)×ZJ×(List Zn)×(Nat→Nat)×t1i×(Nat→ZE)×Zu
abbrev td:Type:=Int×Int×Int×(List Zu)×Int×Int×Int×Int×(Nat→Int)×ZJ×(List Zn)×(Nat→Nat)×t1i×(Nat→ZE)×Zu
abbrev tc:Type:=(Int×Bool×ZJ×(List Zn)×(Nat→Nat)×Int×t1i)⊕(ZJ×(List Zn)×(Nat→Nat)×Int×t1i)
abbrev tb:Type:=(Int×Int×ZJ×(List Zn)×(Nat→Nat)×Zn×Zn×t1i)⊕tM
abbrev ta:Type:=(Int×Int×Int×(List ByteArray)×(List ByteArray)×Zl)⊕(Int×Int×Int×(List ByteArray)×(List ByteArray)×Zl)⊕((List ByteArray)×Zl)
abbrev t9:Type:=(Int×(List Int)×(List Int)×Zk)⊕(Int×(List Int)×(List Int)×(List Int)×Zk)⊕(Int×(List Int)×(List Int)×(List Int)×Zk)⊕(List Int)
abbrev t8:Type:=(Int×Int×Int×(List ByteArray)×ZJ×(List ByteArray)×Z5)⊕(Int×Int×Int×(List ByteArray)×ZJ×(List ByteArray)×Z5)⊕((List ByteArray)×ZJ)
abbrev t7:Type:=(Int×ZJ×(List Zn)×(Nat→Nat)×(Nat→ZE)×Zu×t1i×Bool×Int×Int)⊕(Int×ZJ×(List Zn)×(Nat→Nat)×t1i×Bool×Int×Int)
abbrev t6:Type:=(Z8×Bool×Int×Bool×Z8×Bool×Int×Z8×Zu×Z6×(List Int)×Zu)⊕(Z8×Bool×Int×Bool×Z8×Bool×Int×Z8×(List Int)×Zu)
abbrev t5:Type:=(Int×ZJ×(List Zn)×(Nat→Nat)×(Nat→ZE)×Zu×t1i×Bool×Int×Int)⊕tr
abbrev t4:Type:=(Int×Int×Int×Zl×t1g×CtSand)⊕(Int×Int×Int×Zl×t1g×CtSand)⊕(Int×Int×Int×Zl×t1g×CtSand)⊕(Zl×t1g)
abbrev t3:Type:=(Zk×Int×Int×Zl×(List Int)×Bool×Int×Bool×Zl×Int×Bool×(List Int)×Int×(List Zk)×Zw)⊕(Int×Int×Zl×(List Int)×Bool×Int×Bool×Zl×Int×Bool×(List Int)×Int×(List Zk)×Zw)
abbrev t2:Type:=(Int×Int×Int×(List ByteArray)×Zw×Zl×(List ByteArray))⊕(Int×Int×Int×(List ByteArray)×Zw×Zl×(List ByteArray))⊕(Int×Int×Int×(List ByteArray)×Zw×Zl×(List ByteArray))⊕(Zl×(List ByteArray))
abbrev t1:Type:=(Bool×(Nat→ZE)×ZJ×(List Zn)×(Nat→Nat)×ZE×t1i×Zu×Zn)⊕(Bool×(Nat→ZE)×ZJ×(List Zn)×(Nat→Nat)×ZE×t1i×Zu×Zn)⊕((Nat→ZE)×ZJ×(List Zn)×(Nat→Nat)×t1i×Zu)
abbrev t0:Type:=(Int×Int×Int×Zw×Zl×t1g)⊕(Int×Int×Int×Zw×Zl×t1g)⊕(Int×Int×Int×Zw×Zl×t1g×(List Zu))⊕(Int×Int×Int×Zw×Zl×t1g×(List Zu))⊕(Zl×t1g)
abbrev vO:Option (TV S):=some (.int .i64 0)
abbrev vN:Option (TV S):=some (.bool false)
abbrev vM:Option (TV S):=some (.sl .bool [])
abbrev vL:Option (TV S):=some (.sl (.st 2) [])
abbrev vK:Option (TV S):=some (.sl (.st 21) [])
abbrev vJ:Option (TV S):=some (.sl (.st 18) [])
abbrev oI:Option (Zi S):=some (.row 9 .str [] 1 1)
abbrev oH:Option (Zi S):=some (.row 9 .str [] 0 0)
abbrev oG:Option (Zi S):=some (.row 9 .str [] 1 0)
abbrev vF:Option (TV S):=some (.str ByteArray.empty)
abbrev oE:Option (Zi S):=some (.cells 163 [(.map 4)])
abbrev oD:Option (Zi S):=some (.cells 80 [(.ptr 3 0)])
abbrev oC:Option (Zi S):=some (.cells 80 [(.ptr 1 0)])
abbrev oB:Option (Zi S):=some (.row 57 (.st 2) [] 1 0)
abbrev oA:Option (Zi S):=some (.cells 80 [(.ptr 20 0)])
abbrev oz:Option (Zi S):=some (.cells 4 [(.bool false)])
abbrev oy:Option (Zi S):=some (.map .str (.int .i64) [])
abbrev ox:Option (Zi S):=some (.cells 3 [(.int .i64 0)])
abbrev ow:Option (Zi S):=some (.siter ByteArray.empty 0)
abbrev ov:Option (Zi S):=some (.cells 32 [(.int .i64 0)])
abbrev ou:Option (Zi S):=some (.row 3 (.int .i64) [] 1 0)
abbrev vt:Option (TV S):=some (.agg [(.stc 2 (T.dflt 2))])
abbrev vs:Option (TV S):=some (.agg [(.stc 8 (T.dflt 8))])
abbrev vr:Option (TV S):=some (.agg [(.stc 21 (T.dflt 21))])
abbrev oq:Option (Zi S):=some (.map (.st 23) (.int .i64) [])
abbrev vp:Option (TV S):=some (.agg [(.stc 15 (T.dflt 15))])
abbrev oo:Option (Zi S):=some (.cells 107 [(.sl (.st 3) [])])
abbrev vn:Option (TV S):=some (.fn (.func 91) [] [(.ptr 5 0)])
abbrev om:Option (Zi S):=some (.cells 39 [(.stc 6 (T.dflt 6))])
abbrev ol:Option (Zi S):=some (.cells 37 [(.stc 5 (T.dflt 5))])
abbrev ok:Option (Zi S):=some (.cells 25 [(.stc 8 (T.dflt 8))])
abbrev oj:Option (Zi S):=some (.cells 57 [(.stc 2 (T.dflt 2))])
abbrev vi:Option (TV S):=some (.fn (.func 132) [] [(.ptr 36 0)])
abbrev oh:Option (Zi S):=some (.cells 169 [(.stc 7 (T.dflt 7))])
abbrev og:Option (Zi S):=some (.cells 109 [(.stc 4 (T.dflt 4))])
abbrev vf:Option (TV S):=some (.fn (.func 131) [] [(.ptr 23 0)])
abbrev oe:Option (Zi S):=some (.cells 148 [(.stc 3 (T.dflt 3))])
abbrev od:Option (Zi S):=some (.cells 72 [(.stc 21 (T.dflt 21))])
abbrev oc:Option (Zi S):=some (.cells 29 [(.stc 20 (T.dflt 20))])
abbrev ob:Option (Zi S):=some (.cells 70 [(.stc 18 (T.dflt 18))])
abbrev oa:Option (Zi S):=some (.cells 115 [(.stc 19 (T.dflt 19))])
abbrev o9:Option (Zi S):=some (.cells 196 [(.stc 17 (T.dflt 17))])
abbrev o8:Option (Zi S):=some (.cells 171 [(.stc 15 (T.dflt 15))])
abbrev o7:Option (Zi S):=some (.cells 119 [(.arr (.st 5) 4 (fun _=>tdf T (.st 5)))])
abbrev o6:Option (Zi S):=some (.cells 151 [(.arr (.int .i64) 32 (fun _=>tdf T (.int .i64)))])
abbrev o5:Option (Zi S):=some (.cells 90 [(.fn (.func 45) [] [(.ptr 4 0),(.ptr 1 0),(.ptr 0 0)])])
abbrev o4:Option (Zi S):=some (.cells 104 [(.stc 20 (T.dflt 20)),(.sl (.st 21) []),(.earr [97,159] 3 4 (fun _=>0)),(.map 2)])
abbrev o3:Option (Zi S):=some (.cells 104 [(.stc 20 (T.dflt 20)),(.sl (.st 21) []),(.earr [97,159] 1 4 (fun _=>0)),(.map 0)])
abbrev o2:Option (Zi S):=some (.cells 104 [(.stc 20 (T.dflt 20)),(.sl (.st 21) []),(.earr [97,159] 20 4 (fun _=>0)),(.map 18)])
abbrev o1:Option (Zi S):=some (.loop 36 (N (N (N (N L (some (.fn (.func 108) [] [(.ptr 6 0)])) L) none L) (some (.ptr 2 0)) L) (some (.ptr 1 0)) (N L (some (.ptr 3 0)) L)) (8::[]) .skip .skip 0 .normal (0::(36::[])) (0::(1::(0::(1::[])))))
abbrev o0:Option (Zi S):=some (.loop 46 (N (N (N L (some (.ptr 3 0)) (N (N L (some (.fn (.func 108) [] [(.ptr 18 0)])) L) none L)) vO (N L (some (.ptr 14 0)) L)) (some (.ptr 1 0)) (N (N L (some (.ptr 4 0)) L) (some (.ptr 2 0)) L)) (20::[]) .skip .skip 0 .normal (0::(46::[])) (0::(1::(0::(1::(1::[]))))))
abbrev o1A:Tr (Zi S):=N L none (N (N L oG L) none L)
abbrev v1z:Tr (TV S):=N L none (N (N L vN L) none L)
abbrev o1y:Tr (Zi S):=N (N L none (N L ou L)) none L
abbrev v1x:Tr (TV S):=N (N L none (N L vO L)) none L
abbrev o1w:Tr (Zi S):=N (N (N L oj L) none L) none L
abbrev o1v:Tr (Zi S):=N (N (N L ou L) none L) none L
abbrev v1u:Tr (TV S):=N L none (N (N L vO L) none L)
abbrev v1t:Tr (TV S):=N (N (N L vO L) none L) none L
abbrev o1s:Tr (Zi S):=N (N (N L ow L) none L) none L
abbrev v1r:Tr (TV S):=N (N L (some (.ptr 3 0)) L) none L
abbrev o1q:Tr (Zi S):=N (N (N L o7 L) o3 L) oq (N L oj L)
abbrev o1p:Tr (Zi S):=N (N (N (N L oB L) none L) none L) oc L
abbrev o1o:Tr (Zi S):=N (N (N L o4 L) ox L) o5 (N (N L oD L) oq L)
abbrev v1n:Tr (TV S):=N (N (N L vO L) none L) none (N (N L vO L) vO L)
abbrev o1m:Tr (Zi S):=N (N L none (N L oE L)) ok (N (N L oy L) none L)
abbrev v1l:Tr (TV S):=N (N L none (N L vO L)) none (N (N L vO L) none L)
abbrev o1k:Tr (Zi S):=N L none (N (N (N (N L ol L) none L) none L) none L)
abbrev v1j:Tr (TV S):=N (N L vK L) (some (.agg [(.stc 20 (T.dflt 20))])) L
abbrev o1i:Tr (Zi S):=N L none (N (N (N (N L ob L) none L) none L) none L)
abbrev v1h:Tr (TV S):=N (N (N L vO L) (some (.ptr 6 0)) L) (some (.yld 11)) L
abbrev v1g:Tr (TV S):=N (N (N L vO L) (some (.ptr 18 0)) L) (some (.yld 22)) L
abbrev o1f:Tr (Zi S):=N (N L oj L) oc (N o1y none L)
abbrev o1e:Tr (Zi S):=N (N (N o1A none L) none L) oc L
abbrev v1d:Tr (TV S):=N L (some (.tup [(.agg [(.stc 5 (T.dflt 5))]),(.bool false)])) L
abbrev o1c:Tr (Zi S):=N (N (N L o6 L) o3 L) oq (N L none (N (N (N L o7 L) oj L) none L))
abbrev o1b:Tr (Zi S):=N (N L none (N L oE (N (N L og L) none L))) ok (N (N L oy L) none L)
abbrev o1a:Tr (Zi S):=N (N L none (N L oE L)) ok (N (N L oy L) none (N L none (N L none (N L oh L))))
abbrev v19:Tr (TV S):=N v1z none (N v1r none L)
abbrev o18:Tr (Zi S):=N (N L oA L) oc (N (N L none (N (N L o2 L) none L)) none (N (N (N L oq L) none L) none L))
abbrev o17:Tr (Zi S):=N (N (N L (some (.cells 31 [(.rs 19 0)])) (N (N L oB L) o1 L)) o3 L) oq (N L oC (N L oC L))
abbrev o16:Tr (Zi S):=N (N (N L none (N L none (N (N L oH L) none L))) none (N L none (N (N L oI L) none L))) ok L
abbrev o15:Tr (Zi S):=N (N L oA L) none (N (N L none (N (N L o2 L) none L)) none (N (N (N L oq L) none L) none L))
abbrev o14:Tr (Zi S):=N (N (N L ox L) o3 L) oq (N (N L oz L) oC (N (N (N L oC L) none L) none (N (N L o0 L) ox L)))
abbrev v13:Tr (TV S):=N (N (N L (some (.ptr 1 0)) L) vO (N L (some (.rs 24 0)) L)) vK (N L (some (.ptr 0 0)) (N L vN L))
abbrev v12:Tr (TV S):=N (N (N (N L vO L) none L) (some (.fn (.func 97) [] [(.ptr 0 0)])) L) vJ v1t
abbrev o11:Tr (Zi S):=N (N L none (N L oE (N (N L og L) none L))) ok (N (N L oy L) none (N (N (N L none (N L oB L)) none L) none L))
abbrev o10:Tr (Zi S):=N (N (N (N L none (N (N L ol L) none L)) none L) om L) oc (N L none (N L none (N (N (N L ol L) none L) none L)))
abbrev oZ:Tr (Zi S):=N (N (N L ou L) none (N L none (N (N L ou L) none L))) none (N (N (N (N L ou L) none L) none (N L oe L)) none L)
abbrev oY:Tr (Zi S):=N (N (N L (some (.cells 31 [(.rs 34 0)])) (N L o1 L)) o3 L) oq (N L oC (N (N (N (N L oB L) none L) none L) oC L))
abbrev oX:Tr (Zi S):=N (N (N (N (N (N L oH L) none L) none L) none L) none (N L none (N (N L og L) none L))) ok (N L none (N (N L oI L) none L))
abbrev vW:Tr (TV S):=N (N (N L none (N L vO L)) (some (.fn (.func 66) [] [])) (N (N L (some (.sl (.st 19) [])) L) none L)) none v1u
abbrev oV:Tr (Zi S):=N (N (N (N L none (N (N L oI L) none L)) none L) none L) oc (N (N L none (N L none (N L none (N L oH L)))) none (N (N (N L none (N L ob L)) none L) none L))
abbrev vU:Tr (TV S):=N (N (N L vO L) none (N (N (N L vO L) (some (.ptr 3 0)) L) none L)) (some (.ptr 1 0)) (N (N (N (N L vL L) none L) none L) vO v1t)
abbrev oT:Tr (Zi S):=N (N (N L none (N L oq L)) om (N (N L none (N L oj L)) none L)) oc (N (N L none (N L (some (.cells 104 [(.stc 20 (T.dflt 20)),(.sl (.st 21) []),(.earr [97,159] 12 4 (fun _=>0)),(.map 11)])) L)) none (N (N L none (N (N L oB L) none L)) none L))
abbrev oS:Tr (Zi S):=N (N (N (N L none (N L o8 L)) none (N L none (N L (some (.loop 95 (N (N (N (N (N L vN L) none L) vO L) (some (.ptr 0 0)) (N (N L none (N L vN L)) none L)) vp (N (N (N L vN L) none (N L none (N L vf L))) (some (.ptr 1 0)) L)) (29::[]) .skip .skip 1 .normal (1::(95::[])) (0::(1::(0::(1::(1::(1::[])))))))) L))) ov L) o8 (N L none (N L ou o1w))
abbrev oR:Tr (Zi S):=N (N (N (N L none (N L o8 L)) none (N L none (N L (some (.loop 95 (N (N (N (N (N L vN L) none L) vO L) (some (.ptr 0 0)) (N (N L none (N L vN L)) none L)) vp (N (N (N L vN L) none (N L none (N L vf L))) (some (.ptr 1 0)) L)) (29::[]) .skip .skip 1 .busy (1::(95::[])) (0::(1::(0::(1::(1::(1::[])))))))) L))) ov L) o8 (N L none (N (N L none (N L none (N L o9 L))) none L))
abbrev oQ:Tr (Zi S):=N (N (N L ox L) ox L) ok (N (N (N (N L ou L) none (N (N L (some (.loop 109 (N (N (N (N L (some (.ptr 3 0)) L) (some (.ptr 0 0)) (N L none (N (N L vi L) vN L))) vO (N (N (N L vN L) none L) none L)) vs (N (N (N L (some (.ptr 4 0)) L) (some (.ptr 1 0)) L) vO (N L (some (.ptr 2 0)) (N (N L vN L) none L)))) (44::(45::[])) .skip .skip 1 .normal (1::(109::[])) (0::(1::(0::(1::(1::(1::(1::[]))))))))) L) ou L)) ov (N (N (N L oo L) none L) none L)) og L)
abbrev oP:Tr (Zi S):=N (N (N L ox L) o3 (N (N L none (N L none (N (N L o7 L) none L))) none (N o1w none L))) oq (N (N L oz L) oC (N (N (N L oC L) none L) none (N (N L (some (.loop 46 (N (N (N L (some (.ptr 3 0)) (N (N L (some (.fn (.func 108) [] [(.ptr 18 0)])) L) none L)) vO (N L (some (.ptr 14 0)) L)) (some (.ptr 1 0)) (N (N L (some (.ptr 4 0)) L) (some (.ptr 2 0)) L)) (20::[]) .skip .skip 0 .ret (0::(46::[])) (0::(1::(0::(1::(1::[]))))))) L) ox L)))
noncomputable def q0 {R:Type}:Prs S R:=Zhf
theorem q1 {R:Type}:Z7R X (q0 (R:=R)):=Zhg X
noncomputable def q2:List (Nat×F7 S):=[]
theorem q3:Z9n X (q2):=trivial
abbrev q4 {R:Type}:Z27 S R:=Zgi
theorem q5 {R:Type}:Z3J X (q4 (R:=R)):=ZgQ X
def q6:Key:=⟨[92],92,none,[0,0,1,0,1,1],0,4⟩
def q7:StT S:=⟨(N (N (N (N L (some (.iter 3)) L) (some (.int .i32 0)) L) none L) vF L),o1s,4⟩
def q8:Way S:=⟨.ret,⟨(N L none (N L vN L)),o1s,23⟩,[.bool,.str,.nat]⟩
def q9:Way S:=⟨(.exit 0),⟨(N (N (N L (some (.int .i32 0)) L) none L) vF L),o1s,6⟩,[.int,.str,.str,.nat]⟩
def qa:LE S:=⟨q6,q7,[.int,.str,.str,.nat],[q8,q9]⟩
def qb (x:t10):((Bool×Nat)⊕(Int×Nat))→tJ:=Sum.elim (fun y0=>(.inl (y0.1,x.2.2.1,y0.2))) (fun y1=>(.inr (y1.1,x.2.1,x.2.2.1,y1.2)))
noncomputable def qc {R:Type} (x:t10) (k:tJ→Option R):Option R:=(X4z x.2.1 x.2.2.1 (x.1,x.2.2.2)).bind (Sum.elim (fun y0=>k (.inl (y0.1,x.2.2.1,y0.2))) (fun y1=>k (.inr (y1.1,x.2.1,x.2.2.1,y1.2))))
def qd (x:t10) (v:(Int×Nat)):t10:=(v.1,x.2.1,x.2.2.1,v.2)
theorem qe (x:t10):LE.step X qa q2 q0 q4 12 x=X11 x.2.1 x.2.2.1 x.1 x.2.2.2 (fun w0 w1=>(Sum.inl (w0,x.2.1,x.2.2.1,w1))) (fun p0 p1=>(Sum.inr (.inl (p0,x.2.2.1,p1)))) (fun p0 p1=>(Sum.inr (.inr (p0,x.2.1,x.2.2.1,p1)))):=by kernel_rfl
theorem qg {R:Type} (x:t10) (k:tJ→Option R) (r:R) (h:qc x k=some r):∃ o,Z5s (LE.step X qa q2 q0 q4 12) x o∧k o=some r:=by
 obtain ⟨o,h1,h2⟩:=Z0 h
 exact ⟨qb x o,Zhl (st:=fun (x:t10)=>WX x.2.1 x.2.2.1) (prj:=fun x=>(x.1,x.2.2.2)) (emb:=qd) (embO:=qb) (fun x=>(qe x).trans (by unfold WX X11;simp only [Zhd,Zh8,Zhe,Option.map_some,Option.map_none];rfl)) (fun _ _=>rfl) (fun _ _=>rfl) (fun _ _ _=>rfl) (fun _ _ _=>rfl) (fun _=>rfl) (Z1S.1 h1),by
  first
  | exact h2
  | (rcases o with o|o<;>exact h2)⟩
noncomputable def qh {R:Type}:Z27 S R:=LE.ls X qa qc q4
theorem qi {R:Type}:Z3J X (qh (R:=R)):=Zhq xok q3 (e:=qa) q1 q5 qg q5
theorem qj (x0:ByteArray):Zhs X q2 [.str] [.bool] q0 qh 12 92 (x0,())=X2S x0:=by kernel_rfl
noncomputable def qk:F7 S:=⟨[.str],[.bool],fun xs=>X2S xs.1⟩
theorem ql:Z7Q X 92 qk:=Zho (Zhn xok q3 q1 qi 12 92) fun xs _ h=>(qj xs.1).trans h
noncomputable def qm:List (Nat×F7 S):=[]
theorem qn:Z9n X (qm):=trivial
abbrev qo {R:Type}:Z27 S R:=Zgi
theorem qp {R:Type}:Z3J X (qo (R:=R)):=ZgQ X
def qq:Key:=⟨[114,2,1,89,2,1,117],114,none,[0,0,1,0,1],0,17⟩
def qr:StT S:=⟨(N (N (N (N L vO L) none L) (some (.fn (.func 130) [] [(.ptr 0 0),(.ptr 1 0)])) L) (some (.sl (.int .i64) [])) v1t),(N (N L ox L) ox L),17⟩
def qs:Way S:=⟨.ret,⟨v1u,(N (N L ox L) ox L),38⟩,[.int,.int,.int]⟩
def qt:Way S:=⟨(.exit 0),⟨L,(N (N L ox L) ox L),18⟩,[.int,.int]⟩
def qu:LE S:=⟨qq,qr,[.int,(.lst (.int .i64)),.int,.int,.int],[qs,qt]⟩
def qv (x:tY):(Int⊕Unit)→t17:=Sum.elim (fun y0=>(.inl (y0,x.2.2.2.1,x.2.2.2.2))) (fun y1=>(.inr (x.2.2.2.1,x.2.2.2.2)))
noncomputable def qw {R:Type} (x:tY) (k:t17→Option R):Option R:=(X4W x.1 x.2.1 x.2.2.2.1 x.2.2.2.2 x.2.2.1).bind (Sum.elim (fun y0=>k (.inl (y0,x.2.2.2.1,x.2.2.2.2))) (fun y1=>k (.inr (x.2.2.2.1,x.2.2.2.2))))
def qx (x:tY) (v:Int):tY:=(x.1,x.2.1,v,x.2.2.2.1,x.2.2.2.2)
theorem qy (x:tY):LE.step X qu qm q0 qo 12 x=X1s x.1 x.2.1 x.2.2.2.1 x.2.2.2.2 x.2.2.1 (fun w0=>(Sum.inl (x.1,x.2.1,w0,x.2.2.2.1,x.2.2.2.2))) (fun p0=>(Sum.inr (.inl (p0,x.2.2.2.1,x.2.2.2.2)))) (Sum.inr (.inr (x.2.2.2.1,x.2.2.2.2))):=by kernel_rfl
theorem qA {R:Type} (x:tY) (k:t17→Option R) (r:R) (h:qw x k=some r):∃ o,Z5s (LE.step X qu qm q0 qo 12) x o∧k o=some r:=by
 obtain ⟨o,h1,h2⟩:=Z0 h
 exact ⟨qv x o,Zhl (st:=fun (x:tY)=>X1n x.1 x.2.1 x.2.2.2.1 x.2.2.2.2) (prj:=fun x=>x.2.2.1) (emb:=qx) (embO:=qv) (fun x=>(qy x).trans (by unfold X1n X1s;simp only [Zhd,Zh8,Zhe,Option.map_some,Option.map_none];rfl)) (fun _ _=>rfl) (fun _ _=>rfl) (fun _ _ _=>rfl) (fun _ _ _=>rfl) (fun _=>rfl) (Z1S.1 h1),by
  first
  | exact h2
  | (rcases o with o|o<;>exact h2)⟩
noncomputable def qB {R:Type}:Z27 S R:=LE.ls X qu qw qo
theorem qC {R:Type}:Z3J X (qB (R:=R)):=Zhq xok qn (e:=qu) q1 qp qA qp
theorem qD (x0:Int) (x1:Int) (x2:List Int):Zhs X qm [(.int .i64),(.int .i64),(.sl (.int .i64))] [.bool] q0 qB 12 117 (x0,x1,x2,())=X1m x0 x1 x2:=by kernel_rfl
noncomputable def qE:F7 S:=⟨[(.int .i64),(.int .i64),(.sl (.int .i64))],[.bool],fun xs=>X1m xs.1 xs.2.1 xs.2.2.1⟩
theorem qF:Z7Q X 117 qE:=Zho (Zhn xok qn q1 qC 12 117) fun xs _ h=>(qD xs.1 xs.2.1 xs.2.2.1).trans h
noncomputable def qG:List (Nat×F7 S):=[(117,qE)]
theorem qH:Z9n X (qG):=⟨qF,trivial⟩
abbrev qI {R:Type}:Z27 S R:=Zgi
theorem qJ {R:Type}:Z3J X (qI (R:=R)):=ZgQ X
def qK:Key:=⟨[129,2,1,115,2,1,93],129,none,[0,0,1,0,1],0,16⟩
def qL:StT S:=⟨(N (N (N (N L vO L) none L) (some (.fn (.func 116) [] [(.ptr 0 0)])) L) vL v1t),(N L ox L),16⟩
def qM:Way S:=⟨.ret,⟨v1u,(N (N L none (N (N L none (N L oj L)) none L)) ox (N L none (N o1v none L))),39⟩,[.int,(.st 2),.int,(.lst (.int .i64))]⟩
def qN:Way S:=⟨(.exit 0),⟨L,(N L ox L),17⟩,[.int]⟩
def qO:LE S:=⟨qK,qL,[.int,(.lst (.st 2)),.int,.int],[qM,qN]⟩
def qP (x:t18):((Int×Zu×(List Int))⊕Unit)→((Int×Zu×Int×(List Int))⊕Int):=Sum.elim (fun y0=>(.inl (y0.1,y0.2.1,x.2.2.2,y0.2.2))) (fun y1=>(.inr x.2.2.2))
noncomputable def qQ {R:Type} (x:t18) (k:((Int×Zu×Int×(List Int))⊕Int)→Option R):Option R:=(X4U x.1 x.2.1 x.2.2.2 x.2.2.1).bind (Sum.elim (fun y0=>k (.inl (y0.1,y0.2.1,x.2.2.2,y0.2.2))) (fun y1=>k (.inr x.2.2.2)))
def qR (x:t18) (v:Int):t18:=(x.1,x.2.1,v,x.2.2.2)
theorem qS (x:t18):LE.step X qO qG q0 qI 12 x=X1r x.1 x.2.1 x.2.2.2 x.2.2.1 (fun w0=>(Sum.inl (x.1,x.2.1,w0,x.2.2.2))) (fun p0 p1 p2=>(Sum.inr (.inl (p0,p1,x.2.2.2,p2)))) (Sum.inr (.inr x.2.2.2)):=by kernel_rfl
theorem qU {R:Type} (x:t18) (k:((Int×Zu×Int×(List Int))⊕Int)→Option R) (r:R) (h:qQ x k=some r):∃ o,Z5s (LE.step X qO qG q0 qI 12) x o∧k o=some r:=by
 obtain ⟨o,h1,h2⟩:=Z0 h
 exact ⟨qP x o,Zhl (st:=fun (x:t18)=>X1l x.1 x.2.1 x.2.2.2) (prj:=fun x=>x.2.2.1) (emb:=qR) (embO:=qP) (fun x=>(qS x).trans (by unfold X1l X1r;simp only [Zhd,Zh8,Zhe,Option.map_some,Option.map_none];rfl)) (fun _ _=>rfl) (fun _ _=>rfl) (fun _ _ _=>rfl) (fun _ _ _=>rfl) (fun _=>rfl) (Z1S.1 h1),by
  first
  | exact h2
  | (rcases o with o|o<;>exact h2)⟩
noncomputable def qV {R:Type}:Z27 S R:=LE.ls X qO qQ qI
theorem qW {R:Type}:Z3J X (qV (R:=R)):=Zhq xok qH (e:=qO) q1 qJ qU qJ
theorem qX (x0:Int) (x1:List Zu):Zhs X qG [(.int .i64),(.sl (.st 2))] [.bool] q0 qV 12 93 (x0,x1,())=X4d x0 x1:=by kernel_rfl
noncomputable def qY:F7 S:=⟨[(.int .i64),(.sl (.st 2))],[.bool],fun xs=>X4d xs.1 xs.2.1⟩
theorem qZ:Z7Q X 93 qY:=Zho (Zhn xok qH q1 qW 12 93) fun xs _ h=>(qX xs.1 xs.2.1).trans h
noncomputable def q10:List (Nat×F7 S):=[(117,qE)]
theorem q11:Z9n X (q10):=⟨qF,trivial⟩
abbrev q12 {R:Type}:Z27 S R:=Zgi
theorem q13 {R:Type}:Z3J X (q12 (R:=R)):=ZgQ X
def q14:Key:=⟨[94],94,none,[0,0,1,0,1,1,1],0,9⟩
def q15:StT S:=⟨(N (N (N L vO (N L vO L)) none L) none (N (N L none (N L vO L)) none (N (N L (some (.sl (.st 3) [])) L) none L))),o1v,9⟩
def q16:Way S:=⟨.ret,⟨(N L none (N L vO L)),(N (N (N L ou L) none L) none (N (N (N (N L ou L) none L) none (N L oe L)) none L)),26⟩,[.int,(.lst (.int .i64)),(.lst (.int .i64)),(.st 3)]⟩
def q17:Way S:=⟨.ret,⟨(N L none (N L vO L)),oZ,26⟩,[.int,(.lst (.int .i64)),(.lst (.int .i64)),(.lst (.int .i64)),(.st 3)]⟩
def q18:Way S:=⟨.ret,⟨(N L none (N L vO L)),oZ,31⟩,[.int,(.lst (.int .i64)),(.lst (.int .i64)),(.lst (.int .i64)),(.st 3)]⟩
def q19:Way S:=⟨(.exit 0),⟨L,o1v,10⟩,[(.lst (.int .i64))]⟩
def q1a:LE S:=⟨q14,q15,[.int,.int,.int,(.lst (.st 3)),(.lst (.int .i64))],[q16,q17,q18,q19]⟩
def q1b (x:tV):((Int×(List Int)×Zk)⊕(Int×(List Int)×(List Int)×Zk)⊕(Int×(List Int)×(List Int)×Zk)⊕Unit)→t9:=Sum.elim (fun y0=>(.inl (y0.1,x.2.2.2.2,y0.2.1,y0.2.2))) (Sum.elim (fun y1=>(.inr (.inl (y1.1,x.2.2.2.2,y1.2.1,y1.2.2.1,y1.2.2.2)))) (Sum.elim (fun y2=>(.inr (.inr (.inl (y2.1,x.2.2.2.2,y2.2.1,y2.2.2.1,y2.2.2.2))))) (fun y3=>(.inr (.inr (.inr x.2.2.2.2))))))
noncomputable def q1c {R:Type} (x:tV) (k:t9→Option R):Option R:=(X3Z x.2.1 x.2.2.2.1 x.2.2.2.2 (x.1,x.2.2.1)).bind (Sum.elim (fun y0=>k (.inl (y0.1,x.2.2.2.2,y0.2.1,y0.2.2))) (Sum.elim (fun y1=>k (.inr (.inl (y1.1,x.2.2.2.2,y1.2.1,y1.2.2.1,y1.2.2.2)))) (Sum.elim (fun y2=>k (.inr (.inr (.inl (y2.1,x.2.2.2.2,y2.2.1,y2.2.2.1,y2.2.2.2))))) (fun y3=>k (.inr (.inr (.inr x.2.2.2.2)))))))
def q1d (x:tV) (v:(Int×Int)):tV:=(v.1,x.2.1,v.2,x.2.2.2.1,x.2.2.2.2)
theorem q1e (x:tV):LE.step X q1a q10 q0 q12 12 x=W7 x.2.1 x.2.2.2.1 x.2.2.2.2 x.1 x.2.2.1 (fun w0 w1=>(Sum.inl (w0,x.2.1,w1,x.2.2.2.1,x.2.2.2.2))) (fun p0 p1 p2=>(Sum.inr (.inl (p0,x.2.2.2.2,p1,p2)))) (fun p0 p1 p2 p3=>(Sum.inr (.inr (.inl (p0,x.2.2.2.2,p1,p2,p3))))) (fun p0 p1 p2 p3=>(Sum.inr (.inr (.inr (.inl (p0,x.2.2.2.2,p1,p2,p3)))))) (Sum.inr (.inr (.inr (.inr x.2.2.2.2)))):=by kernel_rfl
theorem q1g {R:Type} (x:tV) (k:t9→Option R) (r:R) (h:q1c x k=some r):∃ o,Z5s (LE.step X q1a q10 q0 q12 12) x o∧k o=some r:=by
 obtain ⟨o,h1,h2⟩:=Z0 h
 exact ⟨q1b x o,Zhl (st:=fun (x:tV)=>XU x.2.1 x.2.2.2.1 x.2.2.2.2) (prj:=fun x=>(x.1,x.2.2.1)) (emb:=q1d) (embO:=q1b) (fun x=>(q1e x).trans (by unfold XU W7;simp only [Zhd,Zh8,Zhe,Option.map_some,Option.map_none];rfl)) (fun _ _=>rfl) (fun _ _=>rfl) (fun _ _ _=>rfl) (fun _ _ _=>rfl) (fun _=>rfl) (Z1S.1 h1),by
  first
  | exact h2
  | (rcases o with o|o|o|o<;>exact h2)⟩
noncomputable def q1h {R:Type}:Z27 S R:=LE.ls X q1a q1c q12
theorem q1i {R:Type}:Z3J X (q1h (R:=R)):=Zhq xok q11 (e:=q1a) q1 q13 q1g q13
theorem q1j (x0:List Zk):Zhs X q10 [(.sl (.st 3))] [(.int .i64)] q0 q1h 12 94 (x0,())=X36 x0:=by kernel_rfl
noncomputable def q1k:F7 S:=⟨[(.sl (.st 3))],[(.int .i64)],fun xs=>X36 xs.1⟩
theorem q1l:Z7Q X 94 q1k:=Zho (Zhn xok q11 q1 q1i 12 94) fun xs _ h=>(q1j xs.1).trans h
noncomputable def q1m:List (Nat×F7 S):=[(117,qE)]
theorem q1n:Z9n X (q1m):=⟨qF,trivial⟩
abbrev q1o {R:Type}:Z27 S R:=Zgi
theorem q1p {R:Type}:Z3J X (q1o (R:=R)):=ZgQ X
theorem q1q (x0:ZB) (x1:Int):Zhs X q1m [(.st 6),(.int .i64)] [(.int .i64)] q0 q1o 12 118 (x0,x1,())=X4T x0 x1:=by kernel_rfl
noncomputable def q1r:F7 S:=⟨[(.st 6),(.int .i64)],[(.int .i64)],fun xs=>X4T xs.1 xs.2.1⟩
theorem q1s:Z7Q X 118 q1r:=Zho (Zhn xok q1n q1 q1p 12 118) fun xs _ h=>(q1q xs.1 xs.2.1).trans h
noncomputable def q1t:List (Nat×F7 S):=[]
theorem q1u:Z9n X (q1t):=trivial
abbrev q1v {R:Type}:Z27 S R:=Zgi
theorem q1w {R:Type}:Z3J X (q1v (R:=R)):=ZgQ X
theorem q1x (x0:Zu) (x1:Zu):Zhs X q1t [(.st 2),(.st 2)] [(.st 2)] q0 q1v 12 121 (x0,x1,())=X74 x0 x1:=by kernel_rfl
noncomputable def q1y:F7 S:=⟨[(.st 2),(.st 2)],[(.st 2)],fun xs=>X74 xs.1 xs.2.1⟩
theorem q1z:Z7Q X 121 q1y:=Zho (Zhn xok q1u q1 q1w 12 121) fun xs _ h=>(q1x xs.1 xs.2.1).trans h
noncomputable def q1A:List (Nat×F7 S):=[]
theorem q1B:Z9n X (q1A):=trivial
abbrev q1C {R:Type}:Z27 S R:=Zgi
theorem q1D {R:Type}:Z3J X (q1C (R:=R)):=ZgQ X
theorem q1E (x0:Zu) (x1:Zu):Zhs X q1A [(.st 2),(.st 2)] [(.int .i64)] q0 q1C 12 120 (x0,x1,())=X75 x0 x1:=by kernel_rfl
noncomputable def q1F:F7 S:=⟨[(.st 2),(.st 2)],[(.int .i64)],fun xs=>X75 xs.1 xs.2.1⟩
theorem q1G:Z7Q X 120 q1F:=Zho (Zhn xok q1B q1 q1D 12 120) fun xs _ h=>(q1E xs.1 xs.2.1).trans h
noncomputable def q1H:List (Nat×F7 S):=[(117,qE),(93,qY),(118,q1r),(121,q1y),(120,q1F)]
theorem q1I:Z9n X (q1H):=⟨qF,qZ,q1s,q1z,q1G,trivial⟩
abbrev q1J {R:Type}:Z27 S R:=Zgi
theorem q1K {R:Type}:Z3J X (q1J (R:=R)):=ZgQ X
def q1L:Key:=⟨[27,6,4,131,1,95],95,(some 27),[0,0,1,0,1,0,1,0,1,0,1,1,1],3,66⟩
def q1M:StT S:=⟨(N (N L none (N v1t vO L)) none (N (N (N (N (N L vL L) none L) none L) (some (.ptr 58 0)) L) (some (.ptr 1 0)) (N v1t none L))),oR,66⟩
def q1N:Way S:=⟨(.exit 3),⟨(N (N L none (N L vO L)) none (N (N L (some (.ptr 58 0)) L) (some (.ptr 1 0)) L)),oR,67⟩,[.int,(.st 15),.bool,.int,.bool,(.st 15),.bool,.int,(.st 15),(.st 17)]⟩
def q1O:LE S:=⟨q1L,q1M,[.int,.int,(.lst (.st 2)),.int,(.st 15),.bool,.int,.bool,(.st 15),.bool,.int,(.st 15),(.st 17)],[q1N]⟩
def q1P (x:tk):Int→tu:=fun y0=>(y0,x.2.2.2.2.1,x.2.2.2.2.2.1,x.2.2.2.2.2.2.1,x.2.2.2.2.2.2.2.1,x.2.2.2.2.2.2.2.2.1,x.2.2.2.2.2.2.2.2.2.1,x.2.2.2.2.2.2.2.2.2.2.1,x.2.2.2.2.2.2.2.2.2.2.2.1,x.2.2.2.2.2.2.2.2.2.2.2.2)
noncomputable def q1Q {R:Type} (x:tk) (k:tu→Option R):Option R:=(Wj x.1 x.2.2.1 x.2.2.2.2.1 x.2.2.2.2.2.1 x.2.2.2.2.2.2.1 x.2.2.2.2.2.2.2.1 x.2.2.2.2.2.2.2.2.1 x.2.2.2.2.2.2.2.2.2.1 x.2.2.2.2.2.2.2.2.2.2.1 x.2.2.2.2.2.2.2.2.2.2.2.1 x.2.2.2.2.2.2.2.2.2.2.2.2 (x.2.1,x.2.2.2.1)).bind (fun y0=>k (y0,x.2.2.2.2.1,x.2.2.2.2.2.1,x.2.2.2.2.2.2.1,x.2.2.2.2.2.2.2.1,x.2.2.2.2.2.2.2.2.1,x.2.2.2.2.2.2.2.2.2.1,x.2.2.2.2.2.2.2.2.2.2.1,x.2.2.2.2.2.2.2.2.2.2.2.1,x.2.2.2.2.2.2.2.2.2.2.2.2))
def q1R (x:tk) (v:(Int×Int)):tk:=(x.1,v.1,x.2.2.1,v.2,x.2.2.2.2.1,x.2.2.2.2.2.1,x.2.2.2.2.2.2.1,x.2.2.2.2.2.2.2.1,x.2.2.2.2.2.2.2.2.1,x.2.2.2.2.2.2.2.2.2.1,x.2.2.2.2.2.2.2.2.2.2.1,x.2.2.2.2.2.2.2.2.2.2.2.1,x.2.2.2.2.2.2.2.2.2.2.2.2)
theorem q1S (x:tk):LE.step X q1O q1H q0 q1J 12 x=Xo x.1 x.2.2.1 x.2.2.2.2.1 x.2.2.2.2.2.1 x.2.2.2.2.2.2.1 x.2.2.2.2.2.2.2.1 x.2.2.2.2.2.2.2.2.1 x.2.2.2.2.2.2.2.2.2.1 x.2.2.2.2.2.2.2.2.2.2.1 x.2.2.2.2.2.2.2.2.2.2.2.1 x.2.2.2.2.2.2.2.2.2.2.2.2 x.2.1 x.2.2.2.1 (fun w0 w1=>(Sum.inl (x.1,w0,x.2.2.1,w1,x.2.2.2.2.1,x.2.2.2.2.2.1,x.2.2.2.2.2.2.1,x.2.2.2.2.2.2.2.1,x.2.2.2.2.2.2.2.2.1,x.2.2.2.2.2.2.2.2.2.1,x.2.2.2.2.2.2.2.2.2.2.1,x.2.2.2.2.2.2.2.2.2.2.2.1,x.2.2.2.2.2.2.2.2.2.2.2.2))) (fun p0=>(Sum.inr (p0,x.2.2.2.2.1,x.2.2.2.2.2.1,x.2.2.2.2.2.2.1,x.2.2.2.2.2.2.2.1,x.2.2.2.2.2.2.2.2.1,x.2.2.2.2.2.2.2.2.2.1,x.2.2.2.2.2.2.2.2.2.2.1,x.2.2.2.2.2.2.2.2.2.2.2.1,x.2.2.2.2.2.2.2.2.2.2.2.2))):=by kernel_rfl
theorem q1U {R:Type} (x:tk) (k:tu→Option R) (r:R) (h:q1Q x k=some r):∃ o,Z5s (LE.step X q1O q1H q0 q1J 12) x o∧k o=some r:=by
 obtain ⟨o,h1,h2⟩:=Z0 h
 exact ⟨q1P x o,Zhl (st:=fun (x:tk)=>Xg x.1 x.2.2.1 x.2.2.2.2.1 x.2.2.2.2.2.1 x.2.2.2.2.2.2.1 x.2.2.2.2.2.2.2.1 x.2.2.2.2.2.2.2.2.1 x.2.2.2.2.2.2.2.2.2.1 x.2.2.2.2.2.2.2.2.2.2.1 x.2.2.2.2.2.2.2.2.2.2.2.1 x.2.2.2.2.2.2.2.2.2.2.2.2) (prj:=fun x=>(x.2.1,x.2.2.2.1)) (emb:=q1R) (embO:=q1P) (fun x=>(q1S x).trans (by unfold Xg Xo;simp only [Zhd,Zh8,Zhe,Option.map_some,Option.map_none];rfl)) (fun _ _=>rfl) (fun _ _=>rfl) (fun _ _ _=>rfl) (fun _ _ _=>rfl) (fun _=>rfl) (Z1S.1 h1),by
  first
  | exact h2
  | (rcases o with o<;>exact h2)⟩
noncomputable def q1V {R:Type}:Z27 S R:=LE.ls X q1O q1Q q1J
theorem q1W {R:Type}:Z3J X (q1V (R:=R)):=Zhq xok q1I (e:=q1O) q1 q1K q1U q1K
def q1X:Key:=⟨[131,1,95],131,none,[0,0,1,1],0,45⟩
def q1Y:StT S:=⟨(N (N (N L (some (.ptr 38 0)) (N (N L vO L) none L)) none L) (some (.yld 27)) (N v1u none (N (N (N L vL L) none L) none L))),oS,45⟩
def q1Z:Way S:=⟨.ret,⟨L,(N (N (N (N L none (N L o8 L)) none (N L none (N L (some (.loop 95 (N (N (N (N (N L vN L) none L) vO L) (some (.ptr 0 0)) (N (N L none (N L vN L)) none L)) vp (N (N (N L vN L) none (N L none (N L vf L))) (some (.ptr 1 0)) L)) (29::[]) .skip .skip 1 .ret (1::(95::[])) (0::(1::(0::(1::(1::(1::[])))))))) L))) ov L) o8 (N (N (N (N L none (N L oj L)) none L) none L) none (N (N L none (N L none (N L o9 L))) ou o1w))),76⟩,[(.st 15),.bool,.int,.bool,(.st 15),.bool,.int,(.st 15),(.st 2),(.st 17),(.lst (.int .i64)),(.st 2)]⟩
def q20:Way S:=⟨(.exit 0),⟨L,oS,46⟩,[(.st 15),.bool,.int,.bool,(.st 15),.bool,.int,(.st 15),(.lst (.int .i64)),(.st 2)]⟩
def q21:LE S:=⟨q1X,q1Y,[.int,.int,(.lst (.st 2)),(.st 15),.bool,.int,.bool,(.st 15),.bool,.int,(.st 15),(.lst (.int .i64)),(.st 2)],[q1Z,q20]⟩
def q22 (x:tj):((Int×Zu×Z6×Zu)⊕Zu)→t6:=Sum.elim (fun y0=>(.inl (x.2.2.2.1,x.2.2.2.2.1,x.2.2.2.2.2.1,x.2.2.2.2.2.2.1,x.2.2.2.2.2.2.2.1,x.2.2.2.2.2.2.2.2.1,y0.1,x.2.2.2.2.2.2.2.2.2.2.1,y0.2.1,y0.2.2.1,x.2.2.2.2.2.2.2.2.2.2.2.1,y0.2.2.2))) (fun y1=>(.inr (x.2.2.2.1,x.2.2.2.2.1,x.2.2.2.2.2.1,x.2.2.2.2.2.2.1,x.2.2.2.2.2.2.2.1,x.2.2.2.2.2.2.2.2.1,x.2.2.2.2.2.2.2.2.2.1,x.2.2.2.2.2.2.2.2.2.2.1,x.2.2.2.2.2.2.2.2.2.2.2.1,y1)))
noncomputable def q23 {R:Type} (x:tj) (k:t6→Option R):Option R:=(X31 x.1 x.2.2.1 x.2.2.2.1 x.2.2.2.2.1 x.2.2.2.2.2.1 x.2.2.2.2.2.2.1 x.2.2.2.2.2.2.2.1 x.2.2.2.2.2.2.2.2.1 x.2.2.2.2.2.2.2.2.2.1 x.2.2.2.2.2.2.2.2.2.2.1 x.2.2.2.2.2.2.2.2.2.2.2.1 (x.2.1,x.2.2.2.2.2.2.2.2.2.2.2.2)).bind (Sum.elim (fun y0=>k (.inl (x.2.2.2.1,x.2.2.2.2.1,x.2.2.2.2.2.1,x.2.2.2.2.2.2.1,x.2.2.2.2.2.2.2.1,x.2.2.2.2.2.2.2.2.1,y0.1,x.2.2.2.2.2.2.2.2.2.2.1,y0.2.1,y0.2.2.1,x.2.2.2.2.2.2.2.2.2.2.2.1,y0.2.2.2))) (fun y1=>k (.inr (x.2.2.2.1,x.2.2.2.2.1,x.2.2.2.2.2.1,x.2.2.2.2.2.2.1,x.2.2.2.2.2.2.2.1,x.2.2.2.2.2.2.2.2.1,x.2.2.2.2.2.2.2.2.2.1,x.2.2.2.2.2.2.2.2.2.2.1,x.2.2.2.2.2.2.2.2.2.2.2.1,y1))))
def q24 (x:tj) (v:(Int×Zu)):tj:=(x.1,v.1,x.2.2.1,x.2.2.2.1,x.2.2.2.2.1,x.2.2.2.2.2.1,x.2.2.2.2.2.2.1,x.2.2.2.2.2.2.2.1,x.2.2.2.2.2.2.2.2.1,x.2.2.2.2.2.2.2.2.2.1,x.2.2.2.2.2.2.2.2.2.2.1,x.2.2.2.2.2.2.2.2.2.2.2.1,v.2)
theorem q25 (x:tj):LE.step X q21 q1H q0 q1V 12 x=Xn x.1 x.2.2.1 x.2.2.2.1 x.2.2.2.2.1 x.2.2.2.2.2.1 x.2.2.2.2.2.2.1 x.2.2.2.2.2.2.2.1 x.2.2.2.2.2.2.2.2.1 x.2.2.2.2.2.2.2.2.2.1 x.2.2.2.2.2.2.2.2.2.2.1 x.2.2.2.2.2.2.2.2.2.2.2.1 x.2.1 x.2.2.2.2.2.2.2.2.2.2.2.2 (fun w0 w1=>(Sum.inl (x.1,w0,x.2.2.1,x.2.2.2.1,x.2.2.2.2.1,x.2.2.2.2.2.1,x.2.2.2.2.2.2.1,x.2.2.2.2.2.2.2.1,x.2.2.2.2.2.2.2.2.1,x.2.2.2.2.2.2.2.2.2.1,x.2.2.2.2.2.2.2.2.2.2.1,x.2.2.2.2.2.2.2.2.2.2.2.1,w1))) (fun p0 p1 p2 p3=>(Sum.inr (.inl (x.2.2.2.1,x.2.2.2.2.1,x.2.2.2.2.2.1,x.2.2.2.2.2.2.1,x.2.2.2.2.2.2.2.1,x.2.2.2.2.2.2.2.2.1,p0,x.2.2.2.2.2.2.2.2.2.2.1,p1,p2,x.2.2.2.2.2.2.2.2.2.2.2.1,p3)))) (fun p0=>(Sum.inr (.inr (x.2.2.2.1,x.2.2.2.2.1,x.2.2.2.2.2.1,x.2.2.2.2.2.2.1,x.2.2.2.2.2.2.2.1,x.2.2.2.2.2.2.2.2.1,x.2.2.2.2.2.2.2.2.2.1,x.2.2.2.2.2.2.2.2.2.2.1,x.2.2.2.2.2.2.2.2.2.2.2.1,p0)))):=by kernel_rfl
theorem q27 {R:Type} (x:tj) (k:t6→Option R) (r:R) (h:q23 x k=some r):∃ o,Z5s (LE.step X q21 q1H q0 q1V 12) x o∧k o=some r:=by
 obtain ⟨o,h1,h2⟩:=Z0 h
 exact ⟨q22 x o,Zhl (st:=fun (x:tj)=>Xf x.1 x.2.2.1 x.2.2.2.1 x.2.2.2.2.1 x.2.2.2.2.2.1 x.2.2.2.2.2.2.1 x.2.2.2.2.2.2.2.1 x.2.2.2.2.2.2.2.2.1 x.2.2.2.2.2.2.2.2.2.1 x.2.2.2.2.2.2.2.2.2.2.1 x.2.2.2.2.2.2.2.2.2.2.2.1) (prj:=fun x=>(x.2.1,x.2.2.2.2.2.2.2.2.2.2.2.2)) (emb:=q24) (embO:=q22) (fun x=>(q25 x).trans (by unfold Xf Xn;simp only [Zhd,Zh8,Zhe,Option.map_some,Option.map_none];rfl)) (fun _ _=>rfl) (fun _ _=>rfl) (fun _ _ _=>rfl) (fun _ _ _=>rfl) (fun _=>rfl) (Z1S.1 h1),by
  first
  | exact h2
  | (rcases o with o|o<;>exact h2)⟩
noncomputable def q28 {R:Type}:Z27 S R:=LE.ls X q21 q23 q1V
theorem q29 {R:Type}:Z3J X (q28 (R:=R)):=Zhq xok q1I (e:=q21) q1 q1W q27 q1W
theorem q2a (x0:Z8):Zhs X q1H [(.st 15)] [(.int .i64)] q0 q28 12 95 (x0,())=X1I x0:=by kernel_rfl
noncomputable def q2b:F7 S:=⟨[(.st 15)],[(.int .i64)],fun xs=>X1I xs.1⟩
theorem q2c:Z7Q X 95 q2b:=Zho (Zhn xok q1I q1 q29 12 95) fun xs _ h=>(q2a xs.1).trans h
noncomputable def q2d:List (Nat×F7 S):=[(92,qk),(93,qY),(94,q1k),(95,q2b)]
theorem q2e:Z9n X (q2d):=⟨ql,qZ,q1l,q2c,trivial⟩
abbrev q2f {R:Type}:Z27 S R:=Zgi
theorem q2g {R:Type}:Z3J X (q2f (R:=R)):=ZgQ X
def q2h:Key:=⟨[61],61,none,[0,0,1,0,1,1,1,1],0,17⟩
def q2i:StT S:=⟨(N (N v1u (some (.ptr 0 0)) L) none (N v1u none (N (N (N L (some (.sl (.st 4) [])) L) none L) vn L))),o1m,17⟩
def q2j:Way S:=⟨.ret,⟨v1n,o1b,57⟩,[.int,.int,.int,(.st 4),(.st 8),(.mp .str (.int .i64))]⟩
def q2k:Way S:=⟨.ret,⟨v1n,o1b,62⟩,[.int,.int,.int,(.st 4),(.st 8),(.mp .str (.int .i64))]⟩
def q2l:Way S:=⟨.ret,⟨v1n,o11,63⟩,[.int,.int,.int,(.st 4),(.st 8),(.mp .str (.int .i64)),(.lst (.st 2))]⟩
def q2m:Way S:=⟨.ret,⟨v1n,o11,66⟩,[.int,.int,.int,(.st 4),(.st 8),(.mp .str (.int .i64)),(.lst (.st 2))]⟩
def q2n:Way S:=⟨(.exit 0),⟨(N (N L (some (.ptr 0 0)) L) none (N L none (N L vn L))),o1m,18⟩,[(.st 8),(.mp .str (.int .i64))]⟩
def q2o:LE S:=⟨q2h,q2i,[.int,.int,(.lst (.st 4)),(.st 8),(.mp .str (.int .i64))],[q2j,q2k,q2l,q2m,q2n]⟩
def q2p (x:tK):((Int×Int×Int×Zw×t1g)⊕(Int×Int×Int×Zw×t1g)⊕(Int×Int×Int×Zw×t1g×(List Zu))⊕(Int×Int×Int×Zw×t1g×(List Zu))⊕t1g)→t0:=Sum.elim (fun y0=>(.inl (y0.1,y0.2.1,y0.2.2.1,y0.2.2.2.1,x.2.2.2.1,y0.2.2.2.2))) (Sum.elim (fun y1=>(.inr (.inl (y1.1,y1.2.1,y1.2.2.1,y1.2.2.2.1,x.2.2.2.1,y1.2.2.2.2)))) (Sum.elim (fun y2=>(.inr (.inr (.inl (y2.1,y2.2.1,y2.2.2.1,y2.2.2.2.1,x.2.2.2.1,y2.2.2.2.2.1,y2.2.2.2.2.2))))) (Sum.elim (fun y3=>(.inr (.inr (.inr (.inl (y3.1,y3.2.1,y3.2.2.1,y3.2.2.2.1,x.2.2.2.1,y3.2.2.2.2.1,y3.2.2.2.2.2)))))) (fun y4=>(.inr (.inr (.inr (.inr (x.2.2.2.1,y4)))))))))
noncomputable def q2q {R:Type} (x:tK) (k:t0→Option R):Option R:=(X4f x.1 x.2.2.1 x.2.2.2.1 (x.2.1,x.2.2.2.2)).bind (Sum.elim (fun y0=>k (.inl (y0.1,y0.2.1,y0.2.2.1,y0.2.2.2.1,x.2.2.2.1,y0.2.2.2.2))) (Sum.elim (fun y1=>k (.inr (.inl (y1.1,y1.2.1,y1.2.2.1,y1.2.2.2.1,x.2.2.2.1,y1.2.2.2.2)))) (Sum.elim (fun y2=>k (.inr (.inr (.inl (y2.1,y2.2.1,y2.2.2.1,y2.2.2.2.1,x.2.2.2.1,y2.2.2.2.2.1,y2.2.2.2.2.2))))) (Sum.elim (fun y3=>k (.inr (.inr (.inr (.inl (y3.1,y3.2.1,y3.2.2.1,y3.2.2.2.1,x.2.2.2.1,y3.2.2.2.2.1,y3.2.2.2.2.2)))))) (fun y4=>k (.inr (.inr (.inr (.inr (x.2.2.2.1,y4))))))))))
def q2r (x:tK) (v:(Int×t1g)):tK:=(x.1,v.1,x.2.2.1,x.2.2.2.1,v.2)
theorem q2s (x:tK):LE.step X q2o q2d q0 q2f 12 x=WC x.1 x.2.2.1 x.2.2.2.1 x.2.1 x.2.2.2.2 (fun w0 w1=>(Sum.inl (x.1,w0,x.2.2.1,x.2.2.2.1,w1))) (fun p0 p1 p2 p3 p4=>(Sum.inr (.inl (p0,p1,p2,p3,x.2.2.2.1,p4)))) (fun p0 p1 p2 p3 p4=>(Sum.inr (.inr (.inl (p0,p1,p2,p3,x.2.2.2.1,p4))))) (fun p0 p1 p2 p3 p4 p5=>(Sum.inr (.inr (.inr (.inl (p0,p1,p2,p3,x.2.2.2.1,p4,p5)))))) (fun p0 p1 p2 p3 p4 p5=>(Sum.inr (.inr (.inr (.inr (.inl (p0,p1,p2,p3,x.2.2.2.1,p4,p5))))))) (fun p0=>(Sum.inr (.inr (.inr (.inr (.inr (x.2.2.2.1,p0))))))):=by kernel_rfl
theorem q2u {R:Type} (x:tK) (k:t0→Option R) (r:R) (h:q2q x k=some r):∃ o,Z5s (LE.step X q2o q2d q0 q2f 12) x o∧k o=some r:=by
 obtain ⟨o,h1,h2⟩:=Z0 h
 exact ⟨q2p x o,Zhl (st:=fun (x:tK)=>Wh x.1 x.2.2.1 x.2.2.2.1) (prj:=fun x=>(x.2.1,x.2.2.2.2)) (emb:=q2r) (embO:=q2p) (fun x=>(q2s x).trans (by unfold Wh WC;simp only [Zhd,Zh8,Zhe,Option.map_some,Option.map_none];rfl)) (fun _ _=>rfl) (fun _ _=>rfl) (fun _ _ _=>rfl) (fun _ _ _=>rfl) (fun _=>rfl) (Z1S.1 h1),by
  first
  | exact h2
  | (rcases o with o|o|o|o|o<;>exact h2)⟩
noncomputable def q2v {R:Type}:Z27 S R:=LE.ls X q2o q2q q2f
theorem q2w {R:Type}:Z3J X (q2v (R:=R)):=Zhq xok q2e (e:=q2o) q1 q2g q2u q2g
def q2x:Key:=⟨[61],61,none,[0,0,1,0,1,1,1,1,1,1],2,26⟩
def q2y:StT S:=⟨(N (N L none (N L none v1x)) none (N (N L none (N (N L none (N L (some (.sl (.st 7) [])) L)) none L)) none (N L vn v1x))),o1m,26⟩
def q2z:Way S:=⟨.ret,⟨v1n,o1a,58⟩,[.int,.int,.int,(.st 8),(.mp .str (.int .i64)),(.st 7)]⟩
def q2A:Way S:=⟨.ret,⟨v1n,o1a,63⟩,[.int,.int,.int,(.st 8),(.mp .str (.int .i64)),(.st 7)]⟩
def q2B:Way S:=⟨.ret,⟨v1n,o1a,67⟩,[.int,.int,.int,(.st 8),(.mp .str (.int .i64)),(.st 7)]⟩
def q2C:Way S:=⟨(.exit 2),⟨L,o1m,27⟩,[(.st 8),(.mp .str (.int .i64))]⟩
def q2D:LE S:=⟨q2x,q2y,[.int,(.lst (.st 7)),.int,(.st 8),(.mp .str (.int .i64))],[q2z,q2A,q2B,q2C]⟩
def q2E (x:tL):(tR⊕tR⊕tR⊕t1g)→t4:=Sum.elim (fun y0=>(.inl (y0.1,y0.2.1,y0.2.2.1,x.2.2.2.1,y0.2.2.2.1,y0.2.2.2.2))) (Sum.elim (fun y1=>(.inr (.inl (y1.1,y1.2.1,y1.2.2.1,x.2.2.2.1,y1.2.2.2.1,y1.2.2.2.2)))) (Sum.elim (fun y2=>(.inr (.inr (.inl (y2.1,y2.2.1,y2.2.2.1,x.2.2.2.1,y2.2.2.2.1,y2.2.2.2.2))))) (fun y3=>(.inr (.inr (.inr (x.2.2.2.1,y3)))))))
noncomputable def q2F {R:Type} (x:tL) (k:t4→Option R):Option R:=(X1X x.1 x.2.1 x.2.2.2.1 (x.2.2.1,x.2.2.2.2)).bind (Sum.elim (fun y0=>k (.inl (y0.1,y0.2.1,y0.2.2.1,x.2.2.2.1,y0.2.2.2.1,y0.2.2.2.2))) (Sum.elim (fun y1=>k (.inr (.inl (y1.1,y1.2.1,y1.2.2.1,x.2.2.2.1,y1.2.2.2.1,y1.2.2.2.2)))) (Sum.elim (fun y2=>k (.inr (.inr (.inl (y2.1,y2.2.1,y2.2.2.1,x.2.2.2.1,y2.2.2.2.1,y2.2.2.2.2))))) (fun y3=>k (.inr (.inr (.inr (x.2.2.2.1,y3))))))))
def q2G (x:tL) (v:(Int×t1g)):tL:=(x.1,x.2.1,v.1,x.2.2.2.1,v.2)
theorem q2H (x:tL):LE.step X q2D q2d q0 q2v 12 x=WD x.1 x.2.1 x.2.2.2.1 x.2.2.1 x.2.2.2.2 (fun w0 w1=>(Sum.inl (x.1,x.2.1,w0,x.2.2.2.1,w1))) (fun p0 p1 p2 p3 p4=>(Sum.inr (.inl (p0,p1,p2,x.2.2.2.1,p3,p4)))) (fun p0 p1 p2 p3 p4=>(Sum.inr (.inr (.inl (p0,p1,p2,x.2.2.2.1,p3,p4))))) (fun p0 p1 p2 p3 p4=>(Sum.inr (.inr (.inr (.inl (p0,p1,p2,x.2.2.2.1,p3,p4)))))) (fun p0=>(Sum.inr (.inr (.inr (.inr (x.2.2.2.1,p0)))))):=by kernel_rfl
theorem q2J {R:Type} (x:tL) (k:t4→Option R) (r:R) (h:q2F x k=some r):∃ o,Z5s (LE.step X q2D q2d q0 q2v 12) x o∧k o=some r:=by
 obtain ⟨o,h1,h2⟩:=Z0 h
 exact ⟨q2E x o,Zhl (st:=fun (x:tL)=>Wi x.1 x.2.1 x.2.2.2.1) (prj:=fun x=>(x.2.2.1,x.2.2.2.2)) (emb:=q2G) (embO:=q2E) (fun x=>(q2H x).trans (by unfold Wi WD;simp only [Zhd,Zh8,Zhe,Option.map_some,Option.map_none];rfl)) (fun _ _=>rfl) (fun _ _=>rfl) (fun _ _ _=>rfl) (fun _ _ _=>rfl) (fun _=>rfl) (Z1S.1 h1),by
  first
  | exact h2
  | (rcases o with o|o|o|o<;>exact h2)⟩
noncomputable def q2K {R:Type}:Z27 S R:=LE.ls X q2D q2F q2v
theorem q2L {R:Type}:Z3J X (q2K (R:=R)):=Zhq xok q2e (e:=q2D) q1 q2w q2J q2w
theorem q2M (x0:Zl):Zhs X q2d [(.st 8)] [(.int .i64),(.int .i64),(.int .i64)] q0 q2K 12 61 (x0,())=X30 x0:=by kernel_rfl
noncomputable def q2N:F7 S:=⟨[(.st 8)],[(.int .i64),(.int .i64),(.int .i64)],fun xs=>X30 xs.1⟩
theorem q2O:Z7Q X 61 q2N:=Zho (Zhn xok q2e q1 q2L 12 61) fun xs _ h=>(q2M xs.1).trans h
noncomputable def q2P:List (Nat×F7 S):=[]
theorem q2Q:Z9n X (q2P):=trivial
abbrev q2R {R:Type}:Z27 S R:=Zgi
theorem q2S {R:Type}:Z3J X (q2R (R:=R)):=ZgQ X
def q2T:Key:=⟨[114,2,1,89,2,1,57],114,none,[0,0,1,0,1],0,17⟩
def q2U:StT S:=⟨(N (N (N (N L vO L) none L) (some (.fn (.func 90) [] [(.ptr 0 0),(.ptr 1 0)])) L) (some (.sl (.int .i64) [])) v1t),(N (N L ox L) ox L),17⟩
def q2V:Way S:=⟨.ret,⟨v1u,(N (N L ox L) ox L),38⟩,[.int,.int,.int]⟩
def q2W:Way S:=⟨(.exit 0),⟨L,(N (N L ox L) ox L),18⟩,[.int,.int]⟩
def q2X:LE S:=⟨q2T,q2U,[.int,(.lst (.int .i64)),.int,.int,.int],[q2V,q2W]⟩
def q2Y (x:tY):(Int⊕Unit)→t17:=Sum.elim (fun y0=>(.inl (y0,x.2.2.2.1,x.2.2.2.2))) (fun y1=>(.inr (x.2.2.2.1,x.2.2.2.2)))
noncomputable def q2Z {R:Type} (x:tY) (k:t17→Option R):Option R:=(X4m x.1 x.2.1 x.2.2.2.1 x.2.2.2.2 x.2.2.1).bind (Sum.elim (fun y0=>k (.inl (y0,x.2.2.2.1,x.2.2.2.2))) (fun y1=>k (.inr (x.2.2.2.1,x.2.2.2.2))))
def q30 (x:tY) (v:Int):tY:=(x.1,x.2.1,v,x.2.2.2.1,x.2.2.2.2)
theorem q31 (x:tY):LE.step X q2X q2P q0 q2R 12 x=WI x.1 x.2.1 x.2.2.2.1 x.2.2.2.2 x.2.2.1 (fun w0=>(Sum.inl (x.1,x.2.1,w0,x.2.2.2.1,x.2.2.2.2))) (fun p0=>(Sum.inr (.inl (p0,x.2.2.2.1,x.2.2.2.2)))) (Sum.inr (.inr (x.2.2.2.1,x.2.2.2.2))):=by kernel_rfl
theorem q33 {R:Type} (x:tY) (k:t17→Option R) (r:R) (h:q2Z x k=some r):∃ o,Z5s (LE.step X q2X q2P q0 q2R 12) x o∧k o=some r:=by
 obtain ⟨o,h1,h2⟩:=Z0 h
 exact ⟨q2Y x o,Zhl (st:=fun (x:tY)=>Wq x.1 x.2.1 x.2.2.2.1 x.2.2.2.2) (prj:=fun x=>x.2.2.1) (emb:=q30) (embO:=q2Y) (fun x=>(q31 x).trans (by unfold Wq WI;simp only [Zhd,Zh8,Zhe,Option.map_some,Option.map_none];rfl)) (fun _ _=>rfl) (fun _ _=>rfl) (fun _ _ _=>rfl) (fun _ _ _=>rfl) (fun _=>rfl) (Z1S.1 h1),by
  first
  | exact h2
  | (rcases o with o|o<;>exact h2)⟩
noncomputable def q34 {R:Type}:Z27 S R:=LE.ls X q2X q2Z q2R
theorem q35 {R:Type}:Z3J X (q34 (R:=R)):=Zhq xok q2Q (e:=q2X) q1 q2S q33 q2S
theorem q36 (x0:Int) (x1:Int) (x2:List Int):Zhs X q2P [(.int .i64),(.int .i64),(.sl (.int .i64))] [.bool] q0 q34 12 57 (x0,x1,x2,())=X28 x0 x1 x2:=by kernel_rfl
noncomputable def q37:F7 S:=⟨[(.int .i64),(.int .i64),(.sl (.int .i64))],[.bool],fun xs=>X2 xs.1 xs.2.1 xs.2.2.1⟩
theorem q38:Z7Q X 57 q37:=Zho (Zhn xok q2Q q1 q35 12 57) fun xs _ h=>((q36 xs.1 xs.2.1 xs.2.2.1).trans (X5L xs.1 xs.2.1 xs.2.2.1).symm).trans h
noncomputable def q39:List (Nat×F7 S):=[(92,qk),(57,q37)]
theorem q3a:Z9n X (q39):=⟨ql,q38,trivial⟩
abbrev q3b {R:Type}:Z27 S R:=Zgi
theorem q3c {R:Type}:Z3J X (q3b (R:=R)):=ZgQ X
def q3d:Key:=⟨[122,2,1,96,2,6,64],122,none,[0,0,1,0,1],0,25⟩
def q3e:StT S:=⟨v12,(N L ob L),25⟩
def q3f:Way S:=⟨.ret,⟨v1u,(N L ob o1i),44⟩,[.int,(.st 18),(.st 18)]⟩
def q3g:Way S:=⟨(.exit 0),⟨L,(N L ob L),26⟩,[(.st 18)]⟩
def q3h:LE S:=⟨q3d,q3e,[.int,(.lst (.st 18)),.int,(.st 18)],[q3f,q3g]⟩
def q3i (x:tU):((Int×Z5)⊕Unit)→tS:=Sum.elim (fun y0=>(.inl (y0.1,x.2.2.2,y0.2))) (fun y1=>(.inr x.2.2.2))
noncomputable def q3j {R:Type} (x:tU) (k:tS→Option R):Option R:=(X2c x.1 x.2.1 x.2.2.2 x.2.2.1).bind (Sum.elim (fun y0=>k (.inl (y0.1,x.2.2.2,y0.2))) (fun y1=>k (.inr x.2.2.2)))
def q3k (x:tU) (v:Int):tU:=(x.1,x.2.1,v,x.2.2.2)
theorem q3l (x:tU):LE.step X q3h q39 q0 q3b 12 x=XE x.1 x.2.1 x.2.2.2 x.2.2.1 (fun w0=>(Sum.inl (x.1,x.2.1,w0,x.2.2.2))) (fun p0 p1=>(Sum.inr (.inl (p0,x.2.2.2,p1)))) (Sum.inr (.inr x.2.2.2)):=by kernel_rfl
theorem q3n {R:Type} (x:tU) (k:tS→Option R) (r:R) (h:q3j x k=some r):∃ o,Z5s (LE.step X q3h q39 q0 q3b 12) x o∧k o=some r:=by
 obtain ⟨o,h1,h2⟩:=Z0 h
 exact ⟨q3i x o,Zhl (st:=fun (x:tU)=>Xz x.1 x.2.1 x.2.2.2) (prj:=fun x=>x.2.2.1) (emb:=q3k) (embO:=q3i) (fun x=>(q3l x).trans (by unfold Xz XE;simp only [Zhd,Zh8,Zhe,Option.map_some,Option.map_none];rfl)) (fun _ _=>rfl) (fun _ _=>rfl) (fun _ _ _=>rfl) (fun _ _ _=>rfl) (fun _=>rfl) (Z1S.1 h1),by
  first
  | exact h2
  | (rcases o with o|o<;>exact h2)⟩
noncomputable def q3o {R:Type}:Z27 S R:=LE.ls X q3h q3j q3b
theorem q3p {R:Type}:Z3J X (q3o (R:=R)):=Zhq xok q3a (e:=q3h) q1 q3c q3n q3c
def q3q:Key:=⟨[122,2,1,96,2,6,64],122,none,[0,0,1,0,1],0,24⟩
def q3r:StT S:=⟨v12,(N L ob L),24⟩
def q3s:Way S:=⟨.ret,⟨v1u,(N o1i ob L),43⟩,[.int,(.st 18),(.st 18)]⟩
def q3t:Way S:=⟨(.exit 0),⟨L,(N L ob L),25⟩,[(.st 18)]⟩
def q3u:LE S:=⟨q3q,q3r,[.int,(.lst (.st 18)),.int,(.st 18)],[q3s,q3t]⟩
def q3v (x:tU):((Int×Z5)⊕Unit)→tS:=Sum.elim (fun y0=>(.inl (y0.1,y0.2,x.2.2.2))) (fun y1=>(.inr x.2.2.2))
noncomputable def q3w {R:Type} (x:tU) (k:tS→Option R):Option R:=(X2d x.1 x.2.1 x.2.2.2 x.2.2.1).bind (Sum.elim (fun y0=>k (.inl (y0.1,y0.2,x.2.2.2))) (fun y1=>k (.inr x.2.2.2)))
def q3x (x:tU) (v:Int):tU:=(x.1,x.2.1,v,x.2.2.2)
theorem q3y (x:tU):LE.step X q3u q39 q0 q3o 12 x=XF x.1 x.2.1 x.2.2.2 x.2.2.1 (fun w0=>(Sum.inl (x.1,x.2.1,w0,x.2.2.2))) (fun p0 p1=>(Sum.inr (.inl (p0,p1,x.2.2.2)))) (Sum.inr (.inr x.2.2.2)):=by kernel_rfl
theorem q3A {R:Type} (x:tU) (k:tS→Option R) (r:R) (h:q3w x k=some r):∃ o,Z5s (LE.step X q3u q39 q0 q3o 12) x o∧k o=some r:=by
 obtain ⟨o,h1,h2⟩:=Z0 h
 exact ⟨q3v x o,Zhl (st:=fun (x:tU)=>XA x.1 x.2.1 x.2.2.2) (prj:=fun x=>x.2.2.1) (emb:=q3x) (embO:=q3v) (fun x=>(q3y x).trans (by unfold XA XF;simp only [Zhd,Zh8,Zhe,Option.map_some,Option.map_none];rfl)) (fun _ _=>rfl) (fun _ _=>rfl) (fun _ _ _=>rfl) (fun _ _ _=>rfl) (fun _=>rfl) (Z1S.1 h1),by
  first
  | exact h2
  | (rcases o with o|o<;>exact h2)⟩
noncomputable def q3B {R:Type}:Z27 S R:=LE.ls X q3u q3w q3o
theorem q3C {R:Type}:Z3J X (q3B (R:=R)):=Zhq xok q3a (e:=q3u) q1 q3p q3A q3p
theorem q3D (x0:Z5) (x1:List Z5):Zhs X q39 [(.st 18),(.sl (.st 18))] [(.int .i64)] q0 q3B 12 64 (x0,x1,())=X16 x0 x1:=by kernel_rfl
noncomputable def q3E:F7 S:=⟨[(.st 18),(.sl (.st 18))],[(.int .i64)],fun xs=>X3l xs.1 xs.2.1⟩
theorem q3F:Z7Q X 64 q3E:=Zho (Zhn xok q3a q1 q3C 12 64) fun xs _ h=>((q3D xs.1 xs.2.1).trans (X4C xs.1 xs.2.1).symm).trans h
noncomputable def q3G:List (Nat×F7 S):=[(57,q37)]
theorem q3H:Z9n X (q3G):=⟨q38,trivial⟩
abbrev q3I {R:Type}:Z27 S R:=Zgi
theorem q3J {R:Type}:Z3J X (q3I (R:=R)):=ZgQ X
theorem q3K (x0:Zt):Zhs X q3G [(.st 19)] [(.int .i64)] q0 q3I 12 67 (x0,())=X38 x0:=by kernel_rfl
noncomputable def q3L:F7 S:=⟨[(.st 19)],[(.int .i64)],fun xs=>X6t xs.1⟩
theorem q3M:Z7Q X 67 q3L:=Zho (Zhn xok q3H q1 q3J 12 67) fun xs _ h=>((q3K xs.1).trans (X6I xs.1).symm).trans h
noncomputable def q3N:List (Nat×F7 S):=[(67,q3L)]
theorem q3O:Z9n X (q3N):=⟨q3M,trivial⟩
abbrev q3P {R:Type}:Z27 S R:=Zgi
theorem q3Q {R:Type}:Z3J X (q3P (R:=R)):=ZgQ X
theorem q3R (x0:Int) (x1:Zt):Zhs X q3N [(.int .i64),(.st 19)] [(.int .i64)] q0 q3P 12 66 (x0,x1,())=X26 x0 x1:=by kernel_rfl
noncomputable def q3S:F7 S:=⟨[(.int .i64),(.st 19)],[(.int .i64)],fun xs=>X3K xs.1 xs.2.1⟩
theorem q3T:Z7Q X 66 q3S:=Zho (Zhn xok q3O q1 q3Q 12 66) fun xs _ h=>((q3R xs.1 xs.2.1).trans (X5F xs.1 xs.2.1).symm).trans h
noncomputable def q3U:List (Nat×F7 S):=[(61,q2N),(57,q37),(64,q3E),(66,q3S)]
theorem q3V:Z9n X (q3U):=⟨q2O,q38,q3F,q3T,trivial⟩
abbrev q3W {R:Type}:Z27 S R:=Zgi
theorem q3X {R:Type}:Z3J X (q3W (R:=R)):=ZgQ X
def q3Y:Key:=⟨[62,3,8,29],62,none,[0,0,1,0,1],0,51⟩
def q3Z:StT S:=⟨(N (N (N L none (N L vO L)) (some (.fn (.func 63) [] [(.ptr 0 0)])) (N (N L vJ L) none L)) none v1u),(N L oc L),51⟩
def q40:Way S:=⟨.ret,⟨v1l,(N (N (N (N (N (N (N L ob L) none L) none L) none (N L none (N L ob L))) none L) none L) oc L),78⟩,[.int,.int,(.st 18),(.st 18),(.st 20)]⟩
def q41:Way S:=⟨(.exit 0),⟨L,(N L oc L),52⟩,[(.st 20)]⟩
def q42:LE S:=⟨q3Y,q3Z,[.int,(.lst (.st 18)),.int,(.st 20)],[q40,q41]⟩
def q43 (x:tW):((Int×Int×Z5×Z5)⊕Unit)→tP:=Sum.elim (fun y0=>(.inl (y0.1,y0.2.1,y0.2.2.1,y0.2.2.2,x.2.2.2))) (fun y1=>(.inr x.2.2.2))
noncomputable def q44 {R:Type} (x:tW) (k:tP→Option R):Option R:=(X3E x.2.1 x.2.2.1 x.2.2.2 x.1).bind (Sum.elim (fun y0=>k (.inl (y0.1,y0.2.1,y0.2.2.1,y0.2.2.2,x.2.2.2))) (fun y1=>k (.inr x.2.2.2)))
def q45 (x:tW) (v:Int):tW:=(v,x.2.1,x.2.2.1,x.2.2.2)
theorem q46 (x:tW):LE.step X q42 q3U q0 q3W 12 x=X1t x.2.1 x.2.2.1 x.2.2.2 x.1 (fun w0=>(Sum.inl (w0,x.2.1,x.2.2.1,x.2.2.2))) (fun p0 p1 p2 p3=>(Sum.inr (.inl (p0,p1,p2,p3,x.2.2.2)))) (Sum.inr (.inr x.2.2.2)):=by kernel_rfl
theorem q48 {R:Type} (x:tW) (k:tP→Option R) (r:R) (h:q44 x k=some r):∃ o,Z5s (LE.step X q42 q3U q0 q3W 12) x o∧k o=some r:=by
 obtain ⟨o,h1,h2⟩:=Z0 h
 exact ⟨q43 x o,Zhl (st:=fun (x:tW)=>X1o x.2.1 x.2.2.1 x.2.2.2) (prj:=fun x=>x.1) (emb:=q45) (embO:=q43) (fun x=>(q46 x).trans (by unfold X1o X1t;simp only [Zhd,Zh8,Zhe,Option.map_some,Option.map_none];rfl)) (fun _ _=>rfl) (fun _ _=>rfl) (fun _ _ _=>rfl) (fun _ _ _=>rfl) (fun _=>rfl) (Z1S.1 h1),by
  first
  | exact h2
  | (rcases o with o|o<;>exact h2)⟩
noncomputable def q49 {R:Type}:Z27 S R:=LE.ls X q42 q44 q3W
theorem q4a {R:Type}:Z3J X (q49 (R:=R)):=Zhq xok q3V (e:=q42) q1 q3X q48 q3X
def q4b:Key:=⟨[65,2,13,29],65,none,[0,0,1,0,1],0,97⟩
def q4c:StT S:=⟨vW,L,97⟩
def q4d:Way S:=⟨.ret,⟨v1l,(N (N L none (N L none (N (N (N L none (N L oa L)) none L) none L))) none L),115⟩,[.int,.int,(.st 19)]⟩
def q4e:Way S:=⟨(.exit 0),⟨L,L,98⟩,[]⟩
def q4f:LE S:=⟨q4b,q4c,[.int,(.lst (.st 19)),.int],[q4d,q4e]⟩
def q4g (x:t1e):t1c→t1c:=Sum.elim (fun y0=>(.inl (y0.1,y0.2.1,y0.2.2))) (fun y1=>(.inr ()))
noncomputable def q4h {R:Type} (x:t1e) (k:t1c→Option R):Option R:=(X3F x.2.1 x.2.2 x.1).bind (Sum.elim (fun y0=>k (.inl (y0.1,y0.2.1,y0.2.2))) (fun y1=>k (.inr ())))
def q4i (x:t1e) (v:Int):t1e:=(v,x.2.1,x.2.2)
theorem q4j (x:t1e):LE.step X q4f q3U q0 q49 12 x=X1u x.2.1 x.2.2 x.1 (fun w0=>(Sum.inl (w0,x.2.1,x.2.2))) (fun p0 p1 p2=>(Sum.inr (.inl (p0,p1,p2)))) (Sum.inr (.inr ())):=by kernel_rfl
theorem q4l {R:Type} (x:t1e) (k:t1c→Option R) (r:R) (h:q4h x k=some r):∃ o,Z5s (LE.step X q4f q3U q0 q49 12) x o∧k o=some r:=by
 obtain ⟨o,h1,h2⟩:=Z0 h
 exact ⟨q4g x o,Zhl (st:=fun (x:t1e)=>X1p x.2.1 x.2.2) (prj:=fun x=>x.1) (emb:=q4i) (embO:=q4g) (fun x=>(q4j x).trans (by unfold X1p X1u;simp only [Zhd,Zh8,Zhe,Option.map_some,Option.map_none];rfl)) (fun _ _=>rfl) (fun _ _=>rfl) (fun _ _ _=>rfl) (fun _ _ _=>rfl) (fun _=>rfl) (Z1S.1 h1),by
  first
  | exact h2
  | (rcases o with o|o<;>exact h2)⟩
noncomputable def q4m {R:Type}:Z27 S R:=LE.ls X q4f q4h q49
theorem q4n {R:Type}:Z3J X (q4m (R:=R)):=Zhq xok q3V (e:=q4f) q1 q4a q4l q4a
def q4o:Key:=⟨[65,2,13,29],65,none,[0,0,1,0,1],0,73⟩
def q4p:StT S:=⟨vW,L,73⟩
def q4q:Way S:=⟨.ret,⟨v1l,(N (N L none (N L none (N L none (N (N (N L oa L) none L) none L)))) none L),91⟩,[.int,.int,(.st 19)]⟩
def q4r:Way S:=⟨(.exit 0),⟨L,L,74⟩,[]⟩
def q4s:LE S:=⟨q4o,q4p,[.int,(.lst (.st 19)),.int],[q4q,q4r]⟩
def q4t (x:t1e):t1c→t1c:=Sum.elim (fun y0=>(.inl (y0.1,y0.2.1,y0.2.2))) (fun y1=>(.inr ()))
noncomputable def q4u {R:Type} (x:t1e) (k:t1c→Option R):Option R:=(X2u x.2.1 x.2.2 x.1).bind (Sum.elim (fun y0=>k (.inl (y0.1,y0.2.1,y0.2.2))) (fun y1=>k (.inr ())))
def q4v (x:t1e) (v:Int):t1e:=(v,x.2.1,x.2.2)
theorem q4w (x:t1e):LE.step X q4s q3U q0 q4m 12 x=X37 x.2.1 x.2.2 x.1 (fun w0=>(Sum.inl (w0,x.2.1,x.2.2))) (fun p0 p1 p2=>(Sum.inr (.inl (p0,p1,p2)))) (Sum.inr (.inr ())):=by kernel_rfl
theorem q4y {R:Type} (x:t1e) (k:t1c→Option R) (r:R) (h:q4u x k=some r):∃ o,Z5s (LE.step X q4s q3U q0 q4m 12) x o∧k o=some r:=by
 obtain ⟨o,h1,h2⟩:=Z0 h
 exact ⟨q4t x o,Zhl (st:=fun (x:t1e)=>X3V x.2.1 x.2.2) (prj:=fun x=>x.1) (emb:=q4v) (embO:=q4t) (fun x=>(q4w x).trans (by unfold X3V X37;simp only [Zhd,Zh8,Zhe,Option.map_some,Option.map_none];rfl)) (fun _ _=>rfl) (fun _ _=>rfl) (fun _ _ _=>rfl) (fun _ _ _=>rfl) (fun _=>rfl) (Z1S.1 h1),by
  first
  | exact h2
  | (rcases o with o|o<;>exact h2)⟩
noncomputable def q4z {R:Type}:Z27 S R:=LE.ls X q4s q4u q4m
theorem q4A {R:Type}:Z3J X (q4z (R:=R)):=Zhq xok q3V (e:=q4s) q1 q4n q4y q4n
theorem q4B (x0:ZJ):Zhs X q3U [(.st 20)] [(.int .i64),(.int .i64),(.int .i64)] q0 q4z 12 29 (x0,())=X2J x0:=by kernel_rfl
noncomputable def q4C:F7 S:=⟨[(.st 20)],[(.int .i64),(.int .i64),(.int .i64)],fun xs=>X61 xs.1⟩
theorem q4D:Z7Q X 29 q4C:=Zho (Zhn xok q3V q1 q4A 12 29) fun xs _ h=>((q4B xs.1).trans (X6p xs.1).symm).trans h
noncomputable def q4E:List (Nat×F7 S):=[(61,q2N),(117,qE)]
theorem q4F:Z9n X (q4E):=⟨q2O,qF,trivial⟩
abbrev q4G {R:Type}:Z27 S R:=Zgi
theorem q4H {R:Type}:Z3J X (q4G (R:=R)):=ZgQ X
def q4I:Key:=⟨[132,1,109],132,none,[0,0,1],0,45⟩
def q4J:StT S:=⟨(N (N (N L vO L) (some (.ptr 36 0)) L) (some (.yld 40)) L),oQ,45⟩
def q4K:Way S:=⟨.ret,⟨L,(N (N (N (N L none (N L none (N L oe L))) ox L) ox L) ok (N (N (N (N L ou L) none (N (N L (some (.loop 109 (N (N (N (N L (some (.ptr 3 0)) L) (some (.ptr 0 0)) (N L none (N (N L vi L) vN L))) vO (N (N (N L vN L) none L) none L)) vs (N (N (N L (some (.ptr 4 0)) L) (some (.ptr 1 0)) L) vO (N L (some (.ptr 2 0)) (N (N L vN L) none L)))) (44::(45::[])) .skip .skip 1 .ret (1::(109::[])) (0::(1::(0::(1::(1::(1::(1::[]))))))))) L) ou L)) ov (N (N (N L oo L) none L) none L)) og L)),67⟩,[(.st 3),.int,.int,(.st 8),(.lst (.int .i64)),.bool,.int,.bool,(.st 8),.int,.bool,(.lst (.int .i64)),.int,(.lst (.st 3)),(.st 4)]⟩
def q4L:Way S:=⟨(.exit 0),⟨L,oQ,47⟩,[.int,.int,(.st 8),(.lst (.int .i64)),.bool,.int,.bool,(.st 8),.int,.bool,(.lst (.int .i64)),.int,(.lst (.st 3)),(.st 4)]⟩
def q4M:LE S:=⟨q4I,q4J,[.int,.int,.int,(.st 8),(.lst (.int .i64)),.bool,.int,.bool,(.st 8),.int,.bool,(.lst (.int .i64)),.int,(.lst (.st 3)),(.st 4)],[q4K,q4L]⟩
def q4N (x:tg):((Zk×Int×Int)⊕Unit)→t3:=Sum.elim (fun y0=>(.inl (y0.1,y0.2.1,x.2.2.1,x.2.2.2.1,x.2.2.2.2.1,x.2.2.2.2.2.1,x.2.2.2.2.2.2.1,x.2.2.2.2.2.2.2.1,x.2.2.2.2.2.2.2.2.1,x.2.2.2.2.2.2.2.2.2.1,x.2.2.2.2.2.2.2.2.2.2.1,x.2.2.2.2.2.2.2.2.2.2.2.1,y0.2.2,x.2.2.2.2.2.2.2.2.2.2.2.2.2.1,x.2.2.2.2.2.2.2.2.2.2.2.2.2.2))) (fun y1=>(.inr (x.2.1,x.2.2.1,x.2.2.2.1,x.2.2.2.2.1,x.2.2.2.2.2.1,x.2.2.2.2.2.2.1,x.2.2.2.2.2.2.2.1,x.2.2.2.2.2.2.2.2.1,x.2.2.2.2.2.2.2.2.2.1,x.2.2.2.2.2.2.2.2.2.2.1,x.2.2.2.2.2.2.2.2.2.2.2.1,x.2.2.2.2.2.2.2.2.2.2.2.2.1,x.2.2.2.2.2.2.2.2.2.2.2.2.2.1,x.2.2.2.2.2.2.2.2.2.2.2.2.2.2)))
noncomputable def q4O {R:Type} (x:tg) (k:t3→Option R):Option R:=(X1D x.2.2.1 x.2.2.2.2.2.2.2.2.2.2.2.2.2.1 x.1).bind (Sum.elim (fun y0=>k (.inl (y0.1,y0.2.1,x.2.2.1,x.2.2.2.1,x.2.2.2.2.1,x.2.2.2.2.2.1,x.2.2.2.2.2.2.1,x.2.2.2.2.2.2.2.1,x.2.2.2.2.2.2.2.2.1,x.2.2.2.2.2.2.2.2.2.1,x.2.2.2.2.2.2.2.2.2.2.1,x.2.2.2.2.2.2.2.2.2.2.2.1,y0.2.2,x.2.2.2.2.2.2.2.2.2.2.2.2.2.1,x.2.2.2.2.2.2.2.2.2.2.2.2.2.2))) (fun y1=>k (.inr (x.2.1,x.2.2.1,x.2.2.2.1,x.2.2.2.2.1,x.2.2.2.2.2.1,x.2.2.2.2.2.2.1,x.2.2.2.2.2.2.2.1,x.2.2.2.2.2.2.2.2.1,x.2.2.2.2.2.2.2.2.2.1,x.2.2.2.2.2.2.2.2.2.2.1,x.2.2.2.2.2.2.2.2.2.2.2.1,x.2.2.2.2.2.2.2.2.2.2.2.2.1,x.2.2.2.2.2.2.2.2.2.2.2.2.2.1,x.2.2.2.2.2.2.2.2.2.2.2.2.2.2))))
def q4P (x:tg) (v:Int):tg:=(v,x.2.1,x.2.2.1,x.2.2.2.1,x.2.2.2.2.1,x.2.2.2.2.2.1,x.2.2.2.2.2.2.1,x.2.2.2.2.2.2.2.1,x.2.2.2.2.2.2.2.2.1,x.2.2.2.2.2.2.2.2.2.1,x.2.2.2.2.2.2.2.2.2.2.1,x.2.2.2.2.2.2.2.2.2.2.2.1,x.2.2.2.2.2.2.2.2.2.2.2.2.1,x.2.2.2.2.2.2.2.2.2.2.2.2.2.1,x.2.2.2.2.2.2.2.2.2.2.2.2.2.2)
theorem q4Q (x:tg):LE.step X q4M q4E q0 q4G 12 x=W6 x.2.2.1 x.2.2.2.2.2.2.2.2.2.2.2.2.2.1 x.1 (fun w0=>(Sum.inl (w0,x.2.1,x.2.2.1,x.2.2.2.1,x.2.2.2.2.1,x.2.2.2.2.2.1,x.2.2.2.2.2.2.1,x.2.2.2.2.2.2.2.1,x.2.2.2.2.2.2.2.2.1,x.2.2.2.2.2.2.2.2.2.1,x.2.2.2.2.2.2.2.2.2.2.1,x.2.2.2.2.2.2.2.2.2.2.2.1,x.2.2.2.2.2.2.2.2.2.2.2.2.1,x.2.2.2.2.2.2.2.2.2.2.2.2.2.1,x.2.2.2.2.2.2.2.2.2.2.2.2.2.2))) (fun p0 p1 p2=>(Sum.inr (.inl (p0,p1,x.2.2.1,x.2.2.2.1,x.2.2.2.2.1,x.2.2.2.2.2.1,x.2.2.2.2.2.2.1,x.2.2.2.2.2.2.2.1,x.2.2.2.2.2.2.2.2.1,x.2.2.2.2.2.2.2.2.2.1,x.2.2.2.2.2.2.2.2.2.2.1,x.2.2.2.2.2.2.2.2.2.2.2.1,p2,x.2.2.2.2.2.2.2.2.2.2.2.2.2.1,x.2.2.2.2.2.2.2.2.2.2.2.2.2.2)))) (Sum.inr (.inr (x.2.1,x.2.2.1,x.2.2.2.1,x.2.2.2.2.1,x.2.2.2.2.2.1,x.2.2.2.2.2.2.1,x.2.2.2.2.2.2.2.1,x.2.2.2.2.2.2.2.2.1,x.2.2.2.2.2.2.2.2.2.1,x.2.2.2.2.2.2.2.2.2.2.1,x.2.2.2.2.2.2.2.2.2.2.2.1,x.2.2.2.2.2.2.2.2.2.2.2.2.1,x.2.2.2.2.2.2.2.2.2.2.2.2.2.1,x.2.2.2.2.2.2.2.2.2.2.2.2.2.2))):=by kernel_rfl
theorem q4S {R:Type} (x:tg) (k:t3→Option R) (r:R) (h:q4O x k=some r):∃ o,Z5s (LE.step X q4M q4E q0 q4G 12) x o∧k o=some r:=by
 obtain ⟨o,h1,h2⟩:=Z0 h
 exact ⟨q4N x o,Zhl (st:=fun (x:tg)=>XT x.2.2.1 x.2.2.2.2.2.2.2.2.2.2.2.2.2.1) (prj:=fun x=>x.1) (emb:=q4P) (embO:=q4N) (fun x=>(q4Q x).trans (by unfold XT W6;simp only [Zhd,Zh8,Zhe,Option.map_some,Option.map_none];rfl)) (fun _ _=>rfl) (fun _ _=>rfl) (fun _ _ _=>rfl) (fun _ _ _=>rfl) (fun _=>rfl) (Z1S.1 h1),by
  first
  | exact h2
  | (rcases o with o|o<;>exact h2)⟩
noncomputable def q4T {R:Type}:Z27 S R:=LE.ls X q4M q4O q4G
theorem q4U {R:Type}:Z3J X (q4T (R:=R)):=Zhq xok q4F (e:=q4M) q1 q4H q4S q4H
theorem q4V (x0:Zl) (x1:Int) (x2:Int):Zhs X q4E [(.st 8),(.int .i64),(.int .i64)] [(.st 4),(.int .i64),(.int .i64)] q0 q4T 12 109 (x0,x1,x2,())=X1H x0 x1 x2:=by kernel_rfl
noncomputable def q4W:F7 S:=⟨[(.st 8),(.int .i64),(.int .i64)],[(.st 4),(.int .i64),(.int .i64)],fun xs=>X35 xs.1 xs.2.1 xs.2.2.1⟩
theorem q4X:Z7Q X 109 q4W:=Zho (Zhn xok q4F q1 q4U 12 109) fun xs _ h=>((q4V xs.1 xs.2.1 xs.2.2.1).trans (X5k xs.1 xs.2.1 xs.2.2.1).symm).trans h
noncomputable def q4Y:List (Nat×F7 S):=[(109,q4W)]
theorem q4Z:Z9n X (q4Y):=⟨q4X,trivial⟩
abbrev q50 {R:Type}:Z27 S R:=Zgi
theorem q51 {R:Type}:Z3J X (q50 (R:=R)):=ZgQ X
theorem q52 (x0:Zl) (x1:Int) (x2:Int):Zhs X q4Y [(.st 8),(.int .i64),(.int .i64)] [(.int .i64),(.int .i64)] q0 q50 12 82 (x0,x1,x2,())=X1G x0 x1 x2:=by kernel_rfl
noncomputable def q53:F7 S:=⟨[(.st 8),(.int .i64),(.int .i64)],[(.int .i64),(.int .i64)],fun xs=>X57 xs.1 xs.2.1 xs.2.2.1⟩
theorem q54:Z7Q X 82 q53:=Zho (Zhn xok q4Z q1 q51 12 82) fun xs _ h=>((q52 xs.1 xs.2.1 xs.2.2.1).trans (X5i xs.1 xs.2.1 xs.2.2.1).symm).trans h
noncomputable def q55:List (Nat×F7 S):=[(109,q4W)]
theorem q56:Z9n X (q55):=⟨q4X,trivial⟩
abbrev q57 {R:Type}:Z27 S R:=Zgi
theorem q58 {R:Type}:Z3J X (q57 (R:=R)):=ZgQ X
theorem q59 (x0:Zl) (x1:Int) (x2:Int):Zhs X q55 [(.st 8),(.int .i64),(.int .i64)] [(.st 4),(.int .i64)] q0 q57 12 126 (x0,x1,x2,())=X12 x0 x1 x2:=by kernel_rfl
noncomputable def q5a:F7 S:=⟨[(.st 8),(.int .i64),(.int .i64)],[(.st 4),(.int .i64)],fun xs=>X4g xs.1 xs.2.1 xs.2.2.1⟩
theorem q5b:Z7Q X 126 q5a:=Zho (Zhn xok q56 q1 q58 12 126) fun xs _ h=>((q59 xs.1 xs.2.1 xs.2.2.1).trans (X4A xs.1 xs.2.1 xs.2.2.1).symm).trans h
noncomputable def q5c:List (Nat×F7 S):=[]
theorem q5d:Z9n X (q5c):=trivial
abbrev q5e {R:Type}:Z27 S R:=Zgi
theorem q5f {R:Type}:Z3J X (q5e (R:=R)):=ZgQ X
theorem q5g:Zhs X q5c [] [(.arr 8 (.st 2))] q0 q5e 12 133 (())=X68:=by kernel_rfl
noncomputable def q5h:F7 S:=⟨[],[(.arr 8 (.st 2))],fun xs=>X68⟩
theorem q5i:Z7Q X 133 q5h:=Zho (Zhn xok q5d q1 q5f 12 133) fun xs _ h=>(q5g).trans h
noncomputable def q5j:List (Nat×F7 S):=[(133,q5h),(120,q1F)]
theorem q5k:Z9n X (q5j):=⟨q5i,q1G,trivial⟩
abbrev q5l {R:Type}:Z27 S R:=Zgi
theorem q5m {R:Type}:Z3J X (q5l (R:=R)):=ZgQ X
def q5n:Key:=⟨[127],127,none,[0,0,0,1],0,2⟩
def q5o:StT S:=⟨(N (N L (some (.ptr 0 0)) L) none (N L vO L)),(N L oj L),2⟩
def q5p:Way S:=⟨(.exit 0),⟨(N (N L (some (.ptr 0 0)) L) none (N L vO L)),(N L oj L),10⟩,[.int,(.st 2)]⟩
def q5q:LE S:=⟨q5n,q5o,[.int,(.st 2)],[q5p]⟩
def q5r (x:(Int×Zu)):(Int×Zu)→(Int×Zu):=fun y0=>(y0.1,y0.2)
noncomputable def q5s {R:Type} (x:(Int×Zu)) (k:(Int×Zu)→Option R):Option R:=(X1E (x.1,x.2)).bind (fun y0=>k (y0.1,y0.2))
def q5t (x:(Int×Zu)) (v:(Int×Zu)):(Int×Zu):=(v.1,v.2)
theorem q5u (x:(Int×Zu)):LE.step X q5q q5j q0 q5l 12 x=Xs x.1 x.2 (fun w0 w1=>(Sum.inl (w0,w1))) (fun p0 p1=>(Sum.inr (p0,p1))):=by kernel_rfl
theorem q5w {R:Type} (x:(Int×Zu)) (k:(Int×Zu)→Option R) (r:R) (h:q5s x k=some r):∃ o,Z5s (LE.step X q5q q5j q0 q5l 12) x o∧k o=some r:=by
 obtain ⟨o,h1,h2⟩:=Z0 h
 exact ⟨q5r x o,Zhl (st:=fun (x:(Int×Zu))=>Xb) (prj:=fun x=>(x.1,x.2)) (emb:=q5t) (embO:=q5r) (fun x=>(q5u x).trans (by unfold Xb Xs;simp only [Zhd,Zh8,Zhe,Option.map_some,Option.map_none];rfl)) (fun _ _=>rfl) (fun _ _=>rfl) (fun _ _ _=>rfl) (fun _ _ _=>rfl) (fun _=>rfl) (Z1S.1 h1),by
  first
  | exact h2
  | (rcases o with o<;>exact h2)⟩
noncomputable def q5x {R:Type}:Z27 S R:=LE.ls X q5q q5s q5l
theorem q5y {R:Type}:Z3J X (q5x (R:=R)):=Zhq xok q5k (e:=q5q) q1 q5m q5w q5m
def q5z:Key:=⟨[127],127,none,[0,0,1,0,1,1],2,12⟩
def q5A:StT S:=⟨(N (N L (some (.ptr 0 0)) (N L none (N (N L (some (.agg [(.arr (.st 2) 8 (fun _=>tdf T (.st 2)))])) L) none L))) none (N L vO v1u)),(N L oj L),12⟩
def q5B:Way S:=⟨(.exit 2),⟨(N L none (N L vO L)),(N L oj L),13⟩,[.int,(.st 2)]⟩
def q5C:LE S:=⟨q5z,q5A,[(.arr (.st 2)),.int,.int,(.st 2)],[q5B]⟩
def q5D (x:t11):Int→(Int×Zu):=fun y0=>(y0,x.2.2.2)
noncomputable def q5E {R:Type} (x:t11) (k:(Int×Zu)→Option R):Option R:=(X2C x.1 x.2.2.2 (x.2.1,x.2.2.1)).bind (fun y0=>k (y0,x.2.2.2))
def q5F (x:t11) (v:(Int×Int)):t11:=(x.1,v.1,v.2,x.2.2.2)
theorem q5G (x:t11):LE.step X q5C q5j q0 q5x 12 x=W8 x.1 x.2.2.2 x.2.1 x.2.2.1 (fun w0 w1=>(Sum.inl (x.1,w0,w1,x.2.2.2))) (fun p0=>(Sum.inr (p0,x.2.2.2))):=by kernel_rfl
theorem q5I {R:Type} (x:t11) (k:(Int×Zu)→Option R) (r:R) (h:q5E x k=some r):∃ o,Z5s (LE.step X q5C q5j q0 q5x 12) x o∧k o=some r:=by
 obtain ⟨o,h1,h2⟩:=Z0 h
 exact ⟨q5D x o,Zhl (st:=fun (x:t11)=>XV x.1 x.2.2.2) (prj:=fun x=>(x.2.1,x.2.2.1)) (emb:=q5F) (embO:=q5D) (fun x=>(q5G x).trans (by unfold XV W8;simp only [Zhd,Zh8,Zhe,Option.map_some,Option.map_none];rfl)) (fun _ _=>rfl) (fun _ _=>rfl) (fun _ _ _=>rfl) (fun _ _ _=>rfl) (fun _=>rfl) (Z1S.1 h1),by
  first
  | exact h2
  | (rcases o with o<;>exact h2)⟩
noncomputable def q5J {R:Type}:Z27 S R:=LE.ls X q5C q5E q5x
theorem q5K {R:Type}:Z3J X (q5J (R:=R)):=Zhq xok q5k (e:=q5C) q1 q5y q5I q5y
theorem q5L (x0:Zu):Zhs X q5j [(.st 2)] [(.int .i64)] q0 q5J 12 127 (x0,())=X1J x0:=by kernel_rfl
noncomputable def q5M:F7 S:=⟨[(.st 2)],[(.int .i64)],fun xs=>X48 xs.1⟩
theorem q5N:Z7Q X 127 q5M:=Zho (Zhn xok q5k q1 q5K 12 127) fun xs _ h=>((q5L xs.1).trans (X5m xs.1).symm).trans h
noncomputable def q5O:List (Nat×F7 S):=[(126,q5a),(93,qY),(121,q1y),(127,q5M)]
theorem q5P:Z9n X (q5O):=⟨q5b,qZ,q1z,q5N,trivial⟩
abbrev q5Q {R:Type}:Z27 S R:=Zgi
theorem q5R {R:Type}:Z3J X (q5Q (R:=R)):=ZgQ X
theorem q5S (x0:Zl) (x1:Int) (x2:Int) (x3:Zu):Zhs X q5O [(.st 8),(.int .i64),(.int .i64),(.st 2)] [(.int .i64),(.int .i64)] q0 q5Q 12 110 (x0,x1,x2,x3,())=X2k x0 x1 x2 x3:=by kernel_rfl
noncomputable def q5T:F7 S:=⟨[(.st 8),(.int .i64),(.int .i64),(.st 2)],[(.int .i64),(.int .i64)],fun xs=>X58 xs.1 xs.2.1 xs.2.2.1 xs.2.2.2.1⟩
theorem q5U:Z7Q X 110 q5T:=Zho (Zhn xok q5P q1 q5R 12 110) fun xs _ h=>((q5S xs.1 xs.2.1 xs.2.2.1 xs.2.2.2.1).trans (X66 xs.1 xs.2.1 xs.2.2.1 xs.2.2.2.1).symm).trans h
def q5V:StT S:=⟨(N (N L vO L) (some (.ptr 1 0)) L),(N (N L o3 L) oq L),2⟩
def q5W:Way S:=⟨.ret,⟨(N L vN L),(N (N L o3 L) oq L),2⟩,[.bool,(.st 20),(.lst (.st 21)),.en,(.mp (.st 23) (.int .i64))]⟩
def q5X:PE S:=⟨49,2,q5V,[.int,(.st 20),(.lst (.st 21)),.en,(.mp (.st 23) (.int .i64))],[q5W]⟩
noncomputable def q5Y:List (Nat×F7 S):=[(82,q53)]
theorem q5Z:Z9n X q5Y:=⟨q54,trivial⟩
abbrev q60 {R:Type}:Z27 S R:=Zgi
theorem q61 {R:Type}:Z3J X (q60 (R:=R)):=ZgQ X
theorem q62 (x:tH):PE.step X q5X q5Y q0 q60 12 x=Xw x.1 x.2.1 x.2.2.1 x.2.2.2.1 x.2.2.2.2:=by kernel_rfl
theorem q63:ZaX X q5X XJ:=Zhr (ZgU xok q5Z q1 q61 12) fun x _ h=>((q62 x).trans (X3d x).symm).trans h
noncomputable def q64 {R:Type}:Prs S R:=PE.ps X q5X (fun x q=>(XJ x).bind q) q0
theorem q65 {R:Type}:Z7R X (q64 (R:=R)):=Zhi (e:=q5X) q63 q1
def q66:StT S:=⟨(N (N L vr L) (some (.ptr 1 0)) L),(N (N L o3 L) oq L),2⟩
def q67:Way S:=⟨.ret,⟨(N L vO L),(N (N L o3 L) oq L),2⟩,[.int,(.st 20),(.lst (.st 21)),.en,(.mp (.st 23) (.int .i64))]⟩
def q68:PE S:=⟨105,2,q66,[(.st 21),(.st 20),(.lst (.st 21)),.en,(.mp (.st 23) (.int .i64))],[q67]⟩
noncomputable def q69:List (Nat×F7 S):=[(57,q37),(82,q53)]
theorem q6a:Z9n X q69:=⟨q38,q54,trivial⟩
abbrev q6b {R:Type}:Z27 S R:=Zgi
theorem q6c {R:Type}:Z3J X (q6b (R:=R)):=ZgQ X
theorem q6d (x:(Zn×ZJ×(List Zn)×(Nat→Nat)×t1i)):PE.step X q68 q69 q64 q6b 12 x=XD x.1 x.2.1 x.2.2.1 x.2.2.2.1 x.2.2.2.2:=by kernel_rfl
theorem q6e:ZaX X q68 X13:=Zhr (ZgU xok q6a q65 q6c 12) fun x _ h=>((q6d x).trans (X3x x).symm).trans h
noncomputable def q6f {R:Type}:Prs S R:=PE.ps X q68 (fun x q=>(X13 x).bind q) q64
theorem q6g {R:Type}:Z7R X (q6f (R:=R)):=Zhi (e:=q68) q6e q65
def q6h:StT S:=⟨v1j,L,0⟩
def q6i:Way S:=⟨.ret,⟨(N L (some (.tup [.nilp,(.int .i64 0),(.int .i64 0)])) L),L,0⟩,[.int,.int]⟩
def q6j:Way S:=⟨.ret,⟨(N L (some (.tup [(.ptr 1 0),(.int .i64 0),(.int .i64 0)])) L),(N (N L o3 L) oq L),2⟩,[.int,.int,(.st 20),(.lst (.st 21)),.en,(.mp (.st 23) (.int .i64))]⟩
def q6k:PE S:=⟨74,2,q6h,[(.lst (.st 21)),(.st 20)],[q6i,q6j]⟩
noncomputable def q6l:List (Nat×F7 S):=[(29,q4C),(57,q37),(82,q53)]
theorem q6m:Z9n X q6l:=⟨q4D,q38,q54,trivial⟩
abbrev q6n {R:Type}:Z27 S R:=Zgi
theorem q6o {R:Type}:Z3J X (q6n (R:=R)):=ZgQ X
def q6p:Key:=⟨[74],74,none,[0,0,1,0,1,1,1,1],0,26⟩
def q6q:StT S:=⟨(N (N (N L none (N L none (N L vJ L))) vK (N L none (N L none (N L vO L)))) none (N (N L (some (.ptr 1 0)) (N L none (N L vO L))) none L)),o18,26⟩
def q6r:Way S:=⟨(.exit 0),⟨(N (N L vK L) none (N (N L (some (.ptr 1 0)) L) none L)),o18,27⟩,[(.lst (.st 21)),(.st 20),(.st 20),(.lst (.st 21)),.en,(.mp (.st 23) (.int .i64))]⟩
def q6s:LE S:=⟨q6p,q6q,[(.lst (.st 18)),(.lst (.st 21)),.int,.int,(.st 20),(.st 20),(.lst (.st 21)),.en,(.mp (.st 23) (.int .i64))],[q6r]⟩
def q6t (x:ti):(Nat→Nat)→tw:=fun y0=>(x.2.1,x.2.2.2.2.1,x.2.2.2.2.2.1,x.2.2.2.2.2.2.1,y0,x.2.2.2.2.2.2.2.2)
noncomputable def q6u {R:Type} (x:ti) (k:tw→Option R):Option R:=(X2T x.1 x.2.2.2.1 (x.2.2.1,x.2.2.2.2.2.2.2.1)).bind (fun y0=>k (x.2.1,x.2.2.2.2.1,x.2.2.2.2.2.1,x.2.2.2.2.2.2.1,y0,x.2.2.2.2.2.2.2.2))
def q6v (x:ti) (v:(Int×(Nat→Nat))):ti:=(x.1,x.2.1,v.1,x.2.2.2.1,x.2.2.2.2.1,x.2.2.2.2.2.1,x.2.2.2.2.2.2.1,v.2,x.2.2.2.2.2.2.2.2)
theorem q6w (x:ti):LE.step X q6s q6l q0 q6n 12 x=WG x.1 x.2.2.2.1 x.2.2.1 x.2.2.2.2.2.2.2.1 (fun w0 w1=>(Sum.inl (x.1,x.2.1,w0,x.2.2.2.1,x.2.2.2.2.1,x.2.2.2.2.2.1,x.2.2.2.2.2.2.1,w1,x.2.2.2.2.2.2.2.2))) (fun p0=>(Sum.inr (x.2.1,x.2.2.2.2.1,x.2.2.2.2.2.1,x.2.2.2.2.2.2.1,p0,x.2.2.2.2.2.2.2.2))):=by kernel_rfl
theorem q6y {R:Type} (x:ti) (k:tw→Option R) (r:R) (h:q6u x k=some r):∃ o,Z5s (LE.step X q6s q6l q0 q6n 12) x o∧k o=some r:=by
 obtain ⟨o,h1,h2⟩:=Z0 h
 exact ⟨q6t x o,Zhl (st:=fun (x:ti)=>Wo x.1 x.2.2.2.1) (prj:=fun x=>(x.2.2.1,x.2.2.2.2.2.2.2.1)) (emb:=q6v) (embO:=q6t) (fun x=>(q6w x).trans (by unfold Wo WG;simp only [Zhd,Zh8,Zhe,Option.map_some,Option.map_none];rfl)) (fun _ _=>rfl) (fun _ _=>rfl) (fun _ _ _=>rfl) (fun _ _ _=>rfl) (fun _=>rfl) (Z1S.1 h1),by
  first
  | exact h2
  | (rcases o with o<;>exact h2)⟩
noncomputable def q6z {R:Type}:Z27 S R:=LE.ls X q6s q6u q6n
theorem q6A {R:Type}:Z3J X (q6z (R:=R)):=Zhq xok q6m (e:=q6s) q1 q6o q6y q6o
def q6B:Key:=⟨[103,2,14,74],103,none,[0,0,1,0,1],0,40⟩
def q6C:StT S:=⟨(N (N (N L none (N L vO L)) (some (.fn (.func 104) [] [(.ptr 1 0)])) (N (N L vK L) none L)) none v1u),o15,40⟩
def q6D:Way S:=⟨.ret,⟨v1l,(N (N L oA L) none (N (N L none (N (N L o2 (N L od L)) none (N (N L od L) none L))) none (N (N (N L oq L) none L) none L))),64⟩,[.int,.int,(.st 20),(.lst (.st 21)),.en,(.st 21),(.st 21),(.mp (.st 23) (.int .i64))]⟩
def q6E:Way S:=⟨(.exit 0),⟨L,o15,41⟩,[(.st 20),(.lst (.st 21)),.en,(.mp (.st 23) (.int .i64))]⟩
def q6F:LE S:=⟨q6B,q6C,[.int,(.lst (.st 21)),.int,(.st 20),(.lst (.st 21)),.en,(.mp (.st 23) (.int .i64))],[q6D,q6E]⟩
def q6G (x:ts):tb→tb:=Sum.elim (fun y0=>(.inl (y0.1,y0.2.1,y0.2.2.1,y0.2.2.2.1,y0.2.2.2.2.1,y0.2.2.2.2.2.1,y0.2.2.2.2.2.2.1,y0.2.2.2.2.2.2.2))) (fun y1=>(.inr (y1.1,y1.2.1,y1.2.2.1,y1.2.2.2)))
noncomputable def q6H {R:Type} (x:ts) (k:tb→Option R):Option R:=(X2U x.2.1 x.2.2.1 (x.1,x.2.2.2.1,x.2.2.2.2.1,x.2.2.2.2.2.1,x.2.2.2.2.2.2)).bind (Sum.elim (fun y0=>k (.inl (y0.1,y0.2.1,y0.2.2.1,y0.2.2.2.1,y0.2.2.2.2.1,y0.2.2.2.2.2.1,y0.2.2.2.2.2.2.1,y0.2.2.2.2.2.2.2))) (fun y1=>k (.inr (y1.1,y1.2.1,y1.2.2.1,y1.2.2.2))))
def q6I (x:ts) (v:tH):ts:=(v.1,x.2.1,x.2.2.1,v.2.1,v.2.2.1,v.2.2.2.1,v.2.2.2.2)
theorem q6J (x:ts):LE.step X q6F q6l q6f q6z 12 x=WH x.2.1 x.2.2.1 x.1 x.2.2.2.1 x.2.2.2.2.1 x.2.2.2.2.2.1 x.2.2.2.2.2.2 (fun w0 w1 w2 w3 w4=>(Sum.inl (w0,x.2.1,x.2.2.1,w1,w2,w3,w4))) (fun p0 p1 p2 p3 p4 p5 p6 p7=>(Sum.inr (.inl (p0,p1,p2,p3,p4,p5,p6,p7)))) (fun p0 p1 p2 p3=>(Sum.inr (.inr (p0,p1,p2,p3)))):=by kernel_rfl
theorem q6L {R:Type} (x:ts) (k:tb→Option R) (r:R) (h:q6H x k=some r):∃ o,Z5s (LE.step X q6F q6l q6f q6z 12) x o∧k o=some r:=by
 obtain ⟨o,h1,h2⟩:=Z0 h
 exact ⟨q6G x o,Zhl (st:=fun (x:ts)=>Wp x.2.1 x.2.2.1) (prj:=fun x=>(x.1,x.2.2.2.1,x.2.2.2.2.1,x.2.2.2.2.2.1,x.2.2.2.2.2.2)) (emb:=q6I) (embO:=q6G) (fun x=>(q6J x).trans (by unfold Wp WH;simp only [Zhd,Zh8,Zhe,Option.map_some,Option.map_none];rfl)) (fun _ _=>rfl) (fun _ _=>rfl) (fun _ _ _=>rfl) (fun _ _ _=>rfl) (fun _=>rfl) (Z1S.1 h1),by
  first
  | exact h2
  | (rcases o with o|o<;>exact h2)⟩
noncomputable def q6M {R:Type}:Z27 S R:=LE.ls X q6F q6H q6z
theorem q6N {R:Type}:Z3J X (q6M (R:=R)):=Zhq xok q6m (e:=q6F) q6g q6A q6L q6A
theorem q6O (x:((List Zn)×ZJ)):PE.step X q6k q6l q6f q6M 12 x=X27 x.1 x.2:=by kernel_rfl
theorem q6P:ZaX X q6k X4E:=Zhr (ZgU xok q6m q6g q6N 12) fun x _ h=>((q6O x).trans (X5J x).symm).trans h
noncomputable def q6Q {R:Type}:Prs S R:=PE.ps X q6k (fun x q=>(X4E x).bind q) q6f
theorem q6R {R:Type}:Z7R X (q6Q (R:=R)):=Zhi (e:=q6k) q6P q6g
def q6S:StT S:=⟨v1j,L,0⟩
def q6T:Way S:=⟨.ret,⟨(N L (some (.tup [.nilp,(.int .i64 0)])) L),L,0⟩,[.int]⟩
def q6U:Way S:=⟨.ret,⟨(N L (some (.tup [(.ptr 1 0),(.int .i64 0)])) L),(N (N L o3 L) oq L),2⟩,[.int,(.st 20),(.lst (.st 21)),.en,(.mp (.st 23) (.int .i64))]⟩
def q6V:PE S:=⟨35,2,q6S,[(.lst (.st 21)),(.st 20)],[q6T,q6U]⟩
noncomputable def q6W:List (Nat×F7 S):=[(29,q4C),(57,q37),(82,q53)]
theorem q6X:Z9n X q6W:=⟨q4D,q38,q54,trivial⟩
abbrev q6Y {R:Type}:Z27 S R:=Zgi
theorem q6Z {R:Type}:Z3J X (q6Y (R:=R)):=ZgQ X
theorem q70 (x:((List Zn)×ZJ)):PE.step X q6V q6W q6Q q6Y 12 x=X1M x.1 x.2:=by kernel_rfl
theorem q71:ZaX X q6V X21:=Zhr (ZgU xok q6X q6R q6Z 12) fun x _ h=>((q70 x).trans (X5o x).symm).trans h
noncomputable def q72 {R:Type}:Prs S R:=PE.ps X q6V (fun x q=>(X21 x).bind q) q6Q
theorem q73 {R:Type}:Z7R X (q72 (R:=R)):=Zhi (e:=q6V) q71 q6R
def q74:StT S:=⟨(N L (some .nilp) L),L,0⟩
def q75:PE S:=⟨36,1,q74,[],[]⟩
noncomputable def q76:List (Nat×F7 S):=[(110,q5T),(57,q37)]
theorem q77:Z9n X q76:=⟨q5U,q38,trivial⟩
abbrev q78 {R:Type}:Z27 S R:=Zgi
theorem q79 {R:Type}:Z3J X (q78 (R:=R)):=ZgQ X
theorem q7a (x:Unit):PE.step X q75 q76 q72 q78 12 x=Wl:=by kernel_rfl
theorem q7b:ZaX X q75 WF:=Zhr (ZgU xok q77 q73 q79 12) fun x _ h=>((q7a x).trans (X5c x).symm).trans h
noncomputable def q7c {R:Type}:Prs S R:=PE.ps X q75 (fun x q=>(WF x).bind q) q72
theorem q7d {R:Type}:Z7R X (q7c (R:=R)):=Zhi (e:=q75) q7b q73
def q7e:StT S:=⟨(N (N L vO L) (some (.ptr 1 0)) (N L vt L)),(N (N L o3 L) oq L),2⟩
def q7f:Way S:=⟨.ret,⟨(N L vO L),(N (N L o3 L) oq L),2⟩,[.int,(.st 20),(.lst (.st 21)),.en,(.mp (.st 23) (.int .i64))]⟩
def q7g:PE S:=⟨83,3,q7e,[.int,(.st 2),(.st 20),(.lst (.st 21)),.en,(.mp (.st 23) (.int .i64))],[q7f]⟩
noncomputable def q7h:List (Nat×F7 S):=[(110,q5T)]
theorem q7i:Z9n X q7h:=⟨q5U,trivial⟩
abbrev q7j {R:Type}:Z27 S R:=Zgi
theorem q7k {R:Type}:Z3J X (q7j (R:=R)):=ZgQ X
theorem q7l (x:(Int×Zu×ZJ×(List Zn)×(Nat→Nat)×t1i)):PE.step X q7g q7h q7c q7j 12 x=Xx x.1 x.2.1 x.2.2.1 x.2.2.2.1 x.2.2.2.2.1 x.2.2.2.2.2:=by kernel_rfl
theorem q7m:ZaX X q7g XK:=Zhr (ZgU xok q7i q7d q7k 12) fun x _ h=>((q7l x).trans (X3h x).symm).trans h
noncomputable def q7n {R:Type}:Prs S R:=PE.ps X q7g (fun x q=>(XK x).bind q) q7c
theorem q7o {R:Type}:Z7R X (q7n (R:=R)):=Zhi (e:=q7g) q7m q7d
def q7p:StT S:=⟨(N (N L vt L) (some (.agg [(.ptr 1 0)])) (N L vr L)),(N (N L o3 L) oq L),2⟩
def q7q:Way S:=⟨.ret,⟨v1d,(N (N L o3 L) oq L),2⟩,[(.st 5),.bool,(.st 20),(.lst (.st 21)),.en,(.mp (.st 23) (.int .i64))]⟩
def q7r:PE S:=⟨149,3,q7p,[(.st 2),(.st 21),(.st 20),(.lst (.st 21)),.en,(.mp (.st 23) (.int .i64))],[q7q]⟩
noncomputable def q7s:List (Nat×F7 S):=[(110,q5T)]
theorem q7t:Z9n X q7s:=⟨q5U,trivial⟩
abbrev q7u {R:Type}:Z27 S R:=Zgi
theorem q7v {R:Type}:Z3J X (q7u (R:=R)):=ZgQ X
theorem q7w (x:(Zu×Zn×ZJ×(List Zn)×(Nat→Nat)×t1i)):PE.step X q7r q7s q7n q7u 12 x=Xy x.1 x.2.1 x.2.2.1 x.2.2.2.1 x.2.2.2.2.1 x.2.2.2.2.2:=by kernel_rfl
theorem q7x:ZaX X q7r Xj:=Zhr (ZgU xok q7t q7o q7v 12) fun x _ h=>((q7w x).trans (X3j x).symm).trans h
noncomputable def q7y {R:Type}:Prs S R:=PE.ps X q7r (fun x q=>(Xj x).bind q) q7n
theorem q7z {R:Type}:Z7R X (q7y (R:=R)):=Zhi (e:=q7r) q7x q7o
def q7A:StT S:=⟨(N (N L vt L) (some (.agg [(.ptr 1 0)])) (N L vr L)),(N (N L o3 L) oq L),2⟩
def q7B:Way S:=⟨.ret,⟨v1d,(N (N L o3 L) oq L),2⟩,[(.st 5),.bool,(.st 20),(.lst (.st 21)),.en,(.mp (.st 23) (.int .i64))]⟩
def q7C:PE S:=⟨150,3,q7A,[(.st 2),(.st 21),(.st 20),(.lst (.st 21)),.en,(.mp (.st 23) (.int .i64))],[q7B]⟩
noncomputable def q7D:List (Nat×F7 S):=[(57,q37)]
theorem q7E:Z9n X q7D:=⟨q38,trivial⟩
abbrev q7F {R:Type}:Z27 S R:=Zgi
theorem q7G {R:Type}:Z3J X (q7F (R:=R)):=ZgQ X
def q7H:Key:=⟨[151,7,1,150],151,none,[0,0,1,0,1],0,20⟩
def q7I:StT S:=⟨(N (N (N (N L vO L) none L) (some (.fn (.func 152) [] [(.ptr 3 0)])) L) (some (.sl (.st 19) [])) v1t),o1w,20⟩
def q7J:Way S:=⟨.ret,⟨v1u,(N (N (N (N L none (N (N L ou L) none L)) oj o1y) none (N L none (N L none (N L oa L)))) none L),58⟩,[.int,(.lst (.int .i64)),(.st 2),(.lst (.int .i64)),(.st 19)]⟩
def q7K:Way S:=⟨(.exit 0),⟨L,o1w,21⟩,[(.st 2)]⟩
def q7L:LE S:=⟨q7H,q7I,[.int,(.lst (.st 19)),.int,(.st 2)],[q7J,q7K]⟩
def q7M (x:t12):((Int×(List Int)×(List Int)×Zt)⊕Unit)→tQ:=Sum.elim (fun y0=>(.inl (y0.1,y0.2.1,x.2.2.2,y0.2.2.1,y0.2.2.2))) (fun y1=>(.inr x.2.2.2))
noncomputable def q7N {R:Type} (x:t12) (k:tQ→Option R):Option R:=(X33 x.1 x.2.1 x.2.2.2 x.2.2.1).bind (Sum.elim (fun y0=>k (.inl (y0.1,y0.2.1,x.2.2.2,y0.2.2.1,y0.2.2.2))) (fun y1=>k (.inr x.2.2.2)))
def q7O (x:t12) (v:Int):t12:=(x.1,x.2.1,v,x.2.2.2)
theorem q7P (x:t12):LE.step X q7L q7D q7y q7F 12 x=Xp x.1 x.2.1 x.2.2.2 x.2.2.1 (fun w0=>(Sum.inl (x.1,x.2.1,w0,x.2.2.2))) (fun p0 p1 p2 p3=>(Sum.inr (.inl (p0,p1,x.2.2.2,p2,p3)))) (Sum.inr (.inr x.2.2.2)):=by kernel_rfl
theorem q7R {R:Type} (x:t12) (k:tQ→Option R) (r:R) (h:q7N x k=some r):∃ o,Z5s (LE.step X q7L q7D q7y q7F 12) x o∧k o=some r:=by
 obtain ⟨o,h1,h2⟩:=Z0 h
 exact ⟨q7M x o,Zhl (st:=fun (x:t12)=>Xh x.1 x.2.1 x.2.2.2) (prj:=fun x=>x.2.2.1) (emb:=q7O) (embO:=q7M) (fun x=>(q7P x).trans (by unfold Xh Xp;simp only [Zhd,Zh8,Zhe,Option.map_some,Option.map_none];rfl)) (fun _ _=>rfl) (fun _ _=>rfl) (fun _ _ _=>rfl) (fun _ _ _=>rfl) (fun _=>rfl) (Z1S.1 h1),by
  first
  | exact h2
  | (rcases o with o|o<;>exact h2)⟩
noncomputable def q7S {R:Type}:Z27 S R:=LE.ls X q7L q7N q7F
theorem q7T {R:Type}:Z3J X (q7S (R:=R)):=Zhq xok q7E (e:=q7L) q7z q7G q7R q7G
theorem q7U (x:(Zu×Zn×ZJ×(List Zn)×(Nat→Nat)×t1i)):PE.step X q7C q7D q7y q7S 12 x=W9 x.1 x.2.1 x.2.2.1 x.2.2.2.1 x.2.2.2.2.1 x.2.2.2.2.2:=by kernel_rfl
theorem q7V:ZaX X q7C XW:=Zhr (ZgU xok q7E q7z q7T 12) fun x _ h=>((q7U x).trans (X40 x).symm).trans h
noncomputable def q7W {R:Type}:Prs S R:=PE.ps X q7C (fun x q=>(XW x).bind q) q7y
theorem q7X {R:Type}:Z7R X (q7W (R:=R)):=Zhi (e:=q7C) q7V q7z
def q7Y:StT S:=⟨(N (N (N L vO L) vt L) (some (.ptr 1 0)) (N L vO L)),(N (N L o3 L) oq L),2⟩
def q7Z:Way S:=⟨.ret,⟨(N L (some (.tup [(.agg [(.arr (.st 5) 4 (fun _=>tdf T (.st 5)))]),(.bool false)])) L),(N (N L o3 L) oq L),2⟩,[(.arr (.st 5)),.bool,(.st 20),(.lst (.st 21)),.en,(.mp (.st 23) (.int .i64))]⟩
def q80:PE S:=⟨58,4,q7Y,[.int,(.st 2),.int,(.st 20),(.lst (.st 21)),.en,(.mp (.st 23) (.int .i64))],[q7Z]⟩
noncomputable def q81:List (Nat×F7 S):=[(110,q5T),(57,q37)]
theorem q82:Z9n X q81:=⟨q5U,q38,trivial⟩
abbrev q83 {R:Type}:Z27 S R:=Zgi
theorem q84 {R:Type}:Z3J X (q83 (R:=R)):=ZgQ X
def q85:Key:=⟨[58],58,none,[0,0,1,0,0,1],0,12⟩
def q86:StT S:=⟨(N (N (N (N L none (N L vO L)) vO L) none (N L (some (.ptr 2 0)) L)) (some (.ptr 1 0)) (N (N (N L (some (.ptr 3 0)) (N L vO L)) none L) vO (N L none (N (N L vJ L) none L)))),o1q,12⟩
def q87:Way S:=⟨(.exit 0),⟨(N (N (N L vO L) none (N L (some (.ptr 2 0)) L)) (some (.ptr 1 0)) (N v1r vO L)),o1q,13⟩,[.int,.int,(.arr (.st 5)),(.st 20),(.lst (.st 21)),.en,(.mp (.st 23) (.int .i64)),(.st 2)]⟩
def q88:LE S:=⟨q85,q86,[.int,.int,.int,.int,(.lst (.st 18)),(.arr (.st 5)),(.st 20),(.lst (.st 21)),.en,(.mp (.st 23) (.int .i64)),(.st 2)],[q87]⟩
def q89 (x:tf):(Nat→ZE)→tp:=fun y0=>(x.2.1,x.2.2.2.1,y0,x.2.2.2.2.2.2.1,x.2.2.2.2.2.2.2.1,x.2.2.2.2.2.2.2.2.1,x.2.2.2.2.2.2.2.2.2.1,x.2.2.2.2.2.2.2.2.2.2)
noncomputable def q8a {R:Type} (x:tf) (k:tp→Option R):Option R:=(X1Z x.1 x.2.1 x.2.2.2.1 x.2.2.2.2.1 x.2.2.2.2.2.2.1 x.2.2.2.2.2.2.2.1 x.2.2.2.2.2.2.2.2.1 x.2.2.2.2.2.2.2.2.2.1 x.2.2.2.2.2.2.2.2.2.2 (x.2.2.1,x.2.2.2.2.2.1)).bind (fun y0=>k (x.2.1,x.2.2.2.1,y0,x.2.2.2.2.2.2.1,x.2.2.2.2.2.2.2.1,x.2.2.2.2.2.2.2.2.1,x.2.2.2.2.2.2.2.2.2.1,x.2.2.2.2.2.2.2.2.2.2))
def q8b (x:tf) (v:(Int×(Nat→ZE))):tf:=(x.1,x.2.1,v.1,x.2.2.2.1,x.2.2.2.2.1,v.2,x.2.2.2.2.2.2.1,x.2.2.2.2.2.2.2.1,x.2.2.2.2.2.2.2.2.1,x.2.2.2.2.2.2.2.2.2.1,x.2.2.2.2.2.2.2.2.2.2)
theorem q8c (x:tf):LE.step X q88 q81 q7c q83 12 x=Xt x.1 x.2.1 x.2.2.2.1 x.2.2.2.2.1 x.2.2.2.2.2.2.1 x.2.2.2.2.2.2.2.1 x.2.2.2.2.2.2.2.2.1 x.2.2.2.2.2.2.2.2.2.1 x.2.2.2.2.2.2.2.2.2.2 x.2.2.1 x.2.2.2.2.2.1 (fun w0 w1=>(Sum.inl (x.1,x.2.1,w0,x.2.2.2.1,x.2.2.2.2.1,w1,x.2.2.2.2.2.2.1,x.2.2.2.2.2.2.2.1,x.2.2.2.2.2.2.2.2.1,x.2.2.2.2.2.2.2.2.2.1,x.2.2.2.2.2.2.2.2.2.2))) (fun p0=>(Sum.inr (x.2.1,x.2.2.2.1,p0,x.2.2.2.2.2.2.1,x.2.2.2.2.2.2.2.1,x.2.2.2.2.2.2.2.2.1,x.2.2.2.2.2.2.2.2.2.1,x.2.2.2.2.2.2.2.2.2.2))):=by kernel_rfl
theorem q8e {R:Type} (x:tf) (k:tp→Option R) (r:R) (h:q8a x k=some r):∃ o,Z5s (LE.step X q88 q81 q7c q83 12) x o∧k o=some r:=by
 obtain ⟨o,h1,h2⟩:=Z0 h
 exact ⟨q89 x o,Zhl (st:=fun (x:tf)=>Xl x.1 x.2.1 x.2.2.2.1 x.2.2.2.2.1 x.2.2.2.2.2.2.1 x.2.2.2.2.2.2.2.1 x.2.2.2.2.2.2.2.2.1 x.2.2.2.2.2.2.2.2.2.1 x.2.2.2.2.2.2.2.2.2.2) (prj:=fun x=>(x.2.2.1,x.2.2.2.2.2.1)) (emb:=q8b) (embO:=q89) (fun x=>(q8c x).trans (by unfold Xl Xt;simp only [Zhd,Zh8,Zhe,Option.map_some,Option.map_none];rfl)) (fun _ _=>rfl) (fun _ _=>rfl) (fun _ _ _=>rfl) (fun _ _ _=>rfl) (fun _=>rfl) (Z1S.1 h1),by
  first
  | exact h2
  | (rcases o with o<;>exact h2)⟩
noncomputable def q8f {R:Type}:Z27 S R:=LE.ls X q88 q8a q83
theorem q8g {R:Type}:Z3J X (q8f (R:=R)):=Zhq xok q82 (e:=q88) q7d q84 q8e q84
def q8h:Key:=⟨[58],58,none,[0,0,1,0,1,1,0,1],2,19⟩
def q8i:StT S:=⟨(N (N (N v1u vO L) none (N L (some (.ptr 2 0)) (N (N (N L vK L) none L) none L))) (some (.ptr 1 0)) (N v1r vO (N L none v1t))),o1q,19⟩
def q8j:Way S:=⟨.ret,⟨v19,(N (N (N L o7 (N (N (N L (some (.cells 159 [.nilp])) L) none L) none L)) o3 o1k) oq (N L oj (N L none (N (N L od L) none L)))),102⟩,[.bool,(.arr (.st 5)),(.st 20),(.lst (.st 21)),.en,(.st 5),(.mp (.st 23) (.int .i64)),(.st 2),(.st 21)]⟩
def q8k:Way S:=⟨.ret,⟨v19,(N (N (N L o7 (N (N (N L (some (.cells 159 [(.ptr 1 0)])) L) none L) none L)) o3 o1k) oq (N L oj (N L none (N (N L od L) none L)))),102⟩,[.bool,(.arr (.st 5)),(.st 20),(.lst (.st 21)),.en,(.st 5),(.mp (.st 23) (.int .i64)),(.st 2),(.st 21)]⟩
def q8l:Way S:=⟨(.exit 2),⟨(N L none (N v1r none L)),o1q,20⟩,[(.arr (.st 5)),(.st 20),(.lst (.st 21)),.en,(.mp (.st 23) (.int .i64)),(.st 2)]⟩
def q8m:LE S:=⟨q8h,q8i,[.int,.int,(.lst (.st 21)),.int,.int,(.arr (.st 5)),(.st 20),(.lst (.st 21)),.en,(.mp (.st 23) (.int .i64)),(.st 2)],[q8j,q8k,q8l]⟩
def q8n (x:th):((Bool×(Nat→ZE)×ZJ×(List Zn)×(Nat→Nat)×ZE×t1i×Zn)⊕(Bool×(Nat→ZE)×ZJ×(List Zn)×(Nat→Nat)×ZE×t1i×Zn)⊕((Nat→ZE)×ZJ×(List Zn)×(Nat→Nat)×t1i))→t1:=Sum.elim (fun y0=>(.inl (y0.1,y0.2.1,y0.2.2.1,y0.2.2.2.1,y0.2.2.2.2.1,y0.2.2.2.2.2.1,y0.2.2.2.2.2.2.1,x.2.2.2.2.2.2.2.2.2.2,y0.2.2.2.2.2.2.2))) (Sum.elim (fun y1=>(.inr (.inl (y1.1,y1.2.1,y1.2.2.1,y1.2.2.2.1,y1.2.2.2.2.1,y1.2.2.2.2.2.1,y1.2.2.2.2.2.2.1,x.2.2.2.2.2.2.2.2.2.2,y1.2.2.2.2.2.2.2)))) (fun y2=>(.inr (.inr (y2.1,y2.2.1,y2.2.2.1,y2.2.2.2.1,y2.2.2.2.2,x.2.2.2.2.2.2.2.2.2.2)))))
noncomputable def q8o {R:Type} (x:th) (k:t1→Option R):Option R:=(X20 x.2.1 x.2.2.1 x.2.2.2.1 x.2.2.2.2.1 x.2.2.2.2.2.2.2.2.2.2 (x.1,x.2.2.2.2.2.1,x.2.2.2.2.2.2.1,x.2.2.2.2.2.2.2.1,x.2.2.2.2.2.2.2.2.1,x.2.2.2.2.2.2.2.2.2.1)).bind (Sum.elim (fun y0=>k (.inl (y0.1,y0.2.1,y0.2.2.1,y0.2.2.2.1,y0.2.2.2.2.1,y0.2.2.2.2.2.1,y0.2.2.2.2.2.2.1,x.2.2.2.2.2.2.2.2.2.2,y0.2.2.2.2.2.2.2))) (Sum.elim (fun y1=>k (.inr (.inl (y1.1,y1.2.1,y1.2.2.1,y1.2.2.2.1,y1.2.2.2.2.1,y1.2.2.2.2.2.1,y1.2.2.2.2.2.2.1,x.2.2.2.2.2.2.2.2.2.2,y1.2.2.2.2.2.2.2)))) (fun y2=>k (.inr (.inr (y2.1,y2.2.1,y2.2.2.1,y2.2.2.2.1,y2.2.2.2.2,x.2.2.2.2.2.2.2.2.2.2))))))
def q8p (x:th) (v:(Int×(Nat→ZE)×ZJ×(List Zn)×(Nat→Nat)×t1i)):th:=(v.1,x.2.1,x.2.2.1,x.2.2.2.1,x.2.2.2.2.1,v.2.1,v.2.2.1,v.2.2.2.1,v.2.2.2.2.1,v.2.2.2.2.2,x.2.2.2.2.2.2.2.2.2.2)
theorem q8q (x:th):LE.step X q8m q81 q7W q8f 12 x=Xu x.2.1 x.2.2.1 x.2.2.2.1 x.2.2.2.2.1 x.2.2.2.2.2.2.2.2.2.2 x.1 x.2.2.2.2.2.1 x.2.2.2.2.2.2.1 x.2.2.2.2.2.2.2.1 x.2.2.2.2.2.2.2.2.1 x.2.2.2.2.2.2.2.2.2.1 (fun w0 w1 w2 w3 w4 w5=>(Sum.inl (w0,x.2.1,x.2.2.1,x.2.2.2.1,x.2.2.2.2.1,w1,w2,w3,w4,w5,x.2.2.2.2.2.2.2.2.2.2))) (fun p0 p1 p2 p3 p4 p5 p6 p7=>(Sum.inr (.inl (p0,p1,p2,p3,p4,p5,p6,x.2.2.2.2.2.2.2.2.2.2,p7)))) (fun p0 p1 p2 p3 p4 p5 p6 p7=>(Sum.inr (.inr (.inl (p0,p1,p2,p3,p4,p5,p6,x.2.2.2.2.2.2.2.2.2.2,p7))))) (fun p0 p1 p2 p3 p4=>(Sum.inr (.inr (.inr (p0,p1,p2,p3,p4,x.2.2.2.2.2.2.2.2.2.2))))):=by kernel_rfl
theorem q8s {R:Type} (x:th) (k:t1→Option R) (r:R) (h:q8o x k=some r):∃ o,Z5s (LE.step X q8m q81 q7W q8f 12) x o∧k o=some r:=by
 obtain ⟨o,h1,h2⟩:=Z0 h
 exact ⟨q8n x o,Zhl (st:=fun (x:th)=>Xm x.2.1 x.2.2.1 x.2.2.2.1 x.2.2.2.2.1 x.2.2.2.2.2.2.2.2.2.2) (prj:=fun x=>(x.1,x.2.2.2.2.2.1,x.2.2.2.2.2.2.1,x.2.2.2.2.2.2.2.1,x.2.2.2.2.2.2.2.2.1,x.2.2.2.2.2.2.2.2.2.1)) (emb:=q8p) (embO:=q8n) (fun x=>(q8q x).trans (by unfold Xm Xu;simp only [Zhd,Zh8,Zhe,Option.map_some,Option.map_none];rfl)) (fun _ _=>rfl) (fun _ _=>rfl) (fun _ _ _=>rfl) (fun _ _ _=>rfl) (fun _=>rfl) (Z1S.1 h1),by
  first
  | exact h2
  | (rcases o with o|o|o<;>exact h2)⟩
noncomputable def q8t {R:Type}:Z27 S R:=LE.ls X q8m q8o q8f
theorem q8u {R:Type}:Z3J X (q8t (R:=R)):=Zhq xok q82 (e:=q8m) q7X q8g q8s q8g
theorem q8v (x:(Int×Zu×Int×ZJ×(List Zn)×(Nat→Nat)×t1i)):PE.step X q80 q81 q7W q8t 12 x=WE x.1 x.2.1 x.2.2.1 x.2.2.2.1 x.2.2.2.2.1 x.2.2.2.2.2.1 x.2.2.2.2.2.2:=by kernel_rfl
theorem q8w:ZaX X q80 Wz:=Zhr (ZgU xok q82 q7X q8u 12) fun x _ h=>((q8v x).trans (X4j x).symm).trans h
noncomputable def q8x {R:Type}:Prs S R:=PE.ps X q80 (fun x q=>(Wz x).bind q) q7W
theorem q8y {R:Type}:Z7R X (q8x (R:=R)):=Zhi (e:=q80) q8w q7X
def q8z:StT S:=⟨(N L (some (.ptr 1 0)) L),(N (N L o3 L) oq L),2⟩
def q8A:Way S:=⟨.ret,⟨(N L (some (.rs 2 0)) L),(N (N L o3 L) oq (N L oB L)),3⟩,[(.st 20),(.lst (.st 21)),.en,(.mp (.st 23) (.int .i64)),(.lst (.st 2))]⟩
def q8B:PE S:=⟨36,1,q8z,[(.st 20),(.lst (.st 21)),.en,(.mp (.st 23) (.int .i64))],[q8A]⟩
noncomputable def q8C:List (Nat×F7 S):=[(110,q5T),(57,q37)]
theorem q8D:Z9n X q8C:=⟨q5U,q38,trivial⟩
abbrev q8E {R:Type}:Z27 S R:=Zgi
theorem q8F {R:Type}:Z3J X (q8E (R:=R)):=ZgQ X
def q8G:Key:=⟨[108,0,36],108,none,[0,0,1,0,0,1,0,0,1],2,34⟩
def q8H:StT S:=⟨(N (N (N L vO L) (some (.ptr 6 0)) L) (some (.yld 11)) (N (N L vO L) none L)),oY,35⟩
def q8I:Way S:=⟨(.exit 2),⟨v1h,oY,42⟩,[.int,(.st 20),(.lst (.st 21)),.en,(.mp (.st 23) (.int .i64)),(.lst (.st 2))]⟩
def q8J:LE S:=⟨q8G,q8H,[.int,.int,(.st 20),(.lst (.st 21)),.en,(.mp (.st 23) (.int .i64)),(.lst (.st 2))],[q8I]⟩
def q8K (x:tt):(ZJ×(List Zn)×(Nat→Nat)×t1i×(List Zu))→ty:=fun y0=>(x.1,y0.1,y0.2.1,y0.2.2.1,y0.2.2.2.1,y0.2.2.2.2)
noncomputable def q8L {R:Type} (x:tt) (k:ty→Option R):Option R:=(XC x.1 (x.2.1,x.2.2.1,x.2.2.2.1,x.2.2.2.2.1,x.2.2.2.2.2.1,x.2.2.2.2.2.2)).bind (fun y0=>k (x.1,y0.1,y0.2.1,y0.2.2.1,y0.2.2.2.1,y0.2.2.2.2))
def q8M (x:tt) (v:ty):tt:=(x.1,v.1,v.2.1,v.2.2.1,v.2.2.2.1,v.2.2.2.2.1,v.2.2.2.2.2)
theorem q8N (x:tt):LE.step X q8J q8C q8x q8E 12 x=Xd x.1 x.2.1 x.2.2.1 x.2.2.2.1 x.2.2.2.2.1 x.2.2.2.2.2.1 x.2.2.2.2.2.2 (fun w0 w1 w2 w3 w4 w5=>(Sum.inl (x.1,w0,w1,w2,w3,w4,w5))) (fun p0 p1 p2 p3 p4=>(Sum.inr (x.1,p0,p1,p2,p3,p4))):=by kernel_rfl
theorem q8P {R:Type} (x:tt) (k:ty→Option R) (r:R) (h:q8L x k=some r):∃ o,Z5s (LE.step X q8J q8C q8x q8E 12) x o∧k o=some r:=by
 obtain ⟨o,h1,h2⟩:=Z0 h
 exact ⟨q8K x o,Zhl (st:=fun (x:tt)=>Xa x.1) (prj:=fun x=>(x.2.1,x.2.2.1,x.2.2.2.1,x.2.2.2.2.1,x.2.2.2.2.2.1,x.2.2.2.2.2.2)) (emb:=q8M) (embO:=q8K) (fun x=>(q8N x).trans (by unfold Xa Xd;simp only [Zhd,Zh8,Zhe,Option.map_some,Option.map_none];rfl)) (fun _ _=>rfl) (fun _ _=>rfl) (fun _ _ _=>rfl) (fun _ _ _=>rfl) (fun _=>rfl) (Z1S.1 h1),by
  first
  | exact h2
  | (rcases o with o<;>exact h2)⟩
noncomputable def q8Q {R:Type}:Z27 S R:=LE.ls X q8J q8L q8E
theorem q8R {R:Type}:Z3J X (q8Q (R:=R)):=Zhq xok q8D (e:=q8J) q8y q8F q8P q8F
def q8S:Key:=⟨[108,0,36],108,none,[0,0,1],0,19⟩
def q8T:StT S:=⟨v1h,o17,20⟩
def q8U:Way S:=⟨(.exit 0),⟨L,o17,27⟩,[(.lst (.st 2)),(.st 20),(.lst (.st 21)),.en,(.mp (.st 23) (.int .i64))]⟩
def q8V:LE S:=⟨q8S,q8T,[.int,(.lst (.st 2)),(.st 20),(.lst (.st 21)),.en,(.mp (.st 23) (.int .i64))],[q8U]⟩
def q8W (x:tz):tC→tC:=fun y0=>(y0.1,y0.2.1,y0.2.2.1,y0.2.2.2.1,y0.2.2.2.2)
noncomputable def q8X {R:Type} (x:tz) (k:tC→Option R):Option R:=(XB (x.1,x.2.1,x.2.2.1,x.2.2.2.1,x.2.2.2.2.1,x.2.2.2.2.2)).bind (fun y0=>k (y0.1,y0.2.1,y0.2.2.1,y0.2.2.2.1,y0.2.2.2.2))
def q8Y (x:tz) (v:tz):tz:=(v.1,v.2.1,v.2.2.1,v.2.2.2.1,v.2.2.2.2.1,v.2.2.2.2.2)
theorem q8Z (x:tz):LE.step X q8V q8C q8x q8Q 12 x=Xc x.1 x.2.1 x.2.2.1 x.2.2.2.1 x.2.2.2.2.1 x.2.2.2.2.2 (fun w0 w1 w2 w3 w4 w5=>(Sum.inl (w0,w1,w2,w3,w4,w5))) (fun p0 p1 p2 p3 p4=>(Sum.inr (p0,p1,p2,p3,p4))):=by kernel_rfl
theorem q91 {R:Type} (x:tz) (k:tC→Option R) (r:R) (h:q8X x k=some r):∃ o,Z5s (LE.step X q8V q8C q8x q8Q 12) x o∧k o=some r:=by
 obtain ⟨o,h1,h2⟩:=Z0 h
 exact ⟨q8W x o,Zhl (st:=fun (x:tz)=>X9) (prj:=fun x=>(x.1,x.2.1,x.2.2.1,x.2.2.2.1,x.2.2.2.2.1,x.2.2.2.2.2)) (emb:=q8Y) (embO:=q8W) (fun x=>(q8Z x).trans (by unfold X9 Xc;simp only [Zhd,Zh8,Zhe,Option.map_some,Option.map_none];rfl)) (fun _ _=>rfl) (fun _ _=>rfl) (fun _ _ _=>rfl) (fun _ _ _=>rfl) (fun _=>rfl) (Z1S.1 h1),by
  first
  | exact h2
  | (rcases o with o<;>exact h2)⟩
noncomputable def q92 {R:Type}:Z27 S R:=LE.ls X q8V q8X q8Q
theorem q93 {R:Type}:Z3J X (q92 (R:=R)):=Zhq xok q8D (e:=q8V) q8y q8R q91 q8R
theorem q94 (x:tM):PE.step X q8B q8C q8x q92 12 x=Xv x.1 x.2.1 x.2.2.1 x.2.2.2:=by kernel_rfl
theorem q95:ZaX X q8B XI:=Zhr (ZgU xok q8D q8y q93 12) fun x _ h=>((q94 x).trans (X3b x).symm).trans h
noncomputable def q96 {R:Type}:Prs S R:=PE.ps X q8B (fun x q=>(XI x).bind q) q8x
theorem q97 {R:Type}:Z7R X (q96 (R:=R)):=Zhi (e:=q8B) q95 q8y
noncomputable def q98:List (Nat×F7 S):=[(29,q4C),(57,q37),(82,q53),(110,q5T)]
theorem q99:Z9n X (q98):=⟨q4D,q38,q54,q5U,trivial⟩
abbrev q9a {R:Type}:Z27 S R:=Zgi
theorem q9b {R:Type}:Z3J X (q9a (R:=R)):=ZgQ X
theorem q9c (x0:ZJ) (x1:List Zn):Zhs X q98 [(.st 20),(.sl (.st 21))] [(.sl (.st 2)),(.int .i64)] q96 q9a 12 9 (x0,x1,())=X2l x0 x1:=by kernel_rfl
noncomputable def q9d:F7 S:=⟨[(.st 20),(.sl (.st 21))],[(.sl (.st 2)),(.int .i64)],fun xs=>X5b xs.1 xs.2.1⟩
theorem q9e:Z7Q X 9 q9d:=Zho (Zhn xok q99 q97 q9b 12 9) fun xs _ h=>((q9c xs.1 xs.2.1).trans (X69 xs.1 xs.2.1).symm).trans h
noncomputable def q9f:List (Nat×F7 S):=[]
theorem q9g:Z9n X (q9f):=trivial
abbrev q9h {R:Type}:Z27 S R:=Zgi
theorem q9i {R:Type}:Z3J X (q9h (R:=R)):=ZgQ X
theorem q9j (x0:Int) (x1:Int) (x2:Int):Zhs X q9f [(.int .i64),(.int .i64),(.int .i64)] [.bool] q96 q9h 12 106 (x0,x1,x2,())=X1P x0 x1 x2:=by kernel_rfl
noncomputable def q9k:F7 S:=⟨[(.int .i64),(.int .i64),(.int .i64)],[.bool],fun xs=>X1P xs.1 xs.2.1 xs.2.2.1⟩
theorem q9l:Z7Q X 106 q9k:=Zho (Zhn xok q9g q97 q9i 12 106) fun xs _ h=>(q9j xs.1 xs.2.1 xs.2.2.1).trans h
noncomputable def q9m:List (Nat×F7 S):=[(106,q9k)]
theorem q9n:Z9n X (q9m):=⟨q9l,trivial⟩
abbrev q9o {R:Type}:Z27 S R:=Zgi
theorem q9p {R:Type}:Z3J X (q9o (R:=R)):=ZgQ X
def q9q:Key:=⟨[100],100,none,[0,0,1,0,1,1],0,6⟩
def q9r:StT S:=⟨(N (N (N L vO L) none L) vF L),L,6⟩
def q9s:Way S:=⟨.ret,⟨(N L none (N L vN L)),L,43⟩,[.bool]⟩
def q9t:Way S:=⟨(.exit 0),⟨L,L,10⟩,[]⟩
def q9u:LE S:=⟨q9q,q9r,[.int,.str],[q9s,q9t]⟩
def q9v (x:(Int×ByteArray)):(Bool⊕Unit)→(Bool⊕Unit):=Sum.elim (fun y0=>(.inl y0)) (fun y1=>(.inr ()))
noncomputable def q9w {R:Type} (x:(Int×ByteArray)) (k:(Bool⊕Unit)→Option R):Option R:=(X4H x.2 x.1).bind (Sum.elim (fun y0=>k (.inl y0)) (fun y1=>k (.inr ())))
def q9x (x:(Int×ByteArray)) (v:Int):(Int×ByteArray):=(v,x.2)
theorem q9y (x:(Int×ByteArray)):LE.step X q9u q9m q96 q9o 12 x=X18 x.2 x.1 (fun w0=>(Sum.inl (w0,x.2))) (fun p0=>(Sum.inr (.inl p0))) (Sum.inr (.inr ())):=by kernel_rfl
theorem q9A {R:Type} (x:(Int×ByteArray)) (k:(Bool⊕Unit)→Option R) (r:R) (h:q9w x k=some r):∃ o,Z5s (LE.step X q9u q9m q96 q9o 12) x o∧k o=some r:=by
 obtain ⟨o,h1,h2⟩:=Z0 h
 exact ⟨q9v x o,Zhl (st:=fun (x:(Int×ByteArray))=>WY x.2) (prj:=fun x=>x.1) (emb:=q9x) (embO:=q9v) (fun x=>(q9y x).trans (by unfold WY X18;simp only [Zhd,Zh8,Zhe,Option.map_some,Option.map_none];rfl)) (fun _ _=>rfl) (fun _ _=>rfl) (fun _ _ _=>rfl) (fun _ _ _=>rfl) (fun _=>rfl) (Z1S.1 h1),by
  first
  | exact h2
  | (rcases o with o|o<;>exact h2)⟩
noncomputable def q9B {R:Type}:Z27 S R:=LE.ls X q9u q9w q9o
theorem q9C {R:Type}:Z3J X (q9B (R:=R)):=Zhq xok q9n (e:=q9u) q97 q9p q9A q9p
theorem q9D (x0:ByteArray):Zhs X q9m [.str] [.bool] q96 q9B 12 100 (x0,())=X4v x0:=by kernel_rfl
noncomputable def q9E:F7 S:=⟨[.str],[.bool],fun xs=>X4v xs.1⟩
theorem q9F:Z7Q X 100 q9E:=Zho (Zhn xok q9n q97 q9C 12 100) fun xs _ h=>(q9D xs.1).trans h
noncomputable def q9G:List (Nat×F7 S):=[]
theorem q9H:Z9n X (q9G):=trivial
abbrev q9I {R:Type}:Z27 S R:=Zgi
theorem q9J {R:Type}:Z3J X (q9I (R:=R)):=ZgQ X
def q9K:Key:=⟨[101],101,none,[0,0,1,0,1],0,2⟩
def q9L:StT S:=⟨(N (N L vF (N L vO L)) (some (.sl .str [])) L),L,2⟩
def q9M:Way S:=⟨.ret,⟨v1u,L,14⟩,[.int]⟩
def q9N:Way S:=⟨(.exit 0),⟨L,L,6⟩,[]⟩
def q9O:LE S:=⟨q9K,q9L,[.str,.int,(.lst .str)],[q9M,q9N]⟩
def q9P (x:tZ):(Int⊕Unit)→(Int⊕Unit):=Sum.elim (fun y0=>(.inl y0)) (fun y1=>(.inr ()))
noncomputable def q9Q {R:Type} (x:tZ) (k:(Int⊕Unit)→Option R):Option R:=(X2V x.1 x.2.2 x.2.1).bind (Sum.elim (fun y0=>k (.inl y0)) (fun y1=>k (.inr ())))
def q9R (x:tZ) (v:Int):tZ:=(x.1,v,x.2.2)
theorem q9S (x:tZ):LE.step X q9O q9G q96 q9I 12 x=WM x.1 x.2.2 x.2.1 (fun w0=>(Sum.inl (x.1,w0,x.2.2))) (fun p0=>(Sum.inr (.inl p0))) (Sum.inr (.inr ())):=by kernel_rfl
theorem q9U {R:Type} (x:tZ) (k:(Int⊕Unit)→Option R) (r:R) (h:q9Q x k=some r):∃ o,Z5s (LE.step X q9O q9G q96 q9I 12) x o∧k o=some r:=by
 obtain ⟨o,h1,h2⟩:=Z0 h
 exact ⟨q9P x o,Zhl (st:=fun (x:tZ)=>XH x.1 x.2.2) (prj:=fun x=>x.2.1) (emb:=q9R) (embO:=q9P) (fun x=>(q9S x).trans (by unfold XH WM;simp only [Zhd,Zh8,Zhe,Option.map_some,Option.map_none];rfl)) (fun _ _=>rfl) (fun _ _=>rfl) (fun _ _ _=>rfl) (fun _ _ _=>rfl) (fun _=>rfl) (Z1S.1 h1),by
  first
  | exact h2
  | (rcases o with o|o<;>exact h2)⟩
noncomputable def q9V {R:Type}:Z27 S R:=LE.ls X q9O q9Q q9I
theorem q9W {R:Type}:Z3J X (q9V (R:=R)):=Zhq xok q9H (e:=q9O) q97 q9J q9U q9J
theorem q9X (x0:List ByteArray) (x1:ByteArray):Zhs X q9G [(.sl .str),.str] [(.int .i64)] q96 q9V 12 101 (x0,x1,())=X4I x0 x1:=by kernel_rfl
noncomputable def q9Y:F7 S:=⟨[(.sl .str),.str],[(.int .i64)],fun xs=>X4I xs.1 xs.2.1⟩
theorem q9Z:Z7Q X 101 q9Y:=Zho (Zhn xok q9H q97 q9W 12 101) fun xs _ h=>(q9X xs.1 xs.2.1).trans h
noncomputable def qa0:List (Nat×F7 S):=[(100,q9E),(101,q9Y)]
theorem qa1:Z9n X (qa0):=⟨q9F,q9Z,trivial⟩
abbrev qa2 {R:Type}:Z27 S R:=Zgi
theorem qa3 {R:Type}:Z3J X (qa2 (R:=R)):=ZgQ X
theorem qa4 (x0:ByteArray) (x1:List ByteArray):Zhs X qa0 [.str,(.sl .str)] [(.int .i64)] q96 qa2 12 70 (x0,x1,())=X2o x0 x1:=by kernel_rfl
noncomputable def qa5:F7 S:=⟨[.str,(.sl .str)],[(.int .i64)],fun xs=>X2o xs.1 xs.2.1⟩
theorem qa6:Z7Q X 70 qa5:=Zho (Zhn xok qa1 q97 qa3 12 70) fun xs _ h=>(qa4 xs.1 xs.2.1).trans h
noncomputable def qa7:List (Nat×F7 S):=[(106,q9k)]
theorem qa8:Z9n X (qa7):=⟨q9l,trivial⟩
abbrev qa9 {R:Type}:Z27 S R:=Zgi
theorem qaa {R:Type}:Z3J X (qa9 (R:=R)):=ZgQ X
theorem qab (x0:Zu) (x1:Int):Zhs X qa7 [(.st 2),(.int .i64)] [.bool] q96 qa9 12 76 (x0,x1,())=X2x x0 x1:=by kernel_rfl
noncomputable def qac:F7 S:=⟨[(.st 2),(.int .i64)],[.bool],fun xs=>X2x xs.1 xs.2.1⟩
theorem qad:Z7Q X 76 qac:=Zho (Zhn xok qa8 q97 qaa 12 76) fun xs _ h=>(qab xs.1 xs.2.1).trans h
noncomputable def qae:List (Nat×F7 S):=[(106,q9k)]
theorem qaf:Z9n X (qae):=⟨q9l,trivial⟩
abbrev qag {R:Type}:Z27 S R:=Zgi
theorem qah {R:Type}:Z3J X (qag (R:=R)):=ZgQ X
def qai:Key:=⟨[98],98,none,[0,0,1,0,1,1],0,6⟩
def qaj:StT S:=⟨(N (N (N L vO L) none L) (some (.sl (.st 3) [])) L),L,6⟩
def qak:Way S:=⟨.ret,⟨(N L none (N L vO L)),L,27⟩,[.int]⟩
def qal:Way S:=⟨.ret,⟨(N L none (N L vO L)),L,43⟩,[.int]⟩
def qam:Way S:=⟨(.exit 0),⟨L,L,10⟩,[]⟩
def qan:LE S:=⟨qai,qaj,[.int,(.lst (.st 3))],[qak,qal,qam]⟩
def qao (x:(Int×(List Zk))):(Int⊕Int⊕Unit)→(Int⊕Int⊕Unit):=Sum.elim (fun y0=>(.inl y0)) (Sum.elim (fun y1=>(.inr (.inl y1))) (fun y2=>(.inr (.inr ()))))
noncomputable def qap {R:Type} (x:(Int×(List Zk))) (k:(Int⊕Int⊕Unit)→Option R):Option R:=(X45 x.2 x.1).bind (Sum.elim (fun y0=>k (.inl y0)) (Sum.elim (fun y1=>k (.inr (.inl y1))) (fun y2=>k (.inr (.inr ())))))
def qaq (x:(Int×(List Zk))) (v:Int):(Int×(List Zk)):=(v,x.2)
theorem qar (x:(Int×(List Zk))):LE.step X qan qae q96 qag 12 x=Wd x.2 x.1 (fun w0=>(Sum.inl (w0,x.2))) (fun p0=>(Sum.inr (.inl p0))) (fun p0=>(Sum.inr (.inr (.inl p0)))) (Sum.inr (.inr (.inr ()))):=by kernel_rfl
theorem qat {R:Type} (x:(Int×(List Zk))) (k:(Int⊕Int⊕Unit)→Option R) (r:R) (h:qap x k=some r):∃ o,Z5s (LE.step X qan qae q96 qag 12) x o∧k o=some r:=by
 obtain ⟨o,h1,h2⟩:=Z0 h
 exact ⟨qao x o,Zhl (st:=fun (x:(Int×(List Zk)))=>W0 x.2) (prj:=fun x=>x.1) (emb:=qaq) (embO:=qao) (fun x=>(qar x).trans (by unfold W0 Wd;simp only [Zhd,Zh8,Zhe,Option.map_some,Option.map_none];rfl)) (fun _ _=>rfl) (fun _ _=>rfl) (fun _ _ _=>rfl) (fun _ _ _=>rfl) (fun _=>rfl) (Z1S.1 h1),by
  first
  | exact h2
  | (rcases o with o|o|o<;>exact h2)⟩
noncomputable def qau {R:Type}:Z27 S R:=LE.ls X qan qap qag
theorem qav {R:Type}:Z3J X (qau (R:=R)):=Zhq xok qaf (e:=qan) q97 qah qat qah
theorem qaw (x0:List Zk):Zhs X qae [(.sl (.st 3))] [(.int .i64)] q96 qau 12 98 (x0,())=X2y x0:=by kernel_rfl
noncomputable def qax:F7 S:=⟨[(.sl (.st 3))],[(.int .i64)],fun xs=>X2y xs.1⟩
theorem qay:Z7Q X 98 qax:=Zho (Zhn xok qaf q97 qav 12 98) fun xs _ h=>(qaw xs.1).trans h
noncomputable def qaz:List (Nat×F7 S):=[(106,q9k)]
theorem qaA:Z9n X (qaz):=⟨q9l,trivial⟩
abbrev qaB {R:Type}:Z27 S R:=Zgi
theorem qaC {R:Type}:Z3J X (qaB (R:=R)):=ZgQ X
def qaD:Key:=⟨[102],102,none,[0,0,1,0,1,1],0,3⟩
def qaE:StT S:=⟨(N (N (N (N L vO L) none L) vO L) (some (.sl (.st 5) [])) (N (N (N L vO L) none L) vO L)),L,3⟩
def qaF:Way S:=⟨.ret,⟨(N L none (N L none (N L vO L))),L,28⟩,[.int]⟩
def qaG:Way S:=⟨(.exit 0),⟨(N v1t none L),L,7⟩,[.int]⟩
def qaH:LE S:=⟨qaD,qaE,[.int,.int,(.lst (.st 5)),.int,.int],[qaF,qaG]⟩
def qaI (x:tX):(Int⊕Int)→(Int⊕Int):=Sum.elim (fun y0=>(.inl y0)) (fun y1=>(.inr y1))
noncomputable def qaJ {R:Type} (x:tX) (k:(Int⊕Int)→Option R):Option R:=(X43 x.2.1 x.2.2.1 x.2.2.2.2 (x.1,x.2.2.2.1)).bind (Sum.elim (fun y0=>k (.inl y0)) (fun y1=>k (.inr y1)))
def qaK (x:tX) (v:(Int×Int)):tX:=(v.1,x.2.1,x.2.2.1,v.2,x.2.2.2.2)
theorem qaL (x:tX):LE.step X qaH qaz q96 qaB 12 x=Wb x.2.1 x.2.2.1 x.2.2.2.2 x.1 x.2.2.2.1 (fun w0 w1=>(Sum.inl (w0,x.2.1,x.2.2.1,w1,x.2.2.2.2))) (fun p0=>(Sum.inr (.inl p0))) (fun p0=>(Sum.inr (.inr p0))):=by kernel_rfl
theorem qaN {R:Type} (x:tX) (k:(Int⊕Int)→Option R) (r:R) (h:qaJ x k=some r):∃ o,Z5s (LE.step X qaH qaz q96 qaB 12) x o∧k o=some r:=by
 obtain ⟨o,h1,h2⟩:=Z0 h
 exact ⟨qaI x o,Zhl (st:=fun (x:tX)=>XY x.2.1 x.2.2.1 x.2.2.2.2) (prj:=fun x=>(x.1,x.2.2.2.1)) (emb:=qaK) (embO:=qaI) (fun x=>(qaL x).trans (by unfold XY Wb;simp only [Zhd,Zh8,Zhe,Option.map_some,Option.map_none];rfl)) (fun _ _=>rfl) (fun _ _=>rfl) (fun _ _ _=>rfl) (fun _ _ _=>rfl) (fun _=>rfl) (Z1S.1 h1),by
  first
  | exact h2
  | (rcases o with o|o<;>exact h2)⟩
noncomputable def qaO {R:Type}:Z27 S R:=LE.ls X qaH qaJ qaB
theorem qaP {R:Type}:Z3J X (qaO (R:=R)):=Zhq xok qaA (e:=qaH) q97 qaC qaN qaC
theorem qaQ (x0:List ZE) (x1:Int) (x2:Int):Zhs X qaz [(.sl (.st 5)),(.int .i64),(.int .i64)] [(.int .i64)] q96 qaO 12 102 (x0,x1,x2,())=X23 x0 x1 x2:=by kernel_rfl
noncomputable def qaR:F7 S:=⟨[(.sl (.st 5)),(.int .i64),(.int .i64)],[(.int .i64)],fun xs=>X23 xs.1 xs.2.1 xs.2.2.1⟩
theorem qaS:Z7Q X 102 qaR:=Zho (Zhn xok qaA q97 qaP 12 102) fun xs _ h=>(qaQ xs.1 xs.2.1 xs.2.2.1).trans h
noncomputable def qaT:List (Nat×F7 S):=[(102,qaR)]
theorem qaU:Z9n X (qaT):=⟨qaS,trivial⟩
abbrev qaV {R:Type}:Z27 S R:=Zgi
theorem qaW {R:Type}:Z3J X (qaV (R:=R)):=ZgQ X
theorem qaX (x0:ZB) (x1:Int) (x2:Int):Zhs X qaT [(.st 6),(.int .i64),(.int .i64)] [(.int .i64)] q96 qaV 12 123 (x0,x1,x2,())=X50 x0 x1 x2:=by kernel_rfl
noncomputable def qaY:F7 S:=⟨[(.st 6),(.int .i64),(.int .i64)],[(.int .i64)],fun xs=>X50 xs.1 xs.2.1 xs.2.2.1⟩
theorem qaZ:Z7Q X 123 qaY:=Zho (Zhn xok qaU q97 qaW 12 123) fun xs _ h=>(qaX xs.1 xs.2.1 xs.2.2.1).trans h
noncomputable def qb0:List (Nat×F7 S):=[]
theorem qb1:Z9n X (qb0):=trivial
abbrev qb2 {R:Type}:Z27 S R:=Zgi
theorem qb3 {R:Type}:Z3J X (qb2 (R:=R)):=ZgQ X
theorem qb4 (x0:Zu) (x1:Zu):Zhs X qb0 [(.st 2),(.st 2)] [(.st 2)] q96 qb2 12 88 (x0,x1,())=X7e x0 x1:=by kernel_rfl
noncomputable def qb5:F7 S:=⟨[(.st 2),(.st 2)],[(.st 2)],fun xs=>X7e xs.1 xs.2.1⟩
theorem qb6:Z7Q X 88 qb5:=Zho (Zhn xok qb1 q97 qb3 12 88) fun xs _ h=>(qb4 xs.1 xs.2.1).trans h
noncomputable def qb7:List (Nat×F7 S):=[]
theorem qb8:Z9n X (qb7):=trivial
abbrev qb9 {R:Type}:Z27 S R:=Zgi
theorem qba {R:Type}:Z3J X (qb9 (R:=R)):=ZgQ X
theorem qbb (x0:Zu) (x1:Zu):Zhs X qb7 [(.st 2),(.st 2)] [(.int .i64)] q96 qb9 12 112 (x0,x1,())=X7d x0 x1:=by kernel_rfl
noncomputable def qbc:F7 S:=⟨[(.st 2),(.st 2)],[(.int .i64)],fun xs=>X7d xs.1 xs.2.1⟩
theorem qbd:Z7Q X 112 qbc:=Zho (Zhn xok qb8 q97 qba 12 112) fun xs _ h=>(qbb xs.1 xs.2.1).trans h
noncomputable def qbe:List (Nat×F7 S):=[(88,qb5),(112,qbc)]
theorem qbf:Z9n X (qbe):=⟨qb6,qbd,trivial⟩
abbrev qbg {R:Type}:Z27 S R:=Zgi
theorem qbh {R:Type}:Z3J X (qbg (R:=R)):=ZgQ X
def qbi:Key:=⟨[124],124,none,[0,0,1,1,0,0,1,0,0,1,0,1],2,13⟩
def qbj:StT S:=⟨(N (N (N L vO L) none (N L vO L)) vL (N (N L vO L) none L)),L,13⟩
def qbk:Way S:=⟨.ret,⟨(N L none (N L vN L)),L,48⟩,[.bool]⟩
def qbl:Way S:=⟨(.exit 2),⟨(N (N (N L vO L) none L) vL L),L,17⟩,[.int,(.lst (.st 2))]⟩
def qbm:LE S:=⟨qbi,qbj,[.int,.int,(.lst (.st 2)),.int],[qbk,qbl]⟩
def qbn (x:t19):(Bool⊕Unit)→(Bool⊕(Int×(List Zu))):=Sum.elim (fun y0=>(.inl y0)) (fun y1=>(.inr (x.1,x.2.2.1)))
noncomputable def qbo {R:Type} (x:t19) (k:(Bool⊕(Int×(List Zu)))→Option R):Option R:=(X24 x.1 x.2.2.1 x.2.2.2 x.2.1).bind (Sum.elim (fun y0=>k (.inl y0)) (fun y1=>k (.inr (x.1,x.2.2.1))))
def qbp (x:t19) (v:Int):t19:=(x.1,v,x.2.2.1,x.2.2.2)
theorem qbq (x:t19):LE.step X qbm qbe q96 qbg 12 x=WO x.1 x.2.2.1 x.2.2.2 x.2.1 (fun w0=>(Sum.inl (x.1,w0,x.2.2.1,x.2.2.2))) (fun p0=>(Sum.inr (.inl p0))) (Sum.inr (.inr (x.1,x.2.2.1))):=by kernel_rfl
theorem qbs {R:Type} (x:t19) (k:(Bool⊕(Int×(List Zu)))→Option R) (r:R) (h:qbo x k=some r):∃ o,Z5s (LE.step X qbm qbe q96 qbg 12) x o∧k o=some r:=by
 obtain ⟨o,h1,h2⟩:=Z0 h
 exact ⟨qbn x o,Zhl (st:=fun (x:t19)=>Wu x.1 x.2.2.1 x.2.2.2) (prj:=fun x=>x.2.1) (emb:=qbp) (embO:=qbn) (fun x=>(qbq x).trans (by unfold Wu WO;simp only [Zhd,Zh8,Zhe,Option.map_some,Option.map_none];rfl)) (fun _ _=>rfl) (fun _ _=>rfl) (fun _ _ _=>rfl) (fun _ _ _=>rfl) (fun _=>rfl) (Z1S.1 h1),by
  first
  | exact h2
  | (rcases o with o|o<;>exact h2)⟩
noncomputable def qbt {R:Type}:Z27 S R:=LE.ls X qbm qbo qbg
theorem qbu {R:Type}:Z3J X (qbt (R:=R)):=Zhq xok qbf (e:=qbm) q97 qbh qbs qbh
def qbv:Key:=⟨[124],124,none,[0,0,1,0,1],0,2⟩
def qbw:StT S:=⟨(N (N (N L vO L) none L) vL L),L,2⟩
def qbx:Way S:=⟨.ret,⟨(N L none (N L vN L)),L,48⟩,[.bool]⟩
def qby:Way S:=⟨(.exit 0),⟨L,L,6⟩,[]⟩
def qbz:LE S:=⟨qbv,qbw,[.int,(.lst (.st 2))],[qbx,qby]⟩
def qbA (x:(Int×(List Zu))):(Bool⊕Unit)→(Bool⊕Unit):=Sum.elim (fun y0=>(.inl y0)) (fun y1=>(.inr ()))
noncomputable def qbB {R:Type} (x:(Int×(List Zu))) (k:(Bool⊕Unit)→Option R):Option R:=(X4w x.2 x.1).bind (Sum.elim (fun y0=>k (.inl y0)) (fun y1=>k (.inr ())))
def qbC (x:(Int×(List Zu))) (v:Int):(Int×(List Zu)):=(v,x.2)
theorem qbD (x:(Int×(List Zu))):LE.step X qbz qbe q96 qbt 12 x=WN x.2 x.1 (fun w0=>(Sum.inl (w0,x.2))) (fun p0=>(Sum.inr (.inl p0))) (Sum.inr (.inr ())):=by kernel_rfl
theorem qbF {R:Type} (x:(Int×(List Zu))) (k:(Bool⊕Unit)→Option R) (r:R) (h:qbB x k=some r):∃ o,Z5s (LE.step X qbz qbe q96 qbt 12) x o∧k o=some r:=by
 obtain ⟨o,h1,h2⟩:=Z0 h
 exact ⟨qbA x o,Zhl (st:=fun (x:(Int×(List Zu)))=>Wt x.2) (prj:=fun x=>x.1) (emb:=qbC) (embO:=qbA) (fun x=>(qbD x).trans (by unfold Wt WN;simp only [Zhd,Zh8,Zhe,Option.map_some,Option.map_none];rfl)) (fun _ _=>rfl) (fun _ _=>rfl) (fun _ _ _=>rfl) (fun _ _ _=>rfl) (fun _=>rfl) (Z1S.1 h1),by
  first
  | exact h2
  | (rcases o with o|o<;>exact h2)⟩
noncomputable def qbG {R:Type}:Z27 S R:=LE.ls X qbz qbB qbt
theorem qbH {R:Type}:Z3J X (qbG (R:=R)):=Zhq xok qbf (e:=qbz) q97 qbu qbF qbu
theorem qbI (x0:List Zu):Zhs X qbe [(.sl (.st 2))] [.bool] q96 qbG 12 124 (x0,())=X3P x0:=by kernel_rfl
noncomputable def qbJ:F7 S:=⟨[(.sl (.st 2))],[.bool],fun xs=>X3P xs.1⟩
theorem qbK:Z7Q X 124 qbJ:=Zho (Zhn xok qbf q97 qbH 12 124) fun xs _ h=>(qbI xs.1).trans h
noncomputable def qbL:List (Nat×F7 S):=[(106,q9k),(76,qac),(123,qaY),(124,qbJ)]
theorem qbM:Z9n X (qbL):=⟨q9l,qad,qaZ,qbK,trivial⟩
abbrev qbN {R:Type}:Z27 S R:=Zgi
theorem qbO {R:Type}:Z3J X (qbN (R:=R)):=ZgQ X
def qbP:Key:=⟨[99],99,none,[0,0,1,0,1,1],0,8⟩
def qbQ:StT S:=⟨(N (N (N L vO L) (some (.ptr 0 0)) L) none L),(N L oh L),8⟩
def qbR:Way S:=⟨.ret,⟨(N L none (N L vO L)),(N L oh L),21⟩,[.int,(.st 7)]⟩
def qbS:Way S:=⟨(.exit 0),⟨(N (N L (some (.ptr 0 0)) L) none L),(N L oh L),13⟩,[(.st 7)]⟩
def qbT:LE S:=⟨qbP,qbQ,[.int,(.st 7)],[qbR,qbS]⟩
def qbU (x:(Int×CtSand)):(Int⊕Unit)→((Int×CtSand)⊕CtSand):=Sum.elim (fun y0=>(.inl (y0,x.2))) (fun y1=>(.inr x.2))
noncomputable def qbV {R:Type} (x:(Int×CtSand)) (k:((Int×CtSand)⊕CtSand)→Option R):Option R:=(X3p x.2 x.1).bind (Sum.elim (fun y0=>k (.inl (y0,x.2))) (fun y1=>k (.inr x.2)))
def qbW (x:(Int×CtSand)) (v:Int):(Int×CtSand):=(v,x.2)
theorem qbX (x:(Int×CtSand)):LE.step X qbT qbL q96 qbN 12 x=X19 x.2 x.1 (fun w0=>(Sum.inl (w0,x.2))) (fun p0=>(Sum.inr (.inl (p0,x.2)))) (Sum.inr (.inr x.2)):=by kernel_rfl
theorem qbZ {R:Type} (x:(Int×CtSand)) (k:((Int×CtSand)⊕CtSand)→Option R) (r:R) (h:qbV x k=some r):∃ o,Z5s (LE.step X qbT qbL q96 qbN 12) x o∧k o=some r:=by
 obtain ⟨o,h1,h2⟩:=Z0 h
 exact ⟨qbU x o,Zhl (st:=fun (x:(Int×CtSand))=>W1 x.2) (prj:=fun x=>x.1) (emb:=qbW) (embO:=qbU) (fun x=>(qbX x).trans (by unfold W1 X19;simp only [Zhd,Zh8,Zhe,Option.map_some,Option.map_none];rfl)) (fun _ _=>rfl) (fun _ _=>rfl) (fun _ _ _=>rfl) (fun _ _ _=>rfl) (fun _=>rfl) (Z1S.1 h1),by
  first
  | exact h2
  | (rcases o with o|o<;>exact h2)⟩
noncomputable def qc0 {R:Type}:Z27 S R:=LE.ls X qbT qbV qbN
theorem qc1 {R:Type}:Z3J X (qc0 (R:=R)):=Zhq xok qbM (e:=qbT) q97 qbO qbZ qbO
theorem qc2 (x0:CtSand):Zhs X qbL [(.st 7)] [(.int .i64)] q96 qc0 12 99 (x0,())=X4x x0:=by kernel_rfl
noncomputable def qc3:F7 S:=⟨[(.st 7)],[(.int .i64)],fun xs=>X4x xs.1⟩
theorem qc4:Z7Q X 99 qc3:=Zho (Zhn xok qbM q97 qc1 12 99) fun xs _ h=>(qc2 xs.1).trans h
noncomputable def qc5:List (Nat×F7 S):=[(70,qa5),(76,qac),(98,qax),(99,qc3)]
theorem qc6:Z9n X (qc5):=⟨qa6,qad,qay,qc4,trivial⟩
abbrev qc7 {R:Type}:Z27 S R:=Zgi
theorem qc8 {R:Type}:Z3J X (qc7 (R:=R)):=ZgQ X
def qc9:Key:=⟨[68],68,none,[0,0,1,0,1,1,1],0,10⟩
def qca:StT S:=⟨(N (N L (some (.ptr 0 0)) (N L (some (.rs 10 0)) L)) none (N L none (N L vO L))),(N L ok o1A),11⟩
def qcb:Way S:=⟨.ret,⟨v1n,oX,52⟩,[.int,.int,.int,(.lst .str),(.st 4),(.st 8),(.lst .str)]⟩
def qcc:Way S:=⟨.ret,⟨v1n,oX,55⟩,[.int,.int,.int,(.lst .str),(.st 4),(.st 8),(.lst .str)]⟩
def qcd:Way S:=⟨.ret,⟨v1n,oX,51⟩,[.int,.int,.int,(.lst .str),(.st 4),(.st 8),(.lst .str)]⟩
def qce:Way S:=⟨(.exit 0),⟨(N (N L (some (.ptr 0 0)) (N L (some (.rs 10 0)) L)) none L),(N L ok o1A),16⟩,[(.st 8),(.lst .str)]⟩
def qcf:LE S:=⟨qc9,qca,[.int,(.st 8),(.lst .str)],[qcb,qcc,qcd,qce]⟩
def qcg (x:t14):(tN⊕tN⊕tN⊕(List ByteArray))→t2:=Sum.elim (fun y0=>(.inl (y0.1,y0.2.1,y0.2.2.1,y0.2.2.2.1,y0.2.2.2.2.1,x.2.1,y0.2.2.2.2.2))) (Sum.elim (fun y1=>(.inr (.inl (y1.1,y1.2.1,y1.2.2.1,y1.2.2.2.1,y1.2.2.2.2.1,x.2.1,y1.2.2.2.2.2)))) (Sum.elim (fun y2=>(.inr (.inr (.inl (y2.1,y2.2.1,y2.2.2.1,y2.2.2.2.1,y2.2.2.2.2.1,x.2.1,y2.2.2.2.2.2))))) (fun y3=>(.inr (.inr (.inr (x.2.1,y3)))))))
noncomputable def qch {R:Type} (x:t14) (k:t2→Option R):Option R:=(X4t x.2.1 (x.1,x.2.2)).bind (Sum.elim (fun y0=>k (.inl (y0.1,y0.2.1,y0.2.2.1,y0.2.2.2.1,y0.2.2.2.2.1,x.2.1,y0.2.2.2.2.2))) (Sum.elim (fun y1=>k (.inr (.inl (y1.1,y1.2.1,y1.2.2.1,y1.2.2.2.1,y1.2.2.2.2.1,x.2.1,y1.2.2.2.2.2)))) (Sum.elim (fun y2=>k (.inr (.inr (.inl (y2.1,y2.2.1,y2.2.2.1,y2.2.2.2.1,y2.2.2.2.2.1,x.2.1,y2.2.2.2.2.2))))) (fun y3=>k (.inr (.inr (.inr (x.2.1,y3))))))))
def qci (x:t14) (v:(Int×(List ByteArray))):t14:=(v.1,x.2.1,v.2)
theorem qcj (x:t14):LE.step X qcf qc5 q96 qc7 12 x=WK x.2.1 x.1 x.2.2 (fun w0 w1=>(Sum.inl (w0,x.2.1,w1))) (fun p0 p1 p2 p3 p4 p5=>(Sum.inr (.inl (p0,p1,p2,p3,p4,x.2.1,p5)))) (fun p0 p1 p2 p3 p4 p5=>(Sum.inr (.inr (.inl (p0,p1,p2,p3,p4,x.2.1,p5))))) (fun p0 p1 p2 p3 p4 p5=>(Sum.inr (.inr (.inr (.inl (p0,p1,p2,p3,p4,x.2.1,p5)))))) (fun p0=>(Sum.inr (.inr (.inr (.inr (x.2.1,p0)))))):=by kernel_rfl
theorem qcl {R:Type} (x:t14) (k:t2→Option R) (r:R) (h:qch x k=some r):∃ o,Z5s (LE.step X qcf qc5 q96 qc7 12) x o∧k o=some r:=by
 obtain ⟨o,h1,h2⟩:=Z0 h
 exact ⟨qcg x o,Zhl (st:=fun (x:t14)=>Wr x.2.1) (prj:=fun x=>(x.1,x.2.2)) (emb:=qci) (embO:=qcg) (fun x=>(qcj x).trans (by unfold Wr WK;simp only [Zhd,Zh8,Zhe,Option.map_some,Option.map_none];rfl)) (fun _ _=>rfl) (fun _ _=>rfl) (fun _ _ _=>rfl) (fun _ _ _=>rfl) (fun _=>rfl) (Z1S.1 h1),by
  first
  | exact h2
  | (rcases o with o|o|o|o<;>exact h2)⟩
noncomputable def qcm {R:Type}:Z27 S R:=LE.ls X qcf qch qc7
theorem qcn {R:Type}:Z3J X (qcm (R:=R)):=Zhq xok qc6 (e:=qcf) q97 qc8 qcl qc8
def qco:Key:=⟨[68],68,none,[0,0,1,0,1,1,1,1,1],2,21⟩
def qcp:StT S:=⟨(N (N L (some (.ptr 0 0)) (N (N L vO L) (some (.rs 21 0)) L)) none L),(N (N L none o1A) ok L),22⟩
def qcq:Way S:=⟨.ret,⟨v1n,o16,62⟩,[.int,.int,.int,(.lst .str),(.lst .str),(.st 8)]⟩
def qcr:Way S:=⟨.ret,⟨v1n,o16,55⟩,[.int,.int,.int,(.lst .str),(.lst .str),(.st 8)]⟩
def qcs:Way S:=⟨(.exit 2),⟨L,(N (N L none o1A) ok L),27⟩,[(.lst .str),(.st 8)]⟩
def qct:LE S:=⟨qco,qcp,[.int,(.lst .str),(.st 8)],[qcq,qcr,qcs]⟩
def qcu (x:t15):((Int×Int×Int×(List ByteArray)×(List ByteArray))⊕(Int×Int×Int×(List ByteArray)×(List ByteArray))⊕(List ByteArray))→ta:=Sum.elim (fun y0=>(.inl (y0.1,y0.2.1,y0.2.2.1,y0.2.2.2.1,y0.2.2.2.2,x.2.2))) (Sum.elim (fun y1=>(.inr (.inl (y1.1,y1.2.1,y1.2.2.1,y1.2.2.2.1,y1.2.2.2.2,x.2.2)))) (fun y2=>(.inr (.inr (y2,x.2.2)))))
noncomputable def qcv {R:Type} (x:t15) (k:ta→Option R):Option R:=(X22 x.2.2 (x.1,x.2.1)).bind (Sum.elim (fun y0=>k (.inl (y0.1,y0.2.1,y0.2.2.1,y0.2.2.2.1,y0.2.2.2.2,x.2.2))) (Sum.elim (fun y1=>k (.inr (.inl (y1.1,y1.2.1,y1.2.2.1,y1.2.2.2.1,y1.2.2.2.2,x.2.2)))) (fun y2=>k (.inr (.inr (y2,x.2.2))))))
def qcw (x:t15) (v:(Int×(List ByteArray))):t15:=(v.1,v.2,x.2.2)
theorem qcx (x:t15):LE.step X qct qc5 q96 qcm 12 x=WL x.2.2 x.1 x.2.1 (fun w0 w1=>(Sum.inl (w0,w1,x.2.2))) (fun p0 p1 p2 p3 p4=>(Sum.inr (.inl (p0,p1,p2,p3,p4,x.2.2)))) (fun p0 p1 p2 p3 p4=>(Sum.inr (.inr (.inl (p0,p1,p2,p3,p4,x.2.2))))) (fun p0=>(Sum.inr (.inr (.inr (p0,x.2.2))))):=by kernel_rfl
theorem qcz {R:Type} (x:t15) (k:ta→Option R) (r:R) (h:qcv x k=some r):∃ o,Z5s (LE.step X qct qc5 q96 qcm 12) x o∧k o=some r:=by
 obtain ⟨o,h1,h2⟩:=Z0 h
 exact ⟨qcu x o,Zhl (st:=fun (x:t15)=>Ws x.2.2) (prj:=fun x=>(x.1,x.2.1)) (emb:=qcw) (embO:=qcu) (fun x=>(qcx x).trans (by unfold Ws WL;simp only [Zhd,Zh8,Zhe,Option.map_some,Option.map_none];rfl)) (fun _ _=>rfl) (fun _ _=>rfl) (fun _ _ _=>rfl) (fun _ _ _=>rfl) (fun _=>rfl) (Z1S.1 h1),by
  first
  | exact h2
  | (rcases o with o|o|o<;>exact h2)⟩
noncomputable def qcA {R:Type}:Z27 S R:=LE.ls X qct qcv qcm
theorem qcB {R:Type}:Z3J X (qcA (R:=R)):=Zhq xok qc6 (e:=qct) q97 qcn qcz qcn
theorem qcC (x0:Zl):Zhs X qc5 [(.st 8)] [(.int .i64),(.int .i64),(.int .i64)] q96 qcA 12 68 (x0,())=X3N x0:=by kernel_rfl
noncomputable def qcD:F7 S:=⟨[(.st 8)],[(.int .i64),(.int .i64),(.int .i64)],fun xs=>X3N xs.1⟩
theorem qcE:Z7Q X 68 qcD:=Zho (Zhn xok qc6 q97 qcB 12 68) fun xs _ h=>(qcC xs.1).trans h
noncomputable def qcF:List (Nat×F7 S):=[]
theorem qcG:Z9n X (qcF):=trivial
abbrev qcH {R:Type}:Z27 S R:=Zgi
theorem qcI {R:Type}:Z3J X (qcH (R:=R)):=ZgQ X
theorem qcJ (x0:Int) (x1:Int) (x2:Int):Zhs X qcF [(.int .i64),(.int .i64),(.int .i64)] [.bool] q96 qcH 12 69 (x0,x1,x2,())=X3s x0 x1 x2:=by kernel_rfl
noncomputable def qcK:F7 S:=⟨[(.int .i64),(.int .i64),(.int .i64)],[.bool],fun xs=>WS xs.1 xs.2.1 xs.2.2.1⟩
theorem qcL:Z7Q X 69 qcK:=Zho (Zhn xok qcG q97 qcI 12 69) fun xs _ h=>((qcJ xs.1 xs.2.1 xs.2.2.1).trans (X6P xs.1 xs.2.1 xs.2.2.1).symm).trans h
noncomputable def qcM:List (Nat×F7 S):=[]
theorem qcN:Z9n X (qcM):=trivial
abbrev qcO {R:Type}:Z27 S R:=Zgi
theorem qcP {R:Type}:Z3J X (qcO (R:=R)):=ZgQ X
theorem qcQ (x0:Z5):Zhs X qcM [(.st 18)] [(.int .i64)] q96 qcO 12 72 (x0,())=X2N x0:=by kernel_rfl
noncomputable def qcR:F7 S:=⟨[(.st 18)],[(.int .i64)],fun xs=>X53 xs.1⟩
theorem qcS:Z7Q X 72 qcR:=Zho (Zhn xok qcN q97 qcP 12 72) fun xs _ h=>((qcQ xs.1).trans (X6y xs.1).symm).trans h
noncomputable def qcT:List (Nat×F7 S):=[(102,qaR)]
theorem qcU:Z9n X (qcT):=⟨qaS,trivial⟩
abbrev qcV {R:Type}:Z27 S R:=Zgi
theorem qcW {R:Type}:Z3J X (qcV (R:=R)):=ZgQ X
theorem qcX (x0:ZE) (x1:Int) (x2:Int):Zhs X qcT [(.st 5),(.int .i64),(.int .i64)] [(.int .i64)] q96 qcV 12 71 (x0,x1,x2,())=X34 x0 x1 x2:=by kernel_rfl
noncomputable def qcY:F7 S:=⟨[(.st 5),(.int .i64),(.int .i64)],[(.int .i64)],fun xs=>X34 xs.1 xs.2.1 xs.2.2.1⟩
theorem qcZ:Z7Q X 71 qcY:=Zho (Zhn xok qcU q97 qcW 12 71) fun xs _ h=>(qcX xs.1 xs.2.1 xs.2.2.1).trans h
noncomputable def qd0:List (Nat×F7 S):=[(102,qaR),(71,qcY),(69,qcK)]
theorem qd1:Z9n X (qd0):=⟨qaS,qcZ,qcL,trivial⟩
abbrev qd2 {R:Type}:Z27 S R:=Zgi
theorem qd3 {R:Type}:Z3J X (qd2 (R:=R)):=ZgQ X
theorem qd4 (x0:Zt):Zhs X qd0 [(.st 19)] [(.int .i64)] q96 qd2 12 73 (x0,())=X2q x0:=by kernel_rfl
noncomputable def qd5:F7 S:=⟨[(.st 19)],[(.int .i64)],fun xs=>X5g xs.1⟩
theorem qd6:Z7Q X 73 qd5:=Zho (Zhn xok qd1 q97 qd3 12 73) fun xs _ h=>((qd4 xs.1).trans (X6d xs.1).symm).trans h
noncomputable def qd7:List (Nat×F7 S):=[(68,qcD),(69,qcK),(70,qa5),(72,qcR),(71,qcY),(73,qd5)]
theorem qd8:Z9n X (qd7):=⟨qcE,qcL,qa6,qcS,qcZ,qd6,trivial⟩
abbrev qd9 {R:Type}:Z27 S R:=Zgi
theorem qda {R:Type}:Z3J X (qd9 (R:=R)):=ZgQ X
def qdb:Key:=⟨[30],30,none,[0,0,1,0,1,1,1,1,1,1],0,39⟩
def qdc:StT S:=⟨(N (N L (some (.ptr 0 0)) (N (N L vO L) none L)) none (N (N (N L (some (.rs 39 0)) L) none L) none L)),o1e,40⟩
def qdd:Way S:=⟨.ret,⟨v1n,oV,81⟩,[.int,.int,.int,(.lst .str),(.st 20),(.lst .str),(.st 18)]⟩
def qde:Way S:=⟨.ret,⟨v1n,oV,72⟩,[.int,.int,.int,(.lst .str),(.st 20),(.lst .str),(.st 18)]⟩
def qdf:Way S:=⟨(.exit 0),⟨(N (N L (some (.ptr 0 0)) L) none L),o1e,45⟩,[(.lst .str),(.st 20)]⟩
def qdg:LE S:=⟨qdb,qdc,[.int,(.lst .str),(.st 20)],[qdd,qde,qdf]⟩
def qdh (x:t1a):((Int×Int×Int×(List ByteArray)×(List ByteArray)×Z5)⊕(Int×Int×Int×(List ByteArray)×(List ByteArray)×Z5)⊕(List ByteArray))→t8:=Sum.elim (fun y0=>(.inl (y0.1,y0.2.1,y0.2.2.1,y0.2.2.2.1,x.2.2,y0.2.2.2.2.1,y0.2.2.2.2.2))) (Sum.elim (fun y1=>(.inr (.inl (y1.1,y1.2.1,y1.2.2.1,y1.2.2.2.1,x.2.2,y1.2.2.2.2.1,y1.2.2.2.2.2)))) (fun y2=>(.inr (.inr (y2,x.2.2)))))
noncomputable def qdi {R:Type} (x:t1a) (k:t8→Option R):Option R:=(X2W x.2.2 (x.1,x.2.1)).bind (Sum.elim (fun y0=>k (.inl (y0.1,y0.2.1,y0.2.2.1,y0.2.2.2.1,x.2.2,y0.2.2.2.2.1,y0.2.2.2.2.2))) (Sum.elim (fun y1=>k (.inr (.inl (y1.1,y1.2.1,y1.2.2.1,y1.2.2.2.1,x.2.2,y1.2.2.2.2.1,y1.2.2.2.2.2)))) (fun y2=>k (.inr (.inr (y2,x.2.2))))))
def qdj (x:t1a) (v:(Int×(List ByteArray))):t1a:=(v.1,v.2,x.2.2)
theorem qdk (x:t1a):LE.step X qdg qd7 q96 qd9 12 x=WP x.2.2 x.1 x.2.1 (fun w0 w1=>(Sum.inl (w0,w1,x.2.2))) (fun p0 p1 p2 p3 p4 p5=>(Sum.inr (.inl (p0,p1,p2,p3,x.2.2,p4,p5)))) (fun p0 p1 p2 p3 p4 p5=>(Sum.inr (.inr (.inl (p0,p1,p2,p3,x.2.2,p4,p5))))) (fun p0=>(Sum.inr (.inr (.inr (p0,x.2.2))))):=by kernel_rfl
theorem qdm {R:Type} (x:t1a) (k:t8→Option R) (r:R) (h:qdi x k=some r):∃ o,Z5s (LE.step X qdg qd7 q96 qd9 12) x o∧k o=some r:=by
 obtain ⟨o,h1,h2⟩:=Z0 h
 exact ⟨qdh x o,Zhl (st:=fun (x:t1a)=>Wv x.2.2) (prj:=fun x=>(x.1,x.2.1)) (emb:=qdj) (embO:=qdh) (fun x=>(qdk x).trans (by unfold Wv WP;simp only [Zhd,Zh8,Zhe,Option.map_some,Option.map_none];rfl)) (fun _ _=>rfl) (fun _ _=>rfl) (fun _ _ _=>rfl) (fun _ _ _=>rfl) (fun _=>rfl) (Z1S.1 h1),by
  first
  | exact h2
  | (rcases o with o|o|o<;>exact h2)⟩
noncomputable def qdn {R:Type}:Z27 S R:=LE.ls X qdg qdi qd9
theorem qdo {R:Type}:Z3J X (qdn (R:=R)):=Zhq xok qd8 (e:=qdg) q97 qda qdm qda
def qdp:Key:=⟨[30],30,none,[0,0,1,0,1,1,1,1,1,1,1,1],2,50⟩
def qdq:StT S:=⟨(N (N (N L none (N L vO L)) (some (.ptr 0 0)) L) none L),o1e,50⟩
def qdr:Way S:=⟨.ret,⟨v1n,o1e,69⟩,[.int,.int,.int,(.lst .str),(.st 20)]⟩
def qds:Way S:=⟨(.exit 2),⟨L,o1e,55⟩,[(.lst .str),(.st 20)]⟩
def qdt:LE S:=⟨qdp,qdq,[.int,(.lst .str),(.st 20)],[qdr,qds]⟩
def qdu (x:t1a):((Int×Int×Int)⊕Unit)→tF:=Sum.elim (fun y0=>(.inl (y0.1,y0.2.1,y0.2.2,x.2.1,x.2.2))) (fun y1=>(.inr (x.2.1,x.2.2)))
noncomputable def qdv {R:Type} (x:t1a) (k:tF→Option R):Option R:=(X2X x.2.2 x.1).bind (Sum.elim (fun y0=>k (.inl (y0.1,y0.2.1,y0.2.2,x.2.1,x.2.2))) (fun y1=>k (.inr (x.2.1,x.2.2))))
def qdw (x:t1a) (v:Int):t1a:=(v,x.2.1,x.2.2)
theorem qdx (x:t1a):LE.step X qdt qd7 q96 qdn 12 x=WQ x.2.2 x.1 (fun w0=>(Sum.inl (w0,x.2.1,x.2.2))) (fun p0 p1 p2=>(Sum.inr (.inl (p0,p1,p2,x.2.1,x.2.2)))) (Sum.inr (.inr (x.2.1,x.2.2))):=by kernel_rfl
theorem qdz {R:Type} (x:t1a) (k:tF→Option R) (r:R) (h:qdv x k=some r):∃ o,Z5s (LE.step X qdt qd7 q96 qdn 12) x o∧k o=some r:=by
 obtain ⟨o,h1,h2⟩:=Z0 h
 exact ⟨qdu x o,Zhl (st:=fun (x:t1a)=>Ww x.2.2) (prj:=fun x=>x.1) (emb:=qdw) (embO:=qdu) (fun x=>(qdx x).trans (by unfold Ww WQ;simp only [Zhd,Zh8,Zhe,Option.map_some,Option.map_none];rfl)) (fun _ _=>rfl) (fun _ _=>rfl) (fun _ _ _=>rfl) (fun _ _ _=>rfl) (fun _=>rfl) (Z1S.1 h1),by
  first
  | exact h2
  | (rcases o with o|o<;>exact h2)⟩
noncomputable def qdA {R:Type}:Z27 S R:=LE.ls X qdt qdv qdn
theorem qdB {R:Type}:Z3J X (qdA (R:=R)):=Zhq xok qd8 (e:=qdt) q97 qdo qdz qdo
theorem qdC (x0:ZJ):Zhs X qd7 [(.st 20)] [(.int .i64),(.int .i64),(.int .i64)] q96 qdA 12 30 (x0,())=X29 x0:=by kernel_rfl
noncomputable def qdD:F7 S:=⟨[(.st 20)],[(.int .i64),(.int .i64),(.int .i64)],fun xs=>X4J xs.1⟩
theorem qdE:Z7Q X 30 qdD:=Zho (Zhn xok qd8 q97 qdB 12 30) fun xs _ h=>((qdC xs.1).trans (X5R xs.1).symm).trans h
noncomputable def qdF:List (Nat×F7 S):=[]
theorem qdG:Z9n X (qdF):=trivial
abbrev qdH {R:Type}:Z27 S R:=Zgi
theorem qdI {R:Type}:Z3J X (qdH (R:=R)):=ZgQ X
def qdJ:Key:=⟨[51],51,none,[0,0,1,0,1,1],0,4⟩
def qdK:StT S:=⟨(N (N L vO (N L vO L)) none (N L (some (.ptr 0 0)) (N L vO L))),(N L og L),4⟩
def qdL:Way S:=⟨(.exit 0),⟨v1x,(N L og L),9⟩,[.int,(.st 4)]⟩
def qdM:LE S:=⟨qdJ,qdK,[.int,.int,.int,(.st 4)],[qdL]⟩
def qdN (x:t1f):Int→(Int×Zw):=fun y0=>(y0,x.2.2.2)
noncomputable def qdO {R:Type} (x:t1f) (k:(Int×Zw)→Option R):Option R:=(X3O x.1 x.2.2.2 (x.2.1,x.2.2.1)).bind (fun y0=>k (y0,x.2.2.2))
def qdP (x:t1f) (v:(Int×Int)):t1f:=(x.1,v.1,v.2,x.2.2.2)
theorem qdQ (x:t1f):LE.step X qdM qdF q96 qdH 12 x=XP x.1 x.2.2.2 x.2.1 x.2.2.1 (fun w0 w1=>(Sum.inl (x.1,w0,w1,x.2.2.2))) (fun p0=>(Sum.inr (p0,x.2.2.2))):=by kernel_rfl
theorem qdS {R:Type} (x:t1f) (k:(Int×Zw)→Option R) (r:R) (h:qdO x k=some r):∃ o,Z5s (LE.step X qdM qdF q96 qdH 12) x o∧k o=some r:=by
 obtain ⟨o,h1,h2⟩:=Z0 h
 exact ⟨qdN x o,Zhl (st:=fun (x:t1f)=>XM x.1 x.2.2.2) (prj:=fun x=>(x.2.1,x.2.2.1)) (emb:=qdP) (embO:=qdN) (fun x=>(qdQ x).trans (by unfold XM XP;simp only [Zhd,Zh8,Zhe,Option.map_some,Option.map_none];rfl)) (fun _ _=>rfl) (fun _ _=>rfl) (fun _ _ _=>rfl) (fun _ _ _=>rfl) (fun _=>rfl) (Z1S.1 h1),by
  first
  | exact h2
  | (rcases o with o<;>exact h2)⟩
noncomputable def qdT {R:Type}:Z27 S R:=LE.ls X qdM qdO qdH
theorem qdU {R:Type}:Z3J X (qdT (R:=R)):=Zhq xok qdG (e:=qdM) q97 qdI qdS qdI
theorem qdV (x0:Zw) (x1:Int):Zhs X qdF [(.st 4),(.int .i64)] [(.int .i64)] q96 qdT 12 51 (x0,x1,())=X1x x0 x1:=by kernel_rfl
noncomputable def qdW:F7 S:=⟨[(.st 4),(.int .i64)],[(.int .i64)],fun xs=>X3I xs.1 xs.2.1⟩
theorem qdX:Z7Q X 51 qdW:=Zho (Zhn xok qdG q97 qdU 12 51) fun xs _ h=>((qdV xs.1 xs.2.1).trans (X51 xs.1 xs.2.1).symm).trans h
noncomputable def qdY:List (Nat×F7 S):=[(69,qcK),(51,qdW)]
theorem qdZ:Z9n X (qdY):=⟨qcL,qdX,trivial⟩
abbrev qe0 {R:Type}:Z27 S R:=Zgi
theorem qe1 {R:Type}:Z3J X (qe0 (R:=R)):=ZgQ X
theorem qe2 (x0:ZJ) (x1:Zn):Zhs X qdY [(.st 20),(.st 21)] [(.int .i64)] q96 qe0 12 75 (x0,x1,())=X2b x0 x1:=by kernel_rfl
noncomputable def qe3:F7 S:=⟨[(.st 20),(.st 21)],[(.int .i64)],fun xs=>X4L xs.1 xs.2.1⟩
theorem qe4:Z7Q X 75 qe3:=Zho (Zhn xok qdZ q97 qe1 12 75) fun xs _ h=>((qe2 xs.1 xs.2.1).trans (X5V xs.1 xs.2.1).symm).trans h
noncomputable def qe5:List (Nat×F7 S):=[(30,qdD),(75,qe3)]
theorem qe6:Z9n X (qe5):=⟨qdE,qe4,trivial⟩
abbrev qe7 {R:Type}:Z27 S R:=Zgi
theorem qe8 {R:Type}:Z3J X (qe7 (R:=R)):=ZgQ X
def qe9:Key:=⟨[32],32,none,[0,0,1,0,1,1,1,1],0,22⟩
def qea:StT S:=⟨(N (N L vK (N (N L vO L) none L)) none (N L (some (.ptr 0 0)) L)),(N L oc L),22⟩
def qeb:Way S:=⟨.ret,⟨v1l,(N L oc L),39⟩,[.int,.int,(.st 20)]⟩
def qec:Way S:=⟨(.exit 0),⟨L,(N L oc L),26⟩,[(.st 20)]⟩
def qed:LE S:=⟨qe9,qea,[(.lst (.st 21)),.int,(.st 20)],[qeb,qec]⟩
def qee (x:t1b):((Int×Int)⊕Unit)→((Int×Int×ZJ)⊕ZJ):=Sum.elim (fun y0=>(.inl (y0.1,y0.2,x.2.2))) (fun y1=>(.inr x.2.2))
noncomputable def qef {R:Type} (x:t1b) (k:((Int×Int×ZJ)⊕ZJ)→Option R):Option R:=(X1B x.1 x.2.2 x.2.1).bind (Sum.elim (fun y0=>k (.inl (y0.1,y0.2,x.2.2))) (fun y1=>k (.inr x.2.2)))
def qeg (x:t1b) (v:Int):t1b:=(x.1,v,x.2.2)
theorem qeh (x:t1b):LE.step X qed qe5 q96 qe7 12 x=Xi x.1 x.2.2 x.2.1 (fun w0=>(Sum.inl (x.1,w0,x.2.2))) (fun p0 p1=>(Sum.inr (.inl (p0,p1,x.2.2)))) (Sum.inr (.inr x.2.2)):=by kernel_rfl
theorem qej {R:Type} (x:t1b) (k:((Int×Int×ZJ)⊕ZJ)→Option R) (r:R) (h:qef x k=some r):∃ o,Z5s (LE.step X qed qe5 q96 qe7 12) x o∧k o=some r:=by
 obtain ⟨o,h1,h2⟩:=Z0 h
 exact ⟨qee x o,Zhl (st:=fun (x:t1b)=>Xe x.1 x.2.2) (prj:=fun x=>x.2.1) (emb:=qeg) (embO:=qee) (fun x=>(qeh x).trans (by unfold Xe Xi;simp only [Zhd,Zh8,Zhe,Option.map_some,Option.map_none];rfl)) (fun _ _=>rfl) (fun _ _=>rfl) (fun _ _ _=>rfl) (fun _ _ _=>rfl) (fun _=>rfl) (Z1S.1 h1),by
  first
  | exact h2
  | (rcases o with o|o<;>exact h2)⟩
noncomputable def qek {R:Type}:Z27 S R:=LE.ls X qed qef qe7
theorem qel {R:Type}:Z3J X (qek (R:=R)):=Zhq xok qe6 (e:=qed) q97 qe8 qej qe8
theorem qem (x0:ZJ) (x1:List Zn):Zhs X qe5 [(.st 20),(.sl (.st 21))] [(.int .i64),(.int .i64)] q96 qek 12 32 (x0,x1,())=XQ x0 x1:=by kernel_rfl
noncomputable def qen:F7 S:=⟨[(.st 20),(.sl (.st 21))],[(.int .i64),(.int .i64)],fun xs=>X1z xs.1 xs.2.1⟩
theorem qeo:Z7Q X 32 qen:=Zho (Zhn xok qe6 q97 qel 12 32) fun xs _ h=>((qem xs.1 xs.2.1).trans (X3Q xs.1 xs.2.1).symm).trans h
noncomputable def qep:List (Nat×F7 S):=[]
theorem qeq:Z9n X (qep):=trivial
abbrev qer {R:Type}:Z27 S R:=Zgi
theorem qes {R:Type}:Z3J X (qer (R:=R)):=ZgQ X
def qet:Key:=⟨[79],79,none,[0,0,1,0,0,1,0,0,1,0,1,1],2,16⟩
def qeu:StT S:=⟨(N (N (N L (some (.rs 16 0)) L) (some (.ptr 0 0)) (N L vO L)) none (N (N L vO L) none L)),(N L oc (N (N (N (N L oB L) none L) none L) none L)),17⟩
def qev:Way S:=⟨(.exit 2),⟨(N (N (N L (some (.rs 16 0)) L) (some (.ptr 0 0)) L) none (N (N L vO L) none L)),(N L oc (N (N (N (N L oB L) none L) none L) none L)),21⟩,[.int,(.st 20),(.lst (.st 2))]⟩
def qew:LE S:=⟨qet,qeu,[.int,.int,(.st 20),(.lst (.st 2))],[qev]⟩
def qex (x:t16):(List Zu)→(Int×ZJ×(List Zu)):=fun y0=>(x.2.1,x.2.2.1,y0)
noncomputable def qey {R:Type} (x:t16) (k:(Int×ZJ×(List Zu))→Option R):Option R:=(X2i x.2.1 x.2.2.1 (x.1,x.2.2.2)).bind (fun y0=>k (x.2.1,x.2.2.1,y0))
def qez (x:t16) (v:(Int×(List Zu))):t16:=(v.1,x.2.1,x.2.2.1,v.2)
theorem qeA (x:t16):LE.step X qew qep q96 qer 12 x=X1b x.2.1 x.2.2.1 x.1 x.2.2.2 (fun w0 w1=>(Sum.inl (w0,x.2.1,x.2.2.1,w1))) (fun p0=>(Sum.inr (x.2.1,x.2.2.1,p0))):=by kernel_rfl
theorem qeC {R:Type} (x:t16) (k:(Int×ZJ×(List Zu))→Option R) (r:R) (h:qey x k=some r):∃ o,Z5s (LE.step X qew qep q96 qer 12) x o∧k o=some r:=by
 obtain ⟨o,h1,h2⟩:=Z0 h
 exact ⟨qex x o,Zhl (st:=fun (x:t16)=>X10 x.2.1 x.2.2.1) (prj:=fun x=>(x.1,x.2.2.2)) (emb:=qez) (embO:=qex) (fun x=>(qeA x).trans (by unfold X10 X1b;simp only [Zhd,Zh8,Zhe,Option.map_some,Option.map_none];rfl)) (fun _ _=>rfl) (fun _ _=>rfl) (fun _ _ _=>rfl) (fun _ _ _=>rfl) (fun _=>rfl) (Z1S.1 h1),by
  first
  | exact h2
  | (rcases o with o<;>exact h2)⟩
noncomputable def qeD {R:Type}:Z27 S R:=LE.ls X qew qey qer
theorem qeE {R:Type}:Z3J X (qeD (R:=R)):=Zhq xok qeq (e:=qew) q97 qes qeC qes
def qeF:Key:=⟨[79],79,none,[0,0,1,0,1,1],0,7⟩
def qeG:StT S:=⟨(N (N (N L (some (.rs 7 0)) L) (some (.ptr 0 0)) L) none (N (N L vO L) none L)),o1p,8⟩
def qeH:Way S:=⟨(.exit 0),⟨(N (N (N L (some (.rs 7 0)) L) none L) none L),o1p,12⟩,[(.lst (.st 2)),(.st 20)]⟩
def qeI:LE S:=⟨qeF,qeG,[.int,(.lst (.st 2)),(.st 20)],[qeH]⟩
def qeJ (x:t1d):(List Zu)→((List Zu)×ZJ):=fun y0=>(y0,x.2.2)
noncomputable def qeK {R:Type} (x:t1d) (k:((List Zu)×ZJ)→Option R):Option R:=(X3r x.2.2 (x.1,x.2.1)).bind (fun y0=>k (y0,x.2.2))
def qeL (x:t1d) (v:(Int×(List Zu))):t1d:=(v.1,v.2,x.2.2)
theorem qeM (x:t1d):LE.step X qeI qep q96 qeD 12 x=X1a x.2.2 x.1 x.2.1 (fun w0 w1=>(Sum.inl (w0,w1,x.2.2))) (fun p0=>(Sum.inr (p0,x.2.2))):=by kernel_rfl
theorem qeO {R:Type} (x:t1d) (k:((List Zu)×ZJ)→Option R) (r:R) (h:qeK x k=some r):∃ o,Z5s (LE.step X qeI qep q96 qeD 12) x o∧k o=some r:=by
 obtain ⟨o,h1,h2⟩:=Z0 h
 exact ⟨qeJ x o,Zhl (st:=fun (x:t1d)=>WZ x.2.2) (prj:=fun x=>(x.1,x.2.1)) (emb:=qeL) (embO:=qeJ) (fun x=>(qeM x).trans (by unfold WZ X1a;simp only [Zhd,Zh8,Zhe,Option.map_some,Option.map_none];rfl)) (fun _ _=>rfl) (fun _ _=>rfl) (fun _ _ _=>rfl) (fun _ _ _=>rfl) (fun _=>rfl) (Z1S.1 h1),by
  first
  | exact h2
  | (rcases o with o<;>exact h2)⟩
noncomputable def qeP {R:Type}:Z27 S R:=LE.ls X qeI qeK qeD
theorem qeQ {R:Type}:Z3J X (qeP (R:=R)):=Zhq xok qeq (e:=qeI) q97 qeE qeO qeE
theorem qeR (x0:ZJ):Zhs X qep [(.st 20)] [(.sl (.st 2))] q96 qeP 12 79 (x0,())=X2p x0:=by kernel_rfl
noncomputable def qeS:F7 S:=⟨[(.st 20)],[(.sl (.st 2))],fun xs=>X5f xs.1⟩
theorem qeT:Z7Q X 79 qeS:=Zho (Zhn xok qeq q97 qeQ 12 79) fun xs _ h=>((qeR xs.1).trans (X6b xs.1).symm).trans h
noncomputable def qeU:List (Nat×F7 S):=[]
theorem qeV:Z9n X (qeU):=trivial
abbrev qeW {R:Type}:Z27 S R:=Zgi
theorem qeX {R:Type}:Z3J X (qeW (R:=R)):=ZgQ X
theorem qeY (x0:Zu):Zhs X qeU [(.st 2)] [(.st 2)] q96 qeW 12 128 (x0,())=X6x x0:=by kernel_rfl
noncomputable def qeZ:F7 S:=⟨[(.st 2)],[(.st 2)],fun xs=>X6x xs.1⟩
theorem qf0:Z7Q X 128 qeZ:=Zho (Zhn xok qeV q97 qeX 12 128) fun xs _ h=>(qeY xs.1).trans h
noncomputable def qf1 (ih:(Int×Unit)→Option (Zu)):List (Nat×F7 S):=[(128,qeZ),(113,⟨[(.int .i64)],[(.st 2)],ih⟩)]
theorem qf2 (ih:(Int×Unit)→Option (Zu)) (hih:Z7Q X 113 ⟨[(.int .i64)],[(.st 2)],ih⟩):Z9n X (qf1 ih):=⟨qf0,hih,trivial⟩
abbrev qf3 (ih:(Int×Unit)→Option (Zu)) {R:Type}:Z27 S R:=Zgi
theorem qf4 (ih:(Int×Unit)→Option (Zu)) (hih:Z7Q X 113 ⟨[(.int .i64)],[(.st 2)],ih⟩) {R:Type}:Z3J X (qf3 ih (R:=R)):=ZgQ X
theorem qf5 (ih:(Int×Unit)→Option (Zu)) (x0:Int):Zhs X (qf1 ih) [(.int .i64)] [(.st 2)] q96 (qf3 ih) 12 113 (x0,())=X2h ih x0:=by kernel_rfl
noncomputable def qf6:F7 S:=⟨[(.int .i64)],[(.st 2)],fun xs=>X3H xs.1⟩
theorem qf7:Z7Q X 113 qf6:=ZhO (X:=X) (g:=113) (pts:=[(.int .i64)]) (rts:=[(.st 2)]) (t:=X8) fun ih hih=>Zho (Zhn xok (qf2 ih hih) q97 (qf4 ih hih) 12 113) fun xs _ h=>(qf5 ih xs.1).trans h
noncomputable def qf8:List (Nat×F7 S):=[(113,qf6),(112,qbc)]
theorem qf9:Z9n X (qf8):=⟨qf7,qbd,trivial⟩
abbrev qfa {R:Type}:Z27 S R:=Zgi
theorem qfb {R:Type}:Z3J X (qfa (R:=R)):=ZgQ X
def qfc:Key:=⟨[87],87,none,[0,0,0,1,1],0,3⟩
def qfd:StT S:=⟨(N (N (N L vO L) (some (.ptr 0 0)) L) none L),(N L oj L),3⟩
def qfe:Way S:=⟨(.exit 0),⟨v1t,(N L oj L),17⟩,[.int,(.st 2)]⟩
def qff:LE S:=⟨qfc,qfd,[.int,(.st 2)],[qfe]⟩
def qfg (x:(Int×Zu)):Int→(Int×Zu):=fun y0=>(y0,x.2)
noncomputable def qfh {R:Type} (x:(Int×Zu)) (k:(Int×Zu)→Option R):Option R:=(X44 x.2 x.1).bind (fun y0=>k (y0,x.2))
def qfi (x:(Int×Zu)) (v:Int):(Int×Zu):=(v,x.2)
theorem qfj (x:(Int×Zu)):LE.step X qff qf8 q96 qfa 12 x=Wc x.2 x.1 (fun w0=>(Sum.inl (w0,x.2))) (fun p0=>(Sum.inr (p0,x.2))):=by kernel_rfl
theorem qfl {R:Type} (x:(Int×Zu)) (k:(Int×Zu)→Option R) (r:R) (h:qfh x k=some r):∃ o,Z5s (LE.step X qff qf8 q96 qfa 12) x o∧k o=some r:=by
 obtain ⟨o,h1,h2⟩:=Z0 h
 exact ⟨qfg x o,Zhl (st:=fun (x:(Int×Zu))=>XZ x.2) (prj:=fun x=>x.1) (emb:=qfi) (embO:=qfg) (fun x=>(qfj x).trans (by unfold XZ Wc;simp only [Zhd,Zh8,Zhe,Option.map_some,Option.map_none];rfl)) (fun _ _=>rfl) (fun _ _=>rfl) (fun _ _ _=>rfl) (fun _ _ _=>rfl) (fun _=>rfl) (Z1S.1 h1),by
  first
  | exact h2
  | (rcases o with o<;>exact h2)⟩
noncomputable def qfm {R:Type}:Z27 S R:=LE.ls X qff qfh qfa
theorem qfn {R:Type}:Z3J X (qfm (R:=R)):=Zhq xok qf9 (e:=qff) q97 qfb qfl qfb
theorem qfo (x0:Zu):Zhs X qf8 [(.st 2)] [(.int .i64)] q96 qfm 12 87 (x0,())=X2w x0:=by kernel_rfl
noncomputable def qfp:F7 S:=⟨[(.st 2)],[(.int .i64)],fun xs=>X2w xs.1⟩
theorem qfq:Z7Q X 87 qfp:=Zho (Zhn xok qf9 q97 qfn 12 87) fun xs _ h=>(qfo xs.1).trans h
noncomputable def qfr:List (Nat×F7 S):=[(69,qcK)]
theorem qfs:Z9n X (qfr):=⟨qcL,trivial⟩
abbrev qft {R:Type}:Z27 S R:=Zgi
theorem qfu {R:Type}:Z3J X (qft (R:=R)):=ZgQ X
def qfv:Key:=⟨[53],53,none,[0,0,1,0,1],0,4⟩
def qfw:StT S:=⟨(N (N (N L (some (.ptr 1 0)) L) none (N L vO L)) none (N L (some (.ptr 0 0)) L)),(N (N L oj L) oc L),4⟩
def qfx:Way S:=⟨.ret,⟨v1u,(N (N L oj L) oc L),47⟩,[.int,(.st 2),(.st 20)]⟩
def qfy:Way S:=⟨(.exit 0),⟨L,(N (N L oj L) oc L),9⟩,[(.st 2),(.st 20)]⟩
def qfz:LE S:=⟨qfv,qfw,[.int,(.st 2),(.st 20)],[qfx,qfy]⟩
def qfA (x:(Int×Zu×ZJ)):(Int⊕Unit)→((Int×Zu×ZJ)⊕(Zu×ZJ)):=Sum.elim (fun y0=>(.inl (y0,x.2.1,x.2.2))) (fun y1=>(.inr (x.2.1,x.2.2)))
noncomputable def qfB {R:Type} (x:(Int×Zu×ZJ)) (k:((Int×Zu×ZJ)⊕(Zu×ZJ))→Option R):Option R:=(X2G x.2.1 x.2.2 x.1).bind (Sum.elim (fun y0=>k (.inl (y0,x.2.1,x.2.2))) (fun y1=>k (.inr (x.2.1,x.2.2))))
def qfC (x:(Int×Zu×ZJ)) (v:Int):(Int×Zu×ZJ):=(v,x.2.1,x.2.2)
theorem qfD (x:(Int×Zu×ZJ)):LE.step X qfz qfr q96 qft 12 x=We x.2.1 x.2.2 x.1 (fun w0=>(Sum.inl (w0,x.2.1,x.2.2))) (fun p0=>(Sum.inr (.inl (p0,x.2.1,x.2.2)))) (Sum.inr (.inr (x.2.1,x.2.2))):=by kernel_rfl
theorem qfF {R:Type} (x:(Int×Zu×ZJ)) (k:((Int×Zu×ZJ)⊕(Zu×ZJ))→Option R) (r:R) (h:qfB x k=some r):∃ o,Z5s (LE.step X qfz qfr q96 qft 12) x o∧k o=some r:=by
 obtain ⟨o,h1,h2⟩:=Z0 h
 exact ⟨qfA x o,Zhl (st:=fun (x:(Int×Zu×ZJ))=>W2 x.2.1 x.2.2) (prj:=fun x=>x.1) (emb:=qfC) (embO:=qfA) (fun x=>(qfD x).trans (by unfold W2 We;simp only [Zhd,Zh8,Zhe,Option.map_some,Option.map_none];rfl)) (fun _ _=>rfl) (fun _ _=>rfl) (fun _ _ _=>rfl) (fun _ _ _=>rfl) (fun _=>rfl) (Z1S.1 h1),by
  first
  | exact h2
  | (rcases o with o|o<;>exact h2)⟩
noncomputable def qfG {R:Type}:Z27 S R:=LE.ls X qfz qfB qft
theorem qfH {R:Type}:Z3J X (qfG (R:=R)):=Zhq xok qfs (e:=qfz) q97 qfu qfF qfu
theorem qfI (x0:ZJ) (x1:Zu):Zhs X qfr [(.st 20),(.st 2)] [(.int .i64)] q96 qfG 12 53 (x0,x1,())=X1R x0 x1:=by kernel_rfl
noncomputable def qfJ:F7 S:=⟨[(.st 20),(.st 2)],[(.int .i64)],fun xs=>X49 xs.1 xs.2.1⟩
theorem qfK:Z7Q X 53 qfJ:=Zho (Zhn xok qfs q97 qfH 12 53) fun xs _ h=>((qfI xs.1 xs.2.1).trans (X5t xs.1 xs.2.1).symm).trans h
noncomputable def qfL:List (Nat×F7 S):=[(88,qb5),(87,qfp),(53,qfJ),(69,qcK)]
theorem qfM:Z9n X (qfL):=⟨qb6,qfq,qfK,qcL,trivial⟩
abbrev qfN {R:Type}:Z27 S R:=Zgi
theorem qfO {R:Type}:Z3J X (qfN (R:=R)):=ZgQ X
theorem qfP (x0:ZJ) (x1:Zn) (x2:Zu) (x3:Int):Zhs X qfL [(.st 20),(.st 21),(.st 2),(.int .i64)] [.bool] q96 qfN 12 107 (x0,x1,x2,x3,())=X1Q x0 x1 x2 x3:=by kernel_rfl
noncomputable def qfQ:F7 S:=⟨[(.st 20),(.st 21),(.st 2),(.int .i64)],[.bool],fun xs=>X3q xs.1 xs.2.1 xs.2.2.1 xs.2.2.2.1⟩
theorem qfR:Z7Q X 107 qfQ:=Zho (Zhn xok qfM q97 qfO 12 107) fun xs _ h=>((qfP xs.1 xs.2.1 xs.2.2.1 xs.2.2.2.1).trans (X5r xs.1 xs.2.1 xs.2.2.1 xs.2.2.2.1).symm).trans h
noncomputable def qfS:List (Nat×F7 S):=[(107,qfQ)]
theorem qfT:Z9n X (qfS):=⟨qfR,trivial⟩
abbrev qfU {R:Type}:Z27 S R:=Zgi
theorem qfV {R:Type}:Z3J X (qfU (R:=R)):=ZgQ X
def qfW:Key:=⟨[77],77,none,[0,0,1,0,1,0,0,1,0,0,1,0,1,1],2,24⟩
def qfX:StT S:=⟨(N v13 none (N (N L vM (N L vO L)) none (N L none (N L vO L)))),o1f,25⟩
def qfY:Way S:=⟨(.exit 2),⟨(N v13 none (N (N L vM (N L vO L)) none L)),o1f,32⟩,[.int,(.lst (.st 21)),.bool,(.lst .bool),.int,(.st 2),(.st 20),(.lst (.int .i64))]⟩
def qfZ:LE S:=⟨qfW,qfX,[.int,(.lst (.st 21)),.bool,(.lst .bool),.int,.int,(.st 2),(.st 20),(.lst (.int .i64))],[qfY]⟩
def qg0 (x:tB):Bool→tD:=fun y0=>(x.1,x.2.1,y0,x.2.2.2.1,x.2.2.2.2.1,x.2.2.2.2.2.2.1,x.2.2.2.2.2.2.2.1,x.2.2.2.2.2.2.2.2)
noncomputable def qg1 {R:Type} (x:tB) (k:tD→Option R):Option R:=(X2s x.1 x.2.1 x.2.2.2.1 x.2.2.2.2.1 x.2.2.2.2.2.2.1 x.2.2.2.2.2.2.2.1 (x.2.2.1,x.2.2.2.2.2.1)).bind (fun y0=>k (x.1,x.2.1,y0,x.2.2.2.1,x.2.2.2.2.1,x.2.2.2.2.2.2.1,x.2.2.2.2.2.2.2.1,x.2.2.2.2.2.2.2.2))
def qg2 (x:tB) (v:(Bool×Int)):tB:=(x.1,x.2.1,v.1,x.2.2.2.1,x.2.2.2.2.1,v.2,x.2.2.2.2.2.2.1,x.2.2.2.2.2.2.2.1,x.2.2.2.2.2.2.2.2)
theorem qg3 (x:tB):LE.step X qfZ qfS q96 qfU 12 x=XS x.1 x.2.1 x.2.2.2.1 x.2.2.2.2.1 x.2.2.2.2.2.2.1 x.2.2.2.2.2.2.2.1 x.2.2.1 x.2.2.2.2.2.1 (fun w0 w1=>(Sum.inl (x.1,x.2.1,w0,x.2.2.2.1,x.2.2.2.2.1,w1,x.2.2.2.2.2.2.1,x.2.2.2.2.2.2.2.1,x.2.2.2.2.2.2.2.2))) (fun p0=>(Sum.inr (x.1,x.2.1,p0,x.2.2.2.1,x.2.2.2.2.1,x.2.2.2.2.2.2.1,x.2.2.2.2.2.2.2.1,x.2.2.2.2.2.2.2.2))):=by kernel_rfl
theorem qg5 {R:Type} (x:tB) (k:tD→Option R) (r:R) (h:qg1 x k=some r):∃ o,Z5s (LE.step X qfZ qfS q96 qfU 12) x o∧k o=some r:=by
 obtain ⟨o,h1,h2⟩:=Z0 h
 exact ⟨qg0 x o,Zhl (st:=fun (x:tB)=>XO x.1 x.2.1 x.2.2.2.1 x.2.2.2.2.1 x.2.2.2.2.2.2.1 x.2.2.2.2.2.2.2.1) (prj:=fun x=>(x.2.2.1,x.2.2.2.2.2.1)) (emb:=qg2) (embO:=qg0) (fun x=>(qg3 x).trans (by unfold XO XS;simp only [Zhd,Zh8,Zhe,Option.map_some,Option.map_none];rfl)) (fun _ _=>rfl) (fun _ _=>rfl) (fun _ _ _=>rfl) (fun _ _ _=>rfl) (fun _=>rfl) (Z1S.1 h1),by
  first
  | exact h2
  | (rcases o with o<;>exact h2)⟩
noncomputable def qg6 {R:Type}:Z27 S R:=LE.ls X qfZ qg1 qfU
theorem qg7 {R:Type}:Z3J X (qg6 (R:=R)):=Zhq xok qfT (e:=qfZ) q97 qfV qg5 qfV
def qg8:Key:=⟨[77],77,none,[0,0,1,0,1,1],0,12⟩
def qg9:StT S:=⟨(N (N (N (N L (some (.ptr 1 0)) L) vO (N L (some (.rs 12 0)) L)) vK (N L (some (.ptr 0 0)) L)) none (N (N L vM (N L vO L)) none L)),(N (N L oj L) oc o1y),13⟩
def qga:Way S:=⟨(.exit 0),⟨(N (N (N L none (N L (some (.rs 12 0)) L)) none L) none L),(N (N L oj L) oc o1y),22⟩,[(.st 2),(.st 20),(.lst (.int .i64))]⟩
def qgb:LE S:=⟨qg8,qg9,[.int,(.lst (.st 21)),(.lst .bool),.int,(.st 2),(.st 20),(.lst (.int .i64))],[qga]⟩
def qgc (x:tG):(List Int)→(Zu×ZJ×(List Int)):=fun y0=>(x.2.2.2.2.1,x.2.2.2.2.2.1,y0)
noncomputable def qgd {R:Type} (x:tG) (k:(Zu×ZJ×(List Int))→Option R):Option R:=(X2r x.1 x.2.1 x.2.2.1 x.2.2.2.2.1 x.2.2.2.2.2.1 (x.2.2.2.1,x.2.2.2.2.2.2)).bind (fun y0=>k (x.2.2.2.2.1,x.2.2.2.2.2.1,y0))
def qge (x:tG) (v:(Int×(List Int))):tG:=(x.1,x.2.1,x.2.2.1,v.1,x.2.2.2.2.1,x.2.2.2.2.2.1,v.2)
theorem qgf (x:tG):LE.step X qgb qfS q96 qg6 12 x=XR x.1 x.2.1 x.2.2.1 x.2.2.2.2.1 x.2.2.2.2.2.1 x.2.2.2.1 x.2.2.2.2.2.2 (fun w0 w1=>(Sum.inl (x.1,x.2.1,x.2.2.1,w0,x.2.2.2.2.1,x.2.2.2.2.2.1,w1))) (fun p0=>(Sum.inr (x.2.2.2.2.1,x.2.2.2.2.2.1,p0))):=by kernel_rfl
theorem qgh {R:Type} (x:tG) (k:(Zu×ZJ×(List Int))→Option R) (r:R) (h:qgd x k=some r):∃ o,Z5s (LE.step X qgb qfS q96 qg6 12) x o∧k o=some r:=by
 obtain ⟨o,h1,h2⟩:=Z0 h
 exact ⟨qgc x o,Zhl (st:=fun (x:tG)=>XN x.1 x.2.1 x.2.2.1 x.2.2.2.2.1 x.2.2.2.2.2.1) (prj:=fun x=>(x.2.2.2.1,x.2.2.2.2.2.2)) (emb:=qge) (embO:=qgc) (fun x=>(qgf x).trans (by unfold XN XR;simp only [Zhd,Zh8,Zhe,Option.map_some,Option.map_none];rfl)) (fun _ _=>rfl) (fun _ _=>rfl) (fun _ _ _=>rfl) (fun _ _ _=>rfl) (fun _=>rfl) (Z1S.1 h1),by
  first
  | exact h2
  | (rcases o with o<;>exact h2)⟩
noncomputable def qgi {R:Type}:Z27 S R:=LE.ls X qgb qgd qg6
theorem qgj {R:Type}:Z3J X (qgi (R:=R)):=Zhq xok qfT (e:=qgb) q97 qg7 qgh qg7
theorem qgk (x0:ZJ) (x1:List Zn) (x2:Zu) (x3:Int) (x4:List Bool):Zhs X qfS [(.st 20),(.sl (.st 21)),(.st 2),(.int .i64),(.sl .bool)] [(.sl (.int .i64))] q96 qgi 12 77 (x0,x1,x2,x3,x4,())=X1A x0 x1 x2 x3 x4:=by kernel_rfl
noncomputable def qgl:F7 S:=⟨[(.st 20),(.sl (.st 21)),(.st 2),(.int .i64),(.sl .bool)],[(.sl (.int .i64))],fun xs=>X3J xs.1 xs.2.1 xs.2.2.1 xs.2.2.2.1 xs.2.2.2.2.1⟩
theorem qgm:Z7Q X 77 qgl:=Zho (Zhn xok qfT q97 qgj 12 77) fun xs _ h=>((qgk xs.1 xs.2.1 xs.2.2.1 xs.2.2.2.1 xs.2.2.2.2.1).trans (X54 xs.1 xs.2.1 xs.2.2.1 xs.2.2.2.1 xs.2.2.2.2.1).symm).trans h
noncomputable def qgn:List (Nat×F7 S):=[(77,qgl)]
theorem qgo:Z9n X (qgn):=⟨qgm,trivial⟩
abbrev qgp {R:Type}:Z27 S R:=Zgi
theorem qgq {R:Type}:Z3J X (qgp (R:=R)):=ZgQ X
def qgr:Key:=⟨[80],80,none,[0,0,1,0,1],0,4⟩
def qgs:StT S:=⟨(N (N (N (N L (some (.ptr 1 0)) L) vM (N L vO L)) vK (N L (some (.ptr 0 0)) L)) none (N (N L vM L) none L)),(N (N L oj L) oc L),4⟩
def qgt:Way S:=⟨.ret,⟨(N L none v1z),(N (N L oj L) oc L),25⟩,[.bool,(.st 2),(.st 20)]⟩
def qgu:Way S:=⟨(.exit 0),⟨L,(N (N L oj L) oc L),9⟩,[(.st 2),(.st 20)]⟩
def qgv:LE S:=⟨qgr,qgs,[(.lst .bool),.int,(.lst (.st 21)),(.lst .bool),(.st 2),(.st 20)],[qgt,qgu]⟩
def qgw (x:tI):(Bool⊕Unit)→((Bool×Zu×ZJ)⊕(Zu×ZJ)):=Sum.elim (fun y0=>(.inl (y0,x.2.2.2.2.1,x.2.2.2.2.2))) (fun y1=>(.inr (x.2.2.2.2.1,x.2.2.2.2.2)))
noncomputable def qgx {R:Type} (x:tI) (k:((Bool×Zu×ZJ)⊕(Zu×ZJ))→Option R):Option R:=(X2H x.1 x.2.2.1 x.2.2.2.1 x.2.2.2.2.1 x.2.2.2.2.2 x.2.1).bind (Sum.elim (fun y0=>k (.inl (y0,x.2.2.2.2.1,x.2.2.2.2.2))) (fun y1=>k (.inr (x.2.2.2.2.1,x.2.2.2.2.2))))
def qgy (x:tI) (v:Int):tI:=(x.1,v,x.2.2.1,x.2.2.2.1,x.2.2.2.2.1,x.2.2.2.2.2)
theorem qgz (x:tI):LE.step X qgv qgn q96 qgp 12 x=Wf x.1 x.2.2.1 x.2.2.2.1 x.2.2.2.2.1 x.2.2.2.2.2 x.2.1 (fun w0=>(Sum.inl (x.1,w0,x.2.2.1,x.2.2.2.1,x.2.2.2.2.1,x.2.2.2.2.2))) (fun p0=>(Sum.inr (.inl (p0,x.2.2.2.2.1,x.2.2.2.2.2)))) (Sum.inr (.inr (x.2.2.2.2.1,x.2.2.2.2.2))):=by kernel_rfl
theorem qgB {R:Type} (x:tI) (k:((Bool×Zu×ZJ)⊕(Zu×ZJ))→Option R) (r:R) (h:qgx x k=some r):∃ o,Z5s (LE.step X qgv qgn q96 qgp 12) x o∧k o=some r:=by
 obtain ⟨o,h1,h2⟩:=Z0 h
 exact ⟨qgw x o,Zhl (st:=fun (x:tI)=>W3 x.1 x.2.2.1 x.2.2.2.1 x.2.2.2.2.1 x.2.2.2.2.2) (prj:=fun x=>x.2.1) (emb:=qgy) (embO:=qgw) (fun x=>(qgz x).trans (by unfold W3 Wf;simp only [Zhd,Zh8,Zhe,Option.map_some,Option.map_none];rfl)) (fun _ _=>rfl) (fun _ _=>rfl) (fun _ _ _=>rfl) (fun _ _ _=>rfl) (fun _=>rfl) (Z1S.1 h1),by
  first
  | exact h2
  | (rcases o with o|o<;>exact h2)⟩
noncomputable def qgC {R:Type}:Z27 S R:=LE.ls X qgv qgx qgp
theorem qgD {R:Type}:Z3J X (qgC (R:=R)):=Zhq xok qgo (e:=qgv) q97 qgq qgB qgq
theorem qgE (x0:ZJ) (x1:List Zn) (x2:Zu) (x3:List Bool) (x4:List Bool):Zhs X qgn [(.st 20),(.sl (.st 21)),(.st 2),(.sl .bool),(.sl .bool)] [.bool] q96 qgC 12 80 (x0,x1,x2,x3,x4,())=X1T x0 x1 x2 x3 x4:=by kernel_rfl
noncomputable def qgF:F7 S:=⟨[(.st 20),(.sl (.st 21)),(.st 2),(.sl .bool),(.sl .bool)],[.bool],fun xs=>X4b xs.1 xs.2.1 xs.2.2.1 xs.2.2.2.1 xs.2.2.2.2.1⟩
theorem qgG:Z7Q X 80 qgF:=Zho (Zhn xok qgo q97 qgD 12 80) fun xs _ h=>((qgE xs.1 xs.2.1 xs.2.2.1 xs.2.2.2.1 xs.2.2.2.2.1).trans (X5x xs.1 xs.2.1 xs.2.2.1 xs.2.2.2.1 xs.2.2.2.2.1).symm).trans h
noncomputable def qgH:List (Nat×F7 S):=[(79,qeS),(80,qgF)]
theorem qgI:Z9n X (qgH):=⟨qeT,qgG,trivial⟩
abbrev qgJ {R:Type}:Z27 S R:=Zgi
theorem qgK {R:Type}:Z3J X (qgJ (R:=R)):=ZgQ X
def qgL:Key:=⟨[37],37,none,[0,0,1,0,1,1,1],0,7⟩
def qgM:StT S:=⟨(N (N (N (N L vO L) none L) vK (N L (some (.rs 7 0)) L)) none (N L (some (.ptr 0 0)) (N L vL L))),o1p,8⟩
def qgN:Way S:=⟨(.exit 0),⟨(N (N L none (N L (some (.rs 7 0)) L)) none L),o1p,12⟩,[(.lst (.st 2)),(.st 20)]⟩
def qgO:LE S:=⟨qgL,qgM,[.int,(.lst (.st 21)),(.lst (.st 2)),(.lst (.st 2)),(.st 20)],[qgN]⟩
def qgP (x:tO):(List Zu)→((List Zu)×ZJ):=fun y0=>(y0,x.2.2.2.2)
noncomputable def qgQ {R:Type} (x:tO) (k:((List Zu)×ZJ)→Option R):Option R:=(X2I x.2.1 x.2.2.1 x.2.2.2.2 (x.1,x.2.2.2.1)).bind (fun y0=>k (y0,x.2.2.2.2))
def qgR (x:tO) (v:(Int×(List Zu))):tO:=(v.1,x.2.1,x.2.2.1,v.2,x.2.2.2.2)
theorem qgS (x:tO):LE.step X qgO qgH q96 qgJ 12 x=Wg x.2.1 x.2.2.1 x.2.2.2.2 x.1 x.2.2.2.1 (fun w0 w1=>(Sum.inl (w0,x.2.1,x.2.2.1,w1,x.2.2.2.2))) (fun p0=>(Sum.inr (p0,x.2.2.2.2))):=by kernel_rfl
theorem qgU {R:Type} (x:tO) (k:((List Zu)×ZJ)→Option R) (r:R) (h:qgQ x k=some r):∃ o,Z5s (LE.step X qgO qgH q96 qgJ 12) x o∧k o=some r:=by
 obtain ⟨o,h1,h2⟩:=Z0 h
 exact ⟨qgP x o,Zhl (st:=fun (x:tO)=>W4 x.2.1 x.2.2.1 x.2.2.2.2) (prj:=fun x=>(x.1,x.2.2.2.1)) (emb:=qgR) (embO:=qgP) (fun x=>(qgS x).trans (by unfold W4 Wg;simp only [Zhd,Zh8,Zhe,Option.map_some,Option.map_none];rfl)) (fun _ _=>rfl) (fun _ _=>rfl) (fun _ _ _=>rfl) (fun _ _ _=>rfl) (fun _=>rfl) (Z1S.1 h1),by
  first
  | exact h2
  | (rcases o with o<;>exact h2)⟩
noncomputable def qgV {R:Type}:Z27 S R:=LE.ls X qgO qgQ qgJ
theorem qgW {R:Type}:Z3J X (qgV (R:=R)):=Zhq xok qgI (e:=qgO) q97 qgK qgU qgK
theorem qgX (x0:ZJ) (x1:List Zn):Zhs X qgH [(.st 20),(.sl (.st 21))] [(.sl (.st 2))] q96 qgV 12 37 (x0,x1,())=X1U x0 x1:=by kernel_rfl
noncomputable def qgY:F7 S:=⟨[(.st 20),(.sl (.st 21))],[(.sl (.st 2))],fun xs=>X3t xs.1 xs.2.1⟩
theorem qgZ:Z7Q X 37 qgY:=Zho (Zhn xok qgI q97 qgW 12 37) fun xs _ h=>((qgX xs.1 xs.2.1).trans (X5z xs.1 xs.2.1).symm).trans h
noncomputable def qh0:List (Nat×F7 S):=[(32,qen),(37,qgY)]
theorem qh1:Z9n X (qh0):=⟨qeo,qgZ,trivial⟩
abbrev qh2 {R:Type}:Z27 S R:=Zgi
theorem qh3 {R:Type}:Z3J X (qh2 (R:=R)):=ZgQ X
theorem qh4 (x0:ZJ) (x1:List Zn):Zhs X qh0 [(.st 20),(.sl (.st 21))] [(.sl (.st 2)),(.int .i64)] q96 qh2 12 10 (x0,x1,())=X1S x0 x1:=by kernel_rfl
noncomputable def qh5:F7 S:=⟨[(.st 20),(.sl (.st 21))],[(.sl (.st 2)),(.int .i64)],fun xs=>X4a xs.1 xs.2.1⟩
theorem qh6:Z7Q X 10 qh5:=Zho (Zhn xok qh1 q97 qh3 12 10) fun xs _ h=>((qh4 xs.1 xs.2.1).trans (X5v xs.1 xs.2.1).symm).trans h
noncomputable def qh7:List (Nat×F7 S):=[]
theorem qh8:Z9n X (qh7):=trivial
abbrev qh9 {R:Type}:Z27 S R:=Zgi
theorem qha {R:Type}:Z3J X (qh9 (R:=R)):=ZgQ X
def qhb:Key:=⟨[11],11,none,[0,0,1,0,1,1],0,7⟩
def qhc:StT S:=⟨(N (N L vL (N L vO L)) vL L),L,7⟩
def qhd:Way S:=⟨.ret,⟨v1z,L,21⟩,[.bool]⟩
def qhe:Way S:=⟨(.exit 0),⟨L,L,11⟩,[]⟩
def qhf:LE S:=⟨qhb,qhc,[(.lst (.st 2)),.int,(.lst (.st 2))],[qhd,qhe]⟩
def qhg (x:t13):(Bool⊕Unit)→(Bool⊕Unit):=Sum.elim (fun y0=>(.inl y0)) (fun y1=>(.inr ()))
noncomputable def qhh {R:Type} (x:t13) (k:(Bool⊕Unit)→Option R):Option R:=(X2F x.1 x.2.2 x.2.1).bind (Sum.elim (fun y0=>k (.inl y0)) (fun y1=>k (.inr ())))
def qhi (x:t13) (v:Int):t13:=(x.1,v,x.2.2)
theorem qhj (x:t13):LE.step X qhf qh7 q96 qh9 12 x=Wa x.1 x.2.2 x.2.1 (fun w0=>(Sum.inl (x.1,w0,x.2.2))) (fun p0=>(Sum.inr (.inl p0))) (Sum.inr (.inr ())):=by kernel_rfl
theorem qhl {R:Type} (x:t13) (k:(Bool⊕Unit)→Option R) (r:R) (h:qhh x k=some r):∃ o,Z5s (LE.step X qhf qh7 q96 qh9 12) x o∧k o=some r:=by
 obtain ⟨o,h1,h2⟩:=Z0 h
 exact ⟨qhg x o,Zhl (st:=fun (x:t13)=>XX x.1 x.2.2) (prj:=fun x=>x.2.1) (emb:=qhi) (embO:=qhg) (fun x=>(qhj x).trans (by unfold XX Wa;simp only [Zhd,Zh8,Zhe,Option.map_some,Option.map_none];rfl)) (fun _ _=>rfl) (fun _ _=>rfl) (fun _ _ _=>rfl) (fun _ _ _=>rfl) (fun _=>rfl) (Z1S.1 h1),by
  first
  | exact h2
  | (rcases o with o|o<;>exact h2)⟩
noncomputable def qhm {R:Type}:Z27 S R:=LE.ls X qhf qhh qh9
theorem qhn {R:Type}:Z3J X (qhm (R:=R)):=Zhq xok qh8 (e:=qhf) q97 qha qhl qha
theorem qho (x0:List Zu) (x1:List Zu):Zhs X qh7 [(.sl (.st 2)),(.sl (.st 2))] [.bool] q96 qhm 12 11 (x0,x1,())=X3o x0 x1:=by kernel_rfl
noncomputable def qhp:F7 S:=⟨[(.sl (.st 2)),(.sl (.st 2))],[.bool],fun xs=>X3o xs.1 xs.2.1⟩
theorem qhq:Z7Q X 11 qhp:=Zho (Zhn xok qh8 q97 qhn 12 11) fun xs _ h=>(qho xs.1 xs.2.1).trans h
noncomputable def qhr:List (Nat×F7 S):=[(29,q4C),(57,q37),(82,q53),(110,q5T)]
theorem qhs:Z9n X (qhr):=⟨q4D,q38,q54,q5U,trivial⟩
abbrev qht {R:Type}:Z27 S R:=Zgi
theorem qhu {R:Type}:Z3J X (qht (R:=R)):=ZgQ X
def qhv:Key:=⟨[12],12,none,[0,0,1,0,1,1,1,1,1,1,1],0,42⟩
def qhw:StT S:=⟨(N (N (N L none v1u) none (N (N L none (N (N L (some (.rs 42 0)) L) none L)) none L)) none (N (N L (some (.ptr 1 0)) L) none (N v1u none L))),oT,43⟩
def qhx:Way S:=⟨(.exit 0),⟨(N L none (N (N L (some (.ptr 1 0)) L) none L)),oT,44⟩,[(.mp (.st 23) (.int .i64)),(.st 6),(.st 2),(.st 20),(.st 20),(.lst (.st 21)),.en,(.lst (.st 2))]⟩
def qhy:LE S:=⟨qhv,qhw,[.int,.int,(.mp (.st 23) (.int .i64)),(.st 6),(.st 2),(.st 20),(.st 20),(.lst (.st 21)),.en,(.lst (.st 2))],[qhx]⟩
def qhz (x:tm):ZB→tn:=fun y0=>(x.2.2.1,y0,x.2.2.2.2.1,x.2.2.2.2.2.1,x.2.2.2.2.2.2.1,x.2.2.2.2.2.2.2.1,x.2.2.2.2.2.2.2.2.1,x.2.2.2.2.2.2.2.2.2)
noncomputable def qhA {R:Type} (x:tm) (k:tn→Option R):Option R:=(X3G x.2.1 x.2.2.2.2.2.2.2.2.2 (x.1,x.2.2.2.1)).bind (fun y0=>k (x.2.2.1,y0,x.2.2.2.2.1,x.2.2.2.2.2.1,x.2.2.2.2.2.2.1,x.2.2.2.2.2.2.2.1,x.2.2.2.2.2.2.2.2.1,x.2.2.2.2.2.2.2.2.2))
def qhB (x:tm) (v:(Int×ZB)):tm:=(v.1,x.2.1,x.2.2.1,v.2,x.2.2.2.2.1,x.2.2.2.2.2.1,x.2.2.2.2.2.2.1,x.2.2.2.2.2.2.2.1,x.2.2.2.2.2.2.2.2.1,x.2.2.2.2.2.2.2.2.2)
theorem qhC (x:tm):LE.step X qhy qhr q96 qht 12 x=X1v x.2.1 x.2.2.2.2.2.2.2.2.2 x.1 x.2.2.2.1 (fun w0 w1=>(Sum.inl (w0,x.2.1,x.2.2.1,w1,x.2.2.2.2.1,x.2.2.2.2.2.1,x.2.2.2.2.2.2.1,x.2.2.2.2.2.2.2.1,x.2.2.2.2.2.2.2.2.1,x.2.2.2.2.2.2.2.2.2))) (fun p0=>(Sum.inr (x.2.2.1,p0,x.2.2.2.2.1,x.2.2.2.2.2.1,x.2.2.2.2.2.2.1,x.2.2.2.2.2.2.2.1,x.2.2.2.2.2.2.2.2.1,x.2.2.2.2.2.2.2.2.2))):=by kernel_rfl
theorem qhE {R:Type} (x:tm) (k:tn→Option R) (r:R) (h:qhA x k=some r):∃ o,Z5s (LE.step X qhy qhr q96 qht 12) x o∧k o=some r:=by
 obtain ⟨o,h1,h2⟩:=Z0 h
 exact ⟨qhz x o,Zhl (st:=fun (x:tm)=>X1q x.2.1 x.2.2.2.2.2.2.2.2.2) (prj:=fun x=>(x.1,x.2.2.2.1)) (emb:=qhB) (embO:=qhz) (fun x=>(qhC x).trans (by unfold X1q X1v;simp only [Zhd,Zh8,Zhe,Option.map_some,Option.map_none];rfl)) (fun _ _=>rfl) (fun _ _=>rfl) (fun _ _ _=>rfl) (fun _ _ _=>rfl) (fun _=>rfl) (Z1S.1 h1),by
  first
  | exact h2
  | (rcases o with o<;>exact h2)⟩
noncomputable def qhF {R:Type}:Z27 S R:=LE.ls X qhy qhA qht
theorem qhG {R:Type}:Z3J X (qhF (R:=R)):=Zhq xok qhs (e:=qhy) q97 qhu qhE qhu
theorem qhH (x0:ZJ) (x1:List Zn):Zhs X qhr [(.st 20),(.sl (.st 21))] [(.st 6),(.int .i64)] q96 qhF 12 12 (x0,x1,())=X2K x0 x1:=by kernel_rfl
noncomputable def qhI:F7 S:=⟨[(.st 20),(.sl (.st 21))],[(.st 6),(.int .i64)],fun xs=>X62 xs.1 xs.2.1⟩
theorem qhJ:Z7Q X 12 qhI:=Zho (Zhn xok qhs q97 qhG 12 12) fun xs _ h=>((qhH xs.1 xs.2.1).trans (X6r xs.1 xs.2.1).symm).trans h
noncomputable def qhK:List (Nat×F7 S):=[(32,qen),(37,qgY)]
theorem qhL:Z9n X (qhK):=⟨qeo,qgZ,trivial⟩
abbrev qhM {R:Type}:Z27 S R:=Zgi
theorem qhN {R:Type}:Z3J X (qhM (R:=R)):=ZgQ X
def qhO:Key:=⟨[13],13,none,[0,0,1,0,1,1,1,1,1,1],0,43⟩
def qhP:StT S:=⟨(N (N (N L none (N L vO L)) none (N (N L (some (.ptr 38 0)) L) none L)) none (N (N (N L vL L) (some (.ptr 1 0)) L) none (N (N L (some (.ptr 39 0)) L) none L))),o10,43⟩
def qhQ:Way S:=⟨(.exit 0),⟨(N (N L none (N (N L (some (.ptr 38 0)) L) none L)) none (N (N L (some (.ptr 1 0)) L) none (N (N L (some (.ptr 39 0)) L) none L))),o10,47⟩,[(.st 5),(.st 6),(.st 20),(.st 5)]⟩
def qhR:LE S:=⟨qhO,qhP,[.int,(.lst (.st 2)),(.st 5),(.st 6),(.st 20),(.st 5)],[qhQ]⟩
def qhS (x:tT):(ZE×ZE)→(ZE×ZB×ZJ×ZE):=fun y0=>(y0.1,x.2.2.2.1,x.2.2.2.2.1,y0.2)
noncomputable def qhT {R:Type} (x:tT) (k:(ZE×ZB×ZJ×ZE)→Option R):Option R:=(X2Y x.2.1 (x.1,x.2.2.1,x.2.2.2.2.2)).bind (fun y0=>k (y0.1,x.2.2.2.1,x.2.2.2.2.1,y0.2))
def qhU (x:tT) (v:(Int×ZE×ZE)):tT:=(v.1,x.2.1,v.2.1,x.2.2.2.1,x.2.2.2.2.1,v.2.2)
theorem qhV (x:tT):LE.step X qhR qhK q96 qhM 12 x=WR x.2.1 x.1 x.2.2.1 x.2.2.2.2.2 (fun w0 w1 w2=>(Sum.inl (w0,x.2.1,w1,x.2.2.2.1,x.2.2.2.2.1,w2))) (fun p0 p1=>(Sum.inr (p0,x.2.2.2.1,x.2.2.2.2.1,p1))):=by kernel_rfl
theorem qhX {R:Type} (x:tT) (k:(ZE×ZB×ZJ×ZE)→Option R) (r:R) (h:qhT x k=some r):∃ o,Z5s (LE.step X qhR qhK q96 qhM 12) x o∧k o=some r:=by
 obtain ⟨o,h1,h2⟩:=Z0 h
 exact ⟨qhS x o,Zhl (st:=fun (x:tT)=>Wx x.2.1) (prj:=fun x=>(x.1,x.2.2.1,x.2.2.2.2.2)) (emb:=qhU) (embO:=qhS) (fun x=>(qhV x).trans (by unfold Wx WR;simp only [Zhd,Zh8,Zhe,Option.map_some,Option.map_none];rfl)) (fun _ _=>rfl) (fun _ _=>rfl) (fun _ _ _=>rfl) (fun _ _ _=>rfl) (fun _=>rfl) (Z1S.1 h1),by
  first
  | exact h2
  | (rcases o with o<;>exact h2)⟩
noncomputable def qhY {R:Type}:Z27 S R:=LE.ls X qhR qhT qhM
theorem qhZ {R:Type}:Z3J X (qhY (R:=R)):=Zhq xok qhL (e:=qhR) q97 qhN qhX qhN
theorem qi0 (x0:ZJ) (x1:List Zn):Zhs X qhK [(.st 20),(.sl (.st 21))] [(.st 6),(.int .i64)] q96 qhY 12 13 (x0,x1,())=X2a x0 x1:=by kernel_rfl
noncomputable def qi1:F7 S:=⟨[(.st 20),(.sl (.st 21))],[(.st 6),(.int .i64)],fun xs=>X4K xs.1 xs.2.1⟩
theorem qi2:Z7Q X 13 qi1:=Zho (Zhn xok qhL q97 qhZ 12 13) fun xs _ h=>((qi0 xs.1 xs.2.1).trans (X5T xs.1 xs.2.1).symm).trans h
def qi3:StT S:=⟨(N (N (N L vO L) vt L) (some .nilp) (N L vO L)),L,0⟩
def qi4:PE S:=⟨58,4,qi3,[.int,(.st 2),.int],[]⟩
noncomputable def qi5:List (Nat×F7 S):=[(110,q5T),(57,q37)]
theorem qi6:Z9n X qi5:=⟨q5U,q38,trivial⟩
abbrev qi7 {R:Type}:Z27 S R:=Zgi
theorem qi8 {R:Type}:Z3J X (qi7 (R:=R)):=ZgQ X
theorem qi9 (x:(Int×Zu×Int)):PE.step X qi4 qi5 q96 qi7 12 x=X1F x.1 x.2.1 x.2.2:=by kernel_rfl
theorem qia:ZaX X qi4 X3W:=Zhr (ZgU xok qi6 q97 qi8 12) fun x _ h=>((qi9 x).trans (X6i x).symm).trans h
noncomputable def qib {R:Type}:Prs S R:=PE.ps X qi4 (fun x q=>(X3W x).bind q) q96
theorem qic {R:Type}:Z7R X (qib (R:=R)):=Zhi (e:=qi4) qia q97
def qid:StT S:=⟨(N L (some .nilp) L),L,0⟩
def qie:PE S:=⟨44,1,qid,[],[]⟩
noncomputable def qif:List (Nat×F7 S):=[]
theorem qig:Z9n X qif:=trivial
abbrev qih {R:Type}:Z27 S R:=Zgi
theorem qii {R:Type}:Z3J X (qih (R:=R)):=ZgQ X
theorem qij (x:Unit):PE.step X qie qif qib qih 12 x=Wm:=by kernel_rfl
theorem qik:ZaX X qie X2D:=Zhr (ZgU xok qig qic qii 12) fun x _ h=>((qij x).trans (X5d x).symm).trans h
noncomputable def qil {R:Type}:Prs S R:=PE.ps X qie (fun x q=>(X2D x).bind q) qib
theorem qim {R:Type}:Z7R X (qil (R:=R)):=Zhi (e:=qie) qik qic
def qin:StT S:=⟨(N L (some (.ptr 1 0)) L),(N (N L o3 L) oq L),2⟩
def qio:Way S:=⟨.ret,⟨(N L vO L),(N (N L o3 L) oq L),2⟩,[.int,(.st 20),(.lst (.st 21)),.en,(.mp (.st 23) (.int .i64))]⟩
def qip:PE S:=⟨44,1,qin,[(.st 20),(.lst (.st 21)),.en,(.mp (.st 23) (.int .i64))],[qio]⟩
noncomputable def qiq:List (Nat×F7 S):=[]
theorem qir:Z9n X qiq:=trivial
abbrev qis {R:Type}:Z27 S R:=Zgi
theorem qit {R:Type}:Z3J X (qis (R:=R)):=ZgQ X
def qiu:Key:=⟨[44],44,none,[0,0,1,0,1],0,9⟩
def qiv:StT S:=⟨(N v1x (some (.ptr 1 0)) (N (N L none (N L vO L)) vO (N (N L vK L) none L))),(N (N L o3 L) oq L),9⟩
def qiw:Way S:=⟨(.exit 0),⟨(N L none (N L vO L)),(N (N L o3 L) oq L),10⟩,[.int,(.st 20),(.lst (.st 21)),.en,(.mp (.st 23) (.int .i64))]⟩
def qix:LE S:=⟨qiu,qiv,[.int,.int,.int,(.lst (.st 21)),(.st 20),(.lst (.st 21)),.en,(.mp (.st 23) (.int .i64))],[qiw]⟩
def qiy (x:tq):Int→tH:=fun y0=>(y0,x.2.2.2.2.1,x.2.2.2.2.2.1,x.2.2.2.2.2.2.1,x.2.2.2.2.2.2.2)
noncomputable def qiz {R:Type} (x:tq) (k:tH→Option R):Option R:=(X2n x.1 x.2.2.2.1 x.2.2.2.2.1 x.2.2.2.2.2.2.1 (x.2.1,x.2.2.1)).bind (fun y0=>k (y0,x.2.2.2.2.1,x.2.2.2.2.2.1,x.2.2.2.2.2.2.1,x.2.2.2.2.2.2.2))
def qiA (x:tq) (v:(Int×Int)):tq:=(x.1,v.1,v.2,x.2.2.2.1,x.2.2.2.2.1,x.2.2.2.2.2.1,x.2.2.2.2.2.2.1,x.2.2.2.2.2.2.2)
theorem qiB (x:tq):LE.step X qix qiq qil qis 12 x=WU x.1 x.2.2.2.1 x.2.2.2.2.1 x.2.2.2.2.2.2.1 x.2.1 x.2.2.1 (fun w0 w1=>(Sum.inl (x.1,w0,w1,x.2.2.2.1,x.2.2.2.2.1,x.2.2.2.2.2.1,x.2.2.2.2.2.2.1,x.2.2.2.2.2.2.2))) (fun p0=>(Sum.inr (p0,x.2.2.2.2.1,x.2.2.2.2.2.1,x.2.2.2.2.2.2.1,x.2.2.2.2.2.2.2))):=by kernel_rfl
theorem qiD {R:Type} (x:tq) (k:tH→Option R) (r:R) (h:qiz x k=some r):∃ o,Z5s (LE.step X qix qiq qil qis 12) x o∧k o=some r:=by
 obtain ⟨o,h1,h2⟩:=Z0 h
 exact ⟨qiy x o,Zhl (st:=fun (x:tq)=>X1i x.1 x.2.2.2.1 x.2.2.2.2.1 x.2.2.2.2.2.2.1) (prj:=fun x=>(x.2.1,x.2.2.1)) (emb:=qiA) (embO:=qiy) (fun x=>(qiB x).trans (by unfold X1i WU;simp only [Zhd,Zh8,Zhe,Option.map_some,Option.map_none];rfl)) (fun _ _=>rfl) (fun _ _=>rfl) (fun _ _ _=>rfl) (fun _ _ _=>rfl) (fun _=>rfl) (Z1S.1 h1),by
  first
  | exact h2
  | (rcases o with o<;>exact h2)⟩
noncomputable def qiE {R:Type}:Z27 S R:=LE.ls X qix qiz qis
theorem qiF {R:Type}:Z3J X (qiE (R:=R)):=Zhq xok qir (e:=qix) qim qit qiD qit
theorem qiG (x:tM):PE.step X qip qiq qil qiE 12 x=Wn x.1 x.2.1 x.2.2.1 x.2.2.2:=by kernel_rfl
theorem qiH:ZaX X qip X2E:=Zhr (ZgU xok qir qim qiF 12) fun x _ h=>((qiG x).trans (X5e x).symm).trans h
noncomputable def qiI {R:Type}:Prs S R:=PE.ps X qip (fun x q=>(X2E x).bind q) qil
theorem qiJ {R:Type}:Z7R X (qiI (R:=R)):=Zhi (e:=qip) qiH qim
def qiK:StT S:=⟨(N (N L vO L) (some (.ptr 1 0)) L),(N (N L o3 L) oq L),2⟩
def qiL:Way S:=⟨.ret,⟨(N L vN L),(N (N L o3 L) oq L),2⟩,[.bool,(.st 20),(.lst (.st 21)),.en,(.mp (.st 23) (.int .i64))]⟩
def qiM:PE S:=⟨46,2,qiK,[.int,(.st 20),(.lst (.st 21)),.en,(.mp (.st 23) (.int .i64))],[qiL]⟩
noncomputable def qiN:List (Nat×F7 S):=[(110,q5T),(57,q37)]
theorem qiO:Z9n X qiN:=⟨q5U,q38,trivial⟩
abbrev qiP {R:Type}:Z27 S R:=Zgi
theorem qiQ {R:Type}:Z3J X (qiP (R:=R)):=ZgQ X
def qiR:Key:=⟨[108,0,46],108,none,[0,0,1,0,0,1,0,0,1],2,44⟩
def qiS:StT S:=⟨(N (N (N L vO L) (some (.ptr 18 0)) L) (some (.yld 22)) (N (N L vO L) none L)),o14,44⟩
def qiT:Way S:=⟨.ret,⟨L,oP,94⟩,[.int,(.st 20),(.lst (.st 21)),.en,(.arr (.st 5)),(.st 2),(.mp (.st 23) (.int .i64)),.bool,.int,.int]⟩
def qiU:Way S:=⟨(.exit 2),⟨v1g,o14,51⟩,[.int,.int,(.st 20),(.lst (.st 21)),.en,(.mp (.st 23) (.int .i64)),.bool,.int,.int]⟩
def qiV:LE S:=⟨qiR,qiS,[.int,.int,.int,(.st 20),(.lst (.st 21)),.en,(.mp (.st 23) (.int .i64)),.bool,.int,.int],[qiT,qiU]⟩
def qiW (x:to):((ZJ×(List Zn)×(Nat→Nat)×(Nat→ZE)×Zu×t1i×Bool)⊕tM)→t5:=Sum.elim (fun y0=>(.inl (x.2.2.1,y0.1,y0.2.1,y0.2.2.1,y0.2.2.2.1,y0.2.2.2.2.1,y0.2.2.2.2.2.1,y0.2.2.2.2.2.2,x.2.2.2.2.2.2.2.2.1,x.2.2.2.2.2.2.2.2.2))) (fun y1=>(.inr (x.1,x.2.2.1,y1.1,y1.2.1,y1.2.2.1,y1.2.2.2,x.2.2.2.2.2.2.2.1,x.2.2.2.2.2.2.2.2.1,x.2.2.2.2.2.2.2.2.2)))
noncomputable def qiX {R:Type} (x:to) (k:t5→Option R):Option R:=(X2f x.1 x.2.2.1 x.2.2.2.2.2.2.2.2.2 (x.2.1,x.2.2.2.1,x.2.2.2.2.1,x.2.2.2.2.2.1,x.2.2.2.2.2.2.1)).bind (Sum.elim (fun y0=>k (.inl (x.2.2.1,y0.1,y0.2.1,y0.2.2.1,y0.2.2.2.1,y0.2.2.2.2.1,y0.2.2.2.2.2.1,y0.2.2.2.2.2.2,x.2.2.2.2.2.2.2.2.1,x.2.2.2.2.2.2.2.2.2))) (fun y1=>k (.inr (x.1,x.2.2.1,y1.1,y1.2.1,y1.2.2.1,y1.2.2.2,x.2.2.2.2.2.2.2.1,x.2.2.2.2.2.2.2.2.1,x.2.2.2.2.2.2.2.2.2))))
def qiY (x:to) (v:tH):to:=(x.1,v.1,x.2.2.1,v.2.1,v.2.2.1,v.2.2.2.1,v.2.2.2.2,x.2.2.2.2.2.2.2.1,x.2.2.2.2.2.2.2.2.1,x.2.2.2.2.2.2.2.2.2)
theorem qiZ (x:to):LE.step X qiV qiN qiI qiP 12 x=WB x.1 x.2.2.1 x.2.2.2.2.2.2.2.2.2 x.2.1 x.2.2.2.1 x.2.2.2.2.1 x.2.2.2.2.2.1 x.2.2.2.2.2.2.1 (fun w0 w1 w2 w3 w4=>(Sum.inl (x.1,w0,x.2.2.1,w1,w2,w3,w4,x.2.2.2.2.2.2.2.1,x.2.2.2.2.2.2.2.2.1,x.2.2.2.2.2.2.2.2.2))) (fun p0 p1 p2 p3 p4 p5 p6=>(Sum.inr (.inl (x.2.2.1,p0,p1,p2,p3,p4,p5,p6,x.2.2.2.2.2.2.2.2.1,x.2.2.2.2.2.2.2.2.2)))) (fun p0 p1 p2 p3=>(Sum.inr (.inr (x.1,x.2.2.1,p0,p1,p2,p3,x.2.2.2.2.2.2.2.1,x.2.2.2.2.2.2.2.2.1,x.2.2.2.2.2.2.2.2.2)))):=by kernel_rfl
theorem qj1 {R:Type} (x:to) (k:t5→Option R) (r:R) (h:qiX x k=some r):∃ o,Z5s (LE.step X qiV qiN qiI qiP 12) x o∧k o=some r:=by
 obtain ⟨o,h1,h2⟩:=Z0 h
 exact ⟨qiW x o,Zhl (st:=fun (x:to)=>X15 x.1 x.2.2.1 x.2.2.2.2.2.2.2.2.2) (prj:=fun x=>(x.2.1,x.2.2.2.1,x.2.2.2.2.1,x.2.2.2.2.2.1,x.2.2.2.2.2.2.1)) (emb:=qiY) (embO:=qiW) (fun x=>(qiZ x).trans (by unfold X15 WB;simp only [Zhd,Zh8,Zhe,Option.map_some,Option.map_none];rfl)) (fun _ _=>rfl) (fun _ _=>rfl) (fun _ _ _=>rfl) (fun _ _ _=>rfl) (fun _=>rfl) (Z1S.1 h1),by
  first
  | exact h2
  | (rcases o with o|o<;>exact h2)⟩
noncomputable def qj2 {R:Type}:Z27 S R:=LE.ls X qiV qiX qiP
theorem qj3 {R:Type}:Z3J X (qj2 (R:=R)):=Zhq xok qiO (e:=qiV) qiJ qiQ qj1 qiQ
def qj4:Key:=⟨[108,0,46],108,none,[0,0,1],0,30⟩
def qj5:StT S:=⟨v1g,o14,30⟩
def qj6:Way S:=⟨.ret,⟨L,oP,94⟩,[.int,(.st 20),(.lst (.st 21)),.en,(.arr (.st 5)),(.st 2),(.mp (.st 23) (.int .i64)),.bool,.int,.int]⟩
def qj7:Way S:=⟨(.exit 0),⟨L,o14,37⟩,[.int,(.st 20),(.lst (.st 21)),.en,(.mp (.st 23) (.int .i64)),.bool,.int,.int]⟩
def qj8:LE S:=⟨qj4,qj5,[.int,.int,(.st 20),(.lst (.st 21)),.en,(.mp (.st 23) (.int .i64)),.bool,.int,.int],[qj6,qj7]⟩
def qj9 (x:tr):((ZJ×(List Zn)×(Nat→Nat)×(Nat→ZE)×Zu×t1i×Bool)⊕tM)→t7:=Sum.elim (fun y0=>(.inl (x.2.1,y0.1,y0.2.1,y0.2.2.1,y0.2.2.2.1,y0.2.2.2.2.1,y0.2.2.2.2.2.1,y0.2.2.2.2.2.2,x.2.2.2.2.2.2.2.1,x.2.2.2.2.2.2.2.2))) (fun y1=>(.inr (x.2.1,y1.1,y1.2.1,y1.2.2.1,y1.2.2.2,x.2.2.2.2.2.2.1,x.2.2.2.2.2.2.2.1,x.2.2.2.2.2.2.2.2)))
noncomputable def qja {R:Type} (x:tr) (k:t7→Option R):Option R:=(X2e x.2.1 x.2.2.2.2.2.2.2.2 (x.1,x.2.2.1,x.2.2.2.1,x.2.2.2.2.1,x.2.2.2.2.2.1)).bind (Sum.elim (fun y0=>k (.inl (x.2.1,y0.1,y0.2.1,y0.2.2.1,y0.2.2.2.1,y0.2.2.2.2.1,y0.2.2.2.2.2.1,y0.2.2.2.2.2.2,x.2.2.2.2.2.2.2.1,x.2.2.2.2.2.2.2.2))) (fun y1=>k (.inr (x.2.1,y1.1,y1.2.1,y1.2.2.1,y1.2.2.2,x.2.2.2.2.2.2.1,x.2.2.2.2.2.2.2.1,x.2.2.2.2.2.2.2.2))))
def qjb (x:tr) (v:tH):tr:=(v.1,x.2.1,v.2.1,v.2.2.1,v.2.2.2.1,v.2.2.2.2,x.2.2.2.2.2.2.1,x.2.2.2.2.2.2.2.1,x.2.2.2.2.2.2.2.2)
theorem qjc (x:tr):LE.step X qj8 qiN qiI qj2 12 x=WA x.2.1 x.2.2.2.2.2.2.2.2 x.1 x.2.2.1 x.2.2.2.1 x.2.2.2.2.1 x.2.2.2.2.2.1 (fun w0 w1 w2 w3 w4=>(Sum.inl (w0,x.2.1,w1,w2,w3,w4,x.2.2.2.2.2.2.1,x.2.2.2.2.2.2.2.1,x.2.2.2.2.2.2.2.2))) (fun p0 p1 p2 p3 p4 p5 p6=>(Sum.inr (.inl (x.2.1,p0,p1,p2,p3,p4,p5,p6,x.2.2.2.2.2.2.2.1,x.2.2.2.2.2.2.2.2)))) (fun p0 p1 p2 p3=>(Sum.inr (.inr (x.2.1,p0,p1,p2,p3,x.2.2.2.2.2.2.1,x.2.2.2.2.2.2.2.1,x.2.2.2.2.2.2.2.2)))):=by kernel_rfl
theorem qje {R:Type} (x:tr) (k:t7→Option R) (r:R) (h:qja x k=some r):∃ o,Z5s (LE.step X qj8 qiN qiI qj2 12) x o∧k o=some r:=by
 obtain ⟨o,h1,h2⟩:=Z0 h
 exact ⟨qj9 x o,Zhl (st:=fun (x:tr)=>X14 x.2.1 x.2.2.2.2.2.2.2.2) (prj:=fun x=>(x.1,x.2.2.1,x.2.2.2.1,x.2.2.2.2.1,x.2.2.2.2.2.1)) (emb:=qjb) (embO:=qj9) (fun x=>(qjc x).trans (by unfold X14 WA;simp only [Zhd,Zh8,Zhe,Option.map_some,Option.map_none];rfl)) (fun _ _=>rfl) (fun _ _=>rfl) (fun _ _ _=>rfl) (fun _ _ _=>rfl) (fun _=>rfl) (Z1S.1 h1),by
  first
  | exact h2
  | (rcases o with o|o<;>exact h2)⟩
noncomputable def qjf {R:Type}:Z27 S R:=LE.ls X qj8 qja qj2
theorem qjg {R:Type}:Z3J X (qjf (R:=R)):=Zhq xok qiO (e:=qj8) qiJ qj3 qje qj3
theorem qjh (x:tH):PE.step X qiM qiN qiI qjf 12 x=W5 x.1 x.2.1 x.2.2.1 x.2.2.2.1 x.2.2.2.2:=by kernel_rfl
theorem qji:ZaX X qiM X1w:=Zhr (ZgU xok qiO qiJ qjg 12) fun x _ h=>((qjh x).trans (X4X x).symm).trans h
noncomputable def qjj {R:Type}:Prs S R:=PE.ps X qiM (fun x q=>(X1w x).bind q) qiI
theorem qjk {R:Type}:Z7R X (qjj (R:=R)):=Zhi (e:=qiM) qji qiJ
def qjl:StT S:=⟨(N (N (N L (some (.ptr 4 0)) L) vO (N L (some (.ptr 0 0)) L)) vO (N (N L (some (.ptr 1 0)) L) vO L)),o1o,5⟩
def qjm:Way S:=⟨.ret,⟨(N L (some (.tup [(.int .i64 0),(.bool false)])) L),o1o,5⟩,[.int,.bool,(.st 20),(.lst (.st 21)),.en,.int,(.mp (.st 23) (.int .i64))]⟩
def qjn:PE S:=⟨45,6,qjl,[.int,.int,.int,(.st 20),(.lst (.st 21)),.en,.int,(.mp (.st 23) (.int .i64))],[qjm]⟩
noncomputable def qjo:List (Nat×F7 S):=[(110,q5T),(57,q37)]
theorem qjp:Z9n X qjo:=⟨q5U,q38,trivial⟩
abbrev qjq (ih:tv→Option tA) {R:Type}:Z27 S R:=Zgi
theorem qjr (ih:tv→Option tA) (hih:ZaX X qjn ih) {R:Type}:Z3J X (qjq ih (R:=R)):=ZgQ X
def qjs:Key:=⟨[45],45,none,[0,0,1,0,1,1],0,11⟩
def qjt:StT S:=⟨(N (N (N L none (N L vO L)) none (N L (some (.ptr 0 0)) L)) vO (N (N L (some (.ptr 1 0)) L) vO L)),o1o,11⟩
def qju:Way S:=⟨.ret,⟨(N v1u none v1z),o1o,39⟩,[.int,.bool,(.st 20),(.lst (.st 21)),.en,.int,(.mp (.st 23) (.int .i64))]⟩
def qjv:Way S:=⟨(.exit 0),⟨L,o1o,15⟩,[(.st 20),(.lst (.st 21)),.en,.int,(.mp (.st 23) (.int .i64))]⟩
def qjw:LE S:=⟨qjs,qjt,[.int,.int,.int,(.st 20),(.lst (.st 21)),.en,.int,(.mp (.st 23) (.int .i64))],[qju,qjv]⟩
def qjx (x:tx):tc→tc:=Sum.elim (fun y0=>(.inl (y0.1,y0.2.1,y0.2.2.1,y0.2.2.2.1,y0.2.2.2.2.1,y0.2.2.2.2.2.1,y0.2.2.2.2.2.2))) (fun y1=>(.inr (y1.1,y1.2.1,y1.2.2.1,y1.2.2.2.1,y1.2.2.2.2)))
noncomputable def qjy (ih:tv→Option tA) {R:Type} (x:tx) (k:tc→Option R):Option R:=(X3w ih x.2.1 x.2.2.1 (x.1,x.2.2.2.1,x.2.2.2.2.1,x.2.2.2.2.2.1,x.2.2.2.2.2.2.1,x.2.2.2.2.2.2.2)).bind (Sum.elim (fun y0=>k (.inl (y0.1,y0.2.1,y0.2.2.1,y0.2.2.2.1,y0.2.2.2.2.1,y0.2.2.2.2.2.1,y0.2.2.2.2.2.2))) (fun y1=>k (.inr (y1.1,y1.2.1,y1.2.2.1,y1.2.2.2.1,y1.2.2.2.2))))
def qjz (x:tx) (v:(Int×ZJ×(List Zn)×(Nat→Nat)×Int×t1i)):tx:=(v.1,x.2.1,x.2.2.1,v.2.1,v.2.2.1,v.2.2.2.1,v.2.2.2.2.1,v.2.2.2.2.2)
theorem qjA (ih:tv→Option tA) (x:tx):LE.step X qjw qjo (PE.ps X qjn (fun x q=>(ih x).bind q) qjj) (qjq ih) 12 x=X1Y ih x.2.1 x.2.2.1 x.1 x.2.2.2.1 x.2.2.2.2.1 x.2.2.2.2.2.1 x.2.2.2.2.2.2.1 x.2.2.2.2.2.2.2 (fun w0 w1 w2 w3 w4 w5=>(Sum.inl (w0,x.2.1,x.2.2.1,w1,w2,w3,w4,w5))) (fun p0 p1 p2 p3 p4 p5 p6=>(Sum.inr (.inl (p0,p1,p2,p3,p4,p5,p6)))) (fun p0 p1 p2 p3 p4=>(Sum.inr (.inr (p0,p1,p2,p3,p4)))):=by kernel_rfl
theorem qjC (ih:tv→Option tA) {R:Type} (x:tx) (k:tc→Option R) (r:R) (h:qjy ih x k=some r):∃ o,Z5s (LE.step X qjw qjo (PE.ps X qjn (fun x q=>(ih x).bind q) qjj) (qjq ih) 12) x o∧k o=some r:=by
 obtain ⟨o,h1,h2⟩:=Z0 h
 exact ⟨qjx x o,Zhl (st:=fun (x:tx)=>X2m ih x.2.1 x.2.2.1) (prj:=fun x=>(x.1,x.2.2.2.1,x.2.2.2.2.1,x.2.2.2.2.2.1,x.2.2.2.2.2.2.1,x.2.2.2.2.2.2.2)) (emb:=qjz) (embO:=qjx) (fun x=>(qjA ih x).trans (by unfold X2m X1Y;simp only [Zhd,Zh8,Zhe,Option.map_some,Option.map_none];rfl)) (fun _ _=>rfl) (fun _ _=>rfl) (fun _ _ _=>rfl) (fun _ _ _=>rfl) (fun _=>rfl) (Z1S.1 h1),by
  first
  | exact h2
  | (rcases o with o|o<;>exact h2)⟩
noncomputable def qjD (ih:tv→Option tA) {R:Type}:Z27 S R:=LE.ls X qjw (qjy ih) (qjq ih)
theorem qjE (ih:tv→Option tA) (hih:ZaX X qjn ih) {R:Type}:Z3J X (qjD ih (R:=R)):=Zhq xok qjp (e:=qjw) (Zhi (e:=qjn) hih qjk) (qjr ih hih) (qjC ih) (qjr ih hih)
theorem qjF (ih:tv→Option tA) (x:tx):PE.step X qjn qjo (PE.ps X qjn (fun x q=>(ih x).bind q) qjj) (qjD ih) 12 x=X4h ih x.1 x.2.1 x.2.2.1 x.2.2.2.1 x.2.2.2.2.1 x.2.2.2.2.2.1 x.2.2.2.2.2.2.1 x.2.2.2.2.2.2.2:=by kernel_rfl
theorem qjG:ZaX X qjn X5H:=Zhj (X:=X) (e:=qjn) (t:=X4i) fun ih hih=>Zhr (ZgU xok qjp (Zhi (e:=qjn) hih qjk) (qjE ih hih) 12) fun x _ h=>(qjF ih x).trans h
noncomputable def qjH {R:Type}:Prs S R:=PE.ps X qjn (fun x q=>(X5H x).bind q) qjj
theorem qjI {R:Type}:Z7R X (qjH (R:=R)):=Zhi (e:=qjn) qjG qjk
noncomputable def qjJ:List (Nat×F7 S):=[]
theorem qjK:Z9n X (qjJ):=trivial
abbrev qjL {R:Type}:Z27 S R:=Zgi
theorem qjM {R:Type}:Z3J X (qjL (R:=R)):=ZgQ X
def qjN:Key:=⟨[84],84,none,[0,0,1,0,1,1,1],0,9⟩
def qjO:StT S:=⟨(N (N (N L vO L) none L) (some (.sl (.int .i64) [])) (N (N L vO L) none L)),L,9⟩
def qjP:Way S:=⟨(.exit 0),⟨v1t,L,13⟩,[.int]⟩
def qjQ:LE S:=⟨qjN,qjO,[.int,(.lst (.int .i64)),.int],[qjP]⟩
def qjR (x:t1h):Int→Int:=fun y0=>y0
noncomputable def qjS {R:Type} (x:t1h) (k:Int→Option R):Option R:=(X2B x.2.1 (x.1,x.2.2)).bind (fun y0=>k y0)
def qjT (x:t1h) (v:(Int×Int)):t1h:=(v.1,x.2.1,v.2)
theorem qjU (x:t1h):LE.step X qjQ qjJ qjH qjL 12 x=X1c x.2.1 x.1 x.2.2 (fun w0 w1=>(Sum.inl (w0,x.2.1,w1))) (fun p0=>(Sum.inr p0)):=by kernel_rfl
theorem qjW {R:Type} (x:t1h) (k:Int→Option R) (r:R) (h:qjS x k=some r):∃ o,Z5s (LE.step X qjQ qjJ qjH qjL 12) x o∧k o=some r:=by
 obtain ⟨o,h1,h2⟩:=Z0 h
 exact ⟨qjR x o,Zhl (st:=fun (x:t1h)=>X1C x.2.1) (prj:=fun x=>(x.1,x.2.2)) (emb:=qjT) (embO:=qjR) (fun x=>(qjU x).trans (by unfold X1C X1c;simp only [Zhd,Zh8,Zhe,Option.map_some,Option.map_none];rfl)) (fun _ _=>rfl) (fun _ _=>rfl) (fun _ _ _=>rfl) (fun _ _ _=>rfl) (fun _=>rfl) (Z1S.1 h1),by
  first
  | exact h2
  | (rcases o with o<;>exact h2)⟩
noncomputable def qjX {R:Type}:Z27 S R:=LE.ls X qjQ qjS qjL
theorem qjY {R:Type}:Z3J X (qjX (R:=R)):=Zhq xok qjK (e:=qjQ) qjI qjM qjW qjM
theorem qjZ (x0:List Int):Zhs X qjJ [(.sl (.int .i64))] [(.int .i64)] qjH qjX 12 84 (x0,())=WV x0:=by kernel_rfl
noncomputable def qk0:F7 S:=⟨[(.sl (.int .i64))],[(.int .i64)],fun xs=>X2Z xs.1⟩
theorem qk1:Z7Q X 84 qk0:=Zho (Zhn xok qjK qjI qjY 12 84) fun xs _ h=>((qjZ xs.1).trans (X5C xs.1).symm).trans h
def qk2:StT S:=⟨(N (N (N L vO L) vL L) (some (.ptr 1 0)) (N L vO L)),(N (N L o3 L) oq L),2⟩
def qk3:Way S:=⟨.ret,⟨(N L vO L),(N (N L o3 L) oq L),2⟩,[.int,(.st 20),(.lst (.st 21)),.en,(.mp (.st 23) (.int .i64))]⟩
def qk4:PE S:=⟨50,4,qk2,[.int,(.lst (.st 2)),.int,(.st 20),(.lst (.st 21)),.en,(.mp (.st 23) (.int .i64))],[qk3]⟩
noncomputable def qk5:List (Nat×F7 S):=[(110,q5T),(57,q37),(84,qk0)]
theorem qk6:Z9n X qk5:=⟨q5U,q38,qk1,trivial⟩
abbrev qk7 {R:Type}:Z27 S R:=Zgi
theorem qk8 {R:Type}:Z3J X (qk7 (R:=R)):=ZgQ X
def qk9:Key:=⟨[50],50,none,[0,0,1,1,1,1,1,0,0,1,1,0,0,1,0,1,1],2,39⟩
def qka:StT S:=⟨(N (N (N L vO v1u) none (N (N (N L vO L) (some (.ptr 3 0)) L) none L)) (some (.ptr 1 0)) (N (N (N (N L vL L) none L) none (N L (some (.ptr 18 0)) (N (N L vO L) none L))) vO (N (N (N L vO L) none L) none (N L vO L)))),o1c,39⟩
def qkb:Way S:=⟨(.exit 2),⟨vU,o1c,40⟩,[.int,.int,(.lst (.st 2)),.int,.int,(.arr (.int .i64)),(.st 20),(.lst (.st 21)),.en,(.mp (.st 23) (.int .i64)),(.arr (.st 5)),(.st 2)]⟩
def qkc:LE S:=⟨qk9,qka,[.int,.int,.int,(.lst (.st 2)),.int,.int,.int,.int,(.arr (.int .i64)),(.st 20),(.lst (.st 21)),.en,(.mp (.st 23) (.int .i64)),(.arr (.st 5)),(.st 2)],[qkb]⟩
def qkd (x:td):(Nat→Int)→te:=fun y0=>(x.1,x.2.2.1,x.2.2.2.1,x.2.2.2.2.2.1,x.2.2.2.2.2.2.1,y0,x.2.2.2.2.2.2.2.2.2.1,x.2.2.2.2.2.2.2.2.2.2.1,x.2.2.2.2.2.2.2.2.2.2.2.1,x.2.2.2.2.2.2.2.2.2.2.2.2.1,x.2.2.2.2.2.2.2.2.2.2.2.2.2.1,x.2.2.2.2.2.2.2.2.2.2.2.2.2.2)
noncomputable def qke {R:Type} (x:td) (k:te→Option R):Option R:=(X2M x.1 x.2.1 x.2.2.1 x.2.2.2.1 x.2.2.2.2.2.1 x.2.2.2.2.2.2.1 x.2.2.2.2.2.2.2.1 x.2.2.2.2.2.2.2.2.2.1 x.2.2.2.2.2.2.2.2.2.2.1 x.2.2.2.2.2.2.2.2.2.2.2.1 x.2.2.2.2.2.2.2.2.2.2.2.2.1 x.2.2.2.2.2.2.2.2.2.2.2.2.2.1 x.2.2.2.2.2.2.2.2.2.2.2.2.2.2 (x.2.2.2.2.1,x.2.2.2.2.2.2.2.2.1)).bind (fun y0=>k (x.1,x.2.2.1,x.2.2.2.1,x.2.2.2.2.2.1,x.2.2.2.2.2.2.1,y0,x.2.2.2.2.2.2.2.2.2.1,x.2.2.2.2.2.2.2.2.2.2.1,x.2.2.2.2.2.2.2.2.2.2.2.1,x.2.2.2.2.2.2.2.2.2.2.2.2.1,x.2.2.2.2.2.2.2.2.2.2.2.2.2.1,x.2.2.2.2.2.2.2.2.2.2.2.2.2.2))
def qkf (x:td) (v:(Int×(Nat→Int))):td:=(x.1,x.2.1,x.2.2.1,x.2.2.2.1,v.1,x.2.2.2.2.2.1,x.2.2.2.2.2.2.1,x.2.2.2.2.2.2.2.1,v.2,x.2.2.2.2.2.2.2.2.2.1,x.2.2.2.2.2.2.2.2.2.2.1,x.2.2.2.2.2.2.2.2.2.2.2.1,x.2.2.2.2.2.2.2.2.2.2.2.2.1,x.2.2.2.2.2.2.2.2.2.2.2.2.2.1,x.2.2.2.2.2.2.2.2.2.2.2.2.2.2)
theorem qkg (x:td):LE.step X qkc qk5 qjH qk7 12 x=X1h x.1 x.2.1 x.2.2.1 x.2.2.2.1 x.2.2.2.2.2.1 x.2.2.2.2.2.2.1 x.2.2.2.2.2.2.2.1 x.2.2.2.2.2.2.2.2.2.1 x.2.2.2.2.2.2.2.2.2.2.1 x.2.2.2.2.2.2.2.2.2.2.2.1 x.2.2.2.2.2.2.2.2.2.2.2.2.1 x.2.2.2.2.2.2.2.2.2.2.2.2.2.1 x.2.2.2.2.2.2.2.2.2.2.2.2.2.2 x.2.2.2.2.1 x.2.2.2.2.2.2.2.2.1 (fun w0 w1=>(Sum.inl (x.1,x.2.1,x.2.2.1,x.2.2.2.1,w0,x.2.2.2.2.2.1,x.2.2.2.2.2.2.1,x.2.2.2.2.2.2.2.1,w1,x.2.2.2.2.2.2.2.2.2.1,x.2.2.2.2.2.2.2.2.2.2.1,x.2.2.2.2.2.2.2.2.2.2.2.1,x.2.2.2.2.2.2.2.2.2.2.2.2.1,x.2.2.2.2.2.2.2.2.2.2.2.2.2.1,x.2.2.2.2.2.2.2.2.2.2.2.2.2.2))) (fun p0=>(Sum.inr (x.1,x.2.2.1,x.2.2.2.1,x.2.2.2.2.2.1,x.2.2.2.2.2.2.1,p0,x.2.2.2.2.2.2.2.2.2.1,x.2.2.2.2.2.2.2.2.2.2.1,x.2.2.2.2.2.2.2.2.2.2.2.1,x.2.2.2.2.2.2.2.2.2.2.2.2.1,x.2.2.2.2.2.2.2.2.2.2.2.2.2.1,x.2.2.2.2.2.2.2.2.2.2.2.2.2.2))):=by kernel_rfl
theorem qki {R:Type} (x:td) (k:te→Option R) (r:R) (h:qke x k=some r):∃ o,Z5s (LE.step X qkc qk5 qjH qk7 12) x o∧k o=some r:=by
 obtain ⟨o,h1,h2⟩:=Z0 h
 exact ⟨qkd x o,Zhl (st:=fun (x:td)=>X1L x.1 x.2.1 x.2.2.1 x.2.2.2.1 x.2.2.2.2.2.1 x.2.2.2.2.2.2.1 x.2.2.2.2.2.2.2.1 x.2.2.2.2.2.2.2.2.2.1 x.2.2.2.2.2.2.2.2.2.2.1 x.2.2.2.2.2.2.2.2.2.2.2.1 x.2.2.2.2.2.2.2.2.2.2.2.2.1 x.2.2.2.2.2.2.2.2.2.2.2.2.2.1 x.2.2.2.2.2.2.2.2.2.2.2.2.2.2) (prj:=fun x=>(x.2.2.2.2.1,x.2.2.2.2.2.2.2.2.1)) (emb:=qkf) (embO:=qkd) (fun x=>(qkg x).trans (by unfold X1L X1h;simp only [Zhd,Zh8,Zhe,Option.map_some,Option.map_none];rfl)) (fun _ _=>rfl) (fun _ _=>rfl) (fun _ _ _=>rfl) (fun _ _ _=>rfl) (fun _=>rfl) (Z1S.1 h1),by
  first
  | exact h2
  | (rcases o with o<;>exact h2)⟩
noncomputable def qkj {R:Type}:Z27 S R:=LE.ls X qkc qke qk7
theorem qkk {R:Type}:Z3J X (qkj (R:=R)):=Zhq xok qk6 (e:=qkc) qjI qk8 qki qk8
def qkl:Key:=⟨[50],50,none,[0,0,1,0,1,1],0,7⟩
def qkm:StT S:=⟨vU,(N (N (N L o6 L) o3 L) oq L),7⟩
def qkn:Way S:=⟨(.exit 0),⟨(N (N L none v1r) none L),(N (N (N L o6 L) o3 L) oq L),8⟩,[(.arr (.int .i64)),(.st 20),(.lst (.st 21)),.en,(.mp (.st 23) (.int .i64))]⟩
def qko:LE S:=⟨qkl,qkm,[.int,.int,(.lst (.st 2)),.int,.int,(.arr (.int .i64)),(.st 20),(.lst (.st 21)),.en,(.mp (.st 23) (.int .i64))],[qkn]⟩
def qkp (x:tl):tE→tE:=fun y0=>(y0.1,y0.2.1,y0.2.2.1,y0.2.2.2.1,y0.2.2.2.2)
noncomputable def qkq {R:Type} (x:tl) (k:tE→Option R):Option R:=(X2L x.1 x.2.1 x.2.2.1 x.2.2.2.1 (x.2.2.2.2.1,x.2.2.2.2.2.1,x.2.2.2.2.2.2.1,x.2.2.2.2.2.2.2.1,x.2.2.2.2.2.2.2.2.1,x.2.2.2.2.2.2.2.2.2)).bind (fun y0=>k (y0.1,y0.2.1,y0.2.2.1,y0.2.2.2.1,y0.2.2.2.2))
def qkr (x:tl) (v:(Int×(Nat→Int)×ZJ×(List Zn)×(Nat→Nat)×t1i)):tl:=(x.1,x.2.1,x.2.2.1,x.2.2.2.1,v.1,v.2.1,v.2.2.1,v.2.2.2.1,v.2.2.2.2.1,v.2.2.2.2.2)
theorem qks (x:tl):LE.step X qko qk5 qjH qkj 12 x=X1g x.1 x.2.1 x.2.2.1 x.2.2.2.1 x.2.2.2.2.1 x.2.2.2.2.2.1 x.2.2.2.2.2.2.1 x.2.2.2.2.2.2.2.1 x.2.2.2.2.2.2.2.2.1 x.2.2.2.2.2.2.2.2.2 (fun w0 w1 w2 w3 w4 w5=>(Sum.inl (x.1,x.2.1,x.2.2.1,x.2.2.2.1,w0,w1,w2,w3,w4,w5))) (fun p0 p1 p2 p3 p4=>(Sum.inr (p0,p1,p2,p3,p4))):=by kernel_rfl
theorem qku {R:Type} (x:tl) (k:tE→Option R) (r:R) (h:qkq x k=some r):∃ o,Z5s (LE.step X qko qk5 qjH qkj 12) x o∧k o=some r:=by
 obtain ⟨o,h1,h2⟩:=Z0 h
 exact ⟨qkp x o,Zhl (st:=fun (x:tl)=>X1K x.1 x.2.1 x.2.2.1 x.2.2.2.1) (prj:=fun x=>(x.2.2.2.2.1,x.2.2.2.2.2.1,x.2.2.2.2.2.2.1,x.2.2.2.2.2.2.2.1,x.2.2.2.2.2.2.2.2.1,x.2.2.2.2.2.2.2.2.2)) (emb:=qkr) (embO:=qkp) (fun x=>(qks x).trans (by unfold X1K X1g;simp only [Zhd,Zh8,Zhe,Option.map_some,Option.map_none];rfl)) (fun _ _=>rfl) (fun _ _=>rfl) (fun _ _ _=>rfl) (fun _ _ _=>rfl) (fun _=>rfl) (Z1S.1 h1),by
  first
  | exact h2
  | (rcases o with o<;>exact h2)⟩
noncomputable def qkv {R:Type}:Z27 S R:=LE.ls X qko qkq qkj
theorem qkw {R:Type}:Z3J X (qkv (R:=R)):=Zhq xok qk6 (e:=qko) qjI qkk qku qkk
theorem qkx (x:(Int×(List Zu)×Int×ZJ×(List Zn)×(Nat→Nat)×t1i)):PE.step X qk4 qk5 qjH qkv 12 x=X1d x.1 x.2.1 x.2.2.1 x.2.2.2.1 x.2.2.2.2.1 x.2.2.2.2.2.1 x.2.2.2.2.2.2:=by kernel_rfl
theorem qky:ZaX X qk4 X39:=Zhr (ZgU xok qk6 qjI qkw 12) fun x _ h=>((qkx x).trans (X5I x).symm).trans h
noncomputable def qkz {R:Type}:Prs S R:=PE.ps X qk4 (fun x q=>(X39 x).bind q) qjH
theorem qkA {R:Type}:Z7R X (qkz (R:=R)):=Zhi (e:=qk4) qky qjI
noncomputable def qkB:F7 S:=⟨[],[.bool],fun _=>X6L⟩
theorem qkC:Z7Q X 14 qkB:=ZeO (X:=X) (F:=X6L) rfl Zdy
noncomputable def qkD:List (Nat×F7 S):=[(9,q9d),(10,qh5),(11,qhp),(12,qhI),(13,qi1),(14,qkB)]
theorem qkE:Z9n X (qkD):=⟨q9e,qh6,qhq,qhJ,qi2,qkC,trivial⟩
abbrev qkF {R:Type}:Z27 S R:=Zgi
theorem qkG {R:Type}:Z3J X (qkF (R:=R)):=ZgQ X
theorem qkH (x0:ZJ) (x1:List Zn):Zhs X qkD [(.st 20),(.sl (.st 21))] [.bool] qkz qkF 12 3 (x0,x1,())=WJ x0 x1:=by kernel_rfl
noncomputable def qkI:F7 S:=⟨[(.st 20),(.sl (.st 21))],[.bool],fun xs=>X2P xs.1 xs.2.1⟩
theorem X5N:Z7Q X 3 qkI:=Zho (Zhn xok qkE qkA qkG 12 3) fun xs _ h=>((qkH xs.1 xs.2.1).trans (X4o xs.1 xs.2.1).symm).trans h
end Nore
