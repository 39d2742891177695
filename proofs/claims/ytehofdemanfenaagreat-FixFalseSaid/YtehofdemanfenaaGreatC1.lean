/- The code comes to the plain functions. -/
import Derived.Test.YtehofdemanfenaaGreatY
import Derived.Test.YtehofdemanfenaaGreatD
import Derived.Test.YtehofdemanfenaaGreatK6
set_option linter.unusedSectionVars false
set_option linter.unusedVariables false
set_option linter.unusedSimpArgs false
set_option maxRecDepth 100000
open Go Go.Ab Go.Proofs Go.Proofs.YtehofdemanfenaaGreat
open Go.Ab.Tr renaming node→N,leaf→L
namespace Nore
noncomputable section
abbrev t1k:Type:=List (Zh×Int)
abbrev t1j:Type:=Int×(List Int)×Int
abbrev t1i:Type:=List (ByteArray×Int)
abbrev t1h:Type:=Int×Int×Int×Zx
abbrev t1g:Type:=Int×(List Zt)×Int
abbrev t1f:Type:=(Int×Int×Zt)⊕Unit
abbrev t1e:Type:=(List Zm)×Int×ZI
abbrev t1d:Type:=Int×(List Zu)×Int×Int
abbrev t1c:Type:=Int×(List ByteArray)×ZI
abbrev t1b:Type:=Int×Int×(List Zu)×Int
abbrev t1a:Type:=(Int×Int×Int)⊕(Int×Int)
abbrev t19:Type:=(Nat→Int)×(List Int)×ZI
abbrev t18:Type:=Int×(List ByteArray)×Zk
abbrev t17:Type:=Int×Zk×(List ByteArray)
abbrev t16:Type:=Int×(List Zt)×Int×Zu
abbrev t15:Type:=(Nat→Zu)×Int×Int×Zu
abbrev t14:Type:=Int×ByteArray×ByteArray×Nat
abbrev t13:Type:=Int×(List Int)×Int×Int×Int
abbrev t12:Type:=ByteArray×Int×(List ByteArray)
abbrev t11:Type:=Int×Int×(List ZE)×Int×Int
abbrev t10:Type:=Int×(Nat→Int)×(List Int)×ZI
abbrev tZ:Type:=Int×(List Z5)×Int×ZI
abbrev tY:Type:=Int×Int×Int×(List Zj)×(List Int)
abbrev tX:Type:=Int×(List Z5)×Int×Z5
abbrev tW:Type:=Zu×Z4×ZI×(List Zm)
abbrev tV:Type:=(Int×Z5×Z5)⊕Z5
abbrev tU:Type:=Int×Int×Int×t1i×CtSand
abbrev tT:Type:=Int×Zu×Z4×ZI×(List Zm)
abbrev tS:Type:=(Int×(List Int)×Zu×(List Int)×Zt)⊕Zu
abbrev tR:Type:=(Int×Int×Z5×Z5×ZI)⊕ZI
abbrev tQ:Type:=(List Zm)×Int×(List Int)×ZI×(List Zm)
abbrev tP:Type:=ZI×(List Zm)×(Nat→Nat)×t1k
abbrev tO:Type:=Int×(List CtSand)×Int×Zk×t1i
abbrev tN:Type:=Int×Int×(List Zx)×Zk×t1i
abbrev tM:Type:=(Bool×ByteArray×Nat)⊕t14
abbrev tL:Type:=Int×Int×Int×(List ByteArray)×Zx×(List ByteArray)
abbrev tK:Type:=(List Zm)×Bool×Int×(List Int)×(List Zm)×ZI
abbrev tJ:Type:=(List Int)×Z4×(List Zm)×ZI×(Nat→Int)
abbrev tI:Type:=Int×ZI×(List Zm)×(Nat→Nat)×t1k
abbrev tH:Type:=(List Zm)×Bool×Int×(List Int)×Int×(List Zm)×ZI
abbrev tG:Type:=Int×(List Int)×Z4×(List Zm)×ZI×(Nat→Int)
abbrev tF:Type:=(Int×Int×Int×(List ByteArray)×ZI)⊕((List ByteArray)×ZI)
abbrev tE:Type:=(Nat→Int)×ZI×(List Zm)×(Nat→Nat)×t1k
abbrev tD:Type:=(List Zu)×ZI×(List Zm)×(Nat→Nat)×t1k
abbrev tC:Type:=(Int×Bool×ZI×(List Zm)×(Nat→Nat)×Int×t1k)
abbrev tB:Type:=Int×(List Zu)×ZI×(List Zm)×(Nat→Nat)×t1k
abbrev tA:Type:=Int×ZI×(List Zm)×(Nat→Nat)×t1k×(List Zu)
abbrev tz:Type:=Int×Int×Int×ZI×(List Zm)×(Nat→Nat)×Int×t1k
abbrev ty:Type:=(List Zm)×ZI×ZI×(List Zm)×(Nat→Nat)×t1k
abbrev tx:Type:=Int×Int×Int×t1k×ZI×ZI×(List Zm)×(Nat→Nat)
abbrev tw:Type:=tz
abbrev tv:Type:=Int×Z8×Bool×Int×Bool×Z8×Bool×Int×Z8×Z6
abbrev tu:Type:=Int×Int×ZI×(List Zm)×(Nat→Nat)×t1k×(List Zu)
abbrev tt:Type:=Int×(List Zm)×Int×ZI×(List Zm)×(Nat→Nat)×t1k
abbrev ts:Type:=Int×Int×ZI×(List Zm)×(Nat→Nat)×t1k×Bool×Int×Int
abbrev tr:Type:=Int×Int×Int×(List Zm)×ZI×(List Zm)×(Nat→Nat)×t1k
abbrev tq:Type:=Int×Int×(Nat→ZE)×ZI×(List Zm)×(Nat→Nat)×t1k×Zu
abbrev tp:Type:=Int×Int×Int×ZI×(List Zm)×(Nat→Nat)×t1k×Bool×Int×Int
abbrev to:Type:=Int×Int×Int×Bool×Int×t1k×ZI×ZI×(List Zm)×(Nat→Nat)
abbrev tn:Type:=Int×(List Int)×t1k×ZI×(List Int)×ZI×(List Zm)×(Nat→Nat)
abbrev tm:Type:=Int×Int×(List Zu)×Int×Int×(Nat→Int)×ZI×(List Zm)×(Nat→Nat)×t1k
abbrev tl:Type:=Int×Int×(List Zu)×Int×Z8×Bool×Int×Bool×Z8×Bool×Int×Z8×Z6
abbrev tk:Type:=Int×Int×(List Zu)×Z8×Bool×Int×Bool×Z8×Bool×Int×Z8×(List Int)×Zu
abbrev tj:Type:=(List Z5)×(List Zm)×Int×Int×ZI×ZI×(List Zm)×(Nat→Nat)×t1k
abbrev ti:Type:=Int×Int×Int×Int×Int×(List Int)×t1k×ZI×(List Int)×ZI×(List Zm)×(Nat→Nat)
abbrev th:Type:=Int×Int×(List Zm)×Int×Int×(Nat→ZE)×ZI×(List Zm)×(Nat→Nat)×t1k×Zu
abbrev tg:Type:=Int×Int×Int×Zk×(List Int)×Bool×Int×Bool×Zk×Int×Bool×(List Int)×Int×(List Zj)×Zx
abbrev tf:Type:=Int×Int×Int×Int×(List Z5)×(Nat→ZE)×ZI×(List Zm)×(Nat→Nat)×t1k×Zu
abbrev te:Type:=Int×Int×(List Zu)×Int×Int×(Nat→Int)×ZI×(List Zm)×(Nat→Nat)×t1k×(Nat→ZE)×Zu
abbrev td:Type:=Int×Int×Int×(List Zu)×Int×Int×Int×Int×(Nat→Int)×ZI×(List Zm)×(Nat→Nat)×t1k×(Nat→ZE)×Zu
abbrev tc:Type:=(Int×Bool×ZI×(List Zm)×(Nat→Nat)×Int×t1k)⊕(ZI×(List Zm)×(Nat→Nat)×Int×t1k)
abbrev tb:Type:=(Int×Int×ZI×(List Zm)×(Nat→Nat)×Zm×Zm×t1k)⊕tP
abbrev ta:Type:=(Int×Int×Int×(List ByteArray)×(List ByteArray)×Zk)⊕(Int×Int×Int×(List ByteArray)×(List ByteArray)×Zk)⊕((List ByteArray)×Zk)
abbrev t9:Type:=(Int×(List Int)×(List Int)×Zj)⊕(Int×(List Int)×(List Int)×(List Int)×Zj)⊕(Int×(List Int)×(List Int)×(List Int)×Zj)⊕(List Int)
abbrev t8:Type:=(Int×Int×Int×(List ByteArray)×ZI×(List ByteArray)×Z5)⊕(Int×Int×Int×(List ByteArray)×ZI×(List ByteArray)×Z5)⊕((List ByteArray)×ZI)
abbrev t7:Type:=(Int×ZI×(List Zm)×(Nat→Nat)×(Nat→ZE)×Zu×t1k×Bool×Int×Int)⊕(Int×ZI×(List Zm)×(Nat→Nat)×t1k×Bool×Int×Int)
abbrev t6:Type:=(Z8×Bool×Int×Bool×Z8×Bool×Int×Z8×Zu×Z6×(List Int)×Zu)⊕(Z8×Bool×Int×Bool×Z8×Bool×Int×Z8×(List Int)×Zu)
abbrev t5:Type:=(Int×ZI×(List Zm)×(Nat→Nat)×(Nat→ZE)×Zu×t1k×Bool×Int×Int)⊕ts
abbrev t4:Type:=(Int×Int×Int×Zk×t1i×CtSand)⊕(Int×Int×Int×Zk×t1i×CtSand)⊕(Int×Int×Int×Zk×t1i×CtSand)⊕(Zk×t1i)
abbrev t3:Type:=(Zj×Int×Int×Zk×(List Int)×Bool×Int×Bool×Zk×Int×Bool×(List Int)×Int×(List Zj)×Zx)⊕(Int×Int×Zk×(List Int)×Bool×Int×Bool×Zk×Int×Bool×(List Int)×Int×(List Zj)×Zx)
abbrev t2:Type:=(Int×Int×Int×(List ByteArray)×Zx×Zk×(List ByteArray))⊕(Int×Int×Int×(List ByteArray)×Zx×Zk×(List ByteArray))⊕(Int×Int×Int×(List ByteArray)×Zx×Zk×(List ByteArray))⊕(Zk×(List ByteArray))
abbrev t1:Type:=(Bool×(Nat→ZE)×ZI×(List Zm)×(Nat→Nat)×ZE×t1k×Zu×Zm)⊕(Bool×(Nat→ZE)×ZI×(List Zm)×(Nat→Nat)×ZE×t1k×Zu×Zm)⊕((Nat→ZE)×ZI×(List Zm)×(Nat→Nat)×t1k×Zu)
abbrev t0:Type:=(Int×Int×Int×Zx×Zk×t1i)⊕(Int×Int×Int×Zx×Zk×t1i)⊕(Int×Int×Int×Zx×Zk×t1i×(List Zu))⊕(Int×Int×Int×Zx×Zk×t1i×(List Zu))⊕(Zk×t1i)
abbrev vU:Option (TV S):=some (.bool false)
abbrev vT:Option (TV S):=some (.int .i64 0)
abbrev vS:Option (TV S):=some (.sl (.st 2) [])
abbrev vR:Option (TV S):=some (.sl (.st 21) [])
abbrev vQ:Option (TV S):=some (.sl (.st 18) [])
abbrev vP:Option (TV S):=some (.sl (.int .i64) [])
abbrev oO:Option (Zi S):=some (.row 9 .str [] 1 1)
abbrev oN:Option (Zi S):=some (.row 9 .str [] 0 0)
abbrev oM:Option (Zi S):=some (.row 9 .str [] 1 0)
abbrev vL:Option (TV S):=some (.str ByteArray.empty)
abbrev oK:Option (Zi S):=some (.cells 163 [(.map 4)])
abbrev oJ:Option (Zi S):=some (.cells 80 [(.ptr 3 0)])
abbrev oI:Option (Zi S):=some (.cells 80 [(.ptr 1 0)])
abbrev oH:Option (Zi S):=some (.row 57 (.st 2) [] 1 0)
abbrev oG:Option (Zi S):=some (.row 72 (.st 21) [] 0 0)
abbrev oF:Option (Zi S):=some (.row 72 (.st 21) [] 1 0)
abbrev oE:Option (Zi S):=some (.cells 80 [(.ptr 14 0)])
abbrev oD:Option (Zi S):=some (.cells 80 [(.ptr 20 0)])
abbrev oC:Option (Zi S):=some (.cells 4 [(.bool false)])
abbrev oB:Option (Zi S):=some (.map .str (.int .i64) [])
abbrev oA:Option (Zi S):=some (.cells 3 [(.int .i64 0)])
abbrev oz:Option (Zi S):=some (.siter ByteArray.empty 0)
abbrev oy:Option (Zi S):=some (.cells 32 [(.int .i64 0)])
abbrev ox:Option (Zi S):=some (.row 3 (.int .i64) [] 1 0)
abbrev vw:Option (TV S):=some (.agg [(.stc 2 (T.dflt 2))])
abbrev vv:Option (TV S):=some (.agg [(.stc 8 (T.dflt 8))])
abbrev vu:Option (TV S):=some (.agg [(.stc 20 (T.dflt 20))])
abbrev vt:Option (TV S):=some (.agg [(.stc 21 (T.dflt 21))])
abbrev os:Option (Zi S):=some (.map (.st 23) (.int .i64) [])
abbrev vr:Option (TV S):=some (.agg [(.stc 15 (T.dflt 15))])
abbrev oq:Option (Zi S):=some (.cells 107 [(.sl (.st 3) [])])
abbrev vp:Option (TV S):=some (.fn (.func 91) [] [(.ptr 5 0)])
abbrev oo:Option (Zi S):=some (.cells 57 [(.stc 2 (T.dflt 2))])
abbrev on:Option (Zi S):=some (.cells 25 [(.stc 8 (T.dflt 8))])
abbrev vm:Option (TV S):=some (.fn (.func 132) [] [(.ptr 36 0)])
abbrev vl:Option (TV S):=some (.fn (.func 131) [] [(.ptr 23 0)])
abbrev ok:Option (Zi S):=some (.cells 148 [(.stc 3 (T.dflt 3))])
abbrev oj:Option (Zi S):=some (.cells 109 [(.stc 4 (T.dflt 4))])
abbrev oi:Option (Zi S):=some (.cells 169 [(.stc 7 (T.dflt 7))])
abbrev oh:Option (Zi S):=some (.cells 53 [(.stc 22 (T.dflt 22))])
abbrev og:Option (Zi S):=some (.cells 72 [(.stc 21 (T.dflt 21))])
abbrev of:Option (Zi S):=some (.cells 70 [(.stc 18 (T.dflt 18))])
abbrev oe:Option (Zi S):=some (.cells 29 [(.stc 20 (T.dflt 20))])
abbrev od:Option (Zi S):=some (.cells 115 [(.stc 19 (T.dflt 19))])
abbrev oc:Option (Zi S):=some (.cells 196 [(.stc 17 (T.dflt 17))])
abbrev ob:Option (Zi S):=some (.cells 171 [(.stc 15 (T.dflt 15))])
abbrev oa:Option (Zi S):=some (.cells 119 [(.arr (.st 5) 4 (fun _=>tdf T (.st 5)))])
abbrev o9:Option (Zi S):=some (.cells 50 [(.arr (.int .u8) 2 (fun _=>tdf T (.int .u8)))])
abbrev o8:Option (Zi S):=some (.cells 151 [(.arr (.int .i64) 32 (fun _=>tdf T (.int .i64)))])
abbrev o7:Option (Zi S):=some (.cells 90 [(.fn (.func 45) [] [(.ptr 4 0),(.ptr 1 0),(.ptr 0 0)])])
abbrev o6:Option (Zi S):=some (.cells 90 [(.fn (.func 45) [] [(.ptr 10 0),(.ptr 23 0),(.ptr 26 0)])])
abbrev o5:Option (Zi S):=some (.cells 104 [(.stc 20 (T.dflt 20)),(.sl (.st 21) []),(.earr [97,159] 3 4 (fun _=>0)),(.map 2)])
abbrev o4:Option (Zi S):=some (.cells 104 [(.stc 20 (T.dflt 20)),(.sl (.st 21) []),(.earr [97,159] 1 4 (fun _=>0)),(.map 0)])
abbrev o3:Option (Zi S):=some (.cells 104 [(.stc 20 (T.dflt 20)),(.sl (.st 21) []),(.earr [97,159] 14 4 (fun _=>0)),(.map 13)])
abbrev o2:Option (Zi S):=some (.cells 104 [(.stc 20 (T.dflt 20)),(.sl (.st 21) []),(.earr [97,159] 20 4 (fun _=>0)),(.map 18)])
abbrev o1:Option (Zi S):=some (.loop 36 (N (N (N (N L (some (.fn (.func 108) [] [(.ptr 6 0)])) L) none L) (some (.ptr 2 0)) L) (some (.ptr 1 0)) (N L (some (.ptr 3 0)) L)) (8::[]) .skip .skip 0 .normal (0::(36::[])) (0::(1::(0::(1::[])))))
abbrev o0:Option (Zi S):=some (.loop 46 (N (N (N L (some (.ptr 3 0)) (N (N L (some (.fn (.func 108) [] [(.ptr 18 0)])) L) none L)) vT (N L (some (.ptr 14 0)) L)) (some (.ptr 1 0)) (N (N L (some (.ptr 4 0)) L) (some (.ptr 2 0)) L)) (20::[]) .skip .skip 0 .normal (0::(46::[])) (0::(1::(0::(1::(1::[]))))))
abbrev v1F:Tr (TV S):=N (N L none (N L vT L)) none L
abbrev o1E:Tr (Zi S):=N (N (N L oo L) none L) none L
abbrev o1D:Tr (Zi S):=N (N (N L ox L) none L) none L
abbrev o1C:Tr (Zi S):=N (N (N L oz L) none L) none L
abbrev o1B:Tr (Zi S):=N L none (N (N L oM L) none L)
abbrev v1A:Tr (TV S):=N (N (N L vT L) none L) none L
abbrev v1z:Tr (TV S):=N L none (N (N L vT L) none L)
abbrev v1y:Tr (TV S):=N (N L vT L) (some (.ptr 1 0)) L
abbrev v1x:Tr (TV S):=N (N L (some (.ptr 3 0)) L) none L
abbrev o1w:Tr (Zi S):=N (N (N L oa L) o4 L) os (N L oo L)
abbrev o1v:Tr (Zi S):=N (N (N L o5 L) oA L) o7 (N (N L oJ L) os L)
abbrev o1u:Tr (Zi S):=N (N L none (N L oK L)) on (N (N L oB L) none L)
abbrev v1t:Tr (TV S):=N (N (N L vT L) none L) none (N (N L vT L) vT L)
abbrev v1s:Tr (TV S):=N (N L none (N L vT L)) none (N (N L vT L) none L)
abbrev o1r:Tr (Zi S):=N L none (N (N (N (N L of L) none L) none L) none L)
abbrev v1q:Tr (TV S):=N (N (N L vT L) (some (.ptr 6 0)) L) (some (.yld 11)) L
abbrev v1p:Tr (TV S):=N (N (N L vT L) (some (.ptr 18 0)) L) (some (.yld 22)) L
abbrev v1o:Tr (TV S):=N (N L (some (.ptr 1 0)) L) none (N L (some (.rs 5 0)) L)
abbrev o1n:Tr (Zi S):=N (N (N o1B none L) none L) oe L
abbrev v1m:Tr (TV S):=N L (some (.tup [(.agg [(.stc 5 (T.dflt 5))]),(.bool false)])) L
abbrev o1l:Tr (Zi S):=N (N (N L o8 L) o4 L) os (N L none (N (N (N L oa L) oo L) none L))
abbrev o1k:Tr (Zi S):=N (N (N (N L oo L) none L) oh L) oe (N L none (N (N L oG L) none L))
abbrev o1j:Tr (Zi S):=N (N L none (N L oK (N (N L oj L) none L))) on (N (N L oB L) none L)
abbrev v1i:Tr (TV S):=N (N (N L (some (.rs 11 0)) L) (some (.ptr 0 0)) L) vR (N (N L vU L) none L)
abbrev o1h:Tr (Zi S):=N (N L none (N L oK L)) on (N (N L oB L) none (N L none (N L none (N L oi L))))
abbrev v1g:Tr (TV S):=N (N L none (N (N L vU L) none L)) none (N v1x none L)
abbrev o1f:Tr (Zi S):=N L none (N (N (N (N L (some (.cells 37 [(.stc 5 (T.dflt 5))])) L) none L) none L) none L)
abbrev o1e:Tr (Zi S):=N (N L oD L) oe (N (N L none (N (N L o2 L) none L)) none (N (N (N L os L) none L) none L))
abbrev o1d:Tr (Zi S):=N (N (N L (some (.cells 31 [(.rs 19 0)])) (N (N L oH L) o1 L)) o4 L) os (N L oI (N L oI L))
abbrev o1c:Tr (Zi S):=N (N L oD L) none (N (N L none (N (N L o2 L) none L)) none (N (N (N L os L) none L) none L))
abbrev o1b:Tr (Zi S):=N (N (N L none (N L none (N (N L oN L) none L))) none (N L none (N (N L oO L) none L))) on L
abbrev o1a:Tr (Zi S):=N (N (N L oA L) o4 L) os (N (N L oC L) oI (N (N (N L oI L) none L) none (N (N L o0 L) oA L)))
abbrev v19:Tr (TV S):=N (N (N (N L vT L) none L) (some (.fn (.func 97) [] [(.ptr 0 0)])) L) vQ v1A
abbrev o18:Tr (Zi S):=N (N L none (N L oK (N (N L oj L) none L))) on (N (N L oB L) none (N (N (N L none (N L oH L)) none L) none L))
abbrev o17:Tr (Zi S):=N (N (N L ox L) none (N L none (N (N L ox L) none L))) none (N (N (N (N L ox L) none L) none (N L ok L)) none L)
abbrev o16:Tr (Zi S):=N (N (N L (some (.cells 31 [(.rs 34 0)])) (N L o1 L)) o4 L) os (N L oI (N (N (N (N L oH L) none L) none L) oI L))
abbrev o15:Tr (Zi S):=N (N (N (N L none (N L oA L)) none L) none (N L none (N L os L))) oe (N L none (N (N L oE (N L o6 L)) none (N L o3 L)))
abbrev o14:Tr (Zi S):=N (N L oh (N L none (N (N L oG L) none L))) oe (N L (some (.cells 66 [(.arr (.int .u8) 3 (fun _=>tdf T (.int .u8)))])) L)
abbrev o13:Tr (Zi S):=N (N (N (N (N (N L oN L) none L) none L) none L) none (N L none (N (N L oj L) none L))) on (N L none (N (N L oO L) none L))
abbrev v12:Tr (TV S):=N (N (N L none (N L vT L)) (some (.fn (.func 66) [] [])) (N (N L (some (.sl (.st 19) [])) L) none L)) none v1z
abbrev o11:Tr (Zi S):=N (N (N (N L none (N (N L oO L) none L)) none L) none L) oe (N (N L none (N L none (N L none (N L oN L)))) none (N (N (N L none (N L of L)) none L) none L))
abbrev v10:Tr (TV S):=N (N (N L vT L) none (N (N (N L vT L) (some (.ptr 3 0)) L) none L)) (some (.ptr 1 0)) (N (N (N (N L vS L) none L) none L) vT v1A)
abbrev oZ:Tr (Zi S):=N (N (N (N L none (N L oA L)) none L) none (N (N L none (N (N L ox L) none L)) none (N L os L))) oe (N (N (N L none (N (N L ox L) none L)) none L) none (N (N L oE (N L o6 L)) none (N L o3 L)))
abbrev oY:Tr (Zi S):=N (N (N (N L none (N L ob L)) none (N L none (N L (some (.loop 95 (N (N (N (N (N L vU L) none L) vT L) (some (.ptr 0 0)) (N (N L none (N L vU L)) none L)) vr (N (N (N L vU L) none (N L none (N L vl L))) (some (.ptr 1 0)) L)) (29::[]) .skip .skip 1 .normal (1::(95::[])) (0::(1::(0::(1::(1::(1::[])))))))) L))) oy L) ob (N L none (N L ox o1E))
abbrev oX:Tr (Zi S):=N (N (N (N L none (N L ob L)) none (N L none (N L (some (.loop 95 (N (N (N (N (N L vU L) none L) vT L) (some (.ptr 0 0)) (N (N L none (N L vU L)) none L)) vr (N (N (N L vU L) none (N L none (N L vl L))) (some (.ptr 1 0)) L)) (29::[]) .skip .skip 1 .busy (1::(95::[])) (0::(1::(0::(1::(1::(1::[])))))))) L))) oy L) ob (N L none (N (N L none (N L none (N L oc L))) none L))
abbrev oW:Tr (Zi S):=N (N (N L oA L) oA L) on (N (N (N (N L ox L) none (N (N L (some (.loop 109 (N (N (N (N L (some (.ptr 3 0)) L) (some (.ptr 0 0)) (N L none (N (N L vm L) vU L))) vT (N (N (N L vU L) none L) none L)) vv (N (N (N L (some (.ptr 4 0)) L) (some (.ptr 1 0)) L) vT (N L (some (.ptr 2 0)) (N (N L vU L) none L)))) (44::(45::[])) .skip .skip 1 .normal (1::(109::[])) (0::(1::(0::(1::(1::(1::(1::[]))))))))) L) ox L)) oy (N (N (N L oq L) none L) none L)) oj L)
abbrev oV:Tr (Zi S):=N (N (N L oA L) o4 (N (N L none (N L none (N (N L oa L) none L))) none (N o1E none L))) os (N (N L oC L) oI (N (N (N L oI L) none L) none (N (N L (some (.loop 46 (N (N (N L (some (.ptr 3 0)) (N (N L (some (.fn (.func 108) [] [(.ptr 18 0)])) L) none L)) vT (N L (some (.ptr 14 0)) L)) (some (.ptr 1 0)) (N (N L (some (.ptr 4 0)) L) (some (.ptr 2 0)) L)) (20::[]) .skip .skip 0 .ret (0::(46::[])) (0::(1::(0::(1::(1::[]))))))) L) oA L)))
def q0 {R:Type}:Prs S R:=ZhA
theorem q1 {R:Type}:Z82 X (q0 (R:=R)):=ZhB X
def q2:List (Nat×F7 S):=[]
theorem q3:Z9y X (q2):=trivial
abbrev q4 {R:Type}:Z2x S R:=ZgH
theorem q5 {R:Type}:Z3Q X (q4 (R:=R)):=Zhd X
theorem q6 (x0:Int) (x1:Int) (x2:Int):ZhN X q2 [(.int .i64),(.int .i64),(.int .i64)] [.bool] q0 q4 12 106 (x0,x1,x2,())=WJ x0 x1 x2:=by kernel_rfl
def q7:F7 S:=⟨[(.int .i64),(.int .i64),(.int .i64)],[.bool],fun xs=>WJ xs.1 xs.2.1 xs.2.2.1⟩
theorem q8:Z9o X 106 q7:=ZhK (ZhJ xok q3 q1 q5 12 106) fun xs _ h=>(q6 xs.1 xs.2.1 xs.2.2.1).trans h
def q9:List (Nat×F7 S):=[(106,q7)]
theorem qa:Z9y X (q9):=⟨q8,trivial⟩
def qd:Key:=⟨[100],100,none,[0,0,1,0,1,1],0,6⟩
def qe:StT S:=⟨(N (N (N L vT L) none L) vL L),L,6⟩
def qf:Way S:=⟨.ret,⟨(N L none (N L vU L)),L,43⟩,[.bool]⟩
def qg:Way S:=⟨(.exit 0),⟨L,L,10⟩,[]⟩
def qh:LE S:=⟨qd,qe,[.int,.str],[qf,qg]⟩
def qi (x:(Int×ByteArray)):(Bool⊕Unit)→(Bool⊕Unit):=Sum.elim (fun y0=>(.inl y0)) (fun y1=>(.inr ()))
def qj {R:Type} (x:(Int×ByteArray)) (k:(Bool⊕Unit)→Option R):Option R:=(X4U x.2 x.1).bind (Sum.elim (fun y0=>k (.inl y0)) (fun y1=>k (.inr ())))
def qk (x:(Int×ByteArray)) (v:Int):(Int×ByteArray):=(v,x.2)
theorem ql (x:(Int×ByteArray)):LE.step X qh q9 q0 q4 12 x=X1e x.2 x.1 (fun w0=>(Sum.inl (w0,x.2))) (fun p0=>(Sum.inr (.inl p0))) (Sum.inr (.inr ())):=by kernel_rfl
theorem qn {R:Type} (x:(Int×ByteArray)) (k:(Bool⊕Unit)→Option R) (r:R) (h:qj x k=some r):∃ o,Z5z (LE.step X qh q9 q0 q4 12) x o∧k o=some r:=by
 obtain ⟨o,h1,h2⟩:=Z0 h
 exact ⟨qi x o,ZhG (st:=fun (x:(Int×ByteArray))=>X11 x.2) (prj:=fun x=>x.1) (emb:=qk) (embO:=qi) (fun x=>(ql x).trans (by unfold X11 X1e;simp only [Zhy,Zht,Zhz,Option.map_some,Option.map_none];rfl)) (fun _ _=>rfl) (fun _ _=>rfl) (fun _ _ _=>rfl) (fun _ _ _=>rfl) (fun _=>rfl) (Z1W.1 h1),by first|exact h2|(rcases o with o|o<;>exact h2)⟩
def qo {R:Type}:Z2x S R:=LE.ls X qh qj q4
theorem qp {R:Type}:Z3Q X (qo (R:=R)):=ZhL xok qa (e:=qh) q1 q5 qn q5
theorem qq (x0:ByteArray):ZhN X q9 [.str] [.bool] q0 qo 12 100 (x0,())=X4C x0:=by kernel_rfl
def qr:F7 S:=⟨[.str],[.bool],fun xs=>X4C xs.1⟩
theorem qs:Z9o X 100 qr:=ZhK (ZhJ xok qa q1 qp 12 100) fun xs _ h=>(qq xs.1).trans h
def qx:Key:=⟨[101],101,none,[0,0,1,0,1],0,2⟩
def qy:StT S:=⟨(N (N L vL (N L vT L)) (some (.sl .str [])) L),L,2⟩
def qz:Way S:=⟨.ret,⟨v1z,L,14⟩,[.int]⟩
def qA:Way S:=⟨(.exit 0),⟨L,L,6⟩,[]⟩
def qB:LE S:=⟨qx,qy,[.str,.int,(.lst .str)],[qz,qA]⟩
def qC (x:t12):(Int⊕Unit)→(Int⊕Unit):=Sum.elim (fun y0=>(.inl y0)) (fun y1=>(.inr ()))
def qD {R:Type} (x:t12) (k:(Int⊕Unit)→Option R):Option R:=(X30 x.1 x.2.2 x.2.1).bind (Sum.elim (fun y0=>k (.inl y0)) (fun y1=>k (.inr ())))
def qE (x:t12) (v:Int):t12:=(x.1,v,x.2.2)
theorem qF (x:t12):LE.step X qB q2 q0 q4 12 x=WI x.1 x.2.2 x.2.1 (fun w0=>(Sum.inl (x.1,w0,x.2.2))) (fun p0=>(Sum.inr (.inl p0))) (Sum.inr (.inr ())):=by kernel_rfl
theorem qH {R:Type} (x:t12) (k:(Int⊕Unit)→Option R) (r:R) (h:qD x k=some r):∃ o,Z5z (LE.step X qB q2 q0 q4 12) x o∧k o=some r:=by
 obtain ⟨o,h1,h2⟩:=Z0 h
 exact ⟨qC x o,ZhG (st:=fun (x:t12)=>XP x.1 x.2.2) (prj:=fun x=>x.2.1) (emb:=qE) (embO:=qC) (fun x=>(qF x).trans (by unfold XP WI;simp only [Zhy,Zht,Zhz,Option.map_some,Option.map_none];rfl)) (fun _ _=>rfl) (fun _ _=>rfl) (fun _ _ _=>rfl) (fun _ _ _=>rfl) (fun _=>rfl) (Z1W.1 h1),by first|exact h2|(rcases o with o|o<;>exact h2)⟩
def qI {R:Type}:Z2x S R:=LE.ls X qB qD q4
theorem qJ {R:Type}:Z3Q X (qI (R:=R)):=ZhL xok q3 (e:=qB) q1 q5 qH q5
theorem qK (x0:List ByteArray) (x1:ByteArray):ZhN X q2 [(.sl .str),.str] [(.int .i64)] q0 qI 12 101 (x0,x1,())=X4W x0 x1:=by kernel_rfl
def qL:F7 S:=⟨[(.sl .str),.str],[(.int .i64)],fun xs=>X4W xs.1 xs.2.1⟩
theorem qM:Z9o X 101 qL:=ZhK (ZhJ xok q3 q1 qJ 12 101) fun xs _ h=>(qK xs.1 xs.2.1).trans h
def qN:List (Nat×F7 S):=[(100,qr),(101,qL)]
theorem qO:Z9y X (qN):=⟨qs,qM,trivial⟩
theorem qR (x0:ByteArray) (x1:List ByteArray):ZhN X qN [.str,(.sl .str)] [(.int .i64)] q0 q4 12 70 (x0,x1,())=X2v x0 x1:=by kernel_rfl
def qS:F7 S:=⟨[.str,(.sl .str)],[(.int .i64)],fun xs=>X2v xs.1 xs.2.1⟩
theorem qT:Z9o X 70 qS:=ZhK (ZhJ xok qO q1 q5 12 70) fun xs _ h=>(qR xs.1 xs.2.1).trans h
theorem qY (x0:Zu) (x1:Int):ZhN X q9 [(.st 2),(.int .i64)] [.bool] q0 q4 12 76 (x0,x1,())=X22 x0 x1:=by kernel_rfl
def qZ:F7 S:=⟨[(.st 2),(.int .i64)],[.bool],fun xs=>X22 xs.1 xs.2.1⟩
theorem q10:Z9o X 76 qZ:=ZhK (ZhJ xok qa q1 q5 12 76) fun xs _ h=>(qY xs.1 xs.2.1).trans h
def q15:Key:=⟨[98],98,none,[0,0,1,0,1,1],0,6⟩
def q16:StT S:=⟨(N (N (N L vT L) none L) (some (.sl (.st 3) [])) L),L,6⟩
def q17:Way S:=⟨.ret,⟨(N L none (N L vT L)),L,27⟩,[.int]⟩
def q18:Way S:=⟨.ret,⟨(N L none (N L vT L)),L,43⟩,[.int]⟩
def q1a:LE S:=⟨q15,q16,[.int,(.lst (.st 3))],[q17,q18,qg]⟩
def q1b (x:(Int×(List Zj))):(Int⊕Int⊕Unit)→(Int⊕Int⊕Unit):=Sum.elim (fun y0=>(.inl y0)) (Sum.elim (fun y1=>(.inr (.inl y1))) (fun y2=>(.inr (.inr ()))))
def q1c {R:Type} (x:(Int×(List Zj))) (k:(Int⊕Int⊕Unit)→Option R):Option R:=(X4g x.2 x.1).bind (Sum.elim (fun y0=>k (.inl y0)) (Sum.elim (fun y1=>k (.inr (.inl y1))) (fun y2=>k (.inr (.inr ())))))
def q1d (x:(Int×(List Zj))) (v:Int):(Int×(List Zj)):=(v,x.2)
theorem q1e (x:(Int×(List Zj))):LE.step X q1a q9 q0 q4 12 x=Wf x.2 x.1 (fun w0=>(Sum.inl (w0,x.2))) (fun p0=>(Sum.inr (.inl p0))) (fun p0=>(Sum.inr (.inr (.inl p0)))) (Sum.inr (.inr (.inr ()))):=by kernel_rfl
theorem q1g {R:Type} (x:(Int×(List Zj))) (k:(Int⊕Int⊕Unit)→Option R) (r:R) (h:q1c x k=some r):∃ o,Z5z (LE.step X q1a q9 q0 q4 12) x o∧k o=some r:=by
 obtain ⟨o,h1,h2⟩:=Z0 h
 exact ⟨q1b x o,ZhG (st:=fun (x:(Int×(List Zj)))=>W3 x.2) (prj:=fun x=>x.1) (emb:=q1d) (embO:=q1b) (fun x=>(q1e x).trans (by unfold W3 Wf;simp only [Zhy,Zht,Zhz,Option.map_some,Option.map_none];rfl)) (fun _ _=>rfl) (fun _ _=>rfl) (fun _ _ _=>rfl) (fun _ _ _=>rfl) (fun _=>rfl) (Z1W.1 h1),by first|exact h2|(rcases o with o|o|o<;>exact h2)⟩
def q1h {R:Type}:Z2x S R:=LE.ls X q1a q1c q4
theorem q1i {R:Type}:Z3Q X (q1h (R:=R)):=ZhL xok qa (e:=q1a) q1 q5 q1g q5
theorem q1j (x0:List Zj):ZhN X q9 [(.sl (.st 3))] [(.int .i64)] q0 q1h 12 98 (x0,())=X2C x0:=by kernel_rfl
def q1k:F7 S:=⟨[(.sl (.st 3))],[(.int .i64)],fun xs=>X2C xs.1⟩
theorem q1l:Z9o X 98 q1k:=ZhK (ZhJ xok qa q1 q1i 12 98) fun xs _ h=>(q1j xs.1).trans h
def q1q:Key:=⟨[102],102,none,[0,0,1,0,1,1],0,3⟩
def q1r:StT S:=⟨(N (N (N (N L vT L) none L) vT L) (some (.sl (.st 5) [])) (N (N (N L vT L) none L) vT L)),L,3⟩
def q1s:Way S:=⟨.ret,⟨(N L none (N L none (N L vT L))),L,28⟩,[.int]⟩
def q1t:Way S:=⟨(.exit 0),⟨(N v1A none L),L,7⟩,[.int]⟩
def q1u:LE S:=⟨q1q,q1r,[.int,.int,(.lst (.st 5)),.int,.int],[q1s,q1t]⟩
def q1v (x:t11):(Int⊕Int)→(Int⊕Int):=Sum.elim (fun y0=>(.inl y0)) (fun y1=>(.inr y1))
def q1w {R:Type} (x:t11) (k:(Int⊕Int)→Option R):Option R:=(X4e x.2.1 x.2.2.1 x.2.2.2.2 (x.1,x.2.2.2.1)).bind (Sum.elim (fun y0=>k (.inl y0)) (fun y1=>k (.inr y1)))
def q1x (x:t11) (v:(Int×Int)):t11:=(v.1,x.2.1,x.2.2.1,v.2,x.2.2.2.2)
theorem q1y (x:t11):LE.step X q1u q9 q0 q4 12 x=Wc x.2.1 x.2.2.1 x.2.2.2.2 x.1 x.2.2.2.1 (fun w0 w1=>(Sum.inl (w0,x.2.1,x.2.2.1,w1,x.2.2.2.2))) (fun p0=>(Sum.inr (.inl p0))) (fun p0=>(Sum.inr (.inr p0))):=by kernel_rfl
theorem q1A {R:Type} (x:t11) (k:(Int⊕Int)→Option R) (r:R) (h:q1w x k=some r):∃ o,Z5z (LE.step X q1u q9 q0 q4 12) x o∧k o=some r:=by
 obtain ⟨o,h1,h2⟩:=Z0 h
 exact ⟨q1v x o,ZhG (st:=fun (x:t11)=>W1 x.2.1 x.2.2.1 x.2.2.2.2) (prj:=fun x=>(x.1,x.2.2.2.1)) (emb:=q1x) (embO:=q1v) (fun x=>(q1y x).trans (by unfold W1 Wc;simp only [Zhy,Zht,Zhz,Option.map_some,Option.map_none];rfl)) (fun _ _=>rfl) (fun _ _=>rfl) (fun _ _ _=>rfl) (fun _ _ _=>rfl) (fun _=>rfl) (Z1W.1 h1),by first|exact h2|(rcases o with o|o<;>exact h2)⟩
def q1B {R:Type}:Z2x S R:=LE.ls X q1u q1w q4
theorem q1C {R:Type}:Z3Q X (q1B (R:=R)):=ZhL xok qa (e:=q1u) q1 q5 q1A q5
theorem q1D (x0:List ZE) (x1:Int) (x2:Int):ZhN X q9 [(.sl (.st 5)),(.int .i64),(.int .i64)] [(.int .i64)] q0 q1B 12 102 (x0,x1,x2,())=X21 x0 x1 x2:=by kernel_rfl
def q1E:F7 S:=⟨[(.sl (.st 5)),(.int .i64),(.int .i64)],[(.int .i64)],fun xs=>X21 xs.1 xs.2.1 xs.2.2.1⟩
theorem q1F:Z9o X 102 q1E:=ZhK (ZhJ xok qa q1 q1C 12 102) fun xs _ h=>(q1D xs.1 xs.2.1 xs.2.2.1).trans h
def q1G:List (Nat×F7 S):=[(102,q1E)]
theorem q1H:Z9y X (q1G):=⟨q1F,trivial⟩
theorem q1K (x0:ZC) (x1:Int) (x2:Int):ZhN X q1G [(.st 6),(.int .i64),(.int .i64)] [(.int .i64)] q0 q4 12 123 (x0,x1,x2,())=X5d x0 x1 x2:=by kernel_rfl
def q1L:F7 S:=⟨[(.st 6),(.int .i64),(.int .i64)],[(.int .i64)],fun xs=>X5d xs.1 xs.2.1 xs.2.2.1⟩
theorem q1M:Z9o X 123 q1L:=ZhK (ZhJ xok q1H q1 q5 12 123) fun xs _ h=>(q1K xs.1 xs.2.1 xs.2.2.1).trans h
theorem q1R (x0:Zu) (x1:Zu):ZhN X q2 [(.st 2),(.st 2)] [(.st 2)] q0 q4 12 88 (x0,x1,())=X7J x0 x1:=by kernel_rfl
def q1S:F7 S:=⟨[(.st 2),(.st 2)],[(.st 2)],fun xs=>X7J xs.1 xs.2.1⟩
theorem q1T:Z9o X 88 q1S:=ZhK (ZhJ xok q3 q1 q5 12 88) fun xs _ h=>(q1R xs.1 xs.2.1).trans h
theorem q1Y (x0:Zu) (x1:Zu):ZhN X q2 [(.st 2),(.st 2)] [(.int .i64)] q0 q4 12 112 (x0,x1,())=X7I x0 x1:=by kernel_rfl
def q1Z:F7 S:=⟨[(.st 2),(.st 2)],[(.int .i64)],fun xs=>X7I xs.1 xs.2.1⟩
theorem q20:Z9o X 112 q1Z:=ZhK (ZhJ xok q3 q1 q5 12 112) fun xs _ h=>(q1Y xs.1 xs.2.1).trans h
def q21:List (Nat×F7 S):=[(88,q1S),(112,q1Z)]
theorem q22:Z9y X (q21):=⟨q1T,q20,trivial⟩
def q25:Key:=⟨[124],124,none,[0,0,1,1,0,0,1,0,0,1,0,1],2,13⟩
def q26:StT S:=⟨(N (N (N L vT L) none (N L vT L)) vS (N (N L vT L) none L)),L,13⟩
def q27:Way S:=⟨.ret,⟨(N L none (N L vU L)),L,48⟩,[.bool]⟩
def q28:Way S:=⟨(.exit 2),⟨(N (N (N L vT L) none L) vS L),L,17⟩,[.int,(.lst (.st 2))]⟩
def q29:LE S:=⟨q25,q26,[.int,.int,(.lst (.st 2)),.int],[q27,q28]⟩
def q2a (x:t1b):(Bool⊕Unit)→(Bool⊕(Int×(List Zu))):=Sum.elim (fun y0=>(.inl y0)) (fun y1=>(.inr (x.1,x.2.2.1)))
def q2b {R:Type} (x:t1b) (k:(Bool⊕(Int×(List Zu)))→Option R):Option R:=(X23 x.1 x.2.2.1 x.2.2.2 x.2.1).bind (Sum.elim (fun y0=>k (.inl y0)) (fun y1=>k (.inr (x.1,x.2.2.1))))
def q2c (x:t1b) (v:Int):t1b:=(x.1,v,x.2.2.1,x.2.2.2)
theorem q2d (x:t1b):LE.step X q29 q21 q0 q4 12 x=WL x.1 x.2.2.1 x.2.2.2 x.2.1 (fun w0=>(Sum.inl (x.1,w0,x.2.2.1,x.2.2.2))) (fun p0=>(Sum.inr (.inl p0))) (Sum.inr (.inr (x.1,x.2.2.1))):=by kernel_rfl
theorem q2f {R:Type} (x:t1b) (k:(Bool⊕(Int×(List Zu)))→Option R) (r:R) (h:q2b x k=some r):∃ o,Z5z (LE.step X q29 q21 q0 q4 12) x o∧k o=some r:=by
 obtain ⟨o,h1,h2⟩:=Z0 h
 exact ⟨q2a x o,ZhG (st:=fun (x:t1b)=>Wu x.1 x.2.2.1 x.2.2.2) (prj:=fun x=>x.2.1) (emb:=q2c) (embO:=q2a) (fun x=>(q2d x).trans (by unfold Wu WL;simp only [Zhy,Zht,Zhz,Option.map_some,Option.map_none];rfl)) (fun _ _=>rfl) (fun _ _=>rfl) (fun _ _ _=>rfl) (fun _ _ _=>rfl) (fun _=>rfl) (Z1W.1 h1),by first|exact h2|(rcases o with o|o<;>exact h2)⟩
def q2g {R:Type}:Z2x S R:=LE.ls X q29 q2b q4
theorem q2h {R:Type}:Z3Q X (q2g (R:=R)):=ZhL xok q22 (e:=q29) q1 q5 q2f q5
def q2i:Key:=⟨[124],124,none,[0,0,1,0,1],0,2⟩
def q2j:StT S:=⟨(N (N (N L vT L) none L) vS L),L,2⟩
def q2m:LE S:=⟨q2i,q2j,[.int,(.lst (.st 2))],[q27,qA]⟩
def q2n (x:(Int×(List Zu))):(Bool⊕Unit)→(Bool⊕Unit):=Sum.elim (fun y0=>(.inl y0)) (fun y1=>(.inr ()))
def q2o {R:Type} (x:(Int×(List Zu))) (k:(Bool⊕Unit)→Option R):Option R:=(X4D x.2 x.1).bind (Sum.elim (fun y0=>k (.inl y0)) (fun y1=>k (.inr ())))
def q2p (x:(Int×(List Zu))) (v:Int):(Int×(List Zu)):=(v,x.2)
theorem q2q (x:(Int×(List Zu))):LE.step X q2m q21 q0 q2g 12 x=WK x.2 x.1 (fun w0=>(Sum.inl (w0,x.2))) (fun p0=>(Sum.inr (.inl p0))) (Sum.inr (.inr ())):=by kernel_rfl
theorem q2s {R:Type} (x:(Int×(List Zu))) (k:(Bool⊕Unit)→Option R) (r:R) (h:q2o x k=some r):∃ o,Z5z (LE.step X q2m q21 q0 q2g 12) x o∧k o=some r:=by
 obtain ⟨o,h1,h2⟩:=Z0 h
 exact ⟨q2n x o,ZhG (st:=fun (x:(Int×(List Zu)))=>Wt x.2) (prj:=fun x=>x.1) (emb:=q2p) (embO:=q2n) (fun x=>(q2q x).trans (by unfold Wt WK;simp only [Zhy,Zht,Zhz,Option.map_some,Option.map_none];rfl)) (fun _ _=>rfl) (fun _ _=>rfl) (fun _ _ _=>rfl) (fun _ _ _=>rfl) (fun _=>rfl) (Z1W.1 h1),by first|exact h2|(rcases o with o|o<;>exact h2)⟩
def q2t {R:Type}:Z2x S R:=LE.ls X q2m q2o q2g
theorem q2u {R:Type}:Z3Q X (q2t (R:=R)):=ZhL xok q22 (e:=q2m) q1 q2h q2s q2h
theorem q2v (x0:List Zu):ZhN X q21 [(.sl (.st 2))] [.bool] q0 q2t 12 124 (x0,())=X3Z x0:=by kernel_rfl
def q2w:F7 S:=⟨[(.sl (.st 2))],[.bool],fun xs=>X3Z xs.1⟩
theorem q2x:Z9o X 124 q2w:=ZhK (ZhJ xok q22 q1 q2u 12 124) fun xs _ h=>(q2v xs.1).trans h
def q2y:List (Nat×F7 S):=[(106,q7),(76,qZ),(123,q1L),(124,q2w)]
theorem q2z:Z9y X (q2y):=⟨q8,q10,q1M,q2x,trivial⟩
def q2C:Key:=⟨[99],99,none,[0,0,1,0,1,1],0,8⟩
def q2D:StT S:=⟨(N (N (N L vT L) (some (.ptr 0 0)) L) none L),(N L oi L),8⟩
def q2E:Way S:=⟨.ret,⟨(N L none (N L vT L)),(N L oi L),21⟩,[.int,(.st 7)]⟩
def q2F:Way S:=⟨(.exit 0),⟨(N (N L (some (.ptr 0 0)) L) none L),(N L oi L),13⟩,[(.st 7)]⟩
def q2G:LE S:=⟨q2C,q2D,[.int,(.st 7)],[q2E,q2F]⟩
def q2H (x:(Int×CtSand)):(Int⊕Unit)→((Int×CtSand)⊕CtSand):=Sum.elim (fun y0=>(.inl (y0,x.2))) (fun y1=>(.inr x.2))
def q2I {R:Type} (x:(Int×CtSand)) (k:((Int×CtSand)⊕CtSand)→Option R):Option R:=(X3C x.2 x.1).bind (Sum.elim (fun y0=>k (.inl (y0,x.2))) (fun y1=>k (.inr x.2)))
def q2J (x:(Int×CtSand)) (v:Int):(Int×CtSand):=(v,x.2)
theorem q2K (x:(Int×CtSand)):LE.step X q2G q2y q0 q4 12 x=X1f x.2 x.1 (fun w0=>(Sum.inl (w0,x.2))) (fun p0=>(Sum.inr (.inl (p0,x.2)))) (Sum.inr (.inr x.2)):=by kernel_rfl
theorem q2M {R:Type} (x:(Int×CtSand)) (k:((Int×CtSand)⊕CtSand)→Option R) (r:R) (h:q2I x k=some r):∃ o,Z5z (LE.step X q2G q2y q0 q4 12) x o∧k o=some r:=by
 obtain ⟨o,h1,h2⟩:=Z0 h
 exact ⟨q2H x o,ZhG (st:=fun (x:(Int×CtSand))=>W4 x.2) (prj:=fun x=>x.1) (emb:=q2J) (embO:=q2H) (fun x=>(q2K x).trans (by unfold W4 X1f;simp only [Zhy,Zht,Zhz,Option.map_some,Option.map_none];rfl)) (fun _ _=>rfl) (fun _ _=>rfl) (fun _ _ _=>rfl) (fun _ _ _=>rfl) (fun _=>rfl) (Z1W.1 h1),by first|exact h2|(rcases o with o|o<;>exact h2)⟩
def q2N {R:Type}:Z2x S R:=LE.ls X q2G q2I q4
theorem q2O {R:Type}:Z3Q X (q2N (R:=R)):=ZhL xok q2z (e:=q2G) q1 q5 q2M q5
theorem q2P (x0:CtSand):ZhN X q2y [(.st 7)] [(.int .i64)] q0 q2N 12 99 (x0,())=X4E x0:=by kernel_rfl
def q2Q:F7 S:=⟨[(.st 7)],[(.int .i64)],fun xs=>X4E xs.1⟩
theorem q2R:Z9o X 99 q2Q:=ZhK (ZhJ xok q2z q1 q2O 12 99) fun xs _ h=>(q2P xs.1).trans h
def q2S:List (Nat×F7 S):=[(70,qS),(76,qZ),(98,q1k),(99,q2Q)]
theorem q2T:Z9y X (q2S):=⟨qT,q10,q1l,q2R,trivial⟩
def q2W:Key:=⟨[68],68,none,[0,0,1,0,1,1,1],0,10⟩
def q2X:StT S:=⟨(N (N L (some (.ptr 0 0)) (N L (some (.rs 10 0)) L)) none (N L none (N L vT L))),(N L on o1B),11⟩
def q2Y:Way S:=⟨.ret,⟨v1t,o13,52⟩,[.int,.int,.int,(.lst .str),(.st 4),(.st 8),(.lst .str)]⟩
def q2Z:Way S:=⟨.ret,⟨v1t,o13,55⟩,[.int,.int,.int,(.lst .str),(.st 4),(.st 8),(.lst .str)]⟩
def q30:Way S:=⟨.ret,⟨v1t,o13,51⟩,[.int,.int,.int,(.lst .str),(.st 4),(.st 8),(.lst .str)]⟩
def q31:Way S:=⟨(.exit 0),⟨(N (N L (some (.ptr 0 0)) (N L (some (.rs 10 0)) L)) none L),(N L on o1B),16⟩,[(.st 8),(.lst .str)]⟩
def q32:LE S:=⟨q2W,q2X,[.int,(.st 8),(.lst .str)],[q2Y,q2Z,q30,q31]⟩
def q33 (x:t17):(tL⊕tL⊕tL⊕(List ByteArray))→t2:=Sum.elim (fun y0=>(.inl (y0.1,y0.2.1,y0.2.2.1,y0.2.2.2.1,y0.2.2.2.2.1,x.2.1,y0.2.2.2.2.2))) (Sum.elim (fun y1=>(.inr (.inl (y1.1,y1.2.1,y1.2.2.1,y1.2.2.2.1,y1.2.2.2.2.1,x.2.1,y1.2.2.2.2.2)))) (Sum.elim (fun y2=>(.inr (.inr (.inl (y2.1,y2.2.1,y2.2.2.1,y2.2.2.2.1,y2.2.2.2.2.1,x.2.1,y2.2.2.2.2.2))))) (fun y3=>(.inr (.inr (.inr (x.2.1,y3)))))))
def q34 {R:Type} (x:t17) (k:t2→Option R):Option R:=(X4A x.2.1 (x.1,x.2.2)).bind (Sum.elim (fun y0=>k (.inl (y0.1,y0.2.1,y0.2.2.1,y0.2.2.2.1,y0.2.2.2.2.1,x.2.1,y0.2.2.2.2.2))) (Sum.elim (fun y1=>k (.inr (.inl (y1.1,y1.2.1,y1.2.2.1,y1.2.2.2.1,y1.2.2.2.2.1,x.2.1,y1.2.2.2.2.2)))) (Sum.elim (fun y2=>k (.inr (.inr (.inl (y2.1,y2.2.1,y2.2.2.1,y2.2.2.2.1,y2.2.2.2.2.1,x.2.1,y2.2.2.2.2.2))))) (fun y3=>k (.inr (.inr (.inr (x.2.1,y3))))))))
def q35 (x:t17) (v:(Int×(List ByteArray))):t17:=(v.1,x.2.1,v.2)
theorem q36 (x:t17):LE.step X q32 q2S q0 q4 12 x=WG x.2.1 x.1 x.2.2 (fun w0 w1=>(Sum.inl (w0,x.2.1,w1))) (fun p0 p1 p2 p3 p4 p5=>(Sum.inr (.inl (p0,p1,p2,p3,p4,x.2.1,p5)))) (fun p0 p1 p2 p3 p4 p5=>(Sum.inr (.inr (.inl (p0,p1,p2,p3,p4,x.2.1,p5))))) (fun p0 p1 p2 p3 p4 p5=>(Sum.inr (.inr (.inr (.inl (p0,p1,p2,p3,p4,x.2.1,p5)))))) (fun p0=>(Sum.inr (.inr (.inr (.inr (x.2.1,p0)))))):=by kernel_rfl
theorem q38 {R:Type} (x:t17) (k:t2→Option R) (r:R) (h:q34 x k=some r):∃ o,Z5z (LE.step X q32 q2S q0 q4 12) x o∧k o=some r:=by
 obtain ⟨o,h1,h2⟩:=Z0 h
 exact ⟨q33 x o,ZhG (st:=fun (x:t17)=>Wr x.2.1) (prj:=fun x=>(x.1,x.2.2)) (emb:=q35) (embO:=q33) (fun x=>(q36 x).trans (by unfold Wr WG;simp only [Zhy,Zht,Zhz,Option.map_some,Option.map_none];rfl)) (fun _ _=>rfl) (fun _ _=>rfl) (fun _ _ _=>rfl) (fun _ _ _=>rfl) (fun _=>rfl) (Z1W.1 h1),by first|exact h2|(rcases o with o|o|o|o<;>exact h2)⟩
def q39 {R:Type}:Z2x S R:=LE.ls X q32 q34 q4
theorem q3a {R:Type}:Z3Q X (q39 (R:=R)):=ZhL xok q2T (e:=q32) q1 q5 q38 q5
def q3b:Key:=⟨[68],68,none,[0,0,1,0,1,1,1,1,1],2,21⟩
def q3c:StT S:=⟨(N (N L (some (.ptr 0 0)) (N (N L vT L) (some (.rs 21 0)) L)) none L),(N (N L none o1B) on L),22⟩
def q3d:Way S:=⟨.ret,⟨v1t,o1b,62⟩,[.int,.int,.int,(.lst .str),(.lst .str),(.st 8)]⟩
def q3e:Way S:=⟨.ret,⟨v1t,o1b,55⟩,[.int,.int,.int,(.lst .str),(.lst .str),(.st 8)]⟩
def q3f:Way S:=⟨(.exit 2),⟨L,(N (N L none o1B) on L),27⟩,[(.lst .str),(.st 8)]⟩
def q3g:LE S:=⟨q3b,q3c,[.int,(.lst .str),(.st 8)],[q3d,q3e,q3f]⟩
def q3h (x:t18):((Int×Int×Int×(List ByteArray)×(List ByteArray))⊕(Int×Int×Int×(List ByteArray)×(List ByteArray))⊕(List ByteArray))→ta:=Sum.elim (fun y0=>(.inl (y0.1,y0.2.1,y0.2.2.1,y0.2.2.2.1,y0.2.2.2.2,x.2.2))) (Sum.elim (fun y1=>(.inr (.inl (y1.1,y1.2.1,y1.2.2.1,y1.2.2.2.1,y1.2.2.2.2,x.2.2)))) (fun y2=>(.inr (.inr (y2,x.2.2)))))
def q3i {R:Type} (x:t18) (k:ta→Option R):Option R:=(X20 x.2.2 (x.1,x.2.1)).bind (Sum.elim (fun y0=>k (.inl (y0.1,y0.2.1,y0.2.2.1,y0.2.2.2.1,y0.2.2.2.2,x.2.2))) (Sum.elim (fun y1=>k (.inr (.inl (y1.1,y1.2.1,y1.2.2.1,y1.2.2.2.1,y1.2.2.2.2,x.2.2)))) (fun y2=>k (.inr (.inr (y2,x.2.2))))))
def q3j (x:t18) (v:(Int×(List ByteArray))):t18:=(v.1,v.2,x.2.2)
theorem q3k (x:t18):LE.step X q3g q2S q0 q39 12 x=WH x.2.2 x.1 x.2.1 (fun w0 w1=>(Sum.inl (w0,w1,x.2.2))) (fun p0 p1 p2 p3 p4=>(Sum.inr (.inl (p0,p1,p2,p3,p4,x.2.2)))) (fun p0 p1 p2 p3 p4=>(Sum.inr (.inr (.inl (p0,p1,p2,p3,p4,x.2.2))))) (fun p0=>(Sum.inr (.inr (.inr (p0,x.2.2))))):=by kernel_rfl
theorem q3m {R:Type} (x:t18) (k:ta→Option R) (r:R) (h:q3i x k=some r):∃ o,Z5z (LE.step X q3g q2S q0 q39 12) x o∧k o=some r:=by
 obtain ⟨o,h1,h2⟩:=Z0 h
 exact ⟨q3h x o,ZhG (st:=fun (x:t18)=>Ws x.2.2) (prj:=fun x=>(x.1,x.2.1)) (emb:=q3j) (embO:=q3h) (fun x=>(q3k x).trans (by unfold Ws WH;simp only [Zhy,Zht,Zhz,Option.map_some,Option.map_none];rfl)) (fun _ _=>rfl) (fun _ _=>rfl) (fun _ _ _=>rfl) (fun _ _ _=>rfl) (fun _=>rfl) (Z1W.1 h1),by first|exact h2|(rcases o with o|o|o<;>exact h2)⟩
def q3n {R:Type}:Z2x S R:=LE.ls X q3g q3i q39
theorem q3o {R:Type}:Z3Q X (q3n (R:=R)):=ZhL xok q2T (e:=q3g) q1 q3a q3m q3a
theorem q3p (x0:Zk):ZhN X q2S [(.st 8)] [(.int .i64),(.int .i64),(.int .i64)] q0 q3n 12 68 (x0,())=X39 x0:=by kernel_rfl
def q3q:F7 S:=⟨[(.st 8)],[(.int .i64),(.int .i64),(.int .i64)],fun xs=>X39 xs.1⟩
theorem q3r:Z9o X 68 q3q:=ZhK (ZhJ xok q2T q1 q3o 12 68) fun xs _ h=>(q3p xs.1).trans h
theorem q3w (x0:Int) (x1:Int) (x2:Int):ZhN X q2 [(.int .i64),(.int .i64),(.int .i64)] [.bool] q0 q4 12 69 (x0,x1,x2,())=X3D x0 x1 x2:=by kernel_rfl
def q3x:F7 S:=⟨[(.int .i64),(.int .i64),(.int .i64)],[.bool],fun xs=>X1h xs.1 xs.2.1 xs.2.2.1⟩
theorem q3y:Z9o X 69 q3x:=ZhK (ZhJ xok q3 q1 q5 12 69) fun xs _ h=>((q3w xs.1 xs.2.1 xs.2.2.1).trans (X7k xs.1 xs.2.1 xs.2.2.1).symm).trans h
theorem q3D (x0:Z5):ZhN X q2 [(.st 18)] [(.int .i64)] q0 q4 12 72 (x0,())=X2U x0:=by kernel_rfl
def q3E:F7 S:=⟨[(.st 18)],[(.int .i64)],fun xs=>X5g xs.1⟩
theorem q3F:Z9o X 72 q3E:=ZhK (ZhJ xok q3 q1 q5 12 72) fun xs _ h=>((q3D xs.1).trans (X6Y xs.1).symm).trans h
theorem q3K (x0:ZE) (x1:Int) (x2:Int):ZhN X q1G [(.st 5),(.int .i64),(.int .i64)] [(.int .i64)] q0 q4 12 71 (x0,x1,x2,())=X3a x0 x1 x2:=by kernel_rfl
def q3L:F7 S:=⟨[(.st 5),(.int .i64),(.int .i64)],[(.int .i64)],fun xs=>X3a xs.1 xs.2.1 xs.2.2.1⟩
theorem q3M:Z9o X 71 q3L:=ZhK (ZhJ xok q1H q1 q5 12 71) fun xs _ h=>(q3K xs.1 xs.2.1 xs.2.2.1).trans h
def q3N:List (Nat×F7 S):=[(102,q1E),(71,q3L),(69,q3x)]
theorem q3O:Z9y X (q3N):=⟨q1F,q3M,q3y,trivial⟩
theorem q3R (x0:Zt):ZhN X q3N [(.st 19)] [(.int .i64)] q0 q4 12 73 (x0,())=X2x x0:=by kernel_rfl
def q3S:F7 S:=⟨[(.st 19)],[(.int .i64)],fun xs=>X5v xs.1⟩
theorem q3T:Z9o X 73 q3S:=ZhK (ZhJ xok q3O q1 q5 12 73) fun xs _ h=>((q3R xs.1).trans (X6y xs.1).symm).trans h
def q3U:List (Nat×F7 S):=[(68,q3q),(69,q3x),(70,qS),(72,q3E),(71,q3L),(73,q3S)]
theorem q3V:Z9y X (q3U):=⟨q3r,q3y,qT,q3F,q3M,q3T,trivial⟩
def q3Y:Key:=⟨[30],30,none,[0,0,1,0,1,1,1,1,1,1],0,39⟩
def q3Z:StT S:=⟨(N (N L (some (.ptr 0 0)) (N (N L vT L) none L)) none (N (N (N L (some (.rs 39 0)) L) none L) none L)),o1n,40⟩
def q40:Way S:=⟨.ret,⟨v1t,o11,81⟩,[.int,.int,.int,(.lst .str),(.st 20),(.lst .str),(.st 18)]⟩
def q41:Way S:=⟨.ret,⟨v1t,o11,72⟩,[.int,.int,.int,(.lst .str),(.st 20),(.lst .str),(.st 18)]⟩
def q42:Way S:=⟨(.exit 0),⟨(N (N L (some (.ptr 0 0)) L) none L),o1n,45⟩,[(.lst .str),(.st 20)]⟩
def q43:LE S:=⟨q3Y,q3Z,[.int,(.lst .str),(.st 20)],[q40,q41,q42]⟩
def q44 (x:t1c):((Int×Int×Int×(List ByteArray)×(List ByteArray)×Z5)⊕(Int×Int×Int×(List ByteArray)×(List ByteArray)×Z5)⊕(List ByteArray))→t8:=Sum.elim (fun y0=>(.inl (y0.1,y0.2.1,y0.2.2.1,y0.2.2.2.1,x.2.2,y0.2.2.2.2.1,y0.2.2.2.2.2))) (Sum.elim (fun y1=>(.inr (.inl (y1.1,y1.2.1,y1.2.2.1,y1.2.2.2.1,x.2.2,y1.2.2.2.2.1,y1.2.2.2.2.2)))) (fun y2=>(.inr (.inr (y2,x.2.2)))))
def q45 {R:Type} (x:t1c) (k:t8→Option R):Option R:=(X31 x.2.2 (x.1,x.2.1)).bind (Sum.elim (fun y0=>k (.inl (y0.1,y0.2.1,y0.2.2.1,y0.2.2.2.1,x.2.2,y0.2.2.2.2.1,y0.2.2.2.2.2))) (Sum.elim (fun y1=>k (.inr (.inl (y1.1,y1.2.1,y1.2.2.1,y1.2.2.2.1,x.2.2,y1.2.2.2.2.1,y1.2.2.2.2.2)))) (fun y2=>k (.inr (.inr (y2,x.2.2))))))
def q46 (x:t1c) (v:(Int×(List ByteArray))):t1c:=(v.1,v.2,x.2.2)
theorem q47 (x:t1c):LE.step X q43 q3U q0 q4 12 x=WM x.2.2 x.1 x.2.1 (fun w0 w1=>(Sum.inl (w0,w1,x.2.2))) (fun p0 p1 p2 p3 p4 p5=>(Sum.inr (.inl (p0,p1,p2,p3,x.2.2,p4,p5)))) (fun p0 p1 p2 p3 p4 p5=>(Sum.inr (.inr (.inl (p0,p1,p2,p3,x.2.2,p4,p5))))) (fun p0=>(Sum.inr (.inr (.inr (p0,x.2.2))))):=by kernel_rfl
theorem q49 {R:Type} (x:t1c) (k:t8→Option R) (r:R) (h:q45 x k=some r):∃ o,Z5z (LE.step X q43 q3U q0 q4 12) x o∧k o=some r:=by
 obtain ⟨o,h1,h2⟩:=Z0 h
 exact ⟨q44 x o,ZhG (st:=fun (x:t1c)=>Wv x.2.2) (prj:=fun x=>(x.1,x.2.1)) (emb:=q46) (embO:=q44) (fun x=>(q47 x).trans (by unfold Wv WM;simp only [Zhy,Zht,Zhz,Option.map_some,Option.map_none];rfl)) (fun _ _=>rfl) (fun _ _=>rfl) (fun _ _ _=>rfl) (fun _ _ _=>rfl) (fun _=>rfl) (Z1W.1 h1),by first|exact h2|(rcases o with o|o|o<;>exact h2)⟩
def q4a {R:Type}:Z2x S R:=LE.ls X q43 q45 q4
theorem q4b {R:Type}:Z3Q X (q4a (R:=R)):=ZhL xok q3V (e:=q43) q1 q5 q49 q5
def q4c:Key:=⟨[30],30,none,[0,0,1,0,1,1,1,1,1,1,1,1],2,50⟩
def q4d:StT S:=⟨(N (N (N L none (N L vT L)) (some (.ptr 0 0)) L) none L),o1n,50⟩
def q4e:Way S:=⟨.ret,⟨v1t,o1n,69⟩,[.int,.int,.int,(.lst .str),(.st 20)]⟩
def q4f:Way S:=⟨(.exit 2),⟨L,o1n,55⟩,[(.lst .str),(.st 20)]⟩
def q4g:LE S:=⟨q4c,q4d,[.int,(.lst .str),(.st 20)],[q4e,q4f]⟩
def q4h (x:t1c):((Int×Int×Int)⊕Unit)→tF:=Sum.elim (fun y0=>(.inl (y0.1,y0.2.1,y0.2.2,x.2.1,x.2.2))) (fun y1=>(.inr (x.2.1,x.2.2)))
def q4i {R:Type} (x:t1c) (k:tF→Option R):Option R:=(X32 x.2.2 x.1).bind (Sum.elim (fun y0=>k (.inl (y0.1,y0.2.1,y0.2.2,x.2.1,x.2.2))) (fun y1=>k (.inr (x.2.1,x.2.2))))
def q4j (x:t1c) (v:Int):t1c:=(v,x.2.1,x.2.2)
theorem q4k (x:t1c):LE.step X q4g q3U q0 q4a 12 x=WN x.2.2 x.1 (fun w0=>(Sum.inl (w0,x.2.1,x.2.2))) (fun p0 p1 p2=>(Sum.inr (.inl (p0,p1,p2,x.2.1,x.2.2)))) (Sum.inr (.inr (x.2.1,x.2.2))):=by kernel_rfl
theorem q4m {R:Type} (x:t1c) (k:tF→Option R) (r:R) (h:q4i x k=some r):∃ o,Z5z (LE.step X q4g q3U q0 q4a 12) x o∧k o=some r:=by
 obtain ⟨o,h1,h2⟩:=Z0 h
 exact ⟨q4h x o,ZhG (st:=fun (x:t1c)=>Ww x.2.2) (prj:=fun x=>x.1) (emb:=q4j) (embO:=q4h) (fun x=>(q4k x).trans (by unfold Ww WN;simp only [Zhy,Zht,Zhz,Option.map_some,Option.map_none];rfl)) (fun _ _=>rfl) (fun _ _=>rfl) (fun _ _ _=>rfl) (fun _ _ _=>rfl) (fun _=>rfl) (Z1W.1 h1),by first|exact h2|(rcases o with o|o<;>exact h2)⟩
def q4n {R:Type}:Z2x S R:=LE.ls X q4g q4i q4a
theorem q4o {R:Type}:Z3Q X (q4n (R:=R)):=ZhL xok q3V (e:=q4g) q1 q4b q4m q4b
theorem q4p (x0:ZI):ZhN X q3U [(.st 20)] [(.int .i64),(.int .i64),(.int .i64)] q0 q4n 12 30 (x0,())=X2b x0:=by kernel_rfl
def q4q:F7 S:=⟨[(.st 20)],[(.int .i64),(.int .i64),(.int .i64)],fun xs=>X40 xs.1⟩
theorem q4r:Z9o X 30 q4q:=ZhK (ZhJ xok q3V q1 q4o 12 30) fun xs _ h=>((q4p xs.1).trans (X66 xs.1).symm).trans h
def q4s:List (Nat×F7 S):=[(30,q4q)]
theorem q4t:Z9y X (q4s):=⟨q4r,trivial⟩
theorem q4w (x0:ZI):ZhN X q4s [(.st 20)] [.bool] q0 q4 12 20 (x0,())=X29 x0:=by kernel_rfl
def q4x:F7 S:=⟨[(.st 20)],[.bool],fun xs=>X4Q xs.1⟩
theorem q4y:Z9o X 20 q4x:=ZhK (ZhJ xok q4t q1 q5 12 20) fun xs _ h=>((q4w xs.1).trans (X5Y xs.1).symm).trans h
def q4D:Key:=⟨[92],92,none,[0,0,1,0,1,1],0,4⟩
def q4E:StT S:=⟨(N (N (N (N L (some (.iter 3)) L) (some (.int .i32 0)) L) none L) vL L),o1C,4⟩
def q4F:Way S:=⟨.ret,⟨(N L none (N L vU L)),o1C,23⟩,[.bool,.str,.nat]⟩
def q4G:Way S:=⟨(.exit 0),⟨(N (N (N L (some (.int .i32 0)) L) none L) vL L),o1C,6⟩,[.int,.str,.str,.nat]⟩
def q4H:LE S:=⟨q4D,q4E,[.int,.str,.str,.nat],[q4F,q4G]⟩
def q4I (x:t14):((Bool×Nat)⊕(Int×Nat))→tM:=Sum.elim (fun y0=>(.inl (y0.1,x.2.2.1,y0.2))) (fun y1=>(.inr (y1.1,x.2.1,x.2.2.1,y1.2)))
def q4J {R:Type} (x:t14) (k:tM→Option R):Option R:=(X4I x.2.1 x.2.2.1 (x.1,x.2.2.2)).bind (Sum.elim (fun y0=>k (.inl (y0.1,x.2.2.1,y0.2))) (fun y1=>k (.inr (y1.1,x.2.1,x.2.2.1,y1.2))))
def q4K (x:t14) (v:(Int×Nat)):t14:=(v.1,x.2.1,x.2.2.1,v.2)
theorem q4L (x:t14):LE.step X q4H q2 q0 q4 12 x=X13 x.2.1 x.2.2.1 x.1 x.2.2.2 (fun w0 w1=>(Sum.inl (w0,x.2.1,x.2.2.1,w1))) (fun p0 p1=>(Sum.inr (.inl (p0,x.2.2.1,p1)))) (fun p0 p1=>(Sum.inr (.inr (p0,x.2.1,x.2.2.1,p1)))):=by kernel_rfl
theorem q4N {R:Type} (x:t14) (k:tM→Option R) (r:R) (h:q4J x k=some r):∃ o,Z5z (LE.step X q4H q2 q0 q4 12) x o∧k o=some r:=by
 obtain ⟨o,h1,h2⟩:=Z0 h
 exact ⟨q4I x o,ZhG (st:=fun (x:t14)=>WW x.2.1 x.2.2.1) (prj:=fun x=>(x.1,x.2.2.2)) (emb:=q4K) (embO:=q4I) (fun x=>(q4L x).trans (by unfold WW X13;simp only [Zhy,Zht,Zhz,Option.map_some,Option.map_none];rfl)) (fun _ _=>rfl) (fun _ _=>rfl) (fun _ _ _=>rfl) (fun _ _ _=>rfl) (fun _=>rfl) (Z1W.1 h1),by first|exact h2|(rcases o with o|o<;>exact h2)⟩
def q4O {R:Type}:Z2x S R:=LE.ls X q4H q4J q4
theorem q4P {R:Type}:Z3Q X (q4O (R:=R)):=ZhL xok q3 (e:=q4H) q1 q5 q4N q5
theorem q4Q (x0:ByteArray):ZhN X q2 [.str] [.bool] q0 q4O 12 92 (x0,())=X2X x0:=by kernel_rfl
def q4R:F7 S:=⟨[.str],[.bool],fun xs=>X2X xs.1⟩
theorem q4S:Z9o X 92 q4R:=ZhK (ZhJ xok q3 q1 q4P 12 92) fun xs _ h=>(q4Q xs.1).trans h
def q4X:Key:=⟨[114,2,1,89,2,1,117],114,none,[0,0,1,0,1],0,17⟩
def q4Y:StT S:=⟨(N (N (N (N L vT L) none L) (some (.fn (.func 130) [] [(.ptr 0 0),(.ptr 1 0)])) L) vP v1A),(N (N L oA L) oA L),17⟩
def q4Z:Way S:=⟨.ret,⟨v1z,(N (N L oA L) oA L),38⟩,[.int,.int,.int]⟩
def q50:Way S:=⟨(.exit 0),⟨L,(N (N L oA L) oA L),18⟩,[.int,.int]⟩
def q51:LE S:=⟨q4X,q4Y,[.int,(.lst (.int .i64)),.int,.int,.int],[q4Z,q50]⟩
def q52 (x:t13):(Int⊕Unit)→t1a:=Sum.elim (fun y0=>(.inl (y0,x.2.2.2.1,x.2.2.2.2))) (fun y1=>(.inr (x.2.2.2.1,x.2.2.2.2)))
def q53 {R:Type} (x:t13) (k:t1a→Option R):Option R:=(X58 x.1 x.2.1 x.2.2.2.1 x.2.2.2.2 x.2.2.1).bind (Sum.elim (fun y0=>k (.inl (y0,x.2.2.2.1,x.2.2.2.2))) (fun y1=>k (.inr (x.2.2.2.1,x.2.2.2.2))))
def q54 (x:t13) (v:Int):t13:=(x.1,x.2.1,v,x.2.2.2.1,x.2.2.2.2)
theorem q55 (x:t13):LE.step X q51 q2 q0 q4 12 x=X1w x.1 x.2.1 x.2.2.2.1 x.2.2.2.2 x.2.2.1 (fun w0=>(Sum.inl (x.1,x.2.1,w0,x.2.2.2.1,x.2.2.2.2))) (fun p0=>(Sum.inr (.inl (p0,x.2.2.2.1,x.2.2.2.2)))) (Sum.inr (.inr (x.2.2.2.1,x.2.2.2.2))):=by kernel_rfl
theorem q57 {R:Type} (x:t13) (k:t1a→Option R) (r:R) (h:q53 x k=some r):∃ o,Z5z (LE.step X q51 q2 q0 q4 12) x o∧k o=some r:=by
 obtain ⟨o,h1,h2⟩:=Z0 h
 exact ⟨q52 x o,ZhG (st:=fun (x:t13)=>X1r x.1 x.2.1 x.2.2.2.1 x.2.2.2.2) (prj:=fun x=>x.2.2.1) (emb:=q54) (embO:=q52) (fun x=>(q55 x).trans (by unfold X1r X1w;simp only [Zhy,Zht,Zhz,Option.map_some,Option.map_none];rfl)) (fun _ _=>rfl) (fun _ _=>rfl) (fun _ _ _=>rfl) (fun _ _ _=>rfl) (fun _=>rfl) (Z1W.1 h1),by first|exact h2|(rcases o with o|o<;>exact h2)⟩
def q58 {R:Type}:Z2x S R:=LE.ls X q51 q53 q4
theorem q59 {R:Type}:Z3Q X (q58 (R:=R)):=ZhL xok q3 (e:=q51) q1 q5 q57 q5
theorem q5a (x0:Int) (x1:Int) (x2:List Int):ZhN X q2 [(.int .i64),(.int .i64),(.sl (.int .i64))] [.bool] q0 q58 12 117 (x0,x1,x2,())=X1q x0 x1 x2:=by kernel_rfl
def q5b:F7 S:=⟨[(.int .i64),(.int .i64),(.sl (.int .i64))],[.bool],fun xs=>X1q xs.1 xs.2.1 xs.2.2.1⟩
theorem q5c:Z9o X 117 q5b:=ZhK (ZhJ xok q3 q1 q59 12 117) fun xs _ h=>(q5a xs.1 xs.2.1 xs.2.2.1).trans h
def q5d:List (Nat×F7 S):=[(117,q5b)]
theorem q5e:Z9y X (q5d):=⟨q5c,trivial⟩
def q5h:Key:=⟨[129,2,1,115,2,1,93],129,none,[0,0,1,0,1],0,16⟩
def q5i:StT S:=⟨(N (N (N (N L vT L) none L) (some (.fn (.func 116) [] [(.ptr 0 0)])) L) vS v1A),(N L oA L),16⟩
def q5j:Way S:=⟨.ret,⟨v1z,(N (N L none (N (N L none (N L oo L)) none L)) oA (N L none (N o1D none L))),39⟩,[.int,(.st 2),.int,(.lst (.int .i64))]⟩
def q5k:Way S:=⟨(.exit 0),⟨L,(N L oA L),17⟩,[.int]⟩
def q5l:LE S:=⟨q5h,q5i,[.int,(.lst (.st 2)),.int,.int],[q5j,q5k]⟩
def q5m (x:t1d):((Int×Zu×(List Int))⊕Unit)→((Int×Zu×Int×(List Int))⊕Int):=Sum.elim (fun y0=>(.inl (y0.1,y0.2.1,x.2.2.2,y0.2.2))) (fun y1=>(.inr x.2.2.2))
def q5n {R:Type} (x:t1d) (k:((Int×Zu×Int×(List Int))⊕Int)→Option R):Option R:=(X56 x.1 x.2.1 x.2.2.2 x.2.2.1).bind (Sum.elim (fun y0=>k (.inl (y0.1,y0.2.1,x.2.2.2,y0.2.2))) (fun y1=>k (.inr x.2.2.2)))
def q5o (x:t1d) (v:Int):t1d:=(x.1,x.2.1,v,x.2.2.2)
theorem q5p (x:t1d):LE.step X q5l q5d q0 q4 12 x=X1v x.1 x.2.1 x.2.2.2 x.2.2.1 (fun w0=>(Sum.inl (x.1,x.2.1,w0,x.2.2.2))) (fun p0 p1 p2=>(Sum.inr (.inl (p0,p1,x.2.2.2,p2)))) (Sum.inr (.inr x.2.2.2)):=by kernel_rfl
theorem q5r {R:Type} (x:t1d) (k:((Int×Zu×Int×(List Int))⊕Int)→Option R) (r:R) (h:q5n x k=some r):∃ o,Z5z (LE.step X q5l q5d q0 q4 12) x o∧k o=some r:=by
 obtain ⟨o,h1,h2⟩:=Z0 h
 exact ⟨q5m x o,ZhG (st:=fun (x:t1d)=>X1p x.1 x.2.1 x.2.2.2) (prj:=fun x=>x.2.2.1) (emb:=q5o) (embO:=q5m) (fun x=>(q5p x).trans (by unfold X1p X1v;simp only [Zhy,Zht,Zhz,Option.map_some,Option.map_none];rfl)) (fun _ _=>rfl) (fun _ _=>rfl) (fun _ _ _=>rfl) (fun _ _ _=>rfl) (fun _=>rfl) (Z1W.1 h1),by first|exact h2|(rcases o with o|o<;>exact h2)⟩
def q5s {R:Type}:Z2x S R:=LE.ls X q5l q5n q4
theorem q5t {R:Type}:Z3Q X (q5s (R:=R)):=ZhL xok q5e (e:=q5l) q1 q5 q5r q5
theorem q5u (x0:Int) (x1:List Zu):ZhN X q5d [(.int .i64),(.sl (.st 2))] [.bool] q0 q5s 12 93 (x0,x1,())=X4k x0 x1:=by kernel_rfl
def q5v:F7 S:=⟨[(.int .i64),(.sl (.st 2))],[.bool],fun xs=>X4k xs.1 xs.2.1⟩
theorem q5w:Z9o X 93 q5v:=ZhK (ZhJ xok q5e q1 q5t 12 93) fun xs _ h=>(q5u xs.1 xs.2.1).trans h
def q5B:Key:=⟨[94],94,none,[0,0,1,0,1,1,1],0,9⟩
def q5C:StT S:=⟨(N (N (N L vT (N L vT L)) none L) none (N (N L none (N L vT L)) none (N (N L (some (.sl (.st 3) [])) L) none L))),o1D,9⟩
def q5D:Way S:=⟨.ret,⟨(N L none (N L vT L)),(N (N (N L ox L) none L) none (N (N (N (N L ox L) none L) none (N L ok L)) none L)),26⟩,[.int,(.lst (.int .i64)),(.lst (.int .i64)),(.st 3)]⟩
def q5E:Way S:=⟨.ret,⟨(N L none (N L vT L)),o17,26⟩,[.int,(.lst (.int .i64)),(.lst (.int .i64)),(.lst (.int .i64)),(.st 3)]⟩
def q5F:Way S:=⟨.ret,⟨(N L none (N L vT L)),o17,31⟩,[.int,(.lst (.int .i64)),(.lst (.int .i64)),(.lst (.int .i64)),(.st 3)]⟩
def q5G:Way S:=⟨(.exit 0),⟨L,o1D,10⟩,[(.lst (.int .i64))]⟩
def q5H:LE S:=⟨q5B,q5C,[.int,.int,.int,(.lst (.st 3)),(.lst (.int .i64))],[q5D,q5E,q5F,q5G]⟩
def q5I (x:tY):((Int×(List Int)×Zj)⊕(Int×(List Int)×(List Int)×Zj)⊕(Int×(List Int)×(List Int)×Zj)⊕Unit)→t9:=Sum.elim (fun y0=>(.inl (y0.1,x.2.2.2.2,y0.2.1,y0.2.2))) (Sum.elim (fun y1=>(.inr (.inl (y1.1,x.2.2.2.2,y1.2.1,y1.2.2.1,y1.2.2.2)))) (Sum.elim (fun y2=>(.inr (.inr (.inl (y2.1,x.2.2.2.2,y2.2.1,y2.2.2.1,y2.2.2.2))))) (fun y3=>(.inr (.inr (.inr x.2.2.2.2))))))
def q5J {R:Type} (x:tY) (k:t9→Option R):Option R:=(X4b x.2.1 x.2.2.2.1 x.2.2.2.2 (x.1,x.2.2.1)).bind (Sum.elim (fun y0=>k (.inl (y0.1,x.2.2.2.2,y0.2.1,y0.2.2))) (Sum.elim (fun y1=>k (.inr (.inl (y1.1,x.2.2.2.2,y1.2.1,y1.2.2.1,y1.2.2.2)))) (Sum.elim (fun y2=>k (.inr (.inr (.inl (y2.1,x.2.2.2.2,y2.2.1,y2.2.2.1,y2.2.2.2))))) (fun y3=>k (.inr (.inr (.inr x.2.2.2.2)))))))
def q5K (x:tY) (v:(Int×Int)):tY:=(v.1,x.2.1,v.2,x.2.2.2.1,x.2.2.2.2)
theorem q5L (x:tY):LE.step X q5H q5d q0 q4 12 x=W8 x.2.1 x.2.2.2.1 x.2.2.2.2 x.1 x.2.2.1 (fun w0 w1=>(Sum.inl (w0,x.2.1,w1,x.2.2.2.1,x.2.2.2.2))) (fun p0 p1 p2=>(Sum.inr (.inl (p0,x.2.2.2.2,p1,p2)))) (fun p0 p1 p2 p3=>(Sum.inr (.inr (.inl (p0,x.2.2.2.2,p1,p2,p3))))) (fun p0 p1 p2 p3=>(Sum.inr (.inr (.inr (.inl (p0,x.2.2.2.2,p1,p2,p3)))))) (Sum.inr (.inr (.inr (.inr x.2.2.2.2)))):=by kernel_rfl
theorem q5N {R:Type} (x:tY) (k:t9→Option R) (r:R) (h:q5J x k=some r):∃ o,Z5z (LE.step X q5H q5d q0 q4 12) x o∧k o=some r:=by
 obtain ⟨o,h1,h2⟩:=Z0 h
 exact ⟨q5I x o,ZhG (st:=fun (x:tY)=>XY x.2.1 x.2.2.2.1 x.2.2.2.2) (prj:=fun x=>(x.1,x.2.2.1)) (emb:=q5K) (embO:=q5I) (fun x=>(q5L x).trans (by unfold XY W8;simp only [Zhy,Zht,Zhz,Option.map_some,Option.map_none];rfl)) (fun _ _=>rfl) (fun _ _=>rfl) (fun _ _ _=>rfl) (fun _ _ _=>rfl) (fun _=>rfl) (Z1W.1 h1),by first|exact h2|(rcases o with o|o|o|o<;>exact h2)⟩
def q5O {R:Type}:Z2x S R:=LE.ls X q5H q5J q4
theorem q5P {R:Type}:Z3Q X (q5O (R:=R)):=ZhL xok q5e (e:=q5H) q1 q5 q5N q5
theorem q5Q (x0:List Zj):ZhN X q5d [(.sl (.st 3))] [(.int .i64)] q0 q5O 12 94 (x0,())=X3e x0:=by kernel_rfl
def q5R:F7 S:=⟨[(.sl (.st 3))],[(.int .i64)],fun xs=>X3e xs.1⟩
theorem q5S:Z9o X 94 q5R:=ZhK (ZhJ xok q5e q1 q5P 12 94) fun xs _ h=>(q5Q xs.1).trans h
theorem q5X (x0:ZC) (x1:Int):ZhN X q5d [(.st 6),(.int .i64)] [(.int .i64)] q0 q4 12 118 (x0,x1,())=X55 x0 x1:=by kernel_rfl
def q5Y:F7 S:=⟨[(.st 6),(.int .i64)],[(.int .i64)],fun xs=>X55 xs.1 xs.2.1⟩
theorem q5Z:Z9o X 118 q5Y:=ZhK (ZhJ xok q5e q1 q5 12 118) fun xs _ h=>(q5X xs.1 xs.2.1).trans h
theorem q64 (x0:Zu) (x1:Zu):ZhN X q2 [(.st 2),(.st 2)] [(.st 2)] q0 q4 12 121 (x0,x1,())=X7A x0 x1:=by kernel_rfl
def q65:F7 S:=⟨[(.st 2),(.st 2)],[(.st 2)],fun xs=>X7A xs.1 xs.2.1⟩
theorem q66:Z9o X 121 q65:=ZhK (ZhJ xok q3 q1 q5 12 121) fun xs _ h=>(q64 xs.1 xs.2.1).trans h
theorem q6b (x0:Zu) (x1:Zu):ZhN X q2 [(.st 2),(.st 2)] [(.int .i64)] q0 q4 12 120 (x0,x1,())=X7B x0 x1:=by kernel_rfl
def q6c:F7 S:=⟨[(.st 2),(.st 2)],[(.int .i64)],fun xs=>X7B xs.1 xs.2.1⟩
theorem q6d:Z9o X 120 q6c:=ZhK (ZhJ xok q3 q1 q5 12 120) fun xs _ h=>(q6b xs.1 xs.2.1).trans h
def q6e:List (Nat×F7 S):=[(117,q5b),(93,q5v),(118,q5Y),(121,q65),(120,q6c)]
theorem q6f:Z9y X (q6e):=⟨q5c,q5w,q5Z,q66,q6d,trivial⟩
def q6i:Key:=⟨[27,6,4,131,1,95],95,(some 27),[0,0,1,0,1,0,1,0,1,0,1,1,1],3,66⟩
def q6j:StT S:=⟨(N (N L none (N v1A vT L)) none (N (N (N (N (N L vS L) none L) none L) (some (.ptr 58 0)) L) (some (.ptr 1 0)) (N v1A none L))),oX,66⟩
def q6k:Way S:=⟨(.exit 3),⟨(N (N L none (N L vT L)) none (N (N L (some (.ptr 58 0)) L) (some (.ptr 1 0)) L)),oX,67⟩,[.int,(.st 15),.bool,.int,.bool,(.st 15),.bool,.int,(.st 15),(.st 17)]⟩
def q6l:LE S:=⟨q6i,q6j,[.int,.int,(.lst (.st 2)),.int,(.st 15),.bool,.int,.bool,(.st 15),.bool,.int,(.st 15),(.st 17)],[q6k]⟩
def q6m (x:tl):Int→tv:=fun y0=>(y0,x.2.2.2.2.1,x.2.2.2.2.2.1,x.2.2.2.2.2.2.1,x.2.2.2.2.2.2.2.1,x.2.2.2.2.2.2.2.2.1,x.2.2.2.2.2.2.2.2.2.1,x.2.2.2.2.2.2.2.2.2.2.1,x.2.2.2.2.2.2.2.2.2.2.2.1,x.2.2.2.2.2.2.2.2.2.2.2.2)
def q6n {R:Type} (x:tl) (k:tv→Option R):Option R:=(Wj x.1 x.2.2.1 x.2.2.2.2.1 x.2.2.2.2.2.1 x.2.2.2.2.2.2.1 x.2.2.2.2.2.2.2.1 x.2.2.2.2.2.2.2.2.1 x.2.2.2.2.2.2.2.2.2.1 x.2.2.2.2.2.2.2.2.2.2.1 x.2.2.2.2.2.2.2.2.2.2.2.1 x.2.2.2.2.2.2.2.2.2.2.2.2 (x.2.1,x.2.2.2.1)).bind (fun y0=>k (y0,x.2.2.2.2.1,x.2.2.2.2.2.1,x.2.2.2.2.2.2.1,x.2.2.2.2.2.2.2.1,x.2.2.2.2.2.2.2.2.1,x.2.2.2.2.2.2.2.2.2.1,x.2.2.2.2.2.2.2.2.2.2.1,x.2.2.2.2.2.2.2.2.2.2.2.1,x.2.2.2.2.2.2.2.2.2.2.2.2))
def q6o (x:tl) (v:(Int×Int)):tl:=(x.1,v.1,x.2.2.1,v.2,x.2.2.2.2.1,x.2.2.2.2.2.1,x.2.2.2.2.2.2.1,x.2.2.2.2.2.2.2.1,x.2.2.2.2.2.2.2.2.1,x.2.2.2.2.2.2.2.2.2.1,x.2.2.2.2.2.2.2.2.2.2.1,x.2.2.2.2.2.2.2.2.2.2.2.1,x.2.2.2.2.2.2.2.2.2.2.2.2)
theorem q6p (x:tl):LE.step X q6l q6e q0 q4 12 x=Xt x.1 x.2.2.1 x.2.2.2.2.1 x.2.2.2.2.2.1 x.2.2.2.2.2.2.1 x.2.2.2.2.2.2.2.1 x.2.2.2.2.2.2.2.2.1 x.2.2.2.2.2.2.2.2.2.1 x.2.2.2.2.2.2.2.2.2.2.1 x.2.2.2.2.2.2.2.2.2.2.2.1 x.2.2.2.2.2.2.2.2.2.2.2.2 x.2.1 x.2.2.2.1 (fun w0 w1=>(Sum.inl (x.1,w0,x.2.2.1,w1,x.2.2.2.2.1,x.2.2.2.2.2.1,x.2.2.2.2.2.2.1,x.2.2.2.2.2.2.2.1,x.2.2.2.2.2.2.2.2.1,x.2.2.2.2.2.2.2.2.2.1,x.2.2.2.2.2.2.2.2.2.2.1,x.2.2.2.2.2.2.2.2.2.2.2.1,x.2.2.2.2.2.2.2.2.2.2.2.2))) (fun p0=>(Sum.inr (p0,x.2.2.2.2.1,x.2.2.2.2.2.1,x.2.2.2.2.2.2.1,x.2.2.2.2.2.2.2.1,x.2.2.2.2.2.2.2.2.1,x.2.2.2.2.2.2.2.2.2.1,x.2.2.2.2.2.2.2.2.2.2.1,x.2.2.2.2.2.2.2.2.2.2.2.1,x.2.2.2.2.2.2.2.2.2.2.2.2))):=by kernel_rfl
theorem q6r {R:Type} (x:tl) (k:tv→Option R) (r:R) (h:q6n x k=some r):∃ o,Z5z (LE.step X q6l q6e q0 q4 12) x o∧k o=some r:=by
 obtain ⟨o,h1,h2⟩:=Z0 h
 exact ⟨q6m x o,ZhG (st:=fun (x:tl)=>Xl x.1 x.2.2.1 x.2.2.2.2.1 x.2.2.2.2.2.1 x.2.2.2.2.2.2.1 x.2.2.2.2.2.2.2.1 x.2.2.2.2.2.2.2.2.1 x.2.2.2.2.2.2.2.2.2.1 x.2.2.2.2.2.2.2.2.2.2.1 x.2.2.2.2.2.2.2.2.2.2.2.1 x.2.2.2.2.2.2.2.2.2.2.2.2) (prj:=fun x=>(x.2.1,x.2.2.2.1)) (emb:=q6o) (embO:=q6m) (fun x=>(q6p x).trans (by unfold Xl Xt;simp only [Zhy,Zht,Zhz,Option.map_some,Option.map_none];rfl)) (fun _ _=>rfl) (fun _ _=>rfl) (fun _ _ _=>rfl) (fun _ _ _=>rfl) (fun _=>rfl) (Z1W.1 h1),by first|exact h2|(rcases o with o<;>exact h2)⟩
def q6s {R:Type}:Z2x S R:=LE.ls X q6l q6n q4
theorem q6t {R:Type}:Z3Q X (q6s (R:=R)):=ZhL xok q6f (e:=q6l) q1 q5 q6r q5
def q6u:Key:=⟨[131,1,95],131,none,[0,0,1,1],0,45⟩
def q6v:StT S:=⟨(N (N (N L (some (.ptr 38 0)) (N (N L vT L) none L)) none L) (some (.yld 27)) (N v1z none (N (N (N L vS L) none L) none L))),oY,45⟩
def q6w:Way S:=⟨.ret,⟨L,(N (N (N (N L none (N L ob L)) none (N L none (N L (some (.loop 95 (N (N (N (N (N L vU L) none L) vT L) (some (.ptr 0 0)) (N (N L none (N L vU L)) none L)) vr (N (N (N L vU L) none (N L none (N L vl L))) (some (.ptr 1 0)) L)) (29::[]) .skip .skip 1 .ret (1::(95::[])) (0::(1::(0::(1::(1::(1::[])))))))) L))) oy L) ob (N (N (N (N L none (N L oo L)) none L) none L) none (N (N L none (N L none (N L oc L))) ox o1E))),76⟩,[(.st 15),.bool,.int,.bool,(.st 15),.bool,.int,(.st 15),(.st 2),(.st 17),(.lst (.int .i64)),(.st 2)]⟩
def q6x:Way S:=⟨(.exit 0),⟨L,oY,46⟩,[(.st 15),.bool,.int,.bool,(.st 15),.bool,.int,(.st 15),(.lst (.int .i64)),(.st 2)]⟩
def q6y:LE S:=⟨q6u,q6v,[.int,.int,(.lst (.st 2)),(.st 15),.bool,.int,.bool,(.st 15),.bool,.int,(.st 15),(.lst (.int .i64)),(.st 2)],[q6w,q6x]⟩
def q6z (x:tk):((Int×Zu×Z6×Zu)⊕Zu)→t6:=Sum.elim (fun y0=>(.inl (x.2.2.2.1,x.2.2.2.2.1,x.2.2.2.2.2.1,x.2.2.2.2.2.2.1,x.2.2.2.2.2.2.2.1,x.2.2.2.2.2.2.2.2.1,y0.1,x.2.2.2.2.2.2.2.2.2.2.1,y0.2.1,y0.2.2.1,x.2.2.2.2.2.2.2.2.2.2.2.1,y0.2.2.2))) (fun y1=>(.inr (x.2.2.2.1,x.2.2.2.2.1,x.2.2.2.2.2.1,x.2.2.2.2.2.2.1,x.2.2.2.2.2.2.2.1,x.2.2.2.2.2.2.2.2.1,x.2.2.2.2.2.2.2.2.2.1,x.2.2.2.2.2.2.2.2.2.2.1,x.2.2.2.2.2.2.2.2.2.2.2.1,y1)))
def q6A {R:Type} (x:tk) (k:t6→Option R):Option R:=(X35 x.1 x.2.2.1 x.2.2.2.1 x.2.2.2.2.1 x.2.2.2.2.2.1 x.2.2.2.2.2.2.1 x.2.2.2.2.2.2.2.1 x.2.2.2.2.2.2.2.2.1 x.2.2.2.2.2.2.2.2.2.1 x.2.2.2.2.2.2.2.2.2.2.1 x.2.2.2.2.2.2.2.2.2.2.2.1 (x.2.1,x.2.2.2.2.2.2.2.2.2.2.2.2)).bind (Sum.elim (fun y0=>k (.inl (x.2.2.2.1,x.2.2.2.2.1,x.2.2.2.2.2.1,x.2.2.2.2.2.2.1,x.2.2.2.2.2.2.2.1,x.2.2.2.2.2.2.2.2.1,y0.1,x.2.2.2.2.2.2.2.2.2.2.1,y0.2.1,y0.2.2.1,x.2.2.2.2.2.2.2.2.2.2.2.1,y0.2.2.2))) (fun y1=>k (.inr (x.2.2.2.1,x.2.2.2.2.1,x.2.2.2.2.2.1,x.2.2.2.2.2.2.1,x.2.2.2.2.2.2.2.1,x.2.2.2.2.2.2.2.2.1,x.2.2.2.2.2.2.2.2.2.1,x.2.2.2.2.2.2.2.2.2.2.1,x.2.2.2.2.2.2.2.2.2.2.2.1,y1))))
def q6B (x:tk) (v:(Int×Zu)):tk:=(x.1,v.1,x.2.2.1,x.2.2.2.1,x.2.2.2.2.1,x.2.2.2.2.2.1,x.2.2.2.2.2.2.1,x.2.2.2.2.2.2.2.1,x.2.2.2.2.2.2.2.2.1,x.2.2.2.2.2.2.2.2.2.1,x.2.2.2.2.2.2.2.2.2.2.1,x.2.2.2.2.2.2.2.2.2.2.2.1,v.2)
theorem q6C (x:tk):LE.step X q6y q6e q0 q6s 12 x=Xs x.1 x.2.2.1 x.2.2.2.1 x.2.2.2.2.1 x.2.2.2.2.2.1 x.2.2.2.2.2.2.1 x.2.2.2.2.2.2.2.1 x.2.2.2.2.2.2.2.2.1 x.2.2.2.2.2.2.2.2.2.1 x.2.2.2.2.2.2.2.2.2.2.1 x.2.2.2.2.2.2.2.2.2.2.2.1 x.2.1 x.2.2.2.2.2.2.2.2.2.2.2.2 (fun w0 w1=>(Sum.inl (x.1,w0,x.2.2.1,x.2.2.2.1,x.2.2.2.2.1,x.2.2.2.2.2.1,x.2.2.2.2.2.2.1,x.2.2.2.2.2.2.2.1,x.2.2.2.2.2.2.2.2.1,x.2.2.2.2.2.2.2.2.2.1,x.2.2.2.2.2.2.2.2.2.2.1,x.2.2.2.2.2.2.2.2.2.2.2.1,w1))) (fun p0 p1 p2 p3=>(Sum.inr (.inl (x.2.2.2.1,x.2.2.2.2.1,x.2.2.2.2.2.1,x.2.2.2.2.2.2.1,x.2.2.2.2.2.2.2.1,x.2.2.2.2.2.2.2.2.1,p0,x.2.2.2.2.2.2.2.2.2.2.1,p1,p2,x.2.2.2.2.2.2.2.2.2.2.2.1,p3)))) (fun p0=>(Sum.inr (.inr (x.2.2.2.1,x.2.2.2.2.1,x.2.2.2.2.2.1,x.2.2.2.2.2.2.1,x.2.2.2.2.2.2.2.1,x.2.2.2.2.2.2.2.2.1,x.2.2.2.2.2.2.2.2.2.1,x.2.2.2.2.2.2.2.2.2.2.1,x.2.2.2.2.2.2.2.2.2.2.2.1,p0)))):=by kernel_rfl
theorem q6E {R:Type} (x:tk) (k:t6→Option R) (r:R) (h:q6A x k=some r):∃ o,Z5z (LE.step X q6y q6e q0 q6s 12) x o∧k o=some r:=by
 obtain ⟨o,h1,h2⟩:=Z0 h
 exact ⟨q6z x o,ZhG (st:=fun (x:tk)=>Xk x.1 x.2.2.1 x.2.2.2.1 x.2.2.2.2.1 x.2.2.2.2.2.1 x.2.2.2.2.2.2.1 x.2.2.2.2.2.2.2.1 x.2.2.2.2.2.2.2.2.1 x.2.2.2.2.2.2.2.2.2.1 x.2.2.2.2.2.2.2.2.2.2.1 x.2.2.2.2.2.2.2.2.2.2.2.1) (prj:=fun x=>(x.2.1,x.2.2.2.2.2.2.2.2.2.2.2.2)) (emb:=q6B) (embO:=q6z) (fun x=>(q6C x).trans (by unfold Xk Xs;simp only [Zhy,Zht,Zhz,Option.map_some,Option.map_none];rfl)) (fun _ _=>rfl) (fun _ _=>rfl) (fun _ _ _=>rfl) (fun _ _ _=>rfl) (fun _=>rfl) (Z1W.1 h1),by first|exact h2|(rcases o with o|o<;>exact h2)⟩
def q6F {R:Type}:Z2x S R:=LE.ls X q6y q6A q6s
theorem q6G {R:Type}:Z3Q X (q6F (R:=R)):=ZhL xok q6f (e:=q6y) q1 q6t q6E q6t
theorem q6H (x0:Z8):ZhN X q6e [(.st 15)] [(.int .i64)] q0 q6F 12 95 (x0,())=X1M x0:=by kernel_rfl
def q6I:F7 S:=⟨[(.st 15)],[(.int .i64)],fun xs=>X1M xs.1⟩
theorem q6J:Z9o X 95 q6I:=ZhK (ZhJ xok q6f q1 q6G 12 95) fun xs _ h=>(q6H xs.1).trans h
def q6K:List (Nat×F7 S):=[(92,q4R),(93,q5v),(94,q5R),(95,q6I)]
theorem q6L:Z9y X (q6K):=⟨q4S,q5w,q5S,q6J,trivial⟩
def q6O:Key:=⟨[61],61,none,[0,0,1,0,1,1,1,1],0,17⟩
def q6P:StT S:=⟨(N (N v1z (some (.ptr 0 0)) L) none (N v1z none (N (N (N L (some (.sl (.st 4) [])) L) none L) vp L))),o1u,17⟩
def q6Q:Way S:=⟨.ret,⟨v1t,o1j,57⟩,[.int,.int,.int,(.st 4),(.st 8),(.mp .str (.int .i64))]⟩
def q6R:Way S:=⟨.ret,⟨v1t,o1j,62⟩,[.int,.int,.int,(.st 4),(.st 8),(.mp .str (.int .i64))]⟩
def q6S:Way S:=⟨.ret,⟨v1t,o18,63⟩,[.int,.int,.int,(.st 4),(.st 8),(.mp .str (.int .i64)),(.lst (.st 2))]⟩
def q6T:Way S:=⟨.ret,⟨v1t,o18,66⟩,[.int,.int,.int,(.st 4),(.st 8),(.mp .str (.int .i64)),(.lst (.st 2))]⟩
def q6U:Way S:=⟨(.exit 0),⟨(N (N L (some (.ptr 0 0)) L) none (N L none (N L vp L))),o1u,18⟩,[(.st 8),(.mp .str (.int .i64))]⟩
def q6V:LE S:=⟨q6O,q6P,[.int,.int,(.lst (.st 4)),(.st 8),(.mp .str (.int .i64))],[q6Q,q6R,q6S,q6T,q6U]⟩
def q6W (x:tN):((Int×Int×Int×Zx×t1i)⊕(Int×Int×Int×Zx×t1i)⊕(Int×Int×Int×Zx×t1i×(List Zu))⊕(Int×Int×Int×Zx×t1i×(List Zu))⊕t1i)→t0:=Sum.elim (fun y0=>(.inl (y0.1,y0.2.1,y0.2.2.1,y0.2.2.2.1,x.2.2.2.1,y0.2.2.2.2))) (Sum.elim (fun y1=>(.inr (.inl (y1.1,y1.2.1,y1.2.2.1,y1.2.2.2.1,x.2.2.2.1,y1.2.2.2.2)))) (Sum.elim (fun y2=>(.inr (.inr (.inl (y2.1,y2.2.1,y2.2.2.1,y2.2.2.2.1,x.2.2.2.1,y2.2.2.2.2.1,y2.2.2.2.2.2))))) (Sum.elim (fun y3=>(.inr (.inr (.inr (.inl (y3.1,y3.2.1,y3.2.2.1,y3.2.2.2.1,x.2.2.2.1,y3.2.2.2.2.1,y3.2.2.2.2.2)))))) (fun y4=>(.inr (.inr (.inr (.inr (x.2.2.2.1,y4)))))))))
def q6X {R:Type} (x:tN) (k:t0→Option R):Option R:=(X4m x.1 x.2.2.1 x.2.2.2.1 (x.2.1,x.2.2.2.2)).bind (Sum.elim (fun y0=>k (.inl (y0.1,y0.2.1,y0.2.2.1,y0.2.2.2.1,x.2.2.2.1,y0.2.2.2.2))) (Sum.elim (fun y1=>k (.inr (.inl (y1.1,y1.2.1,y1.2.2.1,y1.2.2.2.1,x.2.2.2.1,y1.2.2.2.2)))) (Sum.elim (fun y2=>k (.inr (.inr (.inl (y2.1,y2.2.1,y2.2.2.1,y2.2.2.2.1,x.2.2.2.1,y2.2.2.2.2.1,y2.2.2.2.2.2))))) (Sum.elim (fun y3=>k (.inr (.inr (.inr (.inl (y3.1,y3.2.1,y3.2.2.1,y3.2.2.2.1,x.2.2.2.1,y3.2.2.2.2.1,y3.2.2.2.2.2)))))) (fun y4=>k (.inr (.inr (.inr (.inr (x.2.2.2.1,y4))))))))))
def q6Y (x:tN) (v:(Int×t1i)):tN:=(x.1,v.1,x.2.2.1,x.2.2.2.1,v.2)
theorem q6Z (x:tN):LE.step X q6V q6K q0 q4 12 x=Wz x.1 x.2.2.1 x.2.2.2.1 x.2.1 x.2.2.2.2 (fun w0 w1=>(Sum.inl (x.1,w0,x.2.2.1,x.2.2.2.1,w1))) (fun p0 p1 p2 p3 p4=>(Sum.inr (.inl (p0,p1,p2,p3,x.2.2.2.1,p4)))) (fun p0 p1 p2 p3 p4=>(Sum.inr (.inr (.inl (p0,p1,p2,p3,x.2.2.2.1,p4))))) (fun p0 p1 p2 p3 p4 p5=>(Sum.inr (.inr (.inr (.inl (p0,p1,p2,p3,x.2.2.2.1,p4,p5)))))) (fun p0 p1 p2 p3 p4 p5=>(Sum.inr (.inr (.inr (.inr (.inl (p0,p1,p2,p3,x.2.2.2.1,p4,p5))))))) (fun p0=>(Sum.inr (.inr (.inr (.inr (.inr (x.2.2.2.1,p0))))))):=by kernel_rfl
theorem q71 {R:Type} (x:tN) (k:t0→Option R) (r:R) (h:q6X x k=some r):∃ o,Z5z (LE.step X q6V q6K q0 q4 12) x o∧k o=some r:=by
 obtain ⟨o,h1,h2⟩:=Z0 h
 exact ⟨q6W x o,ZhG (st:=fun (x:tN)=>Wh x.1 x.2.2.1 x.2.2.2.1) (prj:=fun x=>(x.2.1,x.2.2.2.2)) (emb:=q6Y) (embO:=q6W) (fun x=>(q6Z x).trans (by unfold Wh Wz;simp only [Zhy,Zht,Zhz,Option.map_some,Option.map_none];rfl)) (fun _ _=>rfl) (fun _ _=>rfl) (fun _ _ _=>rfl) (fun _ _ _=>rfl) (fun _=>rfl) (Z1W.1 h1),by first|exact h2|(rcases o with o|o|o|o|o<;>exact h2)⟩
def q72 {R:Type}:Z2x S R:=LE.ls X q6V q6X q4
theorem q73 {R:Type}:Z3Q X (q72 (R:=R)):=ZhL xok q6L (e:=q6V) q1 q5 q71 q5
def q74:Key:=⟨[61],61,none,[0,0,1,0,1,1,1,1,1,1],2,26⟩
def q75:StT S:=⟨(N (N L none (N L none v1F)) none (N (N L none (N (N L none (N L (some (.sl (.st 7) [])) L)) none L)) none (N L vp v1F))),o1u,26⟩
def q76:Way S:=⟨.ret,⟨v1t,o1h,58⟩,[.int,.int,.int,(.st 8),(.mp .str (.int .i64)),(.st 7)]⟩
def q77:Way S:=⟨.ret,⟨v1t,o1h,63⟩,[.int,.int,.int,(.st 8),(.mp .str (.int .i64)),(.st 7)]⟩
def q78:Way S:=⟨.ret,⟨v1t,o1h,67⟩,[.int,.int,.int,(.st 8),(.mp .str (.int .i64)),(.st 7)]⟩
def q79:Way S:=⟨(.exit 2),⟨L,o1u,27⟩,[(.st 8),(.mp .str (.int .i64))]⟩
def q7a:LE S:=⟨q74,q75,[.int,(.lst (.st 7)),.int,(.st 8),(.mp .str (.int .i64))],[q76,q77,q78,q79]⟩
def q7b (x:tO):(tU⊕tU⊕tU⊕t1i)→t4:=Sum.elim (fun y0=>(.inl (y0.1,y0.2.1,y0.2.2.1,x.2.2.2.1,y0.2.2.2.1,y0.2.2.2.2))) (Sum.elim (fun y1=>(.inr (.inl (y1.1,y1.2.1,y1.2.2.1,x.2.2.2.1,y1.2.2.2.1,y1.2.2.2.2)))) (Sum.elim (fun y2=>(.inr (.inr (.inl (y2.1,y2.2.1,y2.2.2.1,x.2.2.2.1,y2.2.2.2.1,y2.2.2.2.2))))) (fun y3=>(.inr (.inr (.inr (x.2.2.2.1,y3)))))))
def q7c {R:Type} (x:tO) (k:t4→Option R):Option R:=(X1W x.1 x.2.1 x.2.2.2.1 (x.2.2.1,x.2.2.2.2)).bind (Sum.elim (fun y0=>k (.inl (y0.1,y0.2.1,y0.2.2.1,x.2.2.2.1,y0.2.2.2.1,y0.2.2.2.2))) (Sum.elim (fun y1=>k (.inr (.inl (y1.1,y1.2.1,y1.2.2.1,x.2.2.2.1,y1.2.2.2.1,y1.2.2.2.2)))) (Sum.elim (fun y2=>k (.inr (.inr (.inl (y2.1,y2.2.1,y2.2.2.1,x.2.2.2.1,y2.2.2.2.1,y2.2.2.2.2))))) (fun y3=>k (.inr (.inr (.inr (x.2.2.2.1,y3))))))))
def q7d (x:tO) (v:(Int×t1i)):tO:=(x.1,x.2.1,v.1,x.2.2.2.1,v.2)
theorem q7e (x:tO):LE.step X q7a q6K q0 q72 12 x=WA x.1 x.2.1 x.2.2.2.1 x.2.2.1 x.2.2.2.2 (fun w0 w1=>(Sum.inl (x.1,x.2.1,w0,x.2.2.2.1,w1))) (fun p0 p1 p2 p3 p4=>(Sum.inr (.inl (p0,p1,p2,x.2.2.2.1,p3,p4)))) (fun p0 p1 p2 p3 p4=>(Sum.inr (.inr (.inl (p0,p1,p2,x.2.2.2.1,p3,p4))))) (fun p0 p1 p2 p3 p4=>(Sum.inr (.inr (.inr (.inl (p0,p1,p2,x.2.2.2.1,p3,p4)))))) (fun p0=>(Sum.inr (.inr (.inr (.inr (x.2.2.2.1,p0)))))):=by kernel_rfl
theorem q7g {R:Type} (x:tO) (k:t4→Option R) (r:R) (h:q7c x k=some r):∃ o,Z5z (LE.step X q7a q6K q0 q72 12) x o∧k o=some r:=by
 obtain ⟨o,h1,h2⟩:=Z0 h
 exact ⟨q7b x o,ZhG (st:=fun (x:tO)=>Wi x.1 x.2.1 x.2.2.2.1) (prj:=fun x=>(x.2.2.1,x.2.2.2.2)) (emb:=q7d) (embO:=q7b) (fun x=>(q7e x).trans (by unfold Wi WA;simp only [Zhy,Zht,Zhz,Option.map_some,Option.map_none];rfl)) (fun _ _=>rfl) (fun _ _=>rfl) (fun _ _ _=>rfl) (fun _ _ _=>rfl) (fun _=>rfl) (Z1W.1 h1),by first|exact h2|(rcases o with o|o|o|o<;>exact h2)⟩
def q7h {R:Type}:Z2x S R:=LE.ls X q7a q7c q72
theorem q7i {R:Type}:Z3Q X (q7h (R:=R)):=ZhL xok q6L (e:=q7a) q1 q73 q7g q73
theorem q7j (x0:Zk):ZhN X q6K [(.st 8)] [(.int .i64),(.int .i64),(.int .i64)] q0 q7h 12 61 (x0,())=X34 x0:=by kernel_rfl
def q7k:F7 S:=⟨[(.st 8)],[(.int .i64),(.int .i64),(.int .i64)],fun xs=>X34 xs.1⟩
theorem q7l:Z9o X 61 q7k:=ZhK (ZhJ xok q6L q1 q7i 12 61) fun xs _ h=>(q7j xs.1).trans h
def q7q:Key:=⟨[114,2,1,89,2,1,57],114,none,[0,0,1,0,1],0,17⟩
def q7r:StT S:=⟨(N (N (N (N L vT L) none L) (some (.fn (.func 90) [] [(.ptr 0 0),(.ptr 1 0)])) L) vP v1A),(N (N L oA L) oA L),17⟩
def q7u:LE S:=⟨q7q,q7r,[.int,(.lst (.int .i64)),.int,.int,.int],[q4Z,q50]⟩
def q7w {R:Type} (x:t13) (k:t1a→Option R):Option R:=(X4r x.1 x.2.1 x.2.2.2.1 x.2.2.2.2 x.2.2.1).bind (Sum.elim (fun y0=>k (.inl (y0,x.2.2.2.1,x.2.2.2.2))) (fun y1=>k (.inr (x.2.2.2.1,x.2.2.2.2))))
theorem q7y (x:t13):LE.step X q7u q2 q0 q4 12 x=WF x.1 x.2.1 x.2.2.2.1 x.2.2.2.2 x.2.2.1 (fun w0=>(Sum.inl (x.1,x.2.1,w0,x.2.2.2.1,x.2.2.2.2))) (fun p0=>(Sum.inr (.inl (p0,x.2.2.2.1,x.2.2.2.2)))) (Sum.inr (.inr (x.2.2.2.1,x.2.2.2.2))):=by kernel_rfl
theorem q7A {R:Type} (x:t13) (k:t1a→Option R) (r:R) (h:q7w x k=some r):∃ o,Z5z (LE.step X q7u q2 q0 q4 12) x o∧k o=some r:=by
 obtain ⟨o,h1,h2⟩:=Z0 h
 exact ⟨q52 x o,ZhG (st:=fun (x:t13)=>Wq x.1 x.2.1 x.2.2.2.1 x.2.2.2.2) (prj:=fun x=>x.2.2.1) (emb:=q54) (embO:=q52) (fun x=>(q7y x).trans (by unfold Wq WF;simp only [Zhy,Zht,Zhz,Option.map_some,Option.map_none];rfl)) (fun _ _=>rfl) (fun _ _=>rfl) (fun _ _ _=>rfl) (fun _ _ _=>rfl) (fun _=>rfl) (Z1W.1 h1),by first|exact h2|(rcases o with o|o<;>exact h2)⟩
def q7B {R:Type}:Z2x S R:=LE.ls X q7u q7w q4
theorem q7C {R:Type}:Z3Q X (q7B (R:=R)):=ZhL xok q3 (e:=q7u) q1 q5 q7A q5
theorem q7D (x0:Int) (x1:Int) (x2:List Int):ZhN X q2 [(.int .i64),(.int .i64),(.sl (.int .i64))] [.bool] q0 q7B 12 57 (x0,x1,x2,())=X27 x0 x1 x2:=by kernel_rfl
def q7E:F7 S:=⟨[(.int .i64),(.int .i64),(.sl (.int .i64))],[.bool],fun xs=>X3 xs.1 xs.2.1 xs.2.2.1⟩
theorem q7F:Z9o X 57 q7E:=ZhK (ZhJ xok q3 q1 q7C 12 57) fun xs _ h=>((q7D xs.1 xs.2.1 xs.2.2.1).trans (X5T xs.1 xs.2.1 xs.2.2.1).symm).trans h
def q7G:List (Nat×F7 S):=[(92,q4R),(57,q7E)]
theorem q7H:Z9y X (q7G):=⟨q4S,q7F,trivial⟩
def q7K:Key:=⟨[122,2,1,96,2,6,64],122,none,[0,0,1,0,1],0,25⟩
def q7L:StT S:=⟨v19,(N L of L),25⟩
def q7M:Way S:=⟨.ret,⟨v1z,(N L of o1r),44⟩,[.int,(.st 18),(.st 18)]⟩
def q7N:Way S:=⟨(.exit 0),⟨L,(N L of L),26⟩,[(.st 18)]⟩
def q7O:LE S:=⟨q7K,q7L,[.int,(.lst (.st 18)),.int,(.st 18)],[q7M,q7N]⟩
def q7P (x:tX):((Int×Z5)⊕Unit)→tV:=Sum.elim (fun y0=>(.inl (y0.1,x.2.2.2,y0.2))) (fun y1=>(.inr x.2.2.2))
def q7Q {R:Type} (x:tX) (k:tV→Option R):Option R:=(X2d x.1 x.2.1 x.2.2.2 x.2.2.1).bind (Sum.elim (fun y0=>k (.inl (y0.1,x.2.2.2,y0.2))) (fun y1=>k (.inr x.2.2.2)))
def q7R (x:tX) (v:Int):tX:=(x.1,x.2.1,v,x.2.2.2)
theorem q7S (x:tX):LE.step X q7O q7G q0 q4 12 x=XM x.1 x.2.1 x.2.2.2 x.2.2.1 (fun w0=>(Sum.inl (x.1,x.2.1,w0,x.2.2.2))) (fun p0 p1=>(Sum.inr (.inl (p0,x.2.2.2,p1)))) (Sum.inr (.inr x.2.2.2)):=by kernel_rfl
theorem q7U {R:Type} (x:tX) (k:tV→Option R) (r:R) (h:q7Q x k=some r):∃ o,Z5z (LE.step X q7O q7G q0 q4 12) x o∧k o=some r:=by
 obtain ⟨o,h1,h2⟩:=Z0 h
 exact ⟨q7P x o,ZhG (st:=fun (x:tX)=>XE x.1 x.2.1 x.2.2.2) (prj:=fun x=>x.2.2.1) (emb:=q7R) (embO:=q7P) (fun x=>(q7S x).trans (by unfold XE XM;simp only [Zhy,Zht,Zhz,Option.map_some,Option.map_none];rfl)) (fun _ _=>rfl) (fun _ _=>rfl) (fun _ _ _=>rfl) (fun _ _ _=>rfl) (fun _=>rfl) (Z1W.1 h1),by first|exact h2|(rcases o with o|o<;>exact h2)⟩
def q7V {R:Type}:Z2x S R:=LE.ls X q7O q7Q q4
theorem q7W {R:Type}:Z3Q X (q7V (R:=R)):=ZhL xok q7H (e:=q7O) q1 q5 q7U q5
def q7X:Key:=⟨[122,2,1,96,2,6,64],122,none,[0,0,1,0,1],0,24⟩
def q7Y:StT S:=⟨v19,(N L of L),24⟩
def q7Z:Way S:=⟨.ret,⟨v1z,(N o1r of L),43⟩,[.int,(.st 18),(.st 18)]⟩
def q80:Way S:=⟨(.exit 0),⟨L,(N L of L),25⟩,[(.st 18)]⟩
def q81:LE S:=⟨q7X,q7Y,[.int,(.lst (.st 18)),.int,(.st 18)],[q7Z,q80]⟩
def q82 (x:tX):((Int×Z5)⊕Unit)→tV:=Sum.elim (fun y0=>(.inl (y0.1,y0.2,x.2.2.2))) (fun y1=>(.inr x.2.2.2))
def q83 {R:Type} (x:tX) (k:tV→Option R):Option R:=(X2e x.1 x.2.1 x.2.2.2 x.2.2.1).bind (Sum.elim (fun y0=>k (.inl (y0.1,y0.2,x.2.2.2))) (fun y1=>k (.inr x.2.2.2)))
theorem q85 (x:tX):LE.step X q81 q7G q0 q7V 12 x=XN x.1 x.2.1 x.2.2.2 x.2.2.1 (fun w0=>(Sum.inl (x.1,x.2.1,w0,x.2.2.2))) (fun p0 p1=>(Sum.inr (.inl (p0,p1,x.2.2.2)))) (Sum.inr (.inr x.2.2.2)):=by kernel_rfl
theorem q87 {R:Type} (x:tX) (k:tV→Option R) (r:R) (h:q83 x k=some r):∃ o,Z5z (LE.step X q81 q7G q0 q7V 12) x o∧k o=some r:=by
 obtain ⟨o,h1,h2⟩:=Z0 h
 exact ⟨q82 x o,ZhG (st:=fun (x:tX)=>XF x.1 x.2.1 x.2.2.2) (prj:=fun x=>x.2.2.1) (emb:=q7R) (embO:=q82) (fun x=>(q85 x).trans (by unfold XF XN;simp only [Zhy,Zht,Zhz,Option.map_some,Option.map_none];rfl)) (fun _ _=>rfl) (fun _ _=>rfl) (fun _ _ _=>rfl) (fun _ _ _=>rfl) (fun _=>rfl) (Z1W.1 h1),by first|exact h2|(rcases o with o|o<;>exact h2)⟩
def q88 {R:Type}:Z2x S R:=LE.ls X q81 q83 q7V
theorem q89 {R:Type}:Z3Q X (q88 (R:=R)):=ZhL xok q7H (e:=q81) q1 q7W q87 q7W
theorem q8a (x0:Z5) (x1:List Z5):ZhN X q7G [(.st 18),(.sl (.st 18))] [(.int .i64)] q0 q88 12 64 (x0,x1,())=X17 x0 x1:=by kernel_rfl
def q8b:F7 S:=⟨[(.st 18),(.sl (.st 18))],[(.int .i64)],fun xs=>X3u xs.1 xs.2.1⟩
theorem q8c:Z9o X 64 q8b:=ZhK (ZhJ xok q7H q1 q89 12 64) fun xs _ h=>((q8a xs.1 xs.2.1).trans (X4L xs.1 xs.2.1).symm).trans h
def q8d:List (Nat×F7 S):=[(57,q7E)]
theorem q8e:Z9y X (q8d):=⟨q7F,trivial⟩
theorem q8h (x0:Zt):ZhN X q8d [(.st 19)] [(.int .i64)] q0 q4 12 67 (x0,())=X3h x0:=by kernel_rfl
def q8i:F7 S:=⟨[(.st 19)],[(.int .i64)],fun xs=>X6O xs.1⟩
theorem q8j:Z9o X 67 q8i:=ZhK (ZhJ xok q8e q1 q5 12 67) fun xs _ h=>((q8h xs.1).trans (X7a xs.1).symm).trans h
def q8k:List (Nat×F7 S):=[(67,q8i)]
theorem q8l:Z9y X (q8k):=⟨q8j,trivial⟩
theorem q8o (x0:Int) (x1:Zt):ZhN X q8k [(.int .i64),(.st 19)] [(.int .i64)] q0 q4 12 66 (x0,x1,())=X24 x0 x1:=by kernel_rfl
def q8p:F7 S:=⟨[(.int .i64),(.st 19)],[(.int .i64)],fun xs=>X3V xs.1 xs.2.1⟩
theorem q8q:Z9o X 66 q8p:=ZhK (ZhJ xok q8l q1 q5 12 66) fun xs _ h=>((q8o xs.1 xs.2.1).trans (X5O xs.1 xs.2.1).symm).trans h
def q8r:List (Nat×F7 S):=[(61,q7k),(57,q7E),(64,q8b),(66,q8p)]
theorem q8s:Z9y X (q8r):=⟨q7l,q7F,q8c,q8q,trivial⟩
def q8v:Key:=⟨[62,3,8,29],62,none,[0,0,1,0,1],0,51⟩
def q8w:StT S:=⟨(N (N (N L none (N L vT L)) (some (.fn (.func 63) [] [(.ptr 0 0)])) (N (N L vQ L) none L)) none v1z),(N L oe L),51⟩
def q8x:Way S:=⟨.ret,⟨v1s,(N (N (N (N (N (N (N L of L) none L) none L) none (N L none (N L of L))) none L) none L) oe L),78⟩,[.int,.int,(.st 18),(.st 18),(.st 20)]⟩
def q8y:Way S:=⟨(.exit 0),⟨L,(N L oe L),52⟩,[(.st 20)]⟩
def q8z:LE S:=⟨q8v,q8w,[.int,(.lst (.st 18)),.int,(.st 20)],[q8x,q8y]⟩
def q8A (x:tZ):((Int×Int×Z5×Z5)⊕Unit)→tR:=Sum.elim (fun y0=>(.inl (y0.1,y0.2.1,y0.2.2.1,y0.2.2.2,x.2.2.2))) (fun y1=>(.inr x.2.2.2))
def q8B {R:Type} (x:tZ) (k:tR→Option R):Option R:=(X3M x.2.1 x.2.2.1 x.2.2.2 x.1).bind (Sum.elim (fun y0=>k (.inl (y0.1,y0.2.1,y0.2.2.1,y0.2.2.2,x.2.2.2))) (fun y1=>k (.inr x.2.2.2)))
def q8C (x:tZ) (v:Int):tZ:=(v,x.2.1,x.2.2.1,x.2.2.2)
theorem q8D (x:tZ):LE.step X q8z q8r q0 q4 12 x=X1x x.2.1 x.2.2.1 x.2.2.2 x.1 (fun w0=>(Sum.inl (w0,x.2.1,x.2.2.1,x.2.2.2))) (fun p0 p1 p2 p3=>(Sum.inr (.inl (p0,p1,p2,p3,x.2.2.2)))) (Sum.inr (.inr x.2.2.2)):=by kernel_rfl
theorem q8F {R:Type} (x:tZ) (k:tR→Option R) (r:R) (h:q8B x k=some r):∃ o,Z5z (LE.step X q8z q8r q0 q4 12) x o∧k o=some r:=by
 obtain ⟨o,h1,h2⟩:=Z0 h
 exact ⟨q8A x o,ZhG (st:=fun (x:tZ)=>X1s x.2.1 x.2.2.1 x.2.2.2) (prj:=fun x=>x.1) (emb:=q8C) (embO:=q8A) (fun x=>(q8D x).trans (by unfold X1s X1x;simp only [Zhy,Zht,Zhz,Option.map_some,Option.map_none];rfl)) (fun _ _=>rfl) (fun _ _=>rfl) (fun _ _ _=>rfl) (fun _ _ _=>rfl) (fun _=>rfl) (Z1W.1 h1),by first|exact h2|(rcases o with o|o<;>exact h2)⟩
def q8G {R:Type}:Z2x S R:=LE.ls X q8z q8B q4
theorem q8H {R:Type}:Z3Q X (q8G (R:=R)):=ZhL xok q8s (e:=q8z) q1 q5 q8F q5
def q8I:Key:=⟨[65,2,13,29],65,none,[0,0,1,0,1],0,97⟩
def q8J:StT S:=⟨v12,L,97⟩
def q8K:Way S:=⟨.ret,⟨v1s,(N (N L none (N L none (N (N (N L none (N L od L)) none L) none L))) none L),115⟩,[.int,.int,(.st 19)]⟩
def q8L:Way S:=⟨(.exit 0),⟨L,L,98⟩,[]⟩
def q8M:LE S:=⟨q8I,q8J,[.int,(.lst (.st 19)),.int],[q8K,q8L]⟩
def q8N (x:t1g):t1f→t1f:=Sum.elim (fun y0=>(.inl (y0.1,y0.2.1,y0.2.2))) (fun y1=>(.inr ()))
def q8O {R:Type} (x:t1g) (k:t1f→Option R):Option R:=(X3N x.2.1 x.2.2 x.1).bind (Sum.elim (fun y0=>k (.inl (y0.1,y0.2.1,y0.2.2))) (fun y1=>k (.inr ())))
def q8P (x:t1g) (v:Int):t1g:=(v,x.2.1,x.2.2)
theorem q8Q (x:t1g):LE.step X q8M q8r q0 q8G 12 x=X1y x.2.1 x.2.2 x.1 (fun w0=>(Sum.inl (w0,x.2.1,x.2.2))) (fun p0 p1 p2=>(Sum.inr (.inl (p0,p1,p2)))) (Sum.inr (.inr ())):=by kernel_rfl
theorem q8S {R:Type} (x:t1g) (k:t1f→Option R) (r:R) (h:q8O x k=some r):∃ o,Z5z (LE.step X q8M q8r q0 q8G 12) x o∧k o=some r:=by
 obtain ⟨o,h1,h2⟩:=Z0 h
 exact ⟨q8N x o,ZhG (st:=fun (x:t1g)=>X1t x.2.1 x.2.2) (prj:=fun x=>x.1) (emb:=q8P) (embO:=q8N) (fun x=>(q8Q x).trans (by unfold X1t X1y;simp only [Zhy,Zht,Zhz,Option.map_some,Option.map_none];rfl)) (fun _ _=>rfl) (fun _ _=>rfl) (fun _ _ _=>rfl) (fun _ _ _=>rfl) (fun _=>rfl) (Z1W.1 h1),by first|exact h2|(rcases o with o|o<;>exact h2)⟩
def q8T {R:Type}:Z2x S R:=LE.ls X q8M q8O q8G
theorem q8U {R:Type}:Z3Q X (q8T (R:=R)):=ZhL xok q8s (e:=q8M) q1 q8H q8S q8H
def q8V:Key:=⟨[65,2,13,29],65,none,[0,0,1,0,1],0,73⟩
def q8W:StT S:=⟨v12,L,73⟩
def q8X:Way S:=⟨.ret,⟨v1s,(N (N L none (N L none (N L none (N (N (N L od L) none L) none L)))) none L),91⟩,[.int,.int,(.st 19)]⟩
def q8Y:Way S:=⟨(.exit 0),⟨L,L,74⟩,[]⟩
def q8Z:LE S:=⟨q8V,q8W,[.int,(.lst (.st 19)),.int],[q8X,q8Y]⟩
def q91 {R:Type} (x:t1g) (k:t1f→Option R):Option R:=(X2z x.2.1 x.2.2 x.1).bind (Sum.elim (fun y0=>k (.inl (y0.1,y0.2.1,y0.2.2))) (fun y1=>k (.inr ())))
theorem q93 (x:t1g):LE.step X q8Z q8r q0 q8T 12 x=X3g x.2.1 x.2.2 x.1 (fun w0=>(Sum.inl (w0,x.2.1,x.2.2))) (fun p0 p1 p2=>(Sum.inr (.inl (p0,p1,p2)))) (Sum.inr (.inr ())):=by kernel_rfl
theorem q95 {R:Type} (x:t1g) (k:t1f→Option R) (r:R) (h:q91 x k=some r):∃ o,Z5z (LE.step X q8Z q8r q0 q8T 12) x o∧k o=some r:=by
 obtain ⟨o,h1,h2⟩:=Z0 h
 exact ⟨q8N x o,ZhG (st:=fun (x:t1g)=>X46 x.2.1 x.2.2) (prj:=fun x=>x.1) (emb:=q8P) (embO:=q8N) (fun x=>(q93 x).trans (by unfold X46 X3g;simp only [Zhy,Zht,Zhz,Option.map_some,Option.map_none];rfl)) (fun _ _=>rfl) (fun _ _=>rfl) (fun _ _ _=>rfl) (fun _ _ _=>rfl) (fun _=>rfl) (Z1W.1 h1),by first|exact h2|(rcases o with o|o<;>exact h2)⟩
def q96 {R:Type}:Z2x S R:=LE.ls X q8Z q91 q8T
theorem q97 {R:Type}:Z3Q X (q96 (R:=R)):=ZhL xok q8s (e:=q8Z) q1 q8U q95 q8U
theorem q98 (x0:ZI):ZhN X q8r [(.st 20)] [(.int .i64),(.int .i64),(.int .i64)] q0 q96 12 29 (x0,())=X2M x0:=by kernel_rfl
def q99:F7 S:=⟨[(.st 20)],[(.int .i64),(.int .i64),(.int .i64)],fun xs=>X6c xs.1⟩
theorem q9a:Z9o X 29 q99:=ZhK (ZhJ xok q8s q1 q97 12 29) fun xs _ h=>((q98 xs.1).trans (X6K xs.1).symm).trans h
def q9b:List (Nat×F7 S):=[(61,q7k),(117,q5b)]
theorem q9c:Z9y X (q9b):=⟨q7l,q5c,trivial⟩
def q9f:Key:=⟨[132,1,109],132,none,[0,0,1],0,45⟩
def q9g:StT S:=⟨(N (N (N L vT L) (some (.ptr 36 0)) L) (some (.yld 40)) L),oW,45⟩
def q9h:Way S:=⟨.ret,⟨L,(N (N (N (N L none (N L none (N L ok L))) oA L) oA L) on (N (N (N (N L ox L) none (N (N L (some (.loop 109 (N (N (N (N L (some (.ptr 3 0)) L) (some (.ptr 0 0)) (N L none (N (N L vm L) vU L))) vT (N (N (N L vU L) none L) none L)) vv (N (N (N L (some (.ptr 4 0)) L) (some (.ptr 1 0)) L) vT (N L (some (.ptr 2 0)) (N (N L vU L) none L)))) (44::(45::[])) .skip .skip 1 .ret (1::(109::[])) (0::(1::(0::(1::(1::(1::(1::[]))))))))) L) ox L)) oy (N (N (N L oq L) none L) none L)) oj L)),67⟩,[(.st 3),.int,.int,(.st 8),(.lst (.int .i64)),.bool,.int,.bool,(.st 8),.int,.bool,(.lst (.int .i64)),.int,(.lst (.st 3)),(.st 4)]⟩
def q9i:Way S:=⟨(.exit 0),⟨L,oW,47⟩,[.int,.int,(.st 8),(.lst (.int .i64)),.bool,.int,.bool,(.st 8),.int,.bool,(.lst (.int .i64)),.int,(.lst (.st 3)),(.st 4)]⟩
def q9j:LE S:=⟨q9f,q9g,[.int,.int,.int,(.st 8),(.lst (.int .i64)),.bool,.int,.bool,(.st 8),.int,.bool,(.lst (.int .i64)),.int,(.lst (.st 3)),(.st 4)],[q9h,q9i]⟩
def q9k (x:tg):((Zj×Int×Int)⊕Unit)→t3:=Sum.elim (fun y0=>(.inl (y0.1,y0.2.1,x.2.2.1,x.2.2.2.1,x.2.2.2.2.1,x.2.2.2.2.2.1,x.2.2.2.2.2.2.1,x.2.2.2.2.2.2.2.1,x.2.2.2.2.2.2.2.2.1,x.2.2.2.2.2.2.2.2.2.1,x.2.2.2.2.2.2.2.2.2.2.1,x.2.2.2.2.2.2.2.2.2.2.2.1,y0.2.2,x.2.2.2.2.2.2.2.2.2.2.2.2.2.1,x.2.2.2.2.2.2.2.2.2.2.2.2.2.2))) (fun y1=>(.inr (x.2.1,x.2.2.1,x.2.2.2.1,x.2.2.2.2.1,x.2.2.2.2.2.1,x.2.2.2.2.2.2.1,x.2.2.2.2.2.2.2.1,x.2.2.2.2.2.2.2.2.1,x.2.2.2.2.2.2.2.2.2.1,x.2.2.2.2.2.2.2.2.2.2.1,x.2.2.2.2.2.2.2.2.2.2.2.1,x.2.2.2.2.2.2.2.2.2.2.2.2.1,x.2.2.2.2.2.2.2.2.2.2.2.2.2.1,x.2.2.2.2.2.2.2.2.2.2.2.2.2.2)))
def q9l {R:Type} (x:tg) (k:t3→Option R):Option R:=(X1F x.2.2.1 x.2.2.2.2.2.2.2.2.2.2.2.2.2.1 x.1).bind (Sum.elim (fun y0=>k (.inl (y0.1,y0.2.1,x.2.2.1,x.2.2.2.1,x.2.2.2.2.1,x.2.2.2.2.2.1,x.2.2.2.2.2.2.1,x.2.2.2.2.2.2.2.1,x.2.2.2.2.2.2.2.2.1,x.2.2.2.2.2.2.2.2.2.1,x.2.2.2.2.2.2.2.2.2.2.1,x.2.2.2.2.2.2.2.2.2.2.2.1,y0.2.2,x.2.2.2.2.2.2.2.2.2.2.2.2.2.1,x.2.2.2.2.2.2.2.2.2.2.2.2.2.2))) (fun y1=>k (.inr (x.2.1,x.2.2.1,x.2.2.2.1,x.2.2.2.2.1,x.2.2.2.2.2.1,x.2.2.2.2.2.2.1,x.2.2.2.2.2.2.2.1,x.2.2.2.2.2.2.2.2.1,x.2.2.2.2.2.2.2.2.2.1,x.2.2.2.2.2.2.2.2.2.2.1,x.2.2.2.2.2.2.2.2.2.2.2.1,x.2.2.2.2.2.2.2.2.2.2.2.2.1,x.2.2.2.2.2.2.2.2.2.2.2.2.2.1,x.2.2.2.2.2.2.2.2.2.2.2.2.2.2))))
def q9m (x:tg) (v:Int):tg:=(v,x.2.1,x.2.2.1,x.2.2.2.1,x.2.2.2.2.1,x.2.2.2.2.2.1,x.2.2.2.2.2.2.1,x.2.2.2.2.2.2.2.1,x.2.2.2.2.2.2.2.2.1,x.2.2.2.2.2.2.2.2.2.1,x.2.2.2.2.2.2.2.2.2.2.1,x.2.2.2.2.2.2.2.2.2.2.2.1,x.2.2.2.2.2.2.2.2.2.2.2.2.1,x.2.2.2.2.2.2.2.2.2.2.2.2.2.1,x.2.2.2.2.2.2.2.2.2.2.2.2.2.2)
theorem q9n (x:tg):LE.step X q9j q9b q0 q4 12 x=W7 x.2.2.1 x.2.2.2.2.2.2.2.2.2.2.2.2.2.1 x.1 (fun w0=>(Sum.inl (w0,x.2.1,x.2.2.1,x.2.2.2.1,x.2.2.2.2.1,x.2.2.2.2.2.1,x.2.2.2.2.2.2.1,x.2.2.2.2.2.2.2.1,x.2.2.2.2.2.2.2.2.1,x.2.2.2.2.2.2.2.2.2.1,x.2.2.2.2.2.2.2.2.2.2.1,x.2.2.2.2.2.2.2.2.2.2.2.1,x.2.2.2.2.2.2.2.2.2.2.2.2.1,x.2.2.2.2.2.2.2.2.2.2.2.2.2.1,x.2.2.2.2.2.2.2.2.2.2.2.2.2.2))) (fun p0 p1 p2=>(Sum.inr (.inl (p0,p1,x.2.2.1,x.2.2.2.1,x.2.2.2.2.1,x.2.2.2.2.2.1,x.2.2.2.2.2.2.1,x.2.2.2.2.2.2.2.1,x.2.2.2.2.2.2.2.2.1,x.2.2.2.2.2.2.2.2.2.1,x.2.2.2.2.2.2.2.2.2.2.1,x.2.2.2.2.2.2.2.2.2.2.2.1,p2,x.2.2.2.2.2.2.2.2.2.2.2.2.2.1,x.2.2.2.2.2.2.2.2.2.2.2.2.2.2)))) (Sum.inr (.inr (x.2.1,x.2.2.1,x.2.2.2.1,x.2.2.2.2.1,x.2.2.2.2.2.1,x.2.2.2.2.2.2.1,x.2.2.2.2.2.2.2.1,x.2.2.2.2.2.2.2.2.1,x.2.2.2.2.2.2.2.2.2.1,x.2.2.2.2.2.2.2.2.2.2.1,x.2.2.2.2.2.2.2.2.2.2.2.1,x.2.2.2.2.2.2.2.2.2.2.2.2.1,x.2.2.2.2.2.2.2.2.2.2.2.2.2.1,x.2.2.2.2.2.2.2.2.2.2.2.2.2.2))):=by kernel_rfl
theorem q9p {R:Type} (x:tg) (k:t3→Option R) (r:R) (h:q9l x k=some r):∃ o,Z5z (LE.step X q9j q9b q0 q4 12) x o∧k o=some r:=by
 obtain ⟨o,h1,h2⟩:=Z0 h
 exact ⟨q9k x o,ZhG (st:=fun (x:tg)=>XX x.2.2.1 x.2.2.2.2.2.2.2.2.2.2.2.2.2.1) (prj:=fun x=>x.1) (emb:=q9m) (embO:=q9k) (fun x=>(q9n x).trans (by unfold XX W7;simp only [Zhy,Zht,Zhz,Option.map_some,Option.map_none];rfl)) (fun _ _=>rfl) (fun _ _=>rfl) (fun _ _ _=>rfl) (fun _ _ _=>rfl) (fun _=>rfl) (Z1W.1 h1),by first|exact h2|(rcases o with o|o<;>exact h2)⟩
def q9q {R:Type}:Z2x S R:=LE.ls X q9j q9l q4
theorem q9r {R:Type}:Z3Q X (q9q (R:=R)):=ZhL xok q9c (e:=q9j) q1 q5 q9p q5
theorem q9s (x0:Zk) (x1:Int) (x2:Int):ZhN X q9b [(.st 8),(.int .i64),(.int .i64)] [(.st 4),(.int .i64),(.int .i64)] q0 q9q 12 109 (x0,x1,x2,())=X1L x0 x1 x2:=by kernel_rfl
def q9t:F7 S:=⟨[(.st 8),(.int .i64),(.int .i64)],[(.st 4),(.int .i64),(.int .i64)],fun xs=>X3d xs.1 xs.2.1 xs.2.2.1⟩
theorem q9u:Z9o X 109 q9t:=ZhK (ZhJ xok q9c q1 q9r 12 109) fun xs _ h=>((q9s xs.1 xs.2.1 xs.2.2.1).trans (X5A xs.1 xs.2.1 xs.2.2.1).symm).trans h
def q9v:List (Nat×F7 S):=[(109,q9t)]
theorem q9w:Z9y X (q9v):=⟨q9u,trivial⟩
theorem q9z (x0:Zk) (x1:Int) (x2:Int):ZhN X q9v [(.st 8),(.int .i64),(.int .i64)] [(.int .i64),(.int .i64)] q0 q4 12 82 (x0,x1,x2,())=X1K x0 x1 x2:=by kernel_rfl
def q9A:F7 S:=⟨[(.st 8),(.int .i64),(.int .i64)],[(.int .i64),(.int .i64)],fun xs=>X5j xs.1 xs.2.1 xs.2.2.1⟩
theorem q9B:Z9o X 82 q9A:=ZhK (ZhJ xok q9w q1 q5 12 82) fun xs _ h=>((q9z xs.1 xs.2.1 xs.2.2.1).trans (X5y xs.1 xs.2.1 xs.2.2.1).symm).trans h
theorem q9G (x0:Zk) (x1:Int) (x2:Int):ZhN X q9v [(.st 8),(.int .i64),(.int .i64)] [(.st 4),(.int .i64)] q0 q4 12 126 (x0,x1,x2,())=X14 x0 x1 x2:=by kernel_rfl
def q9H:F7 S:=⟨[(.st 8),(.int .i64),(.int .i64)],[(.st 4),(.int .i64)],fun xs=>X4n xs.1 xs.2.1 xs.2.2.1⟩
theorem q9I:Z9o X 126 q9H:=ZhK (ZhJ xok q9w q1 q5 12 126) fun xs _ h=>((q9G xs.1 xs.2.1 xs.2.2.1).trans (X4J xs.1 xs.2.1 xs.2.2.1).symm).trans h
theorem q9N:ZhN X q2 [] [(.arr 8 (.st 2))] q0 q4 12 133 (())=X6n:=by kernel_rfl
def q9O:F7 S:=⟨[],[(.arr 8 (.st 2))],fun xs=>X6n⟩
theorem q9P:Z9o X 133 q9O:=ZhK (ZhJ xok q3 q1 q5 12 133) fun xs _ h=>(q9N).trans h
def q9Q:List (Nat×F7 S):=[(133,q9O),(120,q6c)]
theorem q9R:Z9y X (q9Q):=⟨q9P,q6d,trivial⟩
def q9U:Key:=⟨[127],127,none,[0,0,0,1],0,2⟩
def q9V:StT S:=⟨(N (N L (some (.ptr 0 0)) L) none (N L vT L)),(N L oo L),2⟩
def q9W:Way S:=⟨(.exit 0),⟨(N (N L (some (.ptr 0 0)) L) none (N L vT L)),(N L oo L),10⟩,[.int,(.st 2)]⟩
def q9X:LE S:=⟨q9U,q9V,[.int,(.st 2)],[q9W]⟩
def q9Y (x:(Int×Zu)):(Int×Zu)→(Int×Zu):=fun y0=>(y0.1,y0.2)
def q9Z {R:Type} (x:(Int×Zu)) (k:(Int×Zu)→Option R):Option R:=(X1G (x.1,x.2)).bind (fun y0=>k (y0.1,y0.2))
def qa0 (x:(Int×Zu)) (v:(Int×Zu)):(Int×Zu):=(v.1,v.2)
theorem qa1 (x:(Int×Zu)):LE.step X q9X q9Q q0 q4 12 x=Xw x.1 x.2 (fun w0 w1=>(Sum.inl (w0,w1))) (fun p0 p1=>(Sum.inr (p0,p1))):=by kernel_rfl
theorem qa3 {R:Type} (x:(Int×Zu)) (k:(Int×Zu)→Option R) (r:R) (h:q9Z x k=some r):∃ o,Z5z (LE.step X q9X q9Q q0 q4 12) x o∧k o=some r:=by
 obtain ⟨o,h1,h2⟩:=Z0 h
 exact ⟨q9Y x o,ZhG (st:=fun (x:(Int×Zu))=>Xc) (prj:=fun x=>(x.1,x.2)) (emb:=qa0) (embO:=q9Y) (fun x=>(qa1 x).trans (by unfold Xc Xw;simp only [Zhy,Zht,Zhz,Option.map_some,Option.map_none];rfl)) (fun _ _=>rfl) (fun _ _=>rfl) (fun _ _ _=>rfl) (fun _ _ _=>rfl) (fun _=>rfl) (Z1W.1 h1),by first|exact h2|(rcases o with o<;>exact h2)⟩
def qa4 {R:Type}:Z2x S R:=LE.ls X q9X q9Z q4
theorem qa5 {R:Type}:Z3Q X (qa4 (R:=R)):=ZhL xok q9R (e:=q9X) q1 q5 qa3 q5
def qa6:Key:=⟨[127],127,none,[0,0,1,0,1,1],2,12⟩
def qa7:StT S:=⟨(N (N L (some (.ptr 0 0)) (N L none (N (N L (some (.agg [(.arr (.st 2) 8 (fun _=>tdf T (.st 2)))])) L) none L))) none (N L vT v1z)),(N L oo L),12⟩
def qa8:Way S:=⟨(.exit 2),⟨(N L none (N L vT L)),(N L oo L),13⟩,[.int,(.st 2)]⟩
def qa9:LE S:=⟨qa6,qa7,[(.arr (.st 2)),.int,.int,(.st 2)],[qa8]⟩
def qaa (x:t15):Int→(Int×Zu):=fun y0=>(y0,x.2.2.2)
def qab {R:Type} (x:t15) (k:(Int×Zu)→Option R):Option R:=(X2I x.1 x.2.2.2 (x.2.1,x.2.2.1)).bind (fun y0=>k (y0,x.2.2.2))
def qac (x:t15) (v:(Int×Int)):t15:=(x.1,v.1,v.2,x.2.2.2)
theorem qad (x:t15):LE.step X qa9 q9Q q0 qa4 12 x=W9 x.1 x.2.2.2 x.2.1 x.2.2.1 (fun w0 w1=>(Sum.inl (x.1,w0,w1,x.2.2.2))) (fun p0=>(Sum.inr (p0,x.2.2.2))):=by kernel_rfl
theorem qaf {R:Type} (x:t15) (k:(Int×Zu)→Option R) (r:R) (h:qab x k=some r):∃ o,Z5z (LE.step X qa9 q9Q q0 qa4 12) x o∧k o=some r:=by
 obtain ⟨o,h1,h2⟩:=Z0 h
 exact ⟨qaa x o,ZhG (st:=fun (x:t15)=>XZ x.1 x.2.2.2) (prj:=fun x=>(x.2.1,x.2.2.1)) (emb:=qac) (embO:=qaa) (fun x=>(qad x).trans (by unfold XZ W9;simp only [Zhy,Zht,Zhz,Option.map_some,Option.map_none];rfl)) (fun _ _=>rfl) (fun _ _=>rfl) (fun _ _ _=>rfl) (fun _ _ _=>rfl) (fun _=>rfl) (Z1W.1 h1),by first|exact h2|(rcases o with o<;>exact h2)⟩
def qag {R:Type}:Z2x S R:=LE.ls X qa9 qab qa4
theorem qah {R:Type}:Z3Q X (qag (R:=R)):=ZhL xok q9R (e:=qa9) q1 qa5 qaf qa5
theorem qai (x0:Zu):ZhN X q9Q [(.st 2)] [(.int .i64)] q0 qag 12 127 (x0,())=X1N x0:=by kernel_rfl
def qaj:F7 S:=⟨[(.st 2)],[(.int .i64)],fun xs=>X4i xs.1⟩
theorem qak:Z9o X 127 qaj:=ZhK (ZhJ xok q9R q1 qah 12 127) fun xs _ h=>((qai xs.1).trans (X5C xs.1).symm).trans h
def qal:List (Nat×F7 S):=[(126,q9H),(93,q5v),(121,q65),(127,qaj)]
theorem qam:Z9y X (qal):=⟨q9I,q5w,q66,qak,trivial⟩
theorem qap (x0:Zk) (x1:Int) (x2:Int) (x3:Zu):ZhN X qal [(.st 8),(.int .i64),(.int .i64),(.st 2)] [(.int .i64),(.int .i64)] q0 q4 12 110 (x0,x1,x2,x3,())=X2m x0 x1 x2 x3:=by kernel_rfl
def qaq:F7 S:=⟨[(.st 8),(.int .i64),(.int .i64),(.st 2)],[(.int .i64),(.int .i64)],fun xs=>X5k xs.1 xs.2.1 xs.2.2.1 xs.2.2.2.1⟩
theorem qar:Z9o X 110 qaq:=ZhK (ZhJ xok qam q1 q5 12 110) fun xs _ h=>((qap xs.1 xs.2.1 xs.2.2.1 xs.2.2.2.1).trans (X6l xs.1 xs.2.1 xs.2.2.1 xs.2.2.2.1).symm).trans h
def qas:StT S:=⟨v1y,(N (N L o4 L) os L),2⟩
def qat:Way S:=⟨.ret,⟨(N L vU L),(N (N L o4 L) os L),2⟩,[.bool,(.st 20),(.lst (.st 21)),.en,(.mp (.st 23) (.int .i64))]⟩
def qau:PE S:=⟨49,2,qas,[.int,(.st 20),(.lst (.st 21)),.en,(.mp (.st 23) (.int .i64))],[qat]⟩
def qav:List (Nat×F7 S):=[(82,q9A)]
theorem qaw:Z9y X qav:=⟨q9B,trivial⟩
theorem qaz (x:tI):PE.step X qau qav q0 q4 12 x=XA x.1 x.2.1 x.2.2.1 x.2.2.2.1 x.2.2.2.2:=by kernel_rfl
theorem qaA:Zba X qau XR:=ZhM (Zhh xok qaw q1 q5 12) fun x _ h=>((qaz x).trans (X3l x).symm).trans h
def qaB {R:Type}:Prs S R:=PE.ps X qau (fun x q=>(XR x).bind q) q0
theorem qaC {R:Type}:Z82 X (qaB (R:=R)):=ZhD (e:=qau) qaA q1
def qaD:StT S:=⟨(N (N L vt L) (some (.ptr 1 0)) L),(N (N L o4 L) os L),2⟩
def qaE:Way S:=⟨.ret,⟨(N L vT L),(N (N L o4 L) os L),2⟩,[.int,(.st 20),(.lst (.st 21)),.en,(.mp (.st 23) (.int .i64))]⟩
def qaF:PE S:=⟨105,2,qaD,[(.st 21),(.st 20),(.lst (.st 21)),.en,(.mp (.st 23) (.int .i64))],[qaE]⟩
def qaG:List (Nat×F7 S):=[(57,q7E),(82,q9A)]
theorem qaH:Z9y X qaG:=⟨q7F,q9B,trivial⟩
theorem qaK (x:(Zm×ZI×(List Zm)×(Nat→Nat)×t1k)):PE.step X qaF qaG qaB q4 12 x=XK x.1 x.2.1 x.2.2.1 x.2.2.2.1 x.2.2.2.2:=by kernel_rfl
theorem qaL:Zba X qaF X15:=ZhM (Zhh xok qaH qaC q5 12) fun x _ h=>((qaK x).trans (X3H x).symm).trans h
def qaM {R:Type}:Prs S R:=PE.ps X qaF (fun x q=>(X15 x).bind q) qaB
theorem qaN {R:Type}:Z82 X (qaM (R:=R)):=ZhD (e:=qaF) qaL qaC
def qaO:StT S:=⟨(N (N L vR L) vu L),L,0⟩
def qaP:Way S:=⟨.ret,⟨(N L (some (.tup [.nilp,(.int .i64 0),(.int .i64 0)])) L),L,0⟩,[.int,.int]⟩
def qaQ:Way S:=⟨.ret,⟨(N L (some (.tup [(.ptr 1 0),(.int .i64 0),(.int .i64 0)])) L),(N (N L o4 L) os L),2⟩,[.int,.int,(.st 20),(.lst (.st 21)),.en,(.mp (.st 23) (.int .i64))]⟩
def qaR:PE S:=⟨74,2,qaO,[(.lst (.st 21)),(.st 20)],[qaP,qaQ]⟩
def qaS:List (Nat×F7 S):=[(29,q99),(57,q7E),(82,q9A)]
theorem qaT:Z9y X qaS:=⟨q9a,q7F,q9B,trivial⟩
def qaW:Key:=⟨[74],74,none,[0,0,1,0,1,1,1,1],0,26⟩
def qaX:StT S:=⟨(N (N (N L none (N L none (N L vQ L))) vR (N L none (N L none (N L vT L)))) none (N (N L (some (.ptr 1 0)) (N L none (N L vT L))) none L)),o1e,26⟩
def qaY:Way S:=⟨(.exit 0),⟨(N (N L vR L) none (N (N L (some (.ptr 1 0)) L) none L)),o1e,27⟩,[(.lst (.st 21)),(.st 20),(.st 20),(.lst (.st 21)),.en,(.mp (.st 23) (.int .i64))]⟩
def qaZ:LE S:=⟨qaW,qaX,[(.lst (.st 18)),(.lst (.st 21)),.int,.int,(.st 20),(.st 20),(.lst (.st 21)),.en,(.mp (.st 23) (.int .i64))],[qaY]⟩
def qb0 (x:tj):(Nat→Nat)→ty:=fun y0=>(x.2.1,x.2.2.2.2.1,x.2.2.2.2.2.1,x.2.2.2.2.2.2.1,y0,x.2.2.2.2.2.2.2.2)
def qb1 {R:Type} (x:tj) (k:ty→Option R):Option R:=(X2Y x.1 x.2.2.2.1 (x.2.2.1,x.2.2.2.2.2.2.2.1)).bind (fun y0=>k (x.2.1,x.2.2.2.2.1,x.2.2.2.2.2.1,x.2.2.2.2.2.2.1,y0,x.2.2.2.2.2.2.2.2))
def qb2 (x:tj) (v:(Int×(Nat→Nat))):tj:=(x.1,x.2.1,v.1,x.2.2.2.1,x.2.2.2.2.1,x.2.2.2.2.2.1,x.2.2.2.2.2.2.1,v.2,x.2.2.2.2.2.2.2.2)
theorem qb3 (x:tj):LE.step X qaZ qaS q0 q4 12 x=WD x.1 x.2.2.2.1 x.2.2.1 x.2.2.2.2.2.2.2.1 (fun w0 w1=>(Sum.inl (x.1,x.2.1,w0,x.2.2.2.1,x.2.2.2.2.1,x.2.2.2.2.2.1,x.2.2.2.2.2.2.1,w1,x.2.2.2.2.2.2.2.2))) (fun p0=>(Sum.inr (x.2.1,x.2.2.2.2.1,x.2.2.2.2.2.1,x.2.2.2.2.2.2.1,p0,x.2.2.2.2.2.2.2.2))):=by kernel_rfl
theorem qb5 {R:Type} (x:tj) (k:ty→Option R) (r:R) (h:qb1 x k=some r):∃ o,Z5z (LE.step X qaZ qaS q0 q4 12) x o∧k o=some r:=by
 obtain ⟨o,h1,h2⟩:=Z0 h
 exact ⟨qb0 x o,ZhG (st:=fun (x:tj)=>Wo x.1 x.2.2.2.1) (prj:=fun x=>(x.2.2.1,x.2.2.2.2.2.2.2.1)) (emb:=qb2) (embO:=qb0) (fun x=>(qb3 x).trans (by unfold Wo WD;simp only [Zhy,Zht,Zhz,Option.map_some,Option.map_none];rfl)) (fun _ _=>rfl) (fun _ _=>rfl) (fun _ _ _=>rfl) (fun _ _ _=>rfl) (fun _=>rfl) (Z1W.1 h1),by first|exact h2|(rcases o with o<;>exact h2)⟩
def qb6 {R:Type}:Z2x S R:=LE.ls X qaZ qb1 q4
theorem qb7 {R:Type}:Z3Q X (qb6 (R:=R)):=ZhL xok qaT (e:=qaZ) q1 q5 qb5 q5
def qb8:Key:=⟨[103,2,14,74],103,none,[0,0,1,0,1],0,40⟩
def qb9:StT S:=⟨(N (N (N L none (N L vT L)) (some (.fn (.func 104) [] [(.ptr 1 0)])) (N (N L vR L) none L)) none v1z),o1c,40⟩
def qba:Way S:=⟨.ret,⟨v1s,(N (N L oD L) none (N (N L none (N (N L o2 (N L og L)) none (N (N L og L) none L))) none (N (N (N L os L) none L) none L))),64⟩,[.int,.int,(.st 20),(.lst (.st 21)),.en,(.st 21),(.st 21),(.mp (.st 23) (.int .i64))]⟩
def qbb:Way S:=⟨(.exit 0),⟨L,o1c,41⟩,[(.st 20),(.lst (.st 21)),.en,(.mp (.st 23) (.int .i64))]⟩
def qbc:LE S:=⟨qb8,qb9,[.int,(.lst (.st 21)),.int,(.st 20),(.lst (.st 21)),.en,(.mp (.st 23) (.int .i64))],[qba,qbb]⟩
def qbd (x:tt):tb→tb:=Sum.elim (fun y0=>(.inl (y0.1,y0.2.1,y0.2.2.1,y0.2.2.2.1,y0.2.2.2.2.1,y0.2.2.2.2.2.1,y0.2.2.2.2.2.2.1,y0.2.2.2.2.2.2.2))) (fun y1=>(.inr (y1.1,y1.2.1,y1.2.2.1,y1.2.2.2)))
def qbe {R:Type} (x:tt) (k:tb→Option R):Option R:=(X2Z x.2.1 x.2.2.1 (x.1,x.2.2.2.1,x.2.2.2.2.1,x.2.2.2.2.2.1,x.2.2.2.2.2.2)).bind (Sum.elim (fun y0=>k (.inl (y0.1,y0.2.1,y0.2.2.1,y0.2.2.2.1,y0.2.2.2.2.1,y0.2.2.2.2.2.1,y0.2.2.2.2.2.2.1,y0.2.2.2.2.2.2.2))) (fun y1=>k (.inr (y1.1,y1.2.1,y1.2.2.1,y1.2.2.2))))
def qbf (x:tt) (v:tI):tt:=(v.1,x.2.1,x.2.2.1,v.2.1,v.2.2.1,v.2.2.2.1,v.2.2.2.2)
theorem qbg (x:tt):LE.step X qbc qaS qaM qb6 12 x=WE x.2.1 x.2.2.1 x.1 x.2.2.2.1 x.2.2.2.2.1 x.2.2.2.2.2.1 x.2.2.2.2.2.2 (fun w0 w1 w2 w3 w4=>(Sum.inl (w0,x.2.1,x.2.2.1,w1,w2,w3,w4))) (fun p0 p1 p2 p3 p4 p5 p6 p7=>(Sum.inr (.inl (p0,p1,p2,p3,p4,p5,p6,p7)))) (fun p0 p1 p2 p3=>(Sum.inr (.inr (p0,p1,p2,p3)))):=by kernel_rfl
theorem qbi {R:Type} (x:tt) (k:tb→Option R) (r:R) (h:qbe x k=some r):∃ o,Z5z (LE.step X qbc qaS qaM qb6 12) x o∧k o=some r:=by
 obtain ⟨o,h1,h2⟩:=Z0 h
 exact ⟨qbd x o,ZhG (st:=fun (x:tt)=>Wp x.2.1 x.2.2.1) (prj:=fun x=>(x.1,x.2.2.2.1,x.2.2.2.2.1,x.2.2.2.2.2.1,x.2.2.2.2.2.2)) (emb:=qbf) (embO:=qbd) (fun x=>(qbg x).trans (by unfold Wp WE;simp only [Zhy,Zht,Zhz,Option.map_some,Option.map_none];rfl)) (fun _ _=>rfl) (fun _ _=>rfl) (fun _ _ _=>rfl) (fun _ _ _=>rfl) (fun _=>rfl) (Z1W.1 h1),by first|exact h2|(rcases o with o|o<;>exact h2)⟩
def qbj {R:Type}:Z2x S R:=LE.ls X qbc qbe qb6
theorem qbk {R:Type}:Z3Q X (qbj (R:=R)):=ZhL xok qaT (e:=qbc) qaN qb7 qbi qb7
theorem qbl (x:((List Zm)×ZI)):PE.step X qaR qaS qaM qbj 12 x=X26 x.1 x.2:=by kernel_rfl
theorem qbm:Zba X qaR X4N:=ZhM (Zhh xok qaT qaN qbk 12) fun x _ h=>((qbl x).trans (X5R x).symm).trans h
def qbn {R:Type}:Prs S R:=PE.ps X qaR (fun x q=>(X4N x).bind q) qaM
theorem qbo {R:Type}:Z82 X (qbn (R:=R)):=ZhD (e:=qaR) qbm qaN
def qbq:Way S:=⟨.ret,⟨(N L (some (.tup [.nilp,(.int .i64 0)])) L),L,0⟩,[.int]⟩
def qbr:Way S:=⟨.ret,⟨(N L (some (.tup [(.ptr 1 0),(.int .i64 0)])) L),(N (N L o4 L) os L),2⟩,[.int,(.st 20),(.lst (.st 21)),.en,(.mp (.st 23) (.int .i64))]⟩
def qbs:PE S:=⟨35,2,qaO,[(.lst (.st 21)),(.st 20)],[qbq,qbr]⟩
theorem qbx (x:((List Zm)×ZI)):PE.step X qbs qaS qbn q4 12 x=X1Q x.1 x.2:=by kernel_rfl
theorem qby:Zba X qbs X2B:=ZhM (Zhh xok qaT qbo q5 12) fun x _ h=>((qbx x).trans (X5E x).symm).trans h
def qbz {R:Type}:Prs S R:=PE.ps X qbs (fun x q=>(X2B x).bind q) qbn
theorem qbA {R:Type}:Z82 X (qbz (R:=R)):=ZhD (e:=qbs) qby qbo
def qbB:StT S:=⟨(N L (some .nilp) L),L,0⟩
def qbC:PE S:=⟨36,1,qbB,[],[]⟩
def qbD:List (Nat×F7 S):=[(110,qaq),(57,q7E)]
theorem qbE:Z9y X qbD:=⟨qar,q7F,trivial⟩
theorem qbH (x:Unit):PE.step X qbC qbD qbz q4 12 x=Wl:=by kernel_rfl
theorem qbI:Zba X qbC X2J:=ZhM (Zhh xok qbE qbA q5 12) fun x _ h=>((qbH x).trans (X5o x).symm).trans h
def qbJ {R:Type}:Prs S R:=PE.ps X qbC (fun x q=>(X2J x).bind q) qbz
theorem qbK {R:Type}:Z82 X (qbJ (R:=R)):=ZhD (e:=qbC) qbI qbA
def qbL:StT S:=⟨(N (N L vT L) (some (.ptr 1 0)) (N L vw L)),(N (N L o4 L) os L),2⟩
def qbN:PE S:=⟨83,3,qbL,[.int,(.st 2),(.st 20),(.lst (.st 21)),.en,(.mp (.st 23) (.int .i64))],[qaE]⟩
def qbO:List (Nat×F7 S):=[(110,qaq)]
theorem qbP:Z9y X qbO:=⟨qar,trivial⟩
theorem qbS (x:(Int×Zu×ZI×(List Zm)×(Nat→Nat)×t1k)):PE.step X qbN qbO qbJ q4 12 x=XC x.1 x.2.1 x.2.2.1 x.2.2.2.1 x.2.2.2.2.1 x.2.2.2.2.2:=by kernel_rfl
theorem qbT:Zba X qbN XS:=ZhM (Zhh xok qbP qbK q5 12) fun x _ h=>((qbS x).trans (X3q x).symm).trans h
def qbU {R:Type}:Prs S R:=PE.ps X qbN (fun x q=>(XS x).bind q) qbJ
theorem qbV {R:Type}:Z82 X (qbU (R:=R)):=ZhD (e:=qbN) qbT qbK
def qbW:StT S:=⟨(N (N L vw L) (some (.agg [(.ptr 1 0)])) (N L vt L)),(N (N L o4 L) os L),2⟩
def qbX:Way S:=⟨.ret,⟨v1m,(N (N L o4 L) os L),2⟩,[(.st 5),.bool,(.st 20),(.lst (.st 21)),.en,(.mp (.st 23) (.int .i64))]⟩
def qbY:PE S:=⟨149,3,qbW,[(.st 2),(.st 21),(.st 20),(.lst (.st 21)),.en,(.mp (.st 23) (.int .i64))],[qbX]⟩
theorem qc3 (x:(Zu×Zm×ZI×(List Zm)×(Nat→Nat)×t1k)):PE.step X qbY qbO qbU q4 12 x=XD x.1 x.2.1 x.2.2.1 x.2.2.2.1 x.2.2.2.2.1 x.2.2.2.2.2:=by kernel_rfl
theorem qc4:Zba X qbY Xo:=ZhM (Zhh xok qbP qbV q5 12) fun x _ h=>((qc3 x).trans (X3s x).symm).trans h
def qc5 {R:Type}:Prs S R:=PE.ps X qbY (fun x q=>(Xo x).bind q) qbU
theorem qc6 {R:Type}:Z82 X (qc5 (R:=R)):=ZhD (e:=qbY) qc4 qbV
def qc9:PE S:=⟨150,3,qbW,[(.st 2),(.st 21),(.st 20),(.lst (.st 21)),.en,(.mp (.st 23) (.int .i64))],[qbX]⟩
theorem qcb:Z9y X q8d:=⟨q7F,trivial⟩
def qce:Key:=⟨[151,7,1,150],151,none,[0,0,1,0,1],0,20⟩
def qcf:StT S:=⟨(N (N (N (N L vT L) none L) (some (.fn (.func 152) [] [(.ptr 3 0)])) L) (some (.sl (.st 19) [])) v1A),o1E,20⟩
def qcg:Way S:=⟨.ret,⟨v1z,(N (N (N (N L none (N (N L ox L) none L)) oo (N (N L none (N L ox L)) none L)) none (N L none (N L none (N L od L)))) none L),58⟩,[.int,(.lst (.int .i64)),(.st 2),(.lst (.int .i64)),(.st 19)]⟩
def qch:Way S:=⟨(.exit 0),⟨L,o1E,21⟩,[(.st 2)]⟩
def qci:LE S:=⟨qce,qcf,[.int,(.lst (.st 19)),.int,(.st 2)],[qcg,qch]⟩
def qcj (x:t16):((Int×(List Int)×(List Int)×Zt)⊕Unit)→tS:=Sum.elim (fun y0=>(.inl (y0.1,y0.2.1,x.2.2.2,y0.2.2.1,y0.2.2.2))) (fun y1=>(.inr x.2.2.2))
def qck {R:Type} (x:t16) (k:tS→Option R):Option R:=(X38 x.1 x.2.1 x.2.2.2 x.2.2.1).bind (Sum.elim (fun y0=>k (.inl (y0.1,y0.2.1,x.2.2.2,y0.2.2.1,y0.2.2.2))) (fun y1=>k (.inr x.2.2.2)))
def qcl (x:t16) (v:Int):t16:=(x.1,x.2.1,v,x.2.2.2)
theorem qcm (x:t16):LE.step X qci q8d qc5 q4 12 x=Xv x.1 x.2.1 x.2.2.2 x.2.2.1 (fun w0=>(Sum.inl (x.1,x.2.1,w0,x.2.2.2))) (fun p0 p1 p2 p3=>(Sum.inr (.inl (p0,p1,x.2.2.2,p2,p3)))) (Sum.inr (.inr x.2.2.2)):=by kernel_rfl
theorem qco {R:Type} (x:t16) (k:tS→Option R) (r:R) (h:qck x k=some r):∃ o,Z5z (LE.step X qci q8d qc5 q4 12) x o∧k o=some r:=by
 obtain ⟨o,h1,h2⟩:=Z0 h
 exact ⟨qcj x o,ZhG (st:=fun (x:t16)=>Xm x.1 x.2.1 x.2.2.2) (prj:=fun x=>x.2.2.1) (emb:=qcl) (embO:=qcj) (fun x=>(qcm x).trans (by unfold Xm Xv;simp only [Zhy,Zht,Zhz,Option.map_some,Option.map_none];rfl)) (fun _ _=>rfl) (fun _ _=>rfl) (fun _ _ _=>rfl) (fun _ _ _=>rfl) (fun _=>rfl) (Z1W.1 h1),by first|exact h2|(rcases o with o|o<;>exact h2)⟩
def qcp {R:Type}:Z2x S R:=LE.ls X qci qck q4
theorem qcq {R:Type}:Z3Q X (qcp (R:=R)):=ZhL xok qcb (e:=qci) qc6 q5 qco q5
theorem qcr (x:(Zu×Zm×ZI×(List Zm)×(Nat→Nat)×t1k)):PE.step X qc9 q8d qc5 qcp 12 x=Wb x.1 x.2.1 x.2.2.1 x.2.2.2.1 x.2.2.2.2.1 x.2.2.2.2.2:=by kernel_rfl
theorem qcs:Zba X qc9 W0:=ZhM (Zhh xok qcb qc6 qcq 12) fun x _ h=>((qcr x).trans (X4c x).symm).trans h
def qct {R:Type}:Prs S R:=PE.ps X qc9 (fun x q=>(W0 x).bind q) qc5
theorem qcu {R:Type}:Z82 X (qct (R:=R)):=ZhD (e:=qc9) qcs qc6
def qcv:StT S:=⟨(N (N (N L vT L) vw L) (some (.ptr 1 0)) (N L vT L)),(N (N L o4 L) os L),2⟩
def qcw:Way S:=⟨.ret,⟨(N L (some (.tup [(.agg [(.arr (.st 5) 4 (fun _=>tdf T (.st 5)))]),(.bool false)])) L),(N (N L o4 L) os L),2⟩,[(.arr (.st 5)),.bool,(.st 20),(.lst (.st 21)),.en,(.mp (.st 23) (.int .i64))]⟩
def qcx:PE S:=⟨58,4,qcv,[.int,(.st 2),.int,(.st 20),(.lst (.st 21)),.en,(.mp (.st 23) (.int .i64))],[qcw]⟩
def qcC:Key:=⟨[58],58,none,[0,0,1,0,0,1],0,12⟩
def qcD:StT S:=⟨(N (N (N (N L none (N L vT L)) vT L) none (N L (some (.ptr 2 0)) L)) (some (.ptr 1 0)) (N (N (N L (some (.ptr 3 0)) (N L vT L)) none L) vT (N L none (N (N L vQ L) none L)))),o1w,12⟩
def qcE:Way S:=⟨(.exit 0),⟨(N (N (N L vT L) none (N L (some (.ptr 2 0)) L)) (some (.ptr 1 0)) (N v1x vT L)),o1w,13⟩,[.int,.int,(.arr (.st 5)),(.st 20),(.lst (.st 21)),.en,(.mp (.st 23) (.int .i64)),(.st 2)]⟩
def qcF:LE S:=⟨qcC,qcD,[.int,.int,.int,.int,(.lst (.st 18)),(.arr (.st 5)),(.st 20),(.lst (.st 21)),.en,(.mp (.st 23) (.int .i64)),(.st 2)],[qcE]⟩
def qcG (x:tf):(Nat→ZE)→tq:=fun y0=>(x.2.1,x.2.2.2.1,y0,x.2.2.2.2.2.2.1,x.2.2.2.2.2.2.2.1,x.2.2.2.2.2.2.2.2.1,x.2.2.2.2.2.2.2.2.2.1,x.2.2.2.2.2.2.2.2.2.2)
def qcH {R:Type} (x:tf) (k:tq→Option R):Option R:=(X1Y x.1 x.2.1 x.2.2.2.1 x.2.2.2.2.1 x.2.2.2.2.2.2.1 x.2.2.2.2.2.2.2.1 x.2.2.2.2.2.2.2.2.1 x.2.2.2.2.2.2.2.2.2.1 x.2.2.2.2.2.2.2.2.2.2 (x.2.2.1,x.2.2.2.2.2.1)).bind (fun y0=>k (x.2.1,x.2.2.2.1,y0,x.2.2.2.2.2.2.1,x.2.2.2.2.2.2.2.1,x.2.2.2.2.2.2.2.2.1,x.2.2.2.2.2.2.2.2.2.1,x.2.2.2.2.2.2.2.2.2.2))
def qcI (x:tf) (v:(Int×(Nat→ZE))):tf:=(x.1,x.2.1,v.1,x.2.2.2.1,x.2.2.2.2.1,v.2,x.2.2.2.2.2.2.1,x.2.2.2.2.2.2.2.1,x.2.2.2.2.2.2.2.2.1,x.2.2.2.2.2.2.2.2.2.1,x.2.2.2.2.2.2.2.2.2.2)
theorem qcJ (x:tf):LE.step X qcF qbD qbJ q4 12 x=Xy x.1 x.2.1 x.2.2.2.1 x.2.2.2.2.1 x.2.2.2.2.2.2.1 x.2.2.2.2.2.2.2.1 x.2.2.2.2.2.2.2.2.1 x.2.2.2.2.2.2.2.2.2.1 x.2.2.2.2.2.2.2.2.2.2 x.2.2.1 x.2.2.2.2.2.1 (fun w0 w1=>(Sum.inl (x.1,x.2.1,w0,x.2.2.2.1,x.2.2.2.2.1,w1,x.2.2.2.2.2.2.1,x.2.2.2.2.2.2.2.1,x.2.2.2.2.2.2.2.2.1,x.2.2.2.2.2.2.2.2.2.1,x.2.2.2.2.2.2.2.2.2.2))) (fun p0=>(Sum.inr (x.2.1,x.2.2.2.1,p0,x.2.2.2.2.2.2.1,x.2.2.2.2.2.2.2.1,x.2.2.2.2.2.2.2.2.1,x.2.2.2.2.2.2.2.2.2.1,x.2.2.2.2.2.2.2.2.2.2))):=by kernel_rfl
theorem qcL {R:Type} (x:tf) (k:tq→Option R) (r:R) (h:qcH x k=some r):∃ o,Z5z (LE.step X qcF qbD qbJ q4 12) x o∧k o=some r:=by
 obtain ⟨o,h1,h2⟩:=Z0 h
 exact ⟨qcG x o,ZhG (st:=fun (x:tf)=>Xq x.1 x.2.1 x.2.2.2.1 x.2.2.2.2.1 x.2.2.2.2.2.2.1 x.2.2.2.2.2.2.2.1 x.2.2.2.2.2.2.2.2.1 x.2.2.2.2.2.2.2.2.2.1 x.2.2.2.2.2.2.2.2.2.2) (prj:=fun x=>(x.2.2.1,x.2.2.2.2.2.1)) (emb:=qcI) (embO:=qcG) (fun x=>(qcJ x).trans (by unfold Xq Xy;simp only [Zhy,Zht,Zhz,Option.map_some,Option.map_none];rfl)) (fun _ _=>rfl) (fun _ _=>rfl) (fun _ _ _=>rfl) (fun _ _ _=>rfl) (fun _=>rfl) (Z1W.1 h1),by first|exact h2|(rcases o with o<;>exact h2)⟩
def qcM {R:Type}:Z2x S R:=LE.ls X qcF qcH q4
theorem qcN {R:Type}:Z3Q X (qcM (R:=R)):=ZhL xok qbE (e:=qcF) qbK q5 qcL q5
def qcO:Key:=⟨[58],58,none,[0,0,1,0,1,1,0,1],2,19⟩
def qcP:StT S:=⟨(N (N (N v1z vT L) none (N L (some (.ptr 2 0)) (N (N (N L vR L) none L) none L))) (some (.ptr 1 0)) (N v1x vT (N L none v1A))),o1w,19⟩
def qcQ:Way S:=⟨.ret,⟨v1g,(N (N (N L oa (N (N (N L (some (.cells 159 [.nilp])) L) none L) none L)) o4 o1f) os (N L oo (N L none (N (N L og L) none L)))),102⟩,[.bool,(.arr (.st 5)),(.st 20),(.lst (.st 21)),.en,(.st 5),(.mp (.st 23) (.int .i64)),(.st 2),(.st 21)]⟩
def qcR:Way S:=⟨.ret,⟨v1g,(N (N (N L oa (N (N (N L (some (.cells 159 [(.ptr 1 0)])) L) none L) none L)) o4 o1f) os (N L oo (N L none (N (N L og L) none L)))),102⟩,[.bool,(.arr (.st 5)),(.st 20),(.lst (.st 21)),.en,(.st 5),(.mp (.st 23) (.int .i64)),(.st 2),(.st 21)]⟩
def qcS:Way S:=⟨(.exit 2),⟨(N L none (N v1x none L)),o1w,20⟩,[(.arr (.st 5)),(.st 20),(.lst (.st 21)),.en,(.mp (.st 23) (.int .i64)),(.st 2)]⟩
def qcT:LE S:=⟨qcO,qcP,[.int,.int,(.lst (.st 21)),.int,.int,(.arr (.st 5)),(.st 20),(.lst (.st 21)),.en,(.mp (.st 23) (.int .i64)),(.st 2)],[qcQ,qcR,qcS]⟩
def qcU (x:th):((Bool×(Nat→ZE)×ZI×(List Zm)×(Nat→Nat)×ZE×t1k×Zm)⊕(Bool×(Nat→ZE)×ZI×(List Zm)×(Nat→Nat)×ZE×t1k×Zm)⊕((Nat→ZE)×ZI×(List Zm)×(Nat→Nat)×t1k))→t1:=Sum.elim (fun y0=>(.inl (y0.1,y0.2.1,y0.2.2.1,y0.2.2.2.1,y0.2.2.2.2.1,y0.2.2.2.2.2.1,y0.2.2.2.2.2.2.1,x.2.2.2.2.2.2.2.2.2.2,y0.2.2.2.2.2.2.2))) (Sum.elim (fun y1=>(.inr (.inl (y1.1,y1.2.1,y1.2.2.1,y1.2.2.2.1,y1.2.2.2.2.1,y1.2.2.2.2.2.1,y1.2.2.2.2.2.2.1,x.2.2.2.2.2.2.2.2.2.2,y1.2.2.2.2.2.2.2)))) (fun y2=>(.inr (.inr (y2.1,y2.2.1,y2.2.2.1,y2.2.2.2.1,y2.2.2.2.2,x.2.2.2.2.2.2.2.2.2.2)))))
def qcV {R:Type} (x:th) (k:t1→Option R):Option R:=(X1Z x.2.1 x.2.2.1 x.2.2.2.1 x.2.2.2.2.1 x.2.2.2.2.2.2.2.2.2.2 (x.1,x.2.2.2.2.2.1,x.2.2.2.2.2.2.1,x.2.2.2.2.2.2.2.1,x.2.2.2.2.2.2.2.2.1,x.2.2.2.2.2.2.2.2.2.1)).bind (Sum.elim (fun y0=>k (.inl (y0.1,y0.2.1,y0.2.2.1,y0.2.2.2.1,y0.2.2.2.2.1,y0.2.2.2.2.2.1,y0.2.2.2.2.2.2.1,x.2.2.2.2.2.2.2.2.2.2,y0.2.2.2.2.2.2.2))) (Sum.elim (fun y1=>k (.inr (.inl (y1.1,y1.2.1,y1.2.2.1,y1.2.2.2.1,y1.2.2.2.2.1,y1.2.2.2.2.2.1,y1.2.2.2.2.2.2.1,x.2.2.2.2.2.2.2.2.2.2,y1.2.2.2.2.2.2.2)))) (fun y2=>k (.inr (.inr (y2.1,y2.2.1,y2.2.2.1,y2.2.2.2.1,y2.2.2.2.2,x.2.2.2.2.2.2.2.2.2.2))))))
def qcW (x:th) (v:(Int×(Nat→ZE)×ZI×(List Zm)×(Nat→Nat)×t1k)):th:=(v.1,x.2.1,x.2.2.1,x.2.2.2.1,x.2.2.2.2.1,v.2.1,v.2.2.1,v.2.2.2.1,v.2.2.2.2.1,v.2.2.2.2.2,x.2.2.2.2.2.2.2.2.2.2)
theorem qcX (x:th):LE.step X qcT qbD qct qcM 12 x=Xz x.2.1 x.2.2.1 x.2.2.2.1 x.2.2.2.2.1 x.2.2.2.2.2.2.2.2.2.2 x.1 x.2.2.2.2.2.1 x.2.2.2.2.2.2.1 x.2.2.2.2.2.2.2.1 x.2.2.2.2.2.2.2.2.1 x.2.2.2.2.2.2.2.2.2.1 (fun w0 w1 w2 w3 w4 w5=>(Sum.inl (w0,x.2.1,x.2.2.1,x.2.2.2.1,x.2.2.2.2.1,w1,w2,w3,w4,w5,x.2.2.2.2.2.2.2.2.2.2))) (fun p0 p1 p2 p3 p4 p5 p6 p7=>(Sum.inr (.inl (p0,p1,p2,p3,p4,p5,p6,x.2.2.2.2.2.2.2.2.2.2,p7)))) (fun p0 p1 p2 p3 p4 p5 p6 p7=>(Sum.inr (.inr (.inl (p0,p1,p2,p3,p4,p5,p6,x.2.2.2.2.2.2.2.2.2.2,p7))))) (fun p0 p1 p2 p3 p4=>(Sum.inr (.inr (.inr (p0,p1,p2,p3,p4,x.2.2.2.2.2.2.2.2.2.2))))):=by kernel_rfl
theorem qcZ {R:Type} (x:th) (k:t1→Option R) (r:R) (h:qcV x k=some r):∃ o,Z5z (LE.step X qcT qbD qct qcM 12) x o∧k o=some r:=by
 obtain ⟨o,h1,h2⟩:=Z0 h
 exact ⟨qcU x o,ZhG (st:=fun (x:th)=>Xr x.2.1 x.2.2.1 x.2.2.2.1 x.2.2.2.2.1 x.2.2.2.2.2.2.2.2.2.2) (prj:=fun x=>(x.1,x.2.2.2.2.2.1,x.2.2.2.2.2.2.1,x.2.2.2.2.2.2.2.1,x.2.2.2.2.2.2.2.2.1,x.2.2.2.2.2.2.2.2.2.1)) (emb:=qcW) (embO:=qcU) (fun x=>(qcX x).trans (by unfold Xr Xz;simp only [Zhy,Zht,Zhz,Option.map_some,Option.map_none];rfl)) (fun _ _=>rfl) (fun _ _=>rfl) (fun _ _ _=>rfl) (fun _ _ _=>rfl) (fun _=>rfl) (Z1W.1 h1),by first|exact h2|(rcases o with o|o|o<;>exact h2)⟩
def qd0 {R:Type}:Z2x S R:=LE.ls X qcT qcV qcM
theorem qd1 {R:Type}:Z3Q X (qd0 (R:=R)):=ZhL xok qbE (e:=qcT) qcu qcN qcZ qcN
theorem qd2 (x:(Int×Zu×Int×ZI×(List Zm)×(Nat→Nat)×t1k)):PE.step X qcx qbD qct qd0 12 x=WB x.1 x.2.1 x.2.2.1 x.2.2.2.1 x.2.2.2.2.1 x.2.2.2.2.2.1 x.2.2.2.2.2.2:=by kernel_rfl
theorem qd3:Zba X qcx Wy:=ZhM (Zhh xok qbE qcu qd1 12) fun x _ h=>((qd2 x).trans (X4o x).symm).trans h
def qd4 {R:Type}:Prs S R:=PE.ps X qcx (fun x q=>(Wy x).bind q) qct
theorem qd5 {R:Type}:Z82 X (qd4 (R:=R)):=ZhD (e:=qcx) qd3 qcu
def qd6:StT S:=⟨(N L (some (.ptr 1 0)) L),(N (N L o4 L) os L),2⟩
def qd7:Way S:=⟨.ret,⟨(N L (some (.rs 2 0)) L),(N (N L o4 L) os (N L oH L)),3⟩,[(.st 20),(.lst (.st 21)),.en,(.mp (.st 23) (.int .i64)),(.lst (.st 2))]⟩
def qd8:PE S:=⟨36,1,qd6,[(.st 20),(.lst (.st 21)),.en,(.mp (.st 23) (.int .i64))],[qd7]⟩
def qdd:Key:=⟨[108,0,36],108,none,[0,0,1,0,0,1,0,0,1],2,34⟩
def qde:StT S:=⟨(N (N (N L vT L) (some (.ptr 6 0)) L) (some (.yld 11)) (N (N L vT L) none L)),o16,35⟩
def qdf:Way S:=⟨(.exit 2),⟨v1q,o16,42⟩,[.int,(.st 20),(.lst (.st 21)),.en,(.mp (.st 23) (.int .i64)),(.lst (.st 2))]⟩
def qdg:LE S:=⟨qdd,qde,[.int,.int,(.st 20),(.lst (.st 21)),.en,(.mp (.st 23) (.int .i64)),(.lst (.st 2))],[qdf]⟩
def qdh (x:tu):(ZI×(List Zm)×(Nat→Nat)×t1k×(List Zu))→tA:=fun y0=>(x.1,y0.1,y0.2.1,y0.2.2.1,y0.2.2.2.1,y0.2.2.2.2)
def qdi {R:Type} (x:tu) (k:tA→Option R):Option R:=(X2p x.1 (x.2.1,x.2.2.1,x.2.2.2.1,x.2.2.2.2.1,x.2.2.2.2.2.1,x.2.2.2.2.2.2)).bind (fun y0=>k (x.1,y0.1,y0.2.1,y0.2.2.1,y0.2.2.2.1,y0.2.2.2.2))
def qdj (x:tu) (v:tA):tu:=(x.1,v.1,v.2.1,v.2.2.1,v.2.2.2.1,v.2.2.2.2.1,v.2.2.2.2.2)
theorem qdk (x:tu):LE.step X qdg qbD qd4 q4 12 x=WS x.1 x.2.1 x.2.2.1 x.2.2.2.1 x.2.2.2.2.1 x.2.2.2.2.2.1 x.2.2.2.2.2.2 (fun w0 w1 w2 w3 w4 w5=>(Sum.inl (x.1,w0,w1,w2,w3,w4,w5))) (fun p0 p1 p2 p3 p4=>(Sum.inr (x.1,p0,p1,p2,p3,p4))):=by kernel_rfl
theorem qdm {R:Type} (x:tu) (k:tA→Option R) (r:R) (h:qdi x k=some r):∃ o,Z5z (LE.step X qdg qbD qd4 q4 12) x o∧k o=some r:=by
 obtain ⟨o,h1,h2⟩:=Z0 h
 exact ⟨qdh x o,ZhG (st:=fun (x:tu)=>X1o x.1) (prj:=fun x=>(x.2.1,x.2.2.1,x.2.2.2.1,x.2.2.2.2.1,x.2.2.2.2.2.1,x.2.2.2.2.2.2)) (emb:=qdj) (embO:=qdh) (fun x=>(qdk x).trans (by unfold X1o WS;simp only [Zhy,Zht,Zhz,Option.map_some,Option.map_none];rfl)) (fun _ _=>rfl) (fun _ _=>rfl) (fun _ _ _=>rfl) (fun _ _ _=>rfl) (fun _=>rfl) (Z1W.1 h1),by first|exact h2|(rcases o with o<;>exact h2)⟩
def qdn {R:Type}:Z2x S R:=LE.ls X qdg qdi q4
theorem qdo {R:Type}:Z3Q X (qdn (R:=R)):=ZhL xok qbE (e:=qdg) qd5 q5 qdm q5
def qdp:Key:=⟨[108,0,36],108,none,[0,0,1],0,19⟩
def qdq:StT S:=⟨v1q,o1d,20⟩
def qdr:Way S:=⟨(.exit 0),⟨L,o1d,27⟩,[(.lst (.st 2)),(.st 20),(.lst (.st 21)),.en,(.mp (.st 23) (.int .i64))]⟩
def qds:LE S:=⟨qdp,qdq,[.int,(.lst (.st 2)),(.st 20),(.lst (.st 21)),.en,(.mp (.st 23) (.int .i64))],[qdr]⟩
def qdt (x:tB):tD→tD:=fun y0=>(y0.1,y0.2.1,y0.2.2.1,y0.2.2.2.1,y0.2.2.2.2)
def qdu {R:Type} (x:tB) (k:tD→Option R):Option R:=(X2o (x.1,x.2.1,x.2.2.1,x.2.2.2.1,x.2.2.2.2.1,x.2.2.2.2.2)).bind (fun y0=>k (y0.1,y0.2.1,y0.2.2.1,y0.2.2.2.1,y0.2.2.2.2))
def qdv (x:tB) (v:tB):tB:=(v.1,v.2.1,v.2.2.1,v.2.2.2.1,v.2.2.2.2.1,v.2.2.2.2.2)
theorem qdw (x:tB):LE.step X qds qbD qd4 qdn 12 x=WR x.1 x.2.1 x.2.2.1 x.2.2.2.1 x.2.2.2.2.1 x.2.2.2.2.2 (fun w0 w1 w2 w3 w4 w5=>(Sum.inl (w0,w1,w2,w3,w4,w5))) (fun p0 p1 p2 p3 p4=>(Sum.inr (p0,p1,p2,p3,p4))):=by kernel_rfl
theorem qdy {R:Type} (x:tB) (k:tD→Option R) (r:R) (h:qdu x k=some r):∃ o,Z5z (LE.step X qds qbD qd4 qdn 12) x o∧k o=some r:=by
 obtain ⟨o,h1,h2⟩:=Z0 h
 exact ⟨qdt x o,ZhG (st:=fun (x:tB)=>X1n) (prj:=fun x=>(x.1,x.2.1,x.2.2.1,x.2.2.2.1,x.2.2.2.2.1,x.2.2.2.2.2)) (emb:=qdv) (embO:=qdt) (fun x=>(qdw x).trans (by unfold X1n WR;simp only [Zhy,Zht,Zhz,Option.map_some,Option.map_none];rfl)) (fun _ _=>rfl) (fun _ _=>rfl) (fun _ _ _=>rfl) (fun _ _ _=>rfl) (fun _=>rfl) (Z1W.1 h1),by first|exact h2|(rcases o with o<;>exact h2)⟩
def qdz {R:Type}:Z2x S R:=LE.ls X qds qdu qdn
theorem qdA {R:Type}:Z3Q X (qdz (R:=R)):=ZhL xok qbE (e:=qds) qd5 qdo qdy qdo
theorem qdB (x:tP):PE.step X qd8 qbD qd4 qdz 12 x=Wm x.1 x.2.1 x.2.2.1 x.2.2.2:=by kernel_rfl
theorem qdC:Zba X qd8 X2K:=ZhM (Zhh xok qbE qd5 qdA 12) fun x _ h=>((qdB x).trans (X5p x).symm).trans h
def qdD {R:Type}:Prs S R:=PE.ps X qd8 (fun x q=>(X2K x).bind q) qd4
theorem qdE {R:Type}:Z82 X (qdD (R:=R)):=ZhD (e:=qd8) qdC qd5
def qdF:StT S:=⟨(N (N (N L vT L) vw L) (some .nilp) (N L vT L)),L,0⟩
def qdG:PE S:=⟨58,4,qdF,[.int,(.st 2),.int],[]⟩
theorem qdL (x:(Int×Zu×Int)):PE.step X qdG qbD qdD q4 12 x=X1I x.1 x.2.1 x.2.2:=by kernel_rfl
theorem qdM:Zba X qdG X47:=ZhM (Zhh xok qbE qdE q5 12) fun x _ h=>((qdL x).trans (X6E x).symm).trans h
def qdN {R:Type}:Prs S R:=PE.ps X qdG (fun x q=>(X47 x).bind q) qdD
theorem qdO {R:Type}:Z82 X (qdN (R:=R)):=ZhD (e:=qdG) qdM qdE
def qdQ:PE S:=⟨44,1,qbB,[],[]⟩
theorem qdS:Z9y X q2:=trivial
theorem qdV (x:Unit):PE.step X qdQ q2 qdN q4 12 x=Wn:=by kernel_rfl
theorem qdW:Zba X qdQ X1J:=ZhM (Zhh xok qdS qdO q5 12) fun x _ h=>((qdV x).trans (X5q x).symm).trans h
def qdX {R:Type}:Prs S R:=PE.ps X qdQ (fun x q=>(X1J x).bind q) qdN
theorem qdY {R:Type}:Z82 X (qdX (R:=R)):=ZhD (e:=qdQ) qdW qdO
def qe1:PE S:=⟨44,1,qd6,[(.st 20),(.lst (.st 21)),.en,(.mp (.st 23) (.int .i64))],[qaE]⟩
def qe6:Key:=⟨[44],44,none,[0,0,1,0,1],0,9⟩
def qe7:StT S:=⟨(N v1F (some (.ptr 1 0)) (N (N L none (N L vT L)) vT (N (N L vR L) none L))),(N (N L o4 L) os L),9⟩
def qe8:Way S:=⟨(.exit 0),⟨(N L none (N L vT L)),(N (N L o4 L) os L),10⟩,[.int,(.st 20),(.lst (.st 21)),.en,(.mp (.st 23) (.int .i64))]⟩
def qe9:LE S:=⟨qe6,qe7,[.int,.int,.int,(.lst (.st 21)),(.st 20),(.lst (.st 21)),.en,(.mp (.st 23) (.int .i64))],[qe8]⟩
def qea (x:tr):Int→tI:=fun y0=>(y0,x.2.2.2.2.1,x.2.2.2.2.2.1,x.2.2.2.2.2.2.1,x.2.2.2.2.2.2.2)
def qeb {R:Type} (x:tr) (k:tI→Option R):Option R:=(X16 x.1 x.2.2.2.1 x.2.2.2.2.1 x.2.2.2.2.2.2.1 (x.2.1,x.2.2.1)).bind (fun y0=>k (y0,x.2.2.2.2.1,x.2.2.2.2.2.1,x.2.2.2.2.2.2.1,x.2.2.2.2.2.2.2))
def qec (x:tr) (v:(Int×Int)):tr:=(x.1,v.1,v.2,x.2.2.2.1,x.2.2.2.2.1,x.2.2.2.2.2.1,x.2.2.2.2.2.2.1,x.2.2.2.2.2.2.2)
theorem qed (x:tr):LE.step X qe9 q2 qdX q4 12 x=Xh x.1 x.2.2.2.1 x.2.2.2.2.1 x.2.2.2.2.2.2.1 x.2.1 x.2.2.1 (fun w0 w1=>(Sum.inl (x.1,w0,w1,x.2.2.2.1,x.2.2.2.2.1,x.2.2.2.2.2.1,x.2.2.2.2.2.2.1,x.2.2.2.2.2.2.2))) (fun p0=>(Sum.inr (p0,x.2.2.2.2.1,x.2.2.2.2.2.1,x.2.2.2.2.2.2.1,x.2.2.2.2.2.2.2))):=by kernel_rfl
theorem qef {R:Type} (x:tr) (k:tI→Option R) (r:R) (h:qeb x k=some r):∃ o,Z5z (LE.step X qe9 q2 qdX q4 12) x o∧k o=some r:=by
 obtain ⟨o,h1,h2⟩:=Z0 h
 exact ⟨qea x o,ZhG (st:=fun (x:tr)=>Xb x.1 x.2.2.2.1 x.2.2.2.2.1 x.2.2.2.2.2.2.1) (prj:=fun x=>(x.2.1,x.2.2.1)) (emb:=qec) (embO:=qea) (fun x=>(qed x).trans (by unfold Xb Xh;simp only [Zhy,Zht,Zhz,Option.map_some,Option.map_none];rfl)) (fun _ _=>rfl) (fun _ _=>rfl) (fun _ _ _=>rfl) (fun _ _ _=>rfl) (fun _=>rfl) (Z1W.1 h1),by first|exact h2|(rcases o with o<;>exact h2)⟩
def qeg {R:Type}:Z2x S R:=LE.ls X qe9 qeb q4
theorem qeh {R:Type}:Z3Q X (qeg (R:=R)):=ZhL xok qdS (e:=qe9) qdY q5 qef q5
theorem qei (x:tP):PE.step X qe1 q2 qdX qeg 12 x=XB x.1 x.2.1 x.2.2.1 x.2.2.2:=by kernel_rfl
theorem qej:Zba X qe1 WC:=ZhM (Zhh xok qdS qdY qeh 12) fun x _ h=>((qei x).trans (X3o x).symm).trans h
def qek {R:Type}:Prs S R:=PE.ps X qe1 (fun x q=>(WC x).bind q) qdX
theorem qel {R:Type}:Z82 X (qek (R:=R)):=ZhD (e:=qe1) qej qdY
def qeo:PE S:=⟨46,2,qas,[.int,(.st 20),(.lst (.st 21)),.en,(.mp (.st 23) (.int .i64))],[qat]⟩
def qet:Key:=⟨[108,0,46],108,none,[0,0,1,0,0,1,0,0,1],2,44⟩
def qeu:StT S:=⟨(N (N (N L vT L) (some (.ptr 18 0)) L) (some (.yld 22)) (N (N L vT L) none L)),o1a,44⟩
def qev:Way S:=⟨.ret,⟨L,oV,94⟩,[.int,(.st 20),(.lst (.st 21)),.en,(.arr (.st 5)),(.st 2),(.mp (.st 23) (.int .i64)),.bool,.int,.int]⟩
def qew:Way S:=⟨(.exit 2),⟨v1p,o1a,51⟩,[.int,.int,(.st 20),(.lst (.st 21)),.en,(.mp (.st 23) (.int .i64)),.bool,.int,.int]⟩
def qex:LE S:=⟨qet,qeu,[.int,.int,.int,(.st 20),(.lst (.st 21)),.en,(.mp (.st 23) (.int .i64)),.bool,.int,.int],[qev,qew]⟩
def qey (x:tp):((ZI×(List Zm)×(Nat→Nat)×(Nat→ZE)×Zu×t1k×Bool)⊕tP)→t5:=Sum.elim (fun y0=>(.inl (x.2.2.1,y0.1,y0.2.1,y0.2.2.1,y0.2.2.2.1,y0.2.2.2.2.1,y0.2.2.2.2.2.1,y0.2.2.2.2.2.2,x.2.2.2.2.2.2.2.2.1,x.2.2.2.2.2.2.2.2.2))) (fun y1=>(.inr (x.1,x.2.2.1,y1.1,y1.2.1,y1.2.2.1,y1.2.2.2,x.2.2.2.2.2.2.2.1,x.2.2.2.2.2.2.2.2.1,x.2.2.2.2.2.2.2.2.2)))
def qez {R:Type} (x:tp) (k:t5→Option R):Option R:=(XH x.1 x.2.2.1 x.2.2.2.2.2.2.2.2.2 (x.2.1,x.2.2.2.1,x.2.2.2.2.1,x.2.2.2.2.2.1,x.2.2.2.2.2.2.1)).bind (Sum.elim (fun y0=>k (.inl (x.2.2.1,y0.1,y0.2.1,y0.2.2.1,y0.2.2.2.1,y0.2.2.2.2.1,y0.2.2.2.2.2.1,y0.2.2.2.2.2.2,x.2.2.2.2.2.2.2.2.1,x.2.2.2.2.2.2.2.2.2))) (fun y1=>k (.inr (x.1,x.2.2.1,y1.1,y1.2.1,y1.2.2.1,y1.2.2.2,x.2.2.2.2.2.2.2.1,x.2.2.2.2.2.2.2.2.1,x.2.2.2.2.2.2.2.2.2))))
def qeA (x:tp) (v:tI):tp:=(x.1,v.1,x.2.2.1,v.2.1,v.2.2.1,v.2.2.2.1,v.2.2.2.2,x.2.2.2.2.2.2.2.1,x.2.2.2.2.2.2.2.2.1,x.2.2.2.2.2.2.2.2.2)
theorem qeB (x:tp):LE.step X qex qbD qek q4 12 x=Xe x.1 x.2.2.1 x.2.2.2.2.2.2.2.2.2 x.2.1 x.2.2.2.1 x.2.2.2.2.1 x.2.2.2.2.2.1 x.2.2.2.2.2.2.1 (fun w0 w1 w2 w3 w4=>(Sum.inl (x.1,w0,x.2.2.1,w1,w2,w3,w4,x.2.2.2.2.2.2.2.1,x.2.2.2.2.2.2.2.2.1,x.2.2.2.2.2.2.2.2.2))) (fun p0 p1 p2 p3 p4 p5 p6=>(Sum.inr (.inl (x.2.2.1,p0,p1,p2,p3,p4,p5,p6,x.2.2.2.2.2.2.2.2.1,x.2.2.2.2.2.2.2.2.2)))) (fun p0 p1 p2 p3=>(Sum.inr (.inr (x.1,x.2.2.1,p0,p1,p2,p3,x.2.2.2.2.2.2.2.1,x.2.2.2.2.2.2.2.2.1,x.2.2.2.2.2.2.2.2.2)))):=by kernel_rfl
theorem qeD {R:Type} (x:tp) (k:t5→Option R) (r:R) (h:qez x k=some r):∃ o,Z5z (LE.step X qex qbD qek q4 12) x o∧k o=some r:=by
 obtain ⟨o,h1,h2⟩:=Z0 h
 exact ⟨qey x o,ZhG (st:=fun (x:tp)=>X8 x.1 x.2.2.1 x.2.2.2.2.2.2.2.2.2) (prj:=fun x=>(x.2.1,x.2.2.2.1,x.2.2.2.2.1,x.2.2.2.2.2.1,x.2.2.2.2.2.2.1)) (emb:=qeA) (embO:=qey) (fun x=>(qeB x).trans (by unfold X8 Xe;simp only [Zhy,Zht,Zhz,Option.map_some,Option.map_none];rfl)) (fun _ _=>rfl) (fun _ _=>rfl) (fun _ _ _=>rfl) (fun _ _ _=>rfl) (fun _=>rfl) (Z1W.1 h1),by first|exact h2|(rcases o with o|o<;>exact h2)⟩
def qeE {R:Type}:Z2x S R:=LE.ls X qex qez q4
theorem qeF {R:Type}:Z3Q X (qeE (R:=R)):=ZhL xok qbE (e:=qex) qel q5 qeD q5
def qeG:Key:=⟨[108,0,46],108,none,[0,0,1],0,30⟩
def qeH:StT S:=⟨v1p,o1a,30⟩
def qeJ:Way S:=⟨(.exit 0),⟨L,o1a,37⟩,[.int,(.st 20),(.lst (.st 21)),.en,(.mp (.st 23) (.int .i64)),.bool,.int,.int]⟩
def qeK:LE S:=⟨qeG,qeH,[.int,.int,(.st 20),(.lst (.st 21)),.en,(.mp (.st 23) (.int .i64)),.bool,.int,.int],[qev,qeJ]⟩
def qeL (x:ts):((ZI×(List Zm)×(Nat→Nat)×(Nat→ZE)×Zu×t1k×Bool)⊕tP)→t7:=Sum.elim (fun y0=>(.inl (x.2.1,y0.1,y0.2.1,y0.2.2.1,y0.2.2.2.1,y0.2.2.2.2.1,y0.2.2.2.2.2.1,y0.2.2.2.2.2.2,x.2.2.2.2.2.2.2.1,x.2.2.2.2.2.2.2.2))) (fun y1=>(.inr (x.2.1,y1.1,y1.2.1,y1.2.2.1,y1.2.2.2,x.2.2.2.2.2.2.1,x.2.2.2.2.2.2.2.1,x.2.2.2.2.2.2.2.2)))
def qeM {R:Type} (x:ts) (k:t7→Option R):Option R:=(WT x.2.1 x.2.2.2.2.2.2.2.2 (x.1,x.2.2.1,x.2.2.2.1,x.2.2.2.2.1,x.2.2.2.2.2.1)).bind (Sum.elim (fun y0=>k (.inl (x.2.1,y0.1,y0.2.1,y0.2.2.1,y0.2.2.2.1,y0.2.2.2.2.1,y0.2.2.2.2.2.1,y0.2.2.2.2.2.2,x.2.2.2.2.2.2.2.1,x.2.2.2.2.2.2.2.2))) (fun y1=>k (.inr (x.2.1,y1.1,y1.2.1,y1.2.2.1,y1.2.2.2,x.2.2.2.2.2.2.1,x.2.2.2.2.2.2.2.1,x.2.2.2.2.2.2.2.2))))
def qeN (x:ts) (v:tI):ts:=(v.1,x.2.1,v.2.1,v.2.2.1,v.2.2.2.1,v.2.2.2.2,x.2.2.2.2.2.2.1,x.2.2.2.2.2.2.2.1,x.2.2.2.2.2.2.2.2)
theorem qeO (x:ts):LE.step X qeK qbD qek qeE 12 x=Xd x.2.1 x.2.2.2.2.2.2.2.2 x.1 x.2.2.1 x.2.2.2.1 x.2.2.2.2.1 x.2.2.2.2.2.1 (fun w0 w1 w2 w3 w4=>(Sum.inl (w0,x.2.1,w1,w2,w3,w4,x.2.2.2.2.2.2.1,x.2.2.2.2.2.2.2.1,x.2.2.2.2.2.2.2.2))) (fun p0 p1 p2 p3 p4 p5 p6=>(Sum.inr (.inl (x.2.1,p0,p1,p2,p3,p4,p5,p6,x.2.2.2.2.2.2.2.1,x.2.2.2.2.2.2.2.2)))) (fun p0 p1 p2 p3=>(Sum.inr (.inr (x.2.1,p0,p1,p2,p3,x.2.2.2.2.2.2.1,x.2.2.2.2.2.2.2.1,x.2.2.2.2.2.2.2.2)))):=by kernel_rfl
theorem qeQ {R:Type} (x:ts) (k:t7→Option R) (r:R) (h:qeM x k=some r):∃ o,Z5z (LE.step X qeK qbD qek qeE 12) x o∧k o=some r:=by
 obtain ⟨o,h1,h2⟩:=Z0 h
 exact ⟨qeL x o,ZhG (st:=fun (x:ts)=>X7 x.2.1 x.2.2.2.2.2.2.2.2) (prj:=fun x=>(x.1,x.2.2.1,x.2.2.2.1,x.2.2.2.2.1,x.2.2.2.2.2.1)) (emb:=qeN) (embO:=qeL) (fun x=>(qeO x).trans (by unfold X7 Xd;simp only [Zhy,Zht,Zhz,Option.map_some,Option.map_none];rfl)) (fun _ _=>rfl) (fun _ _=>rfl) (fun _ _ _=>rfl) (fun _ _ _=>rfl) (fun _=>rfl) (Z1W.1 h1),by first|exact h2|(rcases o with o|o<;>exact h2)⟩
def qeR {R:Type}:Z2x S R:=LE.ls X qeK qeM qeE
theorem qeS {R:Type}:Z3Q X (qeR (R:=R)):=ZhL xok qbE (e:=qeK) qel qeF qeQ qeF
theorem qeT (x:tI):PE.step X qeo qbD qek qeR 12 x=Xu x.1 x.2.1 x.2.2.1 x.2.2.2.1 x.2.2.2.2:=by kernel_rfl
theorem qeU:Zba X qeo Wa:=ZhM (Zhh xok qbE qel qeS 12) fun x _ h=>((qeT x).trans (X36 x).symm).trans h
def qeV {R:Type}:Prs S R:=PE.ps X qeo (fun x q=>(Wa x).bind q) qek
theorem qeW {R:Type}:Z82 X (qeV (R:=R)):=ZhD (e:=qeo) qeU qel
def qeX:StT S:=⟨(N (N (N L (some (.ptr 4 0)) L) vT (N L (some (.ptr 0 0)) L)) vT (N (N L (some (.ptr 1 0)) L) vT L)),o1v,5⟩
def qeY:Way S:=⟨.ret,⟨(N L (some (.tup [(.int .i64 0),(.bool false)])) L),o1v,5⟩,[.int,.bool,(.st 20),(.lst (.st 21)),.en,.int,(.mp (.st 23) (.int .i64))]⟩
def qeZ:PE S:=⟨45,6,qeX,[.int,.int,.int,(.st 20),(.lst (.st 21)),.en,.int,(.mp (.st 23) (.int .i64))],[qeY]⟩
abbrev qf2 (ih:tw→Option tC) {R:Type}:Z2x S R:=ZgH
theorem qf3 (ih:tw→Option tC) (hih:Zba X qeZ ih) {R:Type}:Z3Q X (qf2 ih (R:=R)):=Zhd X
def qf4:Key:=⟨[45],45,none,[0,0,1,0,1,1],0,11⟩
def qf5:StT S:=⟨(N (N (N L none (N L vT L)) none (N L (some (.ptr 0 0)) L)) vT (N (N L (some (.ptr 1 0)) L) vT L)),o1v,11⟩
def qf6:Way S:=⟨.ret,⟨(N v1z none (N L none (N (N L vU L) none L))),o1v,39⟩,[.int,.bool,(.st 20),(.lst (.st 21)),.en,.int,(.mp (.st 23) (.int .i64))]⟩
def qf7:Way S:=⟨(.exit 0),⟨L,o1v,15⟩,[(.st 20),(.lst (.st 21)),.en,.int,(.mp (.st 23) (.int .i64))]⟩
def qf8:LE S:=⟨qf4,qf5,[.int,.int,.int,(.st 20),(.lst (.st 21)),.en,.int,(.mp (.st 23) (.int .i64))],[qf6,qf7]⟩
def qf9 (x:tz):tc→tc:=Sum.elim (fun y0=>(.inl (y0.1,y0.2.1,y0.2.2.1,y0.2.2.2.1,y0.2.2.2.2.1,y0.2.2.2.2.2.1,y0.2.2.2.2.2.2))) (fun y1=>(.inr (y1.1,y1.2.1,y1.2.2.1,y1.2.2.2.1,y1.2.2.2.2)))
def qfa (ih:tw→Option tC) {R:Type} (x:tz) (k:tc→Option R):Option R:=(X3G ih x.2.1 x.2.2.1 (x.1,x.2.2.2.1,x.2.2.2.2.1,x.2.2.2.2.2.1,x.2.2.2.2.2.2.1,x.2.2.2.2.2.2.2)).bind (Sum.elim (fun y0=>k (.inl (y0.1,y0.2.1,y0.2.2.1,y0.2.2.2.1,y0.2.2.2.2.1,y0.2.2.2.2.2.1,y0.2.2.2.2.2.2))) (fun y1=>k (.inr (y1.1,y1.2.1,y1.2.2.1,y1.2.2.2.1,y1.2.2.2.2))))
def qfb (x:tz) (v:(Int×ZI×(List Zm)×(Nat→Nat)×Int×t1k)):tz:=(v.1,x.2.1,x.2.2.1,v.2.1,v.2.2.1,v.2.2.2.1,v.2.2.2.2.1,v.2.2.2.2.2)
theorem qfc (ih:tw→Option tC) (x:tz):LE.step X qf8 qbD (PE.ps X qeZ (fun x q=>(ih x).bind q) qeV) (qf2 ih) 12 x=XJ ih x.2.1 x.2.2.1 x.1 x.2.2.2.1 x.2.2.2.2.1 x.2.2.2.2.2.1 x.2.2.2.2.2.2.1 x.2.2.2.2.2.2.2 (fun w0 w1 w2 w3 w4 w5=>(Sum.inl (w0,x.2.1,x.2.2.1,w1,w2,w3,w4,w5))) (fun p0 p1 p2 p3 p4 p5 p6=>(Sum.inr (.inl (p0,p1,p2,p3,p4,p5,p6)))) (fun p0 p1 p2 p3 p4=>(Sum.inr (.inr (p0,p1,p2,p3,p4)))):=by kernel_rfl
theorem qfe (ih:tw→Option tC) {R:Type} (x:tz) (k:tc→Option R) (r:R) (h:qfa ih x k=some r):∃ o,Z5z (LE.step X qf8 qbD (PE.ps X qeZ (fun x q=>(ih x).bind q) qeV) (qf2 ih) 12) x o∧k o=some r:=by
 obtain ⟨o,h1,h2⟩:=Z0 h
 exact ⟨qf9 x o,ZhG (st:=fun (x:tz)=>Xx ih x.2.1 x.2.2.1) (prj:=fun x=>(x.1,x.2.2.2.1,x.2.2.2.2.1,x.2.2.2.2.2.1,x.2.2.2.2.2.2.1,x.2.2.2.2.2.2.2)) (emb:=qfb) (embO:=qf9) (fun x=>(qfc ih x).trans (by unfold Xx XJ;simp only [Zhy,Zht,Zhz,Option.map_some,Option.map_none];rfl)) (fun _ _=>rfl) (fun _ _=>rfl) (fun _ _ _=>rfl) (fun _ _ _=>rfl) (fun _=>rfl) (Z1W.1 h1),by first|exact h2|(rcases o with o|o<;>exact h2)⟩
def qff (ih:tw→Option tC) {R:Type}:Z2x S R:=LE.ls X qf8 (qfa ih) (qf2 ih)
theorem qfg (ih:tw→Option tC) (hih:Zba X qeZ ih) {R:Type}:Z3Q X (qff ih (R:=R)):=ZhL xok qbE (e:=qf8) (ZhD (e:=qeZ) hih qeW) (qf3 ih hih) (qfe ih) (qf3 ih hih)
theorem qfh (ih:tw→Option tC) (x:tz):PE.step X qeZ qbD (PE.ps X qeZ (fun x q=>(ih x).bind q) qeV) (qff ih) 12 x=X1X ih x.1 x.2.1 x.2.2.1 x.2.2.2.1 x.2.2.2.2.1 x.2.2.2.2.2.1 x.2.2.2.2.2.2.1 x.2.2.2.2.2.2.2:=by kernel_rfl
theorem qfi:Zba X qeZ X2n:=ZhE (X:=X) (e:=qeZ) (t:=Xj) fun ih hih=>ZhM (Zhh xok qbE (ZhD (e:=qeZ) hih qeW) (qfg ih hih) 12) fun x _ h=>(qfh ih x).trans h
def qfj {R:Type}:Prs S R:=PE.ps X qeZ (fun x q=>(X2n x).bind q) qeV
theorem qfk {R:Type}:Z82 X (qfj (R:=R)):=ZhD (e:=qeZ) qfi qeW
def qfl:List (Nat×F7 S):=[(29,q99),(57,q7E),(82,q9A),(110,qaq)]
theorem qfm:Z9y X (qfl):=⟨q9a,q7F,q9B,qar,trivial⟩
def qfp:Key:=⟨[15],15,none,[0,0,1,0,1,1,1,1,1,1,1],0,32⟩
def qfq:StT S:=⟨(N (N (N L none (N L vT L)) none (N (N L vT L) (some .nils) (N L vT L))) none (N (N L (some .nils) (N L vU L)) (some (.ptr 0 0)) (N (N L (some (.ptr 26 0)) L) none L))),o15,32⟩
def qfr:Way S:=⟨(.exit 0),⟨(N (N (N L none (N L vT L)) none (N (N L vT L) (some .nils) L)) none (N (N L (some .nils) L) (some (.ptr 0 0)) L)),o15,34⟩,[.int,.int,.int,(.mp (.st 23) (.int .i64)),(.st 20),(.st 20),(.lst (.st 21)),.en]⟩
def qfs:LE S:=⟨qfp,qfq,[.int,.int,.int,.bool,.int,(.mp (.st 23) (.int .i64)),(.st 20),(.st 20),(.lst (.st 21)),.en],[qfr]⟩
def qft (x:to):(Int×Int×t1k×ZI×(List Zm)×(Nat→Nat))→tx:=fun y0=>(y0.1,x.2.1,y0.2.1,y0.2.2.1,x.2.2.2.2.2.2.1,y0.2.2.2.1,y0.2.2.2.2.1,y0.2.2.2.2.2)
def qfu {R:Type} (x:to) (k:tx→Option R):Option R:=(X2A (x.1,x.2.2.1,x.2.2.2.1,x.2.2.2.2.1,x.2.2.2.2.2.1,x.2.2.2.2.2.2.2.1,x.2.2.2.2.2.2.2.2.1,x.2.2.2.2.2.2.2.2.2)).bind (fun y0=>k (y0.1,x.2.1,y0.2.1,y0.2.2.1,x.2.2.2.2.2.2.1,y0.2.2.2.1,y0.2.2.2.2.1,y0.2.2.2.2.2))
def qfv (x:to) (v:(Int×Int×Bool×Int×t1k×ZI×(List Zm)×(Nat→Nat))):to:=(v.1,x.2.1,v.2.1,v.2.2.1,v.2.2.2.1,v.2.2.2.2.1,x.2.2.2.2.2.2.1,v.2.2.2.2.2.1,v.2.2.2.2.2.2.1,v.2.2.2.2.2.2.2)
theorem qfw (x:to):LE.step X qfs qfl qfj q4 12 x=X1z x.1 x.2.2.1 x.2.2.2.1 x.2.2.2.2.1 x.2.2.2.2.2.1 x.2.2.2.2.2.2.2.1 x.2.2.2.2.2.2.2.2.1 x.2.2.2.2.2.2.2.2.2 (fun w0 w1 w2 w3 w4 w5 w6 w7=>(Sum.inl (w0,x.2.1,w1,w2,w3,w4,x.2.2.2.2.2.2.1,w5,w6,w7))) (fun p0 p1 p2 p3 p4 p5=>(Sum.inr (p0,x.2.1,p1,p2,x.2.2.2.2.2.2.1,p3,p4,p5))):=by kernel_rfl
theorem qfy {R:Type} (x:to) (k:tx→Option R) (r:R) (h:qfu x k=some r):∃ o,Z5z (LE.step X qfs qfl qfj q4 12) x o∧k o=some r:=by
 obtain ⟨o,h1,h2⟩:=Z0 h
 exact ⟨qft x o,ZhG (st:=fun (x:to)=>X25) (prj:=fun x=>(x.1,x.2.2.1,x.2.2.2.1,x.2.2.2.2.1,x.2.2.2.2.2.1,x.2.2.2.2.2.2.2.1,x.2.2.2.2.2.2.2.2.1,x.2.2.2.2.2.2.2.2.2)) (emb:=qfv) (embO:=qft) (fun x=>(qfw x).trans (by unfold X25 X1z;simp only [Zhy,Zht,Zhz,Option.map_some,Option.map_none];rfl)) (fun _ _=>rfl) (fun _ _=>rfl) (fun _ _ _=>rfl) (fun _ _ _=>rfl) (fun _=>rfl) (Z1W.1 h1),by first|exact h2|(rcases o with o<;>exact h2)⟩
def qfz {R:Type}:Z2x S R:=LE.ls X qfs qfu q4
theorem qfA {R:Type}:Z3Q X (qfz (R:=R)):=ZhL xok qfm (e:=qfs) qfk q5 qfy q5
def qfB:Key:=⟨[15],15,none,[0,0,1,0,1,1,1,1,1,1,1,1],2,40⟩
def qfC:StT S:=⟨(N (N (N L none (N L vT L)) none (N (N L vT L) (some (.rs 41 0)) v1z)) none (N (N L (some (.rs 40 0)) L) none (N L none v1z))),oZ,42⟩
def qfD:Way S:=⟨(.exit 2),⟨(N (N L none (N L (some (.rs 41 0)) L)) none (N (N L (some (.rs 40 0)) L) none L)),oZ,43⟩,[.int,(.lst (.int .i64)),(.mp (.st 23) (.int .i64)),(.st 20),(.lst (.int .i64)),(.st 20),(.lst (.st 21)),.en]⟩
def qfE:LE S:=⟨qfB,qfC,[.int,.int,.int,.int,.int,(.lst (.int .i64)),(.mp (.st 23) (.int .i64)),(.st 20),(.lst (.int .i64)),(.st 20),(.lst (.st 21)),.en],[qfD]⟩
def qfF (x:ti):((List Int)×(List Int))→tn:=fun y0=>(x.2.2.2.2.1,y0.1,x.2.2.2.2.2.2.1,x.2.2.2.2.2.2.2.1,y0.2,x.2.2.2.2.2.2.2.2.2.1,x.2.2.2.2.2.2.2.2.2.2.1,x.2.2.2.2.2.2.2.2.2.2.2)
def qfG {R:Type} (x:ti) (k:tn→Option R):Option R:=(X3O x.1 x.2.1 x.2.2.1 (x.2.2.2.1,x.2.2.2.2.2.1,x.2.2.2.2.2.2.2.2.1)).bind (fun y0=>k (x.2.2.2.2.1,y0.1,x.2.2.2.2.2.2.1,x.2.2.2.2.2.2.2.1,y0.2,x.2.2.2.2.2.2.2.2.2.1,x.2.2.2.2.2.2.2.2.2.2.1,x.2.2.2.2.2.2.2.2.2.2.2))
def qfH (x:ti) (v:(Int×(List Int)×(List Int))):ti:=(x.1,x.2.1,x.2.2.1,v.1,x.2.2.2.2.1,v.2.1,x.2.2.2.2.2.2.1,x.2.2.2.2.2.2.2.1,v.2.2,x.2.2.2.2.2.2.2.2.2.1,x.2.2.2.2.2.2.2.2.2.2.1,x.2.2.2.2.2.2.2.2.2.2.2)
theorem qfI (x:ti):LE.step X qfE qfl qfj qfz 12 x=X1A x.1 x.2.1 x.2.2.1 x.2.2.2.1 x.2.2.2.2.2.1 x.2.2.2.2.2.2.2.2.1 (fun w0 w1 w2=>(Sum.inl (x.1,x.2.1,x.2.2.1,w0,x.2.2.2.2.1,w1,x.2.2.2.2.2.2.1,x.2.2.2.2.2.2.2.1,w2,x.2.2.2.2.2.2.2.2.2.1,x.2.2.2.2.2.2.2.2.2.2.1,x.2.2.2.2.2.2.2.2.2.2.2))) (fun p0 p1=>(Sum.inr (x.2.2.2.2.1,p0,x.2.2.2.2.2.2.1,x.2.2.2.2.2.2.2.1,p1,x.2.2.2.2.2.2.2.2.2.1,x.2.2.2.2.2.2.2.2.2.2.1,x.2.2.2.2.2.2.2.2.2.2.2))):=by kernel_rfl
theorem qfK {R:Type} (x:ti) (k:tn→Option R) (r:R) (h:qfG x k=some r):∃ o,Z5z (LE.step X qfE qfl qfj qfz 12) x o∧k o=some r:=by
 obtain ⟨o,h1,h2⟩:=Z0 h
 exact ⟨qfF x o,ZhG (st:=fun (x:ti)=>X1u x.1 x.2.1 x.2.2.1) (prj:=fun x=>(x.2.2.2.1,x.2.2.2.2.2.1,x.2.2.2.2.2.2.2.2.1)) (emb:=qfH) (embO:=qfF) (fun x=>(qfI x).trans (by unfold X1u X1A;simp only [Zhy,Zht,Zhz,Option.map_some,Option.map_none];rfl)) (fun _ _=>rfl) (fun _ _=>rfl) (fun _ _ _=>rfl) (fun _ _ _=>rfl) (fun _=>rfl) (Z1W.1 h1),by first|exact h2|(rcases o with o<;>exact h2)⟩
def qfL {R:Type}:Z2x S R:=LE.ls X qfE qfG qfz
theorem qfM {R:Type}:Z3Q X (qfL (R:=R)):=ZhL xok qfm (e:=qfE) qfk qfA qfK qfA
theorem qfN (x0:ZI) (x1:List Zm):ZhN X qfl [(.st 20),(.sl (.st 21))] [(.sl (.int .i64)),(.sl (.int .i64)),(.int .i64)] qfj qfL 12 15 (x0,x1,())=X2N x0 x1:=by kernel_rfl
def qfO:F7 S:=⟨[(.st 20),(.sl (.st 21))],[(.sl (.int .i64)),(.sl (.int .i64)),(.int .i64)],fun xs=>X6d xs.1 xs.2.1⟩
theorem qfP:Z9o X 15 qfO:=ZhK (ZhJ xok qfm qfk qfM 12 15) fun xs _ h=>((qfN xs.1 xs.2.1).trans (X6M xs.1 xs.2.1).symm).trans h
def qfU:Key:=⟨[84],84,none,[0,0,1,0,1,1,1],0,9⟩
def qfV:StT S:=⟨(N (N (N L vT L) none L) vP (N (N L vT L) none L)),L,9⟩
def qfW:Way S:=⟨(.exit 0),⟨v1A,L,13⟩,[.int]⟩
def qfX:LE S:=⟨qfU,qfV,[.int,(.lst (.int .i64)),.int],[qfW]⟩
def qfY (x:t1j):Int→Int:=fun y0=>y0
def qfZ {R:Type} (x:t1j) (k:Int→Option R):Option R:=(X2H x.2.1 (x.1,x.2.2)).bind (fun y0=>k y0)
def qg0 (x:t1j) (v:(Int×Int)):t1j:=(v.1,x.2.1,v.2)
theorem qg1 (x:t1j):LE.step X qfX q2 qfj q4 12 x=X1i x.2.1 x.1 x.2.2 (fun w0 w1=>(Sum.inl (w0,x.2.1,w1))) (fun p0=>(Sum.inr p0)):=by kernel_rfl
theorem qg3 {R:Type} (x:t1j) (k:Int→Option R) (r:R) (h:qfZ x k=some r):∃ o,Z5z (LE.step X qfX q2 qfj q4 12) x o∧k o=some r:=by
 obtain ⟨o,h1,h2⟩:=Z0 h
 exact ⟨qfY x o,ZhG (st:=fun (x:t1j)=>X1E x.2.1) (prj:=fun x=>(x.1,x.2.2)) (emb:=qg0) (embO:=qfY) (fun x=>(qg1 x).trans (by unfold X1E X1i;simp only [Zhy,Zht,Zhz,Option.map_some,Option.map_none];rfl)) (fun _ _=>rfl) (fun _ _=>rfl) (fun _ _ _=>rfl) (fun _ _ _=>rfl) (fun _=>rfl) (Z1W.1 h1),by first|exact h2|(rcases o with o<;>exact h2)⟩
def qg4 {R:Type}:Z2x S R:=LE.ls X qfX qfZ q4
theorem qg5 {R:Type}:Z3Q X (qg4 (R:=R)):=ZhL xok q3 (e:=qfX) qfk q5 qg3 q5
theorem qg6 (x0:List Int):ZhN X q2 [(.sl (.int .i64))] [(.int .i64)] qfj qg4 12 84 (x0,())=WV x0:=by kernel_rfl
def qg7:F7 S:=⟨[(.sl (.int .i64))],[(.int .i64)],fun xs=>X33 xs.1⟩
theorem qg8:Z9o X 84 qg7:=ZhK (ZhJ xok q3 qfk qg5 12 84) fun xs _ h=>((qg6 xs.1).trans (X5L xs.1).symm).trans h
def qg9:StT S:=⟨(N (N (N L vT L) vS L) (some (.ptr 1 0)) (N L vT L)),(N (N L o4 L) os L),2⟩
def qgb:PE S:=⟨50,4,qg9,[.int,(.lst (.st 2)),.int,(.st 20),(.lst (.st 21)),.en,(.mp (.st 23) (.int .i64))],[qaE]⟩
def qgc:List (Nat×F7 S):=[(110,qaq),(57,q7E),(84,qg7)]
theorem qgd:Z9y X qgc:=⟨qar,q7F,qg8,trivial⟩
def qgg:Key:=⟨[50],50,none,[0,0,1,1,1,1,1,0,0,1,1,0,0,1,0,1,1],2,39⟩
def qgh:StT S:=⟨(N (N (N L vT v1z) none (N (N (N L vT L) (some (.ptr 3 0)) L) none L)) (some (.ptr 1 0)) (N (N (N (N L vS L) none L) none (N L (some (.ptr 18 0)) (N (N L vT L) none L))) vT (N (N (N L vT L) none L) none (N L vT L)))),o1l,39⟩
def qgi:Way S:=⟨(.exit 2),⟨v10,o1l,40⟩,[.int,.int,(.lst (.st 2)),.int,.int,(.arr (.int .i64)),(.st 20),(.lst (.st 21)),.en,(.mp (.st 23) (.int .i64)),(.arr (.st 5)),(.st 2)]⟩
def qgj:LE S:=⟨qgg,qgh,[.int,.int,.int,(.lst (.st 2)),.int,.int,.int,.int,(.arr (.int .i64)),(.st 20),(.lst (.st 21)),.en,(.mp (.st 23) (.int .i64)),(.arr (.st 5)),(.st 2)],[qgi]⟩
def qgk (x:td):(Nat→Int)→te:=fun y0=>(x.1,x.2.2.1,x.2.2.2.1,x.2.2.2.2.2.1,x.2.2.2.2.2.2.1,y0,x.2.2.2.2.2.2.2.2.2.1,x.2.2.2.2.2.2.2.2.2.2.1,x.2.2.2.2.2.2.2.2.2.2.2.1,x.2.2.2.2.2.2.2.2.2.2.2.2.1,x.2.2.2.2.2.2.2.2.2.2.2.2.2.1,x.2.2.2.2.2.2.2.2.2.2.2.2.2.2)
def qgl {R:Type} (x:td) (k:te→Option R):Option R:=(X2P x.1 x.2.1 x.2.2.1 x.2.2.2.1 x.2.2.2.2.2.1 x.2.2.2.2.2.2.1 x.2.2.2.2.2.2.2.1 x.2.2.2.2.2.2.2.2.2.1 x.2.2.2.2.2.2.2.2.2.2.1 x.2.2.2.2.2.2.2.2.2.2.2.1 x.2.2.2.2.2.2.2.2.2.2.2.2.1 x.2.2.2.2.2.2.2.2.2.2.2.2.2.1 x.2.2.2.2.2.2.2.2.2.2.2.2.2.2 (x.2.2.2.2.1,x.2.2.2.2.2.2.2.2.1)).bind (fun y0=>k (x.1,x.2.2.1,x.2.2.2.1,x.2.2.2.2.2.1,x.2.2.2.2.2.2.1,y0,x.2.2.2.2.2.2.2.2.2.1,x.2.2.2.2.2.2.2.2.2.2.1,x.2.2.2.2.2.2.2.2.2.2.2.1,x.2.2.2.2.2.2.2.2.2.2.2.2.1,x.2.2.2.2.2.2.2.2.2.2.2.2.2.1,x.2.2.2.2.2.2.2.2.2.2.2.2.2.2))
def qgm (x:td) (v:(Int×(Nat→Int))):td:=(x.1,x.2.1,x.2.2.1,x.2.2.2.1,v.1,x.2.2.2.2.2.1,x.2.2.2.2.2.2.1,x.2.2.2.2.2.2.2.1,v.2,x.2.2.2.2.2.2.2.2.2.1,x.2.2.2.2.2.2.2.2.2.2.1,x.2.2.2.2.2.2.2.2.2.2.2.1,x.2.2.2.2.2.2.2.2.2.2.2.2.1,x.2.2.2.2.2.2.2.2.2.2.2.2.2.1,x.2.2.2.2.2.2.2.2.2.2.2.2.2.2)
theorem qgn (x:td):LE.step X qgj qgc qfj q4 12 x=X1m x.1 x.2.1 x.2.2.1 x.2.2.2.1 x.2.2.2.2.2.1 x.2.2.2.2.2.2.1 x.2.2.2.2.2.2.2.1 x.2.2.2.2.2.2.2.2.2.1 x.2.2.2.2.2.2.2.2.2.2.1 x.2.2.2.2.2.2.2.2.2.2.2.1 x.2.2.2.2.2.2.2.2.2.2.2.2.1 x.2.2.2.2.2.2.2.2.2.2.2.2.2.1 x.2.2.2.2.2.2.2.2.2.2.2.2.2.2 x.2.2.2.2.1 x.2.2.2.2.2.2.2.2.1 (fun w0 w1=>(Sum.inl (x.1,x.2.1,x.2.2.1,x.2.2.2.1,w0,x.2.2.2.2.2.1,x.2.2.2.2.2.2.1,x.2.2.2.2.2.2.2.1,w1,x.2.2.2.2.2.2.2.2.2.1,x.2.2.2.2.2.2.2.2.2.2.1,x.2.2.2.2.2.2.2.2.2.2.2.1,x.2.2.2.2.2.2.2.2.2.2.2.2.1,x.2.2.2.2.2.2.2.2.2.2.2.2.2.1,x.2.2.2.2.2.2.2.2.2.2.2.2.2.2))) (fun p0=>(Sum.inr (x.1,x.2.2.1,x.2.2.2.1,x.2.2.2.2.2.1,x.2.2.2.2.2.2.1,p0,x.2.2.2.2.2.2.2.2.2.1,x.2.2.2.2.2.2.2.2.2.2.1,x.2.2.2.2.2.2.2.2.2.2.2.1,x.2.2.2.2.2.2.2.2.2.2.2.2.1,x.2.2.2.2.2.2.2.2.2.2.2.2.2.1,x.2.2.2.2.2.2.2.2.2.2.2.2.2.2))):=by kernel_rfl
theorem qgp {R:Type} (x:td) (k:te→Option R) (r:R) (h:qgl x k=some r):∃ o,Z5z (LE.step X qgj qgc qfj q4 12) x o∧k o=some r:=by
 obtain ⟨o,h1,h2⟩:=Z0 h
 exact ⟨qgk x o,ZhG (st:=fun (x:td)=>X1P x.1 x.2.1 x.2.2.1 x.2.2.2.1 x.2.2.2.2.2.1 x.2.2.2.2.2.2.1 x.2.2.2.2.2.2.2.1 x.2.2.2.2.2.2.2.2.2.1 x.2.2.2.2.2.2.2.2.2.2.1 x.2.2.2.2.2.2.2.2.2.2.2.1 x.2.2.2.2.2.2.2.2.2.2.2.2.1 x.2.2.2.2.2.2.2.2.2.2.2.2.2.1 x.2.2.2.2.2.2.2.2.2.2.2.2.2.2) (prj:=fun x=>(x.2.2.2.2.1,x.2.2.2.2.2.2.2.2.1)) (emb:=qgm) (embO:=qgk) (fun x=>(qgn x).trans (by unfold X1P X1m;simp only [Zhy,Zht,Zhz,Option.map_some,Option.map_none];rfl)) (fun _ _=>rfl) (fun _ _=>rfl) (fun _ _ _=>rfl) (fun _ _ _=>rfl) (fun _=>rfl) (Z1W.1 h1),by first|exact h2|(rcases o with o<;>exact h2)⟩
def qgq {R:Type}:Z2x S R:=LE.ls X qgj qgl q4
theorem qgr {R:Type}:Z3Q X (qgq (R:=R)):=ZhL xok qgd (e:=qgj) qfk q5 qgp q5
def qgs:Key:=⟨[50],50,none,[0,0,1,0,1,1],0,7⟩
def qgt:StT S:=⟨v10,(N (N (N L o8 L) o4 L) os L),7⟩
def qgu:Way S:=⟨(.exit 0),⟨(N (N L none v1x) none L),(N (N (N L o8 L) o4 L) os L),8⟩,[(.arr (.int .i64)),(.st 20),(.lst (.st 21)),.en,(.mp (.st 23) (.int .i64))]⟩
def qgv:LE S:=⟨qgs,qgt,[.int,.int,(.lst (.st 2)),.int,.int,(.arr (.int .i64)),(.st 20),(.lst (.st 21)),.en,(.mp (.st 23) (.int .i64))],[qgu]⟩
def qgw (x:tm):tE→tE:=fun y0=>(y0.1,y0.2.1,y0.2.2.1,y0.2.2.2.1,y0.2.2.2.2)
def qgx {R:Type} (x:tm) (k:tE→Option R):Option R:=(X2O x.1 x.2.1 x.2.2.1 x.2.2.2.1 (x.2.2.2.2.1,x.2.2.2.2.2.1,x.2.2.2.2.2.2.1,x.2.2.2.2.2.2.2.1,x.2.2.2.2.2.2.2.2.1,x.2.2.2.2.2.2.2.2.2)).bind (fun y0=>k (y0.1,y0.2.1,y0.2.2.1,y0.2.2.2.1,y0.2.2.2.2))
def qgy (x:tm) (v:(Int×(Nat→Int)×ZI×(List Zm)×(Nat→Nat)×t1k)):tm:=(x.1,x.2.1,x.2.2.1,x.2.2.2.1,v.1,v.2.1,v.2.2.1,v.2.2.2.1,v.2.2.2.2.1,v.2.2.2.2.2)
theorem qgz (x:tm):LE.step X qgv qgc qfj qgq 12 x=X1l x.1 x.2.1 x.2.2.1 x.2.2.2.1 x.2.2.2.2.1 x.2.2.2.2.2.1 x.2.2.2.2.2.2.1 x.2.2.2.2.2.2.2.1 x.2.2.2.2.2.2.2.2.1 x.2.2.2.2.2.2.2.2.2 (fun w0 w1 w2 w3 w4 w5=>(Sum.inl (x.1,x.2.1,x.2.2.1,x.2.2.2.1,w0,w1,w2,w3,w4,w5))) (fun p0 p1 p2 p3 p4=>(Sum.inr (p0,p1,p2,p3,p4))):=by kernel_rfl
theorem qgB {R:Type} (x:tm) (k:tE→Option R) (r:R) (h:qgx x k=some r):∃ o,Z5z (LE.step X qgv qgc qfj qgq 12) x o∧k o=some r:=by
 obtain ⟨o,h1,h2⟩:=Z0 h
 exact ⟨qgw x o,ZhG (st:=fun (x:tm)=>X1O x.1 x.2.1 x.2.2.1 x.2.2.2.1) (prj:=fun x=>(x.2.2.2.2.1,x.2.2.2.2.2.1,x.2.2.2.2.2.2.1,x.2.2.2.2.2.2.2.1,x.2.2.2.2.2.2.2.2.1,x.2.2.2.2.2.2.2.2.2)) (emb:=qgy) (embO:=qgw) (fun x=>(qgz x).trans (by unfold X1O X1l;simp only [Zhy,Zht,Zhz,Option.map_some,Option.map_none];rfl)) (fun _ _=>rfl) (fun _ _=>rfl) (fun _ _ _=>rfl) (fun _ _ _=>rfl) (fun _=>rfl) (Z1W.1 h1),by first|exact h2|(rcases o with o<;>exact h2)⟩
def qgC {R:Type}:Z2x S R:=LE.ls X qgv qgx qgq
theorem qgD {R:Type}:Z3Q X (qgC (R:=R)):=ZhL xok qgd (e:=qgv) qfk qgr qgB qgr
theorem qgE (x:(Int×(List Zu)×Int×ZI×(List Zm)×(Nat→Nat)×t1k)):PE.step X qgb qgc qfj qgC 12 x=X1j x.1 x.2.1 x.2.2.1 x.2.2.2.1 x.2.2.2.2.1 x.2.2.2.2.2.1 x.2.2.2.2.2.2:=by kernel_rfl
theorem qgF:Zba X qgb X3i:=ZhM (Zhh xok qgd qfk qgD 12) fun x _ h=>((qgE x).trans (X5Q x).symm).trans h
def qgG {R:Type}:Prs S R:=PE.ps X qgb (fun x q=>(X3i x).bind q) qfj
theorem qgH {R:Type}:Z82 X (qgG (R:=R)):=ZhD (e:=qgb) qgF qfk
def qgI:F7 S:=⟨[],[.bool],fun _=>X7g⟩
theorem qgJ:Z9o X 14 qgI:=Zfd (X:=X) (F:=X7g) rfl ZdR
theorem qgO (x0:ZI) (x1:Z4):ZhN X q2 [(.st 20),(.st 22)] [(.st 2)] qgG q4 12 22 (x0,x1,())=X3v x0 x1:=by kernel_rfl
def qgP:F7 S:=⟨[(.st 20),(.st 22)],[(.st 2)],fun xs=>X6R xs.1 xs.2.1⟩
theorem qgQ:Z9o X 22 qgP:=ZhK (ZhJ xok q3 qgH q5 12 22) fun xs _ h=>((qgO xs.1 xs.2.1).trans (X7e xs.1 xs.2.1).symm).trans h
theorem qgV (x0:List Int) (x1:Int):ZhN X q2 [(.sl (.int .u16)),(.int .i64)] [(.int .i64)] qgG q4 12 60 (x0,x1,())=X2u x0 x1:=by kernel_rfl
def qgW:F7 S:=⟨[(.sl (.int .u16)),(.int .i64)],[(.int .i64)],fun xs=>X5s xs.1 xs.2.1⟩
theorem qgX:Z9o X 60 qgW:=ZhK (ZhJ xok q3 qgH q5 12 60) fun xs _ h=>((qgV xs.1 xs.2.1).trans (X6u xs.1 xs.2.1).symm).trans h
theorem qh2 (x0:ZE) (x1:Int):ZhN X q2 [(.st 5),(.int .i64)] [(.int .i64)] qgG q4 12 54 (x0,x1,())=X28 x0 x1:=by kernel_rfl
def qh3:F7 S:=⟨[(.st 5),(.int .i64)],[(.int .i64)],fun xs=>X3X xs.1 xs.2.1⟩
theorem qh4:Z9o X 54 qh3:=ZhK (ZhJ xok q3 qgH q5 12 54) fun xs _ h=>((qh2 xs.1 xs.2.1).trans (X5W xs.1 xs.2.1).symm).trans h
def qh5:List (Nat×F7 S):=[(60,qgW),(54,qh3)]
theorem qh6:Z9y X (qh5):=⟨qgX,qh4,trivial⟩
theorem qh9 (x0:ZI) (x1:Z4) (x2:Int):ZhN X qh5 [(.st 20),(.st 22),(.int .i64)] [(.int .i64)] qgG q4 12 25 (x0,x1,x2,())=X2R x0 x1 x2:=by kernel_rfl
def qha:F7 S:=⟨[(.st 20),(.st 22),(.int .i64)],[(.int .i64)],fun xs=>X6e xs.1 xs.2.1 xs.2.2.1⟩
theorem qhb:Z9o X 25 qha:=ZhK (ZhJ xok qh6 qgH q5 12 25) fun xs _ h=>((qh9 xs.1 xs.2.1 xs.2.2.1).trans (X6S xs.1 xs.2.1 xs.2.2.1).symm).trans h
def qhc:List (Nat×F7 S):=[(69,q3x)]
theorem qhd:Z9y X (qhc):=⟨q3y,trivial⟩
def qhg:Key:=⟨[53],53,none,[0,0,1,0,1],0,4⟩
def qhh:StT S:=⟨(N (N (N L (some (.ptr 1 0)) L) none (N L vT L)) none (N L (some (.ptr 0 0)) L)),(N (N L oo L) oe L),4⟩
def qhi:Way S:=⟨.ret,⟨v1z,(N (N L oo L) oe L),47⟩,[.int,(.st 2),(.st 20)]⟩
def qhj:Way S:=⟨(.exit 0),⟨L,(N (N L oo L) oe L),9⟩,[(.st 2),(.st 20)]⟩
def qhk:LE S:=⟨qhg,qhh,[.int,(.st 2),(.st 20)],[qhi,qhj]⟩
def qhl (x:(Int×Zu×ZI)):(Int⊕Unit)→((Int×Zu×ZI)⊕(Zu×ZI)):=Sum.elim (fun y0=>(.inl (y0,x.2.1,x.2.2))) (fun y1=>(.inr (x.2.1,x.2.2)))
def qhm {R:Type} (x:(Int×Zu×ZI)) (k:((Int×Zu×ZI)⊕(Zu×ZI))→Option R):Option R:=(X2L x.2.1 x.2.2 x.1).bind (Sum.elim (fun y0=>k (.inl (y0,x.2.1,x.2.2))) (fun y1=>k (.inr (x.2.1,x.2.2))))
def qhn (x:(Int×Zu×ZI)) (v:Int):(Int×Zu×ZI):=(v,x.2.1,x.2.2)
theorem qho (x:(Int×Zu×ZI)):LE.step X qhk qhc qgG q4 12 x=Wg x.2.1 x.2.2 x.1 (fun w0=>(Sum.inl (w0,x.2.1,x.2.2))) (fun p0=>(Sum.inr (.inl (p0,x.2.1,x.2.2)))) (Sum.inr (.inr (x.2.1,x.2.2))):=by kernel_rfl
theorem qhq {R:Type} (x:(Int×Zu×ZI)) (k:((Int×Zu×ZI)⊕(Zu×ZI))→Option R) (r:R) (h:qhm x k=some r):∃ o,Z5z (LE.step X qhk qhc qgG q4 12) x o∧k o=some r:=by
 obtain ⟨o,h1,h2⟩:=Z0 h
 exact ⟨qhl x o,ZhG (st:=fun (x:(Int×Zu×ZI))=>W5 x.2.1 x.2.2) (prj:=fun x=>x.1) (emb:=qhn) (embO:=qhl) (fun x=>(qho x).trans (by unfold W5 Wg;simp only [Zhy,Zht,Zhz,Option.map_some,Option.map_none];rfl)) (fun _ _=>rfl) (fun _ _=>rfl) (fun _ _ _=>rfl) (fun _ _ _=>rfl) (fun _=>rfl) (Z1W.1 h1),by first|exact h2|(rcases o with o|o<;>exact h2)⟩
def qhr {R:Type}:Z2x S R:=LE.ls X qhk qhm q4
theorem qhs {R:Type}:Z3Q X (qhr (R:=R)):=ZhL xok qhd (e:=qhk) qgH q5 qhq q5
theorem qht (x0:ZI) (x1:Zu):ZhN X qhc [(.st 20),(.st 2)] [(.int .i64)] qgG qhr 12 53 (x0,x1,())=X1T x0 x1:=by kernel_rfl
def qhu:F7 S:=⟨[(.st 20),(.st 2)],[(.int .i64)],fun xs=>X4j xs.1 xs.2.1⟩
theorem qhv:Z9o X 53 qhu:=ZhK (ZhJ xok qhd qgH qhs 12 53) fun xs _ h=>((qht xs.1 xs.2.1).trans (X5G xs.1 xs.2.1).symm).trans h
def qhw:List (Nat×F7 S):=[(68,q3q),(106,q7)]
theorem qhx:Z9y X (qhw):=⟨q3r,q8,trivial⟩
theorem qhA (x0:Zk) (x1:Int) (x2:Int):ZhN X qhw [(.st 8),(.int .i64),(.int .i64)] [(.int .i64)] qgG q4 12 111 (x0,x1,x2,())=X2a x0 x1 x2:=by kernel_rfl
def qhB:F7 S:=⟨[(.st 8),(.int .i64),(.int .i64)],[(.int .i64)],fun xs=>X63 xs.1 xs.2.1 xs.2.2.1⟩
theorem qhC:Z9o X 111 qhB:=ZhK (ZhJ xok qhx qgH q5 12 111) fun xs _ h=>((qhA xs.1 xs.2.1 xs.2.2.1).trans (X64 xs.1 xs.2.1 xs.2.2.1).symm).trans h
def qhH:Key:=⟨[51],51,none,[0,0,1,0,1,1],0,4⟩
def qhI:StT S:=⟨(N (N L vT (N L vT L)) none (N L (some (.ptr 0 0)) (N L vT L))),(N L oj L),4⟩
def qhJ:Way S:=⟨(.exit 0),⟨v1F,(N L oj L),9⟩,[.int,(.st 4)]⟩
def qhK:LE S:=⟨qhH,qhI,[.int,.int,.int,(.st 4)],[qhJ]⟩
def qhL (x:t1h):Int→(Int×Zx):=fun y0=>(y0,x.2.2.2)
def qhM {R:Type} (x:t1h) (k:(Int×Zx)→Option R):Option R:=(X3Y x.1 x.2.2.2 (x.2.1,x.2.2.1)).bind (fun y0=>k (y0,x.2.2.2))
def qhN (x:t1h) (v:(Int×Int)):t1h:=(x.1,v.1,v.2,x.2.2.2)
theorem qhO (x:t1h):LE.step X qhK q2 qgG q4 12 x=XV x.1 x.2.2.2 x.2.1 x.2.2.1 (fun w0 w1=>(Sum.inl (x.1,w0,w1,x.2.2.2))) (fun p0=>(Sum.inr (p0,x.2.2.2))):=by kernel_rfl
theorem qhQ {R:Type} (x:t1h) (k:(Int×Zx)→Option R) (r:R) (h:qhM x k=some r):∃ o,Z5z (LE.step X qhK q2 qgG q4 12) x o∧k o=some r:=by
 obtain ⟨o,h1,h2⟩:=Z0 h
 exact ⟨qhL x o,ZhG (st:=fun (x:t1h)=>XT x.1 x.2.2.2) (prj:=fun x=>(x.2.1,x.2.2.1)) (emb:=qhN) (embO:=qhL) (fun x=>(qhO x).trans (by unfold XT XV;simp only [Zhy,Zht,Zhz,Option.map_some,Option.map_none];rfl)) (fun _ _=>rfl) (fun _ _=>rfl) (fun _ _ _=>rfl) (fun _ _ _=>rfl) (fun _=>rfl) (Z1W.1 h1),by first|exact h2|(rcases o with o<;>exact h2)⟩
def qhR {R:Type}:Z2x S R:=LE.ls X qhK qhM q4
theorem qhS {R:Type}:Z3Q X (qhR (R:=R)):=ZhL xok q3 (e:=qhK) qgH q5 qhQ q5
theorem qhT (x0:Zx) (x1:Int):ZhN X q2 [(.st 4),(.int .i64)] [(.int .i64)] qgG qhR 12 51 (x0,x1,())=X1C x0 x1:=by kernel_rfl
def qhU:F7 S:=⟨[(.st 4),(.int .i64)],[(.int .i64)],fun xs=>X2T xs.1 xs.2.1⟩
theorem qhV:Z9o X 51 qhU:=ZhK (ZhJ xok q3 qgH qhS 12 51) fun xs _ h=>((qhT xs.1 xs.2.1).trans (X5e xs.1 xs.2.1).symm).trans h
def qhW:List (Nat×F7 S):=[(111,qhB),(51,qhU)]
theorem qhX:Z9y X (qhW):=⟨qhC,qhV,trivial⟩
theorem qi0 (x0:Zk) (x1:Int) (x2:Int):ZhN X qhW [(.st 8),(.int .i64),(.int .i64)] [(.int .i64)] qgG q4 12 86 (x0,x1,x2,())=X1g x0 x1 x2:=by kernel_rfl
def qi1:F7 S:=⟨[(.st 8),(.int .i64),(.int .i64)],[(.int .i64)],fun xs=>X4F xs.1 xs.2.1 xs.2.2.1⟩
theorem qi2:Z9o X 86 qi1:=ZhK (ZhJ xok qhX qgH q5 12 86) fun xs _ h=>((qi0 xs.1 xs.2.1 xs.2.2.1).trans (X4X xs.1 xs.2.1 xs.2.2.1).symm).trans h
theorem qi7 (x0:Zu):ZhN X q2 [(.st 2)] [(.st 2)] qgG q4 12 128 (x0,())=X6X x0:=by kernel_rfl
def qi8:F7 S:=⟨[(.st 2)],[(.st 2)],fun xs=>X6X xs.1⟩
theorem qi9:Z9o X 128 qi8:=ZhK (ZhJ xok q3 qgH q5 12 128) fun xs _ h=>(qi7 xs.1).trans h
def qia (ih:(Int×Unit)→Option (Zu)):List (Nat×F7 S):=[(128,qi8),(113,⟨[(.int .i64)],[(.st 2)],ih⟩)]
theorem qib (ih:(Int×Unit)→Option (Zu)) (hih:Z9o X 113 ⟨[(.int .i64)],[(.st 2)],ih⟩):Z9y X (qia ih):=⟨qi9,hih,trivial⟩
abbrev qic (ih:(Int×Unit)→Option (Zu)) {R:Type}:Z2x S R:=ZgH
theorem qid (ih:(Int×Unit)→Option (Zu)) (hih:Z9o X 113 ⟨[(.int .i64)],[(.st 2)],ih⟩) {R:Type}:Z3Q X (qic ih (R:=R)):=Zhd X
theorem qie (ih:(Int×Unit)→Option (Zu)) (x0:Int):ZhN X (qia ih) [(.int .i64)] [(.st 2)] qgG (qic ih) 12 113 (x0,())=X2i ih x0:=by kernel_rfl
def qif:F7 S:=⟨[(.int .i64)],[(.st 2)],fun xs=>X3R xs.1⟩
theorem qig:Z9o X 113 qif:=Zi9 (X:=X) (g:=113) (pts:=[(.int .i64)]) (rts:=[(.st 2)]) (t:=X9) fun ih hih=>ZhK (ZhJ xok (qib ih hih) qgH (qid ih hih) 12 113) fun xs _ h=>(qie ih xs.1).trans h
def qih:List (Nat×F7 S):=[(113,qif),(112,q1Z)]
theorem qii:Z9y X (qih):=⟨qig,q20,trivial⟩
def qil:Key:=⟨[87],87,none,[0,0,0,1,1],0,3⟩
def qim:StT S:=⟨(N (N (N L vT L) (some (.ptr 0 0)) L) none L),(N L oo L),3⟩
def qin:Way S:=⟨(.exit 0),⟨v1A,(N L oo L),17⟩,[.int,(.st 2)]⟩
def qio:LE S:=⟨qil,qim,[.int,(.st 2)],[qin]⟩
def qip (x:(Int×Zu)):Int→(Int×Zu):=fun y0=>(y0,x.2)
def qiq {R:Type} (x:(Int×Zu)) (k:(Int×Zu)→Option R):Option R:=(X4f x.2 x.1).bind (fun y0=>k (y0,x.2))
def qir (x:(Int×Zu)) (v:Int):(Int×Zu):=(v,x.2)
theorem qis (x:(Int×Zu)):LE.step X qio qih qgG q4 12 x=Wd x.2 x.1 (fun w0=>(Sum.inl (w0,x.2))) (fun p0=>(Sum.inr (p0,x.2))):=by kernel_rfl
theorem qiu {R:Type} (x:(Int×Zu)) (k:(Int×Zu)→Option R) (r:R) (h:qiq x k=some r):∃ o,Z5z (LE.step X qio qih qgG q4 12) x o∧k o=some r:=by
 obtain ⟨o,h1,h2⟩:=Z0 h
 exact ⟨qip x o,ZhG (st:=fun (x:(Int×Zu))=>W2 x.2) (prj:=fun x=>x.1) (emb:=qir) (embO:=qip) (fun x=>(qis x).trans (by unfold W2 Wd;simp only [Zhy,Zht,Zhz,Option.map_some,Option.map_none];rfl)) (fun _ _=>rfl) (fun _ _=>rfl) (fun _ _ _=>rfl) (fun _ _ _=>rfl) (fun _=>rfl) (Z1W.1 h1),by first|exact h2|(rcases o with o<;>exact h2)⟩
def qiv {R:Type}:Z2x S R:=LE.ls X qio qiq q4
theorem qiw {R:Type}:Z3Q X (qiv (R:=R)):=ZhL xok qii (e:=qio) qgH q5 qiu q5
theorem qix (x0:Zu):ZhN X qih [(.st 2)] [(.int .i64)] qgG qiv 12 87 (x0,())=WU x0:=by kernel_rfl
def qiy:F7 S:=⟨[(.st 2)],[(.int .i64)],fun xs=>WU xs.1⟩
theorem qiz:Z9o X 87 qiy:=ZhK (ZhJ xok qii qgH qiw 12 87) fun xs _ h=>(qix xs.1).trans h
def qiA:List (Nat×F7 S):=[(86,qi1),(76,qZ),(88,q1S),(87,qiy)]
theorem qiB:Z9y X (qiA):=⟨qi2,q10,q1T,qiz,trivial⟩
theorem qiE (x0:Zk) (x1:Int) (x2:Int) (x3:Zu):ZhN X qiA [(.st 8),(.int .i64),(.int .i64),(.st 2)] [(.int .i64),(.int .i64)] qgG q4 12 55 (x0,x1,x2,x3,())=X2w x0 x1 x2 x3:=by kernel_rfl
def qiF:F7 S:=⟨[(.st 8),(.int .i64),(.int .i64),(.st 2)],[(.int .i64),(.int .i64)],fun xs=>X5u xs.1 xs.2.1 xs.2.2.1 xs.2.2.2.1⟩
theorem qiG:Z9o X 55 qiF:=ZhK (ZhJ xok qiB qgH q5 12 55) fun xs _ h=>((qiE xs.1 xs.2.1 xs.2.2.1 xs.2.2.2.1).trans (X6w xs.1 xs.2.1 xs.2.2.1 xs.2.2.2.1).symm).trans h
def qiH:List (Nat×F7 S):=[(69,q3x),(51,qhU)]
theorem qiI:Z9y X (qiH):=⟨q3y,qhV,trivial⟩
theorem qiL (x0:ZI) (x1:Zm):ZhN X qiH [(.st 20),(.st 21)] [(.int .i64)] qgG q4 12 75 (x0,x1,())=X2c x0 x1:=by kernel_rfl
def qiM:F7 S:=⟨[(.st 20),(.st 21)],[(.int .i64)],fun xs=>X4Z xs.1 xs.2.1⟩
theorem qiN:Z9o X 75 qiM:=ZhK (ZhJ xok qiI qgH q5 12 75) fun xs _ h=>((qiL xs.1 xs.2.1).trans (X68 xs.1 xs.2.1).symm).trans h
def qiO:List (Nat×F7 S):=[(30,q4q),(75,qiM)]
theorem qiP:Z9y X (qiO):=⟨q4r,qiN,trivial⟩
def qiS:Key:=⟨[32],32,none,[0,0,1,0,1,1,1,1],0,22⟩
def qiT:StT S:=⟨(N (N L vR (N (N L vT L) none L)) none (N L (some (.ptr 0 0)) L)),(N L oe L),22⟩
def qiU:Way S:=⟨.ret,⟨v1s,(N L oe L),39⟩,[.int,.int,(.st 20)]⟩
def qiV:Way S:=⟨(.exit 0),⟨L,(N L oe L),26⟩,[(.st 20)]⟩
def qiW:LE S:=⟨qiS,qiT,[(.lst (.st 21)),.int,(.st 20)],[qiU,qiV]⟩
def qiX (x:t1e):((Int×Int)⊕Unit)→((Int×Int×ZI)⊕ZI):=Sum.elim (fun y0=>(.inl (y0.1,y0.2,x.2.2))) (fun y1=>(.inr x.2.2))
def qiY {R:Type} (x:t1e) (k:((Int×Int×ZI)⊕ZI)→Option R):Option R:=(X1D x.1 x.2.2 x.2.1).bind (Sum.elim (fun y0=>k (.inl (y0.1,y0.2,x.2.2))) (fun y1=>k (.inr x.2.2)))
def qiZ (x:t1e) (v:Int):t1e:=(x.1,v,x.2.2)
theorem qj0 (x:t1e):LE.step X qiW qiO qgG q4 12 x=Xn x.1 x.2.2 x.2.1 (fun w0=>(Sum.inl (x.1,w0,x.2.2))) (fun p0 p1=>(Sum.inr (.inl (p0,p1,x.2.2)))) (Sum.inr (.inr x.2.2)):=by kernel_rfl
theorem qj2 {R:Type} (x:t1e) (k:((Int×Int×ZI)⊕ZI)→Option R) (r:R) (h:qiY x k=some r):∃ o,Z5z (LE.step X qiW qiO qgG q4 12) x o∧k o=some r:=by
 obtain ⟨o,h1,h2⟩:=Z0 h
 exact ⟨qiX x o,ZhG (st:=fun (x:t1e)=>Xi x.1 x.2.2) (prj:=fun x=>x.2.1) (emb:=qiZ) (embO:=qiX) (fun x=>(qj0 x).trans (by unfold Xi Xn;simp only [Zhy,Zht,Zhz,Option.map_some,Option.map_none];rfl)) (fun _ _=>rfl) (fun _ _=>rfl) (fun _ _ _=>rfl) (fun _ _ _=>rfl) (fun _=>rfl) (Z1W.1 h1),by first|exact h2|(rcases o with o|o<;>exact h2)⟩
def qj3 {R:Type}:Z2x S R:=LE.ls X qiW qiY q4
theorem qj4 {R:Type}:Z3Q X (qj3 (R:=R)):=ZhL xok qiP (e:=qiW) qgH q5 qj2 q5
theorem qj5 (x0:ZI) (x1:List Zm):ZhN X qiO [(.st 20),(.sl (.st 21))] [(.int .i64),(.int .i64)] qgG qj3 12 32 (x0,x1,())=XW x0 x1:=by kernel_rfl
def qj6:F7 S:=⟨[(.st 20),(.sl (.st 21))],[(.int .i64),(.int .i64)],fun xs=>X2j xs.1 xs.2.1⟩
theorem qj7:Z9o X 32 qj6:=ZhK (ZhJ xok qiP qgH qj4 12 32) fun xs _ h=>((qj5 xs.1 xs.2.1).trans (X41 xs.1 xs.2.1).symm).trans h
def qj8:List (Nat×F7 S):=[(32,qj6)]
theorem qj9:Z9y X (qj8):=⟨qj7,trivial⟩
theorem qjc (x0:ZI) (x1:List Zm):ZhN X qj8 [(.st 20),(.sl (.st 21))] [.bool] qgG q4 12 56 (x0,x1,())=X2r x0 x1:=by kernel_rfl
def qjd:F7 S:=⟨[(.st 20),(.sl (.st 21))],[.bool],fun xs=>X3P xs.1 xs.2.1⟩
theorem qje:Z9o X 56 qjd:=ZhK (ZhJ xok qj9 qgH q5 12 56) fun xs _ h=>((qjc xs.1 xs.2.1).trans (X6o xs.1 xs.2.1).symm).trans h
def qjj:Key:=⟨[27],27,none,[0,0,1,0,1,1],0,5⟩
def qjk:StT S:=⟨(N v1o none (N L (some (.ptr 0 0)) (N L vT L))),(N (N L o9 (N L ox L)) oe L),6⟩
def qjl:Way S:=⟨(.exit 0),⟨(N v1o none (N L (some (.ptr 0 0)) L)),(N (N L o9 (N L ox L)) oe L),12⟩,[(.arr (.int .u8)),(.lst (.int .i64)),(.st 20)]⟩
def qjm:LE S:=⟨qjj,qjk,[.int,(.arr (.int .u8)),(.lst (.int .i64)),(.st 20)],[qjl]⟩
def qjn (x:t10):(List Int)→t19:=fun y0=>(x.2.1,y0,x.2.2.2)
def qjo {R:Type} (x:t10) (k:t19→Option R):Option R:=(X3z x.2.1 x.2.2.2 (x.1,x.2.2.1)).bind (fun y0=>k (x.2.1,y0,x.2.2.2))
def qjp (x:t10) (v:(Int×(List Int))):t10:=(v.1,x.2.1,v.2,x.2.2.2)
theorem qjq (x:t10):LE.step X qjm q2 qgG q4 12 x=X1c x.2.1 x.2.2.2 x.1 x.2.2.1 (fun w0 w1=>(Sum.inl (w0,x.2.1,w1,x.2.2.2))) (fun p0=>(Sum.inr (x.2.1,p0,x.2.2.2))):=by kernel_rfl
theorem qjs {R:Type} (x:t10) (k:t19→Option R) (r:R) (h:qjo x k=some r):∃ o,Z5z (LE.step X qjm q2 qgG q4 12) x o∧k o=some r:=by
 obtain ⟨o,h1,h2⟩:=Z0 h
 exact ⟨qjn x o,ZhG (st:=fun (x:t10)=>WZ x.2.1 x.2.2.2) (prj:=fun x=>(x.1,x.2.2.1)) (emb:=qjp) (embO:=qjn) (fun x=>(qjq x).trans (by unfold WZ X1c;simp only [Zhy,Zht,Zhz,Option.map_some,Option.map_none];rfl)) (fun _ _=>rfl) (fun _ _=>rfl) (fun _ _ _=>rfl) (fun _ _ _=>rfl) (fun _=>rfl) (Z1W.1 h1),by first|exact h2|(rcases o with o<;>exact h2)⟩
def qjt {R:Type}:Z2x S R:=LE.ls X qjm qjo q4
theorem qju {R:Type}:Z3Q X (qjt (R:=R)):=ZhL xok q3 (e:=qjm) qgH q5 qjs q5
def qjv:Key:=⟨[27],27,none,[0,0,1,0,1,1,1],2,13⟩
def qjw:StT S:=⟨(N (N v1y none (N L (some (.rs 13 0)) L)) none (N L (some (.ptr 0 0)) L)),(N (N L o9 (N L none (N L ox L))) oe L),14⟩
def qjx:Way S:=⟨(.exit 2),⟨(N (N L none (N L (some (.rs 13 0)) L)) none L),(N (N L o9 (N L none (N L ox L))) oe L),19⟩,[(.arr (.int .u8)),(.lst (.int .i64)),(.st 20)]⟩
def qjy:LE S:=⟨qjv,qjw,[.int,(.arr (.int .u8)),(.lst (.int .i64)),(.st 20)],[qjx]⟩
def qjA {R:Type} (x:t10) (k:t19→Option R):Option R:=(X3A x.2.1 x.2.2.2 (x.1,x.2.2.1)).bind (fun y0=>k (x.2.1,y0,x.2.2.2))
theorem qjC (x:t10):LE.step X qjy q2 qgG qjt 12 x=X1d x.2.1 x.2.2.2 x.1 x.2.2.1 (fun w0 w1=>(Sum.inl (w0,x.2.1,w1,x.2.2.2))) (fun p0=>(Sum.inr (x.2.1,p0,x.2.2.2))):=by kernel_rfl
theorem qjE {R:Type} (x:t10) (k:t19→Option R) (r:R) (h:qjA x k=some r):∃ o,Z5z (LE.step X qjy q2 qgG qjt 12) x o∧k o=some r:=by
 obtain ⟨o,h1,h2⟩:=Z0 h
 exact ⟨qjn x o,ZhG (st:=fun (x:t10)=>X10 x.2.1 x.2.2.2) (prj:=fun x=>(x.1,x.2.2.1)) (emb:=qjp) (embO:=qjn) (fun x=>(qjC x).trans (by unfold X10 X1d;simp only [Zhy,Zht,Zhz,Option.map_some,Option.map_none];rfl)) (fun _ _=>rfl) (fun _ _=>rfl) (fun _ _ _=>rfl) (fun _ _ _=>rfl) (fun _=>rfl) (Z1W.1 h1),by first|exact h2|(rcases o with o<;>exact h2)⟩
def qjF {R:Type}:Z2x S R:=LE.ls X qjy qjA qjt
theorem qjG {R:Type}:Z3Q X (qjF (R:=R)):=ZhL xok q3 (e:=qjy) qgH qju qjE qju
theorem qjH (x0:ZI) (x1:Nat→Int):ZhN X q2 [(.st 20),(.arr 2 (.int .u8))] [(.sl (.int .i64))] qgG qjF 12 27 (x0,x1,())=X2t x0 x1:=by kernel_rfl
def qjI:F7 S:=⟨[(.st 20),(.arr 2 (.int .u8))],[(.sl (.int .i64))],fun xs=>X5r xs.1 xs.2.1⟩
theorem qjJ:Z9o X 27 qjI:=ZhK (ZhJ xok q3 qgH qjG 12 27) fun xs _ h=>((qjH xs.1 xs.2.1).trans (X6s xs.1 xs.2.1).symm).trans h
def qjO:Key:=⟨[28],28,none,[0,0,1,0,1,0,0,1,0,0,1,0,1,1],2,11⟩
def qjP:StT S:=⟨(N v1i none (N (N (N L vT L) none L) vP (N (N L vT L) none L))),(N (N (N L none (N L oF L)) none L) oe L),12⟩
def qjQ:Way S:=⟨(.exit 2),⟨(N v1i none (N (N (N L vT L) none L) vP L)),(N (N (N L none (N L oF L)) none L) oe L),16⟩,[(.lst (.st 21)),.bool,.int,(.lst (.int .i64)),(.lst (.st 21)),(.st 20)]⟩
def qjR:LE S:=⟨qjO,qjP,[(.lst (.st 21)),.bool,.int,(.lst (.int .i64)),.int,(.lst (.st 21)),(.st 20)],[qjQ]⟩
def qjS (x:tH):Bool→tK:=fun y0=>(x.1,y0,x.2.2.1,x.2.2.2.1,x.2.2.2.2.2.1,x.2.2.2.2.2.2)
def qjT {R:Type} (x:tH) (k:tK→Option R):Option R:=(X3y x.1 x.2.2.1 x.2.2.2.1 x.2.2.2.2.2.2 (x.2.1,x.2.2.2.2.1)).bind (fun y0=>k (x.1,y0,x.2.2.1,x.2.2.2.1,x.2.2.2.2.2.1,x.2.2.2.2.2.2))
def qjU (x:tH) (v:(Bool×Int)):tH:=(x.1,v.1,x.2.2.1,x.2.2.2.1,v.2,x.2.2.2.2.2.1,x.2.2.2.2.2.2)
theorem qjV (x:tH):LE.step X qjR q2 qgG q4 12 x=X1b x.1 x.2.2.1 x.2.2.2.1 x.2.2.2.2.2.2 x.2.1 x.2.2.2.2.1 (fun w0 w1=>(Sum.inl (x.1,w0,x.2.2.1,x.2.2.2.1,w1,x.2.2.2.2.2.1,x.2.2.2.2.2.2))) (fun p0=>(Sum.inr (x.1,p0,x.2.2.1,x.2.2.2.1,x.2.2.2.2.2.1,x.2.2.2.2.2.2))):=by kernel_rfl
theorem qjX {R:Type} (x:tH) (k:tK→Option R) (r:R) (h:qjT x k=some r):∃ o,Z5z (LE.step X qjR q2 qgG q4 12) x o∧k o=some r:=by
 obtain ⟨o,h1,h2⟩:=Z0 h
 exact ⟨qjS x o,ZhG (st:=fun (x:tH)=>WY x.1 x.2.2.1 x.2.2.2.1 x.2.2.2.2.2.2) (prj:=fun x=>(x.2.1,x.2.2.2.2.1)) (emb:=qjU) (embO:=qjS) (fun x=>(qjV x).trans (by unfold WY X1b;simp only [Zhy,Zht,Zhz,Option.map_some,Option.map_none];rfl)) (fun _ _=>rfl) (fun _ _=>rfl) (fun _ _ _=>rfl) (fun _ _ _=>rfl) (fun _=>rfl) (Z1W.1 h1),by first|exact h2|(rcases o with o<;>exact h2)⟩
def qjY {R:Type}:Z2x S R:=LE.ls X qjR qjT q4
theorem qjZ {R:Type}:Z3Q X (qjY (R:=R)):=ZhL xok q3 (e:=qjR) qgH q5 qjX q5
def qk0:Key:=⟨[28],28,none,[0,0,1,0,1,1],0,4⟩
def qk1:StT S:=⟨(N (N (N (N L (some (.rs 4 0)) L) (some (.ptr 0 0)) L) vR L) none (N (N (N L vT L) none L) vP L)),(N L oe (N (N L oF L) none L)),5⟩
def qk2:Way S:=⟨(.exit 0),⟨(N (N (N (N L (some (.rs 4 0)) L) none L) none L) none L),(N L oe (N (N L oF L) none L)),9⟩,[(.st 20),(.lst (.st 21))]⟩
def qk3:LE S:=⟨qk0,qk1,[(.lst (.st 21)),.int,(.lst (.int .i64)),(.st 20),(.lst (.st 21))],[qk2]⟩
def qk4 (x:tQ):(List Zm)→(ZI×(List Zm)):=fun y0=>(x.2.2.2.1,y0)
def qk5 {R:Type} (x:tQ) (k:(ZI×(List Zm))→Option R):Option R:=(X3x x.1 x.2.2.1 x.2.2.2.1 (x.2.1,x.2.2.2.2)).bind (fun y0=>k (x.2.2.2.1,y0))
def qk6 (x:tQ) (v:(Int×(List Zm))):tQ:=(x.1,v.1,x.2.2.1,x.2.2.2.1,v.2)
theorem qk7 (x:tQ):LE.step X qk3 q2 qgG qjY 12 x=X1a x.1 x.2.2.1 x.2.2.2.1 x.2.1 x.2.2.2.2 (fun w0 w1=>(Sum.inl (x.1,w0,x.2.2.1,x.2.2.2.1,w1))) (fun p0=>(Sum.inr (x.2.2.2.1,p0))):=by kernel_rfl
theorem qk9 {R:Type} (x:tQ) (k:(ZI×(List Zm))→Option R) (r:R) (h:qk5 x k=some r):∃ o,Z5z (LE.step X qk3 q2 qgG qjY 12) x o∧k o=some r:=by
 obtain ⟨o,h1,h2⟩:=Z0 h
 exact ⟨qk4 x o,ZhG (st:=fun (x:tQ)=>WX x.1 x.2.2.1 x.2.2.2.1) (prj:=fun x=>(x.2.1,x.2.2.2.2)) (emb:=qk6) (embO:=qk4) (fun x=>(qk7 x).trans (by unfold WX X1a;simp only [Zhy,Zht,Zhz,Option.map_some,Option.map_none];rfl)) (fun _ _=>rfl) (fun _ _=>rfl) (fun _ _ _=>rfl) (fun _ _ _=>rfl) (fun _=>rfl) (Z1W.1 h1),by first|exact h2|(rcases o with o<;>exact h2)⟩
def qka {R:Type}:Z2x S R:=LE.ls X qk3 qk5 qjY
theorem qkb {R:Type}:Z3Q X (qka (R:=R)):=ZhL xok q3 (e:=qk3) qgH qjZ qk9 qjZ
theorem qkc (x0:ZI) (x1:List Zm) (x2:List Int):ZhN X q2 [(.st 20),(.sl (.st 21)),(.sl (.int .i64))] [(.sl (.st 21))] qgG qka 12 28 (x0,x1,x2,())=X2s x0 x1 x2:=by kernel_rfl
def qkd:F7 S:=⟨[(.st 20),(.sl (.st 21)),(.sl (.int .i64))],[(.sl (.st 21))],fun xs=>X3Q xs.1 xs.2.1 xs.2.2.1⟩
theorem qke:Z9o X 28 qkd:=ZhK (ZhJ xok q3 qgH qkb 12 28) fun xs _ h=>((qkc xs.1 xs.2.1 xs.2.2.1).trans (X6q xs.1 xs.2.1 xs.2.2.1).symm).trans h
def qkf:StT S:=⟨(N (N L (some (.agg [(.stc 22 (T.dflt 22))])) L) vu L),L,0⟩
def qkg:Way S:=⟨.ret,⟨(N L (some (.rs 0 0)) L),(N L oG L),1⟩,[(.lst (.st 21))]⟩
def qkh:PE S:=⟨21,2,qkf,[(.st 22),(.st 20)],[qkg]⟩
def qki:List (Nat×F7 S):=[(22,qgP),(25,qha),(53,qhu),(54,qh3),(55,qiF),(56,qjd)]
theorem qkj:Z9y X qki:=⟨qgQ,qhb,qhv,qh4,qiG,qje,trivial⟩
def qkm:Key:=⟨[21],21,none,[0,0,1,0,1,1,1],0,10⟩
def qkn:StT S:=⟨(N (N v1y none (N L (some (.rs 10 0)) L)) none (N L (some (.ptr 0 0)) (N L (some (.ptr 7 0)) L))),o1k,11⟩
def qko:Way S:=⟨(.exit 0),⟨(N (N L none (N L (some (.rs 10 0)) L)) none L),o1k,22⟩,[(.st 2),(.st 22),(.st 20),(.lst (.st 21))]⟩
def qkp:LE S:=⟨qkm,qkn,[.int,(.st 2),(.st 22),(.st 20),(.lst (.st 21))],[qko]⟩
def qkq (x:tT):(List Zm)→tW:=fun y0=>(x.2.1,x.2.2.1,x.2.2.2.1,y0)
def qkr {R:Type} (x:tT) (k:tW→Option R):Option R:=(X2q x.2.1 x.2.2.1 x.2.2.2.1 (x.1,x.2.2.2.2)).bind (fun y0=>k (x.2.1,x.2.2.1,x.2.2.2.1,y0))
def qks (x:tT) (v:(Int×(List Zm))):tT:=(v.1,x.2.1,x.2.2.1,x.2.2.2.1,v.2)
theorem qkt (x:tT):LE.step X qkp qki qgG q4 12 x=Xg x.2.1 x.2.2.1 x.2.2.2.1 x.1 x.2.2.2.2 (fun w0 w1=>(Sum.inl (w0,x.2.1,x.2.2.1,x.2.2.2.1,w1))) (fun p0=>(Sum.inr (x.2.1,x.2.2.1,x.2.2.2.1,p0))):=by kernel_rfl
theorem qkv {R:Type} (x:tT) (k:tW→Option R) (r:R) (h:qkr x k=some r):∃ o,Z5z (LE.step X qkp qki qgG q4 12) x o∧k o=some r:=by
 obtain ⟨o,h1,h2⟩:=Z0 h
 exact ⟨qkq x o,ZhG (st:=fun (x:tT)=>Xf x.2.1 x.2.2.1 x.2.2.2.1) (prj:=fun x=>(x.1,x.2.2.2.2)) (emb:=qks) (embO:=qkq) (fun x=>(qkt x).trans (by unfold Xf Xg;simp only [Zhy,Zht,Zhz,Option.map_some,Option.map_none];rfl)) (fun _ _=>rfl) (fun _ _=>rfl) (fun _ _ _=>rfl) (fun _ _ _=>rfl) (fun _=>rfl) (Z1W.1 h1),by first|exact h2|(rcases o with o<;>exact h2)⟩
def qkw {R:Type}:Z2x S R:=LE.ls X qkp qkr q4
theorem qkx {R:Type}:Z3Q X (qkw (R:=R)):=ZhL xok qkj (e:=qkp) qgH q5 qkv q5
theorem qky (x:(Z4×ZI)):PE.step X qkh qki qgG qkw 12 x=X1B x.1 x.2:=by kernel_rfl
theorem qkz:Zba X qkh X2S:=ZhM (Zhh xok qkj qgH qkx 12) fun x _ h=>((qky x).trans (X5a x).symm).trans h
def qkA {R:Type}:Prs S R:=PE.ps X qkh (fun x q=>(X2S x).bind q) qgG
theorem qkB {R:Type}:Z82 X (qkA (R:=R)):=ZhD (e:=qkh) qkz qgH
def qkC:List (Nat×F7 S):=[(20,q4x),(14,qgI),(22,qgP),(25,qha),(53,qhu),(54,qh3),(55,qiF),(56,qjd),(27,qjI),(28,qkd),(15,qfO)]
theorem qkD:Z9y X (qkC):=⟨q4y,qgJ,qgQ,qhb,qhv,qh4,qiG,qje,qjJ,qke,qfP,trivial⟩
def qkG:Key:=⟨[7],7,none,[0,0,1,0,1,1,1],0,21⟩
def qkH:StT S:=⟨(N (N (N (N L (some (.rs 21 0)) L) (some (.ptr 0 0)) L) none (N (N L vT L) (some (.ptr 2 0)) L)) none (N (N (N L vP L) none L) none L)),o14,22⟩
def qkI:Way S:=⟨(.exit 0),⟨(N (N (N (N L (some (.rs 21 0)) L) (some (.ptr 0 0)) L) none L) none (N (N (N L vP L) none L) none L)),o14,26⟩,[(.lst (.int .i64)),(.st 22),(.lst (.st 21)),(.st 20),(.arr (.int .u8))]⟩
def qkJ:LE S:=⟨qkG,qkH,[.int,(.lst (.int .i64)),(.st 22),(.lst (.st 21)),(.st 20),(.arr (.int .u8))],[qkI]⟩
def qkK (x:tG):(List Zm)→tJ:=fun y0=>(x.2.1,x.2.2.1,y0,x.2.2.2.2.1,x.2.2.2.2.2)
def qkL {R:Type} (x:tG) (k:tJ→Option R):Option R:=(X2f x.2.1 x.2.2.2.2.1 x.2.2.2.2.2 (x.1,x.2.2.2.1)).bind (fun y0=>k (x.2.1,x.2.2.1,y0,x.2.2.2.2.1,x.2.2.2.2.2))
def qkM (x:tG) (v:(Int×(List Zm))):tG:=(v.1,x.2.1,x.2.2.1,v.2,x.2.2.2.2.1,x.2.2.2.2.2)
theorem qkN (x:tG):LE.step X qkJ qkC qkA q4 12 x=XO x.2.1 x.2.2.2.2.1 x.2.2.2.2.2 x.1 x.2.2.2.1 (fun w0 w1=>(Sum.inl (w0,x.2.1,x.2.2.1,w1,x.2.2.2.2.1,x.2.2.2.2.2))) (fun p0=>(Sum.inr (x.2.1,x.2.2.1,p0,x.2.2.2.2.1,x.2.2.2.2.2))):=by kernel_rfl
theorem qkP {R:Type} (x:tG) (k:tJ→Option R) (r:R) (h:qkL x k=some r):∃ o,Z5z (LE.step X qkJ qkC qkA q4 12) x o∧k o=some r:=by
 obtain ⟨o,h1,h2⟩:=Z0 h
 exact ⟨qkK x o,ZhG (st:=fun (x:tG)=>XG x.2.1 x.2.2.2.2.1 x.2.2.2.2.2) (prj:=fun x=>(x.1,x.2.2.2.1)) (emb:=qkM) (embO:=qkK) (fun x=>(qkN x).trans (by unfold XG XO;simp only [Zhy,Zht,Zhz,Option.map_some,Option.map_none];rfl)) (fun _ _=>rfl) (fun _ _=>rfl) (fun _ _ _=>rfl) (fun _ _ _=>rfl) (fun _=>rfl) (Z1W.1 h1),by first|exact h2|(rcases o with o<;>exact h2)⟩
def qkQ {R:Type}:Z2x S R:=LE.ls X qkJ qkL q4
theorem qkR {R:Type}:Z3Q X (qkQ (R:=R)):=ZhL xok qkD (e:=qkJ) qkB q5 qkP q5
theorem qkS (x0:ZI) (x1:Z4) (x2:Nat→Int):ZhN X qkC [(.st 20),(.st 22),(.arr 3 (.int .u8))] [.bool] qkA qkQ 12 7 (x0,x1,x2,())=X19 x0 x1 x2:=by kernel_rfl
def qkT:F7 S:=⟨[(.st 20),(.st 22),(.arr 3 (.int .u8))],[.bool],fun xs=>X3w xs.1 xs.2.1 xs.2.2.1⟩
theorem X6k:Z9o X 7 qkT:=ZhK (ZhJ xok qkD qkB qkR 12 7) fun xs _ h=>((qkS xs.1 xs.2.1 xs.2.2.1).trans (X4O xs.1 xs.2.1 xs.2.2.1).symm).trans h
end
end Nore
