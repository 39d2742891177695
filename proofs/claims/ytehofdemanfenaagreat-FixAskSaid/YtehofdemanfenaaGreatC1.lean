/- The code comes to the plain functions. -/
import Derived.Test.YtehofdemanfenaaGreatY
import Derived.Test.YtehofdemanfenaaGreatD
import Derived.Test.YtehofdemanfenaaGreatK6
set_option linter.unusedSectionVars false
set_option linter.unusedVariables false
set_option linter.unusedSimpArgs false
set_option maxRecDepth 100000
open Go Go.Ab Go.Proofs Go.Proofs.YtehofdemanfenaaGreat
open Go.Ab.Tr renaming node→N,leaf→L
namespace Nore
noncomputable section
abbrev t1m:Type:=List (Zh×Int)
abbrev t1l:Type:=Int×(List Int)×Int
abbrev t1k:Type:=List (ByteArray×Int)
abbrev t1j:Type:=Int×Int×Int×Zw
abbrev t1i:Type:=Int×(List Zt)×Int
abbrev t1h:Type:=Int×(List Zu)×ZJ
abbrev t1g:Type:=(Int×Int×Zt)⊕Unit
abbrev t1f:Type:=(List Zn)×Int×ZJ
abbrev t1e:Type:=Int×(List ByteArray)×ZJ
abbrev t1d:Type:=Int×Int×(List Zu)×Int
abbrev t1c:Type:=Int×(List Zu)×Int×Int
abbrev t1b:Type:=(Int×Int×Int)⊕(Int×Int)
abbrev t1a:Type:=Int×Int×ZJ×(List Zu)
abbrev t19:Type:=Int×(List ByteArray)×Zl
abbrev t18:Type:=Int×Zl×(List ByteArray)
abbrev t17:Type:=Int×(List Zt)×Int×Zu
abbrev t16:Type:=(Nat→Zu)×Int×Int×Zu
abbrev t15:Type:=Int×ByteArray×ByteArray×Nat
abbrev t14:Type:=ByteArray×Int×(List ByteArray)
abbrev t13:Type:=Int×(List Int)×Int×Int×Int
abbrev t12:Type:=Int×Int×(List ZE)×Int×Int
abbrev t11:Type:=Int×(List Z5)×Int×ZJ
abbrev t10:Type:=Int×Int×Int×(List Zk)×(List Int)
abbrev tZ:Type:=Int×(List Z5)×Int×Z5
abbrev tY:Type:=(Int×Z5×Z5)⊕Z5
abbrev tX:Type:=Int×Int×Int×t1k×CtSand
abbrev tW:Type:=(List Zn)×Int×(List Zu)×ZJ×(List Int)
abbrev tV:Type:=(Int×(List Int)×Zu×(List Int)×Zt)⊕Zu
abbrev tU:Type:=(Int×Int×Z5×Z5×ZJ)⊕ZJ
abbrev tT:Type:=Int×(List Zn)×(List Zu)×(List Zu)×ZJ
abbrev tS:Type:=(List Zn)×Int×Int×(List Zu)×ZJ×(List Int)
abbrev tR:Type:=Int×Int×Int×(List ByteArray)×Zw×(List ByteArray)
abbrev tQ:Type:=ZJ×(List Zn)×(Nat→Nat)×t1m
abbrev tP:Type:=Int×(List CtSand)×Int×Zl×t1k
abbrev tO:Type:=Int×Int×(List Zw)×Zl×t1k
abbrev tN:Type:=(Bool×ByteArray×Nat)⊕t15
abbrev tM:Type:=(List Bool)×Int×(List Zn)×(List Bool)×Zu×ZJ
abbrev tL:Type:=Int×ZJ×(List Zn)×(Nat→Nat)×t1m
abbrev tK:Type:=Int×(List Zn)×(List Bool)×Int×Zu×ZJ×(List Int)
abbrev tJ:Type:=(Int×Int×Int×(List ByteArray)×ZJ)⊕((List ByteArray)×ZJ)
abbrev tI:Type:=Int×Int×(List Zn)×Int×Int×(List Zu)×ZJ×(List Bool)
abbrev tH:Type:=(Nat→Int)×ZJ×(List Zn)×(Nat→Nat)×t1m
abbrev tG:Type:=Int×(List Zn)×Bool×(List Bool)×Int×Zu×ZJ×(List Int)
abbrev tF:Type:=(List Zu)×ZJ×(List Zn)×(Nat→Nat)×t1m
abbrev tE:Type:=Int×Int×(List Zn)×Int×Int×(List Zu)×Int×(List Bool)×ZJ
abbrev tD:Type:=Int×(List Zn)×Bool×(List Bool)×Int×Int×Zu×ZJ×(List Int)
abbrev tC:Type:=(Int×Bool×ZJ×(List Zn)×(Nat→Nat)×Int×t1m)
abbrev tB:Type:=Int×(List Zu)×ZJ×(List Zn)×(Nat→Nat)×t1m
abbrev tA:Type:=Int×ZJ×(List Zn)×(Nat→Nat)×t1m×(List Zu)
abbrev tz:Type:=Int×Int×Int×ZJ×(List Zn)×(Nat→Nat)×Int×t1m
abbrev ty:Type:=Int×Int×Int×(List Zn)×Int×Int×(List Zu)×Int×(List Bool)×ZJ
abbrev tx:Type:=(List Zn)×ZJ×ZJ×(List Zn)×(Nat→Nat)×t1m
abbrev tw:Type:=tz
abbrev tv:Type:=Int×Z8×Bool×Int×Bool×Z8×Bool×Int×Z8×Z6
abbrev tu:Type:=Int×Int×ZJ×(List Zn)×(Nat→Nat)×t1m×(List Zu)
abbrev tt:Type:=Int×(List Zn)×Int×ZJ×(List Zn)×(Nat→Nat)×t1m
abbrev ts:Type:=Int×Int×ZJ×(List Zn)×(Nat→Nat)×t1m×Bool×Int×Int
abbrev tr:Type:=Int×Int×Int×(List Zn)×ZJ×(List Zn)×(Nat→Nat)×t1m
abbrev tq:Type:=Int×Int×(Nat→ZE)×ZJ×(List Zn)×(Nat→Nat)×t1m×Zu
abbrev tp:Type:=Int×Int×Int×ZJ×(List Zn)×(Nat→Nat)×t1m×Bool×Int×Int
abbrev to:Type:=Int×Int×Bool×Int×(List Zu)×t1m×ZJ×ZJ×(List Zn)×(Nat→Nat)
abbrev tn:Type:=Int×Int×(List Zu)×Int×Int×(Nat→Int)×ZJ×(List Zn)×(Nat→Nat)×t1m
abbrev tm:Type:=Int×Int×(List Zu)×Int×Z8×Bool×Int×Bool×Z8×Bool×Int×Z8×Z6
abbrev tl:Type:=Int×Int×(List Zu)×Z8×Bool×Int×Bool×Z8×Bool×Int×Z8×(List Int)×Zu
abbrev tk:Type:=(List Z5)×(List Zn)×Int×Int×ZJ×ZJ×(List Zn)×(Nat→Nat)×t1m
abbrev tj:Type:=Int×Int×Int×Bool×Int×Int×(List Zu)×t1m×ZJ×ZJ×(List Zn)×(Nat→Nat)
abbrev ti:Type:=Int×Int×(List Zn)×Int×Int×(Nat→ZE)×ZJ×(List Zn)×(Nat→Nat)×t1m×Zu
abbrev th:Type:=Int×Int×Int×Zl×(List Int)×Bool×Int×Bool×Zl×Int×Bool×(List Int)×Int×(List Zk)×Zw
abbrev tg:Type:=Int×Int×Int×Int×(List Z5)×(Nat→ZE)×ZJ×(List Zn)×(Nat→Nat)×t1m×Zu
abbrev tf:Type:=Int×Int×(List Zu)×Int×Int×(Nat→Int)×ZJ×(List Zn)×(Nat→Nat)×t1m×(Nat→ZE)×Zu
abbrev te:Type:=Int×Int×Int×Int×Int×Int×Bool×Int×Int×(List Zu)×t1m×ZJ×ZJ×(List Zn)×(Nat→Nat)
abbrev td:Type:=Int×Int×Int×(List Zu)×Int×Int×Int×Int×(Nat→Int)×ZJ×(List Zn)×(Nat→Nat)×t1m×(Nat→ZE)×Zu
abbrev tc:Type:=(Int×Bool×ZJ×(List Zn)×(Nat→Nat)×Int×t1m)⊕(ZJ×(List Zn)×(Nat→Nat)×Int×t1m)
abbrev tb:Type:=(Int×Int×ZJ×(List Zn)×(Nat→Nat)×Zn×Zn×t1m)⊕tQ
abbrev ta:Type:=(Int×Int×Int×(List ByteArray)×(List ByteArray)×Zl)⊕(Int×Int×Int×(List ByteArray)×(List ByteArray)×Zl)⊕((List ByteArray)×Zl)
abbrev t9:Type:=(Int×(List Int)×(List Int)×Zk)⊕(Int×(List Int)×(List Int)×(List Int)×Zk)⊕(Int×(List Int)×(List Int)×(List Int)×Zk)⊕(List Int)
abbrev t8:Type:=(Int×Int×Int×(List ByteArray)×ZJ×(List ByteArray)×Z5)⊕(Int×Int×Int×(List ByteArray)×ZJ×(List ByteArray)×Z5)⊕((List ByteArray)×ZJ)
abbrev t7:Type:=(Int×ZJ×(List Zn)×(Nat→Nat)×(Nat→ZE)×Zu×t1m×Bool×Int×Int)⊕(Int×ZJ×(List Zn)×(Nat→Nat)×t1m×Bool×Int×Int)
abbrev t6:Type:=(Z8×Bool×Int×Bool×Z8×Bool×Int×Z8×Zu×Z6×(List Int)×Zu)⊕(Z8×Bool×Int×Bool×Z8×Bool×Int×Z8×(List Int)×Zu)
abbrev t5:Type:=(Int×ZJ×(List Zn)×(Nat→Nat)×(Nat→ZE)×Zu×t1m×Bool×Int×Int)⊕ts
abbrev t4:Type:=(Int×Int×Int×Zl×t1k×CtSand)⊕(Int×Int×Int×Zl×t1k×CtSand)⊕(Int×Int×Int×Zl×t1k×CtSand)⊕(Zl×t1k)
abbrev t3:Type:=(Zk×Int×Int×Zl×(List Int)×Bool×Int×Bool×Zl×Int×Bool×(List Int)×Int×(List Zk)×Zw)⊕(Int×Int×Zl×(List Int)×Bool×Int×Bool×Zl×Int×Bool×(List Int)×Int×(List Zk)×Zw)
abbrev t2:Type:=(Int×Int×Int×(List ByteArray)×Zw×Zl×(List ByteArray))⊕(Int×Int×Int×(List ByteArray)×Zw×Zl×(List ByteArray))⊕(Int×Int×Int×(List ByteArray)×Zw×Zl×(List ByteArray))⊕(Zl×(List ByteArray))
abbrev t1:Type:=(Bool×(Nat→ZE)×ZJ×(List Zn)×(Nat→Nat)×ZE×t1m×Zu×Zn)⊕(Bool×(Nat→ZE)×ZJ×(List Zn)×(Nat→Nat)×ZE×t1m×Zu×Zn)⊕((Nat→ZE)×ZJ×(List Zn)×(Nat→Nat)×t1m×Zu)
abbrev t0:Type:=(Int×Int×Int×Zw×Zl×t1k)⊕(Int×Int×Int×Zw×Zl×t1k)⊕(Int×Int×Int×Zw×Zl×t1k×(List Zu))⊕(Int×Int×Int×Zw×Zl×t1k×(List Zu))⊕(Zl×t1k)
abbrev vO:Option (TV S):=some (.int .i64 0)
abbrev vN:Option (TV S):=some (.bool false)
abbrev vM:Option (TV S):=some (.sl .bool [])
abbrev vL:Option (TV S):=some (.sl (.st 2) [])
abbrev vK:Option (TV S):=some (.sl (.st 21) [])
abbrev vJ:Option (TV S):=some (.sl (.st 18) [])
abbrev oI:Option (Zi S):=some (.row 9 .str [] 1 1)
abbrev oH:Option (Zi S):=some (.row 9 .str [] 0 0)
abbrev oG:Option (Zi S):=some (.row 9 .str [] 1 0)
abbrev oF:Option (Zi S):=some (.row 4 .bool [] 1 0)
abbrev vE:Option (TV S):=some (.str ByteArray.empty)
abbrev oD:Option (Zi S):=some (.cells 163 [(.map 4)])
abbrev oC:Option (Zi S):=some (.cells 80 [(.ptr 3 0)])
abbrev oB:Option (Zi S):=some (.cells 80 [(.ptr 1 0)])
abbrev oA:Option (Zi S):=some (.row 57 (.st 2) [] 1 0)
abbrev oz:Option (Zi S):=some (.cells 80 [(.ptr 20 0)])
abbrev oy:Option (Zi S):=some (.cells 4 [(.bool false)])
abbrev ox:Option (Zi S):=some (.map .str (.int .i64) [])
abbrev ow:Option (Zi S):=some (.cells 3 [(.int .i64 0)])
abbrev ov:Option (Zi S):=some (.siter ByteArray.empty 0)
abbrev ou:Option (Zi S):=some (.cells 32 [(.int .i64 0)])
abbrev ot:Option (Zi S):=some (.row 3 (.int .i64) [] 1 0)
abbrev vs:Option (TV S):=some (.agg [(.stc 2 (T.dflt 2))])
abbrev vr:Option (TV S):=some (.agg [(.stc 8 (T.dflt 8))])
abbrev vq:Option (TV S):=some (.agg [(.stc 21 (T.dflt 21))])
abbrev op:Option (Zi S):=some (.map (.st 23) (.int .i64) [])
abbrev vo:Option (TV S):=some (.agg [(.stc 15 (T.dflt 15))])
abbrev on:Option (Zi S):=some (.cells 107 [(.sl (.st 3) [])])
abbrev vm:Option (TV S):=some (.fn (.func 91) [] [(.ptr 5 0)])
abbrev ol:Option (Zi S):=some (.cells 25 [(.stc 8 (T.dflt 8))])
abbrev ok:Option (Zi S):=some (.cells 57 [(.stc 2 (T.dflt 2))])
abbrev vj:Option (TV S):=some (.fn (.func 132) [] [(.ptr 36 0)])
abbrev oi:Option (Zi S):=some (.cells 169 [(.stc 7 (T.dflt 7))])
abbrev oh:Option (Zi S):=some (.cells 109 [(.stc 4 (T.dflt 4))])
abbrev vg:Option (TV S):=some (.fn (.func 131) [] [(.ptr 23 0)])
abbrev of:Option (Zi S):=some (.cells 148 [(.stc 3 (T.dflt 3))])
abbrev oe:Option (Zi S):=some (.cells 72 [(.stc 21 (T.dflt 21))])
abbrev od:Option (Zi S):=some (.cells 29 [(.stc 20 (T.dflt 20))])
abbrev oc:Option (Zi S):=some (.cells 70 [(.stc 18 (T.dflt 18))])
abbrev ob:Option (Zi S):=some (.cells 115 [(.stc 19 (T.dflt 19))])
abbrev oa:Option (Zi S):=some (.cells 196 [(.stc 17 (T.dflt 17))])
abbrev o9:Option (Zi S):=some (.cells 171 [(.stc 15 (T.dflt 15))])
abbrev o8:Option (Zi S):=some (.cells 119 [(.arr (.st 5) 4 (fun _=>tdf T (.st 5)))])
abbrev o7:Option (Zi S):=some (.cells 151 [(.arr (.int .i64) 32 (fun _=>tdf T (.int .i64)))])
abbrev o6:Option (Zi S):=some (.cells 90 [(.fn (.func 45) [] [(.ptr 4 0),(.ptr 1 0),(.ptr 0 0)])])
abbrev o5:Option (Zi S):=some (.cells 104 [(.stc 20 (T.dflt 20)),(.sl (.st 21) []),(.earr [97,159] 3 4 (fun _=>0)),(.map 2)])
abbrev o4:Option (Zi S):=some (.cells 104 [(.stc 20 (T.dflt 20)),(.sl (.st 21) []),(.earr [97,159] 1 4 (fun _=>0)),(.map 0)])
abbrev o3:Option (Zi S):=some (.cells 104 [(.stc 20 (T.dflt 20)),(.sl (.st 21) []),(.earr [97,159] 14 4 (fun _=>0)),(.map 13)])
abbrev o2:Option (Zi S):=some (.cells 104 [(.stc 20 (T.dflt 20)),(.sl (.st 21) []),(.earr [97,159] 20 4 (fun _=>0)),(.map 18)])
abbrev o1:Option (Zi S):=some (.loop 36 (N (N (N (N L (some (.fn (.func 108) [] [(.ptr 6 0)])) L) none L) (some (.ptr 2 0)) L) (some (.ptr 1 0)) (N L (some (.ptr 3 0)) L)) (8::[]) .skip .skip 0 .normal (0::(36::[])) (0::(1::(0::(1::[])))))
abbrev o0:Option (Zi S):=some (.loop 46 (N (N (N L (some (.ptr 3 0)) (N (N L (some (.fn (.func 108) [] [(.ptr 18 0)])) L) none L)) vO (N L (some (.ptr 14 0)) L)) (some (.ptr 1 0)) (N (N L (some (.ptr 4 0)) L) (some (.ptr 2 0)) L)) (20::[]) .skip .skip 0 .normal (0::(46::[])) (0::(1::(0::(1::(1::[]))))))
abbrev o1F:Tr (Zi S):=N L none (N (N L oG L) none L)
abbrev o1E:Tr (Zi S):=N (N L none (N L ot L)) none L
abbrev v1D:Tr (TV S):=N (N L none (N L vO L)) none L
abbrev o1C:Tr (Zi S):=N (N (N L ok L) none L) none L
abbrev o1B:Tr (Zi S):=N (N (N L ot L) none L) none L
abbrev v1A:Tr (TV S):=N L none (N (N L vO L) none L)
abbrev v1z:Tr (TV S):=N (N (N L vO L) none L) none L
abbrev o1y:Tr (Zi S):=N (N (N L ov L) none L) none L
abbrev v1x:Tr (TV S):=N (N L (some (.ptr 3 0)) L) none L
abbrev o1w:Tr (Zi S):=N (N (N L o8 L) o4 L) op (N L ok L)
abbrev o1v:Tr (Zi S):=N (N (N (N L oA L) none L) none L) od L
abbrev o1u:Tr (Zi S):=N (N (N L o5 L) ow L) o6 (N (N L oC L) op L)
abbrev v1t:Tr (TV S):=N (N (N L vO L) none L) none (N (N L vO L) vO L)
abbrev o1s:Tr (Zi S):=N (N L none (N L oD L)) ol (N (N L ox L) none L)
abbrev v1r:Tr (TV S):=N (N L none (N L vO L)) none (N (N L vO L) none L)
abbrev v1q:Tr (TV S):=N (N L vK L) (some (.agg [(.stc 20 (T.dflt 20))])) L
abbrev o1p:Tr (Zi S):=N L none (N (N (N (N L oc L) none L) none L) none L)
abbrev v1o:Tr (TV S):=N (N (N L vO L) (some (.ptr 6 0)) L) (some (.yld 11)) L
abbrev v1n:Tr (TV S):=N (N (N L vO L) (some (.ptr 18 0)) L) (some (.yld 22)) L
abbrev v1m:Tr (TV S):=N (N L vO (N L vO L)) vK (N L (some (.ptr 0 0)) (N L vO L))
abbrev o1l:Tr (Zi S):=N (N L ok L) od (N o1E none L)
abbrev o1k:Tr (Zi S):=N L od (N (N o1B none L) none L)
abbrev o1j:Tr (Zi S):=N L od (N (N (N L none (N (N L ot L) none L)) none L) none L)
abbrev v1i:Tr (TV S):=N (N L vO (N L (some (.rs 15 0)) L)) vL (N L none (N L vO L))
abbrev o1h:Tr (Zi S):=N (N (N o1F none L) none L) od L
abbrev v1g:Tr (TV S):=N (N L none (N L vO L)) (some (.ptr 0 0)) (N (N L vL L) none L)
abbrev v1f:Tr (TV S):=N L (some (.tup [(.agg [(.stc 5 (T.dflt 5))]),(.bool false)])) L
abbrev o1e:Tr (Zi S):=N (N (N L o7 L) o4 L) op (N L none (N (N (N L o8 L) ok L) none L))
abbrev o1d:Tr (Zi S):=N (N L none (N L oD (N (N L oh L) none L))) ol (N (N L ox L) none L)
abbrev o1c:Tr (Zi S):=N (N L none (N L oD L)) ol (N (N L ox L) none (N L none (N L none (N L oi L))))
abbrev v1b:Tr (TV S):=N (N L none (N (N L vN L) none L)) none (N v1x none L)
abbrev o1a:Tr (Zi S):=N L none (N (N (N (N L (some (.cells 37 [(.stc 5 (T.dflt 5))])) L) none L) none L) none L)
abbrev o19:Tr (Zi S):=N (N L oz L) od (N (N L none (N (N L o2 L) none L)) none (N (N (N L op L) none L) none L))
abbrev o18:Tr (Zi S):=N (N (N L (some (.cells 31 [(.rs 19 0)])) (N (N L oA L) o1 L)) o4 L) op (N L oB (N L oB L))
abbrev o17:Tr (Zi S):=N (N (N L none (N L none (N (N L oH L) none L))) none (N L none (N (N L oI L) none L))) ol L
abbrev o16:Tr (Zi S):=N (N L oz L) none (N (N L none (N (N L o2 L) none L)) none (N (N (N L op L) none L) none L))
abbrev o15:Tr (Zi S):=N (N (N L ow L) o4 L) op (N (N L oy L) oB (N (N (N L oB L) none L) none (N (N L o0 L) ow L)))
abbrev v14:Tr (TV S):=N (N (N L (some (.ptr 1 0)) L) vO (N L (some (.rs 24 0)) L)) vK (N L (some (.ptr 0 0)) (N L vN L))
abbrev v13:Tr (TV S):=N (N (N (N L vO L) none L) (some (.fn (.func 97) [] [(.ptr 0 0)])) L) vJ v1z
abbrev v12:Tr (TV S):=N (N (N L (some (.ptr 14 0)) L) vO L) (some (.ptr 0 0)) (N (N L vN L) vO v1z)
abbrev o11:Tr (Zi S):=N (N L none (N L oD (N (N L oh L) none L))) ol (N (N L ox L) none (N (N (N L none (N L oA L)) none L) none L))
abbrev o10:Tr (Zi S):=N (N (N L none (N (N (N L oA L) none L) none L)) none (N L none (N L op L))) od (N L none (N L none (N L o3 L)))
abbrev oZ:Tr (Zi S):=N (N (N L none (N L none (N (N L oA L) none L))) none (N L none (N L op L))) od (N L none (N L none (N L o3 L)))
abbrev oY:Tr (Zi S):=N (N (N L ot L) none (N L none (N (N L ot L) none L))) none (N (N (N (N L ot L) none L) none (N L of L)) none L)
abbrev oX:Tr (Zi S):=N (N (N L (some (.cells 31 [(.rs 34 0)])) (N L o1 L)) o4 L) op (N L oB (N (N (N (N L oA L) none L) none L) oB L))
abbrev oW:Tr (Zi S):=N (N (N (N (N (N L oH L) none L) none L) none L) none (N L none (N (N L oh L) none L))) ol (N L none (N (N L oI L) none L))
abbrev vV:Tr (TV S):=N (N (N L none (N L vO L)) (some (.fn (.func 66) [] [])) (N (N L (some (.sl (.st 19) [])) L) none L)) none v1A
abbrev oU:Tr (Zi S):=N (N (N (N L none (N (N L oI L) none L)) none L) none L) od (N (N L none (N L none (N L none (N L oH L)))) none (N (N (N L none (N L oc L)) none L) none L))
abbrev vT:Tr (TV S):=N (N (N L vO L) none (N (N (N L vO L) (some (.ptr 3 0)) L) none L)) (some (.ptr 1 0)) (N (N (N (N L vL L) none L) none L) vO v1z)
abbrev oS:Tr (Zi S):=N (N (N (N L none (N L o9 L)) none (N L none (N L (some (.loop 95 (N (N (N (N (N L vN L) none L) vO L) (some (.ptr 0 0)) (N (N L none (N L vN L)) none L)) vo (N (N (N L vN L) none (N L none (N L vg L))) (some (.ptr 1 0)) L)) (29::[]) .skip .skip 1 .normal (1::(95::[])) (0::(1::(0::(1::(1::(1::[])))))))) L))) ou L) o9 (N L none (N L ot o1C))
abbrev oR:Tr (Zi S):=N (N (N (N L none (N L o9 L)) none (N L none (N L (some (.loop 95 (N (N (N (N (N L vN L) none L) vO L) (some (.ptr 0 0)) (N (N L none (N L vN L)) none L)) vo (N (N (N L vN L) none (N L none (N L vg L))) (some (.ptr 1 0)) L)) (29::[]) .skip .skip 1 .busy (1::(95::[])) (0::(1::(0::(1::(1::(1::[])))))))) L))) ou L) o9 (N L none (N (N L none (N L none (N L oa L))) none L))
abbrev oQ:Tr (Zi S):=N (N (N L ow L) ow L) ol (N (N (N (N L ot L) none (N (N L (some (.loop 109 (N (N (N (N L (some (.ptr 3 0)) L) (some (.ptr 0 0)) (N L none (N (N L vj L) vN L))) vO (N (N (N L vN L) none L) none L)) vr (N (N (N L (some (.ptr 4 0)) L) (some (.ptr 1 0)) L) vO (N L (some (.ptr 2 0)) (N (N L vN L) none L)))) (44::(45::[])) .skip .skip 1 .normal (1::(109::[])) (0::(1::(0::(1::(1::(1::(1::[]))))))))) L) ot L)) ou (N (N (N L on L) none L) none L)) oh L)
abbrev oP:Tr (Zi S):=N (N (N L ow L) o4 (N (N L none (N L none (N (N L o8 L) none L))) none (N o1C none L))) op (N (N L oy L) oB (N (N (N L oB L) none L) none (N (N L (some (.loop 46 (N (N (N L (some (.ptr 3 0)) (N (N L (some (.fn (.func 108) [] [(.ptr 18 0)])) L) none L)) vO (N L (some (.ptr 14 0)) L)) (some (.ptr 1 0)) (N (N L (some (.ptr 4 0)) L) (some (.ptr 2 0)) L)) (20::[]) .skip .skip 0 .ret (0::(46::[])) (0::(1::(0::(1::(1::[]))))))) L) ow L)))
def q0 {R:Type}:Prs S R:=Zhf
theorem q1 {R:Type}:Z7R X (q0 (R:=R)):=Zhg X
def q2:List (Nat×F7 S):=[]
theorem q3:Z9n X (q2):=trivial
abbrev q4 {R:Type}:Z27 S R:=Zgi
theorem q5 {R:Type}:Z3J X (q4 (R:=R)):=ZgQ X
def q6:Key:=⟨[92],92,none,[0,0,1,0,1,1],0,4⟩
def q7:StT S:=⟨(N (N (N (N L (some (.iter 3)) L) (some (.int .i32 0)) L) none L) vE L),o1y,4⟩
def q8:Way S:=⟨.ret,⟨(N L none (N L vN L)),o1y,23⟩,[.bool,.str,.nat]⟩
def q9:Way S:=⟨(.exit 0),⟨(N (N (N L (some (.int .i32 0)) L) none L) vE L),o1y,6⟩,[.int,.str,.str,.nat]⟩
def qa:LE S:=⟨q6,q7,[.int,.str,.str,.nat],[q8,q9]⟩
def qb (x:t15):((Bool×Nat)⊕(Int×Nat))→tN:=Sum.elim (fun y0=>(.inl (y0.1,x.2.2.1,y0.2))) (fun y1=>(.inr (y1.1,x.2.1,x.2.2.1,y1.2)))
def qc {R:Type} (x:t15) (k:tN→Option R):Option R:=(X4M x.2.1 x.2.2.1 (x.1,x.2.2.2)).bind (Sum.elim (fun y0=>k (.inl (y0.1,x.2.2.1,y0.2))) (fun y1=>k (.inr (y1.1,x.2.1,x.2.2.1,y1.2))))
def qd (x:t15) (v:(Int×Nat)):t15:=(v.1,x.2.1,x.2.2.1,v.2)
theorem qe (x:t15):LE.step X qa q2 q0 q4 12 x=X18 x.2.1 x.2.2.1 x.1 x.2.2.2 (fun w0 w1=>(Sum.inl (w0,x.2.1,x.2.2.1,w1))) (fun p0 p1=>(Sum.inr (.inl (p0,x.2.2.1,p1)))) (fun p0 p1=>(Sum.inr (.inr (p0,x.2.1,x.2.2.1,p1)))):=by kernel_rfl
theorem qg {R:Type} (x:t15) (k:tN→Option R) (r:R) (h:qc x k=some r):∃ o,Z5s (LE.step X qa q2 q0 q4 12) x o∧k o=some r:=by
 obtain ⟨o,h1,h2⟩:=Z0 h
 exact ⟨qb x o,Zhl (st:=fun (x:t15)=>X14 x.2.1 x.2.2.1) (prj:=fun x=>(x.1,x.2.2.2)) (emb:=qd) (embO:=qb) (fun x=>(qe x).trans (by unfold X14 X18;simp only [Zhd,Zh8,Zhe,Option.map_some,Option.map_none];rfl)) (fun _ _=>rfl) (fun _ _=>rfl) (fun _ _ _=>rfl) (fun _ _ _=>rfl) (fun _=>rfl) (Z1S.1 h1),by
  first
  | exact h2
  | (rcases o with o|o<;>exact h2)⟩
def qh {R:Type}:Z27 S R:=LE.ls X qa qc q4
theorem qi {R:Type}:Z3J X (qh (R:=R)):=Zhq xok q3 (e:=qa) q1 q5 qg q5
theorem qj (x0:ByteArray):Zhs X q2 [.str] [.bool] q0 qh 12 92 (x0,())=X39 x0:=by kernel_rfl
def qk:F7 S:=⟨[.str],[.bool],fun xs=>X39 xs.1⟩
theorem ql:Z7Q X 92 qk:=Zho (Zhn xok q3 q1 qi 12 92) fun xs _ h=>(qj xs.1).trans h
def qm:List (Nat×F7 S):=[]
theorem qn:Z9n X (qm):=trivial
abbrev qo {R:Type}:Z27 S R:=Zgi
theorem qp {R:Type}:Z3J X (qo (R:=R)):=ZgQ X
def qq:Key:=⟨[114,2,1,89,2,1,117],114,none,[0,0,1,0,1],0,17⟩
def qr:StT S:=⟨(N (N (N (N L vO L) none L) (some (.fn (.func 130) [] [(.ptr 0 0),(.ptr 1 0)])) L) (some (.sl (.int .i64) [])) v1z),(N (N L ow L) ow L),17⟩
def qs:Way S:=⟨.ret,⟨v1A,(N (N L ow L) ow L),38⟩,[.int,.int,.int]⟩
def qt:Way S:=⟨(.exit 0),⟨L,(N (N L ow L) ow L),18⟩,[.int,.int]⟩
def qu:LE S:=⟨qq,qr,[.int,(.lst (.int .i64)),.int,.int,.int],[qs,qt]⟩
def qv (x:t13):(Int⊕Unit)→t1b:=Sum.elim (fun y0=>(.inl (y0,x.2.2.2.1,x.2.2.2.2))) (fun y1=>(.inr (x.2.2.2.1,x.2.2.2.2)))
def qw {R:Type} (x:t13) (k:t1b→Option R):Option R:=(X59 x.1 x.2.1 x.2.2.2.1 x.2.2.2.2 x.2.2.1).bind (Sum.elim (fun y0=>k (.inl (y0,x.2.2.2.1,x.2.2.2.2))) (fun y1=>k (.inr (x.2.2.2.1,x.2.2.2.2))))
def qx (x:t13) (v:Int):t13:=(x.1,x.2.1,v,x.2.2.2.1,x.2.2.2.2)
theorem qy (x:t13):LE.step X qu qm q0 qo 12 x=X1y x.1 x.2.1 x.2.2.2.1 x.2.2.2.2 x.2.2.1 (fun w0=>(Sum.inl (x.1,x.2.1,w0,x.2.2.2.1,x.2.2.2.2))) (fun p0=>(Sum.inr (.inl (p0,x.2.2.2.1,x.2.2.2.2)))) (Sum.inr (.inr (x.2.2.2.1,x.2.2.2.2))):=by kernel_rfl
theorem qA {R:Type} (x:t13) (k:t1b→Option R) (r:R) (h:qw x k=some r):∃ o,Z5s (LE.step X qu qm q0 qo 12) x o∧k o=some r:=by
 obtain ⟨o,h1,h2⟩:=Z0 h
 exact ⟨qv x o,Zhl (st:=fun (x:t13)=>X1s x.1 x.2.1 x.2.2.2.1 x.2.2.2.2) (prj:=fun x=>x.2.2.1) (emb:=qx) (embO:=qv) (fun x=>(qy x).trans (by unfold X1s X1y;simp only [Zhd,Zh8,Zhe,Option.map_some,Option.map_none];rfl)) (fun _ _=>rfl) (fun _ _=>rfl) (fun _ _ _=>rfl) (fun _ _ _=>rfl) (fun _=>rfl) (Z1S.1 h1),by
  first
  | exact h2
  | (rcases o with o|o<;>exact h2)⟩
def qB {R:Type}:Z27 S R:=LE.ls X qu qw qo
theorem qC {R:Type}:Z3J X (qB (R:=R)):=Zhq xok qn (e:=qu) q1 qp qA qp
theorem qD (x0:Int) (x1:Int) (x2:List Int):Zhs X qm [(.int .i64),(.int .i64),(.sl (.int .i64))] [.bool] q0 qB 12 117 (x0,x1,x2,())=X1r x0 x1 x2:=by kernel_rfl
def qE:F7 S:=⟨[(.int .i64),(.int .i64),(.sl (.int .i64))],[.bool],fun xs=>X1r xs.1 xs.2.1 xs.2.2.1⟩
theorem qF:Z7Q X 117 qE:=Zho (Zhn xok qn q1 qC 12 117) fun xs _ h=>(qD xs.1 xs.2.1 xs.2.2.1).trans h
def qG:List (Nat×F7 S):=[(117,qE)]
theorem qH:Z9n X (qG):=⟨qF,trivial⟩
abbrev qI {R:Type}:Z27 S R:=Zgi
theorem qJ {R:Type}:Z3J X (qI (R:=R)):=ZgQ X
def qK:Key:=⟨[129,2,1,115,2,1,93],129,none,[0,0,1,0,1],0,16⟩
def qL:StT S:=⟨(N (N (N (N L vO L) none L) (some (.fn (.func 116) [] [(.ptr 0 0)])) L) vL v1z),(N L ow L),16⟩
def qM:Way S:=⟨.ret,⟨v1A,(N (N L none (N (N L none (N L ok L)) none L)) ow (N L none (N o1B none L))),39⟩,[.int,(.st 2),.int,(.lst (.int .i64))]⟩
def qN:Way S:=⟨(.exit 0),⟨L,(N L ow L),17⟩,[.int]⟩
def qO:LE S:=⟨qK,qL,[.int,(.lst (.st 2)),.int,.int],[qM,qN]⟩
def qP (x:t1c):((Int×Zu×(List Int))⊕Unit)→((Int×Zu×Int×(List Int))⊕Int):=Sum.elim (fun y0=>(.inl (y0.1,y0.2.1,x.2.2.2,y0.2.2))) (fun y1=>(.inr x.2.2.2))
def qQ {R:Type} (x:t1c) (k:((Int×Zu×Int×(List Int))⊕Int)→Option R):Option R:=(X57 x.1 x.2.1 x.2.2.2 x.2.2.1).bind (Sum.elim (fun y0=>k (.inl (y0.1,y0.2.1,x.2.2.2,y0.2.2))) (fun y1=>k (.inr x.2.2.2)))
def qR (x:t1c) (v:Int):t1c:=(x.1,x.2.1,v,x.2.2.2)
theorem qS (x:t1c):LE.step X qO qG q0 qI 12 x=X1x x.1 x.2.1 x.2.2.2 x.2.2.1 (fun w0=>(Sum.inl (x.1,x.2.1,w0,x.2.2.2))) (fun p0 p1 p2=>(Sum.inr (.inl (p0,p1,x.2.2.2,p2)))) (Sum.inr (.inr x.2.2.2)):=by kernel_rfl
theorem qU {R:Type} (x:t1c) (k:((Int×Zu×Int×(List Int))⊕Int)→Option R) (r:R) (h:qQ x k=some r):∃ o,Z5s (LE.step X qO qG q0 qI 12) x o∧k o=some r:=by
 obtain ⟨o,h1,h2⟩:=Z0 h
 exact ⟨qP x o,Zhl (st:=fun (x:t1c)=>X1q x.1 x.2.1 x.2.2.2) (prj:=fun x=>x.2.2.1) (emb:=qR) (embO:=qP) (fun x=>(qS x).trans (by unfold X1q X1x;simp only [Zhd,Zh8,Zhe,Option.map_some,Option.map_none];rfl)) (fun _ _=>rfl) (fun _ _=>rfl) (fun _ _ _=>rfl) (fun _ _ _=>rfl) (fun _=>rfl) (Z1S.1 h1),by
  first
  | exact h2
  | (rcases o with o|o<;>exact h2)⟩
def qV {R:Type}:Z27 S R:=LE.ls X qO qQ qI
theorem qW {R:Type}:Z3J X (qV (R:=R)):=Zhq xok qH (e:=qO) q1 qJ qU qJ
theorem qX (x0:Int) (x1:List Zu):Zhs X qG [(.int .i64),(.sl (.st 2))] [.bool] q0 qV 12 93 (x0,x1,())=X4n x0 x1:=by kernel_rfl
def qY:F7 S:=⟨[(.int .i64),(.sl (.st 2))],[.bool],fun xs=>X4n xs.1 xs.2.1⟩
theorem qZ:Z7Q X 93 qY:=Zho (Zhn xok qH q1 qW 12 93) fun xs _ h=>(qX xs.1 xs.2.1).trans h
def q10:List (Nat×F7 S):=[(117,qE)]
theorem q11:Z9n X (q10):=⟨qF,trivial⟩
abbrev q12 {R:Type}:Z27 S R:=Zgi
theorem q13 {R:Type}:Z3J X (q12 (R:=R)):=ZgQ X
def q14:Key:=⟨[94],94,none,[0,0,1,0,1,1,1],0,9⟩
def q15:StT S:=⟨(N (N (N L vO (N L vO L)) none L) none (N (N L none (N L vO L)) none (N (N L (some (.sl (.st 3) [])) L) none L))),o1B,9⟩
def q16:Way S:=⟨.ret,⟨(N L none (N L vO L)),(N (N (N L ot L) none L) none (N (N (N (N L ot L) none L) none (N L of L)) none L)),26⟩,[.int,(.lst (.int .i64)),(.lst (.int .i64)),(.st 3)]⟩
def q17:Way S:=⟨.ret,⟨(N L none (N L vO L)),oY,26⟩,[.int,(.lst (.int .i64)),(.lst (.int .i64)),(.lst (.int .i64)),(.st 3)]⟩
def q18:Way S:=⟨.ret,⟨(N L none (N L vO L)),oY,31⟩,[.int,(.lst (.int .i64)),(.lst (.int .i64)),(.lst (.int .i64)),(.st 3)]⟩
def q19:Way S:=⟨(.exit 0),⟨L,o1B,10⟩,[(.lst (.int .i64))]⟩
def q1a:LE S:=⟨q14,q15,[.int,.int,.int,(.lst (.st 3)),(.lst (.int .i64))],[q16,q17,q18,q19]⟩
def q1b (x:t10):((Int×(List Int)×Zk)⊕(Int×(List Int)×(List Int)×Zk)⊕(Int×(List Int)×(List Int)×Zk)⊕Unit)→t9:=Sum.elim (fun y0=>(.inl (y0.1,x.2.2.2.2,y0.2.1,y0.2.2))) (Sum.elim (fun y1=>(.inr (.inl (y1.1,x.2.2.2.2,y1.2.1,y1.2.2.1,y1.2.2.2)))) (Sum.elim (fun y2=>(.inr (.inr (.inl (y2.1,x.2.2.2.2,y2.2.1,y2.2.2.1,y2.2.2.2))))) (fun y3=>(.inr (.inr (.inr x.2.2.2.2))))))
def q1c {R:Type} (x:t10) (k:t9→Option R):Option R:=(X4b x.2.1 x.2.2.2.1 x.2.2.2.2 (x.1,x.2.2.1)).bind (Sum.elim (fun y0=>k (.inl (y0.1,x.2.2.2.2,y0.2.1,y0.2.2))) (Sum.elim (fun y1=>k (.inr (.inl (y1.1,x.2.2.2.2,y1.2.1,y1.2.2.1,y1.2.2.2)))) (Sum.elim (fun y2=>k (.inr (.inr (.inl (y2.1,x.2.2.2.2,y2.2.1,y2.2.2.1,y2.2.2.2))))) (fun y3=>k (.inr (.inr (.inr x.2.2.2.2)))))))
def q1d (x:t10) (v:(Int×Int)):t10:=(v.1,x.2.1,v.2,x.2.2.2.1,x.2.2.2.2)
theorem q1e (x:t10):LE.step X q1a q10 q0 q12 12 x=Wi x.2.1 x.2.2.2.1 x.2.2.2.2 x.1 x.2.2.1 (fun w0 w1=>(Sum.inl (w0,x.2.1,w1,x.2.2.2.1,x.2.2.2.2))) (fun p0 p1 p2=>(Sum.inr (.inl (p0,x.2.2.2.2,p1,p2)))) (fun p0 p1 p2 p3=>(Sum.inr (.inr (.inl (p0,x.2.2.2.2,p1,p2,p3))))) (fun p0 p1 p2 p3=>(Sum.inr (.inr (.inr (.inl (p0,x.2.2.2.2,p1,p2,p3)))))) (Sum.inr (.inr (.inr (.inr x.2.2.2.2)))):=by kernel_rfl
theorem q1g {R:Type} (x:t10) (k:t9→Option R) (r:R) (h:q1c x k=some r):∃ o,Z5s (LE.step X q1a q10 q0 q12 12) x o∧k o=some r:=by
 obtain ⟨o,h1,h2⟩:=Z0 h
 exact ⟨q1b x o,Zhl (st:=fun (x:t10)=>W4 x.2.1 x.2.2.2.1 x.2.2.2.2) (prj:=fun x=>(x.1,x.2.2.1)) (emb:=q1d) (embO:=q1b) (fun x=>(q1e x).trans (by unfold W4 Wi;simp only [Zhd,Zh8,Zhe,Option.map_some,Option.map_none];rfl)) (fun _ _=>rfl) (fun _ _=>rfl) (fun _ _ _=>rfl) (fun _ _ _=>rfl) (fun _=>rfl) (Z1S.1 h1),by
  first
  | exact h2
  | (rcases o with o|o|o|o<;>exact h2)⟩
def q1h {R:Type}:Z27 S R:=LE.ls X q1a q1c q12
theorem q1i {R:Type}:Z3J X (q1h (R:=R)):=Zhq xok q11 (e:=q1a) q1 q13 q1g q13
theorem q1j (x0:List Zk):Zhs X q10 [(.sl (.st 3))] [(.int .i64)] q0 q1h 12 94 (x0,())=X3l x0:=by kernel_rfl
def q1k:F7 S:=⟨[(.sl (.st 3))],[(.int .i64)],fun xs=>X3l xs.1⟩
theorem q1l:Z7Q X 94 q1k:=Zho (Zhn xok q11 q1 q1i 12 94) fun xs _ h=>(q1j xs.1).trans h
def q1m:List (Nat×F7 S):=[(117,qE)]
theorem q1n:Z9n X (q1m):=⟨qF,trivial⟩
abbrev q1o {R:Type}:Z27 S R:=Zgi
theorem q1p {R:Type}:Z3J X (q1o (R:=R)):=ZgQ X
theorem q1q (x0:ZB) (x1:Int):Zhs X q1m [(.st 6),(.int .i64)] [(.int .i64)] q0 q1o 12 118 (x0,x1,())=X56 x0 x1:=by kernel_rfl
def q1r:F7 S:=⟨[(.st 6),(.int .i64)],[(.int .i64)],fun xs=>X56 xs.1 xs.2.1⟩
theorem q1s:Z7Q X 118 q1r:=Zho (Zhn xok q1n q1 q1p 12 118) fun xs _ h=>(q1q xs.1 xs.2.1).trans h
def q1t:List (Nat×F7 S):=[]
theorem q1u:Z9n X (q1t):=trivial
abbrev q1v {R:Type}:Z27 S R:=Zgi
theorem q1w {R:Type}:Z3J X (q1v (R:=R)):=ZgQ X
theorem q1x (x0:Zu) (x1:Zu):Zhs X q1t [(.st 2),(.st 2)] [(.st 2)] q0 q1v 12 121 (x0,x1,())=X7g x0 x1:=by kernel_rfl
def q1y:F7 S:=⟨[(.st 2),(.st 2)],[(.st 2)],fun xs=>X7g xs.1 xs.2.1⟩
theorem q1z:Z7Q X 121 q1y:=Zho (Zhn xok q1u q1 q1w 12 121) fun xs _ h=>(q1x xs.1 xs.2.1).trans h
def q1A:List (Nat×F7 S):=[]
theorem q1B:Z9n X (q1A):=trivial
abbrev q1C {R:Type}:Z27 S R:=Zgi
theorem q1D {R:Type}:Z3J X (q1C (R:=R)):=ZgQ X
theorem q1E (x0:Zu) (x1:Zu):Zhs X q1A [(.st 2),(.st 2)] [(.int .i64)] q0 q1C 12 120 (x0,x1,())=X7h x0 x1:=by kernel_rfl
def q1F:F7 S:=⟨[(.st 2),(.st 2)],[(.int .i64)],fun xs=>X7h xs.1 xs.2.1⟩
theorem q1G:Z7Q X 120 q1F:=Zho (Zhn xok q1B q1 q1D 12 120) fun xs _ h=>(q1E xs.1 xs.2.1).trans h
def q1H:List (Nat×F7 S):=[(117,qE),(93,qY),(118,q1r),(121,q1y),(120,q1F)]
theorem q1I:Z9n X (q1H):=⟨qF,qZ,q1s,q1z,q1G,trivial⟩
abbrev q1J {R:Type}:Z27 S R:=Zgi
theorem q1K {R:Type}:Z3J X (q1J (R:=R)):=ZgQ X
def q1L:Key:=⟨[27,6,4,131,1,95],95,(some 27),[0,0,1,0,1,0,1,0,1,0,1,1,1],3,66⟩
def q1M:StT S:=⟨(N (N L none (N v1z vO L)) none (N (N (N (N (N L vL L) none L) none L) (some (.ptr 58 0)) L) (some (.ptr 1 0)) (N v1z none L))),oR,66⟩
def q1N:Way S:=⟨(.exit 3),⟨(N (N L none (N L vO L)) none (N (N L (some (.ptr 58 0)) L) (some (.ptr 1 0)) L)),oR,67⟩,[.int,(.st 15),.bool,.int,.bool,(.st 15),.bool,.int,(.st 15),(.st 17)]⟩
def q1O:LE S:=⟨q1L,q1M,[.int,.int,(.lst (.st 2)),.int,(.st 15),.bool,.int,.bool,(.st 15),.bool,.int,(.st 15),(.st 17)],[q1N]⟩
def q1P (x:tm):Int→tv:=fun y0=>(y0,x.2.2.2.2.1,x.2.2.2.2.2.1,x.2.2.2.2.2.2.1,x.2.2.2.2.2.2.2.1,x.2.2.2.2.2.2.2.2.1,x.2.2.2.2.2.2.2.2.2.1,x.2.2.2.2.2.2.2.2.2.2.1,x.2.2.2.2.2.2.2.2.2.2.2.1,x.2.2.2.2.2.2.2.2.2.2.2.2)
def q1Q {R:Type} (x:tm) (k:tv→Option R):Option R:=(Wv x.1 x.2.2.1 x.2.2.2.2.1 x.2.2.2.2.2.1 x.2.2.2.2.2.2.1 x.2.2.2.2.2.2.2.1 x.2.2.2.2.2.2.2.2.1 x.2.2.2.2.2.2.2.2.2.1 x.2.2.2.2.2.2.2.2.2.2.1 x.2.2.2.2.2.2.2.2.2.2.2.1 x.2.2.2.2.2.2.2.2.2.2.2.2 (x.2.1,x.2.2.2.1)).bind (fun y0=>k (y0,x.2.2.2.2.1,x.2.2.2.2.2.1,x.2.2.2.2.2.2.1,x.2.2.2.2.2.2.2.1,x.2.2.2.2.2.2.2.2.1,x.2.2.2.2.2.2.2.2.2.1,x.2.2.2.2.2.2.2.2.2.2.1,x.2.2.2.2.2.2.2.2.2.2.2.1,x.2.2.2.2.2.2.2.2.2.2.2.2))
def q1R (x:tm) (v:(Int×Int)):tm:=(x.1,v.1,x.2.2.1,v.2,x.2.2.2.2.1,x.2.2.2.2.2.1,x.2.2.2.2.2.2.1,x.2.2.2.2.2.2.2.1,x.2.2.2.2.2.2.2.2.1,x.2.2.2.2.2.2.2.2.2.1,x.2.2.2.2.2.2.2.2.2.2.1,x.2.2.2.2.2.2.2.2.2.2.2.1,x.2.2.2.2.2.2.2.2.2.2.2.2)
theorem q1S (x:tm):LE.step X q1O q1H q0 q1J 12 x=Xw x.1 x.2.2.1 x.2.2.2.2.1 x.2.2.2.2.2.1 x.2.2.2.2.2.2.1 x.2.2.2.2.2.2.2.1 x.2.2.2.2.2.2.2.2.1 x.2.2.2.2.2.2.2.2.2.1 x.2.2.2.2.2.2.2.2.2.2.1 x.2.2.2.2.2.2.2.2.2.2.2.1 x.2.2.2.2.2.2.2.2.2.2.2.2 x.2.1 x.2.2.2.1 (fun w0 w1=>(Sum.inl (x.1,w0,x.2.2.1,w1,x.2.2.2.2.1,x.2.2.2.2.2.1,x.2.2.2.2.2.2.1,x.2.2.2.2.2.2.2.1,x.2.2.2.2.2.2.2.2.1,x.2.2.2.2.2.2.2.2.2.1,x.2.2.2.2.2.2.2.2.2.2.1,x.2.2.2.2.2.2.2.2.2.2.2.1,x.2.2.2.2.2.2.2.2.2.2.2.2))) (fun p0=>(Sum.inr (p0,x.2.2.2.2.1,x.2.2.2.2.2.1,x.2.2.2.2.2.2.1,x.2.2.2.2.2.2.2.1,x.2.2.2.2.2.2.2.2.1,x.2.2.2.2.2.2.2.2.2.1,x.2.2.2.2.2.2.2.2.2.2.1,x.2.2.2.2.2.2.2.2.2.2.2.1,x.2.2.2.2.2.2.2.2.2.2.2.2))):=by kernel_rfl
theorem q1U {R:Type} (x:tm) (k:tv→Option R) (r:R) (h:q1Q x k=some r):∃ o,Z5s (LE.step X q1O q1H q0 q1J 12) x o∧k o=some r:=by
 obtain ⟨o,h1,h2⟩:=Z0 h
 exact ⟨q1P x o,Zhl (st:=fun (x:tm)=>Xl x.1 x.2.2.1 x.2.2.2.2.1 x.2.2.2.2.2.1 x.2.2.2.2.2.2.1 x.2.2.2.2.2.2.2.1 x.2.2.2.2.2.2.2.2.1 x.2.2.2.2.2.2.2.2.2.1 x.2.2.2.2.2.2.2.2.2.2.1 x.2.2.2.2.2.2.2.2.2.2.2.1 x.2.2.2.2.2.2.2.2.2.2.2.2) (prj:=fun x=>(x.2.1,x.2.2.2.1)) (emb:=q1R) (embO:=q1P) (fun x=>(q1S x).trans (by unfold Xl Xw;simp only [Zhd,Zh8,Zhe,Option.map_some,Option.map_none];rfl)) (fun _ _=>rfl) (fun _ _=>rfl) (fun _ _ _=>rfl) (fun _ _ _=>rfl) (fun _=>rfl) (Z1S.1 h1),by
  first
  | exact h2
  | (rcases o with o<;>exact h2)⟩
def q1V {R:Type}:Z27 S R:=LE.ls X q1O q1Q q1J
theorem q1W {R:Type}:Z3J X (q1V (R:=R)):=Zhq xok q1I (e:=q1O) q1 q1K q1U q1K
def q1X:Key:=⟨[131,1,95],131,none,[0,0,1,1],0,45⟩
def q1Y:StT S:=⟨(N (N (N L (some (.ptr 38 0)) (N (N L vO L) none L)) none L) (some (.yld 27)) (N v1A none (N (N (N L vL L) none L) none L))),oS,45⟩
def q1Z:Way S:=⟨.ret,⟨L,(N (N (N (N L none (N L o9 L)) none (N L none (N L (some (.loop 95 (N (N (N (N (N L vN L) none L) vO L) (some (.ptr 0 0)) (N (N L none (N L vN L)) none L)) vo (N (N (N L vN L) none (N L none (N L vg L))) (some (.ptr 1 0)) L)) (29::[]) .skip .skip 1 .ret (1::(95::[])) (0::(1::(0::(1::(1::(1::[])))))))) L))) ou L) o9 (N (N (N (N L none (N L ok L)) none L) none L) none (N (N L none (N L none (N L oa L))) ot o1C))),76⟩,[(.st 15),.bool,.int,.bool,(.st 15),.bool,.int,(.st 15),(.st 2),(.st 17),(.lst (.int .i64)),(.st 2)]⟩
def q20:Way S:=⟨(.exit 0),⟨L,oS,46⟩,[(.st 15),.bool,.int,.bool,(.st 15),.bool,.int,(.st 15),(.lst (.int .i64)),(.st 2)]⟩
def q21:LE S:=⟨q1X,q1Y,[.int,.int,(.lst (.st 2)),(.st 15),.bool,.int,.bool,(.st 15),.bool,.int,(.st 15),(.lst (.int .i64)),(.st 2)],[q1Z,q20]⟩
def q22 (x:tl):((Int×Zu×Z6×Zu)⊕Zu)→t6:=Sum.elim (fun y0=>(.inl (x.2.2.2.1,x.2.2.2.2.1,x.2.2.2.2.2.1,x.2.2.2.2.2.2.1,x.2.2.2.2.2.2.2.1,x.2.2.2.2.2.2.2.2.1,y0.1,x.2.2.2.2.2.2.2.2.2.2.1,y0.2.1,y0.2.2.1,x.2.2.2.2.2.2.2.2.2.2.2.1,y0.2.2.2))) (fun y1=>(.inr (x.2.2.2.1,x.2.2.2.2.1,x.2.2.2.2.2.1,x.2.2.2.2.2.2.1,x.2.2.2.2.2.2.2.1,x.2.2.2.2.2.2.2.2.1,x.2.2.2.2.2.2.2.2.2.1,x.2.2.2.2.2.2.2.2.2.2.1,x.2.2.2.2.2.2.2.2.2.2.2.1,y1)))
def q23 {R:Type} (x:tl) (k:t6→Option R):Option R:=(X3g x.1 x.2.2.1 x.2.2.2.1 x.2.2.2.2.1 x.2.2.2.2.2.1 x.2.2.2.2.2.2.1 x.2.2.2.2.2.2.2.1 x.2.2.2.2.2.2.2.2.1 x.2.2.2.2.2.2.2.2.2.1 x.2.2.2.2.2.2.2.2.2.2.1 x.2.2.2.2.2.2.2.2.2.2.2.1 (x.2.1,x.2.2.2.2.2.2.2.2.2.2.2.2)).bind (Sum.elim (fun y0=>k (.inl (x.2.2.2.1,x.2.2.2.2.1,x.2.2.2.2.2.1,x.2.2.2.2.2.2.1,x.2.2.2.2.2.2.2.1,x.2.2.2.2.2.2.2.2.1,y0.1,x.2.2.2.2.2.2.2.2.2.2.1,y0.2.1,y0.2.2.1,x.2.2.2.2.2.2.2.2.2.2.2.1,y0.2.2.2))) (fun y1=>k (.inr (x.2.2.2.1,x.2.2.2.2.1,x.2.2.2.2.2.1,x.2.2.2.2.2.2.1,x.2.2.2.2.2.2.2.1,x.2.2.2.2.2.2.2.2.1,x.2.2.2.2.2.2.2.2.2.1,x.2.2.2.2.2.2.2.2.2.2.1,x.2.2.2.2.2.2.2.2.2.2.2.1,y1))))
def q24 (x:tl) (v:(Int×Zu)):tl:=(x.1,v.1,x.2.2.1,x.2.2.2.1,x.2.2.2.2.1,x.2.2.2.2.2.1,x.2.2.2.2.2.2.1,x.2.2.2.2.2.2.2.1,x.2.2.2.2.2.2.2.2.1,x.2.2.2.2.2.2.2.2.2.1,x.2.2.2.2.2.2.2.2.2.2.1,x.2.2.2.2.2.2.2.2.2.2.2.1,v.2)
theorem q25 (x:tl):LE.step X q21 q1H q0 q1V 12 x=Xv x.1 x.2.2.1 x.2.2.2.1 x.2.2.2.2.1 x.2.2.2.2.2.1 x.2.2.2.2.2.2.1 x.2.2.2.2.2.2.2.1 x.2.2.2.2.2.2.2.2.1 x.2.2.2.2.2.2.2.2.2.1 x.2.2.2.2.2.2.2.2.2.2.1 x.2.2.2.2.2.2.2.2.2.2.2.1 x.2.1 x.2.2.2.2.2.2.2.2.2.2.2.2 (fun w0 w1=>(Sum.inl (x.1,w0,x.2.2.1,x.2.2.2.1,x.2.2.2.2.1,x.2.2.2.2.2.1,x.2.2.2.2.2.2.1,x.2.2.2.2.2.2.2.1,x.2.2.2.2.2.2.2.2.1,x.2.2.2.2.2.2.2.2.2.1,x.2.2.2.2.2.2.2.2.2.2.1,x.2.2.2.2.2.2.2.2.2.2.2.1,w1))) (fun p0 p1 p2 p3=>(Sum.inr (.inl (x.2.2.2.1,x.2.2.2.2.1,x.2.2.2.2.2.1,x.2.2.2.2.2.2.1,x.2.2.2.2.2.2.2.1,x.2.2.2.2.2.2.2.2.1,p0,x.2.2.2.2.2.2.2.2.2.2.1,p1,p2,x.2.2.2.2.2.2.2.2.2.2.2.1,p3)))) (fun p0=>(Sum.inr (.inr (x.2.2.2.1,x.2.2.2.2.1,x.2.2.2.2.2.1,x.2.2.2.2.2.2.1,x.2.2.2.2.2.2.2.1,x.2.2.2.2.2.2.2.2.1,x.2.2.2.2.2.2.2.2.2.1,x.2.2.2.2.2.2.2.2.2.2.1,x.2.2.2.2.2.2.2.2.2.2.2.1,p0)))):=by kernel_rfl
theorem q27 {R:Type} (x:tl) (k:t6→Option R) (r:R) (h:q23 x k=some r):∃ o,Z5s (LE.step X q21 q1H q0 q1V 12) x o∧k o=some r:=by
 obtain ⟨o,h1,h2⟩:=Z0 h
 exact ⟨q22 x o,Zhl (st:=fun (x:tl)=>Xk x.1 x.2.2.1 x.2.2.2.1 x.2.2.2.2.1 x.2.2.2.2.2.1 x.2.2.2.2.2.2.1 x.2.2.2.2.2.2.2.1 x.2.2.2.2.2.2.2.2.1 x.2.2.2.2.2.2.2.2.2.1 x.2.2.2.2.2.2.2.2.2.2.1 x.2.2.2.2.2.2.2.2.2.2.2.1) (prj:=fun x=>(x.2.1,x.2.2.2.2.2.2.2.2.2.2.2.2)) (emb:=q24) (embO:=q22) (fun x=>(q25 x).trans (by unfold Xk Xv;simp only [Zhd,Zh8,Zhe,Option.map_some,Option.map_none];rfl)) (fun _ _=>rfl) (fun _ _=>rfl) (fun _ _ _=>rfl) (fun _ _ _=>rfl) (fun _=>rfl) (Z1S.1 h1),by
  first
  | exact h2
  | (rcases o with o|o<;>exact h2)⟩
def q28 {R:Type}:Z27 S R:=LE.ls X q21 q23 q1V
theorem q29 {R:Type}:Z3J X (q28 (R:=R)):=Zhq xok q1I (e:=q21) q1 q1W q27 q1W
theorem q2a (x0:Z8):Zhs X q1H [(.st 15)] [(.int .i64)] q0 q28 12 95 (x0,())=X1T x0:=by kernel_rfl
def q2b:F7 S:=⟨[(.st 15)],[(.int .i64)],fun xs=>X1T xs.1⟩
theorem q2c:Z7Q X 95 q2b:=Zho (Zhn xok q1I q1 q29 12 95) fun xs _ h=>(q2a xs.1).trans h
def q2d:List (Nat×F7 S):=[(92,qk),(93,qY),(94,q1k),(95,q2b)]
theorem q2e:Z9n X (q2d):=⟨ql,qZ,q1l,q2c,trivial⟩
abbrev q2f {R:Type}:Z27 S R:=Zgi
theorem q2g {R:Type}:Z3J X (q2f (R:=R)):=ZgQ X
def q2h:Key:=⟨[61],61,none,[0,0,1,0,1,1,1,1],0,17⟩
def q2i:StT S:=⟨(N (N v1A (some (.ptr 0 0)) L) none (N v1A none (N (N (N L (some (.sl (.st 4) [])) L) none L) vm L))),o1s,17⟩
def q2j:Way S:=⟨.ret,⟨v1t,o1d,57⟩,[.int,.int,.int,(.st 4),(.st 8),(.mp .str (.int .i64))]⟩
def q2k:Way S:=⟨.ret,⟨v1t,o1d,62⟩,[.int,.int,.int,(.st 4),(.st 8),(.mp .str (.int .i64))]⟩
def q2l:Way S:=⟨.ret,⟨v1t,o11,63⟩,[.int,.int,.int,(.st 4),(.st 8),(.mp .str (.int .i64)),(.lst (.st 2))]⟩
def q2m:Way S:=⟨.ret,⟨v1t,o11,66⟩,[.int,.int,.int,(.st 4),(.st 8),(.mp .str (.int .i64)),(.lst (.st 2))]⟩
def q2n:Way S:=⟨(.exit 0),⟨(N (N L (some (.ptr 0 0)) L) none (N L none (N L vm L))),o1s,18⟩,[(.st 8),(.mp .str (.int .i64))]⟩
def q2o:LE S:=⟨q2h,q2i,[.int,.int,(.lst (.st 4)),(.st 8),(.mp .str (.int .i64))],[q2j,q2k,q2l,q2m,q2n]⟩
def q2p (x:tO):((Int×Int×Int×Zw×t1k)⊕(Int×Int×Int×Zw×t1k)⊕(Int×Int×Int×Zw×t1k×(List Zu))⊕(Int×Int×Int×Zw×t1k×(List Zu))⊕t1k)→t0:=Sum.elim (fun y0=>(.inl (y0.1,y0.2.1,y0.2.2.1,y0.2.2.2.1,x.2.2.2.1,y0.2.2.2.2))) (Sum.elim (fun y1=>(.inr (.inl (y1.1,y1.2.1,y1.2.2.1,y1.2.2.2.1,x.2.2.2.1,y1.2.2.2.2)))) (Sum.elim (fun y2=>(.inr (.inr (.inl (y2.1,y2.2.1,y2.2.2.1,y2.2.2.2.1,x.2.2.2.1,y2.2.2.2.2.1,y2.2.2.2.2.2))))) (Sum.elim (fun y3=>(.inr (.inr (.inr (.inl (y3.1,y3.2.1,y3.2.2.1,y3.2.2.2.1,x.2.2.2.1,y3.2.2.2.2.1,y3.2.2.2.2.2)))))) (fun y4=>(.inr (.inr (.inr (.inr (x.2.2.2.1,y4)))))))))
def q2q {R:Type} (x:tO) (k:t0→Option R):Option R:=(X4r x.1 x.2.2.1 x.2.2.2.1 (x.2.1,x.2.2.2.2)).bind (Sum.elim (fun y0=>k (.inl (y0.1,y0.2.1,y0.2.2.1,y0.2.2.2.1,x.2.2.2.1,y0.2.2.2.2))) (Sum.elim (fun y1=>k (.inr (.inl (y1.1,y1.2.1,y1.2.2.1,y1.2.2.2.1,x.2.2.2.1,y1.2.2.2.2)))) (Sum.elim (fun y2=>k (.inr (.inr (.inl (y2.1,y2.2.1,y2.2.2.1,y2.2.2.2.1,x.2.2.2.1,y2.2.2.2.2.1,y2.2.2.2.2.2))))) (Sum.elim (fun y3=>k (.inr (.inr (.inr (.inl (y3.1,y3.2.1,y3.2.2.1,y3.2.2.2.1,x.2.2.2.1,y3.2.2.2.2.1,y3.2.2.2.2.2)))))) (fun y4=>k (.inr (.inr (.inr (.inr (x.2.2.2.1,y4))))))))))
def q2r (x:tO) (v:(Int×t1k)):tO:=(x.1,v.1,x.2.2.1,x.2.2.2.1,v.2)
theorem q2s (x:tO):LE.step X q2o q2d q0 q2f 12 x=WN x.1 x.2.2.1 x.2.2.2.1 x.2.1 x.2.2.2.2 (fun w0 w1=>(Sum.inl (x.1,w0,x.2.2.1,x.2.2.2.1,w1))) (fun p0 p1 p2 p3 p4=>(Sum.inr (.inl (p0,p1,p2,p3,x.2.2.2.1,p4)))) (fun p0 p1 p2 p3 p4=>(Sum.inr (.inr (.inl (p0,p1,p2,p3,x.2.2.2.1,p4))))) (fun p0 p1 p2 p3 p4 p5=>(Sum.inr (.inr (.inr (.inl (p0,p1,p2,p3,x.2.2.2.1,p4,p5)))))) (fun p0 p1 p2 p3 p4 p5=>(Sum.inr (.inr (.inr (.inr (.inl (p0,p1,p2,p3,x.2.2.2.1,p4,p5))))))) (fun p0=>(Sum.inr (.inr (.inr (.inr (.inr (x.2.2.2.1,p0))))))):=by kernel_rfl
theorem q2u {R:Type} (x:tO) (k:t0→Option R) (r:R) (h:q2q x k=some r):∃ o,Z5s (LE.step X q2o q2d q0 q2f 12) x o∧k o=some r:=by
 obtain ⟨o,h1,h2⟩:=Z0 h
 exact ⟨q2p x o,Zhl (st:=fun (x:tO)=>Wt x.1 x.2.2.1 x.2.2.2.1) (prj:=fun x=>(x.2.1,x.2.2.2.2)) (emb:=q2r) (embO:=q2p) (fun x=>(q2s x).trans (by unfold Wt WN;simp only [Zhd,Zh8,Zhe,Option.map_some,Option.map_none];rfl)) (fun _ _=>rfl) (fun _ _=>rfl) (fun _ _ _=>rfl) (fun _ _ _=>rfl) (fun _=>rfl) (Z1S.1 h1),by
  first
  | exact h2
  | (rcases o with o|o|o|o|o<;>exact h2)⟩
def q2v {R:Type}:Z27 S R:=LE.ls X q2o q2q q2f
theorem q2w {R:Type}:Z3J X (q2v (R:=R)):=Zhq xok q2e (e:=q2o) q1 q2g q2u q2g
def q2x:Key:=⟨[61],61,none,[0,0,1,0,1,1,1,1,1,1],2,26⟩
def q2y:StT S:=⟨(N (N L none (N L none v1D)) none (N (N L none (N (N L none (N L (some (.sl (.st 7) [])) L)) none L)) none (N L vm v1D))),o1s,26⟩
def q2z:Way S:=⟨.ret,⟨v1t,o1c,58⟩,[.int,.int,.int,(.st 8),(.mp .str (.int .i64)),(.st 7)]⟩
def q2A:Way S:=⟨.ret,⟨v1t,o1c,63⟩,[.int,.int,.int,(.st 8),(.mp .str (.int .i64)),(.st 7)]⟩
def q2B:Way S:=⟨.ret,⟨v1t,o1c,67⟩,[.int,.int,.int,(.st 8),(.mp .str (.int .i64)),(.st 7)]⟩
def q2C:Way S:=⟨(.exit 2),⟨L,o1s,27⟩,[(.st 8),(.mp .str (.int .i64))]⟩
def q2D:LE S:=⟨q2x,q2y,[.int,(.lst (.st 7)),.int,(.st 8),(.mp .str (.int .i64))],[q2z,q2A,q2B,q2C]⟩
def q2E (x:tP):(tX⊕tX⊕tX⊕t1k)→t4:=Sum.elim (fun y0=>(.inl (y0.1,y0.2.1,y0.2.2.1,x.2.2.2.1,y0.2.2.2.1,y0.2.2.2.2))) (Sum.elim (fun y1=>(.inr (.inl (y1.1,y1.2.1,y1.2.2.1,x.2.2.2.1,y1.2.2.2.1,y1.2.2.2.2)))) (Sum.elim (fun y2=>(.inr (.inr (.inl (y2.1,y2.2.1,y2.2.2.1,x.2.2.2.1,y2.2.2.2.1,y2.2.2.2.2))))) (fun y3=>(.inr (.inr (.inr (x.2.2.2.1,y3)))))))
def q2F {R:Type} (x:tP) (k:t4→Option R):Option R:=(X26 x.1 x.2.1 x.2.2.2.1 (x.2.2.1,x.2.2.2.2)).bind (Sum.elim (fun y0=>k (.inl (y0.1,y0.2.1,y0.2.2.1,x.2.2.2.1,y0.2.2.2.1,y0.2.2.2.2))) (Sum.elim (fun y1=>k (.inr (.inl (y1.1,y1.2.1,y1.2.2.1,x.2.2.2.1,y1.2.2.2.1,y1.2.2.2.2)))) (Sum.elim (fun y2=>k (.inr (.inr (.inl (y2.1,y2.2.1,y2.2.2.1,x.2.2.2.1,y2.2.2.2.1,y2.2.2.2.2))))) (fun y3=>k (.inr (.inr (.inr (x.2.2.2.1,y3))))))))
def q2G (x:tP) (v:(Int×t1k)):tP:=(x.1,x.2.1,v.1,x.2.2.2.1,v.2)
theorem q2H (x:tP):LE.step X q2D q2d q0 q2v 12 x=WO x.1 x.2.1 x.2.2.2.1 x.2.2.1 x.2.2.2.2 (fun w0 w1=>(Sum.inl (x.1,x.2.1,w0,x.2.2.2.1,w1))) (fun p0 p1 p2 p3 p4=>(Sum.inr (.inl (p0,p1,p2,x.2.2.2.1,p3,p4)))) (fun p0 p1 p2 p3 p4=>(Sum.inr (.inr (.inl (p0,p1,p2,x.2.2.2.1,p3,p4))))) (fun p0 p1 p2 p3 p4=>(Sum.inr (.inr (.inr (.inl (p0,p1,p2,x.2.2.2.1,p3,p4)))))) (fun p0=>(Sum.inr (.inr (.inr (.inr (x.2.2.2.1,p0)))))):=by kernel_rfl
theorem q2J {R:Type} (x:tP) (k:t4→Option R) (r:R) (h:q2F x k=some r):∃ o,Z5s (LE.step X q2D q2d q0 q2v 12) x o∧k o=some r:=by
 obtain ⟨o,h1,h2⟩:=Z0 h
 exact ⟨q2E x o,Zhl (st:=fun (x:tP)=>Wu x.1 x.2.1 x.2.2.2.1) (prj:=fun x=>(x.2.2.1,x.2.2.2.2)) (emb:=q2G) (embO:=q2E) (fun x=>(q2H x).trans (by unfold Wu WO;simp only [Zhd,Zh8,Zhe,Option.map_some,Option.map_none];rfl)) (fun _ _=>rfl) (fun _ _=>rfl) (fun _ _ _=>rfl) (fun _ _ _=>rfl) (fun _=>rfl) (Z1S.1 h1),by
  first
  | exact h2
  | (rcases o with o|o|o|o<;>exact h2)⟩
def q2K {R:Type}:Z27 S R:=LE.ls X q2D q2F q2v
theorem q2L {R:Type}:Z3J X (q2K (R:=R)):=Zhq xok q2e (e:=q2D) q1 q2w q2J q2w
theorem q2M (x0:Zl):Zhs X q2d [(.st 8)] [(.int .i64),(.int .i64),(.int .i64)] q0 q2K 12 61 (x0,())=X3f x0:=by kernel_rfl
def q2N:F7 S:=⟨[(.st 8)],[(.int .i64),(.int .i64),(.int .i64)],fun xs=>X3f xs.1⟩
theorem q2O:Z7Q X 61 q2N:=Zho (Zhn xok q2e q1 q2L 12 61) fun xs _ h=>(q2M xs.1).trans h
def q2P:List (Nat×F7 S):=[]
theorem q2Q:Z9n X (q2P):=trivial
abbrev q2R {R:Type}:Z27 S R:=Zgi
theorem q2S {R:Type}:Z3J X (q2R (R:=R)):=ZgQ X
def q2T:Key:=⟨[114,2,1,89,2,1,57],114,none,[0,0,1,0,1],0,17⟩
def q2U:StT S:=⟨(N (N (N (N L vO L) none L) (some (.fn (.func 90) [] [(.ptr 0 0),(.ptr 1 0)])) L) (some (.sl (.int .i64) [])) v1z),(N (N L ow L) ow L),17⟩
def q2V:Way S:=⟨.ret,⟨v1A,(N (N L ow L) ow L),38⟩,[.int,.int,.int]⟩
def q2W:Way S:=⟨(.exit 0),⟨L,(N (N L ow L) ow L),18⟩,[.int,.int]⟩
def q2X:LE S:=⟨q2T,q2U,[.int,(.lst (.int .i64)),.int,.int,.int],[q2V,q2W]⟩
def q2Y (x:t13):(Int⊕Unit)→t1b:=Sum.elim (fun y0=>(.inl (y0,x.2.2.2.1,x.2.2.2.2))) (fun y1=>(.inr (x.2.2.2.1,x.2.2.2.2)))
def q2Z {R:Type} (x:t13) (k:t1b→Option R):Option R:=(X4A x.1 x.2.1 x.2.2.2.1 x.2.2.2.2 x.2.2.1).bind (Sum.elim (fun y0=>k (.inl (y0,x.2.2.2.1,x.2.2.2.2))) (fun y1=>k (.inr (x.2.2.2.1,x.2.2.2.2))))
def q30 (x:t13) (v:Int):t13:=(x.1,x.2.1,v,x.2.2.2.1,x.2.2.2.2)
theorem q31 (x:t13):LE.step X q2X q2P q0 q2R 12 x=WT x.1 x.2.1 x.2.2.2.1 x.2.2.2.2 x.2.2.1 (fun w0=>(Sum.inl (x.1,x.2.1,w0,x.2.2.2.1,x.2.2.2.2))) (fun p0=>(Sum.inr (.inl (p0,x.2.2.2.1,x.2.2.2.2)))) (Sum.inr (.inr (x.2.2.2.1,x.2.2.2.2))):=by kernel_rfl
theorem q33 {R:Type} (x:t13) (k:t1b→Option R) (r:R) (h:q2Z x k=some r):∃ o,Z5s (LE.step X q2X q2P q0 q2R 12) x o∧k o=some r:=by
 obtain ⟨o,h1,h2⟩:=Z0 h
 exact ⟨q2Y x o,Zhl (st:=fun (x:t13)=>WB x.1 x.2.1 x.2.2.2.1 x.2.2.2.2) (prj:=fun x=>x.2.2.1) (emb:=q30) (embO:=q2Y) (fun x=>(q31 x).trans (by unfold WB WT;simp only [Zhd,Zh8,Zhe,Option.map_some,Option.map_none];rfl)) (fun _ _=>rfl) (fun _ _=>rfl) (fun _ _ _=>rfl) (fun _ _ _=>rfl) (fun _=>rfl) (Z1S.1 h1),by
  first
  | exact h2
  | (rcases o with o|o<;>exact h2)⟩
def q34 {R:Type}:Z27 S R:=LE.ls X q2X q2Z q2R
theorem q35 {R:Type}:Z3J X (q34 (R:=R)):=Zhq xok q2Q (e:=q2X) q1 q2S q33 q2S
theorem q36 (x0:Int) (x1:Int) (x2:List Int):Zhs X q2P [(.int .i64),(.int .i64),(.sl (.int .i64))] [.bool] q0 q34 12 57 (x0,x1,x2,())=X2h x0 x1 x2:=by kernel_rfl
def q37:F7 S:=⟨[(.int .i64),(.int .i64),(.sl (.int .i64))],[.bool],fun xs=>X2 xs.1 xs.2.1 xs.2.2.1⟩
theorem q38:Z7Q X 57 q37:=Zho (Zhn xok q2Q q1 q35 12 57) fun xs _ h=>((q36 xs.1 xs.2.1 xs.2.2.1).trans (X5Z xs.1 xs.2.1 xs.2.2.1).symm).trans h
def q39:List (Nat×F7 S):=[(92,qk),(57,q37)]
theorem q3a:Z9n X (q39):=⟨ql,q38,trivial⟩
abbrev q3b {R:Type}:Z27 S R:=Zgi
theorem q3c {R:Type}:Z3J X (q3b (R:=R)):=ZgQ X
def q3d:Key:=⟨[122,2,1,96,2,6,64],122,none,[0,0,1,0,1],0,25⟩
def q3e:StT S:=⟨v13,(N L oc L),25⟩
def q3f:Way S:=⟨.ret,⟨v1A,(N L oc o1p),44⟩,[.int,(.st 18),(.st 18)]⟩
def q3g:Way S:=⟨(.exit 0),⟨L,(N L oc L),26⟩,[(.st 18)]⟩
def q3h:LE S:=⟨q3d,q3e,[.int,(.lst (.st 18)),.int,(.st 18)],[q3f,q3g]⟩
def q3i (x:tZ):((Int×Z5)⊕Unit)→tY:=Sum.elim (fun y0=>(.inl (y0.1,x.2.2.2,y0.2))) (fun y1=>(.inr x.2.2.2))
def q3j {R:Type} (x:tZ) (k:tY→Option R):Option R:=(X2m x.1 x.2.1 x.2.2.2 x.2.2.1).bind (Sum.elim (fun y0=>k (.inl (y0.1,x.2.2.2,y0.2))) (fun y1=>k (.inr x.2.2.2)))
def q3k (x:tZ) (v:Int):tZ:=(x.1,x.2.1,v,x.2.2.2)
theorem q3l (x:tZ):LE.step X q3h q39 q0 q3b 12 x=XN x.1 x.2.1 x.2.2.2 x.2.2.1 (fun w0=>(Sum.inl (x.1,x.2.1,w0,x.2.2.2))) (fun p0 p1=>(Sum.inr (.inl (p0,x.2.2.2,p1)))) (Sum.inr (.inr x.2.2.2)):=by kernel_rfl
theorem q3n {R:Type} (x:tZ) (k:tY→Option R) (r:R) (h:q3j x k=some r):∃ o,Z5s (LE.step X q3h q39 q0 q3b 12) x o∧k o=some r:=by
 obtain ⟨o,h1,h2⟩:=Z0 h
 exact ⟨q3i x o,Zhl (st:=fun (x:tZ)=>XH x.1 x.2.1 x.2.2.2) (prj:=fun x=>x.2.2.1) (emb:=q3k) (embO:=q3i) (fun x=>(q3l x).trans (by unfold XH XN;simp only [Zhd,Zh8,Zhe,Option.map_some,Option.map_none];rfl)) (fun _ _=>rfl) (fun _ _=>rfl) (fun _ _ _=>rfl) (fun _ _ _=>rfl) (fun _=>rfl) (Z1S.1 h1),by
  first
  | exact h2
  | (rcases o with o|o<;>exact h2)⟩
def q3o {R:Type}:Z27 S R:=LE.ls X q3h q3j q3b
theorem q3p {R:Type}:Z3J X (q3o (R:=R)):=Zhq xok q3a (e:=q3h) q1 q3c q3n q3c
def q3q:Key:=⟨[122,2,1,96,2,6,64],122,none,[0,0,1,0,1],0,24⟩
def q3r:StT S:=⟨v13,(N L oc L),24⟩
def q3s:Way S:=⟨.ret,⟨v1A,(N o1p oc L),43⟩,[.int,(.st 18),(.st 18)]⟩
def q3t:Way S:=⟨(.exit 0),⟨L,(N L oc L),25⟩,[(.st 18)]⟩
def q3u:LE S:=⟨q3q,q3r,[.int,(.lst (.st 18)),.int,(.st 18)],[q3s,q3t]⟩
def q3v (x:tZ):((Int×Z5)⊕Unit)→tY:=Sum.elim (fun y0=>(.inl (y0.1,y0.2,x.2.2.2))) (fun y1=>(.inr x.2.2.2))
def q3w {R:Type} (x:tZ) (k:tY→Option R):Option R:=(X2n x.1 x.2.1 x.2.2.2 x.2.2.1).bind (Sum.elim (fun y0=>k (.inl (y0.1,y0.2,x.2.2.2))) (fun y1=>k (.inr x.2.2.2)))
def q3x (x:tZ) (v:Int):tZ:=(x.1,x.2.1,v,x.2.2.2)
theorem q3y (x:tZ):LE.step X q3u q39 q0 q3o 12 x=XO x.1 x.2.1 x.2.2.2 x.2.2.1 (fun w0=>(Sum.inl (x.1,x.2.1,w0,x.2.2.2))) (fun p0 p1=>(Sum.inr (.inl (p0,p1,x.2.2.2)))) (Sum.inr (.inr x.2.2.2)):=by kernel_rfl
theorem q3A {R:Type} (x:tZ) (k:tY→Option R) (r:R) (h:q3w x k=some r):∃ o,Z5s (LE.step X q3u q39 q0 q3o 12) x o∧k o=some r:=by
 obtain ⟨o,h1,h2⟩:=Z0 h
 exact ⟨q3v x o,Zhl (st:=fun (x:tZ)=>XI x.1 x.2.1 x.2.2.2) (prj:=fun x=>x.2.2.1) (emb:=q3x) (embO:=q3v) (fun x=>(q3y x).trans (by unfold XI XO;simp only [Zhd,Zh8,Zhe,Option.map_some,Option.map_none];rfl)) (fun _ _=>rfl) (fun _ _=>rfl) (fun _ _ _=>rfl) (fun _ _ _=>rfl) (fun _=>rfl) (Z1S.1 h1),by
  first
  | exact h2
  | (rcases o with o|o<;>exact h2)⟩
def q3B {R:Type}:Z27 S R:=LE.ls X q3u q3w q3o
theorem q3C {R:Type}:Z3J X (q3B (R:=R)):=Zhq xok q3a (e:=q3u) q1 q3p q3A q3p
theorem q3D (x0:Z5) (x1:List Z5):Zhs X q39 [(.st 18),(.sl (.st 18))] [(.int .i64)] q0 q3B 12 64 (x0,x1,())=X1d x0 x1:=by kernel_rfl
def q3E:F7 S:=⟨[(.st 18),(.sl (.st 18))],[(.int .i64)],fun xs=>X3A xs.1 xs.2.1⟩
theorem q3F:Z7Q X 64 q3E:=Zho (Zhn xok q3a q1 q3C 12 64) fun xs _ h=>((q3D xs.1 xs.2.1).trans (X4P xs.1 xs.2.1).symm).trans h
def q3G:List (Nat×F7 S):=[(57,q37)]
theorem q3H:Z9n X (q3G):=⟨q38,trivial⟩
abbrev q3I {R:Type}:Z27 S R:=Zgi
theorem q3J {R:Type}:Z3J X (q3I (R:=R)):=ZgQ X
theorem q3K (x0:Zt):Zhs X q3G [(.st 19)] [(.int .i64)] q0 q3I 12 67 (x0,())=X3o x0:=by kernel_rfl
def q3L:F7 S:=⟨[(.st 19)],[(.int .i64)],fun xs=>X6A xs.1⟩
theorem q3M:Z7Q X 67 q3L:=Zho (Zhn xok q3H q1 q3J 12 67) fun xs _ h=>((q3K xs.1).trans (X6T xs.1).symm).trans h
def q3N:List (Nat×F7 S):=[(67,q3L)]
theorem q3O:Z9n X (q3N):=⟨q3M,trivial⟩
abbrev q3P {R:Type}:Z27 S R:=Zgi
theorem q3Q {R:Type}:Z3J X (q3P (R:=R)):=ZgQ X
theorem q3R (x0:Int) (x1:Zt):Zhs X q3N [(.int .i64),(.st 19)] [(.int .i64)] q0 q3P 12 66 (x0,x1,())=X2f x0 x1:=by kernel_rfl
def q3S:F7 S:=⟨[(.int .i64),(.st 19)],[(.int .i64)],fun xs=>X3U xs.1 xs.2.1⟩
theorem q3T:Z7Q X 66 q3S:=Zho (Zhn xok q3O q1 q3Q 12 66) fun xs _ h=>((q3R xs.1 xs.2.1).trans (X5U xs.1 xs.2.1).symm).trans h
def q3U:List (Nat×F7 S):=[(61,q2N),(57,q37),(64,q3E),(66,q3S)]
theorem q3V:Z9n X (q3U):=⟨q2O,q38,q3F,q3T,trivial⟩
abbrev q3W {R:Type}:Z27 S R:=Zgi
theorem q3X {R:Type}:Z3J X (q3W (R:=R)):=ZgQ X
def q3Y:Key:=⟨[62,3,8,29],62,none,[0,0,1,0,1],0,51⟩
def q3Z:StT S:=⟨(N (N (N L none (N L vO L)) (some (.fn (.func 63) [] [(.ptr 0 0)])) (N (N L vJ L) none L)) none v1A),(N L od L),51⟩
def q40:Way S:=⟨.ret,⟨v1r,(N (N (N (N (N (N (N L oc L) none L) none L) none (N L none (N L oc L))) none L) none L) od L),78⟩,[.int,.int,(.st 18),(.st 18),(.st 20)]⟩
def q41:Way S:=⟨(.exit 0),⟨L,(N L od L),52⟩,[(.st 20)]⟩
def q42:LE S:=⟨q3Y,q3Z,[.int,(.lst (.st 18)),.int,(.st 20)],[q40,q41]⟩
def q43 (x:t11):((Int×Int×Z5×Z5)⊕Unit)→tU:=Sum.elim (fun y0=>(.inl (y0.1,y0.2.1,y0.2.2.1,y0.2.2.2,x.2.2.2))) (fun y1=>(.inr x.2.2.2))
def q44 {R:Type} (x:t11) (k:tU→Option R):Option R:=(X3P x.2.1 x.2.2.1 x.2.2.2 x.1).bind (Sum.elim (fun y0=>k (.inl (y0.1,y0.2.1,y0.2.2.1,y0.2.2.2,x.2.2.2))) (fun y1=>k (.inr x.2.2.2)))
def q45 (x:t11) (v:Int):t11:=(v,x.2.1,x.2.2.1,x.2.2.2)
theorem q46 (x:t11):LE.step X q42 q3U q0 q3W 12 x=X1z x.2.1 x.2.2.1 x.2.2.2 x.1 (fun w0=>(Sum.inl (w0,x.2.1,x.2.2.1,x.2.2.2))) (fun p0 p1 p2 p3=>(Sum.inr (.inl (p0,p1,p2,p3,x.2.2.2)))) (Sum.inr (.inr x.2.2.2)):=by kernel_rfl
theorem q48 {R:Type} (x:t11) (k:tU→Option R) (r:R) (h:q44 x k=some r):∃ o,Z5s (LE.step X q42 q3U q0 q3W 12) x o∧k o=some r:=by
 obtain ⟨o,h1,h2⟩:=Z0 h
 exact ⟨q43 x o,Zhl (st:=fun (x:t11)=>X1t x.2.1 x.2.2.1 x.2.2.2) (prj:=fun x=>x.1) (emb:=q45) (embO:=q43) (fun x=>(q46 x).trans (by unfold X1t X1z;simp only [Zhd,Zh8,Zhe,Option.map_some,Option.map_none];rfl)) (fun _ _=>rfl) (fun _ _=>rfl) (fun _ _ _=>rfl) (fun _ _ _=>rfl) (fun _=>rfl) (Z1S.1 h1),by
  first
  | exact h2
  | (rcases o with o|o<;>exact h2)⟩
def q49 {R:Type}:Z27 S R:=LE.ls X q42 q44 q3W
theorem q4a {R:Type}:Z3J X (q49 (R:=R)):=Zhq xok q3V (e:=q42) q1 q3X q48 q3X
def q4b:Key:=⟨[65,2,13,29],65,none,[0,0,1,0,1],0,97⟩
def q4c:StT S:=⟨vV,L,97⟩
def q4d:Way S:=⟨.ret,⟨v1r,(N (N L none (N L none (N (N (N L none (N L ob L)) none L) none L))) none L),115⟩,[.int,.int,(.st 19)]⟩
def q4e:Way S:=⟨(.exit 0),⟨L,L,98⟩,[]⟩
def q4f:LE S:=⟨q4b,q4c,[.int,(.lst (.st 19)),.int],[q4d,q4e]⟩
def q4g (x:t1i):t1g→t1g:=Sum.elim (fun y0=>(.inl (y0.1,y0.2.1,y0.2.2))) (fun y1=>(.inr ()))
def q4h {R:Type} (x:t1i) (k:t1g→Option R):Option R:=(X3Q x.2.1 x.2.2 x.1).bind (Sum.elim (fun y0=>k (.inl (y0.1,y0.2.1,y0.2.2))) (fun y1=>k (.inr ())))
def q4i (x:t1i) (v:Int):t1i:=(v,x.2.1,x.2.2)
theorem q4j (x:t1i):LE.step X q4f q3U q0 q49 12 x=X1A x.2.1 x.2.2 x.1 (fun w0=>(Sum.inl (w0,x.2.1,x.2.2))) (fun p0 p1 p2=>(Sum.inr (.inl (p0,p1,p2)))) (Sum.inr (.inr ())):=by kernel_rfl
theorem q4l {R:Type} (x:t1i) (k:t1g→Option R) (r:R) (h:q4h x k=some r):∃ o,Z5s (LE.step X q4f q3U q0 q49 12) x o∧k o=some r:=by
 obtain ⟨o,h1,h2⟩:=Z0 h
 exact ⟨q4g x o,Zhl (st:=fun (x:t1i)=>X1u x.2.1 x.2.2) (prj:=fun x=>x.1) (emb:=q4i) (embO:=q4g) (fun x=>(q4j x).trans (by unfold X1u X1A;simp only [Zhd,Zh8,Zhe,Option.map_some,Option.map_none];rfl)) (fun _ _=>rfl) (fun _ _=>rfl) (fun _ _ _=>rfl) (fun _ _ _=>rfl) (fun _=>rfl) (Z1S.1 h1),by
  first
  | exact h2
  | (rcases o with o|o<;>exact h2)⟩
def q4m {R:Type}:Z27 S R:=LE.ls X q4f q4h q49
theorem q4n {R:Type}:Z3J X (q4m (R:=R)):=Zhq xok q3V (e:=q4f) q1 q4a q4l q4a
def q4o:Key:=⟨[65,2,13,29],65,none,[0,0,1,0,1],0,73⟩
def q4p:StT S:=⟨vV,L,73⟩
def q4q:Way S:=⟨.ret,⟨v1r,(N (N L none (N L none (N L none (N (N (N L ob L) none L) none L)))) none L),91⟩,[.int,.int,(.st 19)]⟩
def q4r:Way S:=⟨(.exit 0),⟨L,L,74⟩,[]⟩
def q4s:LE S:=⟨q4o,q4p,[.int,(.lst (.st 19)),.int],[q4q,q4r]⟩
def q4t (x:t1i):t1g→t1g:=Sum.elim (fun y0=>(.inl (y0.1,y0.2.1,y0.2.2))) (fun y1=>(.inr ()))
def q4u {R:Type} (x:t1i) (k:t1g→Option R):Option R:=(X2J x.2.1 x.2.2 x.1).bind (Sum.elim (fun y0=>k (.inl (y0.1,y0.2.1,y0.2.2))) (fun y1=>k (.inr ())))
def q4v (x:t1i) (v:Int):t1i:=(v,x.2.1,x.2.2)
theorem q4w (x:t1i):LE.step X q4s q3U q0 q4m 12 x=X3n x.2.1 x.2.2 x.1 (fun w0=>(Sum.inl (w0,x.2.1,x.2.2))) (fun p0 p1 p2=>(Sum.inr (.inl (p0,p1,p2)))) (Sum.inr (.inr ())):=by kernel_rfl
theorem q4y {R:Type} (x:t1i) (k:t1g→Option R) (r:R) (h:q4u x k=some r):∃ o,Z5s (LE.step X q4s q3U q0 q4m 12) x o∧k o=some r:=by
 obtain ⟨o,h1,h2⟩:=Z0 h
 exact ⟨q4t x o,Zhl (st:=fun (x:t1i)=>X47 x.2.1 x.2.2) (prj:=fun x=>x.1) (emb:=q4v) (embO:=q4t) (fun x=>(q4w x).trans (by unfold X47 X3n;simp only [Zhd,Zh8,Zhe,Option.map_some,Option.map_none];rfl)) (fun _ _=>rfl) (fun _ _=>rfl) (fun _ _ _=>rfl) (fun _ _ _=>rfl) (fun _=>rfl) (Z1S.1 h1),by
  first
  | exact h2
  | (rcases o with o|o<;>exact h2)⟩
def q4z {R:Type}:Z27 S R:=LE.ls X q4s q4u q4m
theorem q4A {R:Type}:Z3J X (q4z (R:=R)):=Zhq xok q3V (e:=q4s) q1 q4n q4y q4n
theorem q4B (x0:ZJ):Zhs X q3U [(.st 20)] [(.int .i64),(.int .i64),(.int .i64)] q0 q4z 12 29 (x0,())=X30 x0:=by kernel_rfl
def q4C:F7 S:=⟨[(.st 20)],[(.int .i64),(.int .i64),(.int .i64)],fun xs=>X6a xs.1⟩
theorem q4D:Z7Q X 29 q4C:=Zho (Zhn xok q3V q1 q4A 12 29) fun xs _ h=>((q4B xs.1).trans (X6y xs.1).symm).trans h
def q4E:List (Nat×F7 S):=[(61,q2N),(117,qE)]
theorem q4F:Z9n X (q4E):=⟨q2O,qF,trivial⟩
abbrev q4G {R:Type}:Z27 S R:=Zgi
theorem q4H {R:Type}:Z3J X (q4G (R:=R)):=ZgQ X
def q4I:Key:=⟨[132,1,109],132,none,[0,0,1],0,45⟩
def q4J:StT S:=⟨(N (N (N L vO L) (some (.ptr 36 0)) L) (some (.yld 40)) L),oQ,45⟩
def q4K:Way S:=⟨.ret,⟨L,(N (N (N (N L none (N L none (N L of L))) ow L) ow L) ol (N (N (N (N L ot L) none (N (N L (some (.loop 109 (N (N (N (N L (some (.ptr 3 0)) L) (some (.ptr 0 0)) (N L none (N (N L vj L) vN L))) vO (N (N (N L vN L) none L) none L)) vr (N (N (N L (some (.ptr 4 0)) L) (some (.ptr 1 0)) L) vO (N L (some (.ptr 2 0)) (N (N L vN L) none L)))) (44::(45::[])) .skip .skip 1 .ret (1::(109::[])) (0::(1::(0::(1::(1::(1::(1::[]))))))))) L) ot L)) ou (N (N (N L on L) none L) none L)) oh L)),67⟩,[(.st 3),.int,.int,(.st 8),(.lst (.int .i64)),.bool,.int,.bool,(.st 8),.int,.bool,(.lst (.int .i64)),.int,(.lst (.st 3)),(.st 4)]⟩
def q4L:Way S:=⟨(.exit 0),⟨L,oQ,47⟩,[.int,.int,(.st 8),(.lst (.int .i64)),.bool,.int,.bool,(.st 8),.int,.bool,(.lst (.int .i64)),.int,(.lst (.st 3)),(.st 4)]⟩
def q4M:LE S:=⟨q4I,q4J,[.int,.int,.int,(.st 8),(.lst (.int .i64)),.bool,.int,.bool,(.st 8),.int,.bool,(.lst (.int .i64)),.int,(.lst (.st 3)),(.st 4)],[q4K,q4L]⟩
def q4N (x:th):((Zk×Int×Int)⊕Unit)→t3:=Sum.elim (fun y0=>(.inl (y0.1,y0.2.1,x.2.2.1,x.2.2.2.1,x.2.2.2.2.1,x.2.2.2.2.2.1,x.2.2.2.2.2.2.1,x.2.2.2.2.2.2.2.1,x.2.2.2.2.2.2.2.2.1,x.2.2.2.2.2.2.2.2.2.1,x.2.2.2.2.2.2.2.2.2.2.1,x.2.2.2.2.2.2.2.2.2.2.2.1,y0.2.2,x.2.2.2.2.2.2.2.2.2.2.2.2.2.1,x.2.2.2.2.2.2.2.2.2.2.2.2.2.2))) (fun y1=>(.inr (x.2.1,x.2.2.1,x.2.2.2.1,x.2.2.2.2.1,x.2.2.2.2.2.1,x.2.2.2.2.2.2.1,x.2.2.2.2.2.2.2.1,x.2.2.2.2.2.2.2.2.1,x.2.2.2.2.2.2.2.2.2.1,x.2.2.2.2.2.2.2.2.2.2.1,x.2.2.2.2.2.2.2.2.2.2.2.1,x.2.2.2.2.2.2.2.2.2.2.2.2.1,x.2.2.2.2.2.2.2.2.2.2.2.2.2.1,x.2.2.2.2.2.2.2.2.2.2.2.2.2.2)))
def q4O {R:Type} (x:th) (k:t3→Option R):Option R:=(X1N x.2.2.1 x.2.2.2.2.2.2.2.2.2.2.2.2.2.1 x.1).bind (Sum.elim (fun y0=>k (.inl (y0.1,y0.2.1,x.2.2.1,x.2.2.2.1,x.2.2.2.2.1,x.2.2.2.2.2.1,x.2.2.2.2.2.2.1,x.2.2.2.2.2.2.2.1,x.2.2.2.2.2.2.2.2.1,x.2.2.2.2.2.2.2.2.2.1,x.2.2.2.2.2.2.2.2.2.2.1,x.2.2.2.2.2.2.2.2.2.2.2.1,y0.2.2,x.2.2.2.2.2.2.2.2.2.2.2.2.2.1,x.2.2.2.2.2.2.2.2.2.2.2.2.2.2))) (fun y1=>k (.inr (x.2.1,x.2.2.1,x.2.2.2.1,x.2.2.2.2.1,x.2.2.2.2.2.1,x.2.2.2.2.2.2.1,x.2.2.2.2.2.2.2.1,x.2.2.2.2.2.2.2.2.1,x.2.2.2.2.2.2.2.2.2.1,x.2.2.2.2.2.2.2.2.2.2.1,x.2.2.2.2.2.2.2.2.2.2.2.1,x.2.2.2.2.2.2.2.2.2.2.2.2.1,x.2.2.2.2.2.2.2.2.2.2.2.2.2.1,x.2.2.2.2.2.2.2.2.2.2.2.2.2.2))))
def q4P (x:th) (v:Int):th:=(v,x.2.1,x.2.2.1,x.2.2.2.1,x.2.2.2.2.1,x.2.2.2.2.2.1,x.2.2.2.2.2.2.1,x.2.2.2.2.2.2.2.1,x.2.2.2.2.2.2.2.2.1,x.2.2.2.2.2.2.2.2.2.1,x.2.2.2.2.2.2.2.2.2.2.1,x.2.2.2.2.2.2.2.2.2.2.2.1,x.2.2.2.2.2.2.2.2.2.2.2.2.1,x.2.2.2.2.2.2.2.2.2.2.2.2.2.1,x.2.2.2.2.2.2.2.2.2.2.2.2.2.2)
theorem q4Q (x:th):LE.step X q4M q4E q0 q4G 12 x=Wh x.2.2.1 x.2.2.2.2.2.2.2.2.2.2.2.2.2.1 x.1 (fun w0=>(Sum.inl (w0,x.2.1,x.2.2.1,x.2.2.2.1,x.2.2.2.2.1,x.2.2.2.2.2.1,x.2.2.2.2.2.2.1,x.2.2.2.2.2.2.2.1,x.2.2.2.2.2.2.2.2.1,x.2.2.2.2.2.2.2.2.2.1,x.2.2.2.2.2.2.2.2.2.2.1,x.2.2.2.2.2.2.2.2.2.2.2.1,x.2.2.2.2.2.2.2.2.2.2.2.2.1,x.2.2.2.2.2.2.2.2.2.2.2.2.2.1,x.2.2.2.2.2.2.2.2.2.2.2.2.2.2))) (fun p0 p1 p2=>(Sum.inr (.inl (p0,p1,x.2.2.1,x.2.2.2.1,x.2.2.2.2.1,x.2.2.2.2.2.1,x.2.2.2.2.2.2.1,x.2.2.2.2.2.2.2.1,x.2.2.2.2.2.2.2.2.1,x.2.2.2.2.2.2.2.2.2.1,x.2.2.2.2.2.2.2.2.2.2.1,x.2.2.2.2.2.2.2.2.2.2.2.1,p2,x.2.2.2.2.2.2.2.2.2.2.2.2.2.1,x.2.2.2.2.2.2.2.2.2.2.2.2.2.2)))) (Sum.inr (.inr (x.2.1,x.2.2.1,x.2.2.2.1,x.2.2.2.2.1,x.2.2.2.2.2.1,x.2.2.2.2.2.2.1,x.2.2.2.2.2.2.2.1,x.2.2.2.2.2.2.2.2.1,x.2.2.2.2.2.2.2.2.2.1,x.2.2.2.2.2.2.2.2.2.2.1,x.2.2.2.2.2.2.2.2.2.2.2.1,x.2.2.2.2.2.2.2.2.2.2.2.2.1,x.2.2.2.2.2.2.2.2.2.2.2.2.2.1,x.2.2.2.2.2.2.2.2.2.2.2.2.2.2))):=by kernel_rfl
theorem q4S {R:Type} (x:th) (k:t3→Option R) (r:R) (h:q4O x k=some r):∃ o,Z5s (LE.step X q4M q4E q0 q4G 12) x o∧k o=some r:=by
 obtain ⟨o,h1,h2⟩:=Z0 h
 exact ⟨q4N x o,Zhl (st:=fun (x:th)=>W3 x.2.2.1 x.2.2.2.2.2.2.2.2.2.2.2.2.2.1) (prj:=fun x=>x.1) (emb:=q4P) (embO:=q4N) (fun x=>(q4Q x).trans (by unfold W3 Wh;simp only [Zhd,Zh8,Zhe,Option.map_some,Option.map_none];rfl)) (fun _ _=>rfl) (fun _ _=>rfl) (fun _ _ _=>rfl) (fun _ _ _=>rfl) (fun _=>rfl) (Z1S.1 h1),by
  first
  | exact h2
  | (rcases o with o|o<;>exact h2)⟩
def q4T {R:Type}:Z27 S R:=LE.ls X q4M q4O q4G
theorem q4U {R:Type}:Z3J X (q4T (R:=R)):=Zhq xok q4F (e:=q4M) q1 q4H q4S q4H
theorem q4V (x0:Zl) (x1:Int) (x2:Int):Zhs X q4E [(.st 8),(.int .i64),(.int .i64)] [(.st 4),(.int .i64),(.int .i64)] q0 q4T 12 109 (x0,x1,x2,())=X1S x0 x1 x2:=by kernel_rfl
def q4W:F7 S:=⟨[(.st 8),(.int .i64),(.int .i64)],[(.st 4),(.int .i64),(.int .i64)],fun xs=>X3k xs.1 xs.2.1 xs.2.2.1⟩
theorem q4X:Z7Q X 109 q4W:=Zho (Zhn xok q4F q1 q4U 12 109) fun xs _ h=>((q4V xs.1 xs.2.1 xs.2.2.1).trans (X5w xs.1 xs.2.1 xs.2.2.1).symm).trans h
def q4Y:List (Nat×F7 S):=[(109,q4W)]
theorem q4Z:Z9n X (q4Y):=⟨q4X,trivial⟩
abbrev q50 {R:Type}:Z27 S R:=Zgi
theorem q51 {R:Type}:Z3J X (q50 (R:=R)):=ZgQ X
theorem q52 (x0:Zl) (x1:Int) (x2:Int):Zhs X q4Y [(.st 8),(.int .i64),(.int .i64)] [(.int .i64),(.int .i64)] q0 q50 12 82 (x0,x1,x2,())=X1R x0 x1 x2:=by kernel_rfl
def q53:F7 S:=⟨[(.st 8),(.int .i64),(.int .i64)],[(.int .i64),(.int .i64)],fun xs=>X5j xs.1 xs.2.1 xs.2.2.1⟩
theorem q54:Z7Q X 82 q53:=Zho (Zhn xok q4Z q1 q51 12 82) fun xs _ h=>((q52 xs.1 xs.2.1 xs.2.2.1).trans (X5u xs.1 xs.2.1 xs.2.2.1).symm).trans h
def q55:List (Nat×F7 S):=[(109,q4W)]
theorem q56:Z9n X (q55):=⟨q4X,trivial⟩
abbrev q57 {R:Type}:Z27 S R:=Zgi
theorem q58 {R:Type}:Z3J X (q57 (R:=R)):=ZgQ X
theorem q59 (x0:Zl) (x1:Int) (x2:Int):Zhs X q55 [(.st 8),(.int .i64),(.int .i64)] [(.st 4),(.int .i64)] q0 q57 12 126 (x0,x1,x2,())=X19 x0 x1 x2:=by kernel_rfl
def q5a:F7 S:=⟨[(.st 8),(.int .i64),(.int .i64)],[(.st 4),(.int .i64)],fun xs=>X4s xs.1 xs.2.1 xs.2.2.1⟩
theorem q5b:Z7Q X 126 q5a:=Zho (Zhn xok q56 q1 q58 12 126) fun xs _ h=>((q59 xs.1 xs.2.1 xs.2.2.1).trans (X4N xs.1 xs.2.1 xs.2.2.1).symm).trans h
def q5c:List (Nat×F7 S):=[]
theorem q5d:Z9n X (q5c):=trivial
abbrev q5e {R:Type}:Z27 S R:=Zgi
theorem q5f {R:Type}:Z3J X (q5e (R:=R)):=ZgQ X
theorem q5g:Zhs X q5c [] [(.arr 8 (.st 2))] q0 q5e 12 133 (())=X6h:=by kernel_rfl
def q5h:F7 S:=⟨[],[(.arr 8 (.st 2))],fun xs=>X6h⟩
theorem q5i:Z7Q X 133 q5h:=Zho (Zhn xok q5d q1 q5f 12 133) fun xs _ h=>(q5g).trans h
def q5j:List (Nat×F7 S):=[(133,q5h),(120,q1F)]
theorem q5k:Z9n X (q5j):=⟨q5i,q1G,trivial⟩
abbrev q5l {R:Type}:Z27 S R:=Zgi
theorem q5m {R:Type}:Z3J X (q5l (R:=R)):=ZgQ X
def q5n:Key:=⟨[127],127,none,[0,0,0,1],0,2⟩
def q5o:StT S:=⟨(N (N L (some (.ptr 0 0)) L) none (N L vO L)),(N L ok L),2⟩
def q5p:Way S:=⟨(.exit 0),⟨(N (N L (some (.ptr 0 0)) L) none (N L vO L)),(N L ok L),10⟩,[.int,(.st 2)]⟩
def q5q:LE S:=⟨q5n,q5o,[.int,(.st 2)],[q5p]⟩
def q5r (x:(Int×Zu)):(Int×Zu)→(Int×Zu):=fun y0=>(y0.1,y0.2)
def q5s {R:Type} (x:(Int×Zu)) (k:(Int×Zu)→Option R):Option R:=(X1O (x.1,x.2)).bind (fun y0=>k (y0.1,y0.2))
def q5t (x:(Int×Zu)) (v:(Int×Zu)):(Int×Zu):=(v.1,v.2)
theorem q5u (x:(Int×Zu)):LE.step X q5q q5j q0 q5l 12 x=XA x.1 x.2 (fun w0 w1=>(Sum.inl (w0,w1))) (fun p0 p1=>(Sum.inr (p0,p1))):=by kernel_rfl
theorem q5w {R:Type} (x:(Int×Zu)) (k:(Int×Zu)→Option R) (r:R) (h:q5s x k=some r):∃ o,Z5s (LE.step X q5q q5j q0 q5l 12) x o∧k o=some r:=by
 obtain ⟨o,h1,h2⟩:=Z0 h
 exact ⟨q5r x o,Zhl (st:=fun (x:(Int×Zu))=>Xc) (prj:=fun x=>(x.1,x.2)) (emb:=q5t) (embO:=q5r) (fun x=>(q5u x).trans (by unfold Xc XA;simp only [Zhd,Zh8,Zhe,Option.map_some,Option.map_none];rfl)) (fun _ _=>rfl) (fun _ _=>rfl) (fun _ _ _=>rfl) (fun _ _ _=>rfl) (fun _=>rfl) (Z1S.1 h1),by
  first
  | exact h2
  | (rcases o with o<;>exact h2)⟩
def q5x {R:Type}:Z27 S R:=LE.ls X q5q q5s q5l
theorem q5y {R:Type}:Z3J X (q5x (R:=R)):=Zhq xok q5k (e:=q5q) q1 q5m q5w q5m
def q5z:Key:=⟨[127],127,none,[0,0,1,0,1,1],2,12⟩
def q5A:StT S:=⟨(N (N L (some (.ptr 0 0)) (N L none (N (N L (some (.agg [(.arr (.st 2) 8 (fun _=>tdf T (.st 2)))])) L) none L))) none (N L vO v1A)),(N L ok L),12⟩
def q5B:Way S:=⟨(.exit 2),⟨(N L none (N L vO L)),(N L ok L),13⟩,[.int,(.st 2)]⟩
def q5C:LE S:=⟨q5z,q5A,[(.arr (.st 2)),.int,.int,(.st 2)],[q5B]⟩
def q5D (x:t16):Int→(Int×Zu):=fun y0=>(y0,x.2.2.2)
def q5E {R:Type} (x:t16) (k:(Int×Zu)→Option R):Option R:=(X2R x.1 x.2.2.2 (x.2.1,x.2.2.1)).bind (fun y0=>k (y0,x.2.2.2))
def q5F (x:t16) (v:(Int×Int)):t16:=(x.1,v.1,v.2,x.2.2.2)
theorem q5G (x:t16):LE.step X q5C q5j q0 q5x 12 x=Wj x.1 x.2.2.2 x.2.1 x.2.2.1 (fun w0 w1=>(Sum.inl (x.1,w0,w1,x.2.2.2))) (fun p0=>(Sum.inr (p0,x.2.2.2))):=by kernel_rfl
theorem q5I {R:Type} (x:t16) (k:(Int×Zu)→Option R) (r:R) (h:q5E x k=some r):∃ o,Z5s (LE.step X q5C q5j q0 q5x 12) x o∧k o=some r:=by
 obtain ⟨o,h1,h2⟩:=Z0 h
 exact ⟨q5D x o,Zhl (st:=fun (x:t16)=>W5 x.1 x.2.2.2) (prj:=fun x=>(x.2.1,x.2.2.1)) (emb:=q5F) (embO:=q5D) (fun x=>(q5G x).trans (by unfold W5 Wj;simp only [Zhd,Zh8,Zhe,Option.map_some,Option.map_none];rfl)) (fun _ _=>rfl) (fun _ _=>rfl) (fun _ _ _=>rfl) (fun _ _ _=>rfl) (fun _=>rfl) (Z1S.1 h1),by
  first
  | exact h2
  | (rcases o with o<;>exact h2)⟩
def q5J {R:Type}:Z27 S R:=LE.ls X q5C q5E q5x
theorem q5K {R:Type}:Z3J X (q5J (R:=R)):=Zhq xok q5k (e:=q5C) q1 q5y q5I q5y
theorem q5L (x0:Zu):Zhs X q5j [(.st 2)] [(.int .i64)] q0 q5J 12 127 (x0,())=X1U x0:=by kernel_rfl
def q5M:F7 S:=⟨[(.st 2)],[(.int .i64)],fun xs=>X4i xs.1⟩
theorem q5N:Z7Q X 127 q5M:=Zho (Zhn xok q5k q1 q5K 12 127) fun xs _ h=>((q5L xs.1).trans (X5y xs.1).symm).trans h
def q5O:List (Nat×F7 S):=[(126,q5a),(93,qY),(121,q1y),(127,q5M)]
theorem q5P:Z9n X (q5O):=⟨q5b,qZ,q1z,q5N,trivial⟩
abbrev q5Q {R:Type}:Z27 S R:=Zgi
theorem q5R {R:Type}:Z3J X (q5Q (R:=R)):=ZgQ X
theorem q5S (x0:Zl) (x1:Int) (x2:Int) (x3:Zu):Zhs X q5O [(.st 8),(.int .i64),(.int .i64),(.st 2)] [(.int .i64),(.int .i64)] q0 q5Q 12 110 (x0,x1,x2,x3,())=X2y x0 x1 x2 x3:=by kernel_rfl
def q5T:F7 S:=⟨[(.st 8),(.int .i64),(.int .i64),(.st 2)],[(.int .i64),(.int .i64)],fun xs=>X5k xs.1 xs.2.1 xs.2.2.1 xs.2.2.2.1⟩
theorem q5U:Z7Q X 110 q5T:=Zho (Zhn xok q5P q1 q5R 12 110) fun xs _ h=>((q5S xs.1 xs.2.1 xs.2.2.1 xs.2.2.2.1).trans (X6f xs.1 xs.2.1 xs.2.2.1 xs.2.2.2.1).symm).trans h
def q5V:StT S:=⟨(N (N L vO L) (some (.ptr 1 0)) L),(N (N L o4 L) op L),2⟩
def q5W:Way S:=⟨.ret,⟨(N L vN L),(N (N L o4 L) op L),2⟩,[.bool,(.st 20),(.lst (.st 21)),.en,(.mp (.st 23) (.int .i64))]⟩
def q5X:PE S:=⟨49,2,q5V,[.int,(.st 20),(.lst (.st 21)),.en,(.mp (.st 23) (.int .i64))],[q5W]⟩
def q5Y:List (Nat×F7 S):=[(82,q53)]
theorem q5Z:Z9n X q5Y:=⟨q54,trivial⟩
abbrev q60 {R:Type}:Z27 S R:=Zgi
theorem q61 {R:Type}:Z3J X (q60 (R:=R)):=ZgQ X
theorem q62 (x:tL):PE.step X q5X q5Y q0 q60 12 x=XE x.1 x.2.1 x.2.2.1 x.2.2.2.1 x.2.2.2.2:=by kernel_rfl
theorem q63:ZaX X q5X Xq:=Zhr (ZgU xok q5Z q1 q61 12) fun x _ h=>((q62 x).trans (X3s x).symm).trans h
def q64 {R:Type}:Prs S R:=PE.ps X q5X (fun x q=>(Xq x).bind q) q0
theorem q65 {R:Type}:Z7R X (q64 (R:=R)):=Zhi (e:=q5X) q63 q1
def q66:StT S:=⟨(N (N L vq L) (some (.ptr 1 0)) L),(N (N L o4 L) op L),2⟩
def q67:Way S:=⟨.ret,⟨(N L vO L),(N (N L o4 L) op L),2⟩,[.int,(.st 20),(.lst (.st 21)),.en,(.mp (.st 23) (.int .i64))]⟩
def q68:PE S:=⟨105,2,q66,[(.st 21),(.st 20),(.lst (.st 21)),.en,(.mp (.st 23) (.int .i64))],[q67]⟩
def q69:List (Nat×F7 S):=[(57,q37),(82,q53)]
theorem q6a:Z9n X q69:=⟨q38,q54,trivial⟩
abbrev q6b {R:Type}:Z27 S R:=Zgi
theorem q6c {R:Type}:Z3J X (q6b (R:=R)):=ZgQ X
theorem q6d (x:(Zn×ZJ×(List Zn)×(Nat→Nat)×t1m)):PE.step X q68 q69 q64 q6b 12 x=XM x.1 x.2.1 x.2.2.1 x.2.2.2.1 x.2.2.2.2:=by kernel_rfl
theorem q6e:ZaX X q68 X1a:=Zhr (ZgU xok q6a q65 q6c 12) fun x _ h=>((q6d x).trans (X3J x).symm).trans h
def q6f {R:Type}:Prs S R:=PE.ps X q68 (fun x q=>(X1a x).bind q) q64
theorem q6g {R:Type}:Z7R X (q6f (R:=R)):=Zhi (e:=q68) q6e q65
def q6h:StT S:=⟨v1q,L,0⟩
def q6i:Way S:=⟨.ret,⟨(N L (some (.tup [.nilp,(.int .i64 0),(.int .i64 0)])) L),L,0⟩,[.int,.int]⟩
def q6j:Way S:=⟨.ret,⟨(N L (some (.tup [(.ptr 1 0),(.int .i64 0),(.int .i64 0)])) L),(N (N L o4 L) op L),2⟩,[.int,.int,(.st 20),(.lst (.st 21)),.en,(.mp (.st 23) (.int .i64))]⟩
def q6k:PE S:=⟨74,2,q6h,[(.lst (.st 21)),(.st 20)],[q6i,q6j]⟩
def q6l:List (Nat×F7 S):=[(29,q4C),(57,q37),(82,q53)]
theorem q6m:Z9n X q6l:=⟨q4D,q38,q54,trivial⟩
abbrev q6n {R:Type}:Z27 S R:=Zgi
theorem q6o {R:Type}:Z3J X (q6n (R:=R)):=ZgQ X
def q6p:Key:=⟨[74],74,none,[0,0,1,0,1,1,1,1],0,26⟩
def q6q:StT S:=⟨(N (N (N L none (N L none (N L vJ L))) vK (N L none (N L none (N L vO L)))) none (N (N L (some (.ptr 1 0)) (N L none (N L vO L))) none L)),o19,26⟩
def q6r:Way S:=⟨(.exit 0),⟨(N (N L vK L) none (N (N L (some (.ptr 1 0)) L) none L)),o19,27⟩,[(.lst (.st 21)),(.st 20),(.st 20),(.lst (.st 21)),.en,(.mp (.st 23) (.int .i64))]⟩
def q6s:LE S:=⟨q6p,q6q,[(.lst (.st 18)),(.lst (.st 21)),.int,.int,(.st 20),(.st 20),(.lst (.st 21)),.en,(.mp (.st 23) (.int .i64))],[q6r]⟩
def q6t (x:tk):(Nat→Nat)→tx:=fun y0=>(x.2.1,x.2.2.2.2.1,x.2.2.2.2.2.1,x.2.2.2.2.2.2.1,y0,x.2.2.2.2.2.2.2.2)
def q6u {R:Type} (x:tk) (k:tx→Option R):Option R:=(X3a x.1 x.2.2.2.1 (x.2.2.1,x.2.2.2.2.2.2.2.1)).bind (fun y0=>k (x.2.1,x.2.2.2.2.1,x.2.2.2.2.2.1,x.2.2.2.2.2.2.1,y0,x.2.2.2.2.2.2.2.2))
def q6v (x:tk) (v:(Int×(Nat→Nat))):tk:=(x.1,x.2.1,v.1,x.2.2.2.1,x.2.2.2.2.1,x.2.2.2.2.2.1,x.2.2.2.2.2.2.1,v.2,x.2.2.2.2.2.2.2.2)
theorem q6w (x:tk):LE.step X q6s q6l q0 q6n 12 x=WR x.1 x.2.2.2.1 x.2.2.1 x.2.2.2.2.2.2.2.1 (fun w0 w1=>(Sum.inl (x.1,x.2.1,w0,x.2.2.2.1,x.2.2.2.2.1,x.2.2.2.2.2.1,x.2.2.2.2.2.2.1,w1,x.2.2.2.2.2.2.2.2))) (fun p0=>(Sum.inr (x.2.1,x.2.2.2.2.1,x.2.2.2.2.2.1,x.2.2.2.2.2.2.1,p0,x.2.2.2.2.2.2.2.2))):=by kernel_rfl
theorem q6y {R:Type} (x:tk) (k:tx→Option R) (r:R) (h:q6u x k=some r):∃ o,Z5s (LE.step X q6s q6l q0 q6n 12) x o∧k o=some r:=by
 obtain ⟨o,h1,h2⟩:=Z0 h
 exact ⟨q6t x o,Zhl (st:=fun (x:tk)=>Wz x.1 x.2.2.2.1) (prj:=fun x=>(x.2.2.1,x.2.2.2.2.2.2.2.1)) (emb:=q6v) (embO:=q6t) (fun x=>(q6w x).trans (by unfold Wz WR;simp only [Zhd,Zh8,Zhe,Option.map_some,Option.map_none];rfl)) (fun _ _=>rfl) (fun _ _=>rfl) (fun _ _ _=>rfl) (fun _ _ _=>rfl) (fun _=>rfl) (Z1S.1 h1),by
  first
  | exact h2
  | (rcases o with o<;>exact h2)⟩
def q6z {R:Type}:Z27 S R:=LE.ls X q6s q6u q6n
theorem q6A {R:Type}:Z3J X (q6z (R:=R)):=Zhq xok q6m (e:=q6s) q1 q6o q6y q6o
def q6B:Key:=⟨[103,2,14,74],103,none,[0,0,1,0,1],0,40⟩
def q6C:StT S:=⟨(N (N (N L none (N L vO L)) (some (.fn (.func 104) [] [(.ptr 1 0)])) (N (N L vK L) none L)) none v1A),o16,40⟩
def q6D:Way S:=⟨.ret,⟨v1r,(N (N L oz L) none (N (N L none (N (N L o2 (N L oe L)) none (N (N L oe L) none L))) none (N (N (N L op L) none L) none L))),64⟩,[.int,.int,(.st 20),(.lst (.st 21)),.en,(.st 21),(.st 21),(.mp (.st 23) (.int .i64))]⟩
def q6E:Way S:=⟨(.exit 0),⟨L,o16,41⟩,[(.st 20),(.lst (.st 21)),.en,(.mp (.st 23) (.int .i64))]⟩
def q6F:LE S:=⟨q6B,q6C,[.int,(.lst (.st 21)),.int,(.st 20),(.lst (.st 21)),.en,(.mp (.st 23) (.int .i64))],[q6D,q6E]⟩
def q6G (x:tt):tb→tb:=Sum.elim (fun y0=>(.inl (y0.1,y0.2.1,y0.2.2.1,y0.2.2.2.1,y0.2.2.2.2.1,y0.2.2.2.2.2.1,y0.2.2.2.2.2.2.1,y0.2.2.2.2.2.2.2))) (fun y1=>(.inr (y1.1,y1.2.1,y1.2.2.1,y1.2.2.2)))
def q6H {R:Type} (x:tt) (k:tb→Option R):Option R:=(X3b x.2.1 x.2.2.1 (x.1,x.2.2.2.1,x.2.2.2.2.1,x.2.2.2.2.2.1,x.2.2.2.2.2.2)).bind (Sum.elim (fun y0=>k (.inl (y0.1,y0.2.1,y0.2.2.1,y0.2.2.2.1,y0.2.2.2.2.1,y0.2.2.2.2.2.1,y0.2.2.2.2.2.2.1,y0.2.2.2.2.2.2.2))) (fun y1=>k (.inr (y1.1,y1.2.1,y1.2.2.1,y1.2.2.2))))
def q6I (x:tt) (v:tL):tt:=(v.1,x.2.1,x.2.2.1,v.2.1,v.2.2.1,v.2.2.2.1,v.2.2.2.2)
theorem q6J (x:tt):LE.step X q6F q6l q6f q6z 12 x=WS x.2.1 x.2.2.1 x.1 x.2.2.2.1 x.2.2.2.2.1 x.2.2.2.2.2.1 x.2.2.2.2.2.2 (fun w0 w1 w2 w3 w4=>(Sum.inl (w0,x.2.1,x.2.2.1,w1,w2,w3,w4))) (fun p0 p1 p2 p3 p4 p5 p6 p7=>(Sum.inr (.inl (p0,p1,p2,p3,p4,p5,p6,p7)))) (fun p0 p1 p2 p3=>(Sum.inr (.inr (p0,p1,p2,p3)))):=by kernel_rfl
theorem q6L {R:Type} (x:tt) (k:tb→Option R) (r:R) (h:q6H x k=some r):∃ o,Z5s (LE.step X q6F q6l q6f q6z 12) x o∧k o=some r:=by
 obtain ⟨o,h1,h2⟩:=Z0 h
 exact ⟨q6G x o,Zhl (st:=fun (x:tt)=>WA x.2.1 x.2.2.1) (prj:=fun x=>(x.1,x.2.2.2.1,x.2.2.2.2.1,x.2.2.2.2.2.1,x.2.2.2.2.2.2)) (emb:=q6I) (embO:=q6G) (fun x=>(q6J x).trans (by unfold WA WS;simp only [Zhd,Zh8,Zhe,Option.map_some,Option.map_none];rfl)) (fun _ _=>rfl) (fun _ _=>rfl) (fun _ _ _=>rfl) (fun _ _ _=>rfl) (fun _=>rfl) (Z1S.1 h1),by
  first
  | exact h2
  | (rcases o with o|o<;>exact h2)⟩
def q6M {R:Type}:Z27 S R:=LE.ls X q6F q6H q6z
theorem q6N {R:Type}:Z3J X (q6M (R:=R)):=Zhq xok q6m (e:=q6F) q6g q6A q6L q6A
theorem q6O (x:((List Zn)×ZJ)):PE.step X q6k q6l q6f q6M 12 x=X2g x.1 x.2:=by kernel_rfl
theorem q6P:ZaX X q6k X4R:=Zhr (ZgU xok q6m q6g q6N 12) fun x _ h=>((q6O x).trans (X5X x).symm).trans h
def q6Q {R:Type}:Prs S R:=PE.ps X q6k (fun x q=>(X4R x).bind q) q6f
theorem q6R {R:Type}:Z7R X (q6Q (R:=R)):=Zhi (e:=q6k) q6P q6g
def q6S:StT S:=⟨v1q,L,0⟩
def q6T:Way S:=⟨.ret,⟨(N L (some (.tup [.nilp,(.int .i64 0)])) L),L,0⟩,[.int]⟩
def q6U:Way S:=⟨.ret,⟨(N L (some (.tup [(.ptr 1 0),(.int .i64 0)])) L),(N (N L o4 L) op L),2⟩,[.int,(.st 20),(.lst (.st 21)),.en,(.mp (.st 23) (.int .i64))]⟩
def q6V:PE S:=⟨35,2,q6S,[(.lst (.st 21)),(.st 20)],[q6T,q6U]⟩
def q6W:List (Nat×F7 S):=[(29,q4C),(57,q37),(82,q53)]
theorem q6X:Z9n X q6W:=⟨q4D,q38,q54,trivial⟩
abbrev q6Y {R:Type}:Z27 S R:=Zgi
theorem q6Z {R:Type}:Z3J X (q6Y (R:=R)):=ZgQ X
theorem q70 (x:((List Zn)×ZJ)):PE.step X q6V q6W q6Q q6Y 12 x=X1V x.1 x.2:=by kernel_rfl
theorem q71:ZaX X q6V X2K:=Zhr (ZgU xok q6X q6R q6Z 12) fun x _ h=>((q70 x).trans (X5A x).symm).trans h
def q72 {R:Type}:Prs S R:=PE.ps X q6V (fun x q=>(X2K x).bind q) q6Q
theorem q73 {R:Type}:Z7R X (q72 (R:=R)):=Zhi (e:=q6V) q71 q6R
def q74:StT S:=⟨(N L (some .nilp) L),L,0⟩
def q75:PE S:=⟨36,1,q74,[],[]⟩
def q76:List (Nat×F7 S):=[(110,q5T),(57,q37)]
theorem q77:Z9n X q76:=⟨q5U,q38,trivial⟩
abbrev q78 {R:Type}:Z27 S R:=Zgi
theorem q79 {R:Type}:Z3J X (q78 (R:=R)):=ZgQ X
theorem q7a (x:Unit):PE.step X q75 q76 q72 q78 12 x=Ww:=by kernel_rfl
theorem q7b:ZaX X q75 X1Q:=Zhr (ZgU xok q77 q73 q79 12) fun x _ h=>((q7a x).trans (X5n x).symm).trans h
def q7c {R:Type}:Prs S R:=PE.ps X q75 (fun x q=>(X1Q x).bind q) q72
theorem q7d {R:Type}:Z7R X (q7c (R:=R)):=Zhi (e:=q75) q7b q73
def q7e:StT S:=⟨(N (N L vO L) (some (.ptr 1 0)) (N L vs L)),(N (N L o4 L) op L),2⟩
def q7f:Way S:=⟨.ret,⟨(N L vO L),(N (N L o4 L) op L),2⟩,[.int,(.st 20),(.lst (.st 21)),.en,(.mp (.st 23) (.int .i64))]⟩
def q7g:PE S:=⟨83,3,q7e,[.int,(.st 2),(.st 20),(.lst (.st 21)),.en,(.mp (.st 23) (.int .i64))],[q7f]⟩
def q7h:List (Nat×F7 S):=[(110,q5T)]
theorem q7i:Z9n X q7h:=⟨q5U,trivial⟩
abbrev q7j {R:Type}:Z27 S R:=Zgi
theorem q7k {R:Type}:Z3J X (q7j (R:=R)):=ZgQ X
theorem q7l (x:(Int×Zu×ZJ×(List Zn)×(Nat→Nat)×t1m)):PE.step X q7g q7h q7c q7j 12 x=XF x.1 x.2.1 x.2.2.1 x.2.2.2.1 x.2.2.2.2.1 x.2.2.2.2.2:=by kernel_rfl
theorem q7m:ZaX X q7g XS:=Zhr (ZgU xok q7i q7d q7k 12) fun x _ h=>((q7l x).trans (X3w x).symm).trans h
def q7n {R:Type}:Prs S R:=PE.ps X q7g (fun x q=>(XS x).bind q) q7c
theorem q7o {R:Type}:Z7R X (q7n (R:=R)):=Zhi (e:=q7g) q7m q7d
def q7p:StT S:=⟨(N (N L vs L) (some (.agg [(.ptr 1 0)])) (N L vq L)),(N (N L o4 L) op L),2⟩
def q7q:Way S:=⟨.ret,⟨v1f,(N (N L o4 L) op L),2⟩,[(.st 5),.bool,(.st 20),(.lst (.st 21)),.en,(.mp (.st 23) (.int .i64))]⟩
def q7r:PE S:=⟨149,3,q7p,[(.st 2),(.st 21),(.st 20),(.lst (.st 21)),.en,(.mp (.st 23) (.int .i64))],[q7q]⟩
def q7s:List (Nat×F7 S):=[(110,q5T)]
theorem q7t:Z9n X q7s:=⟨q5U,trivial⟩
abbrev q7u {R:Type}:Z27 S R:=Zgi
theorem q7v {R:Type}:Z3J X (q7u (R:=R)):=ZgQ X
theorem q7w (x:(Zu×Zn×ZJ×(List Zn)×(Nat→Nat)×t1m)):PE.step X q7r q7s q7n q7u 12 x=XG x.1 x.2.1 x.2.2.1 x.2.2.2.1 x.2.2.2.2.1 x.2.2.2.2.2:=by kernel_rfl
theorem q7x:ZaX X q7r Xr:=Zhr (ZgU xok q7t q7o q7v 12) fun x _ h=>((q7w x).trans (X3y x).symm).trans h
def q7y {R:Type}:Prs S R:=PE.ps X q7r (fun x q=>(Xr x).bind q) q7n
theorem q7z {R:Type}:Z7R X (q7y (R:=R)):=Zhi (e:=q7r) q7x q7o
def q7A:StT S:=⟨(N (N L vs L) (some (.agg [(.ptr 1 0)])) (N L vq L)),(N (N L o4 L) op L),2⟩
def q7B:Way S:=⟨.ret,⟨v1f,(N (N L o4 L) op L),2⟩,[(.st 5),.bool,(.st 20),(.lst (.st 21)),.en,(.mp (.st 23) (.int .i64))]⟩
def q7C:PE S:=⟨150,3,q7A,[(.st 2),(.st 21),(.st 20),(.lst (.st 21)),.en,(.mp (.st 23) (.int .i64))],[q7B]⟩
def q7D:List (Nat×F7 S):=[(57,q37)]
theorem q7E:Z9n X q7D:=⟨q38,trivial⟩
abbrev q7F {R:Type}:Z27 S R:=Zgi
theorem q7G {R:Type}:Z3J X (q7F (R:=R)):=ZgQ X
def q7H:Key:=⟨[151,7,1,150],151,none,[0,0,1,0,1],0,20⟩
def q7I:StT S:=⟨(N (N (N (N L vO L) none L) (some (.fn (.func 152) [] [(.ptr 3 0)])) L) (some (.sl (.st 19) [])) v1z),o1C,20⟩
def q7J:Way S:=⟨.ret,⟨v1A,(N (N (N (N L none (N (N L ot L) none L)) ok o1E) none (N L none (N L none (N L ob L)))) none L),58⟩,[.int,(.lst (.int .i64)),(.st 2),(.lst (.int .i64)),(.st 19)]⟩
def q7K:Way S:=⟨(.exit 0),⟨L,o1C,21⟩,[(.st 2)]⟩
def q7L:LE S:=⟨q7H,q7I,[.int,(.lst (.st 19)),.int,(.st 2)],[q7J,q7K]⟩
def q7M (x:t17):((Int×(List Int)×(List Int)×Zt)⊕Unit)→tV:=Sum.elim (fun y0=>(.inl (y0.1,y0.2.1,x.2.2.2,y0.2.2.1,y0.2.2.2))) (fun y1=>(.inr x.2.2.2))
def q7N {R:Type} (x:t17) (k:tV→Option R):Option R:=(X3i x.1 x.2.1 x.2.2.2 x.2.2.1).bind (Sum.elim (fun y0=>k (.inl (y0.1,y0.2.1,x.2.2.2,y0.2.2.1,y0.2.2.2))) (fun y1=>k (.inr x.2.2.2)))
def q7O (x:t17) (v:Int):t17:=(x.1,x.2.1,v,x.2.2.2)
theorem q7P (x:t17):LE.step X q7L q7D q7y q7F 12 x=Xx x.1 x.2.1 x.2.2.2 x.2.2.1 (fun w0=>(Sum.inl (x.1,x.2.1,w0,x.2.2.2))) (fun p0 p1 p2 p3=>(Sum.inr (.inl (p0,p1,x.2.2.2,p2,p3)))) (Sum.inr (.inr x.2.2.2)):=by kernel_rfl
theorem q7R {R:Type} (x:t17) (k:tV→Option R) (r:R) (h:q7N x k=some r):∃ o,Z5s (LE.step X q7L q7D q7y q7F 12) x o∧k o=some r:=by
 obtain ⟨o,h1,h2⟩:=Z0 h
 exact ⟨q7M x o,Zhl (st:=fun (x:t17)=>Xm x.1 x.2.1 x.2.2.2) (prj:=fun x=>x.2.2.1) (emb:=q7O) (embO:=q7M) (fun x=>(q7P x).trans (by unfold Xm Xx;simp only [Zhd,Zh8,Zhe,Option.map_some,Option.map_none];rfl)) (fun _ _=>rfl) (fun _ _=>rfl) (fun _ _ _=>rfl) (fun _ _ _=>rfl) (fun _=>rfl) (Z1S.1 h1),by
  first
  | exact h2
  | (rcases o with o|o<;>exact h2)⟩
def q7S {R:Type}:Z27 S R:=LE.ls X q7L q7N q7F
theorem q7T {R:Type}:Z3J X (q7S (R:=R)):=Zhq xok q7E (e:=q7L) q7z q7G q7R q7G
theorem q7U (x:(Zu×Zn×ZJ×(List Zn)×(Nat→Nat)×t1m)):PE.step X q7C q7D q7y q7S 12 x=Wk x.1 x.2.1 x.2.2.1 x.2.2.2.1 x.2.2.2.2.1 x.2.2.2.2.2:=by kernel_rfl
theorem q7V:ZaX X q7C W6:=Zhr (ZgU xok q7E q7z q7T 12) fun x _ h=>((q7U x).trans (X4c x).symm).trans h
def q7W {R:Type}:Prs S R:=PE.ps X q7C (fun x q=>(W6 x).bind q) q7y
theorem q7X {R:Type}:Z7R X (q7W (R:=R)):=Zhi (e:=q7C) q7V q7z
def q7Y:StT S:=⟨(N (N (N L vO L) vs L) (some (.ptr 1 0)) (N L vO L)),(N (N L o4 L) op L),2⟩
def q7Z:Way S:=⟨.ret,⟨(N L (some (.tup [(.agg [(.arr (.st 5) 4 (fun _=>tdf T (.st 5)))]),(.bool false)])) L),(N (N L o4 L) op L),2⟩,[(.arr (.st 5)),.bool,(.st 20),(.lst (.st 21)),.en,(.mp (.st 23) (.int .i64))]⟩
def q80:PE S:=⟨58,4,q7Y,[.int,(.st 2),.int,(.st 20),(.lst (.st 21)),.en,(.mp (.st 23) (.int .i64))],[q7Z]⟩
def q81:List (Nat×F7 S):=[(110,q5T),(57,q37)]
theorem q82:Z9n X q81:=⟨q5U,q38,trivial⟩
abbrev q83 {R:Type}:Z27 S R:=Zgi
theorem q84 {R:Type}:Z3J X (q83 (R:=R)):=ZgQ X
def q85:Key:=⟨[58],58,none,[0,0,1,0,0,1],0,12⟩
def q86:StT S:=⟨(N (N (N (N L none (N L vO L)) vO L) none (N L (some (.ptr 2 0)) L)) (some (.ptr 1 0)) (N (N (N L (some (.ptr 3 0)) (N L vO L)) none L) vO (N L none (N (N L vJ L) none L)))),o1w,12⟩
def q87:Way S:=⟨(.exit 0),⟨(N (N (N L vO L) none (N L (some (.ptr 2 0)) L)) (some (.ptr 1 0)) (N v1x vO L)),o1w,13⟩,[.int,.int,(.arr (.st 5)),(.st 20),(.lst (.st 21)),.en,(.mp (.st 23) (.int .i64)),(.st 2)]⟩
def q88:LE S:=⟨q85,q86,[.int,.int,.int,.int,(.lst (.st 18)),(.arr (.st 5)),(.st 20),(.lst (.st 21)),.en,(.mp (.st 23) (.int .i64)),(.st 2)],[q87]⟩
def q89 (x:tg):(Nat→ZE)→tq:=fun y0=>(x.2.1,x.2.2.2.1,y0,x.2.2.2.2.2.2.1,x.2.2.2.2.2.2.2.1,x.2.2.2.2.2.2.2.2.1,x.2.2.2.2.2.2.2.2.2.1,x.2.2.2.2.2.2.2.2.2.2)
def q8a {R:Type} (x:tg) (k:tq→Option R):Option R:=(X28 x.1 x.2.1 x.2.2.2.1 x.2.2.2.2.1 x.2.2.2.2.2.2.1 x.2.2.2.2.2.2.2.1 x.2.2.2.2.2.2.2.2.1 x.2.2.2.2.2.2.2.2.2.1 x.2.2.2.2.2.2.2.2.2.2 (x.2.2.1,x.2.2.2.2.2.1)).bind (fun y0=>k (x.2.1,x.2.2.2.1,y0,x.2.2.2.2.2.2.1,x.2.2.2.2.2.2.2.1,x.2.2.2.2.2.2.2.2.1,x.2.2.2.2.2.2.2.2.2.1,x.2.2.2.2.2.2.2.2.2.2))
def q8b (x:tg) (v:(Int×(Nat→ZE))):tg:=(x.1,x.2.1,v.1,x.2.2.2.1,x.2.2.2.2.1,v.2,x.2.2.2.2.2.2.1,x.2.2.2.2.2.2.2.1,x.2.2.2.2.2.2.2.2.1,x.2.2.2.2.2.2.2.2.2.1,x.2.2.2.2.2.2.2.2.2.2)
theorem q8c (x:tg):LE.step X q88 q81 q7c q83 12 x=XB x.1 x.2.1 x.2.2.2.1 x.2.2.2.2.1 x.2.2.2.2.2.2.1 x.2.2.2.2.2.2.2.1 x.2.2.2.2.2.2.2.2.1 x.2.2.2.2.2.2.2.2.2.1 x.2.2.2.2.2.2.2.2.2.2 x.2.2.1 x.2.2.2.2.2.1 (fun w0 w1=>(Sum.inl (x.1,x.2.1,w0,x.2.2.2.1,x.2.2.2.2.1,w1,x.2.2.2.2.2.2.1,x.2.2.2.2.2.2.2.1,x.2.2.2.2.2.2.2.2.1,x.2.2.2.2.2.2.2.2.2.1,x.2.2.2.2.2.2.2.2.2.2))) (fun p0=>(Sum.inr (x.2.1,x.2.2.2.1,p0,x.2.2.2.2.2.2.1,x.2.2.2.2.2.2.2.1,x.2.2.2.2.2.2.2.2.1,x.2.2.2.2.2.2.2.2.2.1,x.2.2.2.2.2.2.2.2.2.2))):=by kernel_rfl
theorem q8e {R:Type} (x:tg) (k:tq→Option R) (r:R) (h:q8a x k=some r):∃ o,Z5s (LE.step X q88 q81 q7c q83 12) x o∧k o=some r:=by
 obtain ⟨o,h1,h2⟩:=Z0 h
 exact ⟨q89 x o,Zhl (st:=fun (x:tg)=>Xt x.1 x.2.1 x.2.2.2.1 x.2.2.2.2.1 x.2.2.2.2.2.2.1 x.2.2.2.2.2.2.2.1 x.2.2.2.2.2.2.2.2.1 x.2.2.2.2.2.2.2.2.2.1 x.2.2.2.2.2.2.2.2.2.2) (prj:=fun x=>(x.2.2.1,x.2.2.2.2.2.1)) (emb:=q8b) (embO:=q89) (fun x=>(q8c x).trans (by unfold Xt XB;simp only [Zhd,Zh8,Zhe,Option.map_some,Option.map_none];rfl)) (fun _ _=>rfl) (fun _ _=>rfl) (fun _ _ _=>rfl) (fun _ _ _=>rfl) (fun _=>rfl) (Z1S.1 h1),by
  first
  | exact h2
  | (rcases o with o<;>exact h2)⟩
def q8f {R:Type}:Z27 S R:=LE.ls X q88 q8a q83
theorem q8g {R:Type}:Z3J X (q8f (R:=R)):=Zhq xok q82 (e:=q88) q7d q84 q8e q84
def q8h:Key:=⟨[58],58,none,[0,0,1,0,1,1,0,1],2,19⟩
def q8i:StT S:=⟨(N (N (N v1A vO L) none (N L (some (.ptr 2 0)) (N (N (N L vK L) none L) none L))) (some (.ptr 1 0)) (N v1x vO (N L none v1z))),o1w,19⟩
def q8j:Way S:=⟨.ret,⟨v1b,(N (N (N L o8 (N (N (N L (some (.cells 159 [.nilp])) L) none L) none L)) o4 o1a) op (N L ok (N L none (N (N L oe L) none L)))),102⟩,[.bool,(.arr (.st 5)),(.st 20),(.lst (.st 21)),.en,(.st 5),(.mp (.st 23) (.int .i64)),(.st 2),(.st 21)]⟩
def q8k:Way S:=⟨.ret,⟨v1b,(N (N (N L o8 (N (N (N L (some (.cells 159 [(.ptr 1 0)])) L) none L) none L)) o4 o1a) op (N L ok (N L none (N (N L oe L) none L)))),102⟩,[.bool,(.arr (.st 5)),(.st 20),(.lst (.st 21)),.en,(.st 5),(.mp (.st 23) (.int .i64)),(.st 2),(.st 21)]⟩
def q8l:Way S:=⟨(.exit 2),⟨(N L none (N v1x none L)),o1w,20⟩,[(.arr (.st 5)),(.st 20),(.lst (.st 21)),.en,(.mp (.st 23) (.int .i64)),(.st 2)]⟩
def q8m:LE S:=⟨q8h,q8i,[.int,.int,(.lst (.st 21)),.int,.int,(.arr (.st 5)),(.st 20),(.lst (.st 21)),.en,(.mp (.st 23) (.int .i64)),(.st 2)],[q8j,q8k,q8l]⟩
def q8n (x:ti):((Bool×(Nat→ZE)×ZJ×(List Zn)×(Nat→Nat)×ZE×t1m×Zn)⊕(Bool×(Nat→ZE)×ZJ×(List Zn)×(Nat→Nat)×ZE×t1m×Zn)⊕((Nat→ZE)×ZJ×(List Zn)×(Nat→Nat)×t1m))→t1:=Sum.elim (fun y0=>(.inl (y0.1,y0.2.1,y0.2.2.1,y0.2.2.2.1,y0.2.2.2.2.1,y0.2.2.2.2.2.1,y0.2.2.2.2.2.2.1,x.2.2.2.2.2.2.2.2.2.2,y0.2.2.2.2.2.2.2))) (Sum.elim (fun y1=>(.inr (.inl (y1.1,y1.2.1,y1.2.2.1,y1.2.2.2.1,y1.2.2.2.2.1,y1.2.2.2.2.2.1,y1.2.2.2.2.2.2.1,x.2.2.2.2.2.2.2.2.2.2,y1.2.2.2.2.2.2.2)))) (fun y2=>(.inr (.inr (y2.1,y2.2.1,y2.2.2.1,y2.2.2.2.1,y2.2.2.2.2,x.2.2.2.2.2.2.2.2.2.2)))))
def q8o {R:Type} (x:ti) (k:t1→Option R):Option R:=(X29 x.2.1 x.2.2.1 x.2.2.2.1 x.2.2.2.2.1 x.2.2.2.2.2.2.2.2.2.2 (x.1,x.2.2.2.2.2.1,x.2.2.2.2.2.2.1,x.2.2.2.2.2.2.2.1,x.2.2.2.2.2.2.2.2.1,x.2.2.2.2.2.2.2.2.2.1)).bind (Sum.elim (fun y0=>k (.inl (y0.1,y0.2.1,y0.2.2.1,y0.2.2.2.1,y0.2.2.2.2.1,y0.2.2.2.2.2.1,y0.2.2.2.2.2.2.1,x.2.2.2.2.2.2.2.2.2.2,y0.2.2.2.2.2.2.2))) (Sum.elim (fun y1=>k (.inr (.inl (y1.1,y1.2.1,y1.2.2.1,y1.2.2.2.1,y1.2.2.2.2.1,y1.2.2.2.2.2.1,y1.2.2.2.2.2.2.1,x.2.2.2.2.2.2.2.2.2.2,y1.2.2.2.2.2.2.2)))) (fun y2=>k (.inr (.inr (y2.1,y2.2.1,y2.2.2.1,y2.2.2.2.1,y2.2.2.2.2,x.2.2.2.2.2.2.2.2.2.2))))))
def q8p (x:ti) (v:(Int×(Nat→ZE)×ZJ×(List Zn)×(Nat→Nat)×t1m)):ti:=(v.1,x.2.1,x.2.2.1,x.2.2.2.1,x.2.2.2.2.1,v.2.1,v.2.2.1,v.2.2.2.1,v.2.2.2.2.1,v.2.2.2.2.2,x.2.2.2.2.2.2.2.2.2.2)
theorem q8q (x:ti):LE.step X q8m q81 q7W q8f 12 x=XC x.2.1 x.2.2.1 x.2.2.2.1 x.2.2.2.2.1 x.2.2.2.2.2.2.2.2.2.2 x.1 x.2.2.2.2.2.1 x.2.2.2.2.2.2.1 x.2.2.2.2.2.2.2.1 x.2.2.2.2.2.2.2.2.1 x.2.2.2.2.2.2.2.2.2.1 (fun w0 w1 w2 w3 w4 w5=>(Sum.inl (w0,x.2.1,x.2.2.1,x.2.2.2.1,x.2.2.2.2.1,w1,w2,w3,w4,w5,x.2.2.2.2.2.2.2.2.2.2))) (fun p0 p1 p2 p3 p4 p5 p6 p7=>(Sum.inr (.inl (p0,p1,p2,p3,p4,p5,p6,x.2.2.2.2.2.2.2.2.2.2,p7)))) (fun p0 p1 p2 p3 p4 p5 p6 p7=>(Sum.inr (.inr (.inl (p0,p1,p2,p3,p4,p5,p6,x.2.2.2.2.2.2.2.2.2.2,p7))))) (fun p0 p1 p2 p3 p4=>(Sum.inr (.inr (.inr (p0,p1,p2,p3,p4,x.2.2.2.2.2.2.2.2.2.2))))):=by kernel_rfl
theorem q8s {R:Type} (x:ti) (k:t1→Option R) (r:R) (h:q8o x k=some r):∃ o,Z5s (LE.step X q8m q81 q7W q8f 12) x o∧k o=some r:=by
 obtain ⟨o,h1,h2⟩:=Z0 h
 exact ⟨q8n x o,Zhl (st:=fun (x:ti)=>Xu x.2.1 x.2.2.1 x.2.2.2.1 x.2.2.2.2.1 x.2.2.2.2.2.2.2.2.2.2) (prj:=fun x=>(x.1,x.2.2.2.2.2.1,x.2.2.2.2.2.2.1,x.2.2.2.2.2.2.2.1,x.2.2.2.2.2.2.2.2.1,x.2.2.2.2.2.2.2.2.2.1)) (emb:=q8p) (embO:=q8n) (fun x=>(q8q x).trans (by unfold Xu XC;simp only [Zhd,Zh8,Zhe,Option.map_some,Option.map_none];rfl)) (fun _ _=>rfl) (fun _ _=>rfl) (fun _ _ _=>rfl) (fun _ _ _=>rfl) (fun _=>rfl) (Z1S.1 h1),by
  first
  | exact h2
  | (rcases o with o|o|o<;>exact h2)⟩
def q8t {R:Type}:Z27 S R:=LE.ls X q8m q8o q8f
theorem q8u {R:Type}:Z3J X (q8t (R:=R)):=Zhq xok q82 (e:=q8m) q7X q8g q8s q8g
theorem q8v (x:(Int×Zu×Int×ZJ×(List Zn)×(Nat→Nat)×t1m)):PE.step X q80 q81 q7W q8t 12 x=WP x.1 x.2.1 x.2.2.1 x.2.2.2.1 x.2.2.2.2.1 x.2.2.2.2.2.1 x.2.2.2.2.2.2:=by kernel_rfl
theorem q8w:ZaX X q80 WJ:=Zhr (ZgU xok q82 q7X q8u 12) fun x _ h=>((q8v x).trans (X4x x).symm).trans h
def q8x {R:Type}:Prs S R:=PE.ps X q80 (fun x q=>(WJ x).bind q) q7W
theorem q8y {R:Type}:Z7R X (q8x (R:=R)):=Zhi (e:=q80) q8w q7X
def q8z:StT S:=⟨(N L (some (.ptr 1 0)) L),(N (N L o4 L) op L),2⟩
def q8A:Way S:=⟨.ret,⟨(N L (some (.rs 2 0)) L),(N (N L o4 L) op (N L oA L)),3⟩,[(.st 20),(.lst (.st 21)),.en,(.mp (.st 23) (.int .i64)),(.lst (.st 2))]⟩
def q8B:PE S:=⟨36,1,q8z,[(.st 20),(.lst (.st 21)),.en,(.mp (.st 23) (.int .i64))],[q8A]⟩
def q8C:List (Nat×F7 S):=[(110,q5T),(57,q37)]
theorem q8D:Z9n X q8C:=⟨q5U,q38,trivial⟩
abbrev q8E {R:Type}:Z27 S R:=Zgi
theorem q8F {R:Type}:Z3J X (q8E (R:=R)):=ZgQ X
def q8G:Key:=⟨[108,0,36],108,none,[0,0,1,0,0,1,0,0,1],2,34⟩
def q8H:StT S:=⟨(N (N (N L vO L) (some (.ptr 6 0)) L) (some (.yld 11)) (N (N L vO L) none L)),oX,35⟩
def q8I:Way S:=⟨(.exit 2),⟨v1o,oX,42⟩,[.int,(.st 20),(.lst (.st 21)),.en,(.mp (.st 23) (.int .i64)),(.lst (.st 2))]⟩
def q8J:LE S:=⟨q8G,q8H,[.int,.int,(.st 20),(.lst (.st 21)),.en,(.mp (.st 23) (.int .i64)),(.lst (.st 2))],[q8I]⟩
def q8K (x:tu):(ZJ×(List Zn)×(Nat→Nat)×t1m×(List Zu))→tA:=fun y0=>(x.1,y0.1,y0.2.1,y0.2.2.1,y0.2.2.2.1,y0.2.2.2.2)
def q8L {R:Type} (x:tu) (k:tA→Option R):Option R:=(XK x.1 (x.2.1,x.2.2.1,x.2.2.2.1,x.2.2.2.2.1,x.2.2.2.2.2.1,x.2.2.2.2.2.2)).bind (fun y0=>k (x.1,y0.1,y0.2.1,y0.2.2.1,y0.2.2.2.1,y0.2.2.2.2))
def q8M (x:tu) (v:tA):tu:=(x.1,v.1,v.2.1,v.2.2.1,v.2.2.2.1,v.2.2.2.2.1,v.2.2.2.2.2)
theorem q8N (x:tu):LE.step X q8J q8C q8x q8E 12 x=Xf x.1 x.2.1 x.2.2.1 x.2.2.2.1 x.2.2.2.2.1 x.2.2.2.2.2.1 x.2.2.2.2.2.2 (fun w0 w1 w2 w3 w4 w5=>(Sum.inl (x.1,w0,w1,w2,w3,w4,w5))) (fun p0 p1 p2 p3 p4=>(Sum.inr (x.1,p0,p1,p2,p3,p4))):=by kernel_rfl
theorem q8P {R:Type} (x:tu) (k:tA→Option R) (r:R) (h:q8L x k=some r):∃ o,Z5s (LE.step X q8J q8C q8x q8E 12) x o∧k o=some r:=by
 obtain ⟨o,h1,h2⟩:=Z0 h
 exact ⟨q8K x o,Zhl (st:=fun (x:tu)=>Xb x.1) (prj:=fun x=>(x.2.1,x.2.2.1,x.2.2.2.1,x.2.2.2.2.1,x.2.2.2.2.2.1,x.2.2.2.2.2.2)) (emb:=q8M) (embO:=q8K) (fun x=>(q8N x).trans (by unfold Xb Xf;simp only [Zhd,Zh8,Zhe,Option.map_some,Option.map_none];rfl)) (fun _ _=>rfl) (fun _ _=>rfl) (fun _ _ _=>rfl) (fun _ _ _=>rfl) (fun _=>rfl) (Z1S.1 h1),by
  first
  | exact h2
  | (rcases o with o<;>exact h2)⟩
def q8Q {R:Type}:Z27 S R:=LE.ls X q8J q8L q8E
theorem q8R {R:Type}:Z3J X (q8Q (R:=R)):=Zhq xok q8D (e:=q8J) q8y q8F q8P q8F
def q8S:Key:=⟨[108,0,36],108,none,[0,0,1],0,19⟩
def q8T:StT S:=⟨v1o,o18,20⟩
def q8U:Way S:=⟨(.exit 0),⟨L,o18,27⟩,[(.lst (.st 2)),(.st 20),(.lst (.st 21)),.en,(.mp (.st 23) (.int .i64))]⟩
def q8V:LE S:=⟨q8S,q8T,[.int,(.lst (.st 2)),(.st 20),(.lst (.st 21)),.en,(.mp (.st 23) (.int .i64))],[q8U]⟩
def q8W (x:tB):tF→tF:=fun y0=>(y0.1,y0.2.1,y0.2.2.1,y0.2.2.2.1,y0.2.2.2.2)
def q8X {R:Type} (x:tB) (k:tF→Option R):Option R:=(XJ (x.1,x.2.1,x.2.2.1,x.2.2.2.1,x.2.2.2.2.1,x.2.2.2.2.2)).bind (fun y0=>k (y0.1,y0.2.1,y0.2.2.1,y0.2.2.2.1,y0.2.2.2.2))
def q8Y (x:tB) (v:tB):tB:=(v.1,v.2.1,v.2.2.1,v.2.2.2.1,v.2.2.2.2.1,v.2.2.2.2.2)
theorem q8Z (x:tB):LE.step X q8V q8C q8x q8Q 12 x=Xe x.1 x.2.1 x.2.2.1 x.2.2.2.1 x.2.2.2.2.1 x.2.2.2.2.2 (fun w0 w1 w2 w3 w4 w5=>(Sum.inl (w0,w1,w2,w3,w4,w5))) (fun p0 p1 p2 p3 p4=>(Sum.inr (p0,p1,p2,p3,p4))):=by kernel_rfl
theorem q91 {R:Type} (x:tB) (k:tF→Option R) (r:R) (h:q8X x k=some r):∃ o,Z5s (LE.step X q8V q8C q8x q8Q 12) x o∧k o=some r:=by
 obtain ⟨o,h1,h2⟩:=Z0 h
 exact ⟨q8W x o,Zhl (st:=fun (x:tB)=>Xa) (prj:=fun x=>(x.1,x.2.1,x.2.2.1,x.2.2.2.1,x.2.2.2.2.1,x.2.2.2.2.2)) (emb:=q8Y) (embO:=q8W) (fun x=>(q8Z x).trans (by unfold Xa Xe;simp only [Zhd,Zh8,Zhe,Option.map_some,Option.map_none];rfl)) (fun _ _=>rfl) (fun _ _=>rfl) (fun _ _ _=>rfl) (fun _ _ _=>rfl) (fun _=>rfl) (Z1S.1 h1),by
  first
  | exact h2
  | (rcases o with o<;>exact h2)⟩
def q92 {R:Type}:Z27 S R:=LE.ls X q8V q8X q8Q
theorem q93 {R:Type}:Z3J X (q92 (R:=R)):=Zhq xok q8D (e:=q8V) q8y q8R q91 q8R
theorem q94 (x:tQ):PE.step X q8B q8C q8x q92 12 x=XD x.1 x.2.1 x.2.2.1 x.2.2.2:=by kernel_rfl
theorem q95:ZaX X q8B WQ:=Zhr (ZgU xok q8D q8y q93 12) fun x _ h=>((q94 x).trans (X3q x).symm).trans h
def q96 {R:Type}:Prs S R:=PE.ps X q8B (fun x q=>(WQ x).bind q) q8x
theorem q97 {R:Type}:Z7R X (q96 (R:=R)):=Zhi (e:=q8B) q95 q8y
def q98:List (Nat×F7 S):=[]
theorem q99:Z9n X (q98):=trivial
abbrev q9a {R:Type}:Z27 S R:=Zgi
theorem q9b {R:Type}:Z3J X (q9a (R:=R)):=ZgQ X
theorem q9c (x0:Int) (x1:Int) (x2:Int):Zhs X q98 [(.int .i64),(.int .i64),(.int .i64)] [.bool] q96 q9a 12 106 (x0,x1,x2,())=X1Z x0 x1 x2:=by kernel_rfl
def q9d:F7 S:=⟨[(.int .i64),(.int .i64),(.int .i64)],[.bool],fun xs=>X1Z xs.1 xs.2.1 xs.2.2.1⟩
theorem q9e:Z7Q X 106 q9d:=Zho (Zhn xok q99 q97 q9b 12 106) fun xs _ h=>(q9c xs.1 xs.2.1 xs.2.2.1).trans h
def q9f:List (Nat×F7 S):=[(106,q9d)]
theorem q9g:Z9n X (q9f):=⟨q9e,trivial⟩
abbrev q9h {R:Type}:Z27 S R:=Zgi
theorem q9i {R:Type}:Z3J X (q9h (R:=R)):=ZgQ X
def q9j:Key:=⟨[100],100,none,[0,0,1,0,1,1],0,6⟩
def q9k:StT S:=⟨(N (N (N L vO L) none L) vE L),L,6⟩
def q9l:Way S:=⟨.ret,⟨(N L none (N L vN L)),L,43⟩,[.bool]⟩
def q9m:Way S:=⟨(.exit 0),⟨L,L,10⟩,[]⟩
def q9n:LE S:=⟨q9j,q9k,[.int,.str],[q9l,q9m]⟩
def q9o (x:(Int×ByteArray)):(Bool⊕Unit)→(Bool⊕Unit):=Sum.elim (fun y0=>(.inl y0)) (fun y1=>(.inr ()))
def q9p {R:Type} (x:(Int×ByteArray)) (k:(Bool⊕Unit)→Option R):Option R:=(X4V x.2 x.1).bind (Sum.elim (fun y0=>k (.inl y0)) (fun y1=>k (.inr ())))
def q9q (x:(Int×ByteArray)) (v:Int):(Int×ByteArray):=(v,x.2)
theorem q9r (x:(Int×ByteArray)):LE.step X q9n q9f q96 q9h 12 x=X1f x.2 x.1 (fun w0=>(Sum.inl (w0,x.2))) (fun p0=>(Sum.inr (.inl p0))) (Sum.inr (.inr ())):=by kernel_rfl
theorem q9t {R:Type} (x:(Int×ByteArray)) (k:(Bool⊕Unit)→Option R) (r:R) (h:q9p x k=some r):∃ o,Z5s (LE.step X q9n q9f q96 q9h 12) x o∧k o=some r:=by
 obtain ⟨o,h1,h2⟩:=Z0 h
 exact ⟨q9o x o,Zhl (st:=fun (x:(Int×ByteArray))=>X15 x.2) (prj:=fun x=>x.1) (emb:=q9q) (embO:=q9o) (fun x=>(q9r x).trans (by unfold X15 X1f;simp only [Zhd,Zh8,Zhe,Option.map_some,Option.map_none];rfl)) (fun _ _=>rfl) (fun _ _=>rfl) (fun _ _ _=>rfl) (fun _ _ _=>rfl) (fun _=>rfl) (Z1S.1 h1),by
  first
  | exact h2
  | (rcases o with o|o<;>exact h2)⟩
def q9u {R:Type}:Z27 S R:=LE.ls X q9n q9p q9h
theorem q9v {R:Type}:Z3J X (q9u (R:=R)):=Zhq xok q9g (e:=q9n) q97 q9i q9t q9i
theorem q9w (x0:ByteArray):Zhs X q9f [.str] [.bool] q96 q9u 12 100 (x0,())=X4I x0:=by kernel_rfl
def q9x:F7 S:=⟨[.str],[.bool],fun xs=>X4I xs.1⟩
theorem q9y:Z7Q X 100 q9x:=Zho (Zhn xok q9g q97 q9v 12 100) fun xs _ h=>(q9w xs.1).trans h
def q9z:List (Nat×F7 S):=[]
theorem q9A:Z9n X (q9z):=trivial
abbrev q9B {R:Type}:Z27 S R:=Zgi
theorem q9C {R:Type}:Z3J X (q9B (R:=R)):=ZgQ X
def q9D:Key:=⟨[101],101,none,[0,0,1,0,1],0,2⟩
def q9E:StT S:=⟨(N (N L vE (N L vO L)) (some (.sl .str [])) L),L,2⟩
def q9F:Way S:=⟨.ret,⟨v1A,L,14⟩,[.int]⟩
def q9G:Way S:=⟨(.exit 0),⟨L,L,6⟩,[]⟩
def q9H:LE S:=⟨q9D,q9E,[.str,.int,(.lst .str)],[q9F,q9G]⟩
def q9I (x:t14):(Int⊕Unit)→(Int⊕Unit):=Sum.elim (fun y0=>(.inl y0)) (fun y1=>(.inr ()))
def q9J {R:Type} (x:t14) (k:(Int⊕Unit)→Option R):Option R:=(X3c x.1 x.2.2 x.2.1).bind (Sum.elim (fun y0=>k (.inl y0)) (fun y1=>k (.inr ())))
def q9K (x:t14) (v:Int):t14:=(x.1,v,x.2.2)
theorem q9L (x:t14):LE.step X q9H q9z q96 q9B 12 x=WW x.1 x.2.2 x.2.1 (fun w0=>(Sum.inl (x.1,w0,x.2.2))) (fun p0=>(Sum.inr (.inl p0))) (Sum.inr (.inr ())):=by kernel_rfl
theorem q9N {R:Type} (x:t14) (k:(Int⊕Unit)→Option R) (r:R) (h:q9J x k=some r):∃ o,Z5s (LE.step X q9H q9z q96 q9B 12) x o∧k o=some r:=by
 obtain ⟨o,h1,h2⟩:=Z0 h
 exact ⟨q9I x o,Zhl (st:=fun (x:t14)=>XQ x.1 x.2.2) (prj:=fun x=>x.2.1) (emb:=q9K) (embO:=q9I) (fun x=>(q9L x).trans (by unfold XQ WW;simp only [Zhd,Zh8,Zhe,Option.map_some,Option.map_none];rfl)) (fun _ _=>rfl) (fun _ _=>rfl) (fun _ _ _=>rfl) (fun _ _ _=>rfl) (fun _=>rfl) (Z1S.1 h1),by
  first
  | exact h2
  | (rcases o with o|o<;>exact h2)⟩
def q9O {R:Type}:Z27 S R:=LE.ls X q9H q9J q9B
theorem q9P {R:Type}:Z3J X (q9O (R:=R)):=Zhq xok q9A (e:=q9H) q97 q9C q9N q9C
theorem q9Q (x0:List ByteArray) (x1:ByteArray):Zhs X q9z [(.sl .str),.str] [(.int .i64)] q96 q9O 12 101 (x0,x1,())=X4X x0 x1:=by kernel_rfl
def q9R:F7 S:=⟨[(.sl .str),.str],[(.int .i64)],fun xs=>X4X xs.1 xs.2.1⟩
theorem q9S:Z7Q X 101 q9R:=Zho (Zhn xok q9A q97 q9P 12 101) fun xs _ h=>(q9Q xs.1 xs.2.1).trans h
def q9T:List (Nat×F7 S):=[(100,q9x),(101,q9R)]
theorem q9U:Z9n X (q9T):=⟨q9y,q9S,trivial⟩
abbrev q9V {R:Type}:Z27 S R:=Zgi
theorem q9W {R:Type}:Z3J X (q9V (R:=R)):=ZgQ X
theorem q9X (x0:ByteArray) (x1:List ByteArray):Zhs X q9T [.str,(.sl .str)] [(.int .i64)] q96 q9V 12 70 (x0,x1,())=X2C x0 x1:=by kernel_rfl
def q9Y:F7 S:=⟨[.str,(.sl .str)],[(.int .i64)],fun xs=>X2C xs.1 xs.2.1⟩
theorem q9Z:Z7Q X 70 q9Y:=Zho (Zhn xok q9U q97 q9W 12 70) fun xs _ h=>(q9X xs.1 xs.2.1).trans h
def qa0:List (Nat×F7 S):=[(106,q9d)]
theorem qa1:Z9n X (qa0):=⟨q9e,trivial⟩
abbrev qa2 {R:Type}:Z27 S R:=Zgi
theorem qa3 {R:Type}:Z3J X (qa2 (R:=R)):=ZgQ X
theorem qa4 (x0:Zu) (x1:Int):Zhs X qa0 [(.st 2),(.int .i64)] [.bool] q96 qa2 12 76 (x0,x1,())=X2M x0 x1:=by kernel_rfl
def qa5:F7 S:=⟨[(.st 2),(.int .i64)],[.bool],fun xs=>X2M xs.1 xs.2.1⟩
theorem qa6:Z7Q X 76 qa5:=Zho (Zhn xok qa1 q97 qa3 12 76) fun xs _ h=>(qa4 xs.1 xs.2.1).trans h
def qa7:List (Nat×F7 S):=[(106,q9d)]
theorem qa8:Z9n X (qa7):=⟨q9e,trivial⟩
abbrev qa9 {R:Type}:Z27 S R:=Zgi
theorem qaa {R:Type}:Z3J X (qa9 (R:=R)):=ZgQ X
def qab:Key:=⟨[98],98,none,[0,0,1,0,1,1],0,6⟩
def qac:StT S:=⟨(N (N (N L vO L) none L) (some (.sl (.st 3) [])) L),L,6⟩
def qad:Way S:=⟨.ret,⟨(N L none (N L vO L)),L,27⟩,[.int]⟩
def qae:Way S:=⟨.ret,⟨(N L none (N L vO L)),L,43⟩,[.int]⟩
def qaf:Way S:=⟨(.exit 0),⟨L,L,10⟩,[]⟩
def qag:LE S:=⟨qab,qac,[.int,(.lst (.st 3))],[qad,qae,qaf]⟩
def qah (x:(Int×(List Zk))):(Int⊕Int⊕Unit)→(Int⊕Int⊕Unit):=Sum.elim (fun y0=>(.inl y0)) (Sum.elim (fun y1=>(.inr (.inl y1))) (fun y2=>(.inr (.inr ()))))
def qai {R:Type} (x:(Int×(List Zk))) (k:(Int⊕Int⊕Unit)→Option R):Option R:=(X4g x.2 x.1).bind (Sum.elim (fun y0=>k (.inl y0)) (Sum.elim (fun y1=>k (.inr (.inl y1))) (fun y2=>k (.inr (.inr ())))))
def qaj (x:(Int×(List Zk))) (v:Int):(Int×(List Zk)):=(v,x.2)
theorem qak (x:(Int×(List Zk))):LE.step X qag qa7 q96 qa9 12 x=Wn x.2 x.1 (fun w0=>(Sum.inl (w0,x.2))) (fun p0=>(Sum.inr (.inl p0))) (fun p0=>(Sum.inr (.inr (.inl p0)))) (Sum.inr (.inr (.inr ()))):=by kernel_rfl
theorem qam {R:Type} (x:(Int×(List Zk))) (k:(Int⊕Int⊕Unit)→Option R) (r:R) (h:qai x k=some r):∃ o,Z5s (LE.step X qag qa7 q96 qa9 12) x o∧k o=some r:=by
 obtain ⟨o,h1,h2⟩:=Z0 h
 exact ⟨qah x o,Zhl (st:=fun (x:(Int×(List Zk)))=>W9 x.2) (prj:=fun x=>x.1) (emb:=qaj) (embO:=qah) (fun x=>(qak x).trans (by unfold W9 Wn;simp only [Zhd,Zh8,Zhe,Option.map_some,Option.map_none];rfl)) (fun _ _=>rfl) (fun _ _=>rfl) (fun _ _ _=>rfl) (fun _ _ _=>rfl) (fun _=>rfl) (Z1S.1 h1),by
  first
  | exact h2
  | (rcases o with o|o|o<;>exact h2)⟩
def qan {R:Type}:Z27 S R:=LE.ls X qag qai qa9
theorem qao {R:Type}:Z3J X (qan (R:=R)):=Zhq xok qa8 (e:=qag) q97 qaa qam qaa
theorem qap (x0:List Zk):Zhs X qa7 [(.sl (.st 3))] [(.int .i64)] q96 qan 12 98 (x0,())=X2N x0:=by kernel_rfl
def qaq:F7 S:=⟨[(.sl (.st 3))],[(.int .i64)],fun xs=>X2N xs.1⟩
theorem qar:Z7Q X 98 qaq:=Zho (Zhn xok qa8 q97 qao 12 98) fun xs _ h=>(qap xs.1).trans h
def qas:List (Nat×F7 S):=[(106,q9d)]
theorem qat:Z9n X (qas):=⟨q9e,trivial⟩
abbrev qau {R:Type}:Z27 S R:=Zgi
theorem qav {R:Type}:Z3J X (qau (R:=R)):=ZgQ X
def qaw:Key:=⟨[102],102,none,[0,0,1,0,1,1],0,3⟩
def qax:StT S:=⟨(N (N (N (N L vO L) none L) vO L) (some (.sl (.st 5) [])) (N (N (N L vO L) none L) vO L)),L,3⟩
def qay:Way S:=⟨.ret,⟨(N L none (N L none (N L vO L))),L,28⟩,[.int]⟩
def qaz:Way S:=⟨(.exit 0),⟨(N v1z none L),L,7⟩,[.int]⟩
def qaA:LE S:=⟨qaw,qax,[.int,.int,(.lst (.st 5)),.int,.int],[qay,qaz]⟩
def qaB (x:t12):(Int⊕Int)→(Int⊕Int):=Sum.elim (fun y0=>(.inl y0)) (fun y1=>(.inr y1))
def qaC {R:Type} (x:t12) (k:(Int⊕Int)→Option R):Option R:=(X4e x.2.1 x.2.2.1 x.2.2.2.2 (x.1,x.2.2.2.1)).bind (Sum.elim (fun y0=>k (.inl y0)) (fun y1=>k (.inr y1)))
def qaD (x:t12) (v:(Int×Int)):t12:=(v.1,x.2.1,x.2.2.1,v.2,x.2.2.2.2)
theorem qaE (x:t12):LE.step X qaA qas q96 qau 12 x=Wl x.2.1 x.2.2.1 x.2.2.2.2 x.1 x.2.2.2.1 (fun w0 w1=>(Sum.inl (w0,x.2.1,x.2.2.1,w1,x.2.2.2.2))) (fun p0=>(Sum.inr (.inl p0))) (fun p0=>(Sum.inr (.inr p0))):=by kernel_rfl
theorem qaG {R:Type} (x:t12) (k:(Int⊕Int)→Option R) (r:R) (h:qaC x k=some r):∃ o,Z5s (LE.step X qaA qas q96 qau 12) x o∧k o=some r:=by
 obtain ⟨o,h1,h2⟩:=Z0 h
 exact ⟨qaB x o,Zhl (st:=fun (x:t12)=>W7 x.2.1 x.2.2.1 x.2.2.2.2) (prj:=fun x=>(x.1,x.2.2.2.1)) (emb:=qaD) (embO:=qaB) (fun x=>(qaE x).trans (by unfold W7 Wl;simp only [Zhd,Zh8,Zhe,Option.map_some,Option.map_none];rfl)) (fun _ _=>rfl) (fun _ _=>rfl) (fun _ _ _=>rfl) (fun _ _ _=>rfl) (fun _=>rfl) (Z1S.1 h1),by
  first
  | exact h2
  | (rcases o with o|o<;>exact h2)⟩
def qaH {R:Type}:Z27 S R:=LE.ls X qaA qaC qau
theorem qaI {R:Type}:Z3J X (qaH (R:=R)):=Zhq xok qat (e:=qaA) q97 qav qaG qav
theorem qaJ (x0:List ZE) (x1:Int) (x2:Int):Zhs X qas [(.sl (.st 5)),(.int .i64),(.int .i64)] [(.int .i64)] q96 qaH 12 102 (x0,x1,x2,())=X2b x0 x1 x2:=by kernel_rfl
def qaK:F7 S:=⟨[(.sl (.st 5)),(.int .i64),(.int .i64)],[(.int .i64)],fun xs=>X2b xs.1 xs.2.1 xs.2.2.1⟩
theorem qaL:Z7Q X 102 qaK:=Zho (Zhn xok qat q97 qaI 12 102) fun xs _ h=>(qaJ xs.1 xs.2.1 xs.2.2.1).trans h
def qaM:List (Nat×F7 S):=[(102,qaK)]
theorem qaN:Z9n X (qaM):=⟨qaL,trivial⟩
abbrev qaO {R:Type}:Z27 S R:=Zgi
theorem qaP {R:Type}:Z3J X (qaO (R:=R)):=ZgQ X
theorem qaQ (x0:ZB) (x1:Int) (x2:Int):Zhs X qaM [(.st 6),(.int .i64),(.int .i64)] [(.int .i64)] q96 qaO 12 123 (x0,x1,x2,())=X5c x0 x1 x2:=by kernel_rfl
def qaR:F7 S:=⟨[(.st 6),(.int .i64),(.int .i64)],[(.int .i64)],fun xs=>X5c xs.1 xs.2.1 xs.2.2.1⟩
theorem qaS:Z7Q X 123 qaR:=Zho (Zhn xok qaN q97 qaP 12 123) fun xs _ h=>(qaQ xs.1 xs.2.1 xs.2.2.1).trans h
def qaT:List (Nat×F7 S):=[]
theorem qaU:Z9n X (qaT):=trivial
abbrev qaV {R:Type}:Z27 S R:=Zgi
theorem qaW {R:Type}:Z3J X (qaV (R:=R)):=ZgQ X
theorem qaX (x0:Zu) (x1:Zu):Zhs X qaT [(.st 2),(.st 2)] [(.st 2)] q96 qaV 12 88 (x0,x1,())=X7t x0 x1:=by kernel_rfl
def qaY:F7 S:=⟨[(.st 2),(.st 2)],[(.st 2)],fun xs=>X7t xs.1 xs.2.1⟩
theorem qaZ:Z7Q X 88 qaY:=Zho (Zhn xok qaU q97 qaW 12 88) fun xs _ h=>(qaX xs.1 xs.2.1).trans h
def qb0:List (Nat×F7 S):=[]
theorem qb1:Z9n X (qb0):=trivial
abbrev qb2 {R:Type}:Z27 S R:=Zgi
theorem qb3 {R:Type}:Z3J X (qb2 (R:=R)):=ZgQ X
theorem qb4 (x0:Zu) (x1:Zu):Zhs X qb0 [(.st 2),(.st 2)] [(.int .i64)] q96 qb2 12 112 (x0,x1,())=X7s x0 x1:=by kernel_rfl
def qb5:F7 S:=⟨[(.st 2),(.st 2)],[(.int .i64)],fun xs=>X7s xs.1 xs.2.1⟩
theorem qb6:Z7Q X 112 qb5:=Zho (Zhn xok qb1 q97 qb3 12 112) fun xs _ h=>(qb4 xs.1 xs.2.1).trans h
def qb7:List (Nat×F7 S):=[(88,qaY),(112,qb5)]
theorem qb8:Z9n X (qb7):=⟨qaZ,qb6,trivial⟩
abbrev qb9 {R:Type}:Z27 S R:=Zgi
theorem qba {R:Type}:Z3J X (qb9 (R:=R)):=ZgQ X
def qbb:Key:=⟨[124],124,none,[0,0,1,1,0,0,1,0,0,1,0,1],2,13⟩
def qbc:StT S:=⟨(N (N (N L vO L) none (N L vO L)) vL (N (N L vO L) none L)),L,13⟩
def qbd:Way S:=⟨.ret,⟨(N L none (N L vN L)),L,48⟩,[.bool]⟩
def qbe:Way S:=⟨(.exit 2),⟨(N (N (N L vO L) none L) vL L),L,17⟩,[.int,(.lst (.st 2))]⟩
def qbf:LE S:=⟨qbb,qbc,[.int,.int,(.lst (.st 2)),.int],[qbd,qbe]⟩
def qbg (x:t1d):(Bool⊕Unit)→(Bool⊕(Int×(List Zu))):=Sum.elim (fun y0=>(.inl y0)) (fun y1=>(.inr (x.1,x.2.2.1)))
def qbh {R:Type} (x:t1d) (k:(Bool⊕(Int×(List Zu)))→Option R):Option R:=(X2c x.1 x.2.2.1 x.2.2.2 x.2.1).bind (Sum.elim (fun y0=>k (.inl y0)) (fun y1=>k (.inr (x.1,x.2.2.1))))
def qbi (x:t1d) (v:Int):t1d:=(x.1,v,x.2.2.1,x.2.2.2)
theorem qbj (x:t1d):LE.step X qbf qb7 q96 qb9 12 x=WY x.1 x.2.2.1 x.2.2.2 x.2.1 (fun w0=>(Sum.inl (x.1,w0,x.2.2.1,x.2.2.2))) (fun p0=>(Sum.inr (.inl p0))) (Sum.inr (.inr (x.1,x.2.2.1))):=by kernel_rfl
theorem qbl {R:Type} (x:t1d) (k:(Bool⊕(Int×(List Zu)))→Option R) (r:R) (h:qbh x k=some r):∃ o,Z5s (LE.step X qbf qb7 q96 qb9 12) x o∧k o=some r:=by
 obtain ⟨o,h1,h2⟩:=Z0 h
 exact ⟨qbg x o,Zhl (st:=fun (x:t1d)=>WF x.1 x.2.2.1 x.2.2.2) (prj:=fun x=>x.2.1) (emb:=qbi) (embO:=qbg) (fun x=>(qbj x).trans (by unfold WF WY;simp only [Zhd,Zh8,Zhe,Option.map_some,Option.map_none];rfl)) (fun _ _=>rfl) (fun _ _=>rfl) (fun _ _ _=>rfl) (fun _ _ _=>rfl) (fun _=>rfl) (Z1S.1 h1),by
  first
  | exact h2
  | (rcases o with o|o<;>exact h2)⟩
def qbm {R:Type}:Z27 S R:=LE.ls X qbf qbh qb9
theorem qbn {R:Type}:Z3J X (qbm (R:=R)):=Zhq xok qb8 (e:=qbf) q97 qba qbl qba
def qbo:Key:=⟨[124],124,none,[0,0,1,0,1],0,2⟩
def qbp:StT S:=⟨(N (N (N L vO L) none L) vL L),L,2⟩
def qbq:Way S:=⟨.ret,⟨(N L none (N L vN L)),L,48⟩,[.bool]⟩
def qbr:Way S:=⟨(.exit 0),⟨L,L,6⟩,[]⟩
def qbs:LE S:=⟨qbo,qbp,[.int,(.lst (.st 2))],[qbq,qbr]⟩
def qbt (x:(Int×(List Zu))):(Bool⊕Unit)→(Bool⊕Unit):=Sum.elim (fun y0=>(.inl y0)) (fun y1=>(.inr ()))
def qbu {R:Type} (x:(Int×(List Zu))) (k:(Bool⊕Unit)→Option R):Option R:=(X4J x.2 x.1).bind (Sum.elim (fun y0=>k (.inl y0)) (fun y1=>k (.inr ())))
def qbv (x:(Int×(List Zu))) (v:Int):(Int×(List Zu)):=(v,x.2)
theorem qbw (x:(Int×(List Zu))):LE.step X qbs qb7 q96 qbm 12 x=WX x.2 x.1 (fun w0=>(Sum.inl (w0,x.2))) (fun p0=>(Sum.inr (.inl p0))) (Sum.inr (.inr ())):=by kernel_rfl
theorem qby {R:Type} (x:(Int×(List Zu))) (k:(Bool⊕Unit)→Option R) (r:R) (h:qbu x k=some r):∃ o,Z5s (LE.step X qbs qb7 q96 qbm 12) x o∧k o=some r:=by
 obtain ⟨o,h1,h2⟩:=Z0 h
 exact ⟨qbt x o,Zhl (st:=fun (x:(Int×(List Zu)))=>WE x.2) (prj:=fun x=>x.1) (emb:=qbv) (embO:=qbt) (fun x=>(qbw x).trans (by unfold WE WX;simp only [Zhd,Zh8,Zhe,Option.map_some,Option.map_none];rfl)) (fun _ _=>rfl) (fun _ _=>rfl) (fun _ _ _=>rfl) (fun _ _ _=>rfl) (fun _=>rfl) (Z1S.1 h1),by
  first
  | exact h2
  | (rcases o with o|o<;>exact h2)⟩
def qbz {R:Type}:Z27 S R:=LE.ls X qbs qbu qbm
theorem qbA {R:Type}:Z3J X (qbz (R:=R)):=Zhq xok qb8 (e:=qbs) q97 qbn qby qbn
theorem qbB (x0:List Zu):Zhs X qb7 [(.sl (.st 2))] [.bool] q96 qbz 12 124 (x0,())=X41 x0:=by kernel_rfl
def qbC:F7 S:=⟨[(.sl (.st 2))],[.bool],fun xs=>X41 xs.1⟩
theorem qbD:Z7Q X 124 qbC:=Zho (Zhn xok qb8 q97 qbA 12 124) fun xs _ h=>(qbB xs.1).trans h
def qbE:List (Nat×F7 S):=[(106,q9d),(76,qa5),(123,qaR),(124,qbC)]
theorem qbF:Z9n X (qbE):=⟨q9e,qa6,qaS,qbD,trivial⟩
abbrev qbG {R:Type}:Z27 S R:=Zgi
theorem qbH {R:Type}:Z3J X (qbG (R:=R)):=ZgQ X
def qbI:Key:=⟨[99],99,none,[0,0,1,0,1,1],0,8⟩
def qbJ:StT S:=⟨(N (N (N L vO L) (some (.ptr 0 0)) L) none L),(N L oi L),8⟩
def qbK:Way S:=⟨.ret,⟨(N L none (N L vO L)),(N L oi L),21⟩,[.int,(.st 7)]⟩
def qbL:Way S:=⟨(.exit 0),⟨(N (N L (some (.ptr 0 0)) L) none L),(N L oi L),13⟩,[(.st 7)]⟩
def qbM:LE S:=⟨qbI,qbJ,[.int,(.st 7)],[qbK,qbL]⟩
def qbN (x:(Int×CtSand)):(Int⊕Unit)→((Int×CtSand)⊕CtSand):=Sum.elim (fun y0=>(.inl (y0,x.2))) (fun y1=>(.inr x.2))
def qbO {R:Type} (x:(Int×CtSand)) (k:((Int×CtSand)⊕CtSand)→Option R):Option R:=(X3C x.2 x.1).bind (Sum.elim (fun y0=>k (.inl (y0,x.2))) (fun y1=>k (.inr x.2)))
def qbP (x:(Int×CtSand)) (v:Int):(Int×CtSand):=(v,x.2)
theorem qbQ (x:(Int×CtSand)):LE.step X qbM qbE q96 qbG 12 x=X1g x.2 x.1 (fun w0=>(Sum.inl (w0,x.2))) (fun p0=>(Sum.inr (.inl (p0,x.2)))) (Sum.inr (.inr x.2)):=by kernel_rfl
theorem qbS {R:Type} (x:(Int×CtSand)) (k:((Int×CtSand)⊕CtSand)→Option R) (r:R) (h:qbO x k=some r):∃ o,Z5s (LE.step X qbM qbE q96 qbG 12) x o∧k o=some r:=by
 obtain ⟨o,h1,h2⟩:=Z0 h
 exact ⟨qbN x o,Zhl (st:=fun (x:(Int×CtSand))=>Wa x.2) (prj:=fun x=>x.1) (emb:=qbP) (embO:=qbN) (fun x=>(qbQ x).trans (by unfold Wa X1g;simp only [Zhd,Zh8,Zhe,Option.map_some,Option.map_none];rfl)) (fun _ _=>rfl) (fun _ _=>rfl) (fun _ _ _=>rfl) (fun _ _ _=>rfl) (fun _=>rfl) (Z1S.1 h1),by
  first
  | exact h2
  | (rcases o with o|o<;>exact h2)⟩
def qbT {R:Type}:Z27 S R:=LE.ls X qbM qbO qbG
theorem qbU {R:Type}:Z3J X (qbT (R:=R)):=Zhq xok qbF (e:=qbM) q97 qbH qbS qbH
theorem qbV (x0:CtSand):Zhs X qbE [(.st 7)] [(.int .i64)] q96 qbT 12 99 (x0,())=X4K x0:=by kernel_rfl
def qbW:F7 S:=⟨[(.st 7)],[(.int .i64)],fun xs=>X4K xs.1⟩
theorem qbX:Z7Q X 99 qbW:=Zho (Zhn xok qbF q97 qbU 12 99) fun xs _ h=>(qbV xs.1).trans h
def qbY:List (Nat×F7 S):=[(70,q9Y),(76,qa5),(98,qaq),(99,qbW)]
theorem qbZ:Z9n X (qbY):=⟨q9Z,qa6,qar,qbX,trivial⟩
abbrev qc0 {R:Type}:Z27 S R:=Zgi
theorem qc1 {R:Type}:Z3J X (qc0 (R:=R)):=ZgQ X
def qc2:Key:=⟨[68],68,none,[0,0,1,0,1,1,1],0,10⟩
def qc3:StT S:=⟨(N (N L (some (.ptr 0 0)) (N L (some (.rs 10 0)) L)) none (N L none (N L vO L))),(N L ol o1F),11⟩
def qc4:Way S:=⟨.ret,⟨v1t,oW,52⟩,[.int,.int,.int,(.lst .str),(.st 4),(.st 8),(.lst .str)]⟩
def qc5:Way S:=⟨.ret,⟨v1t,oW,55⟩,[.int,.int,.int,(.lst .str),(.st 4),(.st 8),(.lst .str)]⟩
def qc6:Way S:=⟨.ret,⟨v1t,oW,51⟩,[.int,.int,.int,(.lst .str),(.st 4),(.st 8),(.lst .str)]⟩
def qc7:Way S:=⟨(.exit 0),⟨(N (N L (some (.ptr 0 0)) (N L (some (.rs 10 0)) L)) none L),(N L ol o1F),16⟩,[(.st 8),(.lst .str)]⟩
def qc8:LE S:=⟨qc2,qc3,[.int,(.st 8),(.lst .str)],[qc4,qc5,qc6,qc7]⟩
def qc9 (x:t18):(tR⊕tR⊕tR⊕(List ByteArray))→t2:=Sum.elim (fun y0=>(.inl (y0.1,y0.2.1,y0.2.2.1,y0.2.2.2.1,y0.2.2.2.2.1,x.2.1,y0.2.2.2.2.2))) (Sum.elim (fun y1=>(.inr (.inl (y1.1,y1.2.1,y1.2.2.1,y1.2.2.2.1,y1.2.2.2.2.1,x.2.1,y1.2.2.2.2.2)))) (Sum.elim (fun y2=>(.inr (.inr (.inl (y2.1,y2.2.1,y2.2.2.1,y2.2.2.2.1,y2.2.2.2.2.1,x.2.1,y2.2.2.2.2.2))))) (fun y3=>(.inr (.inr (.inr (x.2.1,y3)))))))
def qca {R:Type} (x:t18) (k:t2→Option R):Option R:=(X4G x.2.1 (x.1,x.2.2)).bind (Sum.elim (fun y0=>k (.inl (y0.1,y0.2.1,y0.2.2.1,y0.2.2.2.1,y0.2.2.2.2.1,x.2.1,y0.2.2.2.2.2))) (Sum.elim (fun y1=>k (.inr (.inl (y1.1,y1.2.1,y1.2.2.1,y1.2.2.2.1,y1.2.2.2.2.1,x.2.1,y1.2.2.2.2.2)))) (Sum.elim (fun y2=>k (.inr (.inr (.inl (y2.1,y2.2.1,y2.2.2.1,y2.2.2.2.1,y2.2.2.2.2.1,x.2.1,y2.2.2.2.2.2))))) (fun y3=>k (.inr (.inr (.inr (x.2.1,y3))))))))
def qcb (x:t18) (v:(Int×(List ByteArray))):t18:=(v.1,x.2.1,v.2)
theorem qcc (x:t18):LE.step X qc8 qbY q96 qc0 12 x=WU x.2.1 x.1 x.2.2 (fun w0 w1=>(Sum.inl (w0,x.2.1,w1))) (fun p0 p1 p2 p3 p4 p5=>(Sum.inr (.inl (p0,p1,p2,p3,p4,x.2.1,p5)))) (fun p0 p1 p2 p3 p4 p5=>(Sum.inr (.inr (.inl (p0,p1,p2,p3,p4,x.2.1,p5))))) (fun p0 p1 p2 p3 p4 p5=>(Sum.inr (.inr (.inr (.inl (p0,p1,p2,p3,p4,x.2.1,p5)))))) (fun p0=>(Sum.inr (.inr (.inr (.inr (x.2.1,p0)))))):=by kernel_rfl
theorem qce {R:Type} (x:t18) (k:t2→Option R) (r:R) (h:qca x k=some r):∃ o,Z5s (LE.step X qc8 qbY q96 qc0 12) x o∧k o=some r:=by
 obtain ⟨o,h1,h2⟩:=Z0 h
 exact ⟨qc9 x o,Zhl (st:=fun (x:t18)=>WC x.2.1) (prj:=fun x=>(x.1,x.2.2)) (emb:=qcb) (embO:=qc9) (fun x=>(qcc x).trans (by unfold WC WU;simp only [Zhd,Zh8,Zhe,Option.map_some,Option.map_none];rfl)) (fun _ _=>rfl) (fun _ _=>rfl) (fun _ _ _=>rfl) (fun _ _ _=>rfl) (fun _=>rfl) (Z1S.1 h1),by
  first
  | exact h2
  | (rcases o with o|o|o|o<;>exact h2)⟩
def qcf {R:Type}:Z27 S R:=LE.ls X qc8 qca qc0
theorem qcg {R:Type}:Z3J X (qcf (R:=R)):=Zhq xok qbZ (e:=qc8) q97 qc1 qce qc1
def qch:Key:=⟨[68],68,none,[0,0,1,0,1,1,1,1,1],2,21⟩
def qci:StT S:=⟨(N (N L (some (.ptr 0 0)) (N (N L vO L) (some (.rs 21 0)) L)) none L),(N (N L none o1F) ol L),22⟩
def qcj:Way S:=⟨.ret,⟨v1t,o17,62⟩,[.int,.int,.int,(.lst .str),(.lst .str),(.st 8)]⟩
def qck:Way S:=⟨.ret,⟨v1t,o17,55⟩,[.int,.int,.int,(.lst .str),(.lst .str),(.st 8)]⟩
def qcl:Way S:=⟨(.exit 2),⟨L,(N (N L none o1F) ol L),27⟩,[(.lst .str),(.st 8)]⟩
def qcm:LE S:=⟨qch,qci,[.int,(.lst .str),(.st 8)],[qcj,qck,qcl]⟩
def qcn (x:t19):((Int×Int×Int×(List ByteArray)×(List ByteArray))⊕(Int×Int×Int×(List ByteArray)×(List ByteArray))⊕(List ByteArray))→ta:=Sum.elim (fun y0=>(.inl (y0.1,y0.2.1,y0.2.2.1,y0.2.2.2.1,y0.2.2.2.2,x.2.2))) (Sum.elim (fun y1=>(.inr (.inl (y1.1,y1.2.1,y1.2.2.1,y1.2.2.2.1,y1.2.2.2.2,x.2.2)))) (fun y2=>(.inr (.inr (y2,x.2.2)))))
def qco {R:Type} (x:t19) (k:ta→Option R):Option R:=(X2a x.2.2 (x.1,x.2.1)).bind (Sum.elim (fun y0=>k (.inl (y0.1,y0.2.1,y0.2.2.1,y0.2.2.2.1,y0.2.2.2.2,x.2.2))) (Sum.elim (fun y1=>k (.inr (.inl (y1.1,y1.2.1,y1.2.2.1,y1.2.2.2.1,y1.2.2.2.2,x.2.2)))) (fun y2=>k (.inr (.inr (y2,x.2.2))))))
def qcp (x:t19) (v:(Int×(List ByteArray))):t19:=(v.1,v.2,x.2.2)
theorem qcq (x:t19):LE.step X qcm qbY q96 qcf 12 x=WV x.2.2 x.1 x.2.1 (fun w0 w1=>(Sum.inl (w0,w1,x.2.2))) (fun p0 p1 p2 p3 p4=>(Sum.inr (.inl (p0,p1,p2,p3,p4,x.2.2)))) (fun p0 p1 p2 p3 p4=>(Sum.inr (.inr (.inl (p0,p1,p2,p3,p4,x.2.2))))) (fun p0=>(Sum.inr (.inr (.inr (p0,x.2.2))))):=by kernel_rfl
theorem qcs {R:Type} (x:t19) (k:ta→Option R) (r:R) (h:qco x k=some r):∃ o,Z5s (LE.step X qcm qbY q96 qcf 12) x o∧k o=some r:=by
 obtain ⟨o,h1,h2⟩:=Z0 h
 exact ⟨qcn x o,Zhl (st:=fun (x:t19)=>WD x.2.2) (prj:=fun x=>(x.1,x.2.1)) (emb:=qcp) (embO:=qcn) (fun x=>(qcq x).trans (by unfold WD WV;simp only [Zhd,Zh8,Zhe,Option.map_some,Option.map_none];rfl)) (fun _ _=>rfl) (fun _ _=>rfl) (fun _ _ _=>rfl) (fun _ _ _=>rfl) (fun _=>rfl) (Z1S.1 h1),by
  first
  | exact h2
  | (rcases o with o|o|o<;>exact h2)⟩
def qct {R:Type}:Z27 S R:=LE.ls X qcm qco qcf
theorem qcu {R:Type}:Z3J X (qct (R:=R)):=Zhq xok qbZ (e:=qcm) q97 qcg qcs qcg
theorem qcv (x0:Zl):Zhs X qbY [(.st 8)] [(.int .i64),(.int .i64),(.int .i64)] q96 qct 12 68 (x0,())=X3Z x0:=by kernel_rfl
def qcw:F7 S:=⟨[(.st 8)],[(.int .i64),(.int .i64),(.int .i64)],fun xs=>X3Z xs.1⟩
theorem qcx:Z7Q X 68 qcw:=Zho (Zhn xok qbZ q97 qcu 12 68) fun xs _ h=>(qcv xs.1).trans h
def qcy:List (Nat×F7 S):=[]
theorem qcz:Z9n X (qcy):=trivial
abbrev qcA {R:Type}:Z27 S R:=Zgi
theorem qcB {R:Type}:Z3J X (qcA (R:=R)):=ZgQ X
theorem qcC (x0:Int) (x1:Int) (x2:Int):Zhs X qcy [(.int .i64),(.int .i64),(.int .i64)] [.bool] q96 qcA 12 69 (x0,x1,x2,())=X3F x0 x1 x2:=by kernel_rfl
def qcD:F7 S:=⟨[(.int .i64),(.int .i64),(.int .i64)],[.bool],fun xs=>X11 xs.1 xs.2.1 xs.2.2.1⟩
theorem qcE:Z7Q X 69 qcD:=Zho (Zhn xok qcz q97 qcB 12 69) fun xs _ h=>((qcC xs.1 xs.2.1 xs.2.2.1).trans (X72 xs.1 xs.2.1 xs.2.2.1).symm).trans h
def qcF:List (Nat×F7 S):=[]
theorem qcG:Z9n X (qcF):=trivial
abbrev qcH {R:Type}:Z27 S R:=Zgi
theorem qcI {R:Type}:Z3J X (qcH (R:=R)):=ZgQ X
theorem qcJ (x0:Z5):Zhs X qcF [(.st 18)] [(.int .i64)] q96 qcH 12 72 (x0,())=X34 x0:=by kernel_rfl
def qcK:F7 S:=⟨[(.st 18)],[(.int .i64)],fun xs=>X5f xs.1⟩
theorem qcL:Z7Q X 72 qcK:=Zho (Zhn xok qcG q97 qcI 12 72) fun xs _ h=>((qcJ xs.1).trans (X6J xs.1).symm).trans h
def qcM:List (Nat×F7 S):=[(102,qaK)]
theorem qcN:Z9n X (qcM):=⟨qaL,trivial⟩
abbrev qcO {R:Type}:Z27 S R:=Zgi
theorem qcP {R:Type}:Z3J X (qcO (R:=R)):=ZgQ X
theorem qcQ (x0:ZE) (x1:Int) (x2:Int):Zhs X qcM [(.st 5),(.int .i64),(.int .i64)] [(.int .i64)] q96 qcO 12 71 (x0,x1,x2,())=X3j x0 x1 x2:=by kernel_rfl
def qcR:F7 S:=⟨[(.st 5),(.int .i64),(.int .i64)],[(.int .i64)],fun xs=>X3j xs.1 xs.2.1 xs.2.2.1⟩
theorem qcS:Z7Q X 71 qcR:=Zho (Zhn xok qcN q97 qcP 12 71) fun xs _ h=>(qcQ xs.1 xs.2.1 xs.2.2.1).trans h
def qcT:List (Nat×F7 S):=[(102,qaK),(71,qcR),(69,qcD)]
theorem qcU:Z9n X (qcT):=⟨qaL,qcS,qcE,trivial⟩
abbrev qcV {R:Type}:Z27 S R:=Zgi
theorem qcW {R:Type}:Z3J X (qcV (R:=R)):=ZgQ X
theorem qcX (x0:Zt):Zhs X qcT [(.st 19)] [(.int .i64)] q96 qcV 12 73 (x0,())=X2F x0:=by kernel_rfl
def qcY:F7 S:=⟨[(.st 19)],[(.int .i64)],fun xs=>X5s xs.1⟩
theorem qcZ:Z7Q X 73 qcY:=Zho (Zhn xok qcU q97 qcW 12 73) fun xs _ h=>((qcX xs.1).trans (X6m xs.1).symm).trans h
def qd0:List (Nat×F7 S):=[(68,qcw),(69,qcD),(70,q9Y),(72,qcK),(71,qcR),(73,qcY)]
theorem qd1:Z9n X (qd0):=⟨qcx,qcE,q9Z,qcL,qcS,qcZ,trivial⟩
abbrev qd2 {R:Type}:Z27 S R:=Zgi
theorem qd3 {R:Type}:Z3J X (qd2 (R:=R)):=ZgQ X
def qd4:Key:=⟨[30],30,none,[0,0,1,0,1,1,1,1,1,1],0,39⟩
def qd5:StT S:=⟨(N (N L (some (.ptr 0 0)) (N (N L vO L) none L)) none (N (N (N L (some (.rs 39 0)) L) none L) none L)),o1h,40⟩
def qd6:Way S:=⟨.ret,⟨v1t,oU,81⟩,[.int,.int,.int,(.lst .str),(.st 20),(.lst .str),(.st 18)]⟩
def qd7:Way S:=⟨.ret,⟨v1t,oU,72⟩,[.int,.int,.int,(.lst .str),(.st 20),(.lst .str),(.st 18)]⟩
def qd8:Way S:=⟨(.exit 0),⟨(N (N L (some (.ptr 0 0)) L) none L),o1h,45⟩,[(.lst .str),(.st 20)]⟩
def qd9:LE S:=⟨qd4,qd5,[.int,(.lst .str),(.st 20)],[qd6,qd7,qd8]⟩
def qda (x:t1e):((Int×Int×Int×(List ByteArray)×(List ByteArray)×Z5)⊕(Int×Int×Int×(List ByteArray)×(List ByteArray)×Z5)⊕(List ByteArray))→t8:=Sum.elim (fun y0=>(.inl (y0.1,y0.2.1,y0.2.2.1,y0.2.2.2.1,x.2.2,y0.2.2.2.2.1,y0.2.2.2.2.2))) (Sum.elim (fun y1=>(.inr (.inl (y1.1,y1.2.1,y1.2.2.1,y1.2.2.2.1,x.2.2,y1.2.2.2.2.1,y1.2.2.2.2.2)))) (fun y2=>(.inr (.inr (y2,x.2.2)))))
def qdb {R:Type} (x:t1e) (k:t8→Option R):Option R:=(X3d x.2.2 (x.1,x.2.1)).bind (Sum.elim (fun y0=>k (.inl (y0.1,y0.2.1,y0.2.2.1,y0.2.2.2.1,x.2.2,y0.2.2.2.2.1,y0.2.2.2.2.2))) (Sum.elim (fun y1=>k (.inr (.inl (y1.1,y1.2.1,y1.2.2.1,y1.2.2.2.1,x.2.2,y1.2.2.2.2.1,y1.2.2.2.2.2)))) (fun y2=>k (.inr (.inr (y2,x.2.2))))))
def qdc (x:t1e) (v:(Int×(List ByteArray))):t1e:=(v.1,v.2,x.2.2)
theorem qdd (x:t1e):LE.step X qd9 qd0 q96 qd2 12 x=WZ x.2.2 x.1 x.2.1 (fun w0 w1=>(Sum.inl (w0,w1,x.2.2))) (fun p0 p1 p2 p3 p4 p5=>(Sum.inr (.inl (p0,p1,p2,p3,x.2.2,p4,p5)))) (fun p0 p1 p2 p3 p4 p5=>(Sum.inr (.inr (.inl (p0,p1,p2,p3,x.2.2,p4,p5))))) (fun p0=>(Sum.inr (.inr (.inr (p0,x.2.2))))):=by kernel_rfl
theorem qdf {R:Type} (x:t1e) (k:t8→Option R) (r:R) (h:qdb x k=some r):∃ o,Z5s (LE.step X qd9 qd0 q96 qd2 12) x o∧k o=some r:=by
 obtain ⟨o,h1,h2⟩:=Z0 h
 exact ⟨qda x o,Zhl (st:=fun (x:t1e)=>WG x.2.2) (prj:=fun x=>(x.1,x.2.1)) (emb:=qdc) (embO:=qda) (fun x=>(qdd x).trans (by unfold WG WZ;simp only [Zhd,Zh8,Zhe,Option.map_some,Option.map_none];rfl)) (fun _ _=>rfl) (fun _ _=>rfl) (fun _ _ _=>rfl) (fun _ _ _=>rfl) (fun _=>rfl) (Z1S.1 h1),by
  first
  | exact h2
  | (rcases o with o|o|o<;>exact h2)⟩
def qdg {R:Type}:Z27 S R:=LE.ls X qd9 qdb qd2
theorem qdh {R:Type}:Z3J X (qdg (R:=R)):=Zhq xok qd1 (e:=qd9) q97 qd3 qdf qd3
def qdi:Key:=⟨[30],30,none,[0,0,1,0,1,1,1,1,1,1,1,1],2,50⟩
def qdj:StT S:=⟨(N (N (N L none (N L vO L)) (some (.ptr 0 0)) L) none L),o1h,50⟩
def qdk:Way S:=⟨.ret,⟨v1t,o1h,69⟩,[.int,.int,.int,(.lst .str),(.st 20)]⟩
def qdl:Way S:=⟨(.exit 2),⟨L,o1h,55⟩,[(.lst .str),(.st 20)]⟩
def qdm:LE S:=⟨qdi,qdj,[.int,(.lst .str),(.st 20)],[qdk,qdl]⟩
def qdn (x:t1e):((Int×Int×Int)⊕Unit)→tJ:=Sum.elim (fun y0=>(.inl (y0.1,y0.2.1,y0.2.2,x.2.1,x.2.2))) (fun y1=>(.inr (x.2.1,x.2.2)))
def qdo {R:Type} (x:t1e) (k:tJ→Option R):Option R:=(X3e x.2.2 x.1).bind (Sum.elim (fun y0=>k (.inl (y0.1,y0.2.1,y0.2.2,x.2.1,x.2.2))) (fun y1=>k (.inr (x.2.1,x.2.2))))
def qdp (x:t1e) (v:Int):t1e:=(v,x.2.1,x.2.2)
theorem qdq (x:t1e):LE.step X qdm qd0 q96 qdg 12 x=X10 x.2.2 x.1 (fun w0=>(Sum.inl (w0,x.2.1,x.2.2))) (fun p0 p1 p2=>(Sum.inr (.inl (p0,p1,p2,x.2.1,x.2.2)))) (Sum.inr (.inr (x.2.1,x.2.2))):=by kernel_rfl
theorem qds {R:Type} (x:t1e) (k:tJ→Option R) (r:R) (h:qdo x k=some r):∃ o,Z5s (LE.step X qdm qd0 q96 qdg 12) x o∧k o=some r:=by
 obtain ⟨o,h1,h2⟩:=Z0 h
 exact ⟨qdn x o,Zhl (st:=fun (x:t1e)=>WH x.2.2) (prj:=fun x=>x.1) (emb:=qdp) (embO:=qdn) (fun x=>(qdq x).trans (by unfold WH X10;simp only [Zhd,Zh8,Zhe,Option.map_some,Option.map_none];rfl)) (fun _ _=>rfl) (fun _ _=>rfl) (fun _ _ _=>rfl) (fun _ _ _=>rfl) (fun _=>rfl) (Z1S.1 h1),by
  first
  | exact h2
  | (rcases o with o|o<;>exact h2)⟩
def qdt {R:Type}:Z27 S R:=LE.ls X qdm qdo qdg
theorem qdu {R:Type}:Z3J X (qdt (R:=R)):=Zhq xok qd1 (e:=qdm) q97 qdh qds qdh
theorem qdv (x0:ZJ):Zhs X qd0 [(.st 20)] [(.int .i64),(.int .i64),(.int .i64)] q96 qdt 12 30 (x0,())=X2i x0:=by kernel_rfl
def qdw:F7 S:=⟨[(.st 20)],[(.int .i64),(.int .i64),(.int .i64)],fun xs=>X4Y xs.1⟩
theorem qdx:Z7Q X 30 qdw:=Zho (Zhn xok qd1 q97 qdu 12 30) fun xs _ h=>((qdv xs.1).trans (X63 xs.1).symm).trans h
def qdy:List (Nat×F7 S):=[]
theorem qdz:Z9n X (qdy):=trivial
abbrev qdA {R:Type}:Z27 S R:=Zgi
theorem qdB {R:Type}:Z3J X (qdA (R:=R)):=ZgQ X
def qdC:Key:=⟨[51],51,none,[0,0,1,0,1,1],0,4⟩
def qdD:StT S:=⟨(N (N L vO (N L vO L)) none (N L (some (.ptr 0 0)) (N L vO L))),(N L oh L),4⟩
def qdE:Way S:=⟨(.exit 0),⟨v1D,(N L oh L),9⟩,[.int,(.st 4)]⟩
def qdF:LE S:=⟨qdC,qdD,[.int,.int,.int,(.st 4)],[qdE]⟩
def qdG (x:t1j):Int→(Int×Zw):=fun y0=>(y0,x.2.2.2)
def qdH {R:Type} (x:t1j) (k:(Int×Zw)→Option R):Option R:=(X40 x.1 x.2.2.2 (x.2.1,x.2.2.1)).bind (fun y0=>k (y0,x.2.2.2))
def qdI (x:t1j) (v:(Int×Int)):t1j:=(x.1,v.1,v.2,x.2.2.2)
theorem qdJ (x:t1j):LE.step X qdF qdy q96 qdA 12 x=XZ x.1 x.2.2.2 x.2.1 x.2.2.1 (fun w0 w1=>(Sum.inl (x.1,w0,w1,x.2.2.2))) (fun p0=>(Sum.inr (p0,x.2.2.2))):=by kernel_rfl
theorem qdL {R:Type} (x:t1j) (k:(Int×Zw)→Option R) (r:R) (h:qdH x k=some r):∃ o,Z5s (LE.step X qdF qdy q96 qdA 12) x o∧k o=some r:=by
 obtain ⟨o,h1,h2⟩:=Z0 h
 exact ⟨qdG x o,Zhl (st:=fun (x:t1j)=>XT x.1 x.2.2.2) (prj:=fun x=>(x.2.1,x.2.2.1)) (emb:=qdI) (embO:=qdG) (fun x=>(qdJ x).trans (by unfold XT XZ;simp only [Zhd,Zh8,Zhe,Option.map_some,Option.map_none];rfl)) (fun _ _=>rfl) (fun _ _=>rfl) (fun _ _ _=>rfl) (fun _ _ _=>rfl) (fun _=>rfl) (Z1S.1 h1),by
  first
  | exact h2
  | (rcases o with o<;>exact h2)⟩
def qdM {R:Type}:Z27 S R:=LE.ls X qdF qdH qdA
theorem qdN {R:Type}:Z3J X (qdM (R:=R)):=Zhq xok qdz (e:=qdF) q97 qdB qdL qdB
theorem qdO (x0:Zw) (x1:Int):Zhs X qdy [(.st 4),(.int .i64)] [(.int .i64)] q96 qdM 12 51 (x0,x1,())=X1D x0 x1:=by kernel_rfl
def qdP:F7 S:=⟨[(.st 4),(.int .i64)],[(.int .i64)],fun xs=>X32 xs.1 xs.2.1⟩
theorem qdQ:Z7Q X 51 qdP:=Zho (Zhn xok qdz q97 qdN 12 51) fun xs _ h=>((qdO xs.1 xs.2.1).trans (X5d xs.1 xs.2.1).symm).trans h
def qdR:List (Nat×F7 S):=[(69,qcD),(51,qdP)]
theorem qdS:Z9n X (qdR):=⟨qcE,qdQ,trivial⟩
abbrev qdT {R:Type}:Z27 S R:=Zgi
theorem qdU {R:Type}:Z3J X (qdT (R:=R)):=ZgQ X
theorem qdV (x0:ZJ) (x1:Zn):Zhs X qdR [(.st 20),(.st 21)] [(.int .i64)] q96 qdT 12 75 (x0,x1,())=X2j x0 x1:=by kernel_rfl
def qdW:F7 S:=⟨[(.st 20),(.st 21)],[(.int .i64)],fun xs=>X4Z xs.1 xs.2.1⟩
theorem qdX:Z7Q X 75 qdW:=Zho (Zhn xok qdS q97 qdU 12 75) fun xs _ h=>((qdV xs.1 xs.2.1).trans (X65 xs.1 xs.2.1).symm).trans h
def qdY:List (Nat×F7 S):=[(30,qdw),(75,qdW)]
theorem qdZ:Z9n X (qdY):=⟨qdx,qdX,trivial⟩
abbrev qe0 {R:Type}:Z27 S R:=Zgi
theorem qe1 {R:Type}:Z3J X (qe0 (R:=R)):=ZgQ X
def qe2:Key:=⟨[32],32,none,[0,0,1,0,1,1,1,1],0,22⟩
def qe3:StT S:=⟨(N (N L vK (N (N L vO L) none L)) none (N L (some (.ptr 0 0)) L)),(N L od L),22⟩
def qe4:Way S:=⟨.ret,⟨v1r,(N L od L),39⟩,[.int,.int,(.st 20)]⟩
def qe5:Way S:=⟨(.exit 0),⟨L,(N L od L),26⟩,[(.st 20)]⟩
def qe6:LE S:=⟨qe2,qe3,[(.lst (.st 21)),.int,(.st 20)],[qe4,qe5]⟩
def qe7 (x:t1f):((Int×Int)⊕Unit)→((Int×Int×ZJ)⊕ZJ):=Sum.elim (fun y0=>(.inl (y0.1,y0.2,x.2.2))) (fun y1=>(.inr x.2.2))
def qe8 {R:Type} (x:t1f) (k:((Int×Int×ZJ)⊕ZJ)→Option R):Option R:=(X1K x.1 x.2.2 x.2.1).bind (Sum.elim (fun y0=>k (.inl (y0.1,y0.2,x.2.2))) (fun y1=>k (.inr x.2.2)))
def qe9 (x:t1f) (v:Int):t1f:=(x.1,v,x.2.2)
theorem qea (x:t1f):LE.step X qe6 qdY q96 qe0 12 x=Xp x.1 x.2.2 x.2.1 (fun w0=>(Sum.inl (x.1,w0,x.2.2))) (fun p0 p1=>(Sum.inr (.inl (p0,p1,x.2.2)))) (Sum.inr (.inr x.2.2)):=by kernel_rfl
theorem qec {R:Type} (x:t1f) (k:((Int×Int×ZJ)⊕ZJ)→Option R) (r:R) (h:qe8 x k=some r):∃ o,Z5s (LE.step X qe6 qdY q96 qe0 12) x o∧k o=some r:=by
 obtain ⟨o,h1,h2⟩:=Z0 h
 exact ⟨qe7 x o,Zhl (st:=fun (x:t1f)=>Xi x.1 x.2.2) (prj:=fun x=>x.2.1) (emb:=qe9) (embO:=qe7) (fun x=>(qea x).trans (by unfold Xi Xp;simp only [Zhd,Zh8,Zhe,Option.map_some,Option.map_none];rfl)) (fun _ _=>rfl) (fun _ _=>rfl) (fun _ _ _=>rfl) (fun _ _ _=>rfl) (fun _=>rfl) (Z1S.1 h1),by
  first
  | exact h2
  | (rcases o with o|o<;>exact h2)⟩
def qed {R:Type}:Z27 S R:=LE.ls X qe6 qe8 qe0
theorem qee {R:Type}:Z3J X (qed (R:=R)):=Zhq xok qdZ (e:=qe6) q97 qe1 qec qe1
theorem qef (x0:ZJ) (x1:List Zn):Zhs X qdY [(.st 20),(.sl (.st 21))] [(.int .i64),(.int .i64)] q96 qed 12 32 (x0,x1,())=W0 x0 x1:=by kernel_rfl
def qeg:F7 S:=⟨[(.st 20),(.sl (.st 21))],[(.int .i64),(.int .i64)],fun xs=>X2u xs.1 xs.2.1⟩
theorem qeh:Z7Q X 32 qeg:=Zho (Zhn xok qdZ q97 qee 12 32) fun xs _ h=>((qef xs.1 xs.2.1).trans (X42 xs.1 xs.2.1).symm).trans h
def qei:List (Nat×F7 S):=[]
theorem qej:Z9n X (qei):=trivial
abbrev qek {R:Type}:Z27 S R:=Zgi
theorem qel {R:Type}:Z3J X (qek (R:=R)):=ZgQ X
def qem:Key:=⟨[79],79,none,[0,0,1,0,0,1,0,0,1,0,1,1],2,16⟩
def qen:StT S:=⟨(N (N (N L (some (.rs 16 0)) L) (some (.ptr 0 0)) (N L vO L)) none (N (N L vO L) none L)),(N L od (N (N (N (N L oA L) none L) none L) none L)),17⟩
def qeo:Way S:=⟨(.exit 2),⟨(N (N (N L (some (.rs 16 0)) L) (some (.ptr 0 0)) L) none (N (N L vO L) none L)),(N L od (N (N (N (N L oA L) none L) none L) none L)),21⟩,[.int,(.st 20),(.lst (.st 2))]⟩
def qep:LE S:=⟨qem,qen,[.int,.int,(.st 20),(.lst (.st 2))],[qeo]⟩
def qeq (x:t1a):(List Zu)→(Int×ZJ×(List Zu)):=fun y0=>(x.2.1,x.2.2.1,y0)
def qer {R:Type} (x:t1a) (k:(Int×ZJ×(List Zu))→Option R):Option R:=(X2v x.2.1 x.2.2.1 (x.1,x.2.2.2)).bind (fun y0=>k (x.2.1,x.2.2.1,y0))
def qes (x:t1a) (v:(Int×(List Zu))):t1a:=(v.1,x.2.1,x.2.2.1,v.2)
theorem qet (x:t1a):LE.step X qep qei q96 qek 12 x=X1i x.2.1 x.2.2.1 x.1 x.2.2.2 (fun w0 w1=>(Sum.inl (w0,x.2.1,x.2.2.1,w1))) (fun p0=>(Sum.inr (x.2.1,x.2.2.1,p0))):=by kernel_rfl
theorem qev {R:Type} (x:t1a) (k:(Int×ZJ×(List Zu))→Option R) (r:R) (h:qer x k=some r):∃ o,Z5s (LE.step X qep qei q96 qek 12) x o∧k o=some r:=by
 obtain ⟨o,h1,h2⟩:=Z0 h
 exact ⟨qeq x o,Zhl (st:=fun (x:t1a)=>X17 x.2.1 x.2.2.1) (prj:=fun x=>(x.1,x.2.2.2)) (emb:=qes) (embO:=qeq) (fun x=>(qet x).trans (by unfold X17 X1i;simp only [Zhd,Zh8,Zhe,Option.map_some,Option.map_none];rfl)) (fun _ _=>rfl) (fun _ _=>rfl) (fun _ _ _=>rfl) (fun _ _ _=>rfl) (fun _=>rfl) (Z1S.1 h1),by
  first
  | exact h2
  | (rcases o with o<;>exact h2)⟩
def qew {R:Type}:Z27 S R:=LE.ls X qep qer qek
theorem qex {R:Type}:Z3J X (qew (R:=R)):=Zhq xok qej (e:=qep) q97 qel qev qel
def qey:Key:=⟨[79],79,none,[0,0,1,0,1,1],0,7⟩
def qez:StT S:=⟨(N (N (N L (some (.rs 7 0)) L) (some (.ptr 0 0)) L) none (N (N L vO L) none L)),o1v,8⟩
def qeA:Way S:=⟨(.exit 0),⟨(N (N (N L (some (.rs 7 0)) L) none L) none L),o1v,12⟩,[(.lst (.st 2)),(.st 20)]⟩
def qeB:LE S:=⟨qey,qez,[.int,(.lst (.st 2)),(.st 20)],[qeA]⟩
def qeC (x:t1h):(List Zu)→((List Zu)×ZJ):=fun y0=>(y0,x.2.2)
def qeD {R:Type} (x:t1h) (k:((List Zu)×ZJ)→Option R):Option R:=(X3E x.2.2 (x.1,x.2.1)).bind (fun y0=>k (y0,x.2.2))
def qeE (x:t1h) (v:(Int×(List Zu))):t1h:=(v.1,v.2,x.2.2)
theorem qeF (x:t1h):LE.step X qeB qei q96 qew 12 x=X1h x.2.2 x.1 x.2.1 (fun w0 w1=>(Sum.inl (w0,w1,x.2.2))) (fun p0=>(Sum.inr (p0,x.2.2))):=by kernel_rfl
theorem qeH {R:Type} (x:t1h) (k:((List Zu)×ZJ)→Option R) (r:R) (h:qeD x k=some r):∃ o,Z5s (LE.step X qeB qei q96 qew 12) x o∧k o=some r:=by
 obtain ⟨o,h1,h2⟩:=Z0 h
 exact ⟨qeC x o,Zhl (st:=fun (x:t1h)=>X16 x.2.2) (prj:=fun x=>(x.1,x.2.1)) (emb:=qeE) (embO:=qeC) (fun x=>(qeF x).trans (by unfold X16 X1h;simp only [Zhd,Zh8,Zhe,Option.map_some,Option.map_none];rfl)) (fun _ _=>rfl) (fun _ _=>rfl) (fun _ _ _=>rfl) (fun _ _ _=>rfl) (fun _=>rfl) (Z1S.1 h1),by
  first
  | exact h2
  | (rcases o with o<;>exact h2)⟩
def qeI {R:Type}:Z27 S R:=LE.ls X qeB qeD qew
theorem qeJ {R:Type}:Z3J X (qeI (R:=R)):=Zhq xok qej (e:=qeB) q97 qex qeH qex
theorem qeK (x0:ZJ):Zhs X qei [(.st 20)] [(.sl (.st 2))] q96 qeI 12 79 (x0,())=X2D x0:=by kernel_rfl
def qeL:F7 S:=⟨[(.st 20)],[(.sl (.st 2))],fun xs=>X5q xs.1⟩
theorem qeM:Z7Q X 79 qeL:=Zho (Zhn xok qej q97 qeJ 12 79) fun xs _ h=>((qeK xs.1).trans (X6i xs.1).symm).trans h
def qeN:List (Nat×F7 S):=[]
theorem qeO:Z9n X (qeN):=trivial
abbrev qeP {R:Type}:Z27 S R:=Zgi
theorem qeQ {R:Type}:Z3J X (qeP (R:=R)):=ZgQ X
theorem qeR (x0:Zu):Zhs X qeN [(.st 2)] [(.st 2)] q96 qeP 12 128 (x0,())=X6G x0:=by kernel_rfl
def qeS:F7 S:=⟨[(.st 2)],[(.st 2)],fun xs=>X6G xs.1⟩
theorem qeT:Z7Q X 128 qeS:=Zho (Zhn xok qeO q97 qeQ 12 128) fun xs _ h=>(qeR xs.1).trans h
def qeU (ih:(Int×Unit)→Option (Zu)):List (Nat×F7 S):=[(128,qeS),(113,⟨[(.int .i64)],[(.st 2)],ih⟩)]
theorem qeV (ih:(Int×Unit)→Option (Zu)) (hih:Z7Q X 113 ⟨[(.int .i64)],[(.st 2)],ih⟩):Z9n X (qeU ih):=⟨qeT,hih,trivial⟩
abbrev qeW (ih:(Int×Unit)→Option (Zu)) {R:Type}:Z27 S R:=Zgi
theorem qeX (ih:(Int×Unit)→Option (Zu)) (hih:Z7Q X 113 ⟨[(.int .i64)],[(.st 2)],ih⟩) {R:Type}:Z3J X (qeW ih (R:=R)):=ZgQ X
theorem qeY (ih:(Int×Unit)→Option (Zu)) (x0:Int):Zhs X (qeU ih) [(.int .i64)] [(.st 2)] q96 (qeW ih) 12 113 (x0,())=X2t ih x0:=by kernel_rfl
def qeZ:F7 S:=⟨[(.int .i64)],[(.st 2)],fun xs=>X3S xs.1⟩
theorem qf0:Z7Q X 113 qeZ:=ZhO (X:=X) (g:=113) (pts:=[(.int .i64)]) (rts:=[(.st 2)]) (t:=X9) fun ih hih=>Zho (Zhn xok (qeV ih hih) q97 (qeX ih hih) 12 113) fun xs _ h=>(qeY ih xs.1).trans h
def qf1:List (Nat×F7 S):=[(113,qeZ),(112,qb5)]
theorem qf2:Z9n X (qf1):=⟨qf0,qb6,trivial⟩
abbrev qf3 {R:Type}:Z27 S R:=Zgi
theorem qf4 {R:Type}:Z3J X (qf3 (R:=R)):=ZgQ X
def qf5:Key:=⟨[87],87,none,[0,0,0,1,1],0,3⟩
def qf6:StT S:=⟨(N (N (N L vO L) (some (.ptr 0 0)) L) none L),(N L ok L),3⟩
def qf7:Way S:=⟨(.exit 0),⟨v1z,(N L ok L),17⟩,[.int,(.st 2)]⟩
def qf8:LE S:=⟨qf5,qf6,[.int,(.st 2)],[qf7]⟩
def qf9 (x:(Int×Zu)):Int→(Int×Zu):=fun y0=>(y0,x.2)
def qfa {R:Type} (x:(Int×Zu)) (k:(Int×Zu)→Option R):Option R:=(X4f x.2 x.1).bind (fun y0=>k (y0,x.2))
def qfb (x:(Int×Zu)) (v:Int):(Int×Zu):=(v,x.2)
theorem qfc (x:(Int×Zu)):LE.step X qf8 qf1 q96 qf3 12 x=Wm x.2 x.1 (fun w0=>(Sum.inl (w0,x.2))) (fun p0=>(Sum.inr (p0,x.2))):=by kernel_rfl
theorem qfe {R:Type} (x:(Int×Zu)) (k:(Int×Zu)→Option R) (r:R) (h:qfa x k=some r):∃ o,Z5s (LE.step X qf8 qf1 q96 qf3 12) x o∧k o=some r:=by
 obtain ⟨o,h1,h2⟩:=Z0 h
 exact ⟨qf9 x o,Zhl (st:=fun (x:(Int×Zu))=>W8 x.2) (prj:=fun x=>x.1) (emb:=qfb) (embO:=qf9) (fun x=>(qfc x).trans (by unfold W8 Wm;simp only [Zhd,Zh8,Zhe,Option.map_some,Option.map_none];rfl)) (fun _ _=>rfl) (fun _ _=>rfl) (fun _ _ _=>rfl) (fun _ _ _=>rfl) (fun _=>rfl) (Z1S.1 h1),by
  first
  | exact h2
  | (rcases o with o<;>exact h2)⟩
def qff {R:Type}:Z27 S R:=LE.ls X qf8 qfa qf3
theorem qfg {R:Type}:Z3J X (qff (R:=R)):=Zhq xok qf2 (e:=qf8) q97 qf4 qfe qf4
theorem qfh (x0:Zu):Zhs X qf1 [(.st 2)] [(.int .i64)] q96 qff 12 87 (x0,())=X2L x0:=by kernel_rfl
def qfi:F7 S:=⟨[(.st 2)],[(.int .i64)],fun xs=>X2L xs.1⟩
theorem qfj:Z7Q X 87 qfi:=Zho (Zhn xok qf2 q97 qfg 12 87) fun xs _ h=>(qfh xs.1).trans h
def qfk:List (Nat×F7 S):=[(69,qcD)]
theorem qfl:Z9n X (qfk):=⟨qcE,trivial⟩
abbrev qfm {R:Type}:Z27 S R:=Zgi
theorem qfn {R:Type}:Z3J X (qfm (R:=R)):=ZgQ X
def qfo:Key:=⟨[53],53,none,[0,0,1,0,1],0,4⟩
def qfp:StT S:=⟨(N (N (N L (some (.ptr 1 0)) L) none (N L vO L)) none (N L (some (.ptr 0 0)) L)),(N (N L ok L) od L),4⟩
def qfq:Way S:=⟨.ret,⟨v1A,(N (N L ok L) od L),47⟩,[.int,(.st 2),(.st 20)]⟩
def qfr:Way S:=⟨(.exit 0),⟨L,(N (N L ok L) od L),9⟩,[(.st 2),(.st 20)]⟩
def qfs:LE S:=⟨qfo,qfp,[.int,(.st 2),(.st 20)],[qfq,qfr]⟩
def qft (x:(Int×Zu×ZJ)):(Int⊕Unit)→((Int×Zu×ZJ)⊕(Zu×ZJ)):=Sum.elim (fun y0=>(.inl (y0,x.2.1,x.2.2))) (fun y1=>(.inr (x.2.1,x.2.2)))
def qfu {R:Type} (x:(Int×Zu×ZJ)) (k:((Int×Zu×ZJ)⊕(Zu×ZJ))→Option R):Option R:=(X2U x.2.1 x.2.2 x.1).bind (Sum.elim (fun y0=>k (.inl (y0,x.2.1,x.2.2))) (fun y1=>k (.inr (x.2.1,x.2.2))))
def qfv (x:(Int×Zu×ZJ)) (v:Int):(Int×Zu×ZJ):=(v,x.2.1,x.2.2)
theorem qfw (x:(Int×Zu×ZJ)):LE.step X qfs qfk q96 qfm 12 x=Wo x.2.1 x.2.2 x.1 (fun w0=>(Sum.inl (w0,x.2.1,x.2.2))) (fun p0=>(Sum.inr (.inl (p0,x.2.1,x.2.2)))) (Sum.inr (.inr (x.2.1,x.2.2))):=by kernel_rfl
theorem qfy {R:Type} (x:(Int×Zu×ZJ)) (k:((Int×Zu×ZJ)⊕(Zu×ZJ))→Option R) (r:R) (h:qfu x k=some r):∃ o,Z5s (LE.step X qfs qfk q96 qfm 12) x o∧k o=some r:=by
 obtain ⟨o,h1,h2⟩:=Z0 h
 exact ⟨qft x o,Zhl (st:=fun (x:(Int×Zu×ZJ))=>Wb x.2.1 x.2.2) (prj:=fun x=>x.1) (emb:=qfv) (embO:=qft) (fun x=>(qfw x).trans (by unfold Wb Wo;simp only [Zhd,Zh8,Zhe,Option.map_some,Option.map_none];rfl)) (fun _ _=>rfl) (fun _ _=>rfl) (fun _ _ _=>rfl) (fun _ _ _=>rfl) (fun _=>rfl) (Z1S.1 h1),by
  first
  | exact h2
  | (rcases o with o|o<;>exact h2)⟩
def qfz {R:Type}:Z27 S R:=LE.ls X qfs qfu qfm
theorem qfA {R:Type}:Z3J X (qfz (R:=R)):=Zhq xok qfl (e:=qfs) q97 qfn qfy qfn
theorem qfB (x0:ZJ) (x1:Zu):Zhs X qfk [(.st 20),(.st 2)] [(.int .i64)] q96 qfz 12 53 (x0,x1,())=X21 x0 x1:=by kernel_rfl
def qfC:F7 S:=⟨[(.st 20),(.st 2)],[(.int .i64)],fun xs=>X4k xs.1 xs.2.1⟩
theorem qfD:Z7Q X 53 qfC:=Zho (Zhn xok qfl q97 qfA 12 53) fun xs _ h=>((qfB xs.1 xs.2.1).trans (X5I xs.1 xs.2.1).symm).trans h
def qfE:List (Nat×F7 S):=[(88,qaY),(87,qfi),(53,qfC),(69,qcD)]
theorem qfF:Z9n X (qfE):=⟨qaZ,qfj,qfD,qcE,trivial⟩
abbrev qfG {R:Type}:Z27 S R:=Zgi
theorem qfH {R:Type}:Z3J X (qfG (R:=R)):=ZgQ X
theorem qfI (x0:ZJ) (x1:Zn) (x2:Zu) (x3:Int):Zhs X qfE [(.st 20),(.st 21),(.st 2),(.int .i64)] [.bool] q96 qfG 12 107 (x0,x1,x2,x3,())=X20 x0 x1 x2 x3:=by kernel_rfl
def qfJ:F7 S:=⟨[(.st 20),(.st 21),(.st 2),(.int .i64)],[.bool],fun xs=>X3D xs.1 xs.2.1 xs.2.2.1 xs.2.2.2.1⟩
theorem qfK:Z7Q X 107 qfJ:=Zho (Zhn xok qfF q97 qfH 12 107) fun xs _ h=>((qfI xs.1 xs.2.1 xs.2.2.1 xs.2.2.2.1).trans (X5G xs.1 xs.2.1 xs.2.2.1 xs.2.2.2.1).symm).trans h
def qfL:List (Nat×F7 S):=[(107,qfJ)]
theorem qfM:Z9n X (qfL):=⟨qfK,trivial⟩
abbrev qfN {R:Type}:Z27 S R:=Zgi
theorem qfO {R:Type}:Z3J X (qfN (R:=R)):=ZgQ X
def qfP:Key:=⟨[77],77,none,[0,0,1,0,1,0,0,1,0,0,1,0,1,1],2,24⟩
def qfQ:StT S:=⟨(N v14 none (N (N L vM (N L vO L)) none (N L none (N L vO L)))),o1l,25⟩
def qfR:Way S:=⟨(.exit 2),⟨(N v14 none (N (N L vM (N L vO L)) none L)),o1l,32⟩,[.int,(.lst (.st 21)),.bool,(.lst .bool),.int,(.st 2),(.st 20),(.lst (.int .i64))]⟩
def qfS:LE S:=⟨qfP,qfQ,[.int,(.lst (.st 21)),.bool,(.lst .bool),.int,.int,(.st 2),(.st 20),(.lst (.int .i64))],[qfR]⟩
def qfT (x:tD):Bool→tG:=fun y0=>(x.1,x.2.1,y0,x.2.2.2.1,x.2.2.2.2.1,x.2.2.2.2.2.2.1,x.2.2.2.2.2.2.2.1,x.2.2.2.2.2.2.2.2)
def qfU {R:Type} (x:tD) (k:tG→Option R):Option R:=(X2H x.1 x.2.1 x.2.2.2.1 x.2.2.2.2.1 x.2.2.2.2.2.2.1 x.2.2.2.2.2.2.2.1 (x.2.2.1,x.2.2.2.2.2.1)).bind (fun y0=>k (x.1,x.2.1,y0,x.2.2.2.1,x.2.2.2.2.1,x.2.2.2.2.2.2.1,x.2.2.2.2.2.2.2.1,x.2.2.2.2.2.2.2.2))
def qfV (x:tD) (v:(Bool×Int)):tD:=(x.1,x.2.1,v.1,x.2.2.2.1,x.2.2.2.2.1,v.2,x.2.2.2.2.2.2.1,x.2.2.2.2.2.2.2.1,x.2.2.2.2.2.2.2.2)
theorem qfW (x:tD):LE.step X qfS qfL q96 qfN 12 x=W2 x.1 x.2.1 x.2.2.2.1 x.2.2.2.2.1 x.2.2.2.2.2.2.1 x.2.2.2.2.2.2.2.1 x.2.2.1 x.2.2.2.2.2.1 (fun w0 w1=>(Sum.inl (x.1,x.2.1,w0,x.2.2.2.1,x.2.2.2.2.1,w1,x.2.2.2.2.2.2.1,x.2.2.2.2.2.2.2.1,x.2.2.2.2.2.2.2.2))) (fun p0=>(Sum.inr (x.1,x.2.1,p0,x.2.2.2.1,x.2.2.2.2.1,x.2.2.2.2.2.2.1,x.2.2.2.2.2.2.2.1,x.2.2.2.2.2.2.2.2))):=by kernel_rfl
theorem qfY {R:Type} (x:tD) (k:tG→Option R) (r:R) (h:qfU x k=some r):∃ o,Z5s (LE.step X qfS qfL q96 qfN 12) x o∧k o=some r:=by
 obtain ⟨o,h1,h2⟩:=Z0 h
 exact ⟨qfT x o,Zhl (st:=fun (x:tD)=>XV x.1 x.2.1 x.2.2.2.1 x.2.2.2.2.1 x.2.2.2.2.2.2.1 x.2.2.2.2.2.2.2.1) (prj:=fun x=>(x.2.2.1,x.2.2.2.2.2.1)) (emb:=qfV) (embO:=qfT) (fun x=>(qfW x).trans (by unfold XV W2;simp only [Zhd,Zh8,Zhe,Option.map_some,Option.map_none];rfl)) (fun _ _=>rfl) (fun _ _=>rfl) (fun _ _ _=>rfl) (fun _ _ _=>rfl) (fun _=>rfl) (Z1S.1 h1),by
  first
  | exact h2
  | (rcases o with o<;>exact h2)⟩
def qfZ {R:Type}:Z27 S R:=LE.ls X qfS qfU qfN
theorem qg0 {R:Type}:Z3J X (qfZ (R:=R)):=Zhq xok qfM (e:=qfS) q97 qfO qfY qfO
def qg1:Key:=⟨[77],77,none,[0,0,1,0,1,1],0,12⟩
def qg2:StT S:=⟨(N (N (N (N L (some (.ptr 1 0)) L) vO (N L (some (.rs 12 0)) L)) vK (N L (some (.ptr 0 0)) L)) none (N (N L vM (N L vO L)) none L)),(N (N L ok L) od o1E),13⟩
def qg3:Way S:=⟨(.exit 0),⟨(N (N (N L none (N L (some (.rs 12 0)) L)) none L) none L),(N (N L ok L) od o1E),22⟩,[(.st 2),(.st 20),(.lst (.int .i64))]⟩
def qg4:LE S:=⟨qg1,qg2,[.int,(.lst (.st 21)),(.lst .bool),.int,(.st 2),(.st 20),(.lst (.int .i64))],[qg3]⟩
def qg5 (x:tK):(List Int)→(Zu×ZJ×(List Int)):=fun y0=>(x.2.2.2.2.1,x.2.2.2.2.2.1,y0)
def qg6 {R:Type} (x:tK) (k:(Zu×ZJ×(List Int))→Option R):Option R:=(X2G x.1 x.2.1 x.2.2.1 x.2.2.2.2.1 x.2.2.2.2.2.1 (x.2.2.2.1,x.2.2.2.2.2.2)).bind (fun y0=>k (x.2.2.2.2.1,x.2.2.2.2.2.1,y0))
def qg7 (x:tK) (v:(Int×(List Int))):tK:=(x.1,x.2.1,x.2.2.1,v.1,x.2.2.2.2.1,x.2.2.2.2.2.1,v.2)
theorem qg8 (x:tK):LE.step X qg4 qfL q96 qfZ 12 x=W1 x.1 x.2.1 x.2.2.1 x.2.2.2.2.1 x.2.2.2.2.2.1 x.2.2.2.1 x.2.2.2.2.2.2 (fun w0 w1=>(Sum.inl (x.1,x.2.1,x.2.2.1,w0,x.2.2.2.2.1,x.2.2.2.2.2.1,w1))) (fun p0=>(Sum.inr (x.2.2.2.2.1,x.2.2.2.2.2.1,p0))):=by kernel_rfl
theorem qga {R:Type} (x:tK) (k:(Zu×ZJ×(List Int))→Option R) (r:R) (h:qg6 x k=some r):∃ o,Z5s (LE.step X qg4 qfL q96 qfZ 12) x o∧k o=some r:=by
 obtain ⟨o,h1,h2⟩:=Z0 h
 exact ⟨qg5 x o,Zhl (st:=fun (x:tK)=>XU x.1 x.2.1 x.2.2.1 x.2.2.2.2.1 x.2.2.2.2.2.1) (prj:=fun x=>(x.2.2.2.1,x.2.2.2.2.2.2)) (emb:=qg7) (embO:=qg5) (fun x=>(qg8 x).trans (by unfold XU W1;simp only [Zhd,Zh8,Zhe,Option.map_some,Option.map_none];rfl)) (fun _ _=>rfl) (fun _ _=>rfl) (fun _ _ _=>rfl) (fun _ _ _=>rfl) (fun _=>rfl) (Z1S.1 h1),by
  first
  | exact h2
  | (rcases o with o<;>exact h2)⟩
def qgb {R:Type}:Z27 S R:=LE.ls X qg4 qg6 qfZ
theorem qgc {R:Type}:Z3J X (qgb (R:=R)):=Zhq xok qfM (e:=qg4) q97 qg0 qga qg0
theorem qgd (x0:ZJ) (x1:List Zn) (x2:Zu) (x3:Int) (x4:List Bool):Zhs X qfL [(.st 20),(.sl (.st 21)),(.st 2),(.int .i64),(.sl .bool)] [(.sl (.int .i64))] q96 qgb 12 77 (x0,x1,x2,x3,x4,())=X1H x0 x1 x2 x3 x4:=by kernel_rfl
def qge:F7 S:=⟨[(.st 20),(.sl (.st 21)),(.st 2),(.int .i64),(.sl .bool)],[(.sl (.int .i64))],fun xs=>X35 xs.1 xs.2.1 xs.2.2.1 xs.2.2.2.1 xs.2.2.2.2.1⟩
theorem qgf:Z7Q X 77 qge:=Zho (Zhn xok qfM q97 qgc 12 77) fun xs _ h=>((qgd xs.1 xs.2.1 xs.2.2.1 xs.2.2.2.1 xs.2.2.2.2.1).trans (X5g xs.1 xs.2.1 xs.2.2.1 xs.2.2.2.1 xs.2.2.2.2.1).symm).trans h
def qgg:List (Nat×F7 S):=[(77,qge)]
theorem qgh:Z9n X (qgg):=⟨qgf,trivial⟩
abbrev qgi {R:Type}:Z27 S R:=Zgi
theorem qgj {R:Type}:Z3J X (qgi (R:=R)):=ZgQ X
def qgk:Key:=⟨[80],80,none,[0,0,1,0,1],0,4⟩
def qgl:StT S:=⟨(N (N (N (N L (some (.ptr 1 0)) L) vM (N L vO L)) vK (N L (some (.ptr 0 0)) L)) none (N (N L vM L) none L)),(N (N L ok L) od L),4⟩
def qgm:Way S:=⟨.ret,⟨(N L none (N L none (N (N L vN L) none L))),(N (N L ok L) od L),25⟩,[.bool,(.st 2),(.st 20)]⟩
def qgn:Way S:=⟨(.exit 0),⟨L,(N (N L ok L) od L),9⟩,[(.st 2),(.st 20)]⟩
def qgo:LE S:=⟨qgk,qgl,[(.lst .bool),.int,(.lst (.st 21)),(.lst .bool),(.st 2),(.st 20)],[qgm,qgn]⟩
def qgp (x:tM):(Bool⊕Unit)→((Bool×Zu×ZJ)⊕(Zu×ZJ)):=Sum.elim (fun y0=>(.inl (y0,x.2.2.2.2.1,x.2.2.2.2.2))) (fun y1=>(.inr (x.2.2.2.2.1,x.2.2.2.2.2)))
def qgq {R:Type} (x:tM) (k:((Bool×Zu×ZJ)⊕(Zu×ZJ))→Option R):Option R:=(X2V x.1 x.2.2.1 x.2.2.2.1 x.2.2.2.2.1 x.2.2.2.2.2 x.2.1).bind (Sum.elim (fun y0=>k (.inl (y0,x.2.2.2.2.1,x.2.2.2.2.2))) (fun y1=>k (.inr (x.2.2.2.2.1,x.2.2.2.2.2))))
def qgr (x:tM) (v:Int):tM:=(x.1,v,x.2.2.1,x.2.2.2.1,x.2.2.2.2.1,x.2.2.2.2.2)
theorem qgs (x:tM):LE.step X qgo qgg q96 qgi 12 x=Wp x.1 x.2.2.1 x.2.2.2.1 x.2.2.2.2.1 x.2.2.2.2.2 x.2.1 (fun w0=>(Sum.inl (x.1,w0,x.2.2.1,x.2.2.2.1,x.2.2.2.2.1,x.2.2.2.2.2))) (fun p0=>(Sum.inr (.inl (p0,x.2.2.2.2.1,x.2.2.2.2.2)))) (Sum.inr (.inr (x.2.2.2.2.1,x.2.2.2.2.2))):=by kernel_rfl
theorem qgu {R:Type} (x:tM) (k:((Bool×Zu×ZJ)⊕(Zu×ZJ))→Option R) (r:R) (h:qgq x k=some r):∃ o,Z5s (LE.step X qgo qgg q96 qgi 12) x o∧k o=some r:=by
 obtain ⟨o,h1,h2⟩:=Z0 h
 exact ⟨qgp x o,Zhl (st:=fun (x:tM)=>Wc x.1 x.2.2.1 x.2.2.2.1 x.2.2.2.2.1 x.2.2.2.2.2) (prj:=fun x=>x.2.1) (emb:=qgr) (embO:=qgp) (fun x=>(qgs x).trans (by unfold Wc Wp;simp only [Zhd,Zh8,Zhe,Option.map_some,Option.map_none];rfl)) (fun _ _=>rfl) (fun _ _=>rfl) (fun _ _ _=>rfl) (fun _ _ _=>rfl) (fun _=>rfl) (Z1S.1 h1),by
  first
  | exact h2
  | (rcases o with o|o<;>exact h2)⟩
def qgv {R:Type}:Z27 S R:=LE.ls X qgo qgq qgi
theorem qgw {R:Type}:Z3J X (qgv (R:=R)):=Zhq xok qgh (e:=qgo) q97 qgj qgu qgj
theorem qgx (x0:ZJ) (x1:List Zn) (x2:Zu) (x3:List Bool) (x4:List Bool):Zhs X qgg [(.st 20),(.sl (.st 21)),(.st 2),(.sl .bool),(.sl .bool)] [.bool] q96 qgv 12 80 (x0,x1,x2,x3,x4,())=X22 x0 x1 x2 x3 x4:=by kernel_rfl
def qgy:F7 S:=⟨[(.st 20),(.sl (.st 21)),(.st 2),(.sl .bool),(.sl .bool)],[.bool],fun xs=>X4l xs.1 xs.2.1 xs.2.2.1 xs.2.2.2.1 xs.2.2.2.2.1⟩
theorem qgz:Z7Q X 80 qgy:=Zho (Zhn xok qgh q97 qgw 12 80) fun xs _ h=>((qgx xs.1 xs.2.1 xs.2.2.1 xs.2.2.2.1 xs.2.2.2.2.1).trans (X5K xs.1 xs.2.1 xs.2.2.1 xs.2.2.2.1 xs.2.2.2.2.1).symm).trans h
def qgA:List (Nat×F7 S):=[(79,qeL),(80,qgy)]
theorem qgB:Z9n X (qgA):=⟨qeM,qgz,trivial⟩
abbrev qgC {R:Type}:Z27 S R:=Zgi
theorem qgD {R:Type}:Z3J X (qgC (R:=R)):=ZgQ X
def qgE:Key:=⟨[37],37,none,[0,0,1,0,1,1,1],0,7⟩
def qgF:StT S:=⟨(N (N (N (N L vO L) none L) vK (N L (some (.rs 7 0)) L)) none (N L (some (.ptr 0 0)) (N L vL L))),o1v,8⟩
def qgG:Way S:=⟨(.exit 0),⟨(N (N L none (N L (some (.rs 7 0)) L)) none L),o1v,12⟩,[(.lst (.st 2)),(.st 20)]⟩
def qgH:LE S:=⟨qgE,qgF,[.int,(.lst (.st 21)),(.lst (.st 2)),(.lst (.st 2)),(.st 20)],[qgG]⟩
def qgI (x:tT):(List Zu)→((List Zu)×ZJ):=fun y0=>(y0,x.2.2.2.2)
def qgJ {R:Type} (x:tT) (k:((List Zu)×ZJ)→Option R):Option R:=(X2Y x.2.1 x.2.2.1 x.2.2.2.2 (x.1,x.2.2.2.1)).bind (fun y0=>k (y0,x.2.2.2.2))
def qgK (x:tT) (v:(Int×(List Zu))):tT:=(v.1,x.2.1,x.2.2.1,v.2,x.2.2.2.2)
theorem qgL (x:tT):LE.step X qgH qgA q96 qgC 12 x=Ws x.2.1 x.2.2.1 x.2.2.2.2 x.1 x.2.2.2.1 (fun w0 w1=>(Sum.inl (w0,x.2.1,x.2.2.1,w1,x.2.2.2.2))) (fun p0=>(Sum.inr (p0,x.2.2.2.2))):=by kernel_rfl
theorem qgN {R:Type} (x:tT) (k:((List Zu)×ZJ)→Option R) (r:R) (h:qgJ x k=some r):∃ o,Z5s (LE.step X qgH qgA q96 qgC 12) x o∧k o=some r:=by
 obtain ⟨o,h1,h2⟩:=Z0 h
 exact ⟨qgI x o,Zhl (st:=fun (x:tT)=>Wf x.2.1 x.2.2.1 x.2.2.2.2) (prj:=fun x=>(x.1,x.2.2.2.1)) (emb:=qgK) (embO:=qgI) (fun x=>(qgL x).trans (by unfold Wf Ws;simp only [Zhd,Zh8,Zhe,Option.map_some,Option.map_none];rfl)) (fun _ _=>rfl) (fun _ _=>rfl) (fun _ _ _=>rfl) (fun _ _ _=>rfl) (fun _=>rfl) (Z1S.1 h1),by
  first
  | exact h2
  | (rcases o with o<;>exact h2)⟩
def qgO {R:Type}:Z27 S R:=LE.ls X qgH qgJ qgC
theorem qgP {R:Type}:Z3J X (qgO (R:=R)):=Zhq xok qgB (e:=qgH) q97 qgD qgN qgD
theorem qgQ (x0:ZJ) (x1:List Zn):Zhs X qgA [(.st 20),(.sl (.st 21))] [(.sl (.st 2))] q96 qgO 12 37 (x0,x1,())=X24 x0 x1:=by kernel_rfl
def qgR:F7 S:=⟨[(.st 20),(.sl (.st 21))],[(.sl (.st 2))],fun xs=>X3G xs.1 xs.2.1⟩
theorem qgS:Z7Q X 37 qgR:=Zho (Zhn xok qgB q97 qgP 12 37) fun xs _ h=>((qgQ xs.1 xs.2.1).trans (X5O xs.1 xs.2.1).symm).trans h
def qgT:StT S:=⟨(N (N (N L vO L) vs L) (some .nilp) (N L vO L)),L,0⟩
def qgU:PE S:=⟨58,4,qgT,[.int,(.st 2),.int],[]⟩
def qgV:List (Nat×F7 S):=[(110,q5T),(57,q37)]
theorem qgW:Z9n X qgV:=⟨q5U,q38,trivial⟩
abbrev qgX {R:Type}:Z27 S R:=Zgi
theorem qgY {R:Type}:Z3J X (qgX (R:=R)):=ZgQ X
theorem qgZ (x:(Int×Zu×Int)):PE.step X qgU qgV q96 qgX 12 x=X1P x.1 x.2.1 x.2.2:=by kernel_rfl
theorem qh0:ZaX X qgU X48:=Zhr (ZgU xok qgW q97 qgY 12) fun x _ h=>((qgZ x).trans (X6r x).symm).trans h
def qh1 {R:Type}:Prs S R:=PE.ps X qgU (fun x q=>(X48 x).bind q) q96
theorem qh2 {R:Type}:Z7R X (qh1 (R:=R)):=Zhi (e:=qgU) qh0 q97
def qh3:StT S:=⟨(N L (some .nilp) L),L,0⟩
def qh4:PE S:=⟨44,1,qh3,[],[]⟩
def qh5:List (Nat×F7 S):=[]
theorem qh6:Z9n X qh5:=trivial
abbrev qh7 {R:Type}:Z27 S R:=Zgi
theorem qh8 {R:Type}:Z3J X (qh7 (R:=R)):=ZgQ X
theorem qh9 (x:Unit):PE.step X qh4 qh5 qh1 qh7 12 x=Wx:=by kernel_rfl
theorem qha:ZaX X qh4 X2S:=Zhr (ZgU xok qh6 qh2 qh8 12) fun x _ h=>((qh9 x).trans (X5o x).symm).trans h
def qhb {R:Type}:Prs S R:=PE.ps X qh4 (fun x q=>(X2S x).bind q) qh1
theorem qhc {R:Type}:Z7R X (qhb (R:=R)):=Zhi (e:=qh4) qha qh2
def qhd:StT S:=⟨(N L (some (.ptr 1 0)) L),(N (N L o4 L) op L),2⟩
def qhe:Way S:=⟨.ret,⟨(N L vO L),(N (N L o4 L) op L),2⟩,[.int,(.st 20),(.lst (.st 21)),.en,(.mp (.st 23) (.int .i64))]⟩
def qhf:PE S:=⟨44,1,qhd,[(.st 20),(.lst (.st 21)),.en,(.mp (.st 23) (.int .i64))],[qhe]⟩
def qhg:List (Nat×F7 S):=[]
theorem qhh:Z9n X qhg:=trivial
abbrev qhi {R:Type}:Z27 S R:=Zgi
theorem qhj {R:Type}:Z3J X (qhi (R:=R)):=ZgQ X
def qhk:Key:=⟨[44],44,none,[0,0,1,0,1],0,9⟩
def qhl:StT S:=⟨(N v1D (some (.ptr 1 0)) (N (N L none (N L vO L)) vO (N (N L vK L) none L))),(N (N L o4 L) op L),9⟩
def qhm:Way S:=⟨(.exit 0),⟨(N L none (N L vO L)),(N (N L o4 L) op L),10⟩,[.int,(.st 20),(.lst (.st 21)),.en,(.mp (.st 23) (.int .i64))]⟩
def qhn:LE S:=⟨qhk,qhl,[.int,.int,.int,(.lst (.st 21)),(.st 20),(.lst (.st 21)),.en,(.mp (.st 23) (.int .i64))],[qhm]⟩
def qho (x:tr):Int→tL:=fun y0=>(y0,x.2.2.2.2.1,x.2.2.2.2.2.1,x.2.2.2.2.2.2.1,x.2.2.2.2.2.2.2)
def qhp {R:Type} (x:tr) (k:tL→Option R):Option R:=(X2A x.1 x.2.2.2.1 x.2.2.2.2.1 x.2.2.2.2.2.2.1 (x.2.1,x.2.2.1)).bind (fun y0=>k (y0,x.2.2.2.2.1,x.2.2.2.2.2.1,x.2.2.2.2.2.2.1,x.2.2.2.2.2.2.2))
def qhq (x:tr) (v:(Int×Int)):tr:=(x.1,v.1,v.2,x.2.2.2.1,x.2.2.2.2.1,x.2.2.2.2.2.1,x.2.2.2.2.2.2.1,x.2.2.2.2.2.2.2)
theorem qhr (x:tr):LE.step X qhn qhg qhb qhi 12 x=X13 x.1 x.2.2.2.1 x.2.2.2.2.1 x.2.2.2.2.2.2.1 x.2.1 x.2.2.1 (fun w0 w1=>(Sum.inl (x.1,w0,w1,x.2.2.2.1,x.2.2.2.2.1,x.2.2.2.2.2.1,x.2.2.2.2.2.2.1,x.2.2.2.2.2.2.2))) (fun p0=>(Sum.inr (p0,x.2.2.2.2.1,x.2.2.2.2.2.1,x.2.2.2.2.2.2.1,x.2.2.2.2.2.2.2))):=by kernel_rfl
theorem qht {R:Type} (x:tr) (k:tL→Option R) (r:R) (h:qhp x k=some r):∃ o,Z5s (LE.step X qhn qhg qhb qhi 12) x o∧k o=some r:=by
 obtain ⟨o,h1,h2⟩:=Z0 h
 exact ⟨qho x o,Zhl (st:=fun (x:tr)=>X1o x.1 x.2.2.2.1 x.2.2.2.2.1 x.2.2.2.2.2.2.1) (prj:=fun x=>(x.2.1,x.2.2.1)) (emb:=qhq) (embO:=qho) (fun x=>(qhr x).trans (by unfold X1o X13;simp only [Zhd,Zh8,Zhe,Option.map_some,Option.map_none];rfl)) (fun _ _=>rfl) (fun _ _=>rfl) (fun _ _ _=>rfl) (fun _ _ _=>rfl) (fun _=>rfl) (Z1S.1 h1),by
  first
  | exact h2
  | (rcases o with o<;>exact h2)⟩
def qhu {R:Type}:Z27 S R:=LE.ls X qhn qhp qhi
theorem qhv {R:Type}:Z3J X (qhu (R:=R)):=Zhq xok qhh (e:=qhn) qhc qhj qht qhj
theorem qhw (x:tQ):PE.step X qhf qhg qhb qhu 12 x=Wy x.1 x.2.1 x.2.2.1 x.2.2.2:=by kernel_rfl
theorem qhx:ZaX X qhf X2T:=Zhr (ZgU xok qhh qhc qhv 12) fun x _ h=>((qhw x).trans (X5p x).symm).trans h
def qhy {R:Type}:Prs S R:=PE.ps X qhf (fun x q=>(X2T x).bind q) qhb
theorem qhz {R:Type}:Z7R X (qhy (R:=R)):=Zhi (e:=qhf) qhx qhc
def qhA:StT S:=⟨(N (N L vO L) (some (.ptr 1 0)) L),(N (N L o4 L) op L),2⟩
def qhB:Way S:=⟨.ret,⟨(N L vN L),(N (N L o4 L) op L),2⟩,[.bool,(.st 20),(.lst (.st 21)),.en,(.mp (.st 23) (.int .i64))]⟩
def qhC:PE S:=⟨46,2,qhA,[.int,(.st 20),(.lst (.st 21)),.en,(.mp (.st 23) (.int .i64))],[qhB]⟩
def qhD:List (Nat×F7 S):=[(110,q5T),(57,q37)]
theorem qhE:Z9n X qhD:=⟨q5U,q38,trivial⟩
abbrev qhF {R:Type}:Z27 S R:=Zgi
theorem qhG {R:Type}:Z3J X (qhF (R:=R)):=ZgQ X
def qhH:Key:=⟨[108,0,46],108,none,[0,0,1,0,0,1,0,0,1],2,44⟩
def qhI:StT S:=⟨(N (N (N L vO L) (some (.ptr 18 0)) L) (some (.yld 22)) (N (N L vO L) none L)),o15,44⟩
def qhJ:Way S:=⟨.ret,⟨L,oP,94⟩,[.int,(.st 20),(.lst (.st 21)),.en,(.arr (.st 5)),(.st 2),(.mp (.st 23) (.int .i64)),.bool,.int,.int]⟩
def qhK:Way S:=⟨(.exit 2),⟨v1n,o15,51⟩,[.int,.int,(.st 20),(.lst (.st 21)),.en,(.mp (.st 23) (.int .i64)),.bool,.int,.int]⟩
def qhL:LE S:=⟨qhH,qhI,[.int,.int,.int,(.st 20),(.lst (.st 21)),.en,(.mp (.st 23) (.int .i64)),.bool,.int,.int],[qhJ,qhK]⟩
def qhM (x:tp):((ZJ×(List Zn)×(Nat→Nat)×(Nat→ZE)×Zu×t1m×Bool)⊕tQ)→t5:=Sum.elim (fun y0=>(.inl (x.2.2.1,y0.1,y0.2.1,y0.2.2.1,y0.2.2.2.1,y0.2.2.2.2.1,y0.2.2.2.2.2.1,y0.2.2.2.2.2.2,x.2.2.2.2.2.2.2.2.1,x.2.2.2.2.2.2.2.2.2))) (fun y1=>(.inr (x.1,x.2.2.1,y1.1,y1.2.1,y1.2.2.1,y1.2.2.2,x.2.2.2.2.2.2.2.1,x.2.2.2.2.2.2.2.2.1,x.2.2.2.2.2.2.2.2.2)))
def qhN {R:Type} (x:tp) (k:t5→Option R):Option R:=(X2r x.1 x.2.2.1 x.2.2.2.2.2.2.2.2.2 (x.2.1,x.2.2.2.1,x.2.2.2.2.1,x.2.2.2.2.2.1,x.2.2.2.2.2.2.1)).bind (Sum.elim (fun y0=>k (.inl (x.2.2.1,y0.1,y0.2.1,y0.2.2.1,y0.2.2.2.1,y0.2.2.2.2.1,y0.2.2.2.2.2.1,y0.2.2.2.2.2.2,x.2.2.2.2.2.2.2.2.1,x.2.2.2.2.2.2.2.2.2))) (fun y1=>k (.inr (x.1,x.2.2.1,y1.1,y1.2.1,y1.2.2.1,y1.2.2.2,x.2.2.2.2.2.2.2.1,x.2.2.2.2.2.2.2.2.1,x.2.2.2.2.2.2.2.2.2))))
def qhO (x:tp) (v:tL):tp:=(x.1,v.1,x.2.2.1,v.2.1,v.2.2.1,v.2.2.2.1,v.2.2.2.2,x.2.2.2.2.2.2.2.1,x.2.2.2.2.2.2.2.2.1,x.2.2.2.2.2.2.2.2.2)
theorem qhP (x:tp):LE.step X qhL qhD qhy qhF 12 x=WL x.1 x.2.2.1 x.2.2.2.2.2.2.2.2.2 x.2.1 x.2.2.2.1 x.2.2.2.2.1 x.2.2.2.2.2.1 x.2.2.2.2.2.2.1 (fun w0 w1 w2 w3 w4=>(Sum.inl (x.1,w0,x.2.2.1,w1,w2,w3,w4,x.2.2.2.2.2.2.2.1,x.2.2.2.2.2.2.2.2.1,x.2.2.2.2.2.2.2.2.2))) (fun p0 p1 p2 p3 p4 p5 p6=>(Sum.inr (.inl (x.2.2.1,p0,p1,p2,p3,p4,p5,p6,x.2.2.2.2.2.2.2.2.1,x.2.2.2.2.2.2.2.2.2)))) (fun p0 p1 p2 p3=>(Sum.inr (.inr (x.1,x.2.2.1,p0,p1,p2,p3,x.2.2.2.2.2.2.2.1,x.2.2.2.2.2.2.2.2.1,x.2.2.2.2.2.2.2.2.2)))):=by kernel_rfl
theorem qhR {R:Type} (x:tp) (k:t5→Option R) (r:R) (h:qhN x k=some r):∃ o,Z5s (LE.step X qhL qhD qhy qhF 12) x o∧k o=some r:=by
 obtain ⟨o,h1,h2⟩:=Z0 h
 exact ⟨qhM x o,Zhl (st:=fun (x:tp)=>X1c x.1 x.2.2.1 x.2.2.2.2.2.2.2.2.2) (prj:=fun x=>(x.2.1,x.2.2.2.1,x.2.2.2.2.1,x.2.2.2.2.2.1,x.2.2.2.2.2.2.1)) (emb:=qhO) (embO:=qhM) (fun x=>(qhP x).trans (by unfold X1c WL;simp only [Zhd,Zh8,Zhe,Option.map_some,Option.map_none];rfl)) (fun _ _=>rfl) (fun _ _=>rfl) (fun _ _ _=>rfl) (fun _ _ _=>rfl) (fun _=>rfl) (Z1S.1 h1),by
  first
  | exact h2
  | (rcases o with o|o<;>exact h2)⟩
def qhS {R:Type}:Z27 S R:=LE.ls X qhL qhN qhF
theorem qhT {R:Type}:Z3J X (qhS (R:=R)):=Zhq xok qhE (e:=qhL) qhz qhG qhR qhG
def qhU:Key:=⟨[108,0,46],108,none,[0,0,1],0,30⟩
def qhV:StT S:=⟨v1n,o15,30⟩
def qhW:Way S:=⟨.ret,⟨L,oP,94⟩,[.int,(.st 20),(.lst (.st 21)),.en,(.arr (.st 5)),(.st 2),(.mp (.st 23) (.int .i64)),.bool,.int,.int]⟩
def qhX:Way S:=⟨(.exit 0),⟨L,o15,37⟩,[.int,(.st 20),(.lst (.st 21)),.en,(.mp (.st 23) (.int .i64)),.bool,.int,.int]⟩
def qhY:LE S:=⟨qhU,qhV,[.int,.int,(.st 20),(.lst (.st 21)),.en,(.mp (.st 23) (.int .i64)),.bool,.int,.int],[qhW,qhX]⟩
def qhZ (x:ts):((ZJ×(List Zn)×(Nat→Nat)×(Nat→ZE)×Zu×t1m×Bool)⊕tQ)→t7:=Sum.elim (fun y0=>(.inl (x.2.1,y0.1,y0.2.1,y0.2.2.1,y0.2.2.2.1,y0.2.2.2.2.1,y0.2.2.2.2.2.1,y0.2.2.2.2.2.2,x.2.2.2.2.2.2.2.1,x.2.2.2.2.2.2.2.2))) (fun y1=>(.inr (x.2.1,y1.1,y1.2.1,y1.2.2.1,y1.2.2.2,x.2.2.2.2.2.2.1,x.2.2.2.2.2.2.2.1,x.2.2.2.2.2.2.2.2)))
def qi0 {R:Type} (x:ts) (k:t7→Option R):Option R:=(X2q x.2.1 x.2.2.2.2.2.2.2.2 (x.1,x.2.2.1,x.2.2.2.1,x.2.2.2.2.1,x.2.2.2.2.2.1)).bind (Sum.elim (fun y0=>k (.inl (x.2.1,y0.1,y0.2.1,y0.2.2.1,y0.2.2.2.1,y0.2.2.2.2.1,y0.2.2.2.2.2.1,y0.2.2.2.2.2.2,x.2.2.2.2.2.2.2.1,x.2.2.2.2.2.2.2.2))) (fun y1=>k (.inr (x.2.1,y1.1,y1.2.1,y1.2.2.1,y1.2.2.2,x.2.2.2.2.2.2.1,x.2.2.2.2.2.2.2.1,x.2.2.2.2.2.2.2.2))))
def qi1 (x:ts) (v:tL):ts:=(v.1,x.2.1,v.2.1,v.2.2.1,v.2.2.2.1,v.2.2.2.2,x.2.2.2.2.2.2.1,x.2.2.2.2.2.2.2.1,x.2.2.2.2.2.2.2.2)
theorem qi2 (x:ts):LE.step X qhY qhD qhy qhS 12 x=WK x.2.1 x.2.2.2.2.2.2.2.2 x.1 x.2.2.1 x.2.2.2.1 x.2.2.2.2.1 x.2.2.2.2.2.1 (fun w0 w1 w2 w3 w4=>(Sum.inl (w0,x.2.1,w1,w2,w3,w4,x.2.2.2.2.2.2.1,x.2.2.2.2.2.2.2.1,x.2.2.2.2.2.2.2.2))) (fun p0 p1 p2 p3 p4 p5 p6=>(Sum.inr (.inl (x.2.1,p0,p1,p2,p3,p4,p5,p6,x.2.2.2.2.2.2.2.1,x.2.2.2.2.2.2.2.2)))) (fun p0 p1 p2 p3=>(Sum.inr (.inr (x.2.1,p0,p1,p2,p3,x.2.2.2.2.2.2.1,x.2.2.2.2.2.2.2.1,x.2.2.2.2.2.2.2.2)))):=by kernel_rfl
theorem qi4 {R:Type} (x:ts) (k:t7→Option R) (r:R) (h:qi0 x k=some r):∃ o,Z5s (LE.step X qhY qhD qhy qhS 12) x o∧k o=some r:=by
 obtain ⟨o,h1,h2⟩:=Z0 h
 exact ⟨qhZ x o,Zhl (st:=fun (x:ts)=>X1b x.2.1 x.2.2.2.2.2.2.2.2) (prj:=fun x=>(x.1,x.2.2.1,x.2.2.2.1,x.2.2.2.2.1,x.2.2.2.2.2.1)) (emb:=qi1) (embO:=qhZ) (fun x=>(qi2 x).trans (by unfold X1b WK;simp only [Zhd,Zh8,Zhe,Option.map_some,Option.map_none];rfl)) (fun _ _=>rfl) (fun _ _=>rfl) (fun _ _ _=>rfl) (fun _ _ _=>rfl) (fun _=>rfl) (Z1S.1 h1),by
  first
  | exact h2
  | (rcases o with o|o<;>exact h2)⟩
def qi5 {R:Type}:Z27 S R:=LE.ls X qhY qi0 qhS
theorem qi6 {R:Type}:Z3J X (qi5 (R:=R)):=Zhq xok qhE (e:=qhY) qhz qhT qi4 qhT
theorem qi7 (x:tL):PE.step X qhC qhD qhy qi5 12 x=Wg x.1 x.2.1 x.2.2.1 x.2.2.2.1 x.2.2.2.2:=by kernel_rfl
theorem qi8:ZaX X qhC X1C:=Zhr (ZgU xok qhE qhz qi6 12) fun x _ h=>((qi7 x).trans (X5a x).symm).trans h
def qi9 {R:Type}:Prs S R:=PE.ps X qhC (fun x q=>(X1C x).bind q) qhy
theorem qia {R:Type}:Z7R X (qi9 (R:=R)):=Zhi (e:=qhC) qi8 qhz
def qib:StT S:=⟨(N (N (N L (some (.ptr 4 0)) L) vO (N L (some (.ptr 0 0)) L)) vO (N (N L (some (.ptr 1 0)) L) vO L)),o1u,5⟩
def qic:Way S:=⟨.ret,⟨(N L (some (.tup [(.int .i64 0),(.bool false)])) L),o1u,5⟩,[.int,.bool,(.st 20),(.lst (.st 21)),.en,.int,(.mp (.st 23) (.int .i64))]⟩
def qid:PE S:=⟨45,6,qib,[.int,.int,.int,(.st 20),(.lst (.st 21)),.en,.int,(.mp (.st 23) (.int .i64))],[qic]⟩
def qie:List (Nat×F7 S):=[(110,q5T),(57,q37)]
theorem qif:Z9n X qie:=⟨q5U,q38,trivial⟩
abbrev qig (ih:tw→Option tC) {R:Type}:Z27 S R:=Zgi
theorem qih (ih:tw→Option tC) (hih:ZaX X qid ih) {R:Type}:Z3J X (qig ih (R:=R)):=ZgQ X
def qii:Key:=⟨[45],45,none,[0,0,1,0,1,1],0,11⟩
def qij:StT S:=⟨(N (N (N L none (N L vO L)) none (N L (some (.ptr 0 0)) L)) vO (N (N L (some (.ptr 1 0)) L) vO L)),o1u,11⟩
def qik:Way S:=⟨.ret,⟨(N v1A none (N L none (N (N L vN L) none L))),o1u,39⟩,[.int,.bool,(.st 20),(.lst (.st 21)),.en,.int,(.mp (.st 23) (.int .i64))]⟩
def qil:Way S:=⟨(.exit 0),⟨L,o1u,15⟩,[(.st 20),(.lst (.st 21)),.en,.int,(.mp (.st 23) (.int .i64))]⟩
def qim:LE S:=⟨qii,qij,[.int,.int,.int,(.st 20),(.lst (.st 21)),.en,.int,(.mp (.st 23) (.int .i64))],[qik,qil]⟩
def qin (x:tz):tc→tc:=Sum.elim (fun y0=>(.inl (y0.1,y0.2.1,y0.2.2.1,y0.2.2.2.1,y0.2.2.2.2.1,y0.2.2.2.2.2.1,y0.2.2.2.2.2.2))) (fun y1=>(.inr (y1.1,y1.2.1,y1.2.2.1,y1.2.2.2.1,y1.2.2.2.2)))
def qio (ih:tw→Option tC) {R:Type} (x:tz) (k:tc→Option R):Option R:=(X3I ih x.2.1 x.2.2.1 (x.1,x.2.2.2.1,x.2.2.2.2.1,x.2.2.2.2.2.1,x.2.2.2.2.2.2.1,x.2.2.2.2.2.2.2)).bind (Sum.elim (fun y0=>k (.inl (y0.1,y0.2.1,y0.2.2.1,y0.2.2.2.1,y0.2.2.2.2.1,y0.2.2.2.2.2.1,y0.2.2.2.2.2.2))) (fun y1=>k (.inr (y1.1,y1.2.1,y1.2.2.1,y1.2.2.2.1,y1.2.2.2.2))))
def qip (x:tz) (v:(Int×ZJ×(List Zn)×(Nat→Nat)×Int×t1m)):tz:=(v.1,x.2.1,x.2.2.1,v.2.1,v.2.2.1,v.2.2.2.1,v.2.2.2.2.1,v.2.2.2.2.2)
theorem qiq (ih:tw→Option tC) (x:tz):LE.step X qim qie (PE.ps X qid (fun x q=>(ih x).bind q) qi9) (qig ih) 12 x=X27 ih x.2.1 x.2.2.1 x.1 x.2.2.2.1 x.2.2.2.2.1 x.2.2.2.2.2.1 x.2.2.2.2.2.2.1 x.2.2.2.2.2.2.2 (fun w0 w1 w2 w3 w4 w5=>(Sum.inl (w0,x.2.1,x.2.2.1,w1,w2,w3,w4,w5))) (fun p0 p1 p2 p3 p4 p5 p6=>(Sum.inr (.inl (p0,p1,p2,p3,p4,p5,p6)))) (fun p0 p1 p2 p3 p4=>(Sum.inr (.inr (p0,p1,p2,p3,p4)))):=by kernel_rfl
theorem qis (ih:tw→Option tC) {R:Type} (x:tz) (k:tc→Option R) (r:R) (h:qio ih x k=some r):∃ o,Z5s (LE.step X qim qie (PE.ps X qid (fun x q=>(ih x).bind q) qi9) (qig ih) 12) x o∧k o=some r:=by
 obtain ⟨o,h1,h2⟩:=Z0 h
 exact ⟨qin x o,Zhl (st:=fun (x:tz)=>X2z ih x.2.1 x.2.2.1) (prj:=fun x=>(x.1,x.2.2.2.1,x.2.2.2.2.1,x.2.2.2.2.2.1,x.2.2.2.2.2.2.1,x.2.2.2.2.2.2.2)) (emb:=qip) (embO:=qin) (fun x=>(qiq ih x).trans (by unfold X2z X27;simp only [Zhd,Zh8,Zhe,Option.map_some,Option.map_none];rfl)) (fun _ _=>rfl) (fun _ _=>rfl) (fun _ _ _=>rfl) (fun _ _ _=>rfl) (fun _=>rfl) (Z1S.1 h1),by
  first
  | exact h2
  | (rcases o with o|o<;>exact h2)⟩
def qit (ih:tw→Option tC) {R:Type}:Z27 S R:=LE.ls X qim (qio ih) (qig ih)
theorem qiu (ih:tw→Option tC) (hih:ZaX X qid ih) {R:Type}:Z3J X (qit ih (R:=R)):=Zhq xok qif (e:=qim) (Zhi (e:=qid) hih qia) (qih ih hih) (qis ih) (qih ih hih)
theorem qiv (ih:tw→Option tC) (x:tz):PE.step X qid qie (PE.ps X qid (fun x q=>(ih x).bind q) qi9) (qit ih) 12 x=X4v ih x.1 x.2.1 x.2.2.1 x.2.2.2.1 x.2.2.2.2.1 x.2.2.2.2.2.1 x.2.2.2.2.2.2.1 x.2.2.2.2.2.2.2:=by kernel_rfl
theorem qiw:ZaX X qid X5W:=Zhj (X:=X) (e:=qid) (t:=X4w) fun ih hih=>Zhr (ZgU xok qif (Zhi (e:=qid) hih qia) (qiu ih hih) 12) fun x _ h=>(qiv ih x).trans h
def qix {R:Type}:Prs S R:=PE.ps X qid (fun x q=>(X5W x).bind q) qi9
theorem qiy {R:Type}:Z7R X (qix (R:=R)):=Zhi (e:=qid) qiw qia
def qiz:List (Nat×F7 S):=[]
theorem qiA:Z9n X (qiz):=trivial
abbrev qiB {R:Type}:Z27 S R:=Zgi
theorem qiC {R:Type}:Z3J X (qiB (R:=R)):=ZgQ X
def qiD:Key:=⟨[84],84,none,[0,0,1,0,1,1,1],0,9⟩
def qiE:StT S:=⟨(N (N (N L vO L) none L) (some (.sl (.int .i64) [])) (N (N L vO L) none L)),L,9⟩
def qiF:Way S:=⟨(.exit 0),⟨v1z,L,13⟩,[.int]⟩
def qiG:LE S:=⟨qiD,qiE,[.int,(.lst (.int .i64)),.int],[qiF]⟩
def qiH (x:t1l):Int→Int:=fun y0=>y0
def qiI {R:Type} (x:t1l) (k:Int→Option R):Option R:=(X1p x.2.1 (x.1,x.2.2)).bind (fun y0=>k y0)
def qiJ (x:t1l) (v:(Int×Int)):t1l:=(v.1,x.2.1,v.2)
theorem qiK (x:t1l):LE.step X qiG qiz qix qiB 12 x=Xj x.2.1 x.1 x.2.2 (fun w0 w1=>(Sum.inl (w0,x.2.1,w1))) (fun p0=>(Sum.inr p0)):=by kernel_rfl
theorem qiM {R:Type} (x:t1l) (k:Int→Option R) (r:R) (h:qiI x k=some r):∃ o,Z5s (LE.step X qiG qiz qix qiB 12) x o∧k o=some r:=by
 obtain ⟨o,h1,h2⟩:=Z0 h
 exact ⟨qiH x o,Zhl (st:=fun (x:t1l)=>Xd x.2.1) (prj:=fun x=>(x.1,x.2.2)) (emb:=qiJ) (embO:=qiH) (fun x=>(qiK x).trans (by unfold Xd Xj;simp only [Zhd,Zh8,Zhe,Option.map_some,Option.map_none];rfl)) (fun _ _=>rfl) (fun _ _=>rfl) (fun _ _ _=>rfl) (fun _ _ _=>rfl) (fun _=>rfl) (Z1S.1 h1),by
  first
  | exact h2
  | (rcases o with o<;>exact h2)⟩
def qiN {R:Type}:Z27 S R:=LE.ls X qiG qiI qiB
theorem qiO {R:Type}:Z3J X (qiN (R:=R)):=Zhq xok qiA (e:=qiG) qiy qiC qiM qiC
theorem qiP (x0:List Int):Zhs X qiz [(.sl (.int .i64))] [(.int .i64)] qix qiN 12 84 (x0,())=XR x0:=by kernel_rfl
def qiQ:F7 S:=⟨[(.sl (.int .i64))],[(.int .i64)],fun xs=>X1k xs.1⟩
theorem qiR:Z7Q X 84 qiQ:=Zho (Zhn xok qiA qiy qiO 12 84) fun xs _ h=>((qiP xs.1).trans (X3N xs.1).symm).trans h
def qiS:StT S:=⟨(N (N (N L vO L) vL L) (some (.ptr 1 0)) (N L vO L)),(N (N L o4 L) op L),2⟩
def qiT:Way S:=⟨.ret,⟨(N L vO L),(N (N L o4 L) op L),2⟩,[.int,(.st 20),(.lst (.st 21)),.en,(.mp (.st 23) (.int .i64))]⟩
def qiU:PE S:=⟨50,4,qiS,[.int,(.lst (.st 2)),.int,(.st 20),(.lst (.st 21)),.en,(.mp (.st 23) (.int .i64))],[qiT]⟩
def qiV:List (Nat×F7 S):=[(110,q5T),(57,q37),(84,qiQ)]
theorem qiW:Z9n X qiV:=⟨q5U,q38,qiR,trivial⟩
abbrev qiX {R:Type}:Z27 S R:=Zgi
theorem qiY {R:Type}:Z3J X (qiX (R:=R)):=ZgQ X
def qiZ:Key:=⟨[50],50,none,[0,0,1,1,1,1,1,0,0,1,1,0,0,1,0,1,1],2,39⟩
def qj0:StT S:=⟨(N (N (N L vO v1A) none (N (N (N L vO L) (some (.ptr 3 0)) L) none L)) (some (.ptr 1 0)) (N (N (N (N L vL L) none L) none (N L (some (.ptr 18 0)) (N (N L vO L) none L))) vO (N (N (N L vO L) none L) none (N L vO L)))),o1e,39⟩
def qj1:Way S:=⟨(.exit 2),⟨vT,o1e,40⟩,[.int,.int,(.lst (.st 2)),.int,.int,(.arr (.int .i64)),(.st 20),(.lst (.st 21)),.en,(.mp (.st 23) (.int .i64)),(.arr (.st 5)),(.st 2)]⟩
def qj2:LE S:=⟨qiZ,qj0,[.int,.int,.int,(.lst (.st 2)),.int,.int,.int,.int,(.arr (.int .i64)),(.st 20),(.lst (.st 21)),.en,(.mp (.st 23) (.int .i64)),(.arr (.st 5)),(.st 2)],[qj1]⟩
def qj3 (x:td):(Nat→Int)→tf:=fun y0=>(x.1,x.2.2.1,x.2.2.2.1,x.2.2.2.2.2.1,x.2.2.2.2.2.2.1,y0,x.2.2.2.2.2.2.2.2.2.1,x.2.2.2.2.2.2.2.2.2.2.1,x.2.2.2.2.2.2.2.2.2.2.2.1,x.2.2.2.2.2.2.2.2.2.2.2.2.1,x.2.2.2.2.2.2.2.2.2.2.2.2.2.1,x.2.2.2.2.2.2.2.2.2.2.2.2.2.2)
def qj4 {R:Type} (x:td) (k:tf→Option R):Option R:=(X1J x.1 x.2.1 x.2.2.1 x.2.2.2.1 x.2.2.2.2.2.1 x.2.2.2.2.2.2.1 x.2.2.2.2.2.2.2.1 x.2.2.2.2.2.2.2.2.2.1 x.2.2.2.2.2.2.2.2.2.2.1 x.2.2.2.2.2.2.2.2.2.2.2.1 x.2.2.2.2.2.2.2.2.2.2.2.2.1 x.2.2.2.2.2.2.2.2.2.2.2.2.2.1 x.2.2.2.2.2.2.2.2.2.2.2.2.2.2 (x.2.2.2.2.1,x.2.2.2.2.2.2.2.2.1)).bind (fun y0=>k (x.1,x.2.2.1,x.2.2.2.1,x.2.2.2.2.2.1,x.2.2.2.2.2.2.1,y0,x.2.2.2.2.2.2.2.2.2.1,x.2.2.2.2.2.2.2.2.2.2.1,x.2.2.2.2.2.2.2.2.2.2.2.1,x.2.2.2.2.2.2.2.2.2.2.2.2.1,x.2.2.2.2.2.2.2.2.2.2.2.2.2.1,x.2.2.2.2.2.2.2.2.2.2.2.2.2.2))
def qj5 (x:td) (v:(Int×(Nat→Int))):td:=(x.1,x.2.1,x.2.2.1,x.2.2.2.1,v.1,x.2.2.2.2.2.1,x.2.2.2.2.2.2.1,x.2.2.2.2.2.2.2.1,v.2,x.2.2.2.2.2.2.2.2.2.1,x.2.2.2.2.2.2.2.2.2.2.1,x.2.2.2.2.2.2.2.2.2.2.2.1,x.2.2.2.2.2.2.2.2.2.2.2.2.1,x.2.2.2.2.2.2.2.2.2.2.2.2.2.1,x.2.2.2.2.2.2.2.2.2.2.2.2.2.2)
theorem qj6 (x:td):LE.step X qj2 qiV qix qiX 12 x=Xo x.1 x.2.1 x.2.2.1 x.2.2.2.1 x.2.2.2.2.2.1 x.2.2.2.2.2.2.1 x.2.2.2.2.2.2.2.1 x.2.2.2.2.2.2.2.2.2.1 x.2.2.2.2.2.2.2.2.2.2.1 x.2.2.2.2.2.2.2.2.2.2.2.1 x.2.2.2.2.2.2.2.2.2.2.2.2.1 x.2.2.2.2.2.2.2.2.2.2.2.2.2.1 x.2.2.2.2.2.2.2.2.2.2.2.2.2.2 x.2.2.2.2.1 x.2.2.2.2.2.2.2.2.1 (fun w0 w1=>(Sum.inl (x.1,x.2.1,x.2.2.1,x.2.2.2.1,w0,x.2.2.2.2.2.1,x.2.2.2.2.2.2.1,x.2.2.2.2.2.2.2.1,w1,x.2.2.2.2.2.2.2.2.2.1,x.2.2.2.2.2.2.2.2.2.2.1,x.2.2.2.2.2.2.2.2.2.2.2.1,x.2.2.2.2.2.2.2.2.2.2.2.2.1,x.2.2.2.2.2.2.2.2.2.2.2.2.2.1,x.2.2.2.2.2.2.2.2.2.2.2.2.2.2))) (fun p0=>(Sum.inr (x.1,x.2.2.1,x.2.2.2.1,x.2.2.2.2.2.1,x.2.2.2.2.2.2.1,p0,x.2.2.2.2.2.2.2.2.2.1,x.2.2.2.2.2.2.2.2.2.2.1,x.2.2.2.2.2.2.2.2.2.2.2.1,x.2.2.2.2.2.2.2.2.2.2.2.2.1,x.2.2.2.2.2.2.2.2.2.2.2.2.2.1,x.2.2.2.2.2.2.2.2.2.2.2.2.2.2))):=by kernel_rfl
theorem qj8 {R:Type} (x:td) (k:tf→Option R) (r:R) (h:qj4 x k=some r):∃ o,Z5s (LE.step X qj2 qiV qix qiX 12) x o∧k o=some r:=by
 obtain ⟨o,h1,h2⟩:=Z0 h
 exact ⟨qj3 x o,Zhl (st:=fun (x:td)=>Xh x.1 x.2.1 x.2.2.1 x.2.2.2.1 x.2.2.2.2.2.1 x.2.2.2.2.2.2.1 x.2.2.2.2.2.2.2.1 x.2.2.2.2.2.2.2.2.2.1 x.2.2.2.2.2.2.2.2.2.2.1 x.2.2.2.2.2.2.2.2.2.2.2.1 x.2.2.2.2.2.2.2.2.2.2.2.2.1 x.2.2.2.2.2.2.2.2.2.2.2.2.2.1 x.2.2.2.2.2.2.2.2.2.2.2.2.2.2) (prj:=fun x=>(x.2.2.2.2.1,x.2.2.2.2.2.2.2.2.1)) (emb:=qj5) (embO:=qj3) (fun x=>(qj6 x).trans (by unfold Xh Xo;simp only [Zhd,Zh8,Zhe,Option.map_some,Option.map_none];rfl)) (fun _ _=>rfl) (fun _ _=>rfl) (fun _ _ _=>rfl) (fun _ _ _=>rfl) (fun _=>rfl) (Z1S.1 h1),by
  first
  | exact h2
  | (rcases o with o<;>exact h2)⟩
def qj9 {R:Type}:Z27 S R:=LE.ls X qj2 qj4 qiX
theorem qja {R:Type}:Z3J X (qj9 (R:=R)):=Zhq xok qiW (e:=qj2) qiy qiY qj8 qiY
def qjb:Key:=⟨[50],50,none,[0,0,1,0,1,1],0,7⟩
def qjc:StT S:=⟨vT,(N (N (N L o7 L) o4 L) op L),7⟩
def qjd:Way S:=⟨(.exit 0),⟨(N (N L none v1x) none L),(N (N (N L o7 L) o4 L) op L),8⟩,[(.arr (.int .i64)),(.st 20),(.lst (.st 21)),.en,(.mp (.st 23) (.int .i64))]⟩
def qje:LE S:=⟨qjb,qjc,[.int,.int,(.lst (.st 2)),.int,.int,(.arr (.int .i64)),(.st 20),(.lst (.st 21)),.en,(.mp (.st 23) (.int .i64))],[qjd]⟩
def qjf (x:tn):tH→tH:=fun y0=>(y0.1,y0.2.1,y0.2.2.1,y0.2.2.2.1,y0.2.2.2.2)
def qjg {R:Type} (x:tn) (k:tH→Option R):Option R:=(X1I x.1 x.2.1 x.2.2.1 x.2.2.2.1 (x.2.2.2.2.1,x.2.2.2.2.2.1,x.2.2.2.2.2.2.1,x.2.2.2.2.2.2.2.1,x.2.2.2.2.2.2.2.2.1,x.2.2.2.2.2.2.2.2.2)).bind (fun y0=>k (y0.1,y0.2.1,y0.2.2.1,y0.2.2.2.1,y0.2.2.2.2))
def qjh (x:tn) (v:(Int×(Nat→Int)×ZJ×(List Zn)×(Nat→Nat)×t1m)):tn:=(x.1,x.2.1,x.2.2.1,x.2.2.2.1,v.1,v.2.1,v.2.2.1,v.2.2.2.1,v.2.2.2.2.1,v.2.2.2.2.2)
theorem qji (x:tn):LE.step X qje qiV qix qj9 12 x=Xn x.1 x.2.1 x.2.2.1 x.2.2.2.1 x.2.2.2.2.1 x.2.2.2.2.2.1 x.2.2.2.2.2.2.1 x.2.2.2.2.2.2.2.1 x.2.2.2.2.2.2.2.2.1 x.2.2.2.2.2.2.2.2.2 (fun w0 w1 w2 w3 w4 w5=>(Sum.inl (x.1,x.2.1,x.2.2.1,x.2.2.2.1,w0,w1,w2,w3,w4,w5))) (fun p0 p1 p2 p3 p4=>(Sum.inr (p0,p1,p2,p3,p4))):=by kernel_rfl
theorem qjk {R:Type} (x:tn) (k:tH→Option R) (r:R) (h:qjg x k=some r):∃ o,Z5s (LE.step X qje qiV qix qj9 12) x o∧k o=some r:=by
 obtain ⟨o,h1,h2⟩:=Z0 h
 exact ⟨qjf x o,Zhl (st:=fun (x:tn)=>Xg x.1 x.2.1 x.2.2.1 x.2.2.2.1) (prj:=fun x=>(x.2.2.2.2.1,x.2.2.2.2.2.1,x.2.2.2.2.2.2.1,x.2.2.2.2.2.2.2.1,x.2.2.2.2.2.2.2.2.1,x.2.2.2.2.2.2.2.2.2)) (emb:=qjh) (embO:=qjf) (fun x=>(qji x).trans (by unfold Xg Xn;simp only [Zhd,Zh8,Zhe,Option.map_some,Option.map_none];rfl)) (fun _ _=>rfl) (fun _ _=>rfl) (fun _ _ _=>rfl) (fun _ _ _=>rfl) (fun _=>rfl) (Z1S.1 h1),by
  first
  | exact h2
  | (rcases o with o<;>exact h2)⟩
def qjl {R:Type}:Z27 S R:=LE.ls X qje qjg qj9
theorem qjm {R:Type}:Z3J X (qjl (R:=R)):=Zhq xok qiW (e:=qje) qiy qja qjk qja
theorem qjn (x:(Int×(List Zu)×Int×ZJ×(List Zn)×(Nat→Nat)×t1m)):PE.step X qiU qiV qix qjl 12 x=XY x.1 x.2.1 x.2.2.1 x.2.2.2.1 x.2.2.2.2.1 x.2.2.2.2.2.1 x.2.2.2.2.2.2:=by kernel_rfl
theorem qjo:ZaX X qiU X1B:=Zhr (ZgU xok qiW qiy qjm 12) fun x _ h=>((qjn x).trans (X3V x).symm).trans h
def qjp {R:Type}:Prs S R:=PE.ps X qiU (fun x q=>(X1B x).bind q) qix
theorem qjq {R:Type}:Z7R X (qjp (R:=R)):=Zhi (e:=qiU) qjo qiy
def qjr:List (Nat×F7 S):=[(29,q4C),(57,q37),(82,q53),(110,q5T),(84,qiQ)]
theorem qjs:Z9n X (qjr):=⟨q4D,q38,q54,q5U,qiR,trivial⟩
abbrev qjt {R:Type}:Z27 S R:=Zgi
theorem qju {R:Type}:Z3J X (qjt (R:=R)):=ZgQ X
def qjv:Key:=⟨[18],18,none,[0,0,1,1,0,0,1,1,0,0,1,0,1,1,1,1,1,1],3,43⟩
def qjw:StT S:=⟨(N (N (N v1A none (N L vO L)) none (N (N L (some (.rs 43 0)) L) vO v1A)) none (N (N (N L (some (.ptr 14 0)) L) vO v1A) (some (.ptr 0 0)) (N (N L vN L) vO v1z))),oZ,44⟩
def qjx:Way S:=⟨(.exit 3),⟨(N (N (N v1A none L) none (N (N L (some (.rs 43 0)) L) vO L)) none v12),oZ,45⟩,[.int,.int,.int,.bool,.int,.int,(.lst (.st 2)),(.mp (.st 23) (.int .i64)),(.st 20),(.st 20),(.lst (.st 21)),.en]⟩
def qjy:LE S:=⟨qjv,qjw,[.int,.int,.int,.int,.int,.int,.bool,.int,.int,(.lst (.st 2)),(.mp (.st 23) (.int .i64)),(.st 20),(.st 20),(.lst (.st 21)),.en],[qjx]⟩
def qjz (x:te):(Int×Int×Bool×Int×t1m×ZJ×(List Zn)×(Nat→Nat))→tj:=fun y0=>(x.1,y0.1,y0.2.1,y0.2.2.1,y0.2.2.2.1,x.2.2.2.2.2.2.2.2.1,x.2.2.2.2.2.2.2.2.2.1,y0.2.2.2.2.1,x.2.2.2.2.2.2.2.2.2.2.2.1,y0.2.2.2.2.2.1,y0.2.2.2.2.2.2.1,y0.2.2.2.2.2.2.2)
def qjA {R:Type} (x:te) (k:tj→Option R):Option R:=(X4u x.2.1 x.2.2.2.2.2.1 x.2.2.2.2.2.2.2.2.2.1 (x.2.2.1,x.2.2.2.1,x.2.2.2.2.1,x.2.2.2.2.2.2.1,x.2.2.2.2.2.2.2.1,x.2.2.2.2.2.2.2.2.2.2.1,x.2.2.2.2.2.2.2.2.2.2.2.2.1,x.2.2.2.2.2.2.2.2.2.2.2.2.2.1,x.2.2.2.2.2.2.2.2.2.2.2.2.2.2)).bind (fun y0=>k (x.1,y0.1,y0.2.1,y0.2.2.1,y0.2.2.2.1,x.2.2.2.2.2.2.2.2.1,x.2.2.2.2.2.2.2.2.2.1,y0.2.2.2.2.1,x.2.2.2.2.2.2.2.2.2.2.2.1,y0.2.2.2.2.2.1,y0.2.2.2.2.2.2.1,y0.2.2.2.2.2.2.2))
def qjB (x:te) (v:(Int×Int×Int×Bool×Int×t1m×ZJ×(List Zn)×(Nat→Nat))):te:=(x.1,x.2.1,v.1,v.2.1,v.2.2.1,x.2.2.2.2.2.1,v.2.2.2.1,v.2.2.2.2.1,x.2.2.2.2.2.2.2.2.1,x.2.2.2.2.2.2.2.2.2.1,v.2.2.2.2.2.1,x.2.2.2.2.2.2.2.2.2.2.2.1,v.2.2.2.2.2.2.1,v.2.2.2.2.2.2.2.1,v.2.2.2.2.2.2.2.2)
theorem qjC (x:te):LE.step X qjy qjr qjp qjt 12 x=X2e x.2.1 x.2.2.2.2.2.1 x.2.2.2.2.2.2.2.2.2.1 x.2.2.1 x.2.2.2.1 x.2.2.2.2.1 x.2.2.2.2.2.2.1 x.2.2.2.2.2.2.2.1 x.2.2.2.2.2.2.2.2.2.2.1 x.2.2.2.2.2.2.2.2.2.2.2.2.1 x.2.2.2.2.2.2.2.2.2.2.2.2.2.1 x.2.2.2.2.2.2.2.2.2.2.2.2.2.2 (fun w0 w1 w2 w3 w4 w5 w6 w7 w8=>(Sum.inl (x.1,x.2.1,w0,w1,w2,x.2.2.2.2.2.1,w3,w4,x.2.2.2.2.2.2.2.2.1,x.2.2.2.2.2.2.2.2.2.1,w5,x.2.2.2.2.2.2.2.2.2.2.2.1,w6,w7,w8))) (fun p0 p1 p2 p3 p4 p5 p6 p7=>(Sum.inr (x.1,p0,p1,p2,p3,x.2.2.2.2.2.2.2.2.1,x.2.2.2.2.2.2.2.2.2.1,p4,x.2.2.2.2.2.2.2.2.2.2.2.1,p5,p6,p7))):=by kernel_rfl
theorem qjE {R:Type} (x:te) (k:tj→Option R) (r:R) (h:qjA x k=some r):∃ o,Z5s (LE.step X qjy qjr qjp qjt 12) x o∧k o=some r:=by
 obtain ⟨o,h1,h2⟩:=Z0 h
 exact ⟨qjz x o,Zhl (st:=fun (x:te)=>X2l x.2.1 x.2.2.2.2.2.1 x.2.2.2.2.2.2.2.2.2.1) (prj:=fun x=>(x.2.2.1,x.2.2.2.1,x.2.2.2.2.1,x.2.2.2.2.2.2.1,x.2.2.2.2.2.2.2.1,x.2.2.2.2.2.2.2.2.2.2.1,x.2.2.2.2.2.2.2.2.2.2.2.2.1,x.2.2.2.2.2.2.2.2.2.2.2.2.2.1,x.2.2.2.2.2.2.2.2.2.2.2.2.2.2)) (emb:=qjB) (embO:=qjz) (fun x=>(qjC x).trans (by unfold X2l X2e;simp only [Zhd,Zh8,Zhe,Option.map_some,Option.map_none];rfl)) (fun _ _=>rfl) (fun _ _=>rfl) (fun _ _ _=>rfl) (fun _ _ _=>rfl) (fun _=>rfl) (Z1S.1 h1),by
  first
  | exact h2
  | (rcases o with o<;>exact h2)⟩
def qjF {R:Type}:Z27 S R:=LE.ls X qjy qjA qjt
theorem qjG {R:Type}:Z3J X (qjF (R:=R)):=Zhq xok qjs (e:=qjy) qjq qju qjE qju
def qjH:Key:=⟨[18],18,none,[0,0,1,0,1,1,1,1,1,1],1,35⟩
def qjI:StT S:=⟨(N (N (N v1A none L) none (N (N L (some (.rs 35 0)) L) vO L)) none v12),o10,36⟩
def qjJ:Way S:=⟨(.exit 1),⟨(N (N L none (N L vO L)) none (N (N L vO L) none (N (N L vN L) vO L))),o10,37⟩,[.int,.int,.bool,.int,(.lst (.st 2)),(.mp (.st 23) (.int .i64)),(.st 20),(.st 20),(.lst (.st 21)),.en]⟩
def qjK:LE S:=⟨qjH,qjI,[.int,.int,.int,.bool,.int,.int,(.lst (.st 2)),(.mp (.st 23) (.int .i64)),(.st 20),(.st 20),(.lst (.st 21)),.en],[qjJ]⟩
def qjL (x:tj):(Int×Int×Bool×Int×t1m×ZJ×(List Zn)×(Nat→Nat))→to:=fun y0=>(y0.1,y0.2.1,y0.2.2.1,y0.2.2.2.1,x.2.2.2.2.2.2.1,y0.2.2.2.2.1,x.2.2.2.2.2.2.2.2.1,y0.2.2.2.2.2.1,y0.2.2.2.2.2.2.1,y0.2.2.2.2.2.2.2)
def qjM {R:Type} (x:tj) (k:to→Option R):Option R:=(X4t x.2.2.2.2.2.1 x.2.2.2.2.2.2.1 x.2.2.2.2.2.2.2.2.1 (x.1,x.2.1,x.2.2.1,x.2.2.2.1,x.2.2.2.2.1,x.2.2.2.2.2.2.2.1,x.2.2.2.2.2.2.2.2.2.1,x.2.2.2.2.2.2.2.2.2.2.1,x.2.2.2.2.2.2.2.2.2.2.2)).bind (fun y0=>k (y0.1,y0.2.1,y0.2.2.1,y0.2.2.2.1,x.2.2.2.2.2.2.1,y0.2.2.2.2.1,x.2.2.2.2.2.2.2.2.1,y0.2.2.2.2.2.1,y0.2.2.2.2.2.2.1,y0.2.2.2.2.2.2.2))
def qjN (x:tj) (v:(Int×Int×Int×Bool×Int×t1m×ZJ×(List Zn)×(Nat→Nat))):tj:=(v.1,v.2.1,v.2.2.1,v.2.2.2.1,v.2.2.2.2.1,x.2.2.2.2.2.1,x.2.2.2.2.2.2.1,v.2.2.2.2.2.1,x.2.2.2.2.2.2.2.2.1,v.2.2.2.2.2.2.1,v.2.2.2.2.2.2.2.1,v.2.2.2.2.2.2.2.2)
theorem qjO (x:tj):LE.step X qjK qjr qjp qjF 12 x=X2d x.2.2.2.2.2.1 x.2.2.2.2.2.2.1 x.2.2.2.2.2.2.2.2.1 x.1 x.2.1 x.2.2.1 x.2.2.2.1 x.2.2.2.2.1 x.2.2.2.2.2.2.2.1 x.2.2.2.2.2.2.2.2.2.1 x.2.2.2.2.2.2.2.2.2.2.1 x.2.2.2.2.2.2.2.2.2.2.2 (fun w0 w1 w2 w3 w4 w5 w6 w7 w8=>(Sum.inl (w0,w1,w2,w3,w4,x.2.2.2.2.2.1,x.2.2.2.2.2.2.1,w5,x.2.2.2.2.2.2.2.2.1,w6,w7,w8))) (fun p0 p1 p2 p3 p4 p5 p6 p7=>(Sum.inr (p0,p1,p2,p3,x.2.2.2.2.2.2.1,p4,x.2.2.2.2.2.2.2.2.1,p5,p6,p7))):=by kernel_rfl
theorem qjQ {R:Type} (x:tj) (k:to→Option R) (r:R) (h:qjM x k=some r):∃ o,Z5s (LE.step X qjK qjr qjp qjF 12) x o∧k o=some r:=by
 obtain ⟨o,h1,h2⟩:=Z0 h
 exact ⟨qjL x o,Zhl (st:=fun (x:tj)=>X2k x.2.2.2.2.2.1 x.2.2.2.2.2.2.1 x.2.2.2.2.2.2.2.2.1) (prj:=fun x=>(x.1,x.2.1,x.2.2.1,x.2.2.2.1,x.2.2.2.2.1,x.2.2.2.2.2.2.2.1,x.2.2.2.2.2.2.2.2.2.1,x.2.2.2.2.2.2.2.2.2.2.1,x.2.2.2.2.2.2.2.2.2.2.2)) (emb:=qjN) (embO:=qjL) (fun x=>(qjO x).trans (by unfold X2k X2d;simp only [Zhd,Zh8,Zhe,Option.map_some,Option.map_none];rfl)) (fun _ _=>rfl) (fun _ _=>rfl) (fun _ _ _=>rfl) (fun _ _ _=>rfl) (fun _=>rfl) (Z1S.1 h1),by
  first
  | exact h2
  | (rcases o with o<;>exact h2)⟩
def qjR {R:Type}:Z27 S R:=LE.ls X qjK qjM qjF
theorem qjS {R:Type}:Z3J X (qjR (R:=R)):=Zhq xok qjs (e:=qjK) qjq qjG qjQ qjG
theorem qjT (x0:ZJ) (x1:List Zn):Zhs X qjr [(.st 20),(.sl (.st 21))] [(.int .i64),(.int .i64),(.int .i64),(.int .i64)] qjp qjR 12 18 (x0,x1,())=X3T x0 x1:=by kernel_rfl
def qjU:F7 S:=⟨[(.st 20),(.sl (.st 21))],[(.int .i64),(.int .i64),(.int .i64),(.int .i64)],fun xs=>X7c xs.1 xs.2.1⟩
theorem qjV:Z7Q X 18 qjU:=Zho (Zhn xok qjs qjq qjS 12 18) fun xs _ h=>((qjT xs.1 xs.2.1).trans (X7k xs.1 xs.2.1).symm).trans h
def qjW:F7 S:=⟨[],[.bool],fun _=>X6X⟩
theorem qjX:Z7Q X 14 qjW:=ZeO (X:=X) (F:=X6X) rfl Zdy
def qjY:List (Nat×F7 S):=[]
theorem qjZ:Z9n X (qjY):=trivial
abbrev qk0 {R:Type}:Z27 S R:=Zgi
theorem qk1 {R:Type}:Z3J X (qk0 (R:=R)):=ZgQ X
theorem qk2 (x0:List Zn) (x1:Zn):Zhs X qjY [(.sl (.st 21)),(.st 21)] [(.sl (.st 21))] qjp qk0 12 85 (x0,x1,())=X2E x0 x1:=by kernel_rfl
def qk3:F7 S:=⟨[(.sl (.st 21)),(.st 21)],[(.sl (.st 21))],fun xs=>X5r xs.1 xs.2.1⟩
theorem qk4:Z7Q X 85 qk3:=Zho (Zhn xok qjZ qjq qk1 12 85) fun xs _ h=>((qk2 xs.1 xs.2.1).trans (X6k xs.1 xs.2.1).symm).trans h
def qk5:List (Nat×F7 S):=[(85,qk3),(77,qge)]
theorem qk6:Z9n X (qk5):=⟨qk4,qgf,trivial⟩
abbrev qk7 {R:Type}:Z27 S R:=Zgi
theorem qk8 {R:Type}:Z3J X (qk7 (R:=R)):=ZgQ X
def qk9:Key:=⟨[52],52,none,[0,0,1,0,1,0,0,1,0,0,1,0,1,1,1],2,15⟩
def qka:StT S:=⟨(N (N (N (N (N L vO L) none L) vO (N L vO L)) vK (N L (some (.ptr 0 0)) (N L vO L))) none v1i),(N (N (N (N (N L oF L) none L) none L) none L) od L),16⟩
def qkb:Way S:=⟨(.exit 2),⟨(N v1m none v1i),(N (N (N (N (N L oF L) none L) none L) none L) od L),20⟩,[.int,.int,(.lst (.st 21)),.int,.int,(.lst (.st 2)),.int,(.lst .bool),(.st 20)]⟩
def qkc:LE S:=⟨qk9,qka,[.int,.int,.int,(.lst (.st 21)),.int,.int,(.lst (.st 2)),.int,(.lst .bool),(.st 20)],[qkb]⟩
def qkd (x:ty):Int→tE:=fun y0=>(x.2.1,x.2.2.1,x.2.2.2.1,x.2.2.2.2.1,x.2.2.2.2.2.1,x.2.2.2.2.2.2.1,y0,x.2.2.2.2.2.2.2.2.1,x.2.2.2.2.2.2.2.2.2)
def qke {R:Type} (x:ty) (k:tE→Option R):Option R:=(X2X x.2.1 x.2.2.2.1 x.2.2.2.2.1 x.2.2.2.2.2.1 x.2.2.2.2.2.2.1 x.2.2.2.2.2.2.2.2.1 x.2.2.2.2.2.2.2.2.2 (x.1,x.2.2.2.2.2.2.2.1)).bind (fun y0=>k (x.2.1,x.2.2.1,x.2.2.2.1,x.2.2.2.2.1,x.2.2.2.2.2.1,x.2.2.2.2.2.2.1,y0,x.2.2.2.2.2.2.2.2.1,x.2.2.2.2.2.2.2.2.2))
def qkf (x:ty) (v:(Int×Int)):ty:=(v.1,x.2.1,x.2.2.1,x.2.2.2.1,x.2.2.2.2.1,x.2.2.2.2.2.1,x.2.2.2.2.2.2.1,v.2,x.2.2.2.2.2.2.2.2.1,x.2.2.2.2.2.2.2.2.2)
theorem qkg (x:ty):LE.step X qkc qk5 qjp qk7 12 x=Wr x.2.1 x.2.2.2.1 x.2.2.2.2.1 x.2.2.2.2.2.1 x.2.2.2.2.2.2.1 x.2.2.2.2.2.2.2.2.1 x.2.2.2.2.2.2.2.2.2 x.1 x.2.2.2.2.2.2.2.1 (fun w0 w1=>(Sum.inl (w0,x.2.1,x.2.2.1,x.2.2.2.1,x.2.2.2.2.1,x.2.2.2.2.2.1,x.2.2.2.2.2.2.1,w1,x.2.2.2.2.2.2.2.2.1,x.2.2.2.2.2.2.2.2.2))) (fun p0=>(Sum.inr (x.2.1,x.2.2.1,x.2.2.2.1,x.2.2.2.2.1,x.2.2.2.2.2.1,x.2.2.2.2.2.2.1,p0,x.2.2.2.2.2.2.2.2.1,x.2.2.2.2.2.2.2.2.2))):=by kernel_rfl
theorem qki {R:Type} (x:ty) (k:tE→Option R) (r:R) (h:qke x k=some r):∃ o,Z5s (LE.step X qkc qk5 qjp qk7 12) x o∧k o=some r:=by
 obtain ⟨o,h1,h2⟩:=Z0 h
 exact ⟨qkd x o,Zhl (st:=fun (x:ty)=>We x.2.1 x.2.2.2.1 x.2.2.2.2.1 x.2.2.2.2.2.1 x.2.2.2.2.2.2.1 x.2.2.2.2.2.2.2.2.1 x.2.2.2.2.2.2.2.2.2) (prj:=fun x=>(x.1,x.2.2.2.2.2.2.2.1)) (emb:=qkf) (embO:=qkd) (fun x=>(qkg x).trans (by unfold We Wr;simp only [Zhd,Zh8,Zhe,Option.map_some,Option.map_none];rfl)) (fun _ _=>rfl) (fun _ _=>rfl) (fun _ _ _=>rfl) (fun _ _ _=>rfl) (fun _=>rfl) (Z1S.1 h1),by
  first
  | exact h2
  | (rcases o with o<;>exact h2)⟩
def qkj {R:Type}:Z27 S R:=LE.ls X qkc qke qk7
theorem qkk {R:Type}:Z3J X (qkj (R:=R)):=Zhq xok qk6 (e:=qkc) qjq qk8 qki qk8
def qkl:Key:=⟨[52],52,none,[0,0,1,0,1,1,1],0,10⟩
def qkm:StT S:=⟨(N v1m none (N (N L vO (N L (some (.rs 10 0)) L)) vL L)),(N L od (N L none (N (N L oF L) none L))),11⟩
def qkn:Way S:=⟨(.exit 0),⟨(N v1D none L),(N L od (N L none (N (N L oF L) none L))),13⟩,[.int,(.st 20),(.lst .bool)]⟩
def qko:LE S:=⟨qkl,qkm,[.int,.int,(.lst (.st 21)),.int,.int,(.lst (.st 2)),(.st 20),(.lst .bool)],[qkn]⟩
def qkp (x:tI):Int→(Int×ZJ×(List Bool)):=fun y0=>(y0,x.2.2.2.2.2.2.1,x.2.2.2.2.2.2.2)
def qkq {R:Type} (x:tI) (k:(Int×ZJ×(List Bool))→Option R):Option R:=(X2W x.1 x.2.2.1 x.2.2.2.2.1 x.2.2.2.2.2.1 x.2.2.2.2.2.2.1 x.2.2.2.2.2.2.2 (x.2.1,x.2.2.2.1)).bind (fun y0=>k (y0,x.2.2.2.2.2.2.1,x.2.2.2.2.2.2.2))
def qkr (x:tI) (v:(Int×Int)):tI:=(x.1,v.1,x.2.2.1,v.2,x.2.2.2.2.1,x.2.2.2.2.2.1,x.2.2.2.2.2.2.1,x.2.2.2.2.2.2.2)
theorem qks (x:tI):LE.step X qko qk5 qjp qkj 12 x=Wq x.1 x.2.2.1 x.2.2.2.2.1 x.2.2.2.2.2.1 x.2.2.2.2.2.2.1 x.2.2.2.2.2.2.2 x.2.1 x.2.2.2.1 (fun w0 w1=>(Sum.inl (x.1,w0,x.2.2.1,w1,x.2.2.2.2.1,x.2.2.2.2.2.1,x.2.2.2.2.2.2.1,x.2.2.2.2.2.2.2))) (fun p0=>(Sum.inr (p0,x.2.2.2.2.2.2.1,x.2.2.2.2.2.2.2))):=by kernel_rfl
theorem qku {R:Type} (x:tI) (k:(Int×ZJ×(List Bool))→Option R) (r:R) (h:qkq x k=some r):∃ o,Z5s (LE.step X qko qk5 qjp qkj 12) x o∧k o=some r:=by
 obtain ⟨o,h1,h2⟩:=Z0 h
 exact ⟨qkp x o,Zhl (st:=fun (x:tI)=>Wd x.1 x.2.2.1 x.2.2.2.2.1 x.2.2.2.2.2.1 x.2.2.2.2.2.2.1 x.2.2.2.2.2.2.2) (prj:=fun x=>(x.2.1,x.2.2.2.1)) (emb:=qkr) (embO:=qkp) (fun x=>(qks x).trans (by unfold Wd Wq;simp only [Zhd,Zh8,Zhe,Option.map_some,Option.map_none];rfl)) (fun _ _=>rfl) (fun _ _=>rfl) (fun _ _ _=>rfl) (fun _ _ _=>rfl) (fun _=>rfl) (Z1S.1 h1),by
  first
  | exact h2
  | (rcases o with o<;>exact h2)⟩
def qkv {R:Type}:Z27 S R:=LE.ls X qko qkq qkj
theorem qkw {R:Type}:Z3J X (qkv (R:=R)):=Zhq xok qk6 (e:=qko) qjq qkk qku qkk
theorem qkx (x0:ZJ) (x1:List Zn) (x2:List Zu) (x3:Int) (x4:Int):Zhs X qk5 [(.st 20),(.sl (.st 21)),(.sl (.st 2)),(.int .i64),(.int .i64)] [(.int .i64)] qjp qkv 12 52 (x0,x1,x2,x3,x4,())=X23 x0 x1 x2 x3 x4:=by kernel_rfl
def qky:F7 S:=⟨[(.st 20),(.sl (.st 21)),(.sl (.st 2)),(.int .i64),(.int .i64)],[(.int .i64)],fun xs=>X4m xs.1 xs.2.1 xs.2.2.1 xs.2.2.2.1 xs.2.2.2.2.1⟩
theorem qkz:Z7Q X 52 qky:=Zho (Zhn xok qk6 qjq qkw 12 52) fun xs _ h=>((qkx xs.1 xs.2.1 xs.2.2.1 xs.2.2.2.1 xs.2.2.2.2.1).trans (X5M xs.1 xs.2.1 xs.2.2.1 xs.2.2.2.1 xs.2.2.2.2.1).symm).trans h
def qkA:List (Nat×F7 S):=[(32,qeg),(37,qgR),(51,qdP),(52,qky)]
theorem qkB:Z9n X (qkA):=⟨qeh,qgS,qdQ,qkz,trivial⟩
abbrev qkC {R:Type}:Z27 S R:=Zgi
theorem qkD {R:Type}:Z3J X (qkC (R:=R)):=ZgQ X
def qkE:Key:=⟨[19],19,none,[0,0,1,0,0,1,0,0,1,0,1,1,1,1,1,1,1],2,40⟩
def qkF:StT S:=⟨(N (N (N L none (N L (some (.rs 40 0)) L)) vK (N L none (N L vO L))) none v1g),o1j,41⟩
def qkG:Way S:=⟨(.exit 2),⟨(N (N (N L none (N L (some (.rs 40 0)) L)) vK L) none v1g),o1j,46⟩,[(.lst (.st 21)),.int,(.lst (.st 2)),(.st 20),(.lst (.int .i64))]⟩
def qkH:LE S:=⟨qkE,qkF,[(.lst (.st 21)),.int,.int,(.lst (.st 2)),(.st 20),(.lst (.int .i64))],[qkG]⟩
def qkI (x:tS):(List Int)→tW:=fun y0=>(x.1,x.2.2.1,x.2.2.2.1,x.2.2.2.2.1,y0)
def qkJ {R:Type} (x:tS) (k:tW→Option R):Option R:=(X3R x.1 x.2.2.1 x.2.2.2.1 x.2.2.2.2.1 (x.2.1,x.2.2.2.2.2)).bind (fun y0=>k (x.1,x.2.2.1,x.2.2.2.1,x.2.2.2.2.1,y0))
def qkK (x:tS) (v:(Int×(List Int))):tS:=(x.1,v.1,x.2.2.1,x.2.2.2.1,x.2.2.2.2.1,v.2)
theorem qkL (x:tS):LE.step X qkH qkA qjp qkC 12 x=X1G x.1 x.2.2.1 x.2.2.2.1 x.2.2.2.2.1 x.2.1 x.2.2.2.2.2 (fun w0 w1=>(Sum.inl (x.1,w0,x.2.2.1,x.2.2.2.1,x.2.2.2.2.1,w1))) (fun p0=>(Sum.inr (x.1,x.2.2.1,x.2.2.2.1,x.2.2.2.2.1,p0))):=by kernel_rfl
theorem qkN {R:Type} (x:tS) (k:tW→Option R) (r:R) (h:qkJ x k=some r):∃ o,Z5s (LE.step X qkH qkA qjp qkC 12) x o∧k o=some r:=by
 obtain ⟨o,h1,h2⟩:=Z0 h
 exact ⟨qkI x o,Zhl (st:=fun (x:tS)=>X1w x.1 x.2.2.1 x.2.2.2.1 x.2.2.2.2.1) (prj:=fun x=>(x.2.1,x.2.2.2.2.2)) (emb:=qkK) (embO:=qkI) (fun x=>(qkL x).trans (by unfold X1w X1G;simp only [Zhd,Zh8,Zhe,Option.map_some,Option.map_none];rfl)) (fun _ _=>rfl) (fun _ _=>rfl) (fun _ _ _=>rfl) (fun _ _ _=>rfl) (fun _=>rfl) (Z1S.1 h1),by
  first
  | exact h2
  | (rcases o with o<;>exact h2)⟩
def qkO {R:Type}:Z27 S R:=LE.ls X qkH qkJ qkC
theorem qkP {R:Type}:Z3J X (qkO (R:=R)):=Zhq xok qkB (e:=qkH) qjq qkD qkN qkD
def qkQ:Key:=⟨[19],19,none,[0,0,1,0,1,1,1,1,1,1,1],0,32⟩
def qkR:StT S:=⟨(N (N (N L none (N L (some (.rs 32 0)) L)) vK L) none v1g),o1k,33⟩
def qkS:Way S:=⟨(.exit 0),⟨(N (N (N L none (N L (some (.rs 32 0)) L)) none L) none L),o1k,39⟩,[(.st 20),(.lst (.int .i64))]⟩
def qkT:LE S:=⟨qkQ,qkR,[(.lst (.st 21)),.int,(.lst (.st 2)),(.st 20),(.lst (.int .i64))],[qkS]⟩
def qkU (x:tW):(List Int)→(ZJ×(List Int)):=fun y0=>(x.2.2.2.1,y0)
def qkV {R:Type} (x:tW) (k:(ZJ×(List Int))→Option R):Option R:=(X2O x.1 x.2.2.1 x.2.2.2.1 (x.2.1,x.2.2.2.2)).bind (fun y0=>k (x.2.2.2.1,y0))
def qkW (x:tW) (v:(Int×(List Int))):tW:=(x.1,v.1,x.2.2.1,x.2.2.2.1,v.2)
theorem qkX (x:tW):LE.step X qkT qkA qjp qkO 12 x=X1F x.1 x.2.2.1 x.2.2.2.1 x.2.1 x.2.2.2.2 (fun w0 w1=>(Sum.inl (x.1,w0,x.2.2.1,x.2.2.2.1,w1))) (fun p0=>(Sum.inr (x.2.2.2.1,p0))):=by kernel_rfl
theorem qkZ {R:Type} (x:tW) (k:(ZJ×(List Int))→Option R) (r:R) (h:qkV x k=some r):∃ o,Z5s (LE.step X qkT qkA qjp qkO 12) x o∧k o=some r:=by
 obtain ⟨o,h1,h2⟩:=Z0 h
 exact ⟨qkU x o,Zhl (st:=fun (x:tW)=>X1v x.1 x.2.2.1 x.2.2.2.1) (prj:=fun x=>(x.2.1,x.2.2.2.2)) (emb:=qkW) (embO:=qkU) (fun x=>(qkX x).trans (by unfold X1v X1F;simp only [Zhd,Zh8,Zhe,Option.map_some,Option.map_none];rfl)) (fun _ _=>rfl) (fun _ _=>rfl) (fun _ _ _=>rfl) (fun _ _ _=>rfl) (fun _=>rfl) (Z1S.1 h1),by
  first
  | exact h2
  | (rcases o with o<;>exact h2)⟩
def ql0 {R:Type}:Z27 S R:=LE.ls X qkT qkV qkO
theorem ql1 {R:Type}:Z3J X (ql0 (R:=R)):=Zhq xok qkB (e:=qkT) qjq qkP qkZ qkP
theorem ql2 (x0:ZJ) (x1:List Zn):Zhs X qkA [(.st 20),(.sl (.st 21))] [(.int .i64),(.int .i64),(.int .i64),(.int .i64)] qjp ql0 12 19 (x0,x1,())=X33 x0 x1:=by kernel_rfl
def ql3:F7 S:=⟨[(.st 20),(.sl (.st 21))],[(.int .i64),(.int .i64),(.int .i64),(.int .i64)],fun xs=>X6c xs.1 xs.2.1⟩
theorem ql4:Z7Q X 19 ql3:=Zho (Zhn xok qkB qjq ql1 12 19) fun xs _ h=>((ql2 xs.1 xs.2.1).trans (X6H xs.1 xs.2.1).symm).trans h
def ql5:List (Nat×F7 S):=[(18,qjU),(19,ql3),(14,qjW)]
theorem ql6:Z9n X (ql5):=⟨qjV,ql4,qjX,trivial⟩
abbrev ql7 {R:Type}:Z27 S R:=Zgi
theorem ql8 {R:Type}:Z3J X (ql7 (R:=R)):=ZgQ X
theorem ql9 (x0:ZJ) (x1:List Zn):Zhs X ql5 [(.st 20),(.sl (.st 21))] [.bool] qjp ql7 12 5 (x0,x1,())=X1X x0 x1:=by kernel_rfl
def qla:F7 S:=⟨[(.st 20),(.sl (.st 21))],[.bool],fun xs=>X4j xs.1 xs.2.1⟩
theorem X6B:Z7Q X 5 qla:=Zho (Zhn xok ql6 qjq ql8 12 5) fun xs _ h=>((ql9 xs.1 xs.2.1).trans (X5C xs.1 xs.2.1).symm).trans h
end
end Nore
