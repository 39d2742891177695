/- The code comes to the plain functions. -/
import Derived.Test.YtehofdemanfenaaY
import Derived.Test.YtehofdemanfenaaD
import Derived.Test.YtehofdemanfenaaK6
set_option linter.unusedSectionVars false
set_option linter.unusedVariables false
set_option linter.unusedSimpArgs false
set_option maxRecDepth 100000
open Go Go.Ab Go.Proofs Go.Proofs.Ytehofdemanfenaa
open Go.Ab.Tr renaming node→N,leaf→L
namespace Nore
abbrev t1c:Type:=List (Zh×Int)
abbrev t1b:Type:=Int×(List Int)×Int
abbrev t1a:Type:=List (ByteArray×Int)
abbrev t19:Type:=Int×Int×Int×Zw
abbrev t18:Type:=Int×(List Zt)×Int
abbrev t17:Type:=Int×(List Zu)×Zu
abbrev t16:Type:=(Int×Int×Zt)⊕Unit
abbrev t15:Type:=(List Zm)×Int×ZJ
abbrev t14:Type:=Int×(List Zu)×Int×Int
abbrev t13:Type:=Int×(List ByteArray)×ZJ
abbrev t12:Type:=Int×Int×(List Zu)×Int
abbrev t11:Type:=(Int×Int×Int)⊕(Int×Int)
abbrev t10:Type:=Int×(List ByteArray)×Zl
abbrev tZ:Type:=Int×Zl×(List ByteArray)
abbrev tY:Type:=Int×(List Zt)×Int×Zu
abbrev tX:Type:=(Nat→Zu)×Int×Int×Zu
abbrev tW:Type:=Int×ByteArray×ByteArray×Nat
abbrev tV:Type:=Int×(List Int)×Int×Int×Int
abbrev tU:Type:=ByteArray×Int×(List ByteArray)
abbrev tT:Type:=Int×Int×(List ZE)×Int×Int
abbrev tS:Type:=Int×(List Z5)×Int×ZJ
abbrev tR:Type:=Int×Int×Int×(List Zk)×(List Int)
abbrev tQ:Type:=Int×(List Z5)×Int×Z5
abbrev tP:Type:=(Int×Z5×Z5)⊕Z5
abbrev tO:Type:=Int×Int×Int×t1a×CtSand
abbrev tN:Type:=(Int×(List Int)×Zu×(List Int)×Zt)⊕Zu
abbrev tM:Type:=(Int×Int×Z5×Z5×ZJ)⊕ZJ
abbrev tL:Type:=ZJ×(List Zm)×(Nat→Nat)×t1c
abbrev tK:Type:=Int×(List CtSand)×Int×Zl×t1a
abbrev tJ:Type:=Int×Int×(List Zw)×Zl×t1a
abbrev tI:Type:=(Bool×ByteArray×Nat)⊕tW
abbrev tH:Type:=Int×Int×Int×(List ByteArray)×Zw×(List ByteArray)
abbrev tG:Type:=Int×ZJ×(List Zm)×(Nat→Nat)×t1c
abbrev tF:Type:=(Int×Int×Int×(List ByteArray)×ZJ)⊕((List ByteArray)×ZJ)
abbrev tE:Type:=(Nat→Int)×ZJ×(List Zm)×(Nat→Nat)×t1c
abbrev tD:Type:=(List Zu)×ZJ×(List Zm)×(Nat→Nat)×t1c
abbrev tC:Type:=(Int×Bool×ZJ×(List Zm)×(Nat→Nat)×Int×t1c)
abbrev tB:Type:=Int×(List Zu)×ZJ×(List Zm)×(Nat→Nat)×t1c
abbrev tA:Type:=Int×ZJ×(List Zm)×(Nat→Nat)×t1c×(List Zu)
abbrev tz:Type:=(List Zm)×(List Zm)×(List Zu)×Int×(List Zu)×Zm×ZJ
abbrev ty:Type:=Int×Int×Int×ZJ×(List Zm)×(Nat→Nat)×Int×t1c
abbrev tx:Type:=(List Zm)×ZJ×ZJ×(List Zm)×(Nat→Nat)×t1c
abbrev tw:Type:=ty
abbrev tv:Type:=Int×Z8×Bool×Int×Bool×Z8×Bool×Int×Z8×Z6
abbrev tu:Type:=Int×Int×ZJ×(List Zm)×(Nat→Nat)×t1c×(List Zu)
abbrev tt:Type:=Int×(List Zm)×Int×ZJ×(List Zm)×(Nat→Nat)×t1c
abbrev ts:Type:=(Bool×Zm×ZJ)⊕((List Zm)×(List Zm)×(List Zu)×Zm×ZJ)
abbrev tr:Type:=Int×Int×ZJ×(List Zm)×(Nat→Nat)×t1c×Bool×Int×Int
abbrev tq:Type:=Int×Int×Int×(List Zm)×ZJ×(List Zm)×(Nat→Nat)×t1c
abbrev tp:Type:=Int×Int×(Nat→ZE)×ZJ×(List Zm)×(Nat→Nat)×t1c×Zu
abbrev to:Type:=Int×Int×Int×ZJ×(List Zm)×(Nat→Nat)×t1c×Bool×Int×Int
abbrev tn:Type:=t1c×ZB×Zu×ZJ×ZJ×(List Zm)×(Nat→Nat)×(List Zu)
abbrev tm:Type:=Int×Int×t1c×ZB×Zu×ZJ×ZJ×(List Zm)×(Nat→Nat)×(List Zu)
abbrev tl:Type:=Int×Int×(List Zu)×Int×Int×(Nat→Int)×ZJ×(List Zm)×(Nat→Nat)×t1c
abbrev tk:Type:=Int×Int×(List Zu)×Int×Z8×Bool×Int×Bool×Z8×Bool×Int×Z8×Z6
abbrev tj:Type:=Int×Int×(List Zu)×Z8×Bool×Int×Bool×Z8×Bool×Int×Z8×(List Int)×Zu
abbrev ti:Type:=(List Z5)×(List Zm)×Int×Int×ZJ×ZJ×(List Zm)×(Nat→Nat)×t1c
abbrev th:Type:=Int×Int×(List Zm)×Int×Int×(Nat→ZE)×ZJ×(List Zm)×(Nat→Nat)×t1c×Zu
abbrev tg:Type:=Int×Int×Int×Zl×(List Int)×Bool×Int×Bool×Zl×Int×Bool×(List Int)×Int×(List Zk)×Zw
abbrev tf:Type:=Int×Int×Int×Int×(List Z5)×(Nat→ZE)×ZJ×(List Zm)×(Nat→Nat)×t1c×Zu
abbrev te:Type:=Int×Int×(List Zu)×Int×Int×(Nat→Int)×ZJ×(List Zm)×(Nat→Nat)×t1c×(Nat→ZE)×Zu
abbrev td:Type:=Int×Int×Int×(List Zu)×Int×Int×Int×Int×(Nat→Int)×ZJ×(List Zm)×(Nat→Nat)×t1c×(Nat→ZE)×Zu
abbrev tc:Type:=(Int×Bool×ZJ×(List Zm)×(Nat→Nat)×Int×t1c)⊕(ZJ×(List Zm)×(Nat→Nat)×Int×t1c)
abbrev tb:Type:=(Int×Int×ZJ×(List Zm)×(Nat→Nat)×Zm×Zm×t1c)⊕tL
abbrev ta:Type:=(Int×Int×Int×(List ByteArray)×(List ByteArray)×Zl)⊕(Int×Int×Int×(List ByteArray)×(List ByteArray)×Zl)⊕((List ByteArray)×Zl)
abbrev t9:Type:=(Int×(List Int)×(List Int)×Zk)⊕(Int×(List Int)×(List Int)×(List Int)×Zk)⊕(Int×(List Int)×(List Int)×(List Int)×Zk)⊕(List Int)
abbrev t8:Type:=(Int×Int×Int×(List ByteArray)×ZJ×(List ByteArray)×Z5)⊕(Int×Int×Int×(List ByteArray)×ZJ×(List ByteArray)×Z5)⊕((List ByteArray)×ZJ)
abbrev t7:Type:=(Int×ZJ×(List Zm)×(Nat→Nat)×(Nat→ZE)×Zu×t1c×Bool×Int×Int)⊕(Int×ZJ×(List Zm)×(Nat→Nat)×t1c×Bool×Int×Int)
abbrev t6:Type:=(Z8×Bool×Int×Bool×Z8×Bool×Int×Z8×Zu×Z6×(List Int)×Zu)⊕(Z8×Bool×Int×Bool×Z8×Bool×Int×Z8×(List Int)×Zu)
abbrev t5:Type:=(Int×ZJ×(List Zm)×(Nat→Nat)×(Nat→ZE)×Zu×t1c×Bool×Int×Int)⊕tr
abbrev t4:Type:=(Int×Int×Int×Zl×t1a×CtSand)⊕(Int×Int×Int×Zl×t1a×CtSand)⊕(Int×Int×Int×Zl×t1a×CtSand)⊕(Zl×t1a)
abbrev t3:Type:=(Zk×Int×Int×Zl×(List Int)×Bool×Int×Bool×Zl×Int×Bool×(List Int)×Int×(List Zk)×Zw)⊕(Int×Int×Zl×(List Int)×Bool×Int×Bool×Zl×Int×Bool×(List Int)×Int×(List Zk)×Zw)
abbrev t2:Type:=(Int×Int×Int×(List ByteArray)×Zw×Zl×(List ByteArray))⊕(Int×Int×Int×(List ByteArray)×Zw×Zl×(List ByteArray))⊕(Int×Int×Int×(List ByteArray)×Zw×Zl×(List ByteArray))⊕(Zl×(List ByteArray))
abbrev t1:Type:=(Bool×(Nat→ZE)×ZJ×(List Zm)×(Nat→Nat)×ZE×t1c×Zu×Zm)⊕(Bool×(Nat→ZE)×ZJ×(List Zm)×(Nat→Nat)×ZE×t1c×Zu×Zm)⊕((Nat→ZE)×ZJ×(List Zm)×(Nat→Nat)×t1c×Zu)
abbrev t0:Type:=(Int×Int×Int×Zw×Zl×t1a)⊕(Int×Int×Int×Zw×Zl×t1a)⊕(Int×Int×Int×Zw×Zl×t1a×(List Zu))⊕(Int×Int×Int×Zw×Zl×t1a×(List Zu))⊕(Zl×t1a)
abbrev vL:Option (TV S):=some (.bool false)
abbrev vK:Option (TV S):=some (.int .i64 0)
abbrev vJ:Option (TV S):=some (.sl (.st 2) [])
abbrev vI:Option (TV S):=some (.sl (.st 18) [])
abbrev vH:Option (TV S):=some (.sl (.st 21) [])
abbrev oG:Option (Zi S):=some (.row 9 .str [] 1 1)
abbrev oF:Option (Zi S):=some (.row 9 .str [] 0 0)
abbrev oE:Option (Zi S):=some (.row 9 .str [] 1 0)
abbrev vD:Option (TV S):=some (.str ByteArray.empty)
abbrev oC:Option (Zi S):=some (.cells 181 [(.map 4)])
abbrev oB:Option (Zi S):=some (.cells 94 [(.ptr 3 0)])
abbrev oA:Option (Zi S):=some (.cells 94 [(.ptr 1 0)])
abbrev oz:Option (Zi S):=some (.row 43 (.st 2) [] 1 0)
abbrev oy:Option (Zi S):=some (.cells 94 [(.ptr 20 0)])
abbrev ox:Option (Zi S):=some (.cells 4 [(.bool false)])
abbrev ow:Option (Zi S):=some (.map .str (.int .i64) [])
abbrev ov:Option (Zi S):=some (.cells 3 [(.int .i64 0)])
abbrev ou:Option (Zi S):=some (.siter ByteArray.empty 0)
abbrev ot:Option (Zi S):=some (.cells 23 [(.int .i64 0)])
abbrev os:Option (Zi S):=some (.row 3 (.int .i64) [] 1 0)
abbrev vr:Option (TV S):=some (.agg [(.stc 2 (T.dflt 2))])
abbrev vq:Option (TV S):=some (.agg [(.stc 8 (T.dflt 8))])
abbrev vp:Option (TV S):=some (.agg [(.stc 21 (T.dflt 21))])
abbrev oo:Option (Zi S):=some (.map (.st 23) (.int .i64) [])
abbrev on:Option (Zi S):=some (.cells 70 [(.sl (.st 3) [])])
abbrev vm:Option (TV S):=some (.agg [(.stc 15 (T.dflt 15))])
abbrev vl:Option (TV S):=some (.fn (.func 101) [] [(.ptr 5 0)])
abbrev ok:Option (Zi S):=some (.cells 99 [(.stc 3 (T.dflt 3))])
abbrev oj:Option (Zi S):=some (.cells 43 [(.stc 2 (T.dflt 2))])
abbrev oi:Option (Zi S):=some (.cells 72 [(.stc 4 (T.dflt 4))])
abbrev oh:Option (Zi S):=some (.cells 29 [(.stc 8 (T.dflt 8))])
abbrev og:Option (Zi S):=some (.cells 88 [(.stc 7 (T.dflt 7))])
abbrev vf:Option (TV S):=some (.fn (.func 105) [] [(.ptr 36 0)])
abbrev ve:Option (TV S):=some (.fn (.func 113) [] [(.ptr 23 0)])
abbrev od:Option (Zi S):=some (.cells 36 [(.stc 21 (T.dflt 21))])
abbrev oc:Option (Zi S):=some (.cells 84 [(.stc 19 (T.dflt 19))])
abbrev ob:Option (Zi S):=some (.cells 74 [(.stc 18 (T.dflt 18))])
abbrev oa:Option (Zi S):=some (.cells 33 [(.stc 20 (T.dflt 20))])
abbrev o9:Option (Zi S):=some (.cells 194 [(.stc 17 (T.dflt 17))])
abbrev o8:Option (Zi S):=some (.cells 184 [(.stc 15 (T.dflt 15))])
abbrev o7:Option (Zi S):=some (.cells 102 [(.arr (.st 5) 4 (fun _=>tdf T (.st 5)))])
abbrev o6:Option (Zi S):=some (.cells 141 [(.arr (.int .i64) 32 (fun _=>tdf T (.int .i64)))])
abbrev o5:Option (Zi S):=some (.cells 108 [(.fn (.func 47) [] [(.ptr 4 0),(.ptr 1 0),(.ptr 0 0)])])
abbrev o4:Option (Zi S):=some (.cells 119 [(.stc 20 (T.dflt 20)),(.sl (.st 21) []),(.earr [112,135] 3 4 (fun _=>0)),(.map 2)])
abbrev o3:Option (Zi S):=some (.cells 119 [(.stc 20 (T.dflt 20)),(.sl (.st 21) []),(.earr [112,135] 1 4 (fun _=>0)),(.map 0)])
abbrev o2:Option (Zi S):=some (.cells 119 [(.stc 20 (T.dflt 20)),(.sl (.st 21) []),(.earr [112,135] 20 4 (fun _=>0)),(.map 18)])
abbrev o1:Option (Zi S):=some (.loop 40 (N (N (N (N L (some (.fn (.func 80) [] [(.ptr 6 0)])) L) none L) (some (.ptr 2 0)) L) (some (.ptr 1 0)) (N L (some (.ptr 3 0)) L)) (8::[]) .skip .skip 0 .normal (0::(40::[])) (0::(1::(0::(1::[])))))
abbrev o0:Option (Zi S):=some (.loop 48 (N (N (N L (some (.ptr 3 0)) (N (N L (some (.fn (.func 80) [] [(.ptr 18 0)])) L) none L)) vK (N L (some (.ptr 14 0)) L)) (some (.ptr 1 0)) (N (N L (some (.ptr 4 0)) L) (some (.ptr 2 0)) L)) (20::[]) .skip .skip 0 .normal (0::(48::[])) (0::(1::(0::(1::(1::[]))))))
abbrev o1s:Tr (Zi S):=N (N (N L oj L) none L) none L
abbrev o1r:Tr (Zi S):=N (N (N L os L) none L) none L
abbrev o1q:Tr (Zi S):=N (N (N L ou L) none L) none L
abbrev v1p:Tr (TV S):=N (N L none (N L vK L)) none L
abbrev o1o:Tr (Zi S):=N L none (N (N L oE L) none L)
abbrev v1n:Tr (TV S):=N (N (N L vK L) none L) none L
abbrev v1m:Tr (TV S):=N L none (N (N L vK L) none L)
abbrev v1l:Tr (TV S):=N (N L (some (.ptr 3 0)) L) none L
abbrev o1k:Tr (Zi S):=N (N (N L o7 L) o3 L) oo (N L oj L)
abbrev v1j:Tr (TV S):=N (N L (some (.ptr 0 0)) L) none (N L vK L)
abbrev o1i:Tr (Zi S):=N (N (N L o4 L) ov L) o5 (N (N L oB L) oo L)
abbrev o1h:Tr (Zi S):=N (N L none (N L oC L)) oh (N (N L ow L) none L)
abbrev v1g:Tr (TV S):=N (N (N L vK L) none L) none (N (N L vK L) vK L)
abbrev v1f:Tr (TV S):=N (N L none (N L vK L)) none (N (N L vK L) none L)
abbrev v1e:Tr (TV S):=N (N L vH L) (some (.agg [(.stc 20 (T.dflt 20))])) L
abbrev o1d:Tr (Zi S):=N L none (N (N (N (N L ob L) none L) none L) none L)
abbrev v1c:Tr (TV S):=N (N (N L vK L) (some (.ptr 6 0)) L) (some (.yld 11)) L
abbrev v1b:Tr (TV S):=N (N (N L vK L) (some (.ptr 18 0)) L) (some (.yld 22)) L
abbrev o1a:Tr (Zi S):=N (N (N o1o none L) none L) oa L
abbrev v19:Tr (TV S):=N L (some (.tup [(.agg [(.stc 5 (T.dflt 5))]),(.bool false)])) L
abbrev o18:Tr (Zi S):=N (N (N L o6 L) o3 L) oo (N L none (N (N (N L o7 L) oj L) none L))
abbrev o17:Tr (Zi S):=N (N L none (N L oC (N (N L oi L) none L))) oh (N (N L ow L) none L)
abbrev o16:Tr (Zi S):=N (N L none (N L oC L)) oh (N (N L ow L) none (N L none (N L none (N L og L))))
abbrev v15:Tr (TV S):=N (N L none (N (N L vL L) none L)) none (N v1l none L)
abbrev o14:Tr (Zi S):=N L none (N (N (N (N L (some (.cells 48 [(.stc 5 (T.dflt 5))])) L) none L) none L) none L)
abbrev o13:Tr (Zi S):=N (N L oy L) oa (N (N L none (N (N L o2 L) none L)) none (N (N (N L oo L) none L) none L))
abbrev o12:Tr (Zi S):=N (N (N L (some (.cells 22 [(.rs 19 0)])) (N (N L oz L) o1 L)) o3 L) oo (N L oA (N L oA L))
abbrev o11:Tr (Zi S):=N (N L oy L) none (N (N L none (N (N L o2 L) none L)) none (N (N (N L oo L) none L) none L))
abbrev o10:Tr (Zi S):=N (N (N L none (N L none (N (N L oF L) none L))) none (N L none (N (N L oG L) none L))) oh L
abbrev oZ:Tr (Zi S):=N (N (N L ov L) o3 L) oo (N (N L ox L) oA (N (N (N L oA L) none L) none (N (N L o0 L) ov L)))
abbrev vY:Tr (TV S):=N (N (N (N L vK L) none L) (some (.fn (.func 107) [] [(.ptr 0 0)])) L) vI v1n
abbrev oX:Tr (Zi S):=N (N L none (N L oC (N (N L oi L) none L))) oh (N (N L ow L) none (N (N (N L none (N L oz L)) none L) none L))
abbrev oW:Tr (Zi S):=N (N (N L os L) none (N L none (N (N L os L) none L))) none (N (N (N (N L os L) none L) none (N L ok L)) none L)
abbrev oV:Tr (Zi S):=N (N (N L (some (.cells 22 [(.rs 34 0)])) (N L o1 L)) o3 L) oo (N L oA (N (N (N (N L oz L) none L) none L) oA L))
abbrev oU:Tr (Zi S):=N (N (N (N (N (N L oF L) none L) none L) none L) none (N L none (N (N L oi L) none L))) oh (N L none (N (N L oG L) none L))
abbrev vT:Tr (TV S):=N (N (N L none (N L vK L)) (some (.fn (.func 96) [] [])) (N (N L (some (.sl (.st 19) [])) L) none L)) none v1m
abbrev oS:Tr (Zi S):=N (N (N (N L none (N (N L oG L) none L)) none L) none L) oa (N (N L none (N L none (N L none (N L oF L)))) none (N (N (N L none (N L ob L)) none L) none L))
abbrev vR:Tr (TV S):=N (N (N L vK L) none (N (N (N L vK L) (some (.ptr 3 0)) L) none L)) (some (.ptr 1 0)) (N (N (N (N L vJ L) none L) none L) vK v1n)
abbrev oQ:Tr (Zi S):=N (N (N L none (N L oo L)) (some (.cells 55 [(.stc 6 (T.dflt 6))])) (N (N L none (N L oj L)) none L)) oa (N (N L none (N L (some (.cells 119 [(.stc 20 (T.dflt 20)),(.sl (.st 21) []),(.earr [112,135] 12 4 (fun _=>0)),(.map 11)])) L)) none (N (N L none (N (N L oz L) none L)) none L))
abbrev oP:Tr (Zi S):=N (N (N (N L none (N L o8 L)) none (N L none (N L (some (.loop 104 (N (N (N (N (N L vL L) none L) vK L) (some (.ptr 0 0)) (N (N L none (N L vL L)) none L)) vm (N (N (N L vL L) none (N L none (N L ve L))) (some (.ptr 1 0)) L)) (29::[]) .skip .skip 1 .normal (1::(104::[])) (0::(1::(0::(1::(1::(1::[])))))))) L))) ot L) o8 (N L none (N L os o1s))
abbrev oO:Tr (Zi S):=N (N (N (N L none (N L o8 L)) none (N L none (N L (some (.loop 104 (N (N (N (N (N L vL L) none L) vK L) (some (.ptr 0 0)) (N (N L none (N L vL L)) none L)) vm (N (N (N L vL L) none (N L none (N L ve L))) (some (.ptr 1 0)) L)) (29::[]) .skip .skip 1 .busy (1::(104::[])) (0::(1::(0::(1::(1::(1::[])))))))) L))) ot L) o8 (N L none (N (N L none (N L none (N L o9 L))) none L))
abbrev oN:Tr (Zi S):=N (N (N L ov L) ov L) oh (N (N (N (N L os L) none (N (N L (some (.loop 70 (N (N (N (N L (some (.ptr 3 0)) L) (some (.ptr 0 0)) (N L none (N (N L vf L) vL L))) vK (N (N (N L vL L) none L) none L)) vq (N (N (N L (some (.ptr 4 0)) L) (some (.ptr 1 0)) L) vK (N L (some (.ptr 2 0)) (N (N L vL L) none L)))) (44::(45::[])) .skip .skip 1 .normal (1::(70::[])) (0::(1::(0::(1::(1::(1::(1::[]))))))))) L) os L)) ot (N (N (N L on L) none L) none L)) oi L)
abbrev oM:Tr (Zi S):=N (N (N L ov L) o3 (N (N L none (N L none (N (N L o7 L) none L))) none (N o1s none L))) oo (N (N L ox L) oA (N (N (N L oA L) none L) none (N (N L (some (.loop 48 (N (N (N L (some (.ptr 3 0)) (N (N L (some (.fn (.func 80) [] [(.ptr 18 0)])) L) none L)) vK (N L (some (.ptr 14 0)) L)) (some (.ptr 1 0)) (N (N L (some (.ptr 4 0)) L) (some (.ptr 2 0)) L)) (20::[]) .skip .skip 0 .ret (0::(48::[])) (0::(1::(0::(1::(1::[]))))))) L) ov L)))
noncomputable def q0 {R:Type}:Prs S R:=Zhf
theorem q1 {R:Type}:Z7R X (q0 (R:=R)):=Zhg X
noncomputable def q2:List (Nat×F7 S):=[]
theorem q3:Z9n X (q2):=trivial
abbrev q4 {R:Type}:Z27 S R:=Zgi
theorem q5 {R:Type}:Z3J X (q4 (R:=R)):=ZgQ X
theorem q6 (x0:List Zm) (x1:Zm):Zhs X q2 [(.sl (.st 21)),(.st 21)] [(.sl (.st 21))] q0 q4 12 21 (x0,x1,())=X1Y x0 x1:=by kernel_rfl
noncomputable def q7:F7 S:=⟨[(.sl (.st 21)),(.st 21)],[(.sl (.st 21))],fun xs=>X4m xs.1 xs.2.1⟩
theorem q8:Z7Q X 21 q7:=Zho (Zhn xok q3 q1 q5 12 21) fun xs _ h=>((q6 xs.1 xs.2.1).trans (X58 xs.1 xs.2.1).symm).trans h
noncomputable def q9:List (Nat×F7 S):=[]
theorem qa:Z9n X (q9):=trivial
abbrev qb {R:Type}:Z27 S R:=Zgi
theorem qc {R:Type}:Z3J X (qb (R:=R)):=ZgQ X
theorem qd (x0:Int) (x1:Int) (x2:Int):Zhs X q9 [(.int .i64),(.int .i64),(.int .i64)] [.bool] q0 qb 12 98 (x0,x1,x2,())=X1r x0 x1 x2:=by kernel_rfl
noncomputable def qe:F7 S:=⟨[(.int .i64),(.int .i64),(.int .i64)],[.bool],fun xs=>X1r xs.1 xs.2.1 xs.2.2.1⟩
theorem qf:Z7Q X 98 qe:=Zho (Zhn xok qa q1 qc 12 98) fun xs _ h=>(qd xs.1 xs.2.1 xs.2.2.1).trans h
noncomputable def qg:List (Nat×F7 S):=[(98,qe)]
theorem qh:Z9n X (qg):=⟨qf,trivial⟩
abbrev qi {R:Type}:Z27 S R:=Zgi
theorem qj {R:Type}:Z3J X (qi (R:=R)):=ZgQ X
def qk:Key:=⟨[85],85,none,[0,0,1,0,1,1],0,6⟩
def ql:StT S:=⟨(N (N (N L vK L) none L) vD L),L,6⟩
def qm:Way S:=⟨.ret,⟨(N L none (N L vL L)),L,43⟩,[.bool]⟩
def qn:Way S:=⟨(.exit 0),⟨L,L,10⟩,[]⟩
def qo:LE S:=⟨qk,ql,[.int,.str],[qm,qn]⟩
def qp (x:(Int×ByteArray)):(Bool⊕Unit)→(Bool⊕Unit):=Sum.elim (fun y0=>(.inl y0)) (fun y1=>(.inr ()))
noncomputable def qq {R:Type} (x:(Int×ByteArray)) (k:(Bool⊕Unit)→Option R):Option R:=(X3Q x.2 x.1).bind (Sum.elim (fun y0=>k (.inl y0)) (fun y1=>k (.inr ())))
def qr (x:(Int×ByteArray)) (v:Int):(Int×ByteArray):=(v,x.2)
theorem qs (x:(Int×ByteArray)):LE.step X qo qg q0 qi 12 x=WM x.2 x.1 (fun w0=>(Sum.inl (w0,x.2))) (fun p0=>(Sum.inr (.inl p0))) (Sum.inr (.inr ())):=by kernel_rfl
theorem qu {R:Type} (x:(Int×ByteArray)) (k:(Bool⊕Unit)→Option R) (r:R) (h:qq x k=some r):∃ o,Z5s (LE.step X qo qg q0 qi 12) x o∧k o=some r:=by
 obtain ⟨o,h1,h2⟩:=Z0 h
 exact ⟨qp x o,Zhl (st:=fun (x:(Int×ByteArray))=>WE x.2) (prj:=fun x=>x.1) (emb:=qr) (embO:=qp) (fun x=>(qs x).trans (by unfold WE WM;simp only [Zhd,Zh8,Zhe,Option.map_some,Option.map_none];rfl)) (fun _ _=>rfl) (fun _ _=>rfl) (fun _ _ _=>rfl) (fun _ _ _=>rfl) (fun _=>rfl) (Z1S.1 h1),by
  first
  | exact h2
  | (rcases o with o|o<;>exact h2)⟩
noncomputable def qv {R:Type}:Z27 S R:=LE.ls X qo qq qi
theorem qw {R:Type}:Z3J X (qv (R:=R)):=Zhq xok qh (e:=qo) q1 qj qu qj
theorem qx (x0:ByteArray):Zhs X qg [.str] [.bool] q0 qv 12 85 (x0,())=X3C x0:=by kernel_rfl
noncomputable def qy:F7 S:=⟨[.str],[.bool],fun xs=>X3C xs.1⟩
theorem qz:Z7Q X 85 qy:=Zho (Zhn xok qh q1 qw 12 85) fun xs _ h=>(qx xs.1).trans h
noncomputable def qA:List (Nat×F7 S):=[]
theorem qB:Z9n X (qA):=trivial
abbrev qC {R:Type}:Z27 S R:=Zgi
theorem qD {R:Type}:Z3J X (qC (R:=R)):=ZgQ X
def qE:Key:=⟨[86],86,none,[0,0,1,0,1],0,2⟩
def qF:StT S:=⟨(N (N L vD (N L vK L)) (some (.sl .str [])) L),L,2⟩
def qG:Way S:=⟨.ret,⟨v1m,L,14⟩,[.int]⟩
def qH:Way S:=⟨(.exit 0),⟨L,L,6⟩,[]⟩
def qI:LE S:=⟨qE,qF,[.str,.int,(.lst .str)],[qG,qH]⟩
def qJ (x:tU):(Int⊕Unit)→(Int⊕Unit):=Sum.elim (fun y0=>(.inl y0)) (fun y1=>(.inr ()))
noncomputable def qK {R:Type} (x:tU) (k:(Int⊕Unit)→Option R):Option R:=(X2l x.1 x.2.2 x.2.1).bind (Sum.elim (fun y0=>k (.inl y0)) (fun y1=>k (.inr ())))
def qL (x:tU) (v:Int):tU:=(x.1,v,x.2.2)
theorem qM (x:tU):LE.step X qI qA q0 qC 12 x=Wv x.1 x.2.2 x.2.1 (fun w0=>(Sum.inl (x.1,w0,x.2.2))) (fun p0=>(Sum.inr (.inl p0))) (Sum.inr (.inr ())):=by kernel_rfl
theorem qO {R:Type} (x:tU) (k:(Int⊕Unit)→Option R) (r:R) (h:qK x k=some r):∃ o,Z5s (LE.step X qI qA q0 qC 12) x o∧k o=some r:=by
 obtain ⟨o,h1,h2⟩:=Z0 h
 exact ⟨qJ x o,Zhl (st:=fun (x:tU)=>XC x.1 x.2.2) (prj:=fun x=>x.2.1) (emb:=qL) (embO:=qJ) (fun x=>(qM x).trans (by unfold XC Wv;simp only [Zhd,Zh8,Zhe,Option.map_some,Option.map_none];rfl)) (fun _ _=>rfl) (fun _ _=>rfl) (fun _ _ _=>rfl) (fun _ _ _=>rfl) (fun _=>rfl) (Z1S.1 h1),by
  first
  | exact h2
  | (rcases o with o|o<;>exact h2)⟩
noncomputable def qP {R:Type}:Z27 S R:=LE.ls X qI qK qC
theorem qQ {R:Type}:Z3J X (qP (R:=R)):=Zhq xok qB (e:=qI) q1 qD qO qD
theorem qR (x0:List ByteArray) (x1:ByteArray):Zhs X qA [(.sl .str),.str] [(.int .i64)] q0 qP 12 86 (x0,x1,())=X3R x0 x1:=by kernel_rfl
noncomputable def qS:F7 S:=⟨[(.sl .str),.str],[(.int .i64)],fun xs=>X3R xs.1 xs.2.1⟩
theorem qT:Z7Q X 86 qS:=Zho (Zhn xok qB q1 qQ 12 86) fun xs _ h=>(qR xs.1 xs.2.1).trans h
noncomputable def qU:List (Nat×F7 S):=[(85,qy),(86,qS)]
theorem qV:Z9n X (qU):=⟨qz,qT,trivial⟩
abbrev qW {R:Type}:Z27 S R:=Zgi
theorem qX {R:Type}:Z3J X (qW (R:=R)):=ZgQ X
theorem qY (x0:ByteArray) (x1:List ByteArray):Zhs X qU [.str,(.sl .str)] [(.int .i64)] q0 qW 12 66 (x0,x1,())=X1X x0 x1:=by kernel_rfl
noncomputable def qZ:F7 S:=⟨[.str,(.sl .str)],[(.int .i64)],fun xs=>X1X xs.1 xs.2.1⟩
theorem q10:Z7Q X 66 qZ:=Zho (Zhn xok qV q1 qX 12 66) fun xs _ h=>(qY xs.1 xs.2.1).trans h
noncomputable def q11:List (Nat×F7 S):=[(98,qe)]
theorem q12:Z9n X (q11):=⟨qf,trivial⟩
abbrev q13 {R:Type}:Z27 S R:=Zgi
theorem q14 {R:Type}:Z3J X (q13 (R:=R)):=ZgQ X
theorem q15 (x0:Zu) (x1:Int):Zhs X q11 [(.st 2),(.int .i64)] [.bool] q0 q13 12 82 (x0,x1,())=X22 x0 x1:=by kernel_rfl
noncomputable def q16:F7 S:=⟨[(.st 2),(.int .i64)],[.bool],fun xs=>X22 xs.1 xs.2.1⟩
theorem q17:Z7Q X 82 q16:=Zho (Zhn xok q12 q1 q14 12 82) fun xs _ h=>(q15 xs.1 xs.2.1).trans h
noncomputable def q18:List (Nat×F7 S):=[(98,qe)]
theorem q19:Z9n X (q18):=⟨qf,trivial⟩
abbrev q1a {R:Type}:Z27 S R:=Zgi
theorem q1b {R:Type}:Z3J X (q1a (R:=R)):=ZgQ X
def q1c:Key:=⟨[83],83,none,[0,0,1,0,1,1],0,6⟩
def q1d:StT S:=⟨(N (N (N L vK L) none L) (some (.sl (.st 3) [])) L),L,6⟩
def q1e:Way S:=⟨.ret,⟨(N L none (N L vK L)),L,27⟩,[.int]⟩
def q1f:Way S:=⟨.ret,⟨(N L none (N L vK L)),L,43⟩,[.int]⟩
def q1g:Way S:=⟨(.exit 0),⟨L,L,10⟩,[]⟩
def q1h:LE S:=⟨q1c,q1d,[.int,(.lst (.st 3))],[q1e,q1f,q1g]⟩
def q1i (x:(Int×(List Zk))):(Int⊕Int⊕Unit)→(Int⊕Int⊕Unit):=Sum.elim (fun y0=>(.inl y0)) (Sum.elim (fun y1=>(.inr (.inl y1))) (fun y2=>(.inr (.inr ()))))
noncomputable def q1j {R:Type} (x:(Int×(List Zk))) (k:(Int⊕Int⊕Unit)→Option R):Option R:=(X3h x.2 x.1).bind (Sum.elim (fun y0=>k (.inl y0)) (Sum.elim (fun y1=>k (.inr (.inl y1))) (fun y2=>k (.inr (.inr ())))))
def q1k (x:(Int×(List Zk))) (v:Int):(Int×(List Zk)):=(v,x.2)
theorem q1l (x:(Int×(List Zk))):LE.step X q1h q18 q0 q1a 12 x=W3 x.2 x.1 (fun w0=>(Sum.inl (w0,x.2))) (fun p0=>(Sum.inr (.inl p0))) (fun p0=>(Sum.inr (.inr (.inl p0)))) (Sum.inr (.inr (.inr ()))):=by kernel_rfl
theorem q1n {R:Type} (x:(Int×(List Zk))) (k:(Int⊕Int⊕Unit)→Option R) (r:R) (h:q1j x k=some r):∃ o,Z5s (LE.step X q1h q18 q0 q1a 12) x o∧k o=some r:=by
 obtain ⟨o,h1,h2⟩:=Z0 h
 exact ⟨q1i x o,Zhl (st:=fun (x:(Int×(List Zk)))=>XU x.2) (prj:=fun x=>x.1) (emb:=q1k) (embO:=q1i) (fun x=>(q1l x).trans (by unfold XU W3;simp only [Zhd,Zh8,Zhe,Option.map_some,Option.map_none];rfl)) (fun _ _=>rfl) (fun _ _=>rfl) (fun _ _ _=>rfl) (fun _ _ _=>rfl) (fun _=>rfl) (Z1S.1 h1),by
  first
  | exact h2
  | (rcases o with o|o|o<;>exact h2)⟩
noncomputable def q1o {R:Type}:Z27 S R:=LE.ls X q1h q1j q1a
theorem q1p {R:Type}:Z3J X (q1o (R:=R)):=Zhq xok q19 (e:=q1h) q1 q1b q1n q1b
theorem q1q (x0:List Zk):Zhs X q18 [(.sl (.st 3))] [(.int .i64)] q0 q1o 12 83 (x0,())=X23 x0:=by kernel_rfl
noncomputable def q1r:F7 S:=⟨[(.sl (.st 3))],[(.int .i64)],fun xs=>X23 xs.1⟩
theorem q1s:Z7Q X 83 q1r:=Zho (Zhn xok q19 q1 q1p 12 83) fun xs _ h=>(q1q xs.1).trans h
noncomputable def q1t:List (Nat×F7 S):=[(98,qe)]
theorem q1u:Z9n X (q1t):=⟨qf,trivial⟩
abbrev q1v {R:Type}:Z27 S R:=Zgi
theorem q1w {R:Type}:Z3J X (q1v (R:=R)):=ZgQ X
def q1x:Key:=⟨[87],87,none,[0,0,1,0,1,1],0,3⟩
def q1y:StT S:=⟨(N (N (N (N L vK L) none L) vK L) (some (.sl (.st 5) [])) (N (N (N L vK L) none L) vK L)),L,3⟩
def q1z:Way S:=⟨.ret,⟨(N L none (N L none (N L vK L))),L,28⟩,[.int]⟩
def q1A:Way S:=⟨(.exit 0),⟨(N v1n none L),L,7⟩,[.int]⟩
def q1B:LE S:=⟨q1x,q1y,[.int,.int,(.lst (.st 5)),.int,.int],[q1z,q1A]⟩
def q1C (x:tT):(Int⊕Int)→(Int⊕Int):=Sum.elim (fun y0=>(.inl y0)) (fun y1=>(.inr y1))
noncomputable def q1D {R:Type} (x:tT) (k:(Int⊕Int)→Option R):Option R:=(X3g x.2.1 x.2.2.1 x.2.2.2.2 (x.1,x.2.2.2.1)).bind (Sum.elim (fun y0=>k (.inl y0)) (fun y1=>k (.inr y1)))
def q1E (x:tT) (v:(Int×Int)):tT:=(v.1,x.2.1,x.2.2.1,v.2,x.2.2.2.2)
theorem q1F (x:tT):LE.step X q1B q1t q0 q1v 12 x=W2 x.2.1 x.2.2.1 x.2.2.2.2 x.1 x.2.2.2.1 (fun w0 w1=>(Sum.inl (w0,x.2.1,x.2.2.1,w1,x.2.2.2.2))) (fun p0=>(Sum.inr (.inl p0))) (fun p0=>(Sum.inr (.inr p0))):=by kernel_rfl
theorem q1H {R:Type} (x:tT) (k:(Int⊕Int)→Option R) (r:R) (h:q1D x k=some r):∃ o,Z5s (LE.step X q1B q1t q0 q1v 12) x o∧k o=some r:=by
 obtain ⟨o,h1,h2⟩:=Z0 h
 exact ⟨q1C x o,Zhl (st:=fun (x:tT)=>XT x.2.1 x.2.2.1 x.2.2.2.2) (prj:=fun x=>(x.1,x.2.2.2.1)) (emb:=q1E) (embO:=q1C) (fun x=>(q1F x).trans (by unfold XT W2;simp only [Zhd,Zh8,Zhe,Option.map_some,Option.map_none];rfl)) (fun _ _=>rfl) (fun _ _=>rfl) (fun _ _ _=>rfl) (fun _ _ _=>rfl) (fun _=>rfl) (Z1S.1 h1),by
  first
  | exact h2
  | (rcases o with o|o<;>exact h2)⟩
noncomputable def q1I {R:Type}:Z27 S R:=LE.ls X q1B q1D q1v
theorem q1J {R:Type}:Z3J X (q1I (R:=R)):=Zhq xok q1u (e:=q1B) q1 q1w q1H q1w
theorem q1K (x0:List ZE) (x1:Int) (x2:Int):Zhs X q1t [(.sl (.st 5)),(.int .i64),(.int .i64)] [(.int .i64)] q0 q1I 12 87 (x0,x1,x2,())=X1C x0 x1 x2:=by kernel_rfl
noncomputable def q1L:F7 S:=⟨[(.sl (.st 5)),(.int .i64),(.int .i64)],[(.int .i64)],fun xs=>X1C xs.1 xs.2.1 xs.2.2.1⟩
theorem q1M:Z7Q X 87 q1L:=Zho (Zhn xok q1u q1 q1J 12 87) fun xs _ h=>(q1K xs.1 xs.2.1 xs.2.2.1).trans h
noncomputable def q1N:List (Nat×F7 S):=[(87,q1L)]
theorem q1O:Z9n X (q1N):=⟨q1M,trivial⟩
abbrev q1P {R:Type}:Z27 S R:=Zgi
theorem q1Q {R:Type}:Z3J X (q1P (R:=R)):=ZgQ X
theorem q1R (x0:ZB) (x1:Int) (x2:Int):Zhs X q1N [(.st 6),(.int .i64),(.int .i64)] [(.int .i64)] q0 q1P 12 99 (x0,x1,x2,())=X49 x0 x1 x2:=by kernel_rfl
noncomputable def q1S:F7 S:=⟨[(.st 6),(.int .i64),(.int .i64)],[(.int .i64)],fun xs=>X49 xs.1 xs.2.1 xs.2.2.1⟩
theorem q1T:Z7Q X 99 q1S:=Zho (Zhn xok q1O q1 q1Q 12 99) fun xs _ h=>(q1R xs.1 xs.2.1 xs.2.2.1).trans h
noncomputable def q1U:List (Nat×F7 S):=[]
theorem q1V:Z9n X (q1U):=trivial
abbrev q1W {R:Type}:Z27 S R:=Zgi
theorem q1X {R:Type}:Z3J X (q1W (R:=R)):=ZgQ X
theorem q1Y (x0:Zu) (x1:Zu):Zhs X q1U [(.st 2),(.st 2)] [(.st 2)] q0 q1W 12 109 (x0,x1,())=X62 x0 x1:=by kernel_rfl
noncomputable def q1Z:F7 S:=⟨[(.st 2),(.st 2)],[(.st 2)],fun xs=>X62 xs.1 xs.2.1⟩
theorem q20:Z7Q X 109 q1Z:=Zho (Zhn xok q1V q1 q1X 12 109) fun xs _ h=>(q1Y xs.1 xs.2.1).trans h
noncomputable def q21:List (Nat×F7 S):=[]
theorem q22:Z9n X (q21):=trivial
abbrev q23 {R:Type}:Z27 S R:=Zgi
theorem q24 {R:Type}:Z3J X (q23 (R:=R)):=ZgQ X
theorem q25 (x0:Zu) (x1:Zu):Zhs X q21 [(.st 2),(.st 2)] [(.int .i64)] q0 q23 12 108 (x0,x1,())=X61 x0 x1:=by kernel_rfl
noncomputable def q26:F7 S:=⟨[(.st 2),(.st 2)],[(.int .i64)],fun xs=>X61 xs.1 xs.2.1⟩
theorem q27:Z7Q X 108 q26:=Zho (Zhn xok q22 q1 q24 12 108) fun xs _ h=>(q25 xs.1 xs.2.1).trans h
noncomputable def q28:List (Nat×F7 S):=[(109,q1Z),(108,q26)]
theorem q29:Z9n X (q28):=⟨q20,q27,trivial⟩
abbrev q2a {R:Type}:Z27 S R:=Zgi
theorem q2b {R:Type}:Z3J X (q2a (R:=R)):=ZgQ X
def q2c:Key:=⟨[100],100,none,[0,0,1,1,0,0,1,0,0,1,0,1],2,13⟩
def q2d:StT S:=⟨(N (N (N L vK L) none (N L vK L)) vJ (N (N L vK L) none L)),L,13⟩
def q2e:Way S:=⟨.ret,⟨(N L none (N L vL L)),L,48⟩,[.bool]⟩
def q2f:Way S:=⟨(.exit 2),⟨(N (N (N L vK L) none L) vJ L),L,17⟩,[.int,(.lst (.st 2))]⟩
def q2g:LE S:=⟨q2c,q2d,[.int,.int,(.lst (.st 2)),.int],[q2e,q2f]⟩
def q2h (x:t12):(Bool⊕Unit)→(Bool⊕(Int×(List Zu))):=Sum.elim (fun y0=>(.inl y0)) (fun y1=>(.inr (x.1,x.2.2.1)))
noncomputable def q2i {R:Type} (x:t12) (k:(Bool⊕(Int×(List Zu)))→Option R):Option R:=(X1D x.1 x.2.2.1 x.2.2.2 x.2.1).bind (Sum.elim (fun y0=>k (.inl y0)) (fun y1=>k (.inr (x.1,x.2.2.1))))
def q2j (x:t12) (v:Int):t12:=(x.1,v,x.2.2.1,x.2.2.2)
theorem q2k (x:t12):LE.step X q2g q28 q0 q2a 12 x=Wx x.1 x.2.2.1 x.2.2.2 x.2.1 (fun w0=>(Sum.inl (x.1,w0,x.2.2.1,x.2.2.2))) (fun p0=>(Sum.inr (.inl p0))) (Sum.inr (.inr (x.1,x.2.2.1))):=by kernel_rfl
theorem q2m {R:Type} (x:t12) (k:(Bool⊕(Int×(List Zu)))→Option R) (r:R) (h:q2i x k=some r):∃ o,Z5s (LE.step X q2g q28 q0 q2a 12) x o∧k o=some r:=by
 obtain ⟨o,h1,h2⟩:=Z0 h
 exact ⟨q2h x o,Zhl (st:=fun (x:t12)=>Wg x.1 x.2.2.1 x.2.2.2) (prj:=fun x=>x.2.1) (emb:=q2j) (embO:=q2h) (fun x=>(q2k x).trans (by unfold Wg Wx;simp only [Zhd,Zh8,Zhe,Option.map_some,Option.map_none];rfl)) (fun _ _=>rfl) (fun _ _=>rfl) (fun _ _ _=>rfl) (fun _ _ _=>rfl) (fun _=>rfl) (Z1S.1 h1),by
  first
  | exact h2
  | (rcases o with o|o<;>exact h2)⟩
noncomputable def q2n {R:Type}:Z27 S R:=LE.ls X q2g q2i q2a
theorem q2o {R:Type}:Z3J X (q2n (R:=R)):=Zhq xok q29 (e:=q2g) q1 q2b q2m q2b
def q2p:Key:=⟨[100],100,none,[0,0,1,0,1],0,2⟩
def q2q:StT S:=⟨(N (N (N L vK L) none L) vJ L),L,2⟩
def q2r:Way S:=⟨.ret,⟨(N L none (N L vL L)),L,48⟩,[.bool]⟩
def q2s:Way S:=⟨(.exit 0),⟨L,L,6⟩,[]⟩
def q2t:LE S:=⟨q2p,q2q,[.int,(.lst (.st 2))],[q2r,q2s]⟩
def q2u (x:(Int×(List Zu))):(Bool⊕Unit)→(Bool⊕Unit):=Sum.elim (fun y0=>(.inl y0)) (fun y1=>(.inr ()))
noncomputable def q2v {R:Type} (x:(Int×(List Zu))) (k:(Bool⊕Unit)→Option R):Option R:=(X3D x.2 x.1).bind (Sum.elim (fun y0=>k (.inl y0)) (fun y1=>k (.inr ())))
def q2w (x:(Int×(List Zu))) (v:Int):(Int×(List Zu)):=(v,x.2)
theorem q2x (x:(Int×(List Zu))):LE.step X q2t q28 q0 q2n 12 x=Ww x.2 x.1 (fun w0=>(Sum.inl (w0,x.2))) (fun p0=>(Sum.inr (.inl p0))) (Sum.inr (.inr ())):=by kernel_rfl
theorem q2z {R:Type} (x:(Int×(List Zu))) (k:(Bool⊕Unit)→Option R) (r:R) (h:q2v x k=some r):∃ o,Z5s (LE.step X q2t q28 q0 q2n 12) x o∧k o=some r:=by
 obtain ⟨o,h1,h2⟩:=Z0 h
 exact ⟨q2u x o,Zhl (st:=fun (x:(Int×(List Zu)))=>Wf x.2) (prj:=fun x=>x.1) (emb:=q2w) (embO:=q2u) (fun x=>(q2x x).trans (by unfold Wf Ww;simp only [Zhd,Zh8,Zhe,Option.map_some,Option.map_none];rfl)) (fun _ _=>rfl) (fun _ _=>rfl) (fun _ _ _=>rfl) (fun _ _ _=>rfl) (fun _=>rfl) (Z1S.1 h1),by
  first
  | exact h2
  | (rcases o with o|o<;>exact h2)⟩
noncomputable def q2A {R:Type}:Z27 S R:=LE.ls X q2t q2v q2n
theorem q2B {R:Type}:Z3J X (q2A (R:=R)):=Zhq xok q29 (e:=q2t) q1 q2o q2z q2o
theorem q2C (x0:List Zu):Zhs X q28 [(.sl (.st 2))] [.bool] q0 q2A 12 100 (x0,())=X36 x0:=by kernel_rfl
noncomputable def q2D:F7 S:=⟨[(.sl (.st 2))],[.bool],fun xs=>X36 xs.1⟩
theorem q2E:Z7Q X 100 q2D:=Zho (Zhn xok q29 q1 q2B 12 100) fun xs _ h=>(q2C xs.1).trans h
noncomputable def q2F:List (Nat×F7 S):=[(98,qe),(82,q16),(99,q1S),(100,q2D)]
theorem q2G:Z9n X (q2F):=⟨qf,q17,q1T,q2E,trivial⟩
abbrev q2H {R:Type}:Z27 S R:=Zgi
theorem q2I {R:Type}:Z3J X (q2H (R:=R)):=ZgQ X
def q2J:Key:=⟨[84],84,none,[0,0,1,0,1,1],0,8⟩
def q2K:StT S:=⟨(N (N (N L vK L) (some (.ptr 0 0)) L) none L),(N L og L),8⟩
def q2L:Way S:=⟨.ret,⟨(N L none (N L vK L)),(N L og L),21⟩,[.int,(.st 7)]⟩
def q2M:Way S:=⟨(.exit 0),⟨(N (N L (some (.ptr 0 0)) L) none L),(N L og L),13⟩,[(.st 7)]⟩
def q2N:LE S:=⟨q2J,q2K,[.int,(.st 7)],[q2L,q2M]⟩
def q2O (x:(Int×CtSand)):(Int⊕Unit)→((Int×CtSand)⊕CtSand):=Sum.elim (fun y0=>(.inl (y0,x.2))) (fun y1=>(.inr x.2))
noncomputable def q2P {R:Type} (x:(Int×CtSand)) (k:((Int×CtSand)⊕CtSand)→Option R):Option R:=(X2O x.2 x.1).bind (Sum.elim (fun y0=>k (.inl (y0,x.2))) (fun y1=>k (.inr x.2)))
def q2Q (x:(Int×CtSand)) (v:Int):(Int×CtSand):=(v,x.2)
theorem q2R (x:(Int×CtSand)):LE.step X q2N q2F q0 q2H 12 x=WN x.2 x.1 (fun w0=>(Sum.inl (w0,x.2))) (fun p0=>(Sum.inr (.inl (p0,x.2)))) (Sum.inr (.inr x.2)):=by kernel_rfl
theorem q2T {R:Type} (x:(Int×CtSand)) (k:((Int×CtSand)⊕CtSand)→Option R) (r:R) (h:q2P x k=some r):∃ o,Z5s (LE.step X q2N q2F q0 q2H 12) x o∧k o=some r:=by
 obtain ⟨o,h1,h2⟩:=Z0 h
 exact ⟨q2O x o,Zhl (st:=fun (x:(Int×CtSand))=>XV x.2) (prj:=fun x=>x.1) (emb:=q2Q) (embO:=q2O) (fun x=>(q2R x).trans (by unfold XV WN;simp only [Zhd,Zh8,Zhe,Option.map_some,Option.map_none];rfl)) (fun _ _=>rfl) (fun _ _=>rfl) (fun _ _ _=>rfl) (fun _ _ _=>rfl) (fun _=>rfl) (Z1S.1 h1),by
  first
  | exact h2
  | (rcases o with o|o<;>exact h2)⟩
noncomputable def q2U {R:Type}:Z27 S R:=LE.ls X q2N q2P q2H
theorem q2V {R:Type}:Z3J X (q2U (R:=R)):=Zhq xok q2G (e:=q2N) q1 q2I q2T q2I
theorem q2W (x0:CtSand):Zhs X q2F [(.st 7)] [(.int .i64)] q0 q2U 12 84 (x0,())=X3E x0:=by kernel_rfl
noncomputable def q2X:F7 S:=⟨[(.st 7)],[(.int .i64)],fun xs=>X3E xs.1⟩
theorem q2Y:Z7Q X 84 q2X:=Zho (Zhn xok q2G q1 q2V 12 84) fun xs _ h=>(q2W xs.1).trans h
noncomputable def q2Z:List (Nat×F7 S):=[(66,qZ),(82,q16),(83,q1r),(84,q2X)]
theorem q30:Z9n X (q2Z):=⟨q10,q17,q1s,q2Y,trivial⟩
abbrev q31 {R:Type}:Z27 S R:=Zgi
theorem q32 {R:Type}:Z3J X (q31 (R:=R)):=ZgQ X
def q33:Key:=⟨[64],64,none,[0,0,1,0,1,1,1],0,10⟩
def q34:StT S:=⟨(N (N L (some (.ptr 0 0)) (N L (some (.rs 10 0)) L)) none (N L none (N L vK L))),(N L oh o1o),11⟩
def q35:Way S:=⟨.ret,⟨v1g,oU,52⟩,[.int,.int,.int,(.lst .str),(.st 4),(.st 8),(.lst .str)]⟩
def q36:Way S:=⟨.ret,⟨v1g,oU,55⟩,[.int,.int,.int,(.lst .str),(.st 4),(.st 8),(.lst .str)]⟩
def q37:Way S:=⟨.ret,⟨v1g,oU,51⟩,[.int,.int,.int,(.lst .str),(.st 4),(.st 8),(.lst .str)]⟩
def q38:Way S:=⟨(.exit 0),⟨(N (N L (some (.ptr 0 0)) (N L (some (.rs 10 0)) L)) none L),(N L oh o1o),16⟩,[(.st 8),(.lst .str)]⟩
def q39:LE S:=⟨q33,q34,[.int,(.st 8),(.lst .str)],[q35,q36,q37,q38]⟩
def q3a (x:tZ):(tH⊕tH⊕tH⊕(List ByteArray))→t2:=Sum.elim (fun y0=>(.inl (y0.1,y0.2.1,y0.2.2.1,y0.2.2.2.1,y0.2.2.2.2.1,x.2.1,y0.2.2.2.2.2))) (Sum.elim (fun y1=>(.inr (.inl (y1.1,y1.2.1,y1.2.2.1,y1.2.2.2.1,y1.2.2.2.2.1,x.2.1,y1.2.2.2.2.2)))) (Sum.elim (fun y2=>(.inr (.inr (.inl (y2.1,y2.2.1,y2.2.2.1,y2.2.2.2.1,y2.2.2.2.2.1,x.2.1,y2.2.2.2.2.2))))) (fun y3=>(.inr (.inr (.inr (x.2.1,y3)))))))
noncomputable def q3b {R:Type} (x:tZ) (k:t2→Option R):Option R:=(X3A x.2.1 (x.1,x.2.2)).bind (Sum.elim (fun y0=>k (.inl (y0.1,y0.2.1,y0.2.2.1,y0.2.2.2.1,y0.2.2.2.2.1,x.2.1,y0.2.2.2.2.2))) (Sum.elim (fun y1=>k (.inr (.inl (y1.1,y1.2.1,y1.2.2.1,y1.2.2.2.1,y1.2.2.2.2.1,x.2.1,y1.2.2.2.2.2)))) (Sum.elim (fun y2=>k (.inr (.inr (.inl (y2.1,y2.2.1,y2.2.2.1,y2.2.2.2.1,y2.2.2.2.2.1,x.2.1,y2.2.2.2.2.2))))) (fun y3=>k (.inr (.inr (.inr (x.2.1,y3))))))))
def q3c (x:tZ) (v:(Int×(List ByteArray))):tZ:=(v.1,x.2.1,v.2)
theorem q3d (x:tZ):LE.step X q39 q2Z q0 q31 12 x=Wt x.2.1 x.1 x.2.2 (fun w0 w1=>(Sum.inl (w0,x.2.1,w1))) (fun p0 p1 p2 p3 p4 p5=>(Sum.inr (.inl (p0,p1,p2,p3,p4,x.2.1,p5)))) (fun p0 p1 p2 p3 p4 p5=>(Sum.inr (.inr (.inl (p0,p1,p2,p3,p4,x.2.1,p5))))) (fun p0 p1 p2 p3 p4 p5=>(Sum.inr (.inr (.inr (.inl (p0,p1,p2,p3,p4,x.2.1,p5)))))) (fun p0=>(Sum.inr (.inr (.inr (.inr (x.2.1,p0)))))):=by kernel_rfl
theorem q3f {R:Type} (x:tZ) (k:t2→Option R) (r:R) (h:q3b x k=some r):∃ o,Z5s (LE.step X q39 q2Z q0 q31 12) x o∧k o=some r:=by
 obtain ⟨o,h1,h2⟩:=Z0 h
 exact ⟨q3a x o,Zhl (st:=fun (x:tZ)=>Wd x.2.1) (prj:=fun x=>(x.1,x.2.2)) (emb:=q3c) (embO:=q3a) (fun x=>(q3d x).trans (by unfold Wd Wt;simp only [Zhd,Zh8,Zhe,Option.map_some,Option.map_none];rfl)) (fun _ _=>rfl) (fun _ _=>rfl) (fun _ _ _=>rfl) (fun _ _ _=>rfl) (fun _=>rfl) (Z1S.1 h1),by
  first
  | exact h2
  | (rcases o with o|o|o|o<;>exact h2)⟩
noncomputable def q3g {R:Type}:Z27 S R:=LE.ls X q39 q3b q31
theorem q3h {R:Type}:Z3J X (q3g (R:=R)):=Zhq xok q30 (e:=q39) q1 q32 q3f q32
def q3i:Key:=⟨[64],64,none,[0,0,1,0,1,1,1,1,1],2,21⟩
def q3j:StT S:=⟨(N (N L (some (.ptr 0 0)) (N (N L vK L) (some (.rs 21 0)) L)) none L),(N (N L none o1o) oh L),22⟩
def q3k:Way S:=⟨.ret,⟨v1g,o10,62⟩,[.int,.int,.int,(.lst .str),(.lst .str),(.st 8)]⟩
def q3l:Way S:=⟨.ret,⟨v1g,o10,55⟩,[.int,.int,.int,(.lst .str),(.lst .str),(.st 8)]⟩
def q3m:Way S:=⟨(.exit 2),⟨L,(N (N L none o1o) oh L),27⟩,[(.lst .str),(.st 8)]⟩
def q3n:LE S:=⟨q3i,q3j,[.int,(.lst .str),(.st 8)],[q3k,q3l,q3m]⟩
def q3o (x:t10):((Int×Int×Int×(List ByteArray)×(List ByteArray))⊕(Int×Int×Int×(List ByteArray)×(List ByteArray))⊕(List ByteArray))→ta:=Sum.elim (fun y0=>(.inl (y0.1,y0.2.1,y0.2.2.1,y0.2.2.2.1,y0.2.2.2.2,x.2.2))) (Sum.elim (fun y1=>(.inr (.inl (y1.1,y1.2.1,y1.2.2.1,y1.2.2.2.1,y1.2.2.2.2,x.2.2)))) (fun y2=>(.inr (.inr (y2,x.2.2)))))
noncomputable def q3p {R:Type} (x:t10) (k:ta→Option R):Option R:=(X1B x.2.2 (x.1,x.2.1)).bind (Sum.elim (fun y0=>k (.inl (y0.1,y0.2.1,y0.2.2.1,y0.2.2.2.1,y0.2.2.2.2,x.2.2))) (Sum.elim (fun y1=>k (.inr (.inl (y1.1,y1.2.1,y1.2.2.1,y1.2.2.2.1,y1.2.2.2.2,x.2.2)))) (fun y2=>k (.inr (.inr (y2,x.2.2))))))
def q3q (x:t10) (v:(Int×(List ByteArray))):t10:=(v.1,v.2,x.2.2)
theorem q3r (x:t10):LE.step X q3n q2Z q0 q3g 12 x=Wu x.2.2 x.1 x.2.1 (fun w0 w1=>(Sum.inl (w0,w1,x.2.2))) (fun p0 p1 p2 p3 p4=>(Sum.inr (.inl (p0,p1,p2,p3,p4,x.2.2)))) (fun p0 p1 p2 p3 p4=>(Sum.inr (.inr (.inl (p0,p1,p2,p3,p4,x.2.2))))) (fun p0=>(Sum.inr (.inr (.inr (p0,x.2.2))))):=by kernel_rfl
theorem q3t {R:Type} (x:t10) (k:ta→Option R) (r:R) (h:q3p x k=some r):∃ o,Z5s (LE.step X q3n q2Z q0 q3g 12) x o∧k o=some r:=by
 obtain ⟨o,h1,h2⟩:=Z0 h
 exact ⟨q3o x o,Zhl (st:=fun (x:t10)=>We x.2.2) (prj:=fun x=>(x.1,x.2.1)) (emb:=q3q) (embO:=q3o) (fun x=>(q3r x).trans (by unfold We Wu;simp only [Zhd,Zh8,Zhe,Option.map_some,Option.map_none];rfl)) (fun _ _=>rfl) (fun _ _=>rfl) (fun _ _ _=>rfl) (fun _ _ _=>rfl) (fun _=>rfl) (Z1S.1 h1),by
  first
  | exact h2
  | (rcases o with o|o|o<;>exact h2)⟩
noncomputable def q3u {R:Type}:Z27 S R:=LE.ls X q3n q3p q3g
theorem q3v {R:Type}:Z3J X (q3u (R:=R)):=Zhq xok q30 (e:=q3n) q1 q3h q3t q3h
theorem q3w (x0:Zl):Zhs X q2Z [(.st 8)] [(.int .i64),(.int .i64),(.int .i64)] q0 q3u 12 64 (x0,())=X34 x0:=by kernel_rfl
noncomputable def q3x:F7 S:=⟨[(.st 8)],[(.int .i64),(.int .i64),(.int .i64)],fun xs=>X34 xs.1⟩
theorem q3y:Z7Q X 64 q3x:=Zho (Zhn xok q30 q1 q3v 12 64) fun xs _ h=>(q3w xs.1).trans h
noncomputable def q3z:List (Nat×F7 S):=[]
theorem q3A:Z9n X (q3z):=trivial
abbrev q3B {R:Type}:Z27 S R:=Zgi
theorem q3C {R:Type}:Z3J X (q3B (R:=R)):=ZgQ X
theorem q3D (x0:Int) (x1:Int) (x2:Int):Zhs X q3z [(.int .i64),(.int .i64),(.int .i64)] [.bool] q0 q3B 12 65 (x0,x1,x2,())=X2P x0 x1 x2:=by kernel_rfl
noncomputable def q3E:F7 S:=⟨[(.int .i64),(.int .i64),(.int .i64)],[.bool],fun xs=>X1s xs.1 xs.2.1 xs.2.2.1⟩
theorem q3F:Z7Q X 65 q3E:=Zho (Zhn xok q3A q1 q3C 12 65) fun xs _ h=>((q3D xs.1 xs.2.1 xs.2.2.1).trans (X5G xs.1 xs.2.1 xs.2.2.1).symm).trans h
noncomputable def q3G:List (Nat×F7 S):=[]
theorem q3H:Z9n X (q3G):=trivial
abbrev q3I {R:Type}:Z27 S R:=Zgi
theorem q3J {R:Type}:Z3J X (q3I (R:=R)):=ZgQ X
theorem q3K (x0:Z5):Zhs X q3G [(.st 18)] [(.int .i64)] q0 q3I 12 68 (x0,())=X2e x0:=by kernel_rfl
noncomputable def q3L:F7 S:=⟨[(.st 18)],[(.int .i64)],fun xs=>X4c xs.1⟩
theorem q3M:Z7Q X 68 q3L:=Zho (Zhn xok q3H q1 q3J 12 68) fun xs _ h=>((q3K xs.1).trans (X5r xs.1).symm).trans h
noncomputable def q3N:List (Nat×F7 S):=[(87,q1L)]
theorem q3O:Z9n X (q3N):=⟨q1M,trivial⟩
abbrev q3P {R:Type}:Z27 S R:=Zgi
theorem q3Q {R:Type}:Z3J X (q3P (R:=R)):=ZgQ X
theorem q3R (x0:ZE) (x1:Int) (x2:Int):Zhs X q3N [(.st 5),(.int .i64),(.int .i64)] [(.int .i64)] q0 q3P 12 67 (x0,x1,x2,())=X2u x0 x1 x2:=by kernel_rfl
noncomputable def q3S:F7 S:=⟨[(.st 5),(.int .i64),(.int .i64)],[(.int .i64)],fun xs=>X2u xs.1 xs.2.1 xs.2.2.1⟩
theorem q3T:Z7Q X 67 q3S:=Zho (Zhn xok q3O q1 q3Q 12 67) fun xs _ h=>(q3R xs.1 xs.2.1 xs.2.2.1).trans h
noncomputable def q3U:List (Nat×F7 S):=[(87,q1L),(67,q3S),(65,q3E)]
theorem q3V:Z9n X (q3U):=⟨q1M,q3T,q3F,trivial⟩
abbrev q3W {R:Type}:Z27 S R:=Zgi
theorem q3X {R:Type}:Z3J X (q3W (R:=R)):=ZgQ X
theorem q3Y (x0:Zt):Zhs X q3U [(.st 19)] [(.int .i64)] q0 q3W 12 69 (x0,())=X1Z x0:=by kernel_rfl
noncomputable def q3Z:F7 S:=⟨[(.st 19)],[(.int .i64)],fun xs=>X4n xs.1⟩
theorem q40:Z7Q X 69 q3Z:=Zho (Zhn xok q3V q1 q3X 12 69) fun xs _ h=>((q3Y xs.1).trans (X5a xs.1).symm).trans h
noncomputable def q41:List (Nat×F7 S):=[(64,q3x),(65,q3E),(66,qZ),(68,q3L),(67,q3S),(69,q3Z)]
theorem q42:Z9n X (q41):=⟨q3y,q3F,q10,q3M,q3T,q40,trivial⟩
abbrev q43 {R:Type}:Z27 S R:=Zgi
theorem q44 {R:Type}:Z3J X (q43 (R:=R)):=ZgQ X
def q45:Key:=⟨[51],51,none,[0,0,1,0,1,1,1,1,1,1],0,39⟩
def q46:StT S:=⟨(N (N L (some (.ptr 0 0)) (N (N L vK L) none L)) none (N (N (N L (some (.rs 39 0)) L) none L) none L)),o1a,40⟩
def q47:Way S:=⟨.ret,⟨v1g,oS,81⟩,[.int,.int,.int,(.lst .str),(.st 20),(.lst .str),(.st 18)]⟩
def q48:Way S:=⟨.ret,⟨v1g,oS,72⟩,[.int,.int,.int,(.lst .str),(.st 20),(.lst .str),(.st 18)]⟩
def q49:Way S:=⟨(.exit 0),⟨(N (N L (some (.ptr 0 0)) L) none L),o1a,45⟩,[(.lst .str),(.st 20)]⟩
def q4a:LE S:=⟨q45,q46,[.int,(.lst .str),(.st 20)],[q47,q48,q49]⟩
def q4b (x:t13):((Int×Int×Int×(List ByteArray)×(List ByteArray)×Z5)⊕(Int×Int×Int×(List ByteArray)×(List ByteArray)×Z5)⊕(List ByteArray))→t8:=Sum.elim (fun y0=>(.inl (y0.1,y0.2.1,y0.2.2.1,y0.2.2.2.1,x.2.2,y0.2.2.2.2.1,y0.2.2.2.2.2))) (Sum.elim (fun y1=>(.inr (.inl (y1.1,y1.2.1,y1.2.2.1,y1.2.2.2.1,x.2.2,y1.2.2.2.2.1,y1.2.2.2.2.2)))) (fun y2=>(.inr (.inr (y2,x.2.2)))))
noncomputable def q4c {R:Type} (x:t13) (k:t8→Option R):Option R:=(X2m x.2.2 (x.1,x.2.1)).bind (Sum.elim (fun y0=>k (.inl (y0.1,y0.2.1,y0.2.2.1,y0.2.2.2.1,x.2.2,y0.2.2.2.2.1,y0.2.2.2.2.2))) (Sum.elim (fun y1=>k (.inr (.inl (y1.1,y1.2.1,y1.2.2.1,y1.2.2.2.1,x.2.2,y1.2.2.2.2.1,y1.2.2.2.2.2)))) (fun y2=>k (.inr (.inr (y2,x.2.2))))))
def q4d (x:t13) (v:(Int×(List ByteArray))):t13:=(v.1,v.2,x.2.2)
theorem q4e (x:t13):LE.step X q4a q41 q0 q43 12 x=Wy x.2.2 x.1 x.2.1 (fun w0 w1=>(Sum.inl (w0,w1,x.2.2))) (fun p0 p1 p2 p3 p4 p5=>(Sum.inr (.inl (p0,p1,p2,p3,x.2.2,p4,p5)))) (fun p0 p1 p2 p3 p4 p5=>(Sum.inr (.inr (.inl (p0,p1,p2,p3,x.2.2,p4,p5))))) (fun p0=>(Sum.inr (.inr (.inr (p0,x.2.2))))):=by kernel_rfl
theorem q4g {R:Type} (x:t13) (k:t8→Option R) (r:R) (h:q4c x k=some r):∃ o,Z5s (LE.step X q4a q41 q0 q43 12) x o∧k o=some r:=by
 obtain ⟨o,h1,h2⟩:=Z0 h
 exact ⟨q4b x o,Zhl (st:=fun (x:t13)=>Wh x.2.2) (prj:=fun x=>(x.1,x.2.1)) (emb:=q4d) (embO:=q4b) (fun x=>(q4e x).trans (by unfold Wh Wy;simp only [Zhd,Zh8,Zhe,Option.map_some,Option.map_none];rfl)) (fun _ _=>rfl) (fun _ _=>rfl) (fun _ _ _=>rfl) (fun _ _ _=>rfl) (fun _=>rfl) (Z1S.1 h1),by
  first
  | exact h2
  | (rcases o with o|o|o<;>exact h2)⟩
noncomputable def q4h {R:Type}:Z27 S R:=LE.ls X q4a q4c q43
theorem q4i {R:Type}:Z3J X (q4h (R:=R)):=Zhq xok q42 (e:=q4a) q1 q44 q4g q44
def q4j:Key:=⟨[51],51,none,[0,0,1,0,1,1,1,1,1,1,1,1],2,50⟩
def q4k:StT S:=⟨(N (N (N L none (N L vK L)) (some (.ptr 0 0)) L) none L),o1a,50⟩
def q4l:Way S:=⟨.ret,⟨v1g,o1a,69⟩,[.int,.int,.int,(.lst .str),(.st 20)]⟩
def q4m:Way S:=⟨(.exit 2),⟨L,o1a,55⟩,[(.lst .str),(.st 20)]⟩
def q4n:LE S:=⟨q4j,q4k,[.int,(.lst .str),(.st 20)],[q4l,q4m]⟩
def q4o (x:t13):((Int×Int×Int)⊕Unit)→tF:=Sum.elim (fun y0=>(.inl (y0.1,y0.2.1,y0.2.2,x.2.1,x.2.2))) (fun y1=>(.inr (x.2.1,x.2.2)))
noncomputable def q4p {R:Type} (x:t13) (k:tF→Option R):Option R:=(X2n x.2.2 x.1).bind (Sum.elim (fun y0=>k (.inl (y0.1,y0.2.1,y0.2.2,x.2.1,x.2.2))) (fun y1=>k (.inr (x.2.1,x.2.2))))
def q4q (x:t13) (v:Int):t13:=(v,x.2.1,x.2.2)
theorem q4r (x:t13):LE.step X q4n q41 q0 q4h 12 x=Wz x.2.2 x.1 (fun w0=>(Sum.inl (w0,x.2.1,x.2.2))) (fun p0 p1 p2=>(Sum.inr (.inl (p0,p1,p2,x.2.1,x.2.2)))) (Sum.inr (.inr (x.2.1,x.2.2))):=by kernel_rfl
theorem q4t {R:Type} (x:t13) (k:tF→Option R) (r:R) (h:q4p x k=some r):∃ o,Z5s (LE.step X q4n q41 q0 q4h 12) x o∧k o=some r:=by
 obtain ⟨o,h1,h2⟩:=Z0 h
 exact ⟨q4o x o,Zhl (st:=fun (x:t13)=>Wi x.2.2) (prj:=fun x=>x.1) (emb:=q4q) (embO:=q4o) (fun x=>(q4r x).trans (by unfold Wi Wz;simp only [Zhd,Zh8,Zhe,Option.map_some,Option.map_none];rfl)) (fun _ _=>rfl) (fun _ _=>rfl) (fun _ _ _=>rfl) (fun _ _ _=>rfl) (fun _=>rfl) (Z1S.1 h1),by
  first
  | exact h2
  | (rcases o with o|o<;>exact h2)⟩
noncomputable def q4u {R:Type}:Z27 S R:=LE.ls X q4n q4p q4h
theorem q4v {R:Type}:Z3J X (q4u (R:=R)):=Zhq xok q42 (e:=q4n) q1 q4i q4t q4i
theorem q4w (x0:ZJ):Zhs X q41 [(.st 20)] [(.int .i64),(.int .i64),(.int .i64)] q0 q4u 12 51 (x0,())=X1H x0:=by kernel_rfl
noncomputable def q4x:F7 S:=⟨[(.st 20)],[(.int .i64),(.int .i64),(.int .i64)],fun xs=>X3S xs.1⟩
theorem q4y:Z7Q X 51 q4x:=Zho (Zhn xok q42 q1 q4v 12 51) fun xs _ h=>((q4w xs.1).trans (X4N xs.1).symm).trans h
noncomputable def q4z:List (Nat×F7 S):=[]
theorem q4A:Z9n X (q4z):=trivial
abbrev q4B {R:Type}:Z27 S R:=Zgi
theorem q4C {R:Type}:Z3J X (q4B (R:=R)):=ZgQ X
def q4D:Key:=⟨[30],30,none,[0,0,1,0,1,1],0,4⟩
def q4E:StT S:=⟨(N (N L vK (N L vK L)) none (N L (some (.ptr 0 0)) (N L vK L))),(N L oi L),4⟩
def q4F:Way S:=⟨(.exit 0),⟨v1p,(N L oi L),9⟩,[.int,(.st 4)]⟩
def q4G:LE S:=⟨q4D,q4E,[.int,.int,.int,(.st 4)],[q4F]⟩
def q4H (x:t19):Int→(Int×Zw):=fun y0=>(y0,x.2.2.2)
noncomputable def q4I {R:Type} (x:t19) (k:(Int×Zw)→Option R):Option R:=(X35 x.1 x.2.2.2 (x.2.1,x.2.2.1)).bind (fun y0=>k (y0,x.2.2.2))
def q4J (x:t19) (v:(Int×Int)):t19:=(x.1,v.1,v.2,x.2.2.2)
theorem q4K (x:t19):LE.step X q4G q4z q0 q4B 12 x=XN x.1 x.2.2.2 x.2.1 x.2.2.1 (fun w0 w1=>(Sum.inl (x.1,w0,w1,x.2.2.2))) (fun p0=>(Sum.inr (p0,x.2.2.2))):=by kernel_rfl
theorem q4M {R:Type} (x:t19) (k:(Int×Zw)→Option R) (r:R) (h:q4I x k=some r):∃ o,Z5s (LE.step X q4G q4z q0 q4B 12) x o∧k o=some r:=by
 obtain ⟨o,h1,h2⟩:=Z0 h
 exact ⟨q4H x o,Zhl (st:=fun (x:t19)=>XH x.1 x.2.2.2) (prj:=fun x=>(x.2.1,x.2.2.1)) (emb:=q4J) (embO:=q4H) (fun x=>(q4K x).trans (by unfold XH XN;simp only [Zhd,Zh8,Zhe,Option.map_some,Option.map_none];rfl)) (fun _ _=>rfl) (fun _ _=>rfl) (fun _ _ _=>rfl) (fun _ _ _=>rfl) (fun _=>rfl) (Z1S.1 h1),by
  first
  | exact h2
  | (rcases o with o<;>exact h2)⟩
noncomputable def q4N {R:Type}:Z27 S R:=LE.ls X q4G q4I q4B
theorem q4O {R:Type}:Z3J X (q4N (R:=R)):=Zhq xok q4A (e:=q4G) q1 q4C q4M q4C
theorem q4P (x0:Zw) (x1:Int):Zhs X q4z [(.st 4),(.int .i64)] [(.int .i64)] q0 q4N 12 30 (x0,x1,())=X1b x0 x1:=by kernel_rfl
noncomputable def q4Q:F7 S:=⟨[(.st 4),(.int .i64)],[(.int .i64)],fun xs=>X30 xs.1 xs.2.1⟩
theorem q4R:Z7Q X 30 q4Q:=Zho (Zhn xok q4A q1 q4O 12 30) fun xs _ h=>((q4P xs.1 xs.2.1).trans (X4a xs.1 xs.2.1).symm).trans h
noncomputable def q4S:List (Nat×F7 S):=[(65,q3E),(30,q4Q)]
theorem q4T:Z9n X (q4S):=⟨q3F,q4R,trivial⟩
abbrev q4U {R:Type}:Z27 S R:=Zgi
theorem q4V {R:Type}:Z3J X (q4U (R:=R)):=ZgQ X
theorem q4W (x0:ZJ) (x1:Zm):Zhs X q4S [(.st 20),(.st 21)] [(.int .i64)] q0 q4U 12 60 (x0,x1,())=X1I x0 x1:=by kernel_rfl
noncomputable def q4X:F7 S:=⟨[(.st 20),(.st 21)],[(.int .i64)],fun xs=>X3T xs.1 xs.2.1⟩
theorem q4Y:Z7Q X 60 q4X:=Zho (Zhn xok q4T q1 q4V 12 60) fun xs _ h=>((q4W xs.1 xs.2.1).trans (X4P xs.1 xs.2.1).symm).trans h
noncomputable def q4Z:List (Nat×F7 S):=[(51,q4x),(60,q4X)]
theorem q50:Z9n X (q4Z):=⟨q4y,q4Y,trivial⟩
abbrev q51 {R:Type}:Z27 S R:=Zgi
theorem q52 {R:Type}:Z3J X (q51 (R:=R)):=ZgQ X
def q53:Key:=⟨[45],45,none,[0,0,1,0,1,1,1,1],0,22⟩
def q54:StT S:=⟨(N (N L vH (N (N L vK L) none L)) none (N L (some (.ptr 0 0)) L)),(N L oa L),22⟩
def q55:Way S:=⟨.ret,⟨v1f,(N L oa L),39⟩,[.int,.int,(.st 20)]⟩
def q56:Way S:=⟨(.exit 0),⟨L,(N L oa L),26⟩,[(.st 20)]⟩
def q57:LE S:=⟨q53,q54,[(.lst (.st 21)),.int,(.st 20)],[q55,q56]⟩
def q58 (x:t15):((Int×Int)⊕Unit)→((Int×Int×ZJ)⊕ZJ):=Sum.elim (fun y0=>(.inl (y0.1,y0.2,x.2.2))) (fun y1=>(.inr x.2.2))
noncomputable def q59 {R:Type} (x:t15) (k:((Int×Int×ZJ)⊕ZJ)→Option R):Option R:=(X1d x.1 x.2.2 x.2.1).bind (Sum.elim (fun y0=>k (.inl (y0.1,y0.2,x.2.2))) (fun y1=>k (.inr x.2.2)))
def q5a (x:t15) (v:Int):t15:=(x.1,v,x.2.2)
theorem q5b (x:t15):LE.step X q57 q4Z q0 q51 12 x=Xg x.1 x.2.2 x.2.1 (fun w0=>(Sum.inl (x.1,w0,x.2.2))) (fun p0 p1=>(Sum.inr (.inl (p0,p1,x.2.2)))) (Sum.inr (.inr x.2.2)):=by kernel_rfl
theorem q5d {R:Type} (x:t15) (k:((Int×Int×ZJ)⊕ZJ)→Option R) (r:R) (h:q59 x k=some r):∃ o,Z5s (LE.step X q57 q4Z q0 q51 12) x o∧k o=some r:=by
 obtain ⟨o,h1,h2⟩:=Z0 h
 exact ⟨q58 x o,Zhl (st:=fun (x:t15)=>Xb x.1 x.2.2) (prj:=fun x=>x.2.1) (emb:=q5a) (embO:=q58) (fun x=>(q5b x).trans (by unfold Xb Xg;simp only [Zhd,Zh8,Zhe,Option.map_some,Option.map_none];rfl)) (fun _ _=>rfl) (fun _ _=>rfl) (fun _ _ _=>rfl) (fun _ _ _=>rfl) (fun _=>rfl) (Z1S.1 h1),by
  first
  | exact h2
  | (rcases o with o|o<;>exact h2)⟩
noncomputable def q5e {R:Type}:Z27 S R:=LE.ls X q57 q59 q51
theorem q5f {R:Type}:Z3J X (q5e (R:=R)):=Zhq xok q50 (e:=q57) q1 q52 q5d q52
theorem q5g (x0:ZJ) (x1:List Zm):Zhs X q4Z [(.st 20),(.sl (.st 21))] [(.int .i64),(.int .i64)] q0 q5e 12 45 (x0,x1,())=XO x0 x1:=by kernel_rfl
noncomputable def q5h:F7 S:=⟨[(.st 20),(.sl (.st 21))],[(.int .i64),(.int .i64)],fun xs=>X1O xs.1 xs.2.1⟩
theorem q5i:Z7Q X 45 q5h:=Zho (Zhn xok q50 q1 q5f 12 45) fun xs _ h=>((q5g xs.1 xs.2.1).trans (X37 xs.1 xs.2.1).symm).trans h
noncomputable def q5j:List (Nat×F7 S):=[(45,q5h)]
theorem q5k:Z9n X (q5j):=⟨q5i,trivial⟩
abbrev q5l {R:Type}:Z27 S R:=Zgi
theorem q5m {R:Type}:Z3J X (q5l (R:=R)):=ZgQ X
theorem q5n (x0:ZJ) (x1:List Zm):Zhs X q5j [(.st 20),(.sl (.st 21))] [.bool] q0 q5l 12 22 (x0,x1,())=X1W x0 x1:=by kernel_rfl
noncomputable def q5o:F7 S:=⟨[(.st 20),(.sl (.st 21))],[.bool],fun xs=>X4l xs.1 xs.2.1⟩
theorem q5p:Z7Q X 22 q5o:=Zho (Zhn xok q5k q1 q5m 12 22) fun xs _ h=>((q5n xs.1 xs.2.1).trans (X56 xs.1 xs.2.1).symm).trans h
noncomputable def q5q:List (Nat×F7 S):=[]
theorem q5r:Z9n X (q5q):=trivial
abbrev q5s {R:Type}:Z27 S R:=Zgi
theorem q5t {R:Type}:Z3J X (q5s (R:=R)):=ZgQ X
def q5u:Key:=⟨[102],102,none,[0,0,1,0,1,1],0,4⟩
def q5v:StT S:=⟨(N (N (N (N L (some (.iter 3)) L) (some (.int .i32 0)) L) none L) vD L),o1q,4⟩
def q5w:Way S:=⟨.ret,⟨(N L none (N L vL L)),o1q,23⟩,[.bool,.str,.nat]⟩
def q5x:Way S:=⟨(.exit 0),⟨(N (N (N L (some (.int .i32 0)) L) none L) vD L),o1q,6⟩,[.int,.str,.str,.nat]⟩
def q5y:LE S:=⟨q5u,q5v,[.int,.str,.str,.nat],[q5w,q5x]⟩
def q5z (x:tW):((Bool×Nat)⊕(Int×Nat))→tI:=Sum.elim (fun y0=>(.inl (y0.1,x.2.2.1,y0.2))) (fun y1=>(.inr (y1.1,x.2.1,x.2.2.1,y1.2)))
noncomputable def q5A {R:Type} (x:tW) (k:tI→Option R):Option R:=(X3G x.2.1 x.2.2.1 (x.1,x.2.2.2)).bind (Sum.elim (fun y0=>k (.inl (y0.1,x.2.2.1,y0.2))) (fun y1=>k (.inr (y1.1,x.2.1,x.2.2.1,y1.2))))
def q5B (x:tW) (v:(Int×Nat)):tW:=(v.1,x.2.1,x.2.2.1,v.2)
theorem q5C (x:tW):LE.step X q5y q5q q0 q5s 12 x=WF x.2.1 x.2.2.1 x.1 x.2.2.2 (fun w0 w1=>(Sum.inl (w0,x.2.1,x.2.2.1,w1))) (fun p0 p1=>(Sum.inr (.inl (p0,x.2.2.1,p1)))) (fun p0 p1=>(Sum.inr (.inr (p0,x.2.1,x.2.2.1,p1)))):=by kernel_rfl
theorem q5E {R:Type} (x:tW) (k:tI→Option R) (r:R) (h:q5A x k=some r):∃ o,Z5s (LE.step X q5y q5q q0 q5s 12) x o∧k o=some r:=by
 obtain ⟨o,h1,h2⟩:=Z0 h
 exact ⟨q5z x o,Zhl (st:=fun (x:tW)=>WD x.2.1 x.2.2.1) (prj:=fun x=>(x.1,x.2.2.2)) (emb:=q5B) (embO:=q5z) (fun x=>(q5C x).trans (by unfold WD WF;simp only [Zhd,Zh8,Zhe,Option.map_some,Option.map_none];rfl)) (fun _ _=>rfl) (fun _ _=>rfl) (fun _ _ _=>rfl) (fun _ _ _=>rfl) (fun _=>rfl) (Z1S.1 h1),by
  first
  | exact h2
  | (rcases o with o|o<;>exact h2)⟩
noncomputable def q5F {R:Type}:Z27 S R:=LE.ls X q5y q5A q5s
theorem q5G {R:Type}:Z3J X (q5F (R:=R)):=Zhq xok q5r (e:=q5y) q1 q5t q5E q5t
theorem q5H (x0:ByteArray):Zhs X q5q [.str] [.bool] q0 q5F 12 102 (x0,())=X2i x0:=by kernel_rfl
noncomputable def q5I:F7 S:=⟨[.str],[.bool],fun xs=>X2i xs.1⟩
theorem q5J:Z7Q X 102 q5I:=Zho (Zhn xok q5r q1 q5G 12 102) fun xs _ h=>(q5H xs.1).trans h
noncomputable def q5K:List (Nat×F7 S):=[]
theorem q5L:Z9n X (q5K):=trivial
abbrev q5M {R:Type}:Z27 S R:=Zgi
theorem q5N {R:Type}:Z3J X (q5M (R:=R)):=ZgQ X
def q5O:Key:=⟨[81,2,1,58,2,1,73],81,none,[0,0,1,0,1],0,17⟩
def q5P:StT S:=⟨(N (N (N (N L vK L) none L) (some (.fn (.func 91) [] [(.ptr 0 0),(.ptr 1 0)])) L) (some (.sl (.int .i64) [])) v1n),(N (N L ov L) ov L),17⟩
def q5Q:Way S:=⟨.ret,⟨v1m,(N (N L ov L) ov L),38⟩,[.int,.int,.int]⟩
def q5R:Way S:=⟨(.exit 0),⟨L,(N (N L ov L) ov L),18⟩,[.int,.int]⟩
def q5S:LE S:=⟨q5O,q5P,[.int,(.lst (.int .i64)),.int,.int,.int],[q5Q,q5R]⟩
def q5T (x:tV):(Int⊕Unit)→t11:=Sum.elim (fun y0=>(.inl (y0,x.2.2.2.1,x.2.2.2.2))) (fun y1=>(.inr (x.2.2.2.1,x.2.2.2.2)))
noncomputable def q5U {R:Type} (x:tV) (k:t11→Option R):Option R:=(X42 x.1 x.2.1 x.2.2.2.1 x.2.2.2.2 x.2.2.1).bind (Sum.elim (fun y0=>k (.inl (y0,x.2.2.2.1,x.2.2.2.2))) (fun y1=>k (.inr (x.2.2.2.1,x.2.2.2.2))))
def q5V (x:tV) (v:Int):tV:=(x.1,x.2.1,v,x.2.2.2.1,x.2.2.2.2)
theorem q5W (x:tV):LE.step X q5S q5K q0 q5M 12 x=X14 x.1 x.2.1 x.2.2.2.1 x.2.2.2.2 x.2.2.1 (fun w0=>(Sum.inl (x.1,x.2.1,w0,x.2.2.2.1,x.2.2.2.2))) (fun p0=>(Sum.inr (.inl (p0,x.2.2.2.1,x.2.2.2.2)))) (Sum.inr (.inr (x.2.2.2.1,x.2.2.2.2))):=by kernel_rfl
theorem q5Y {R:Type} (x:tV) (k:t11→Option R) (r:R) (h:q5U x k=some r):∃ o,Z5s (LE.step X q5S q5K q0 q5M 12) x o∧k o=some r:=by
 obtain ⟨o,h1,h2⟩:=Z0 h
 exact ⟨q5T x o,Zhl (st:=fun (x:tV)=>WY x.1 x.2.1 x.2.2.2.1 x.2.2.2.2) (prj:=fun x=>x.2.2.1) (emb:=q5V) (embO:=q5T) (fun x=>(q5W x).trans (by unfold WY X14;simp only [Zhd,Zh8,Zhe,Option.map_some,Option.map_none];rfl)) (fun _ _=>rfl) (fun _ _=>rfl) (fun _ _ _=>rfl) (fun _ _ _=>rfl) (fun _=>rfl) (Z1S.1 h1),by
  first
  | exact h2
  | (rcases o with o|o<;>exact h2)⟩
noncomputable def q5Z {R:Type}:Z27 S R:=LE.ls X q5S q5U q5M
theorem q60 {R:Type}:Z3J X (q5Z (R:=R)):=Zhq xok q5L (e:=q5S) q1 q5N q5Y q5N
theorem q61 (x0:Int) (x1:Int) (x2:List Int):Zhs X q5K [(.int .i64),(.int .i64),(.sl (.int .i64))] [.bool] q0 q5Z 12 73 (x0,x1,x2,())=WX x0 x1 x2:=by kernel_rfl
noncomputable def q62:F7 S:=⟨[(.int .i64),(.int .i64),(.sl (.int .i64))],[.bool],fun xs=>WX xs.1 xs.2.1 xs.2.2.1⟩
theorem q63:Z7Q X 73 q62:=Zho (Zhn xok q5L q1 q60 12 73) fun xs _ h=>(q61 xs.1 xs.2.1 xs.2.2.1).trans h
noncomputable def q64:List (Nat×F7 S):=[(73,q62)]
theorem q65:Z9n X (q64):=⟨q63,trivial⟩
abbrev q66 {R:Type}:Z27 S R:=Zgi
theorem q67 {R:Type}:Z3J X (q66 (R:=R)):=ZgQ X
def q68:Key:=⟨[90,2,1,71,2,1,53],90,none,[0,0,1,0,1],0,16⟩
def q69:StT S:=⟨(N (N (N (N L vK L) none L) (some (.fn (.func 72) [] [(.ptr 0 0)])) L) vJ v1n),(N L ov L),16⟩
def q6a:Way S:=⟨.ret,⟨v1m,(N (N L none (N (N L none (N L oj L)) none L)) ov (N L none (N o1r none L))),39⟩,[.int,(.st 2),.int,(.lst (.int .i64))]⟩
def q6b:Way S:=⟨(.exit 0),⟨L,(N L ov L),17⟩,[.int]⟩
def q6c:LE S:=⟨q68,q69,[.int,(.lst (.st 2)),.int,.int],[q6a,q6b]⟩
def q6d (x:t14):((Int×Zu×(List Int))⊕Unit)→((Int×Zu×Int×(List Int))⊕Int):=Sum.elim (fun y0=>(.inl (y0.1,y0.2.1,x.2.2.2,y0.2.2))) (fun y1=>(.inr x.2.2.2))
noncomputable def q6e {R:Type} (x:t14) (k:((Int×Zu×Int×(List Int))⊕Int)→Option R):Option R:=(X40 x.1 x.2.1 x.2.2.2 x.2.2.1).bind (Sum.elim (fun y0=>k (.inl (y0.1,y0.2.1,x.2.2.2,y0.2.2))) (fun y1=>k (.inr x.2.2.2)))
def q6f (x:t14) (v:Int):t14:=(x.1,x.2.1,v,x.2.2.2)
theorem q6g (x:t14):LE.step X q6c q64 q0 q66 12 x=X13 x.1 x.2.1 x.2.2.2 x.2.2.1 (fun w0=>(Sum.inl (x.1,x.2.1,w0,x.2.2.2))) (fun p0 p1 p2=>(Sum.inr (.inl (p0,p1,x.2.2.2,p2)))) (Sum.inr (.inr x.2.2.2)):=by kernel_rfl
theorem q6i {R:Type} (x:t14) (k:((Int×Zu×Int×(List Int))⊕Int)→Option R) (r:R) (h:q6e x k=some r):∃ o,Z5s (LE.step X q6c q64 q0 q66 12) x o∧k o=some r:=by
 obtain ⟨o,h1,h2⟩:=Z0 h
 exact ⟨q6d x o,Zhl (st:=fun (x:t14)=>WW x.1 x.2.1 x.2.2.2) (prj:=fun x=>x.2.2.1) (emb:=q6f) (embO:=q6d) (fun x=>(q6g x).trans (by unfold WW X13;simp only [Zhd,Zh8,Zhe,Option.map_some,Option.map_none];rfl)) (fun _ _=>rfl) (fun _ _=>rfl) (fun _ _ _=>rfl) (fun _ _ _=>rfl) (fun _=>rfl) (Z1S.1 h1),by
  first
  | exact h2
  | (rcases o with o|o<;>exact h2)⟩
noncomputable def q6j {R:Type}:Z27 S R:=LE.ls X q6c q6e q66
theorem q6k {R:Type}:Z3J X (q6j (R:=R)):=Zhq xok q65 (e:=q6c) q1 q67 q6i q67
theorem q6l (x0:Int) (x1:List Zu):Zhs X q64 [(.int .i64),(.sl (.st 2))] [.bool] q0 q6j 12 53 (x0,x1,())=X3l x0 x1:=by kernel_rfl
noncomputable def q6m:F7 S:=⟨[(.int .i64),(.sl (.st 2))],[.bool],fun xs=>X3l xs.1 xs.2.1⟩
theorem q6n:Z7Q X 53 q6m:=Zho (Zhn xok q65 q1 q6k 12 53) fun xs _ h=>(q6l xs.1 xs.2.1).trans h
noncomputable def q6o:List (Nat×F7 S):=[(73,q62)]
theorem q6p:Z9n X (q6o):=⟨q63,trivial⟩
abbrev q6q {R:Type}:Z27 S R:=Zgi
theorem q6r {R:Type}:Z3J X (q6q (R:=R)):=ZgQ X
def q6s:Key:=⟨[103],103,none,[0,0,1,0,1,1,1],0,9⟩
def q6t:StT S:=⟨(N (N (N L vK (N L vK L)) none L) none (N (N L none (N L vK L)) none (N (N L (some (.sl (.st 3) [])) L) none L))),o1r,9⟩
def q6u:Way S:=⟨.ret,⟨(N L none (N L vK L)),(N (N (N L os L) none L) none (N (N (N (N L os L) none L) none (N L ok L)) none L)),26⟩,[.int,(.lst (.int .i64)),(.lst (.int .i64)),(.st 3)]⟩
def q6v:Way S:=⟨.ret,⟨(N L none (N L vK L)),oW,26⟩,[.int,(.lst (.int .i64)),(.lst (.int .i64)),(.lst (.int .i64)),(.st 3)]⟩
def q6w:Way S:=⟨.ret,⟨(N L none (N L vK L)),oW,31⟩,[.int,(.lst (.int .i64)),(.lst (.int .i64)),(.lst (.int .i64)),(.st 3)]⟩
def q6x:Way S:=⟨(.exit 0),⟨L,o1r,10⟩,[(.lst (.int .i64))]⟩
def q6y:LE S:=⟨q6s,q6t,[.int,.int,.int,(.lst (.st 3)),(.lst (.int .i64))],[q6u,q6v,q6w,q6x]⟩
def q6z (x:tR):((Int×(List Int)×Zk)⊕(Int×(List Int)×(List Int)×Zk)⊕(Int×(List Int)×(List Int)×Zk)⊕Unit)→t9:=Sum.elim (fun y0=>(.inl (y0.1,x.2.2.2.2,y0.2.1,y0.2.2))) (Sum.elim (fun y1=>(.inr (.inl (y1.1,x.2.2.2.2,y1.2.1,y1.2.2.1,y1.2.2.2)))) (Sum.elim (fun y2=>(.inr (.inr (.inl (y2.1,x.2.2.2.2,y2.2.1,y2.2.2.1,y2.2.2.2))))) (fun y3=>(.inr (.inr (.inr x.2.2.2.2))))))
noncomputable def q6A {R:Type} (x:tR) (k:t9→Option R):Option R:=(X3d x.2.1 x.2.2.2.1 x.2.2.2.2 (x.1,x.2.2.1)).bind (Sum.elim (fun y0=>k (.inl (y0.1,x.2.2.2.2,y0.2.1,y0.2.2))) (Sum.elim (fun y1=>k (.inr (.inl (y1.1,x.2.2.2.2,y1.2.1,y1.2.2.1,y1.2.2.2)))) (Sum.elim (fun y2=>k (.inr (.inr (.inl (y2.1,x.2.2.2.2,y2.2.1,y2.2.2.1,y2.2.2.2))))) (fun y3=>k (.inr (.inr (.inr x.2.2.2.2)))))))
def q6B (x:tR) (v:(Int×Int)):tR:=(v.1,x.2.1,v.2,x.2.2.2.1,x.2.2.2.2)
theorem q6C (x:tR):LE.step X q6y q6o q0 q6q 12 x=XZ x.2.1 x.2.2.2.1 x.2.2.2.2 x.1 x.2.2.1 (fun w0 w1=>(Sum.inl (w0,x.2.1,w1,x.2.2.2.1,x.2.2.2.2))) (fun p0 p1 p2=>(Sum.inr (.inl (p0,x.2.2.2.2,p1,p2)))) (fun p0 p1 p2 p3=>(Sum.inr (.inr (.inl (p0,x.2.2.2.2,p1,p2,p3))))) (fun p0 p1 p2 p3=>(Sum.inr (.inr (.inr (.inl (p0,x.2.2.2.2,p1,p2,p3)))))) (Sum.inr (.inr (.inr (.inr x.2.2.2.2)))):=by kernel_rfl
theorem q6E {R:Type} (x:tR) (k:t9→Option R) (r:R) (h:q6A x k=some r):∃ o,Z5s (LE.step X q6y q6o q0 q6q 12) x o∧k o=some r:=by
 obtain ⟨o,h1,h2⟩:=Z0 h
 exact ⟨q6z x o,Zhl (st:=fun (x:tR)=>XQ x.2.1 x.2.2.2.1 x.2.2.2.2) (prj:=fun x=>(x.1,x.2.2.1)) (emb:=q6B) (embO:=q6z) (fun x=>(q6C x).trans (by unfold XQ XZ;simp only [Zhd,Zh8,Zhe,Option.map_some,Option.map_none];rfl)) (fun _ _=>rfl) (fun _ _=>rfl) (fun _ _ _=>rfl) (fun _ _ _=>rfl) (fun _=>rfl) (Z1S.1 h1),by
  first
  | exact h2
  | (rcases o with o|o|o|o<;>exact h2)⟩
noncomputable def q6F {R:Type}:Z27 S R:=LE.ls X q6y q6A q6q
theorem q6G {R:Type}:Z3J X (q6F (R:=R)):=Zhq xok q6p (e:=q6y) q1 q6r q6E q6r
theorem q6H (x0:List Zk):Zhs X q6o [(.sl (.st 3))] [(.int .i64)] q0 q6F 12 103 (x0,())=X2x x0:=by kernel_rfl
noncomputable def q6I:F7 S:=⟨[(.sl (.st 3))],[(.int .i64)],fun xs=>X2x xs.1⟩
theorem q6J:Z7Q X 103 q6I:=Zho (Zhn xok q6p q1 q6G 12 103) fun xs _ h=>(q6H xs.1).trans h
noncomputable def q6K:List (Nat×F7 S):=[(73,q62)]
theorem q6L:Z9n X (q6K):=⟨q63,trivial⟩
abbrev q6M {R:Type}:Z27 S R:=Zgi
theorem q6N {R:Type}:Z3J X (q6M (R:=R)):=ZgQ X
theorem q6O (x0:ZB) (x1:Int):Zhs X q6K [(.st 6),(.int .i64)] [(.int .i64)] q0 q6M 12 110 (x0,x1,())=X3Z x0 x1:=by kernel_rfl
noncomputable def q6P:F7 S:=⟨[(.st 6),(.int .i64)],[(.int .i64)],fun xs=>X3Z xs.1 xs.2.1⟩
theorem q6Q:Z7Q X 110 q6P:=Zho (Zhn xok q6L q1 q6N 12 110) fun xs _ h=>(q6O xs.1 xs.2.1).trans h
noncomputable def q6R:List (Nat×F7 S):=[]
theorem q6S:Z9n X (q6R):=trivial
abbrev q6T {R:Type}:Z27 S R:=Zgi
theorem q6U {R:Type}:Z3J X (q6T (R:=R)):=ZgQ X
theorem q6V (x0:Zu) (x1:Zu):Zhs X q6R [(.st 2),(.st 2)] [(.st 2)] q0 q6T 12 55 (x0,x1,())=X5T x0 x1:=by kernel_rfl
noncomputable def q6W:F7 S:=⟨[(.st 2),(.st 2)],[(.st 2)],fun xs=>X5T xs.1 xs.2.1⟩
theorem q6X:Z7Q X 55 q6W:=Zho (Zhn xok q6S q1 q6U 12 55) fun xs _ h=>(q6V xs.1 xs.2.1).trans h
noncomputable def q6Y:List (Nat×F7 S):=[]
theorem q6Z:Z9n X (q6Y):=trivial
abbrev q70 {R:Type}:Z27 S R:=Zgi
theorem q71 {R:Type}:Z3J X (q70 (R:=R)):=ZgQ X
theorem q72 (x0:Zu) (x1:Zu):Zhs X q6Y [(.st 2),(.st 2)] [(.int .i64)] q0 q70 12 75 (x0,x1,())=X5U x0 x1:=by kernel_rfl
noncomputable def q73:F7 S:=⟨[(.st 2),(.st 2)],[(.int .i64)],fun xs=>X5U xs.1 xs.2.1⟩
theorem q74:Z7Q X 75 q73:=Zho (Zhn xok q6Z q1 q71 12 75) fun xs _ h=>(q72 xs.1 xs.2.1).trans h
noncomputable def q75:List (Nat×F7 S):=[(73,q62),(53,q6m),(110,q6P),(55,q6W),(75,q73)]
theorem q76:Z9n X (q75):=⟨q63,q6n,q6Q,q6X,q74,trivial⟩
abbrev q77 {R:Type}:Z27 S R:=Zgi
theorem q78 {R:Type}:Z3J X (q77 (R:=R)):=ZgQ X
def q79:Key:=⟨[27,6,4,113,1,104],104,(some 27),[0,0,1,0,1,0,1,0,1,0,1,1,1],3,66⟩
def q7a:StT S:=⟨(N (N L none (N v1n vK L)) none (N (N (N (N (N L vJ L) none L) none L) (some (.ptr 58 0)) L) (some (.ptr 1 0)) (N v1n none L))),oO,66⟩
def q7b:Way S:=⟨(.exit 3),⟨(N (N L none (N L vK L)) none (N (N L (some (.ptr 58 0)) L) (some (.ptr 1 0)) L)),oO,67⟩,[.int,(.st 15),.bool,.int,.bool,(.st 15),.bool,.int,(.st 15),(.st 17)]⟩
def q7c:LE S:=⟨q79,q7a,[.int,.int,(.lst (.st 2)),.int,(.st 15),.bool,.int,.bool,(.st 15),.bool,.int,(.st 15),(.st 17)],[q7b]⟩
def q7d (x:tk):Int→tv:=fun y0=>(y0,x.2.2.2.2.1,x.2.2.2.2.2.1,x.2.2.2.2.2.2.1,x.2.2.2.2.2.2.2.1,x.2.2.2.2.2.2.2.2.1,x.2.2.2.2.2.2.2.2.2.1,x.2.2.2.2.2.2.2.2.2.2.1,x.2.2.2.2.2.2.2.2.2.2.2.1,x.2.2.2.2.2.2.2.2.2.2.2.2)
noncomputable def q7e {R:Type} (x:tk) (k:tv→Option R):Option R:=(W6 x.1 x.2.2.1 x.2.2.2.2.1 x.2.2.2.2.2.1 x.2.2.2.2.2.2.1 x.2.2.2.2.2.2.2.1 x.2.2.2.2.2.2.2.2.1 x.2.2.2.2.2.2.2.2.2.1 x.2.2.2.2.2.2.2.2.2.2.1 x.2.2.2.2.2.2.2.2.2.2.2.1 x.2.2.2.2.2.2.2.2.2.2.2.2 (x.2.1,x.2.2.2.1)).bind (fun y0=>k (y0,x.2.2.2.2.1,x.2.2.2.2.2.1,x.2.2.2.2.2.2.1,x.2.2.2.2.2.2.2.1,x.2.2.2.2.2.2.2.2.1,x.2.2.2.2.2.2.2.2.2.1,x.2.2.2.2.2.2.2.2.2.2.1,x.2.2.2.2.2.2.2.2.2.2.2.1,x.2.2.2.2.2.2.2.2.2.2.2.2))
def q7f (x:tk) (v:(Int×Int)):tk:=(x.1,v.1,x.2.2.1,v.2,x.2.2.2.2.1,x.2.2.2.2.2.1,x.2.2.2.2.2.2.1,x.2.2.2.2.2.2.2.1,x.2.2.2.2.2.2.2.2.1,x.2.2.2.2.2.2.2.2.2.1,x.2.2.2.2.2.2.2.2.2.2.1,x.2.2.2.2.2.2.2.2.2.2.2.1,x.2.2.2.2.2.2.2.2.2.2.2.2)
theorem q7g (x:tk):LE.step X q7c q75 q0 q77 12 x=Xl x.1 x.2.2.1 x.2.2.2.2.1 x.2.2.2.2.2.1 x.2.2.2.2.2.2.1 x.2.2.2.2.2.2.2.1 x.2.2.2.2.2.2.2.2.1 x.2.2.2.2.2.2.2.2.2.1 x.2.2.2.2.2.2.2.2.2.2.1 x.2.2.2.2.2.2.2.2.2.2.2.1 x.2.2.2.2.2.2.2.2.2.2.2.2 x.2.1 x.2.2.2.1 (fun w0 w1=>(Sum.inl (x.1,w0,x.2.2.1,w1,x.2.2.2.2.1,x.2.2.2.2.2.1,x.2.2.2.2.2.2.1,x.2.2.2.2.2.2.2.1,x.2.2.2.2.2.2.2.2.1,x.2.2.2.2.2.2.2.2.2.1,x.2.2.2.2.2.2.2.2.2.2.1,x.2.2.2.2.2.2.2.2.2.2.2.1,x.2.2.2.2.2.2.2.2.2.2.2.2))) (fun p0=>(Sum.inr (p0,x.2.2.2.2.1,x.2.2.2.2.2.1,x.2.2.2.2.2.2.1,x.2.2.2.2.2.2.2.1,x.2.2.2.2.2.2.2.2.1,x.2.2.2.2.2.2.2.2.2.1,x.2.2.2.2.2.2.2.2.2.2.1,x.2.2.2.2.2.2.2.2.2.2.2.1,x.2.2.2.2.2.2.2.2.2.2.2.2))):=by kernel_rfl
theorem q7i {R:Type} (x:tk) (k:tv→Option R) (r:R) (h:q7e x k=some r):∃ o,Z5s (LE.step X q7c q75 q0 q77 12) x o∧k o=some r:=by
 obtain ⟨o,h1,h2⟩:=Z0 h
 exact ⟨q7d x o,Zhl (st:=fun (x:tk)=>Xe x.1 x.2.2.1 x.2.2.2.2.1 x.2.2.2.2.2.1 x.2.2.2.2.2.2.1 x.2.2.2.2.2.2.2.1 x.2.2.2.2.2.2.2.2.1 x.2.2.2.2.2.2.2.2.2.1 x.2.2.2.2.2.2.2.2.2.2.1 x.2.2.2.2.2.2.2.2.2.2.2.1 x.2.2.2.2.2.2.2.2.2.2.2.2) (prj:=fun x=>(x.2.1,x.2.2.2.1)) (emb:=q7f) (embO:=q7d) (fun x=>(q7g x).trans (by unfold Xe Xl;simp only [Zhd,Zh8,Zhe,Option.map_some,Option.map_none];rfl)) (fun _ _=>rfl) (fun _ _=>rfl) (fun _ _ _=>rfl) (fun _ _ _=>rfl) (fun _=>rfl) (Z1S.1 h1),by
  first
  | exact h2
  | (rcases o with o<;>exact h2)⟩
noncomputable def q7j {R:Type}:Z27 S R:=LE.ls X q7c q7e q77
theorem q7k {R:Type}:Z3J X (q7j (R:=R)):=Zhq xok q76 (e:=q7c) q1 q78 q7i q78
def q7l:Key:=⟨[113,1,104],113,none,[0,0,1,1],0,45⟩
def q7m:StT S:=⟨(N (N (N L (some (.ptr 38 0)) (N (N L vK L) none L)) none L) (some (.yld 27)) (N v1m none (N (N (N L vJ L) none L) none L))),oP,45⟩
def q7n:Way S:=⟨.ret,⟨L,(N (N (N (N L none (N L o8 L)) none (N L none (N L (some (.loop 104 (N (N (N (N (N L vL L) none L) vK L) (some (.ptr 0 0)) (N (N L none (N L vL L)) none L)) vm (N (N (N L vL L) none (N L none (N L ve L))) (some (.ptr 1 0)) L)) (29::[]) .skip .skip 1 .ret (1::(104::[])) (0::(1::(0::(1::(1::(1::[])))))))) L))) ot L) o8 (N (N (N (N L none (N L oj L)) none L) none L) none (N (N L none (N L none (N L o9 L))) os o1s))),76⟩,[(.st 15),.bool,.int,.bool,(.st 15),.bool,.int,(.st 15),(.st 2),(.st 17),(.lst (.int .i64)),(.st 2)]⟩
def q7o:Way S:=⟨(.exit 0),⟨L,oP,46⟩,[(.st 15),.bool,.int,.bool,(.st 15),.bool,.int,(.st 15),(.lst (.int .i64)),(.st 2)]⟩
def q7p:LE S:=⟨q7l,q7m,[.int,.int,(.lst (.st 2)),(.st 15),.bool,.int,.bool,(.st 15),.bool,.int,(.st 15),(.lst (.int .i64)),(.st 2)],[q7n,q7o]⟩
def q7q (x:tj):((Int×Zu×Z6×Zu)⊕Zu)→t6:=Sum.elim (fun y0=>(.inl (x.2.2.2.1,x.2.2.2.2.1,x.2.2.2.2.2.1,x.2.2.2.2.2.2.1,x.2.2.2.2.2.2.2.1,x.2.2.2.2.2.2.2.2.1,y0.1,x.2.2.2.2.2.2.2.2.2.2.1,y0.2.1,y0.2.2.1,x.2.2.2.2.2.2.2.2.2.2.2.1,y0.2.2.2))) (fun y1=>(.inr (x.2.2.2.1,x.2.2.2.2.1,x.2.2.2.2.2.1,x.2.2.2.2.2.2.1,x.2.2.2.2.2.2.2.1,x.2.2.2.2.2.2.2.2.1,x.2.2.2.2.2.2.2.2.2.1,x.2.2.2.2.2.2.2.2.2.2.1,x.2.2.2.2.2.2.2.2.2.2.2.1,y1)))
noncomputable def q7r {R:Type} (x:tj) (k:t6→Option R):Option R:=(X2r x.1 x.2.2.1 x.2.2.2.1 x.2.2.2.2.1 x.2.2.2.2.2.1 x.2.2.2.2.2.2.1 x.2.2.2.2.2.2.2.1 x.2.2.2.2.2.2.2.2.1 x.2.2.2.2.2.2.2.2.2.1 x.2.2.2.2.2.2.2.2.2.2.1 x.2.2.2.2.2.2.2.2.2.2.2.1 (x.2.1,x.2.2.2.2.2.2.2.2.2.2.2.2)).bind (Sum.elim (fun y0=>k (.inl (x.2.2.2.1,x.2.2.2.2.1,x.2.2.2.2.2.1,x.2.2.2.2.2.2.1,x.2.2.2.2.2.2.2.1,x.2.2.2.2.2.2.2.2.1,y0.1,x.2.2.2.2.2.2.2.2.2.2.1,y0.2.1,y0.2.2.1,x.2.2.2.2.2.2.2.2.2.2.2.1,y0.2.2.2))) (fun y1=>k (.inr (x.2.2.2.1,x.2.2.2.2.1,x.2.2.2.2.2.1,x.2.2.2.2.2.2.1,x.2.2.2.2.2.2.2.1,x.2.2.2.2.2.2.2.2.1,x.2.2.2.2.2.2.2.2.2.1,x.2.2.2.2.2.2.2.2.2.2.1,x.2.2.2.2.2.2.2.2.2.2.2.1,y1))))
def q7s (x:tj) (v:(Int×Zu)):tj:=(x.1,v.1,x.2.2.1,x.2.2.2.1,x.2.2.2.2.1,x.2.2.2.2.2.1,x.2.2.2.2.2.2.1,x.2.2.2.2.2.2.2.1,x.2.2.2.2.2.2.2.2.1,x.2.2.2.2.2.2.2.2.2.1,x.2.2.2.2.2.2.2.2.2.2.1,x.2.2.2.2.2.2.2.2.2.2.2.1,v.2)
theorem q7t (x:tj):LE.step X q7p q75 q0 q7j 12 x=Xk x.1 x.2.2.1 x.2.2.2.1 x.2.2.2.2.1 x.2.2.2.2.2.1 x.2.2.2.2.2.2.1 x.2.2.2.2.2.2.2.1 x.2.2.2.2.2.2.2.2.1 x.2.2.2.2.2.2.2.2.2.1 x.2.2.2.2.2.2.2.2.2.2.1 x.2.2.2.2.2.2.2.2.2.2.2.1 x.2.1 x.2.2.2.2.2.2.2.2.2.2.2.2 (fun w0 w1=>(Sum.inl (x.1,w0,x.2.2.1,x.2.2.2.1,x.2.2.2.2.1,x.2.2.2.2.2.1,x.2.2.2.2.2.2.1,x.2.2.2.2.2.2.2.1,x.2.2.2.2.2.2.2.2.1,x.2.2.2.2.2.2.2.2.2.1,x.2.2.2.2.2.2.2.2.2.2.1,x.2.2.2.2.2.2.2.2.2.2.2.1,w1))) (fun p0 p1 p2 p3=>(Sum.inr (.inl (x.2.2.2.1,x.2.2.2.2.1,x.2.2.2.2.2.1,x.2.2.2.2.2.2.1,x.2.2.2.2.2.2.2.1,x.2.2.2.2.2.2.2.2.1,p0,x.2.2.2.2.2.2.2.2.2.2.1,p1,p2,x.2.2.2.2.2.2.2.2.2.2.2.1,p3)))) (fun p0=>(Sum.inr (.inr (x.2.2.2.1,x.2.2.2.2.1,x.2.2.2.2.2.1,x.2.2.2.2.2.2.1,x.2.2.2.2.2.2.2.1,x.2.2.2.2.2.2.2.2.1,x.2.2.2.2.2.2.2.2.2.1,x.2.2.2.2.2.2.2.2.2.2.1,x.2.2.2.2.2.2.2.2.2.2.2.1,p0)))):=by kernel_rfl
theorem q7v {R:Type} (x:tj) (k:t6→Option R) (r:R) (h:q7r x k=some r):∃ o,Z5s (LE.step X q7p q75 q0 q7j 12) x o∧k o=some r:=by
 obtain ⟨o,h1,h2⟩:=Z0 h
 exact ⟨q7q x o,Zhl (st:=fun (x:tj)=>Xd x.1 x.2.2.1 x.2.2.2.1 x.2.2.2.2.1 x.2.2.2.2.2.1 x.2.2.2.2.2.2.1 x.2.2.2.2.2.2.2.1 x.2.2.2.2.2.2.2.2.1 x.2.2.2.2.2.2.2.2.2.1 x.2.2.2.2.2.2.2.2.2.2.1 x.2.2.2.2.2.2.2.2.2.2.2.1) (prj:=fun x=>(x.2.1,x.2.2.2.2.2.2.2.2.2.2.2.2)) (emb:=q7s) (embO:=q7q) (fun x=>(q7t x).trans (by unfold Xd Xk;simp only [Zhd,Zh8,Zhe,Option.map_some,Option.map_none];rfl)) (fun _ _=>rfl) (fun _ _=>rfl) (fun _ _ _=>rfl) (fun _ _ _=>rfl) (fun _=>rfl) (Z1S.1 h1),by
  first
  | exact h2
  | (rcases o with o|o<;>exact h2)⟩
noncomputable def q7w {R:Type}:Z27 S R:=LE.ls X q7p q7r q7j
theorem q7x {R:Type}:Z3J X (q7w (R:=R)):=Zhq xok q76 (e:=q7p) q1 q7k q7v q7k
theorem q7y (x0:Z8):Zhs X q75 [(.st 15)] [(.int .i64)] q0 q7w 12 104 (x0,())=X1k x0:=by kernel_rfl
noncomputable def q7z:F7 S:=⟨[(.st 15)],[(.int .i64)],fun xs=>X1k xs.1⟩
theorem q7A:Z7Q X 104 q7z:=Zho (Zhn xok q76 q1 q7x 12 104) fun xs _ h=>(q7y xs.1).trans h
noncomputable def q7B:List (Nat×F7 S):=[(102,q5I),(53,q6m),(103,q6I),(104,q7z)]
theorem q7C:Z9n X (q7B):=⟨q5J,q6n,q6J,q7A,trivial⟩
abbrev q7D {R:Type}:Z27 S R:=Zgi
theorem q7E {R:Type}:Z3J X (q7D (R:=R)):=ZgQ X
def q7F:Key:=⟨[88],88,none,[0,0,1,0,1,1,1,1],0,17⟩
def q7G:StT S:=⟨(N (N v1m (some (.ptr 0 0)) L) none (N v1m none (N (N (N L (some (.sl (.st 4) [])) L) none L) vl L))),o1h,17⟩
def q7H:Way S:=⟨.ret,⟨v1g,o17,57⟩,[.int,.int,.int,(.st 4),(.st 8),(.mp .str (.int .i64))]⟩
def q7I:Way S:=⟨.ret,⟨v1g,o17,62⟩,[.int,.int,.int,(.st 4),(.st 8),(.mp .str (.int .i64))]⟩
def q7J:Way S:=⟨.ret,⟨v1g,oX,63⟩,[.int,.int,.int,(.st 4),(.st 8),(.mp .str (.int .i64)),(.lst (.st 2))]⟩
def q7K:Way S:=⟨.ret,⟨v1g,oX,66⟩,[.int,.int,.int,(.st 4),(.st 8),(.mp .str (.int .i64)),(.lst (.st 2))]⟩
def q7L:Way S:=⟨(.exit 0),⟨(N (N L (some (.ptr 0 0)) L) none (N L none (N L vl L))),o1h,18⟩,[(.st 8),(.mp .str (.int .i64))]⟩
def q7M:LE S:=⟨q7F,q7G,[.int,.int,(.lst (.st 4)),(.st 8),(.mp .str (.int .i64))],[q7H,q7I,q7J,q7K,q7L]⟩
def q7N (x:tJ):((Int×Int×Int×Zw×t1a)⊕(Int×Int×Int×Zw×t1a)⊕(Int×Int×Int×Zw×t1a×(List Zu))⊕(Int×Int×Int×Zw×t1a×(List Zu))⊕t1a)→t0:=Sum.elim (fun y0=>(.inl (y0.1,y0.2.1,y0.2.2.1,y0.2.2.2.1,x.2.2.2.1,y0.2.2.2.2))) (Sum.elim (fun y1=>(.inr (.inl (y1.1,y1.2.1,y1.2.2.1,y1.2.2.2.1,x.2.2.2.1,y1.2.2.2.2)))) (Sum.elim (fun y2=>(.inr (.inr (.inl (y2.1,y2.2.1,y2.2.2.1,y2.2.2.2.1,x.2.2.2.1,y2.2.2.2.2.1,y2.2.2.2.2.2))))) (Sum.elim (fun y3=>(.inr (.inr (.inr (.inl (y3.1,y3.2.1,y3.2.2.1,y3.2.2.2.1,x.2.2.2.1,y3.2.2.2.2.1,y3.2.2.2.2.2)))))) (fun y4=>(.inr (.inr (.inr (.inr (x.2.2.2.1,y4)))))))))
noncomputable def q7O {R:Type} (x:tJ) (k:t0→Option R):Option R:=(X3n x.1 x.2.2.1 x.2.2.2.1 (x.2.1,x.2.2.2.2)).bind (Sum.elim (fun y0=>k (.inl (y0.1,y0.2.1,y0.2.2.1,y0.2.2.2.1,x.2.2.2.1,y0.2.2.2.2))) (Sum.elim (fun y1=>k (.inr (.inl (y1.1,y1.2.1,y1.2.2.1,y1.2.2.2.1,x.2.2.2.1,y1.2.2.2.2)))) (Sum.elim (fun y2=>k (.inr (.inr (.inl (y2.1,y2.2.1,y2.2.2.1,y2.2.2.2.1,x.2.2.2.1,y2.2.2.2.2.1,y2.2.2.2.2.2))))) (Sum.elim (fun y3=>k (.inr (.inr (.inr (.inl (y3.1,y3.2.1,y3.2.2.1,y3.2.2.2.1,x.2.2.2.1,y3.2.2.2.2.1,y3.2.2.2.2.2)))))) (fun y4=>k (.inr (.inr (.inr (.inr (x.2.2.2.1,y4))))))))))
def q7P (x:tJ) (v:(Int×t1a)):tJ:=(x.1,v.1,x.2.2.1,x.2.2.2.1,v.2)
theorem q7Q (x:tJ):LE.step X q7M q7B q0 q7D 12 x=Wm x.1 x.2.2.1 x.2.2.2.1 x.2.1 x.2.2.2.2 (fun w0 w1=>(Sum.inl (x.1,w0,x.2.2.1,x.2.2.2.1,w1))) (fun p0 p1 p2 p3 p4=>(Sum.inr (.inl (p0,p1,p2,p3,x.2.2.2.1,p4)))) (fun p0 p1 p2 p3 p4=>(Sum.inr (.inr (.inl (p0,p1,p2,p3,x.2.2.2.1,p4))))) (fun p0 p1 p2 p3 p4 p5=>(Sum.inr (.inr (.inr (.inl (p0,p1,p2,p3,x.2.2.2.1,p4,p5)))))) (fun p0 p1 p2 p3 p4 p5=>(Sum.inr (.inr (.inr (.inr (.inl (p0,p1,p2,p3,x.2.2.2.1,p4,p5))))))) (fun p0=>(Sum.inr (.inr (.inr (.inr (.inr (x.2.2.2.1,p0))))))):=by kernel_rfl
theorem q7S {R:Type} (x:tJ) (k:t0→Option R) (r:R) (h:q7O x k=some r):∃ o,Z5s (LE.step X q7M q7B q0 q7D 12) x o∧k o=some r:=by
 obtain ⟨o,h1,h2⟩:=Z0 h
 exact ⟨q7N x o,Zhl (st:=fun (x:tJ)=>W4 x.1 x.2.2.1 x.2.2.2.1) (prj:=fun x=>(x.2.1,x.2.2.2.2)) (emb:=q7P) (embO:=q7N) (fun x=>(q7Q x).trans (by unfold W4 Wm;simp only [Zhd,Zh8,Zhe,Option.map_some,Option.map_none];rfl)) (fun _ _=>rfl) (fun _ _=>rfl) (fun _ _ _=>rfl) (fun _ _ _=>rfl) (fun _=>rfl) (Z1S.1 h1),by
  first
  | exact h2
  | (rcases o with o|o|o|o|o<;>exact h2)⟩
noncomputable def q7T {R:Type}:Z27 S R:=LE.ls X q7M q7O q7D
theorem q7U {R:Type}:Z3J X (q7T (R:=R)):=Zhq xok q7C (e:=q7M) q1 q7E q7S q7E
def q7V:Key:=⟨[88],88,none,[0,0,1,0,1,1,1,1,1,1],2,26⟩
def q7W:StT S:=⟨(N (N L none (N L none v1p)) none (N (N L none (N (N L none (N L (some (.sl (.st 7) [])) L)) none L)) none (N L vl v1p))),o1h,26⟩
def q7X:Way S:=⟨.ret,⟨v1g,o16,58⟩,[.int,.int,.int,(.st 8),(.mp .str (.int .i64)),(.st 7)]⟩
def q7Y:Way S:=⟨.ret,⟨v1g,o16,63⟩,[.int,.int,.int,(.st 8),(.mp .str (.int .i64)),(.st 7)]⟩
def q7Z:Way S:=⟨.ret,⟨v1g,o16,67⟩,[.int,.int,.int,(.st 8),(.mp .str (.int .i64)),(.st 7)]⟩
def q80:Way S:=⟨(.exit 2),⟨L,o1h,27⟩,[(.st 8),(.mp .str (.int .i64))]⟩
def q81:LE S:=⟨q7V,q7W,[.int,(.lst (.st 7)),.int,(.st 8),(.mp .str (.int .i64))],[q7X,q7Y,q7Z,q80]⟩
def q82 (x:tK):(tO⊕tO⊕tO⊕t1a)→t4:=Sum.elim (fun y0=>(.inl (y0.1,y0.2.1,y0.2.2.1,x.2.2.2.1,y0.2.2.2.1,y0.2.2.2.2))) (Sum.elim (fun y1=>(.inr (.inl (y1.1,y1.2.1,y1.2.2.1,x.2.2.2.1,y1.2.2.2.1,y1.2.2.2.2)))) (Sum.elim (fun y2=>(.inr (.inr (.inl (y2.1,y2.2.1,y2.2.2.1,x.2.2.2.1,y2.2.2.2.1,y2.2.2.2.2))))) (fun y3=>(.inr (.inr (.inr (x.2.2.2.1,y3)))))))
noncomputable def q83 {R:Type} (x:tK) (k:t4→Option R):Option R:=(X1v x.1 x.2.1 x.2.2.2.1 (x.2.2.1,x.2.2.2.2)).bind (Sum.elim (fun y0=>k (.inl (y0.1,y0.2.1,y0.2.2.1,x.2.2.2.1,y0.2.2.2.1,y0.2.2.2.2))) (Sum.elim (fun y1=>k (.inr (.inl (y1.1,y1.2.1,y1.2.2.1,x.2.2.2.1,y1.2.2.2.1,y1.2.2.2.2)))) (Sum.elim (fun y2=>k (.inr (.inr (.inl (y2.1,y2.2.1,y2.2.2.1,x.2.2.2.1,y2.2.2.2.1,y2.2.2.2.2))))) (fun y3=>k (.inr (.inr (.inr (x.2.2.2.1,y3))))))))
def q84 (x:tK) (v:(Int×t1a)):tK:=(x.1,x.2.1,v.1,x.2.2.2.1,v.2)
theorem q85 (x:tK):LE.step X q81 q7B q0 q7T 12 x=Wn x.1 x.2.1 x.2.2.2.1 x.2.2.1 x.2.2.2.2 (fun w0 w1=>(Sum.inl (x.1,x.2.1,w0,x.2.2.2.1,w1))) (fun p0 p1 p2 p3 p4=>(Sum.inr (.inl (p0,p1,p2,x.2.2.2.1,p3,p4)))) (fun p0 p1 p2 p3 p4=>(Sum.inr (.inr (.inl (p0,p1,p2,x.2.2.2.1,p3,p4))))) (fun p0 p1 p2 p3 p4=>(Sum.inr (.inr (.inr (.inl (p0,p1,p2,x.2.2.2.1,p3,p4)))))) (fun p0=>(Sum.inr (.inr (.inr (.inr (x.2.2.2.1,p0)))))):=by kernel_rfl
theorem q87 {R:Type} (x:tK) (k:t4→Option R) (r:R) (h:q83 x k=some r):∃ o,Z5s (LE.step X q81 q7B q0 q7T 12) x o∧k o=some r:=by
 obtain ⟨o,h1,h2⟩:=Z0 h
 exact ⟨q82 x o,Zhl (st:=fun (x:tK)=>W5 x.1 x.2.1 x.2.2.2.1) (prj:=fun x=>(x.2.2.1,x.2.2.2.2)) (emb:=q84) (embO:=q82) (fun x=>(q85 x).trans (by unfold W5 Wn;simp only [Zhd,Zh8,Zhe,Option.map_some,Option.map_none];rfl)) (fun _ _=>rfl) (fun _ _=>rfl) (fun _ _ _=>rfl) (fun _ _ _=>rfl) (fun _=>rfl) (Z1S.1 h1),by
  first
  | exact h2
  | (rcases o with o|o|o|o<;>exact h2)⟩
noncomputable def q88 {R:Type}:Z27 S R:=LE.ls X q81 q83 q7T
theorem q89 {R:Type}:Z3J X (q88 (R:=R)):=Zhq xok q7C (e:=q81) q1 q7U q87 q7U
theorem q8a (x0:Zl):Zhs X q7B [(.st 8)] [(.int .i64),(.int .i64),(.int .i64)] q0 q88 12 88 (x0,())=X2q x0:=by kernel_rfl
noncomputable def q8b:F7 S:=⟨[(.st 8)],[(.int .i64),(.int .i64),(.int .i64)],fun xs=>X2q xs.1⟩
theorem q8c:Z7Q X 88 q8b:=Zho (Zhn xok q7C q1 q89 12 88) fun xs _ h=>(q8a xs.1).trans h
noncomputable def q8d:List (Nat×F7 S):=[]
theorem q8e:Z9n X (q8d):=trivial
abbrev q8f {R:Type}:Z27 S R:=Zgi
theorem q8g {R:Type}:Z3J X (q8f (R:=R)):=ZgQ X
def q8h:Key:=⟨[81,2,1,58,2,1,41],81,none,[0,0,1,0,1],0,17⟩
def q8i:StT S:=⟨(N (N (N (N L vK L) none L) (some (.fn (.func 59) [] [(.ptr 0 0),(.ptr 1 0)])) L) (some (.sl (.int .i64) [])) v1n),(N (N L ov L) ov L),17⟩
def q8j:Way S:=⟨.ret,⟨v1m,(N (N L ov L) ov L),38⟩,[.int,.int,.int]⟩
def q8k:Way S:=⟨(.exit 0),⟨L,(N (N L ov L) ov L),18⟩,[.int,.int]⟩
def q8l:LE S:=⟨q8h,q8i,[.int,(.lst (.int .i64)),.int,.int,.int],[q8j,q8k]⟩
def q8m (x:tV):(Int⊕Unit)→t11:=Sum.elim (fun y0=>(.inl (y0,x.2.2.2.1,x.2.2.2.2))) (fun y1=>(.inr (x.2.2.2.1,x.2.2.2.2)))
noncomputable def q8n {R:Type} (x:tV) (k:t11→Option R):Option R:=(X3v x.1 x.2.1 x.2.2.2.1 x.2.2.2.2 x.2.2.1).bind (Sum.elim (fun y0=>k (.inl (y0,x.2.2.2.1,x.2.2.2.2))) (fun y1=>k (.inr (x.2.2.2.1,x.2.2.2.2))))
def q8o (x:tV) (v:Int):tV:=(x.1,x.2.1,v,x.2.2.2.1,x.2.2.2.2)
theorem q8p (x:tV):LE.step X q8l q8d q0 q8f 12 x=Ws x.1 x.2.1 x.2.2.2.1 x.2.2.2.2 x.2.2.1 (fun w0=>(Sum.inl (x.1,x.2.1,w0,x.2.2.2.1,x.2.2.2.2))) (fun p0=>(Sum.inr (.inl (p0,x.2.2.2.1,x.2.2.2.2)))) (Sum.inr (.inr (x.2.2.2.1,x.2.2.2.2))):=by kernel_rfl
theorem q8r {R:Type} (x:tV) (k:t11→Option R) (r:R) (h:q8n x k=some r):∃ o,Z5s (LE.step X q8l q8d q0 q8f 12) x o∧k o=some r:=by
 obtain ⟨o,h1,h2⟩:=Z0 h
 exact ⟨q8m x o,Zhl (st:=fun (x:tV)=>Wc x.1 x.2.1 x.2.2.2.1 x.2.2.2.2) (prj:=fun x=>x.2.2.1) (emb:=q8o) (embO:=q8m) (fun x=>(q8p x).trans (by unfold Wc Ws;simp only [Zhd,Zh8,Zhe,Option.map_some,Option.map_none];rfl)) (fun _ _=>rfl) (fun _ _=>rfl) (fun _ _ _=>rfl) (fun _ _ _=>rfl) (fun _=>rfl) (Z1S.1 h1),by
  first
  | exact h2
  | (rcases o with o|o<;>exact h2)⟩
noncomputable def q8s {R:Type}:Z27 S R:=LE.ls X q8l q8n q8f
theorem q8t {R:Type}:Z3J X (q8s (R:=R)):=Zhq xok q8e (e:=q8l) q1 q8g q8r q8g
theorem q8u (x0:Int) (x1:Int) (x2:List Int):Zhs X q8d [(.int .i64),(.int .i64),(.sl (.int .i64))] [.bool] q0 q8s 12 41 (x0,x1,x2,())=X1G x0 x1 x2:=by kernel_rfl
noncomputable def q8v:F7 S:=⟨[(.int .i64),(.int .i64),(.sl (.int .i64))],[.bool],fun xs=>X2 xs.1 xs.2.1 xs.2.2.1⟩
theorem q8w:Z7Q X 41 q8v:=Zho (Zhn xok q8e q1 q8t 12 41) fun xs _ h=>((q8u xs.1 xs.2.1 xs.2.2.1).trans (X4J xs.1 xs.2.1 xs.2.2.1).symm).trans h
noncomputable def q8x:List (Nat×F7 S):=[(102,q5I),(41,q8v)]
theorem q8y:Z9n X (q8x):=⟨q5J,q8w,trivial⟩
abbrev q8z {R:Type}:Z27 S R:=Zgi
theorem q8A {R:Type}:Z3J X (q8z (R:=R)):=ZgQ X
def q8B:Key:=⟨[112,2,1,106,2,6,94],112,none,[0,0,1,0,1],0,25⟩
def q8C:StT S:=⟨vY,(N L ob L),25⟩
def q8D:Way S:=⟨.ret,⟨v1m,(N L ob o1d),44⟩,[.int,(.st 18),(.st 18)]⟩
def q8E:Way S:=⟨(.exit 0),⟨L,(N L ob L),26⟩,[(.st 18)]⟩
def q8F:LE S:=⟨q8B,q8C,[.int,(.lst (.st 18)),.int,(.st 18)],[q8D,q8E]⟩
def q8G (x:tQ):((Int×Z5)⊕Unit)→tP:=Sum.elim (fun y0=>(.inl (y0.1,x.2.2.2,y0.2))) (fun y1=>(.inr x.2.2.2))
noncomputable def q8H {R:Type} (x:tQ) (k:tP→Option R):Option R:=(X1J x.1 x.2.1 x.2.2.2 x.2.2.1).bind (Sum.elim (fun y0=>k (.inl (y0.1,x.2.2.2,y0.2))) (fun y1=>k (.inr x.2.2.2)))
def q8I (x:tQ) (v:Int):tQ:=(x.1,x.2.1,v,x.2.2.2)
theorem q8J (x:tQ):LE.step X q8F q8x q0 q8z 12 x=Xz x.1 x.2.1 x.2.2.2 x.2.2.1 (fun w0=>(Sum.inl (x.1,x.2.1,w0,x.2.2.2))) (fun p0 p1=>(Sum.inr (.inl (p0,x.2.2.2,p1)))) (Sum.inr (.inr x.2.2.2)):=by kernel_rfl
theorem q8L {R:Type} (x:tQ) (k:tP→Option R) (r:R) (h:q8H x k=some r):∃ o,Z5s (LE.step X q8F q8x q0 q8z 12) x o∧k o=some r:=by
 obtain ⟨o,h1,h2⟩:=Z0 h
 exact ⟨q8G x o,Zhl (st:=fun (x:tQ)=>Xu x.1 x.2.1 x.2.2.2) (prj:=fun x=>x.2.2.1) (emb:=q8I) (embO:=q8G) (fun x=>(q8J x).trans (by unfold Xu Xz;simp only [Zhd,Zh8,Zhe,Option.map_some,Option.map_none];rfl)) (fun _ _=>rfl) (fun _ _=>rfl) (fun _ _ _=>rfl) (fun _ _ _=>rfl) (fun _=>rfl) (Z1S.1 h1),by
  first
  | exact h2
  | (rcases o with o|o<;>exact h2)⟩
noncomputable def q8M {R:Type}:Z27 S R:=LE.ls X q8F q8H q8z
theorem q8N {R:Type}:Z3J X (q8M (R:=R)):=Zhq xok q8y (e:=q8F) q1 q8A q8L q8A
def q8O:Key:=⟨[112,2,1,106,2,6,94],112,none,[0,0,1,0,1],0,24⟩
def q8P:StT S:=⟨vY,(N L ob L),24⟩
def q8Q:Way S:=⟨.ret,⟨v1m,(N o1d ob L),43⟩,[.int,(.st 18),(.st 18)]⟩
def q8R:Way S:=⟨(.exit 0),⟨L,(N L ob L),25⟩,[(.st 18)]⟩
def q8S:LE S:=⟨q8O,q8P,[.int,(.lst (.st 18)),.int,(.st 18)],[q8Q,q8R]⟩
def q8T (x:tQ):((Int×Z5)⊕Unit)→tP:=Sum.elim (fun y0=>(.inl (y0.1,y0.2,x.2.2.2))) (fun y1=>(.inr x.2.2.2))
noncomputable def q8U {R:Type} (x:tQ) (k:tP→Option R):Option R:=(X1K x.1 x.2.1 x.2.2.2 x.2.2.1).bind (Sum.elim (fun y0=>k (.inl (y0.1,y0.2,x.2.2.2))) (fun y1=>k (.inr x.2.2.2)))
def q8V (x:tQ) (v:Int):tQ:=(x.1,x.2.1,v,x.2.2.2)
theorem q8W (x:tQ):LE.step X q8S q8x q0 q8M 12 x=XA x.1 x.2.1 x.2.2.2 x.2.2.1 (fun w0=>(Sum.inl (x.1,x.2.1,w0,x.2.2.2))) (fun p0 p1=>(Sum.inr (.inl (p0,p1,x.2.2.2)))) (Sum.inr (.inr x.2.2.2)):=by kernel_rfl
theorem q8Y {R:Type} (x:tQ) (k:tP→Option R) (r:R) (h:q8U x k=some r):∃ o,Z5s (LE.step X q8S q8x q0 q8M 12) x o∧k o=some r:=by
 obtain ⟨o,h1,h2⟩:=Z0 h
 exact ⟨q8T x o,Zhl (st:=fun (x:tQ)=>Xv x.1 x.2.1 x.2.2.2) (prj:=fun x=>x.2.2.1) (emb:=q8V) (embO:=q8T) (fun x=>(q8W x).trans (by unfold Xv XA;simp only [Zhd,Zh8,Zhe,Option.map_some,Option.map_none];rfl)) (fun _ _=>rfl) (fun _ _=>rfl) (fun _ _ _=>rfl) (fun _ _ _=>rfl) (fun _=>rfl) (Z1S.1 h1),by
  first
  | exact h2
  | (rcases o with o|o<;>exact h2)⟩
noncomputable def q8Z {R:Type}:Z27 S R:=LE.ls X q8S q8U q8M
theorem q90 {R:Type}:Z3J X (q8Z (R:=R)):=Zhq xok q8y (e:=q8S) q1 q8N q8Y q8N
theorem q91 (x0:Z5) (x1:List Z5):Zhs X q8x [(.st 18),(.sl (.st 18))] [(.int .i64)] q0 q8Z 12 94 (x0,x1,())=WK x0 x1:=by kernel_rfl
noncomputable def q92:F7 S:=⟨[(.st 18),(.sl (.st 18))],[(.int .i64)],fun xs=>X2M xs.1 xs.2.1⟩
theorem q93:Z7Q X 94 q92:=Zho (Zhn xok q8y q1 q90 12 94) fun xs _ h=>((q91 xs.1 xs.2.1).trans (X3J xs.1 xs.2.1).symm).trans h
noncomputable def q94:List (Nat×F7 S):=[(41,q8v)]
theorem q95:Z9n X (q94):=⟨q8w,trivial⟩
abbrev q96 {R:Type}:Z27 S R:=Zgi
theorem q97 {R:Type}:Z3J X (q96 (R:=R)):=ZgQ X
theorem q98 (x0:Zt):Zhs X q94 [(.st 19)] [(.int .i64)] q0 q96 12 97 (x0,())=X2z x0:=by kernel_rfl
noncomputable def q99:F7 S:=⟨[(.st 19)],[(.int .i64)],fun xs=>X5m xs.1⟩
theorem q9a:Z7Q X 97 q99:=Zho (Zhn xok q95 q1 q97 12 97) fun xs _ h=>((q98 xs.1).trans (X5A xs.1).symm).trans h
noncomputable def q9b:List (Nat×F7 S):=[(97,q99)]
theorem q9c:Z9n X (q9b):=⟨q9a,trivial⟩
abbrev q9d {R:Type}:Z27 S R:=Zgi
theorem q9e {R:Type}:Z3J X (q9d (R:=R)):=ZgQ X
theorem q9f (x0:Int) (x1:Zt):Zhs X q9b [(.int .i64),(.st 19)] [(.int .i64)] q0 q9d 12 96 (x0,x1,())=X1E x0 x1:=by kernel_rfl
noncomputable def q9g:F7 S:=⟨[(.int .i64),(.st 19)],[(.int .i64)],fun xs=>X31 xs.1 xs.2.1⟩
theorem q9h:Z7Q X 96 q9g:=Zho (Zhn xok q9c q1 q9e 12 96) fun xs _ h=>((q9f xs.1 xs.2.1).trans (X4C xs.1 xs.2.1).symm).trans h
noncomputable def q9i:List (Nat×F7 S):=[(88,q8b),(41,q8v),(94,q92),(96,q9g)]
theorem q9j:Z9n X (q9i):=⟨q8c,q8w,q93,q9h,trivial⟩
abbrev q9k {R:Type}:Z27 S R:=Zgi
theorem q9l {R:Type}:Z3J X (q9k (R:=R)):=ZgQ X
def q9m:Key:=⟨[92,3,8,76],92,none,[0,0,1,0,1],0,51⟩
def q9n:StT S:=⟨(N (N (N L none (N L vK L)) (some (.fn (.func 93) [] [(.ptr 0 0)])) (N (N L vI L) none L)) none v1m),(N L oa L),51⟩
def q9o:Way S:=⟨.ret,⟨v1f,(N (N (N (N (N (N (N L ob L) none L) none L) none (N L none (N L ob L))) none L) none L) oa L),78⟩,[.int,.int,(.st 18),(.st 18),(.st 20)]⟩
def q9p:Way S:=⟨(.exit 0),⟨L,(N L oa L),52⟩,[(.st 20)]⟩
def q9q:LE S:=⟨q9m,q9n,[.int,(.lst (.st 18)),.int,(.st 20)],[q9o,q9p]⟩
def q9r (x:tS):((Int×Int×Z5×Z5)⊕Unit)→tM:=Sum.elim (fun y0=>(.inl (y0.1,y0.2.1,y0.2.2.1,y0.2.2.2,x.2.2.2))) (fun y1=>(.inr x.2.2.2))
noncomputable def q9s {R:Type} (x:tS) (k:tM→Option R):Option R:=(X2W x.2.1 x.2.2.1 x.2.2.2 x.1).bind (Sum.elim (fun y0=>k (.inl (y0.1,y0.2.1,y0.2.2.1,y0.2.2.2,x.2.2.2))) (fun y1=>k (.inr x.2.2.2)))
def q9t (x:tS) (v:Int):tS:=(v,x.2.1,x.2.2.1,x.2.2.2)
theorem q9u (x:tS):LE.step X q9q q9i q0 q9k 12 x=X15 x.2.1 x.2.2.1 x.2.2.2 x.1 (fun w0=>(Sum.inl (w0,x.2.1,x.2.2.1,x.2.2.2))) (fun p0 p1 p2 p3=>(Sum.inr (.inl (p0,p1,p2,p3,x.2.2.2)))) (Sum.inr (.inr x.2.2.2)):=by kernel_rfl
theorem q9w {R:Type} (x:tS) (k:tM→Option R) (r:R) (h:q9s x k=some r):∃ o,Z5s (LE.step X q9q q9i q0 q9k 12) x o∧k o=some r:=by
 obtain ⟨o,h1,h2⟩:=Z0 h
 exact ⟨q9r x o,Zhl (st:=fun (x:tS)=>WZ x.2.1 x.2.2.1 x.2.2.2) (prj:=fun x=>x.1) (emb:=q9t) (embO:=q9r) (fun x=>(q9u x).trans (by unfold WZ X15;simp only [Zhd,Zh8,Zhe,Option.map_some,Option.map_none];rfl)) (fun _ _=>rfl) (fun _ _=>rfl) (fun _ _ _=>rfl) (fun _ _ _=>rfl) (fun _=>rfl) (Z1S.1 h1),by
  first
  | exact h2
  | (rcases o with o|o<;>exact h2)⟩
noncomputable def q9x {R:Type}:Z27 S R:=LE.ls X q9q q9s q9k
theorem q9y {R:Type}:Z3J X (q9x (R:=R)):=Zhq xok q9j (e:=q9q) q1 q9l q9w q9l
def q9z:Key:=⟨[95,2,13,76],95,none,[0,0,1,0,1],0,97⟩
def q9A:StT S:=⟨vT,L,97⟩
def q9B:Way S:=⟨.ret,⟨v1f,(N (N L none (N L none (N (N (N L none (N L oc L)) none L) none L))) none L),115⟩,[.int,.int,(.st 19)]⟩
def q9C:Way S:=⟨(.exit 0),⟨L,L,98⟩,[]⟩
def q9D:LE S:=⟨q9z,q9A,[.int,(.lst (.st 19)),.int],[q9B,q9C]⟩
def q9E (x:t18):t16→t16:=Sum.elim (fun y0=>(.inl (y0.1,y0.2.1,y0.2.2))) (fun y1=>(.inr ()))
noncomputable def q9F {R:Type} (x:t18) (k:t16→Option R):Option R:=(X2X x.2.1 x.2.2 x.1).bind (Sum.elim (fun y0=>k (.inl (y0.1,y0.2.1,y0.2.2))) (fun y1=>k (.inr ())))
def q9G (x:t18) (v:Int):t18:=(v,x.2.1,x.2.2)
theorem q9H (x:t18):LE.step X q9D q9i q0 q9x 12 x=X16 x.2.1 x.2.2 x.1 (fun w0=>(Sum.inl (w0,x.2.1,x.2.2))) (fun p0 p1 p2=>(Sum.inr (.inl (p0,p1,p2)))) (Sum.inr (.inr ())):=by kernel_rfl
theorem q9J {R:Type} (x:t18) (k:t16→Option R) (r:R) (h:q9F x k=some r):∃ o,Z5s (LE.step X q9D q9i q0 q9x 12) x o∧k o=some r:=by
 obtain ⟨o,h1,h2⟩:=Z0 h
 exact ⟨q9E x o,Zhl (st:=fun (x:t18)=>X10 x.2.1 x.2.2) (prj:=fun x=>x.1) (emb:=q9G) (embO:=q9E) (fun x=>(q9H x).trans (by unfold X10 X16;simp only [Zhd,Zh8,Zhe,Option.map_some,Option.map_none];rfl)) (fun _ _=>rfl) (fun _ _=>rfl) (fun _ _ _=>rfl) (fun _ _ _=>rfl) (fun _=>rfl) (Z1S.1 h1),by
  first
  | exact h2
  | (rcases o with o|o<;>exact h2)⟩
noncomputable def q9K {R:Type}:Z27 S R:=LE.ls X q9D q9F q9x
theorem q9L {R:Type}:Z3J X (q9K (R:=R)):=Zhq xok q9j (e:=q9D) q1 q9y q9J q9y
def q9M:Key:=⟨[95,2,13,76],95,none,[0,0,1,0,1],0,73⟩
def q9N:StT S:=⟨vT,L,73⟩
def q9O:Way S:=⟨.ret,⟨v1f,(N (N L none (N L none (N L none (N (N (N L oc L) none L) none L)))) none L),91⟩,[.int,.int,(.st 19)]⟩
def q9P:Way S:=⟨(.exit 0),⟨L,L,74⟩,[]⟩
def q9Q:LE S:=⟨q9M,q9N,[.int,(.lst (.st 19)),.int],[q9O,q9P]⟩
def q9R (x:t18):t16→t16:=Sum.elim (fun y0=>(.inl (y0.1,y0.2.1,y0.2.2))) (fun y1=>(.inr ()))
noncomputable def q9S {R:Type} (x:t18) (k:t16→Option R):Option R:=(X21 x.2.1 x.2.2 x.1).bind (Sum.elim (fun y0=>k (.inl (y0.1,y0.2.1,y0.2.2))) (fun y1=>k (.inr ())))
def q9T (x:t18) (v:Int):t18:=(v,x.2.1,x.2.2)
theorem q9U (x:t18):LE.step X q9Q q9i q0 q9K 12 x=X2y x.2.1 x.2.2 x.1 (fun w0=>(Sum.inl (w0,x.2.1,x.2.2))) (fun p0 p1 p2=>(Sum.inr (.inl (p0,p1,p2)))) (Sum.inr (.inr ())):=by kernel_rfl
theorem q9W {R:Type} (x:t18) (k:t16→Option R) (r:R) (h:q9S x k=some r):∃ o,Z5s (LE.step X q9Q q9i q0 q9K 12) x o∧k o=some r:=by
 obtain ⟨o,h1,h2⟩:=Z0 h
 exact ⟨q9R x o,Zhl (st:=fun (x:t18)=>X3b x.2.1 x.2.2) (prj:=fun x=>x.1) (emb:=q9T) (embO:=q9R) (fun x=>(q9U x).trans (by unfold X3b X2y;simp only [Zhd,Zh8,Zhe,Option.map_some,Option.map_none];rfl)) (fun _ _=>rfl) (fun _ _=>rfl) (fun _ _ _=>rfl) (fun _ _ _=>rfl) (fun _=>rfl) (Z1S.1 h1),by
  first
  | exact h2
  | (rcases o with o|o<;>exact h2)⟩
noncomputable def q9X {R:Type}:Z27 S R:=LE.ls X q9Q q9S q9K
theorem q9Y {R:Type}:Z3J X (q9X (R:=R)):=Zhq xok q9j (e:=q9Q) q1 q9L q9W q9L
theorem q9Z (x0:ZJ):Zhs X q9i [(.st 20)] [(.int .i64),(.int .i64),(.int .i64)] q0 q9X 12 76 (x0,())=X29 x0:=by kernel_rfl
noncomputable def qa0:F7 S:=⟨[(.st 20)],[(.int .i64),(.int .i64),(.int .i64)],fun xs=>X4T xs.1⟩
theorem qa1:Z7Q X 76 qa0:=Zho (Zhn xok q9j q1 q9Y 12 76) fun xs _ h=>((q9Z xs.1).trans (X5i xs.1).symm).trans h
noncomputable def qa2:List (Nat×F7 S):=[(88,q8b),(73,q62)]
theorem qa3:Z9n X (qa2):=⟨q8c,q63,trivial⟩
abbrev qa4 {R:Type}:Z27 S R:=Zgi
theorem qa5 {R:Type}:Z3J X (qa4 (R:=R)):=ZgQ X
def qa6:Key:=⟨[105,1,70],105,none,[0,0,1],0,45⟩
def qa7:StT S:=⟨(N (N (N L vK L) (some (.ptr 36 0)) L) (some (.yld 40)) L),oN,45⟩
def qa8:Way S:=⟨.ret,⟨L,(N (N (N (N L none (N L none (N L ok L))) ov L) ov L) oh (N (N (N (N L os L) none (N (N L (some (.loop 70 (N (N (N (N L (some (.ptr 3 0)) L) (some (.ptr 0 0)) (N L none (N (N L vf L) vL L))) vK (N (N (N L vL L) none L) none L)) vq (N (N (N L (some (.ptr 4 0)) L) (some (.ptr 1 0)) L) vK (N L (some (.ptr 2 0)) (N (N L vL L) none L)))) (44::(45::[])) .skip .skip 1 .ret (1::(70::[])) (0::(1::(0::(1::(1::(1::(1::[]))))))))) L) os L)) ot (N (N (N L on L) none L) none L)) oi L)),67⟩,[(.st 3),.int,.int,(.st 8),(.lst (.int .i64)),.bool,.int,.bool,(.st 8),.int,.bool,(.lst (.int .i64)),.int,(.lst (.st 3)),(.st 4)]⟩
def qa9:Way S:=⟨(.exit 0),⟨L,oN,47⟩,[.int,.int,(.st 8),(.lst (.int .i64)),.bool,.int,.bool,(.st 8),.int,.bool,(.lst (.int .i64)),.int,(.lst (.st 3)),(.st 4)]⟩
def qaa:LE S:=⟨qa6,qa7,[.int,.int,.int,(.st 8),(.lst (.int .i64)),.bool,.int,.bool,(.st 8),.int,.bool,(.lst (.int .i64)),.int,(.lst (.st 3)),(.st 4)],[qa8,qa9]⟩
def qab (x:tg):((Zk×Int×Int)⊕Unit)→t3:=Sum.elim (fun y0=>(.inl (y0.1,y0.2.1,x.2.2.1,x.2.2.2.1,x.2.2.2.2.1,x.2.2.2.2.2.1,x.2.2.2.2.2.2.1,x.2.2.2.2.2.2.2.1,x.2.2.2.2.2.2.2.2.1,x.2.2.2.2.2.2.2.2.2.1,x.2.2.2.2.2.2.2.2.2.2.1,x.2.2.2.2.2.2.2.2.2.2.2.1,y0.2.2,x.2.2.2.2.2.2.2.2.2.2.2.2.2.1,x.2.2.2.2.2.2.2.2.2.2.2.2.2.2))) (fun y1=>(.inr (x.2.1,x.2.2.1,x.2.2.2.1,x.2.2.2.2.1,x.2.2.2.2.2.1,x.2.2.2.2.2.2.1,x.2.2.2.2.2.2.2.1,x.2.2.2.2.2.2.2.2.1,x.2.2.2.2.2.2.2.2.2.1,x.2.2.2.2.2.2.2.2.2.2.1,x.2.2.2.2.2.2.2.2.2.2.2.1,x.2.2.2.2.2.2.2.2.2.2.2.2.1,x.2.2.2.2.2.2.2.2.2.2.2.2.2.1,x.2.2.2.2.2.2.2.2.2.2.2.2.2.2)))
noncomputable def qac {R:Type} (x:tg) (k:t3→Option R):Option R:=(X1f x.2.2.1 x.2.2.2.2.2.2.2.2.2.2.2.2.2.1 x.1).bind (Sum.elim (fun y0=>k (.inl (y0.1,y0.2.1,x.2.2.1,x.2.2.2.1,x.2.2.2.2.1,x.2.2.2.2.2.1,x.2.2.2.2.2.2.1,x.2.2.2.2.2.2.2.1,x.2.2.2.2.2.2.2.2.1,x.2.2.2.2.2.2.2.2.2.1,x.2.2.2.2.2.2.2.2.2.2.1,x.2.2.2.2.2.2.2.2.2.2.2.1,y0.2.2,x.2.2.2.2.2.2.2.2.2.2.2.2.2.1,x.2.2.2.2.2.2.2.2.2.2.2.2.2.2))) (fun y1=>k (.inr (x.2.1,x.2.2.1,x.2.2.2.1,x.2.2.2.2.1,x.2.2.2.2.2.1,x.2.2.2.2.2.2.1,x.2.2.2.2.2.2.2.1,x.2.2.2.2.2.2.2.2.1,x.2.2.2.2.2.2.2.2.2.1,x.2.2.2.2.2.2.2.2.2.2.1,x.2.2.2.2.2.2.2.2.2.2.2.1,x.2.2.2.2.2.2.2.2.2.2.2.2.1,x.2.2.2.2.2.2.2.2.2.2.2.2.2.1,x.2.2.2.2.2.2.2.2.2.2.2.2.2.2))))
def qad (x:tg) (v:Int):tg:=(v,x.2.1,x.2.2.1,x.2.2.2.1,x.2.2.2.2.1,x.2.2.2.2.2.1,x.2.2.2.2.2.2.1,x.2.2.2.2.2.2.2.1,x.2.2.2.2.2.2.2.2.1,x.2.2.2.2.2.2.2.2.2.1,x.2.2.2.2.2.2.2.2.2.2.1,x.2.2.2.2.2.2.2.2.2.2.2.1,x.2.2.2.2.2.2.2.2.2.2.2.2.1,x.2.2.2.2.2.2.2.2.2.2.2.2.2.1,x.2.2.2.2.2.2.2.2.2.2.2.2.2.2)
theorem qae (x:tg):LE.step X qaa qa2 q0 qa4 12 x=XY x.2.2.1 x.2.2.2.2.2.2.2.2.2.2.2.2.2.1 x.1 (fun w0=>(Sum.inl (w0,x.2.1,x.2.2.1,x.2.2.2.1,x.2.2.2.2.1,x.2.2.2.2.2.1,x.2.2.2.2.2.2.1,x.2.2.2.2.2.2.2.1,x.2.2.2.2.2.2.2.2.1,x.2.2.2.2.2.2.2.2.2.1,x.2.2.2.2.2.2.2.2.2.2.1,x.2.2.2.2.2.2.2.2.2.2.2.1,x.2.2.2.2.2.2.2.2.2.2.2.2.1,x.2.2.2.2.2.2.2.2.2.2.2.2.2.1,x.2.2.2.2.2.2.2.2.2.2.2.2.2.2))) (fun p0 p1 p2=>(Sum.inr (.inl (p0,p1,x.2.2.1,x.2.2.2.1,x.2.2.2.2.1,x.2.2.2.2.2.1,x.2.2.2.2.2.2.1,x.2.2.2.2.2.2.2.1,x.2.2.2.2.2.2.2.2.1,x.2.2.2.2.2.2.2.2.2.1,x.2.2.2.2.2.2.2.2.2.2.1,x.2.2.2.2.2.2.2.2.2.2.2.1,p2,x.2.2.2.2.2.2.2.2.2.2.2.2.2.1,x.2.2.2.2.2.2.2.2.2.2.2.2.2.2)))) (Sum.inr (.inr (x.2.1,x.2.2.1,x.2.2.2.1,x.2.2.2.2.1,x.2.2.2.2.2.1,x.2.2.2.2.2.2.1,x.2.2.2.2.2.2.2.1,x.2.2.2.2.2.2.2.2.1,x.2.2.2.2.2.2.2.2.2.1,x.2.2.2.2.2.2.2.2.2.2.1,x.2.2.2.2.2.2.2.2.2.2.2.1,x.2.2.2.2.2.2.2.2.2.2.2.2.1,x.2.2.2.2.2.2.2.2.2.2.2.2.2.1,x.2.2.2.2.2.2.2.2.2.2.2.2.2.2))):=by kernel_rfl
theorem qag {R:Type} (x:tg) (k:t3→Option R) (r:R) (h:qac x k=some r):∃ o,Z5s (LE.step X qaa qa2 q0 qa4 12) x o∧k o=some r:=by
 obtain ⟨o,h1,h2⟩:=Z0 h
 exact ⟨qab x o,Zhl (st:=fun (x:tg)=>XP x.2.2.1 x.2.2.2.2.2.2.2.2.2.2.2.2.2.1) (prj:=fun x=>x.1) (emb:=qad) (embO:=qab) (fun x=>(qae x).trans (by unfold XP XY;simp only [Zhd,Zh8,Zhe,Option.map_some,Option.map_none];rfl)) (fun _ _=>rfl) (fun _ _=>rfl) (fun _ _ _=>rfl) (fun _ _ _=>rfl) (fun _=>rfl) (Z1S.1 h1),by
  first
  | exact h2
  | (rcases o with o|o<;>exact h2)⟩
noncomputable def qah {R:Type}:Z27 S R:=LE.ls X qaa qac qa4
theorem qai {R:Type}:Z3J X (qah (R:=R)):=Zhq xok qa3 (e:=qaa) q1 qa5 qag qa5
theorem qaj (x0:Zl) (x1:Int) (x2:Int):Zhs X qa2 [(.st 8),(.int .i64),(.int .i64)] [(.st 4),(.int .i64),(.int .i64)] q0 qah 12 70 (x0,x1,x2,())=X1j x0 x1 x2:=by kernel_rfl
noncomputable def qak:F7 S:=⟨[(.st 8),(.int .i64),(.int .i64)],[(.st 4),(.int .i64),(.int .i64)],fun xs=>X2w xs.1 xs.2.1 xs.2.2.1⟩
theorem qal:Z7Q X 70 qak:=Zho (Zhn xok qa3 q1 qai 12 70) fun xs _ h=>((qaj xs.1 xs.2.1 xs.2.2.1).trans (X4r xs.1 xs.2.1 xs.2.2.1).symm).trans h
noncomputable def qam:List (Nat×F7 S):=[(70,qak)]
theorem qan:Z9n X (qam):=⟨qal,trivial⟩
abbrev qao {R:Type}:Z27 S R:=Zgi
theorem qap {R:Type}:Z3J X (qao (R:=R)):=ZgQ X
theorem qaq (x0:Zl) (x1:Int) (x2:Int):Zhs X qam [(.st 8),(.int .i64),(.int .i64)] [(.int .i64),(.int .i64)] q0 qao 12 61 (x0,x1,x2,())=X1i x0 x1 x2:=by kernel_rfl
noncomputable def qar:F7 S:=⟨[(.st 8),(.int .i64),(.int .i64)],[(.int .i64),(.int .i64)],fun xs=>X4d xs.1 xs.2.1 xs.2.2.1⟩
theorem qas:Z7Q X 61 qar:=Zho (Zhn xok qan q1 qap 12 61) fun xs _ h=>((qaq xs.1 xs.2.1 xs.2.2.1).trans (X4p xs.1 xs.2.1 xs.2.2.1).symm).trans h
noncomputable def qat:List (Nat×F7 S):=[(70,qak)]
theorem qau:Z9n X (qat):=⟨qal,trivial⟩
abbrev qav {R:Type}:Z27 S R:=Zgi
theorem qaw {R:Type}:Z3J X (qav (R:=R)):=ZgQ X
theorem qax (x0:Zl) (x1:Int) (x2:Int):Zhs X qat [(.st 8),(.int .i64),(.int .i64)] [(.st 4),(.int .i64)] q0 qav 12 52 (x0,x1,x2,())=WG x0 x1 x2:=by kernel_rfl
noncomputable def qay:F7 S:=⟨[(.st 8),(.int .i64),(.int .i64)],[(.st 4),(.int .i64)],fun xs=>X3o xs.1 xs.2.1 xs.2.2.1⟩
theorem qaz:Z7Q X 52 qay:=Zho (Zhn xok qau q1 qaw 12 52) fun xs _ h=>((qax xs.1 xs.2.1 xs.2.2.1).trans (X3H xs.1 xs.2.1 xs.2.2.1).symm).trans h
noncomputable def qaA:List (Nat×F7 S):=[]
theorem qaB:Z9n X (qaA):=trivial
abbrev qaC {R:Type}:Z27 S R:=Zgi
theorem qaD {R:Type}:Z3J X (qaC (R:=R)):=ZgQ X
theorem qaE:Zhs X qaA [] [(.arr 8 (.st 2))] q0 qaC 12 74 (())=X52:=by kernel_rfl
noncomputable def qaF:F7 S:=⟨[],[(.arr 8 (.st 2))],fun xs=>X52⟩
theorem qaG:Z7Q X 74 qaF:=Zho (Zhn xok qaB q1 qaD 12 74) fun xs _ h=>(qaE).trans h
noncomputable def qaH:List (Nat×F7 S):=[(74,qaF),(75,q73)]
theorem qaI:Z9n X (qaH):=⟨qaG,q74,trivial⟩
abbrev qaJ {R:Type}:Z27 S R:=Zgi
theorem qaK {R:Type}:Z3J X (qaJ (R:=R)):=ZgQ X
def qaL:Key:=⟨[54],54,none,[0,0,0,1],0,2⟩
def qaM:StT S:=⟨v1j,(N L oj L),2⟩
def qaN:Way S:=⟨(.exit 0),⟨v1j,(N L oj L),10⟩,[.int,(.st 2)]⟩
def qaO:LE S:=⟨qaL,qaM,[.int,(.st 2)],[qaN]⟩
def qaP (x:(Int×Zu)):(Int×Zu)→(Int×Zu):=fun y0=>(y0.1,y0.2)
noncomputable def qaQ {R:Type} (x:(Int×Zu)) (k:(Int×Zu)→Option R):Option R:=(X1g (x.1,x.2)).bind (fun y0=>k (y0.1,y0.2))
def qaR (x:(Int×Zu)) (v:(Int×Zu)):(Int×Zu):=(v.1,v.2)
theorem qaS (x:(Int×Zu)):LE.step X qaO qaH q0 qaJ 12 x=Xn x.1 x.2 (fun w0 w1=>(Sum.inl (w0,w1))) (fun p0 p1=>(Sum.inr (p0,p1))):=by kernel_rfl
theorem qaU {R:Type} (x:(Int×Zu)) (k:(Int×Zu)→Option R) (r:R) (h:qaQ x k=some r):∃ o,Z5s (LE.step X qaO qaH q0 qaJ 12) x o∧k o=some r:=by
 obtain ⟨o,h1,h2⟩:=Z0 h
 exact ⟨qaP x o,Zhl (st:=fun (x:(Int×Zu))=>X8) (prj:=fun x=>(x.1,x.2)) (emb:=qaR) (embO:=qaP) (fun x=>(qaS x).trans (by unfold X8 Xn;simp only [Zhd,Zh8,Zhe,Option.map_some,Option.map_none];rfl)) (fun _ _=>rfl) (fun _ _=>rfl) (fun _ _ _=>rfl) (fun _ _ _=>rfl) (fun _=>rfl) (Z1S.1 h1),by
  first
  | exact h2
  | (rcases o with o<;>exact h2)⟩
noncomputable def qaV {R:Type}:Z27 S R:=LE.ls X qaO qaQ qaJ
theorem qaW {R:Type}:Z3J X (qaV (R:=R)):=Zhq xok qaI (e:=qaO) q1 qaK qaU qaK
def qaX:Key:=⟨[54],54,none,[0,0,1,0,1,1],2,12⟩
def qaY:StT S:=⟨(N (N L (some (.ptr 0 0)) (N L none (N (N L (some (.agg [(.arr (.st 2) 8 (fun _=>tdf T (.st 2)))])) L) none L))) none (N L vK v1m)),(N L oj L),12⟩
def qaZ:Way S:=⟨(.exit 2),⟨(N L none (N L vK L)),(N L oj L),13⟩,[.int,(.st 2)]⟩
def qb0:LE S:=⟨qaX,qaY,[(.arr (.st 2)),.int,.int,(.st 2)],[qaZ]⟩
def qb1 (x:tX):Int→(Int×Zu):=fun y0=>(y0,x.2.2.2)
noncomputable def qb2 {R:Type} (x:tX) (k:(Int×Zu)→Option R):Option R:=(X26 x.1 x.2.2.2 (x.2.1,x.2.2.1)).bind (fun y0=>k (y0,x.2.2.2))
def qb3 (x:tX) (v:(Int×Int)):tX:=(x.1,v.1,v.2,x.2.2.2)
theorem qb4 (x:tX):LE.step X qb0 qaH q0 qaV 12 x=W0 x.1 x.2.2.2 x.2.1 x.2.2.1 (fun w0 w1=>(Sum.inl (x.1,w0,w1,x.2.2.2))) (fun p0=>(Sum.inr (p0,x.2.2.2))):=by kernel_rfl
theorem qb6 {R:Type} (x:tX) (k:(Int×Zu)→Option R) (r:R) (h:qb2 x k=some r):∃ o,Z5s (LE.step X qb0 qaH q0 qaV 12) x o∧k o=some r:=by
 obtain ⟨o,h1,h2⟩:=Z0 h
 exact ⟨qb1 x o,Zhl (st:=fun (x:tX)=>XR x.1 x.2.2.2) (prj:=fun x=>(x.2.1,x.2.2.1)) (emb:=qb3) (embO:=qb1) (fun x=>(qb4 x).trans (by unfold XR W0;simp only [Zhd,Zh8,Zhe,Option.map_some,Option.map_none];rfl)) (fun _ _=>rfl) (fun _ _=>rfl) (fun _ _ _=>rfl) (fun _ _ _=>rfl) (fun _=>rfl) (Z1S.1 h1),by
  first
  | exact h2
  | (rcases o with o<;>exact h2)⟩
noncomputable def qb7 {R:Type}:Z27 S R:=LE.ls X qb0 qb2 qaV
theorem qb8 {R:Type}:Z3J X (qb7 (R:=R)):=Zhq xok qaI (e:=qb0) q1 qaW qb6 qaW
theorem qb9 (x0:Zu):Zhs X qaH [(.st 2)] [(.int .i64)] q0 qb7 12 54 (x0,())=X1l x0:=by kernel_rfl
noncomputable def qba:F7 S:=⟨[(.st 2)],[(.int .i64)],fun xs=>X3j xs.1⟩
theorem qbb:Z7Q X 54 qba:=Zho (Zhn xok qaI q1 qb8 12 54) fun xs _ h=>((qb9 xs.1).trans (X4t xs.1).symm).trans h
noncomputable def qbc:List (Nat×F7 S):=[(52,qay),(53,q6m),(55,q6W),(54,qba)]
theorem qbd:Z9n X (qbc):=⟨qaz,q6n,q6X,qbb,trivial⟩
abbrev qbe {R:Type}:Z27 S R:=Zgi
theorem qbf {R:Type}:Z3J X (qbe (R:=R)):=ZgQ X
theorem qbg (x0:Zl) (x1:Int) (x2:Int) (x3:Zu):Zhs X qbc [(.st 8),(.int .i64),(.int .i64),(.st 2)] [(.int .i64),(.int .i64)] q0 qbe 12 38 (x0,x1,x2,x3,())=X1R x0 x1 x2 x3:=by kernel_rfl
noncomputable def qbh:F7 S:=⟨[(.st 8),(.int .i64),(.int .i64),(.st 2)],[(.int .i64),(.int .i64)],fun xs=>X4e xs.1 xs.2.1 xs.2.2.1 xs.2.2.2.1⟩
theorem qbi:Z7Q X 38 qbh:=Zho (Zhn xok qbd q1 qbf 12 38) fun xs _ h=>((qbg xs.1 xs.2.1 xs.2.2.1 xs.2.2.2.1).trans (X50 xs.1 xs.2.1 xs.2.2.1 xs.2.2.2.1).symm).trans h
def qbj:StT S:=⟨(N (N L vK L) (some (.ptr 1 0)) L),(N (N L o3 L) oo L),2⟩
def qbk:Way S:=⟨.ret,⟨(N L vL L),(N (N L o3 L) oo L),2⟩,[.bool,(.st 20),(.lst (.st 21)),.en,(.mp (.st 23) (.int .i64))]⟩
def qbl:PE S:=⟨49,2,qbj,[.int,(.st 20),(.lst (.st 21)),.en,(.mp (.st 23) (.int .i64))],[qbk]⟩
noncomputable def qbm:List (Nat×F7 S):=[(61,qar)]
theorem qbn:Z9n X qbm:=⟨qas,trivial⟩
abbrev qbo {R:Type}:Z27 S R:=Zgi
theorem qbp {R:Type}:Z3J X (qbo (R:=R)):=ZgQ X
theorem qbq (x:tG):PE.step X qbl qbm q0 qbo 12 x=Xr x.1 x.2.1 x.2.2.1 x.2.2.2.1 x.2.2.2.2:=by kernel_rfl
theorem qbr:ZaX X qbl XE:=Zhr (ZgU xok qbn q1 qbp 12) fun x _ h=>((qbq x).trans (X2E x).symm).trans h
noncomputable def qbs {R:Type}:Prs S R:=PE.ps X qbl (fun x q=>(XE x).bind q) q0
theorem qbt {R:Type}:Z7R X (qbs (R:=R)):=Zhi (e:=qbl) qbr q1
def qbu:StT S:=⟨(N (N L vp L) (some (.ptr 1 0)) L),(N (N L o3 L) oo L),2⟩
def qbv:Way S:=⟨.ret,⟨(N L vK L),(N (N L o3 L) oo L),2⟩,[.int,(.st 20),(.lst (.st 21)),.en,(.mp (.st 23) (.int .i64))]⟩
def qbw:PE S:=⟨79,2,qbu,[(.st 21),(.st 20),(.lst (.st 21)),.en,(.mp (.st 23) (.int .i64))],[qbv]⟩
noncomputable def qbx:List (Nat×F7 S):=[(41,q8v),(61,qar)]
theorem qby:Z9n X qbx:=⟨q8w,qas,trivial⟩
abbrev qbz {R:Type}:Z27 S R:=Zgi
theorem qbA {R:Type}:Z3J X (qbz (R:=R)):=ZgQ X
theorem qbB (x:(Zm×ZJ×(List Zm)×(Nat→Nat)×t1c)):PE.step X qbw qbx qbs qbz 12 x=Xy x.1 x.2.1 x.2.2.1 x.2.2.2.1 x.2.2.2.2:=by kernel_rfl
theorem qbC:ZaX X qbw WH:=Zhr (ZgU xok qby qbt qbA 12) fun x _ h=>((qbB x).trans (X2R x).symm).trans h
noncomputable def qbD {R:Type}:Prs S R:=PE.ps X qbw (fun x q=>(WH x).bind q) qbs
theorem qbE {R:Type}:Z7R X (qbD (R:=R)):=Zhi (e:=qbw) qbC qbt
def qbF:StT S:=⟨v1e,L,0⟩
def qbG:Way S:=⟨.ret,⟨(N L (some (.tup [.nilp,(.int .i64 0),(.int .i64 0)])) L),L,0⟩,[.int,.int]⟩
def qbH:Way S:=⟨.ret,⟨(N L (some (.tup [(.ptr 1 0),(.int .i64 0),(.int .i64 0)])) L),(N (N L o3 L) oo L),2⟩,[.int,.int,(.st 20),(.lst (.st 21)),.en,(.mp (.st 23) (.int .i64))]⟩
def qbI:PE S:=⟨56,2,qbF,[(.lst (.st 21)),(.st 20)],[qbG,qbH]⟩
noncomputable def qbJ:List (Nat×F7 S):=[(76,qa0),(41,q8v),(61,qar)]
theorem qbK:Z9n X qbJ:=⟨qa1,q8w,qas,trivial⟩
abbrev qbL {R:Type}:Z27 S R:=Zgi
theorem qbM {R:Type}:Z3J X (qbL (R:=R)):=ZgQ X
def qbN:Key:=⟨[56],56,none,[0,0,1,0,1,1,1,1],0,26⟩
def qbO:StT S:=⟨(N (N (N L none (N L none (N L vI L))) vH (N L none (N L none (N L vK L)))) none (N (N L (some (.ptr 1 0)) (N L none (N L vK L))) none L)),o13,26⟩
def qbP:Way S:=⟨(.exit 0),⟨(N (N L vH L) none (N (N L (some (.ptr 1 0)) L) none L)),o13,27⟩,[(.lst (.st 21)),(.st 20),(.st 20),(.lst (.st 21)),.en,(.mp (.st 23) (.int .i64))]⟩
def qbQ:LE S:=⟨qbN,qbO,[(.lst (.st 18)),(.lst (.st 21)),.int,.int,(.st 20),(.st 20),(.lst (.st 21)),.en,(.mp (.st 23) (.int .i64))],[qbP]⟩
def qbR (x:ti):(Nat→Nat)→tx:=fun y0=>(x.2.1,x.2.2.2.2.1,x.2.2.2.2.2.1,x.2.2.2.2.2.2.1,y0,x.2.2.2.2.2.2.2.2)
noncomputable def qbS {R:Type} (x:ti) (k:tx→Option R):Option R:=(X2j x.1 x.2.2.2.1 (x.2.2.1,x.2.2.2.2.2.2.2.1)).bind (fun y0=>k (x.2.1,x.2.2.2.2.1,x.2.2.2.2.2.1,x.2.2.2.2.2.2.1,y0,x.2.2.2.2.2.2.2.2))
def qbT (x:ti) (v:(Int×(Nat→Nat))):ti:=(x.1,x.2.1,v.1,x.2.2.2.1,x.2.2.2.2.1,x.2.2.2.2.2.1,x.2.2.2.2.2.2.1,v.2,x.2.2.2.2.2.2.2.2)
theorem qbU (x:ti):LE.step X qbQ qbJ q0 qbL 12 x=Wq x.1 x.2.2.2.1 x.2.2.1 x.2.2.2.2.2.2.2.1 (fun w0 w1=>(Sum.inl (x.1,x.2.1,w0,x.2.2.2.1,x.2.2.2.2.1,x.2.2.2.2.2.1,x.2.2.2.2.2.2.1,w1,x.2.2.2.2.2.2.2.2))) (fun p0=>(Sum.inr (x.2.1,x.2.2.2.2.1,x.2.2.2.2.2.1,x.2.2.2.2.2.2.1,p0,x.2.2.2.2.2.2.2.2))):=by kernel_rfl
theorem qbW {R:Type} (x:ti) (k:tx→Option R) (r:R) (h:qbS x k=some r):∃ o,Z5s (LE.step X qbQ qbJ q0 qbL 12) x o∧k o=some r:=by
 obtain ⟨o,h1,h2⟩:=Z0 h
 exact ⟨qbR x o,Zhl (st:=fun (x:ti)=>Wa x.1 x.2.2.2.1) (prj:=fun x=>(x.2.2.1,x.2.2.2.2.2.2.2.1)) (emb:=qbT) (embO:=qbR) (fun x=>(qbU x).trans (by unfold Wa Wq;simp only [Zhd,Zh8,Zhe,Option.map_some,Option.map_none];rfl)) (fun _ _=>rfl) (fun _ _=>rfl) (fun _ _ _=>rfl) (fun _ _ _=>rfl) (fun _=>rfl) (Z1S.1 h1),by
  first
  | exact h2
  | (rcases o with o<;>exact h2)⟩
noncomputable def qbX {R:Type}:Z27 S R:=LE.ls X qbQ qbS qbL
theorem qbY {R:Type}:Z3J X (qbX (R:=R)):=Zhq xok qbK (e:=qbQ) q1 qbM qbW qbM
def qbZ:Key:=⟨[77,2,14,56],77,none,[0,0,1,0,1],0,40⟩
def qc0:StT S:=⟨(N (N (N L none (N L vK L)) (some (.fn (.func 78) [] [(.ptr 1 0)])) (N (N L vH L) none L)) none v1m),o11,40⟩
def qc1:Way S:=⟨.ret,⟨v1f,(N (N L oy L) none (N (N L none (N (N L o2 (N L od L)) none (N (N L od L) none L))) none (N (N (N L oo L) none L) none L))),64⟩,[.int,.int,(.st 20),(.lst (.st 21)),.en,(.st 21),(.st 21),(.mp (.st 23) (.int .i64))]⟩
def qc2:Way S:=⟨(.exit 0),⟨L,o11,41⟩,[(.st 20),(.lst (.st 21)),.en,(.mp (.st 23) (.int .i64))]⟩
def qc3:LE S:=⟨qbZ,qc0,[.int,(.lst (.st 21)),.int,(.st 20),(.lst (.st 21)),.en,(.mp (.st 23) (.int .i64))],[qc1,qc2]⟩
def qc4 (x:tt):tb→tb:=Sum.elim (fun y0=>(.inl (y0.1,y0.2.1,y0.2.2.1,y0.2.2.2.1,y0.2.2.2.2.1,y0.2.2.2.2.2.1,y0.2.2.2.2.2.2.1,y0.2.2.2.2.2.2.2))) (fun y1=>(.inr (y1.1,y1.2.1,y1.2.2.1,y1.2.2.2)))
noncomputable def qc5 {R:Type} (x:tt) (k:tb→Option R):Option R:=(X2k x.2.1 x.2.2.1 (x.1,x.2.2.2.1,x.2.2.2.2.1,x.2.2.2.2.2.1,x.2.2.2.2.2.2)).bind (Sum.elim (fun y0=>k (.inl (y0.1,y0.2.1,y0.2.2.1,y0.2.2.2.1,y0.2.2.2.2.1,y0.2.2.2.2.2.1,y0.2.2.2.2.2.2.1,y0.2.2.2.2.2.2.2))) (fun y1=>k (.inr (y1.1,y1.2.1,y1.2.2.1,y1.2.2.2))))
def qc6 (x:tt) (v:tG):tt:=(v.1,x.2.1,x.2.2.1,v.2.1,v.2.2.1,v.2.2.2.1,v.2.2.2.2)
theorem qc7 (x:tt):LE.step X qc3 qbJ qbD qbX 12 x=Wr x.2.1 x.2.2.1 x.1 x.2.2.2.1 x.2.2.2.2.1 x.2.2.2.2.2.1 x.2.2.2.2.2.2 (fun w0 w1 w2 w3 w4=>(Sum.inl (w0,x.2.1,x.2.2.1,w1,w2,w3,w4))) (fun p0 p1 p2 p3 p4 p5 p6 p7=>(Sum.inr (.inl (p0,p1,p2,p3,p4,p5,p6,p7)))) (fun p0 p1 p2 p3=>(Sum.inr (.inr (p0,p1,p2,p3)))):=by kernel_rfl
theorem qc9 {R:Type} (x:tt) (k:tb→Option R) (r:R) (h:qc5 x k=some r):∃ o,Z5s (LE.step X qc3 qbJ qbD qbX 12) x o∧k o=some r:=by
 obtain ⟨o,h1,h2⟩:=Z0 h
 exact ⟨qc4 x o,Zhl (st:=fun (x:tt)=>Wb x.2.1 x.2.2.1) (prj:=fun x=>(x.1,x.2.2.2.1,x.2.2.2.2.1,x.2.2.2.2.2.1,x.2.2.2.2.2.2)) (emb:=qc6) (embO:=qc4) (fun x=>(qc7 x).trans (by unfold Wb Wr;simp only [Zhd,Zh8,Zhe,Option.map_some,Option.map_none];rfl)) (fun _ _=>rfl) (fun _ _=>rfl) (fun _ _ _=>rfl) (fun _ _ _=>rfl) (fun _=>rfl) (Z1S.1 h1),by
  first
  | exact h2
  | (rcases o with o|o<;>exact h2)⟩
noncomputable def qca {R:Type}:Z27 S R:=LE.ls X qc3 qc5 qbX
theorem qcb {R:Type}:Z3J X (qca (R:=R)):=Zhq xok qbK (e:=qc3) qbE qbY qc9 qbY
theorem qcc (x:((List Zm)×ZJ)):PE.step X qbI qbJ qbD qca 12 x=X1F x.1 x.2:=by kernel_rfl
theorem qcd:ZaX X qbI X3L:=Zhr (ZgU xok qbK qbE qcb 12) fun x _ h=>((qcc x).trans (X4H x).symm).trans h
noncomputable def qce {R:Type}:Prs S R:=PE.ps X qbI (fun x q=>(X3L x).bind q) qbD
theorem qcf {R:Type}:Z7R X (qce (R:=R)):=Zhi (e:=qbI) qcd qbE
def qcg:StT S:=⟨v1e,L,0⟩
def qch:Way S:=⟨.ret,⟨(N L (some (.tup [.nilp,(.int .i64 0)])) L),L,0⟩,[.int]⟩
def qci:Way S:=⟨.ret,⟨(N L (some (.tup [(.ptr 1 0),(.int .i64 0)])) L),(N (N L o3 L) oo L),2⟩,[.int,(.st 20),(.lst (.st 21)),.en,(.mp (.st 23) (.int .i64))]⟩
def qcj:PE S:=⟨39,2,qcg,[(.lst (.st 21)),(.st 20)],[qch,qci]⟩
noncomputable def qck:List (Nat×F7 S):=[(76,qa0),(41,q8v),(61,qar)]
theorem qcl:Z9n X qck:=⟨qa1,q8w,qas,trivial⟩
abbrev qcm {R:Type}:Z27 S R:=Zgi
theorem qcn {R:Type}:Z3J X (qcm (R:=R)):=ZgQ X
theorem qco (x:((List Zm)×ZJ)):PE.step X qcj qck qce qcm 12 x=X1o x.1 x.2:=by kernel_rfl
theorem qcp:ZaX X qcj X1A:=Zhr (ZgU xok qcl qcf qcn 12) fun x _ h=>((qco x).trans (X4v x).symm).trans h
noncomputable def qcq {R:Type}:Prs S R:=PE.ps X qcj (fun x q=>(X1A x).bind q) qce
theorem qcr {R:Type}:Z7R X (qcq (R:=R)):=Zhi (e:=qcj) qcp qcf
def qcs:StT S:=⟨(N L (some .nilp) L),L,0⟩
def qct:PE S:=⟨40,1,qcs,[],[]⟩
noncomputable def qcu:List (Nat×F7 S):=[(38,qbh),(41,q8v)]
theorem qcv:Z9n X qcu:=⟨qbi,q8w,trivial⟩
abbrev qcw {R:Type}:Z27 S R:=Zgi
theorem qcx {R:Type}:Z3J X (qcw (R:=R)):=ZgQ X
theorem qcy (x:Unit):PE.step X qct qcu qcq qcw 12 x=W7:=by kernel_rfl
theorem qcz:ZaX X qct Wp:=Zhr (ZgU xok qcv qcr qcx 12) fun x _ h=>((qcy x).trans (X4h x).symm).trans h
noncomputable def qcA {R:Type}:Prs S R:=PE.ps X qct (fun x q=>(Wp x).bind q) qcq
theorem qcB {R:Type}:Z7R X (qcA (R:=R)):=Zhi (e:=qct) qcz qcr
def qcC:StT S:=⟨(N (N L vK L) (some (.ptr 1 0)) (N L vr L)),(N (N L o3 L) oo L),2⟩
def qcD:Way S:=⟨.ret,⟨(N L vK L),(N (N L o3 L) oo L),2⟩,[.int,(.st 20),(.lst (.st 21)),.en,(.mp (.st 23) (.int .i64))]⟩
def qcE:PE S:=⟨62,3,qcC,[.int,(.st 2),(.st 20),(.lst (.st 21)),.en,(.mp (.st 23) (.int .i64))],[qcD]⟩
noncomputable def qcF:List (Nat×F7 S):=[(38,qbh)]
theorem qcG:Z9n X qcF:=⟨qbi,trivial⟩
abbrev qcH {R:Type}:Z27 S R:=Zgi
theorem qcI {R:Type}:Z3J X (qcH (R:=R)):=ZgQ X
theorem qcJ (x:(Int×Zu×ZJ×(List Zm)×(Nat→Nat)×t1c)):PE.step X qcE qcF qcA qcH 12 x=Xs x.1 x.2.1 x.2.2.1 x.2.2.2.1 x.2.2.2.2.1 x.2.2.2.2.2:=by kernel_rfl
theorem qcK:ZaX X qcE XF:=Zhr (ZgU xok qcG qcB qcI 12) fun x _ h=>((qcJ x).trans (X2I x).symm).trans h
noncomputable def qcL {R:Type}:Prs S R:=PE.ps X qcE (fun x q=>(XF x).bind q) qcA
theorem qcM {R:Type}:Z7R X (qcL (R:=R)):=Zhi (e:=qcE) qcK qcB
def qcN:StT S:=⟨(N (N L vr L) (some (.agg [(.ptr 1 0)])) (N L vp L)),(N (N L o3 L) oo L),2⟩
def qcO:Way S:=⟨.ret,⟨v19,(N (N L o3 L) oo L),2⟩,[(.st 5),.bool,(.st 20),(.lst (.st 21)),.en,(.mp (.st 23) (.int .i64))]⟩
def qcP:PE S:=⟨129,3,qcN,[(.st 2),(.st 21),(.st 20),(.lst (.st 21)),.en,(.mp (.st 23) (.int .i64))],[qcO]⟩
noncomputable def qcQ:List (Nat×F7 S):=[(38,qbh)]
theorem qcR:Z9n X qcQ:=⟨qbi,trivial⟩
abbrev qcS {R:Type}:Z27 S R:=Zgi
theorem qcT {R:Type}:Z3J X (qcS (R:=R)):=ZgQ X
theorem qcU (x:(Zu×Zm×ZJ×(List Zm)×(Nat→Nat)×t1c)):PE.step X qcP qcQ qcL qcS 12 x=Xt x.1 x.2.1 x.2.2.1 x.2.2.2.1 x.2.2.2.2.1 x.2.2.2.2.2:=by kernel_rfl
theorem qcV:ZaX X qcP Xh:=Zhr (ZgU xok qcR qcM qcT 12) fun x _ h=>((qcU x).trans (X2K x).symm).trans h
noncomputable def qcW {R:Type}:Prs S R:=PE.ps X qcP (fun x q=>(Xh x).bind q) qcL
theorem qcX {R:Type}:Z7R X (qcW (R:=R)):=Zhi (e:=qcP) qcV qcM
def qcY:StT S:=⟨(N (N L vr L) (some (.agg [(.ptr 1 0)])) (N L vp L)),(N (N L o3 L) oo L),2⟩
def qcZ:Way S:=⟨.ret,⟨v19,(N (N L o3 L) oo L),2⟩,[(.st 5),.bool,(.st 20),(.lst (.st 21)),.en,(.mp (.st 23) (.int .i64))]⟩
def qd0:PE S:=⟨130,3,qcY,[(.st 2),(.st 21),(.st 20),(.lst (.st 21)),.en,(.mp (.st 23) (.int .i64))],[qcZ]⟩
noncomputable def qd1:List (Nat×F7 S):=[(41,q8v)]
theorem qd2:Z9n X qd1:=⟨q8w,trivial⟩
abbrev qd3 {R:Type}:Z27 S R:=Zgi
theorem qd4 {R:Type}:Z3J X (qd3 (R:=R)):=ZgQ X
def qd5:Key:=⟨[131,7,1,130],131,none,[0,0,1,0,1],0,20⟩
def qd6:StT S:=⟨(N (N (N (N L vK L) none L) (some (.fn (.func 132) [] [(.ptr 3 0)])) L) (some (.sl (.st 19) [])) v1n),o1s,20⟩
def qd7:Way S:=⟨.ret,⟨v1m,(N (N (N (N L none (N (N L os L) none L)) oj (N (N L none (N L os L)) none L)) none (N L none (N L none (N L oc L)))) none L),58⟩,[.int,(.lst (.int .i64)),(.st 2),(.lst (.int .i64)),(.st 19)]⟩
def qd8:Way S:=⟨(.exit 0),⟨L,o1s,21⟩,[(.st 2)]⟩
def qd9:LE S:=⟨qd5,qd6,[.int,(.lst (.st 19)),.int,(.st 2)],[qd7,qd8]⟩
def qda (x:tY):((Int×(List Int)×(List Int)×Zt)⊕Unit)→tN:=Sum.elim (fun y0=>(.inl (y0.1,y0.2.1,x.2.2.2,y0.2.2.1,y0.2.2.2))) (fun y1=>(.inr x.2.2.2))
noncomputable def qdb {R:Type} (x:tY) (k:tN→Option R):Option R:=(X2t x.1 x.2.1 x.2.2.2 x.2.2.1).bind (Sum.elim (fun y0=>k (.inl (y0.1,y0.2.1,x.2.2.2,y0.2.2.1,y0.2.2.2))) (fun y1=>k (.inr x.2.2.2)))
def qdc (x:tY) (v:Int):tY:=(x.1,x.2.1,v,x.2.2.2)
theorem qdd (x:tY):LE.step X qd9 qd1 qcW qd3 12 x=Xm x.1 x.2.1 x.2.2.2 x.2.2.1 (fun w0=>(Sum.inl (x.1,x.2.1,w0,x.2.2.2))) (fun p0 p1 p2 p3=>(Sum.inr (.inl (p0,p1,x.2.2.2,p2,p3)))) (Sum.inr (.inr x.2.2.2)):=by kernel_rfl
theorem qdf {R:Type} (x:tY) (k:tN→Option R) (r:R) (h:qdb x k=some r):∃ o,Z5s (LE.step X qd9 qd1 qcW qd3 12) x o∧k o=some r:=by
 obtain ⟨o,h1,h2⟩:=Z0 h
 exact ⟨qda x o,Zhl (st:=fun (x:tY)=>Xf x.1 x.2.1 x.2.2.2) (prj:=fun x=>x.2.2.1) (emb:=qdc) (embO:=qda) (fun x=>(qdd x).trans (by unfold Xf Xm;simp only [Zhd,Zh8,Zhe,Option.map_some,Option.map_none];rfl)) (fun _ _=>rfl) (fun _ _=>rfl) (fun _ _ _=>rfl) (fun _ _ _=>rfl) (fun _=>rfl) (Z1S.1 h1),by
  first
  | exact h2
  | (rcases o with o|o<;>exact h2)⟩
noncomputable def qdg {R:Type}:Z27 S R:=LE.ls X qd9 qdb qd3
theorem qdh {R:Type}:Z3J X (qdg (R:=R)):=Zhq xok qd2 (e:=qd9) qcX qd4 qdf qd4
theorem qdi (x:(Zu×Zm×ZJ×(List Zm)×(Nat→Nat)×t1c)):PE.step X qd0 qd1 qcW qdg 12 x=W1 x.1 x.2.1 x.2.2.1 x.2.2.2.1 x.2.2.2.2.1 x.2.2.2.2.2:=by kernel_rfl
theorem qdj:ZaX X qd0 XS:=Zhr (ZgU xok qd2 qcX qdh 12) fun x _ h=>((qdi x).trans (X3e x).symm).trans h
noncomputable def qdk {R:Type}:Prs S R:=PE.ps X qd0 (fun x q=>(XS x).bind q) qcW
theorem qdl {R:Type}:Z7R X (qdk (R:=R)):=Zhi (e:=qd0) qdj qcX
def qdm:StT S:=⟨(N (N (N L vK L) vr L) (some (.ptr 1 0)) (N L vK L)),(N (N L o3 L) oo L),2⟩
def qdn:Way S:=⟨.ret,⟨(N L (some (.tup [(.agg [(.arr (.st 5) 4 (fun _=>tdf T (.st 5)))]),(.bool false)])) L),(N (N L o3 L) oo L),2⟩,[(.arr (.st 5)),.bool,(.st 20),(.lst (.st 21)),.en,(.mp (.st 23) (.int .i64))]⟩
def qdo:PE S:=⟨42,4,qdm,[.int,(.st 2),.int,(.st 20),(.lst (.st 21)),.en,(.mp (.st 23) (.int .i64))],[qdn]⟩
noncomputable def qdp:List (Nat×F7 S):=[(38,qbh),(41,q8v)]
theorem qdq:Z9n X qdp:=⟨qbi,q8w,trivial⟩
abbrev qdr {R:Type}:Z27 S R:=Zgi
theorem qds {R:Type}:Z3J X (qdr (R:=R)):=ZgQ X
def qdt:Key:=⟨[42],42,none,[0,0,1,0,0,1],0,12⟩
def qdu:StT S:=⟨(N (N (N (N L none (N L vK L)) vK L) none (N L (some (.ptr 2 0)) L)) (some (.ptr 1 0)) (N (N (N L (some (.ptr 3 0)) (N L vK L)) none L) vK (N L none (N (N L vI L) none L)))),o1k,12⟩
def qdv:Way S:=⟨(.exit 0),⟨(N (N (N L vK L) none (N L (some (.ptr 2 0)) L)) (some (.ptr 1 0)) (N v1l vK L)),o1k,13⟩,[.int,.int,(.arr (.st 5)),(.st 20),(.lst (.st 21)),.en,(.mp (.st 23) (.int .i64)),(.st 2)]⟩
def qdw:LE S:=⟨qdt,qdu,[.int,.int,.int,.int,(.lst (.st 18)),(.arr (.st 5)),(.st 20),(.lst (.st 21)),.en,(.mp (.st 23) (.int .i64)),(.st 2)],[qdv]⟩
def qdx (x:tf):(Nat→ZE)→tp:=fun y0=>(x.2.1,x.2.2.2.1,y0,x.2.2.2.2.2.2.1,x.2.2.2.2.2.2.2.1,x.2.2.2.2.2.2.2.2.1,x.2.2.2.2.2.2.2.2.2.1,x.2.2.2.2.2.2.2.2.2.2)
noncomputable def qdy {R:Type} (x:tf) (k:tp→Option R):Option R:=(X1y x.1 x.2.1 x.2.2.2.1 x.2.2.2.2.1 x.2.2.2.2.2.2.1 x.2.2.2.2.2.2.2.1 x.2.2.2.2.2.2.2.2.1 x.2.2.2.2.2.2.2.2.2.1 x.2.2.2.2.2.2.2.2.2.2 (x.2.2.1,x.2.2.2.2.2.1)).bind (fun y0=>k (x.2.1,x.2.2.2.1,y0,x.2.2.2.2.2.2.1,x.2.2.2.2.2.2.2.1,x.2.2.2.2.2.2.2.2.1,x.2.2.2.2.2.2.2.2.2.1,x.2.2.2.2.2.2.2.2.2.2))
def qdz (x:tf) (v:(Int×(Nat→ZE))):tf:=(x.1,x.2.1,v.1,x.2.2.2.1,x.2.2.2.2.1,v.2,x.2.2.2.2.2.2.1,x.2.2.2.2.2.2.2.1,x.2.2.2.2.2.2.2.2.1,x.2.2.2.2.2.2.2.2.2.1,x.2.2.2.2.2.2.2.2.2.2)
theorem qdA (x:tf):LE.step X qdw qdp qcA qdr 12 x=Xo x.1 x.2.1 x.2.2.2.1 x.2.2.2.2.1 x.2.2.2.2.2.2.1 x.2.2.2.2.2.2.2.1 x.2.2.2.2.2.2.2.2.1 x.2.2.2.2.2.2.2.2.2.1 x.2.2.2.2.2.2.2.2.2.2 x.2.2.1 x.2.2.2.2.2.1 (fun w0 w1=>(Sum.inl (x.1,x.2.1,w0,x.2.2.2.1,x.2.2.2.2.1,w1,x.2.2.2.2.2.2.1,x.2.2.2.2.2.2.2.1,x.2.2.2.2.2.2.2.2.1,x.2.2.2.2.2.2.2.2.2.1,x.2.2.2.2.2.2.2.2.2.2))) (fun p0=>(Sum.inr (x.2.1,x.2.2.2.1,p0,x.2.2.2.2.2.2.1,x.2.2.2.2.2.2.2.1,x.2.2.2.2.2.2.2.2.1,x.2.2.2.2.2.2.2.2.2.1,x.2.2.2.2.2.2.2.2.2.2))):=by kernel_rfl
theorem qdC {R:Type} (x:tf) (k:tp→Option R) (r:R) (h:qdy x k=some r):∃ o,Z5s (LE.step X qdw qdp qcA qdr 12) x o∧k o=some r:=by
 obtain ⟨o,h1,h2⟩:=Z0 h
 exact ⟨qdx x o,Zhl (st:=fun (x:tf)=>Xi x.1 x.2.1 x.2.2.2.1 x.2.2.2.2.1 x.2.2.2.2.2.2.1 x.2.2.2.2.2.2.2.1 x.2.2.2.2.2.2.2.2.1 x.2.2.2.2.2.2.2.2.2.1 x.2.2.2.2.2.2.2.2.2.2) (prj:=fun x=>(x.2.2.1,x.2.2.2.2.2.1)) (emb:=qdz) (embO:=qdx) (fun x=>(qdA x).trans (by unfold Xi Xo;simp only [Zhd,Zh8,Zhe,Option.map_some,Option.map_none];rfl)) (fun _ _=>rfl) (fun _ _=>rfl) (fun _ _ _=>rfl) (fun _ _ _=>rfl) (fun _=>rfl) (Z1S.1 h1),by
  first
  | exact h2
  | (rcases o with o<;>exact h2)⟩
noncomputable def qdD {R:Type}:Z27 S R:=LE.ls X qdw qdy qdr
theorem qdE {R:Type}:Z3J X (qdD (R:=R)):=Zhq xok qdq (e:=qdw) qcB qds qdC qds
def qdF:Key:=⟨[42],42,none,[0,0,1,0,1,1,0,1],2,19⟩
def qdG:StT S:=⟨(N (N (N v1m vK L) none (N L (some (.ptr 2 0)) (N (N (N L vH L) none L) none L))) (some (.ptr 1 0)) (N v1l vK (N L none v1n))),o1k,19⟩
def qdH:Way S:=⟨.ret,⟨v15,(N (N (N L o7 (N (N (N L (some (.cells 135 [.nilp])) L) none L) none L)) o3 o14) oo (N L oj (N L none (N (N L od L) none L)))),102⟩,[.bool,(.arr (.st 5)),(.st 20),(.lst (.st 21)),.en,(.st 5),(.mp (.st 23) (.int .i64)),(.st 2),(.st 21)]⟩
def qdI:Way S:=⟨.ret,⟨v15,(N (N (N L o7 (N (N (N L (some (.cells 135 [(.ptr 1 0)])) L) none L) none L)) o3 o14) oo (N L oj (N L none (N (N L od L) none L)))),102⟩,[.bool,(.arr (.st 5)),(.st 20),(.lst (.st 21)),.en,(.st 5),(.mp (.st 23) (.int .i64)),(.st 2),(.st 21)]⟩
def qdJ:Way S:=⟨(.exit 2),⟨(N L none (N v1l none L)),o1k,20⟩,[(.arr (.st 5)),(.st 20),(.lst (.st 21)),.en,(.mp (.st 23) (.int .i64)),(.st 2)]⟩
def qdK:LE S:=⟨qdF,qdG,[.int,.int,(.lst (.st 21)),.int,.int,(.arr (.st 5)),(.st 20),(.lst (.st 21)),.en,(.mp (.st 23) (.int .i64)),(.st 2)],[qdH,qdI,qdJ]⟩
def qdL (x:th):((Bool×(Nat→ZE)×ZJ×(List Zm)×(Nat→Nat)×ZE×t1c×Zm)⊕(Bool×(Nat→ZE)×ZJ×(List Zm)×(Nat→Nat)×ZE×t1c×Zm)⊕((Nat→ZE)×ZJ×(List Zm)×(Nat→Nat)×t1c))→t1:=Sum.elim (fun y0=>(.inl (y0.1,y0.2.1,y0.2.2.1,y0.2.2.2.1,y0.2.2.2.2.1,y0.2.2.2.2.2.1,y0.2.2.2.2.2.2.1,x.2.2.2.2.2.2.2.2.2.2,y0.2.2.2.2.2.2.2))) (Sum.elim (fun y1=>(.inr (.inl (y1.1,y1.2.1,y1.2.2.1,y1.2.2.2.1,y1.2.2.2.2.1,y1.2.2.2.2.2.1,y1.2.2.2.2.2.2.1,x.2.2.2.2.2.2.2.2.2.2,y1.2.2.2.2.2.2.2)))) (fun y2=>(.inr (.inr (y2.1,y2.2.1,y2.2.2.1,y2.2.2.2.1,y2.2.2.2.2,x.2.2.2.2.2.2.2.2.2.2)))))
noncomputable def qdM {R:Type} (x:th) (k:t1→Option R):Option R:=(X1z x.2.1 x.2.2.1 x.2.2.2.1 x.2.2.2.2.1 x.2.2.2.2.2.2.2.2.2.2 (x.1,x.2.2.2.2.2.1,x.2.2.2.2.2.2.1,x.2.2.2.2.2.2.2.1,x.2.2.2.2.2.2.2.2.1,x.2.2.2.2.2.2.2.2.2.1)).bind (Sum.elim (fun y0=>k (.inl (y0.1,y0.2.1,y0.2.2.1,y0.2.2.2.1,y0.2.2.2.2.1,y0.2.2.2.2.2.1,y0.2.2.2.2.2.2.1,x.2.2.2.2.2.2.2.2.2.2,y0.2.2.2.2.2.2.2))) (Sum.elim (fun y1=>k (.inr (.inl (y1.1,y1.2.1,y1.2.2.1,y1.2.2.2.1,y1.2.2.2.2.1,y1.2.2.2.2.2.1,y1.2.2.2.2.2.2.1,x.2.2.2.2.2.2.2.2.2.2,y1.2.2.2.2.2.2.2)))) (fun y2=>k (.inr (.inr (y2.1,y2.2.1,y2.2.2.1,y2.2.2.2.1,y2.2.2.2.2,x.2.2.2.2.2.2.2.2.2.2))))))
def qdN (x:th) (v:(Int×(Nat→ZE)×ZJ×(List Zm)×(Nat→Nat)×t1c)):th:=(v.1,x.2.1,x.2.2.1,x.2.2.2.1,x.2.2.2.2.1,v.2.1,v.2.2.1,v.2.2.2.1,v.2.2.2.2.1,v.2.2.2.2.2,x.2.2.2.2.2.2.2.2.2.2)
theorem qdO (x:th):LE.step X qdK qdp qdk qdD 12 x=Xp x.2.1 x.2.2.1 x.2.2.2.1 x.2.2.2.2.1 x.2.2.2.2.2.2.2.2.2.2 x.1 x.2.2.2.2.2.1 x.2.2.2.2.2.2.1 x.2.2.2.2.2.2.2.1 x.2.2.2.2.2.2.2.2.1 x.2.2.2.2.2.2.2.2.2.1 (fun w0 w1 w2 w3 w4 w5=>(Sum.inl (w0,x.2.1,x.2.2.1,x.2.2.2.1,x.2.2.2.2.1,w1,w2,w3,w4,w5,x.2.2.2.2.2.2.2.2.2.2))) (fun p0 p1 p2 p3 p4 p5 p6 p7=>(Sum.inr (.inl (p0,p1,p2,p3,p4,p5,p6,x.2.2.2.2.2.2.2.2.2.2,p7)))) (fun p0 p1 p2 p3 p4 p5 p6 p7=>(Sum.inr (.inr (.inl (p0,p1,p2,p3,p4,p5,p6,x.2.2.2.2.2.2.2.2.2.2,p7))))) (fun p0 p1 p2 p3 p4=>(Sum.inr (.inr (.inr (p0,p1,p2,p3,p4,x.2.2.2.2.2.2.2.2.2.2))))):=by kernel_rfl
theorem qdQ {R:Type} (x:th) (k:t1→Option R) (r:R) (h:qdM x k=some r):∃ o,Z5s (LE.step X qdK qdp qdk qdD 12) x o∧k o=some r:=by
 obtain ⟨o,h1,h2⟩:=Z0 h
 exact ⟨qdL x o,Zhl (st:=fun (x:th)=>Xj x.2.1 x.2.2.1 x.2.2.2.1 x.2.2.2.2.1 x.2.2.2.2.2.2.2.2.2.2) (prj:=fun x=>(x.1,x.2.2.2.2.2.1,x.2.2.2.2.2.2.1,x.2.2.2.2.2.2.2.1,x.2.2.2.2.2.2.2.2.1,x.2.2.2.2.2.2.2.2.2.1)) (emb:=qdN) (embO:=qdL) (fun x=>(qdO x).trans (by unfold Xj Xp;simp only [Zhd,Zh8,Zhe,Option.map_some,Option.map_none];rfl)) (fun _ _=>rfl) (fun _ _=>rfl) (fun _ _ _=>rfl) (fun _ _ _=>rfl) (fun _=>rfl) (Z1S.1 h1),by
  first
  | exact h2
  | (rcases o with o|o|o<;>exact h2)⟩
noncomputable def qdR {R:Type}:Z27 S R:=LE.ls X qdK qdM qdD
theorem qdS {R:Type}:Z3J X (qdR (R:=R)):=Zhq xok qdq (e:=qdK) qdl qdE qdQ qdE
theorem qdT (x:(Int×Zu×Int×ZJ×(List Zm)×(Nat→Nat)×t1c)):PE.step X qdo qdp qdk qdR 12 x=Wo x.1 x.2.1 x.2.2.1 x.2.2.2.1 x.2.2.2.2.1 x.2.2.2.2.2.1 x.2.2.2.2.2.2:=by kernel_rfl
theorem qdU:ZaX X qdo Wj:=Zhr (ZgU xok qdq qdl qdS 12) fun x _ h=>((qdT x).trans (X3s x).symm).trans h
noncomputable def qdV {R:Type}:Prs S R:=PE.ps X qdo (fun x q=>(Wj x).bind q) qdk
theorem qdW {R:Type}:Z7R X (qdV (R:=R)):=Zhi (e:=qdo) qdU qdl
def qdX:StT S:=⟨(N L (some (.ptr 1 0)) L),(N (N L o3 L) oo L),2⟩
def qdY:Way S:=⟨.ret,⟨(N L (some (.rs 2 0)) L),(N (N L o3 L) oo (N L oz L)),3⟩,[(.st 20),(.lst (.st 21)),.en,(.mp (.st 23) (.int .i64)),(.lst (.st 2))]⟩
def qdZ:PE S:=⟨40,1,qdX,[(.st 20),(.lst (.st 21)),.en,(.mp (.st 23) (.int .i64))],[qdY]⟩
noncomputable def qe0:List (Nat×F7 S):=[(38,qbh),(41,q8v)]
theorem qe1:Z9n X qe0:=⟨qbi,q8w,trivial⟩
abbrev qe2 {R:Type}:Z27 S R:=Zgi
theorem qe3 {R:Type}:Z3J X (qe2 (R:=R)):=ZgQ X
def qe4:Key:=⟨[80,0,40],80,none,[0,0,1,0,0,1,0,0,1],2,34⟩
def qe5:StT S:=⟨(N (N (N L vK L) (some (.ptr 6 0)) L) (some (.yld 11)) (N (N L vK L) none L)),oV,35⟩
def qe6:Way S:=⟨(.exit 2),⟨v1c,oV,42⟩,[.int,(.st 20),(.lst (.st 21)),.en,(.mp (.st 23) (.int .i64)),(.lst (.st 2))]⟩
def qe7:LE S:=⟨qe4,qe5,[.int,.int,(.st 20),(.lst (.st 21)),.en,(.mp (.st 23) (.int .i64)),(.lst (.st 2))],[qe6]⟩
def qe8 (x:tu):(ZJ×(List Zm)×(Nat→Nat)×t1c×(List Zu))→tA:=fun y0=>(x.1,y0.1,y0.2.1,y0.2.2.1,y0.2.2.2.1,y0.2.2.2.2)
noncomputable def qe9 {R:Type} (x:tu) (k:tA→Option R):Option R:=(Xx x.1 (x.2.1,x.2.2.1,x.2.2.2.1,x.2.2.2.2.1,x.2.2.2.2.2.1,x.2.2.2.2.2.2)).bind (fun y0=>k (x.1,y0.1,y0.2.1,y0.2.2.1,y0.2.2.2.1,y0.2.2.2.2))
def qea (x:tu) (v:tA):tu:=(x.1,v.1,v.2.1,v.2.2.1,v.2.2.2.1,v.2.2.2.2.1,v.2.2.2.2.2)
theorem qeb (x:tu):LE.step X qe7 qe0 qdV qe2 12 x=Xa x.1 x.2.1 x.2.2.1 x.2.2.2.1 x.2.2.2.2.1 x.2.2.2.2.2.1 x.2.2.2.2.2.2 (fun w0 w1 w2 w3 w4 w5=>(Sum.inl (x.1,w0,w1,w2,w3,w4,w5))) (fun p0 p1 p2 p3 p4=>(Sum.inr (x.1,p0,p1,p2,p3,p4))):=by kernel_rfl
theorem qed {R:Type} (x:tu) (k:tA→Option R) (r:R) (h:qe9 x k=some r):∃ o,Z5s (LE.step X qe7 qe0 qdV qe2 12) x o∧k o=some r:=by
 obtain ⟨o,h1,h2⟩:=Z0 h
 exact ⟨qe8 x o,Zhl (st:=fun (x:tu)=>X7 x.1) (prj:=fun x=>(x.2.1,x.2.2.1,x.2.2.2.1,x.2.2.2.2.1,x.2.2.2.2.2.1,x.2.2.2.2.2.2)) (emb:=qea) (embO:=qe8) (fun x=>(qeb x).trans (by unfold X7 Xa;simp only [Zhd,Zh8,Zhe,Option.map_some,Option.map_none];rfl)) (fun _ _=>rfl) (fun _ _=>rfl) (fun _ _ _=>rfl) (fun _ _ _=>rfl) (fun _=>rfl) (Z1S.1 h1),by
  first
  | exact h2
  | (rcases o with o<;>exact h2)⟩
noncomputable def qee {R:Type}:Z27 S R:=LE.ls X qe7 qe9 qe2
theorem qef {R:Type}:Z3J X (qee (R:=R)):=Zhq xok qe1 (e:=qe7) qdW qe3 qed qe3
def qeg:Key:=⟨[80,0,40],80,none,[0,0,1],0,19⟩
def qeh:StT S:=⟨v1c,o12,20⟩
def qei:Way S:=⟨(.exit 0),⟨L,o12,27⟩,[(.lst (.st 2)),(.st 20),(.lst (.st 21)),.en,(.mp (.st 23) (.int .i64))]⟩
def qej:LE S:=⟨qeg,qeh,[.int,(.lst (.st 2)),(.st 20),(.lst (.st 21)),.en,(.mp (.st 23) (.int .i64))],[qei]⟩
def qek (x:tB):tD→tD:=fun y0=>(y0.1,y0.2.1,y0.2.2.1,y0.2.2.2.1,y0.2.2.2.2)
noncomputable def qel {R:Type} (x:tB) (k:tD→Option R):Option R:=(Xw (x.1,x.2.1,x.2.2.1,x.2.2.2.1,x.2.2.2.2.1,x.2.2.2.2.2)).bind (fun y0=>k (y0.1,y0.2.1,y0.2.2.1,y0.2.2.2.1,y0.2.2.2.2))
def qem (x:tB) (v:tB):tB:=(v.1,v.2.1,v.2.2.1,v.2.2.2.1,v.2.2.2.2.1,v.2.2.2.2.2)
theorem qen (x:tB):LE.step X qej qe0 qdV qee 12 x=X9 x.1 x.2.1 x.2.2.1 x.2.2.2.1 x.2.2.2.2.1 x.2.2.2.2.2 (fun w0 w1 w2 w3 w4 w5=>(Sum.inl (w0,w1,w2,w3,w4,w5))) (fun p0 p1 p2 p3 p4=>(Sum.inr (p0,p1,p2,p3,p4))):=by kernel_rfl
theorem qep {R:Type} (x:tB) (k:tD→Option R) (r:R) (h:qel x k=some r):∃ o,Z5s (LE.step X qej qe0 qdV qee 12) x o∧k o=some r:=by
 obtain ⟨o,h1,h2⟩:=Z0 h
 exact ⟨qek x o,Zhl (st:=fun (x:tB)=>X6) (prj:=fun x=>(x.1,x.2.1,x.2.2.1,x.2.2.2.1,x.2.2.2.2.1,x.2.2.2.2.2)) (emb:=qem) (embO:=qek) (fun x=>(qen x).trans (by unfold X6 X9;simp only [Zhd,Zh8,Zhe,Option.map_some,Option.map_none];rfl)) (fun _ _=>rfl) (fun _ _=>rfl) (fun _ _ _=>rfl) (fun _ _ _=>rfl) (fun _=>rfl) (Z1S.1 h1),by
  first
  | exact h2
  | (rcases o with o<;>exact h2)⟩
noncomputable def qeq {R:Type}:Z27 S R:=LE.ls X qej qel qee
theorem qer {R:Type}:Z3J X (qeq (R:=R)):=Zhq xok qe1 (e:=qej) qdW qef qep qef
theorem qes (x:tL):PE.step X qdZ qe0 qdV qeq 12 x=Xq x.1 x.2.1 x.2.2.1 x.2.2.2:=by kernel_rfl
theorem qet:ZaX X qdZ XD:=Zhr (ZgU xok qe1 qdW qer 12) fun x _ h=>((qes x).trans (X2C x).symm).trans h
noncomputable def qeu {R:Type}:Prs S R:=PE.ps X qdZ (fun x q=>(XD x).bind q) qdV
theorem qev {R:Type}:Z7R X (qeu (R:=R)):=Zhi (e:=qdZ) qet qdW
noncomputable def qew:List (Nat×F7 S):=[(76,qa0),(41,q8v),(61,qar),(38,qbh)]
theorem qex:Z9n X (qew):=⟨qa1,q8w,qas,qbi,trivial⟩
abbrev qey {R:Type}:Z27 S R:=Zgi
theorem qez {R:Type}:Z3J X (qey (R:=R)):=ZgQ X
theorem qeA (x0:ZJ) (x1:List Zm):Zhs X qew [(.st 20),(.sl (.st 21))] [(.sl (.st 2)),(.int .i64)] qeu qey 12 11 (x0,x1,())=X1S x0 x1:=by kernel_rfl
noncomputable def qeB:F7 S:=⟨[(.st 20),(.sl (.st 21))],[(.sl (.st 2)),(.int .i64)],fun xs=>X3p xs.1 xs.2.1⟩
theorem qeC:Z7Q X 11 qeB:=Zho (Zhn xok qex qev qez 12 11) fun xs _ h=>((qeA xs.1 xs.2.1).trans (X53 xs.1 xs.2.1).symm).trans h
def qeD:StT S:=⟨(N (N (N L vK L) vr L) (some .nilp) (N L vK L)),L,0⟩
def qeE:PE S:=⟨42,4,qeD,[.int,(.st 2),.int],[]⟩
noncomputable def qeF:List (Nat×F7 S):=[(38,qbh),(41,q8v)]
theorem qeG:Z9n X qeF:=⟨qbi,q8w,trivial⟩
abbrev qeH {R:Type}:Z27 S R:=Zgi
theorem qeI {R:Type}:Z3J X (qeH (R:=R)):=ZgQ X
theorem qeJ (x:(Int×Zu×Int)):PE.step X qeE qeF qeu qeH 12 x=X1h x.1 x.2.1 x.2.2:=by kernel_rfl
theorem qeK:ZaX X qeE X3c:=Zhr (ZgU xok qeG qev qeI 12) fun x _ h=>((qeJ x).trans (X5c x).symm).trans h
noncomputable def qeL {R:Type}:Prs S R:=PE.ps X qeE (fun x q=>(X3c x).bind q) qeu
theorem qeM {R:Type}:Z7R X (qeL (R:=R)):=Zhi (e:=qeE) qeK qev
noncomputable def qeN:List (Nat×F7 S):=[(76,qa0),(41,q8v),(61,qar),(38,qbh)]
theorem qeO:Z9n X (qeN):=⟨qa1,q8w,qas,qbi,trivial⟩
abbrev qeP {R:Type}:Z27 S R:=Zgi
theorem qeQ {R:Type}:Z3J X (qeP (R:=R)):=ZgQ X
def qeR:Key:=⟨[24],24,none,[0,0,1,0,1,1,1,1,1,1,1],0,42⟩
def qeS:StT S:=⟨(N (N (N L none v1m) none (N (N L none (N (N L (some (.rs 42 0)) L) none L)) none L)) none (N (N L (some (.ptr 1 0)) L) none (N v1m none L))),oQ,43⟩
def qeT:Way S:=⟨(.exit 0),⟨(N L none (N (N L (some (.ptr 1 0)) L) none L)),oQ,44⟩,[(.mp (.st 23) (.int .i64)),(.st 6),(.st 2),(.st 20),(.st 20),(.lst (.st 21)),.en,(.lst (.st 2))]⟩
def qeU:LE S:=⟨qeR,qeS,[.int,.int,(.mp (.st 23) (.int .i64)),(.st 6),(.st 2),(.st 20),(.st 20),(.lst (.st 21)),.en,(.lst (.st 2))],[qeT]⟩
def qeV (x:tm):ZB→tn:=fun y0=>(x.2.2.1,y0,x.2.2.2.2.1,x.2.2.2.2.2.1,x.2.2.2.2.2.2.1,x.2.2.2.2.2.2.2.1,x.2.2.2.2.2.2.2.2.1,x.2.2.2.2.2.2.2.2.2)
noncomputable def qeW {R:Type} (x:tm) (k:tn→Option R):Option R:=(X2Y x.2.1 x.2.2.2.2.2.2.2.2.2 (x.1,x.2.2.2.1)).bind (fun y0=>k (x.2.2.1,y0,x.2.2.2.2.1,x.2.2.2.2.2.1,x.2.2.2.2.2.2.1,x.2.2.2.2.2.2.2.1,x.2.2.2.2.2.2.2.2.1,x.2.2.2.2.2.2.2.2.2))
def qeX (x:tm) (v:(Int×ZB)):tm:=(v.1,x.2.1,x.2.2.1,v.2,x.2.2.2.2.1,x.2.2.2.2.2.1,x.2.2.2.2.2.2.1,x.2.2.2.2.2.2.2.1,x.2.2.2.2.2.2.2.2.1,x.2.2.2.2.2.2.2.2.2)
theorem qeY (x:tm):LE.step X qeU qeN qeL qeP 12 x=X17 x.2.1 x.2.2.2.2.2.2.2.2.2 x.1 x.2.2.2.1 (fun w0 w1=>(Sum.inl (w0,x.2.1,x.2.2.1,w1,x.2.2.2.2.1,x.2.2.2.2.2.1,x.2.2.2.2.2.2.1,x.2.2.2.2.2.2.2.1,x.2.2.2.2.2.2.2.2.1,x.2.2.2.2.2.2.2.2.2))) (fun p0=>(Sum.inr (x.2.2.1,p0,x.2.2.2.2.1,x.2.2.2.2.2.1,x.2.2.2.2.2.2.1,x.2.2.2.2.2.2.2.1,x.2.2.2.2.2.2.2.2.1,x.2.2.2.2.2.2.2.2.2))):=by kernel_rfl
theorem qf0 {R:Type} (x:tm) (k:tn→Option R) (r:R) (h:qeW x k=some r):∃ o,Z5s (LE.step X qeU qeN qeL qeP 12) x o∧k o=some r:=by
 obtain ⟨o,h1,h2⟩:=Z0 h
 exact ⟨qeV x o,Zhl (st:=fun (x:tm)=>X11 x.2.1 x.2.2.2.2.2.2.2.2.2) (prj:=fun x=>(x.1,x.2.2.2.1)) (emb:=qeX) (embO:=qeV) (fun x=>(qeY x).trans (by unfold X11 X17;simp only [Zhd,Zh8,Zhe,Option.map_some,Option.map_none];rfl)) (fun _ _=>rfl) (fun _ _=>rfl) (fun _ _ _=>rfl) (fun _ _ _=>rfl) (fun _=>rfl) (Z1S.1 h1),by
  first
  | exact h2
  | (rcases o with o<;>exact h2)⟩
noncomputable def qf1 {R:Type}:Z27 S R:=LE.ls X qeU qeW qeP
theorem qf2 {R:Type}:Z3J X (qf1 (R:=R)):=Zhq xok qeO (e:=qeU) qeM qeQ qf0 qeQ
theorem qf3 (x0:ZJ) (x1:List Zm):Zhs X qeN [(.st 20),(.sl (.st 21))] [(.st 6),(.int .i64)] qeL qf1 12 24 (x0,x1,())=X2a x0 x1:=by kernel_rfl
noncomputable def qf4:F7 S:=⟨[(.st 20),(.sl (.st 21))],[(.st 6),(.int .i64)],fun xs=>X43 xs.1 xs.2.1⟩
theorem qf5:Z7Q X 24 qf4:=Zho (Zhn xok qeO qeM qf2 12 24) fun xs _ h=>((qf3 xs.1 xs.2.1).trans (X5k xs.1 xs.2.1).symm).trans h
def qf6:StT S:=⟨(N L (some .nilp) L),L,0⟩
def qf7:PE S:=⟨46,1,qf6,[],[]⟩
noncomputable def qf8:List (Nat×F7 S):=[]
theorem qf9:Z9n X qf8:=trivial
abbrev qfa {R:Type}:Z27 S R:=Zgi
theorem qfb {R:Type}:Z3J X (qfa (R:=R)):=ZgQ X
theorem qfc (x:Unit):PE.step X qf7 qf8 qeL qfa 12 x=W8:=by kernel_rfl
theorem qfd:ZaX X qf7 X27:=Zhr (ZgU xok qf9 qeM qfb 12) fun x _ h=>((qfc x).trans (X4i x).symm).trans h
noncomputable def qfe {R:Type}:Prs S R:=PE.ps X qf7 (fun x q=>(X27 x).bind q) qeL
theorem qff {R:Type}:Z7R X (qfe (R:=R)):=Zhi (e:=qf7) qfd qeM
def qfg:StT S:=⟨(N L (some (.ptr 1 0)) L),(N (N L o3 L) oo L),2⟩
def qfh:Way S:=⟨.ret,⟨(N L vK L),(N (N L o3 L) oo L),2⟩,[.int,(.st 20),(.lst (.st 21)),.en,(.mp (.st 23) (.int .i64))]⟩
def qfi:PE S:=⟨46,1,qfg,[(.st 20),(.lst (.st 21)),.en,(.mp (.st 23) (.int .i64))],[qfh]⟩
noncomputable def qfj:List (Nat×F7 S):=[]
theorem qfk:Z9n X qfj:=trivial
abbrev qfl {R:Type}:Z27 S R:=Zgi
theorem qfm {R:Type}:Z3J X (qfl (R:=R)):=ZgQ X
def qfn:Key:=⟨[46],46,none,[0,0,1,0,1],0,9⟩
def qfo:StT S:=⟨(N v1p (some (.ptr 1 0)) (N (N L none (N L vK L)) vK (N (N L vH L) none L))),(N (N L o3 L) oo L),9⟩
def qfp:Way S:=⟨(.exit 0),⟨(N L none (N L vK L)),(N (N L o3 L) oo L),10⟩,[.int,(.st 20),(.lst (.st 21)),.en,(.mp (.st 23) (.int .i64))]⟩
def qfq:LE S:=⟨qfn,qfo,[.int,.int,.int,(.lst (.st 21)),(.st 20),(.lst (.st 21)),.en,(.mp (.st 23) (.int .i64))],[qfp]⟩
def qfr (x:tq):Int→tG:=fun y0=>(y0,x.2.2.2.2.1,x.2.2.2.2.2.1,x.2.2.2.2.2.2.1,x.2.2.2.2.2.2.2)
noncomputable def qfs {R:Type} (x:tq) (k:tG→Option R):Option R:=(X1U x.1 x.2.2.2.1 x.2.2.2.2.1 x.2.2.2.2.2.2.1 (x.2.1,x.2.2.1)).bind (fun y0=>k (y0,x.2.2.2.2.1,x.2.2.2.2.2.1,x.2.2.2.2.2.2.1,x.2.2.2.2.2.2.2))
def qft (x:tq) (v:(Int×Int)):tq:=(x.1,v.1,v.2,x.2.2.2.1,x.2.2.2.2.1,x.2.2.2.2.2.1,x.2.2.2.2.2.2.1,x.2.2.2.2.2.2.2)
theorem qfu (x:tq):LE.step X qfq qfj qfe qfl 12 x=WB x.1 x.2.2.2.1 x.2.2.2.2.1 x.2.2.2.2.2.2.1 x.2.1 x.2.2.1 (fun w0 w1=>(Sum.inl (x.1,w0,w1,x.2.2.2.1,x.2.2.2.2.1,x.2.2.2.2.2.1,x.2.2.2.2.2.2.1,x.2.2.2.2.2.2.2))) (fun p0=>(Sum.inr (p0,x.2.2.2.2.1,x.2.2.2.2.2.1,x.2.2.2.2.2.2.1,x.2.2.2.2.2.2.2))):=by kernel_rfl
theorem qfw {R:Type} (x:tq) (k:tG→Option R) (r:R) (h:qfs x k=some r):∃ o,Z5s (LE.step X qfq qfj qfe qfl 12) x o∧k o=some r:=by
 obtain ⟨o,h1,h2⟩:=Z0 h
 exact ⟨qfr x o,Zhl (st:=fun (x:tq)=>WV x.1 x.2.2.2.1 x.2.2.2.2.1 x.2.2.2.2.2.2.1) (prj:=fun x=>(x.2.1,x.2.2.1)) (emb:=qft) (embO:=qfr) (fun x=>(qfu x).trans (by unfold WV WB;simp only [Zhd,Zh8,Zhe,Option.map_some,Option.map_none];rfl)) (fun _ _=>rfl) (fun _ _=>rfl) (fun _ _ _=>rfl) (fun _ _ _=>rfl) (fun _=>rfl) (Z1S.1 h1),by
  first
  | exact h2
  | (rcases o with o<;>exact h2)⟩
noncomputable def qfx {R:Type}:Z27 S R:=LE.ls X qfq qfs qfl
theorem qfy {R:Type}:Z3J X (qfx (R:=R)):=Zhq xok qfk (e:=qfq) qff qfm qfw qfm
theorem qfz (x:tL):PE.step X qfi qfj qfe qfx 12 x=W9 x.1 x.2.1 x.2.2.1 x.2.2.2:=by kernel_rfl
theorem qfA:ZaX X qfi X28:=Zhr (ZgU xok qfk qff qfy 12) fun x _ h=>((qfz x).trans (X4j x).symm).trans h
noncomputable def qfB {R:Type}:Prs S R:=PE.ps X qfi (fun x q=>(X28 x).bind q) qfe
theorem qfC {R:Type}:Z7R X (qfB (R:=R)):=Zhi (e:=qfi) qfA qff
def qfD:StT S:=⟨(N (N L vK L) (some (.ptr 1 0)) L),(N (N L o3 L) oo L),2⟩
def qfE:Way S:=⟨.ret,⟨(N L vL L),(N (N L o3 L) oo L),2⟩,[.bool,(.st 20),(.lst (.st 21)),.en,(.mp (.st 23) (.int .i64))]⟩
def qfF:PE S:=⟨48,2,qfD,[.int,(.st 20),(.lst (.st 21)),.en,(.mp (.st 23) (.int .i64))],[qfE]⟩
noncomputable def qfG:List (Nat×F7 S):=[(38,qbh),(41,q8v)]
theorem qfH:Z9n X qfG:=⟨qbi,q8w,trivial⟩
abbrev qfI {R:Type}:Z27 S R:=Zgi
theorem qfJ {R:Type}:Z3J X (qfI (R:=R)):=ZgQ X
def qfK:Key:=⟨[80,0,48],80,none,[0,0,1,0,0,1,0,0,1],2,44⟩
def qfL:StT S:=⟨(N (N (N L vK L) (some (.ptr 18 0)) L) (some (.yld 22)) (N (N L vK L) none L)),oZ,44⟩
def qfM:Way S:=⟨.ret,⟨L,oM,94⟩,[.int,(.st 20),(.lst (.st 21)),.en,(.arr (.st 5)),(.st 2),(.mp (.st 23) (.int .i64)),.bool,.int,.int]⟩
def qfN:Way S:=⟨(.exit 2),⟨v1b,oZ,51⟩,[.int,.int,(.st 20),(.lst (.st 21)),.en,(.mp (.st 23) (.int .i64)),.bool,.int,.int]⟩
def qfO:LE S:=⟨qfK,qfL,[.int,.int,.int,(.st 20),(.lst (.st 21)),.en,(.mp (.st 23) (.int .i64)),.bool,.int,.int],[qfM,qfN]⟩
def qfP (x:to):((ZJ×(List Zm)×(Nat→Nat)×(Nat→ZE)×Zu×t1c×Bool)⊕tL)→t5:=Sum.elim (fun y0=>(.inl (x.2.2.1,y0.1,y0.2.1,y0.2.2.1,y0.2.2.2.1,y0.2.2.2.2.1,y0.2.2.2.2.2.1,y0.2.2.2.2.2.2,x.2.2.2.2.2.2.2.2.1,x.2.2.2.2.2.2.2.2.2))) (fun y1=>(.inr (x.1,x.2.2.1,y1.1,y1.2.1,y1.2.2.1,y1.2.2.2,x.2.2.2.2.2.2.2.1,x.2.2.2.2.2.2.2.2.1,x.2.2.2.2.2.2.2.2.2)))
noncomputable def qfQ {R:Type} (x:to) (k:t5→Option R):Option R:=(X1N x.1 x.2.2.1 x.2.2.2.2.2.2.2.2.2 (x.2.1,x.2.2.2.1,x.2.2.2.2.1,x.2.2.2.2.2.1,x.2.2.2.2.2.2.1)).bind (Sum.elim (fun y0=>k (.inl (x.2.2.1,y0.1,y0.2.1,y0.2.2.1,y0.2.2.2.1,y0.2.2.2.2.1,y0.2.2.2.2.2.1,y0.2.2.2.2.2.2,x.2.2.2.2.2.2.2.2.1,x.2.2.2.2.2.2.2.2.2))) (fun y1=>k (.inr (x.1,x.2.2.1,y1.1,y1.2.1,y1.2.2.1,y1.2.2.2,x.2.2.2.2.2.2.2.1,x.2.2.2.2.2.2.2.2.1,x.2.2.2.2.2.2.2.2.2))))
def qfR (x:to) (v:tG):to:=(x.1,v.1,x.2.2.1,v.2.1,v.2.2.1,v.2.2.2.1,v.2.2.2.2,x.2.2.2.2.2.2.2.1,x.2.2.2.2.2.2.2.2.1,x.2.2.2.2.2.2.2.2.2)
theorem qfS (x:to):LE.step X qfO qfG qfB qfI 12 x=Wl x.1 x.2.2.1 x.2.2.2.2.2.2.2.2.2 x.2.1 x.2.2.2.1 x.2.2.2.2.1 x.2.2.2.2.2.1 x.2.2.2.2.2.2.1 (fun w0 w1 w2 w3 w4=>(Sum.inl (x.1,w0,x.2.2.1,w1,w2,w3,w4,x.2.2.2.2.2.2.2.1,x.2.2.2.2.2.2.2.2.1,x.2.2.2.2.2.2.2.2.2))) (fun p0 p1 p2 p3 p4 p5 p6=>(Sum.inr (.inl (x.2.2.1,p0,p1,p2,p3,p4,p5,p6,x.2.2.2.2.2.2.2.2.1,x.2.2.2.2.2.2.2.2.2)))) (fun p0 p1 p2 p3=>(Sum.inr (.inr (x.1,x.2.2.1,p0,p1,p2,p3,x.2.2.2.2.2.2.2.1,x.2.2.2.2.2.2.2.2.1,x.2.2.2.2.2.2.2.2.2)))):=by kernel_rfl
theorem qfU {R:Type} (x:to) (k:t5→Option R) (r:R) (h:qfQ x k=some r):∃ o,Z5s (LE.step X qfO qfG qfB qfI 12) x o∧k o=some r:=by
 obtain ⟨o,h1,h2⟩:=Z0 h
 exact ⟨qfP x o,Zhl (st:=fun (x:to)=>WJ x.1 x.2.2.1 x.2.2.2.2.2.2.2.2.2) (prj:=fun x=>(x.2.1,x.2.2.2.1,x.2.2.2.2.1,x.2.2.2.2.2.1,x.2.2.2.2.2.2.1)) (emb:=qfR) (embO:=qfP) (fun x=>(qfS x).trans (by unfold WJ Wl;simp only [Zhd,Zh8,Zhe,Option.map_some,Option.map_none];rfl)) (fun _ _=>rfl) (fun _ _=>rfl) (fun _ _ _=>rfl) (fun _ _ _=>rfl) (fun _=>rfl) (Z1S.1 h1),by
  first
  | exact h2
  | (rcases o with o|o<;>exact h2)⟩
noncomputable def qfV {R:Type}:Z27 S R:=LE.ls X qfO qfQ qfI
theorem qfW {R:Type}:Z3J X (qfV (R:=R)):=Zhq xok qfH (e:=qfO) qfC qfJ qfU qfJ
def qfX:Key:=⟨[80,0,48],80,none,[0,0,1],0,30⟩
def qfY:StT S:=⟨v1b,oZ,30⟩
def qfZ:Way S:=⟨.ret,⟨L,oM,94⟩,[.int,(.st 20),(.lst (.st 21)),.en,(.arr (.st 5)),(.st 2),(.mp (.st 23) (.int .i64)),.bool,.int,.int]⟩
def qg0:Way S:=⟨(.exit 0),⟨L,oZ,37⟩,[.int,(.st 20),(.lst (.st 21)),.en,(.mp (.st 23) (.int .i64)),.bool,.int,.int]⟩
def qg1:LE S:=⟨qfX,qfY,[.int,.int,(.st 20),(.lst (.st 21)),.en,(.mp (.st 23) (.int .i64)),.bool,.int,.int],[qfZ,qg0]⟩
def qg2 (x:tr):((ZJ×(List Zm)×(Nat→Nat)×(Nat→ZE)×Zu×t1c×Bool)⊕tL)→t7:=Sum.elim (fun y0=>(.inl (x.2.1,y0.1,y0.2.1,y0.2.2.1,y0.2.2.2.1,y0.2.2.2.2.1,y0.2.2.2.2.2.1,y0.2.2.2.2.2.2,x.2.2.2.2.2.2.2.1,x.2.2.2.2.2.2.2.2))) (fun y1=>(.inr (x.2.1,y1.1,y1.2.1,y1.2.2.1,y1.2.2.2,x.2.2.2.2.2.2.1,x.2.2.2.2.2.2.2.1,x.2.2.2.2.2.2.2.2)))
noncomputable def qg3 {R:Type} (x:tr) (k:t7→Option R):Option R:=(X1M x.2.1 x.2.2.2.2.2.2.2.2 (x.1,x.2.2.1,x.2.2.2.1,x.2.2.2.2.1,x.2.2.2.2.2.1)).bind (Sum.elim (fun y0=>k (.inl (x.2.1,y0.1,y0.2.1,y0.2.2.1,y0.2.2.2.1,y0.2.2.2.2.1,y0.2.2.2.2.2.1,y0.2.2.2.2.2.2,x.2.2.2.2.2.2.2.1,x.2.2.2.2.2.2.2.2))) (fun y1=>k (.inr (x.2.1,y1.1,y1.2.1,y1.2.2.1,y1.2.2.2,x.2.2.2.2.2.2.1,x.2.2.2.2.2.2.2.1,x.2.2.2.2.2.2.2.2))))
def qg4 (x:tr) (v:tG):tr:=(v.1,x.2.1,v.2.1,v.2.2.1,v.2.2.2.1,v.2.2.2.2,x.2.2.2.2.2.2.1,x.2.2.2.2.2.2.2.1,x.2.2.2.2.2.2.2.2)
theorem qg5 (x:tr):LE.step X qg1 qfG qfB qfV 12 x=Wk x.2.1 x.2.2.2.2.2.2.2.2 x.1 x.2.2.1 x.2.2.2.1 x.2.2.2.2.1 x.2.2.2.2.2.1 (fun w0 w1 w2 w3 w4=>(Sum.inl (w0,x.2.1,w1,w2,w3,w4,x.2.2.2.2.2.2.1,x.2.2.2.2.2.2.2.1,x.2.2.2.2.2.2.2.2))) (fun p0 p1 p2 p3 p4 p5 p6=>(Sum.inr (.inl (x.2.1,p0,p1,p2,p3,p4,p5,p6,x.2.2.2.2.2.2.2.1,x.2.2.2.2.2.2.2.2)))) (fun p0 p1 p2 p3=>(Sum.inr (.inr (x.2.1,p0,p1,p2,p3,x.2.2.2.2.2.2.1,x.2.2.2.2.2.2.2.1,x.2.2.2.2.2.2.2.2)))):=by kernel_rfl
theorem qg7 {R:Type} (x:tr) (k:t7→Option R) (r:R) (h:qg3 x k=some r):∃ o,Z5s (LE.step X qg1 qfG qfB qfV 12) x o∧k o=some r:=by
 obtain ⟨o,h1,h2⟩:=Z0 h
 exact ⟨qg2 x o,Zhl (st:=fun (x:tr)=>WI x.2.1 x.2.2.2.2.2.2.2.2) (prj:=fun x=>(x.1,x.2.2.1,x.2.2.2.1,x.2.2.2.2.1,x.2.2.2.2.2.1)) (emb:=qg4) (embO:=qg2) (fun x=>(qg5 x).trans (by unfold WI Wk;simp only [Zhd,Zh8,Zhe,Option.map_some,Option.map_none];rfl)) (fun _ _=>rfl) (fun _ _=>rfl) (fun _ _ _=>rfl) (fun _ _ _=>rfl) (fun _=>rfl) (Z1S.1 h1),by
  first
  | exact h2
  | (rcases o with o|o<;>exact h2)⟩
noncomputable def qg8 {R:Type}:Z27 S R:=LE.ls X qg1 qg3 qfV
theorem qg9 {R:Type}:Z3J X (qg8 (R:=R)):=Zhq xok qfH (e:=qg1) qfC qfW qg7 qfW
theorem qga (x:tG):PE.step X qfF qfG qfB qg8 12 x=XW x.1 x.2.1 x.2.2.1 x.2.2.2.1 x.2.2.2.2:=by kernel_rfl
theorem qgb:ZaX X qfF X18:=Zhr (ZgU xok qfH qfC qg9 12) fun x _ h=>((qga x).trans (X44 x).symm).trans h
noncomputable def qgc {R:Type}:Prs S R:=PE.ps X qfF (fun x q=>(X18 x).bind q) qfB
theorem qgd {R:Type}:Z7R X (qgc (R:=R)):=Zhi (e:=qfF) qgb qfC
def qge:StT S:=⟨(N (N (N L (some (.ptr 4 0)) L) vK (N L (some (.ptr 0 0)) L)) vK (N (N L (some (.ptr 1 0)) L) vK L)),o1i,5⟩
def qgf:Way S:=⟨.ret,⟨(N L (some (.tup [(.int .i64 0),(.bool false)])) L),o1i,5⟩,[.int,.bool,(.st 20),(.lst (.st 21)),.en,.int,(.mp (.st 23) (.int .i64))]⟩
def qgg:PE S:=⟨47,6,qge,[.int,.int,.int,(.st 20),(.lst (.st 21)),.en,.int,(.mp (.st 23) (.int .i64))],[qgf]⟩
noncomputable def qgh:List (Nat×F7 S):=[(38,qbh),(41,q8v)]
theorem qgi:Z9n X qgh:=⟨qbi,q8w,trivial⟩
abbrev qgj (ih:tw→Option tC) {R:Type}:Z27 S R:=Zgi
theorem qgk (ih:tw→Option tC) (hih:ZaX X qgg ih) {R:Type}:Z3J X (qgj ih (R:=R)):=ZgQ X
def qgl:Key:=⟨[47],47,none,[0,0,1,0,1,1],0,11⟩
def qgm:StT S:=⟨(N (N (N L none (N L vK L)) none (N L (some (.ptr 0 0)) L)) vK (N (N L (some (.ptr 1 0)) L) vK L)),o1i,11⟩
def qgn:Way S:=⟨.ret,⟨(N v1m none (N L none (N (N L vL L) none L))),o1i,39⟩,[.int,.bool,(.st 20),(.lst (.st 21)),.en,.int,(.mp (.st 23) (.int .i64))]⟩
def qgo:Way S:=⟨(.exit 0),⟨L,o1i,15⟩,[(.st 20),(.lst (.st 21)),.en,.int,(.mp (.st 23) (.int .i64))]⟩
def qgp:LE S:=⟨qgl,qgm,[.int,.int,.int,(.st 20),(.lst (.st 21)),.en,.int,(.mp (.st 23) (.int .i64))],[qgn,qgo]⟩
def qgq (x:ty):tc→tc:=Sum.elim (fun y0=>(.inl (y0.1,y0.2.1,y0.2.2.1,y0.2.2.2.1,y0.2.2.2.2.1,y0.2.2.2.2.2.1,y0.2.2.2.2.2.2))) (fun y1=>(.inr (y1.1,y1.2.1,y1.2.2.1,y1.2.2.2.1,y1.2.2.2.2)))
noncomputable def qgr (ih:tw→Option tC) {R:Type} (x:ty) (k:tc→Option R):Option R:=(X2Q ih x.2.1 x.2.2.1 (x.1,x.2.2.2.1,x.2.2.2.2.1,x.2.2.2.2.2.1,x.2.2.2.2.2.2.1,x.2.2.2.2.2.2.2)).bind (Sum.elim (fun y0=>k (.inl (y0.1,y0.2.1,y0.2.2.1,y0.2.2.2.1,y0.2.2.2.2.1,y0.2.2.2.2.2.1,y0.2.2.2.2.2.2))) (fun y1=>k (.inr (y1.1,y1.2.1,y1.2.2.1,y1.2.2.2.1,y1.2.2.2.2))))
def qgs (x:ty) (v:(Int×ZJ×(List Zm)×(Nat→Nat)×Int×t1c)):ty:=(v.1,x.2.1,x.2.2.1,v.2.1,v.2.2.1,v.2.2.2.1,v.2.2.2.2.1,v.2.2.2.2.2)
theorem qgt (ih:tw→Option tC) (x:ty):LE.step X qgp qgh (PE.ps X qgg (fun x q=>(ih x).bind q) qgc) (qgj ih) 12 x=X1x ih x.2.1 x.2.2.1 x.1 x.2.2.2.1 x.2.2.2.2.1 x.2.2.2.2.2.1 x.2.2.2.2.2.2.1 x.2.2.2.2.2.2.2 (fun w0 w1 w2 w3 w4 w5=>(Sum.inl (w0,x.2.1,x.2.2.1,w1,w2,w3,w4,w5))) (fun p0 p1 p2 p3 p4 p5 p6=>(Sum.inr (.inl (p0,p1,p2,p3,p4,p5,p6)))) (fun p0 p1 p2 p3 p4=>(Sum.inr (.inr (p0,p1,p2,p3,p4)))):=by kernel_rfl
theorem qgv (ih:tw→Option tC) {R:Type} (x:ty) (k:tc→Option R) (r:R) (h:qgr ih x k=some r):∃ o,Z5s (LE.step X qgp qgh (PE.ps X qgg (fun x q=>(ih x).bind q) qgc) (qgj ih) 12) x o∧k o=some r:=by
 obtain ⟨o,h1,h2⟩:=Z0 h
 exact ⟨qgq x o,Zhl (st:=fun (x:ty)=>X1T ih x.2.1 x.2.2.1) (prj:=fun x=>(x.1,x.2.2.2.1,x.2.2.2.2.1,x.2.2.2.2.2.1,x.2.2.2.2.2.2.1,x.2.2.2.2.2.2.2)) (emb:=qgs) (embO:=qgq) (fun x=>(qgt ih x).trans (by unfold X1T X1x;simp only [Zhd,Zh8,Zhe,Option.map_some,Option.map_none];rfl)) (fun _ _=>rfl) (fun _ _=>rfl) (fun _ _ _=>rfl) (fun _ _ _=>rfl) (fun _=>rfl) (Z1S.1 h1),by
  first
  | exact h2
  | (rcases o with o|o<;>exact h2)⟩
noncomputable def qgw (ih:tw→Option tC) {R:Type}:Z27 S R:=LE.ls X qgp (qgr ih) (qgj ih)
theorem qgx (ih:tw→Option tC) (hih:ZaX X qgg ih) {R:Type}:Z3J X (qgw ih (R:=R)):=Zhq xok qgi (e:=qgp) (Zhi (e:=qgg) hih qgd) (qgk ih hih) (qgv ih) (qgk ih hih)
theorem qgy (ih:tw→Option tC) (x:ty):PE.step X qgg qgh (PE.ps X qgg (fun x q=>(ih x).bind q) qgc) (qgw ih) 12 x=X3q ih x.1 x.2.1 x.2.2.1 x.2.2.2.1 x.2.2.2.2.1 x.2.2.2.2.2.1 x.2.2.2.2.2.2.1 x.2.2.2.2.2.2.2:=by kernel_rfl
theorem qgz:ZaX X qgg X4F:=Zhj (X:=X) (e:=qgg) (t:=X3r) fun ih hih=>Zhr (ZgU xok qgi (Zhi (e:=qgg) hih qgd) (qgx ih hih) 12) fun x _ h=>(qgy ih x).trans h
noncomputable def qgA {R:Type}:Prs S R:=PE.ps X qgg (fun x q=>(X4F x).bind q) qgc
theorem qgB {R:Type}:Z7R X (qgA (R:=R)):=Zhi (e:=qgg) qgz qgd
noncomputable def qgC:List (Nat×F7 S):=[]
theorem qgD:Z9n X (qgC):=trivial
abbrev qgE {R:Type}:Z27 S R:=Zgi
theorem qgF {R:Type}:Z3J X (qgE (R:=R)):=ZgQ X
def qgG:Key:=⟨[63],63,none,[0,0,1,0,1,1,1],0,9⟩
def qgH:StT S:=⟨(N (N (N L vK L) none L) (some (.sl (.int .i64) [])) (N (N L vK L) none L)),L,9⟩
def qgI:Way S:=⟨(.exit 0),⟨v1n,L,13⟩,[.int]⟩
def qgJ:LE S:=⟨qgG,qgH,[.int,(.lst (.int .i64)),.int],[qgI]⟩
def qgK (x:t1b):Int→Int:=fun y0=>y0
noncomputable def qgL {R:Type} (x:t1b) (k:Int→Option R):Option R:=(X25 x.2.1 (x.1,x.2.2)).bind (fun y0=>k y0)
def qgM (x:t1b) (v:(Int×Int)):t1b:=(v.1,x.2.1,v.2)
theorem qgN (x:t1b):LE.step X qgJ qgC qgA qgE 12 x=WO x.2.1 x.1 x.2.2 (fun w0 w1=>(Sum.inl (w0,x.2.1,w1))) (fun p0=>(Sum.inr p0)):=by kernel_rfl
theorem qgP {R:Type} (x:t1b) (k:Int→Option R) (r:R) (h:qgL x k=some r):∃ o,Z5s (LE.step X qgJ qgC qgA qgE 12) x o∧k o=some r:=by
 obtain ⟨o,h1,h2⟩:=Z0 h
 exact ⟨qgK x o,Zhl (st:=fun (x:t1b)=>X1e x.2.1) (prj:=fun x=>(x.1,x.2.2)) (emb:=qgM) (embO:=qgK) (fun x=>(qgN x).trans (by unfold X1e WO;simp only [Zhd,Zh8,Zhe,Option.map_some,Option.map_none];rfl)) (fun _ _=>rfl) (fun _ _=>rfl) (fun _ _ _=>rfl) (fun _ _ _=>rfl) (fun _=>rfl) (Z1S.1 h1),by
  first
  | exact h2
  | (rcases o with o<;>exact h2)⟩
noncomputable def qgQ {R:Type}:Z27 S R:=LE.ls X qgJ qgL qgE
theorem qgR {R:Type}:Z3J X (qgQ (R:=R)):=Zhq xok qgD (e:=qgJ) qgB qgF qgP qgF
theorem qgS (x0:List Int):Zhs X qgC [(.sl (.int .i64))] [(.int .i64)] qgA qgQ 12 63 (x0,())=WC x0:=by kernel_rfl
noncomputable def qgT:F7 S:=⟨[(.sl (.int .i64))],[(.int .i64)],fun xs=>X2o xs.1⟩
theorem qgU:Z7Q X 63 qgT:=Zho (Zhn xok qgD qgB qgR 12 63) fun xs _ h=>((qgS xs.1).trans (X4A xs.1).symm).trans h
def qgV:StT S:=⟨(N (N (N L vK L) vJ L) (some (.ptr 1 0)) (N L vK L)),(N (N L o3 L) oo L),2⟩
def qgW:Way S:=⟨.ret,⟨(N L vK L),(N (N L o3 L) oo L),2⟩,[.int,(.st 20),(.lst (.st 21)),.en,(.mp (.st 23) (.int .i64))]⟩
def qgX:PE S:=⟨50,4,qgV,[.int,(.lst (.st 2)),.int,(.st 20),(.lst (.st 21)),.en,(.mp (.st 23) (.int .i64))],[qgW]⟩
noncomputable def qgY:List (Nat×F7 S):=[(38,qbh),(41,q8v),(63,qgT)]
theorem qgZ:Z9n X qgY:=⟨qbi,q8w,qgU,trivial⟩
abbrev qh0 {R:Type}:Z27 S R:=Zgi
theorem qh1 {R:Type}:Z3J X (qh0 (R:=R)):=ZgQ X
def qh2:Key:=⟨[50],50,none,[0,0,1,1,1,1,1,0,0,1,1,0,0,1,0,1,1],2,39⟩
def qh3:StT S:=⟨(N (N (N L vK v1m) none (N (N (N L vK L) (some (.ptr 3 0)) L) none L)) (some (.ptr 1 0)) (N (N (N (N L vJ L) none L) none (N L (some (.ptr 18 0)) (N (N L vK L) none L))) vK (N (N (N L vK L) none L) none (N L vK L)))),o18,39⟩
def qh4:Way S:=⟨(.exit 2),⟨vR,o18,40⟩,[.int,.int,(.lst (.st 2)),.int,.int,(.arr (.int .i64)),(.st 20),(.lst (.st 21)),.en,(.mp (.st 23) (.int .i64)),(.arr (.st 5)),(.st 2)]⟩
def qh5:LE S:=⟨qh2,qh3,[.int,.int,.int,(.lst (.st 2)),.int,.int,.int,.int,(.arr (.int .i64)),(.st 20),(.lst (.st 21)),.en,(.mp (.st 23) (.int .i64)),(.arr (.st 5)),(.st 2)],[qh4]⟩
def qh6 (x:td):(Nat→Int)→te:=fun y0=>(x.1,x.2.2.1,x.2.2.2.1,x.2.2.2.2.2.1,x.2.2.2.2.2.2.1,y0,x.2.2.2.2.2.2.2.2.2.1,x.2.2.2.2.2.2.2.2.2.2.1,x.2.2.2.2.2.2.2.2.2.2.2.1,x.2.2.2.2.2.2.2.2.2.2.2.2.1,x.2.2.2.2.2.2.2.2.2.2.2.2.2.1,x.2.2.2.2.2.2.2.2.2.2.2.2.2.2)
noncomputable def qh7 {R:Type} (x:td) (k:te→Option R):Option R:=(X2c x.1 x.2.1 x.2.2.1 x.2.2.2.1 x.2.2.2.2.2.1 x.2.2.2.2.2.2.1 x.2.2.2.2.2.2.2.1 x.2.2.2.2.2.2.2.2.2.1 x.2.2.2.2.2.2.2.2.2.2.1 x.2.2.2.2.2.2.2.2.2.2.2.1 x.2.2.2.2.2.2.2.2.2.2.2.2.1 x.2.2.2.2.2.2.2.2.2.2.2.2.2.1 x.2.2.2.2.2.2.2.2.2.2.2.2.2.2 (x.2.2.2.2.1,x.2.2.2.2.2.2.2.2.1)).bind (fun y0=>k (x.1,x.2.2.1,x.2.2.2.1,x.2.2.2.2.2.1,x.2.2.2.2.2.2.1,y0,x.2.2.2.2.2.2.2.2.2.1,x.2.2.2.2.2.2.2.2.2.2.1,x.2.2.2.2.2.2.2.2.2.2.2.1,x.2.2.2.2.2.2.2.2.2.2.2.2.1,x.2.2.2.2.2.2.2.2.2.2.2.2.2.1,x.2.2.2.2.2.2.2.2.2.2.2.2.2.2))
def qh8 (x:td) (v:(Int×(Nat→Int))):td:=(x.1,x.2.1,x.2.2.1,x.2.2.2.1,v.1,x.2.2.2.2.2.1,x.2.2.2.2.2.2.1,x.2.2.2.2.2.2.2.1,v.2,x.2.2.2.2.2.2.2.2.2.1,x.2.2.2.2.2.2.2.2.2.2.1,x.2.2.2.2.2.2.2.2.2.2.2.1,x.2.2.2.2.2.2.2.2.2.2.2.2.1,x.2.2.2.2.2.2.2.2.2.2.2.2.2.1,x.2.2.2.2.2.2.2.2.2.2.2.2.2.2)
theorem qh9 (x:td):LE.step X qh5 qgY qgA qh0 12 x=WU x.1 x.2.1 x.2.2.1 x.2.2.2.1 x.2.2.2.2.2.1 x.2.2.2.2.2.2.1 x.2.2.2.2.2.2.2.1 x.2.2.2.2.2.2.2.2.2.1 x.2.2.2.2.2.2.2.2.2.2.1 x.2.2.2.2.2.2.2.2.2.2.2.1 x.2.2.2.2.2.2.2.2.2.2.2.2.1 x.2.2.2.2.2.2.2.2.2.2.2.2.2.1 x.2.2.2.2.2.2.2.2.2.2.2.2.2.2 x.2.2.2.2.1 x.2.2.2.2.2.2.2.2.1 (fun w0 w1=>(Sum.inl (x.1,x.2.1,x.2.2.1,x.2.2.2.1,w0,x.2.2.2.2.2.1,x.2.2.2.2.2.2.1,x.2.2.2.2.2.2.2.1,w1,x.2.2.2.2.2.2.2.2.2.1,x.2.2.2.2.2.2.2.2.2.2.1,x.2.2.2.2.2.2.2.2.2.2.2.1,x.2.2.2.2.2.2.2.2.2.2.2.2.1,x.2.2.2.2.2.2.2.2.2.2.2.2.2.1,x.2.2.2.2.2.2.2.2.2.2.2.2.2.2))) (fun p0=>(Sum.inr (x.1,x.2.2.1,x.2.2.2.1,x.2.2.2.2.2.1,x.2.2.2.2.2.2.1,p0,x.2.2.2.2.2.2.2.2.2.1,x.2.2.2.2.2.2.2.2.2.2.1,x.2.2.2.2.2.2.2.2.2.2.2.1,x.2.2.2.2.2.2.2.2.2.2.2.2.1,x.2.2.2.2.2.2.2.2.2.2.2.2.2.1,x.2.2.2.2.2.2.2.2.2.2.2.2.2.2))):=by kernel_rfl
theorem qhb {R:Type} (x:td) (k:te→Option R) (r:R) (h:qh7 x k=some r):∃ o,Z5s (LE.step X qh5 qgY qgA qh0 12) x o∧k o=some r:=by
 obtain ⟨o,h1,h2⟩:=Z0 h
 exact ⟨qh6 x o,Zhl (st:=fun (x:td)=>X1n x.1 x.2.1 x.2.2.1 x.2.2.2.1 x.2.2.2.2.2.1 x.2.2.2.2.2.2.1 x.2.2.2.2.2.2.2.1 x.2.2.2.2.2.2.2.2.2.1 x.2.2.2.2.2.2.2.2.2.2.1 x.2.2.2.2.2.2.2.2.2.2.2.1 x.2.2.2.2.2.2.2.2.2.2.2.2.1 x.2.2.2.2.2.2.2.2.2.2.2.2.2.1 x.2.2.2.2.2.2.2.2.2.2.2.2.2.2) (prj:=fun x=>(x.2.2.2.2.1,x.2.2.2.2.2.2.2.2.1)) (emb:=qh8) (embO:=qh6) (fun x=>(qh9 x).trans (by unfold X1n WU;simp only [Zhd,Zh8,Zhe,Option.map_some,Option.map_none];rfl)) (fun _ _=>rfl) (fun _ _=>rfl) (fun _ _ _=>rfl) (fun _ _ _=>rfl) (fun _=>rfl) (Z1S.1 h1),by
  first
  | exact h2
  | (rcases o with o<;>exact h2)⟩
noncomputable def qhc {R:Type}:Z27 S R:=LE.ls X qh5 qh7 qh0
theorem qhd {R:Type}:Z3J X (qhc (R:=R)):=Zhq xok qgZ (e:=qh5) qgB qh1 qhb qh1
def qhe:Key:=⟨[50],50,none,[0,0,1,0,1,1],0,7⟩
def qhf:StT S:=⟨vR,(N (N (N L o6 L) o3 L) oo L),7⟩
def qhg:Way S:=⟨(.exit 0),⟨(N (N L none v1l) none L),(N (N (N L o6 L) o3 L) oo L),8⟩,[(.arr (.int .i64)),(.st 20),(.lst (.st 21)),.en,(.mp (.st 23) (.int .i64))]⟩
def qhh:LE S:=⟨qhe,qhf,[.int,.int,(.lst (.st 2)),.int,.int,(.arr (.int .i64)),(.st 20),(.lst (.st 21)),.en,(.mp (.st 23) (.int .i64))],[qhg]⟩
def qhi (x:tl):tE→tE:=fun y0=>(y0.1,y0.2.1,y0.2.2.1,y0.2.2.2.1,y0.2.2.2.2)
noncomputable def qhj {R:Type} (x:tl) (k:tE→Option R):Option R:=(X2b x.1 x.2.1 x.2.2.1 x.2.2.2.1 (x.2.2.2.2.1,x.2.2.2.2.2.1,x.2.2.2.2.2.2.1,x.2.2.2.2.2.2.2.1,x.2.2.2.2.2.2.2.2.1,x.2.2.2.2.2.2.2.2.2)).bind (fun y0=>k (y0.1,y0.2.1,y0.2.2.1,y0.2.2.2.1,y0.2.2.2.2))
def qhk (x:tl) (v:(Int×(Nat→Int)×ZJ×(List Zm)×(Nat→Nat)×t1c)):tl:=(x.1,x.2.1,x.2.2.1,x.2.2.2.1,v.1,v.2.1,v.2.2.1,v.2.2.2.1,v.2.2.2.2.1,v.2.2.2.2.2)
theorem qhl (x:tl):LE.step X qhh qgY qgA qhc 12 x=WT x.1 x.2.1 x.2.2.1 x.2.2.2.1 x.2.2.2.2.1 x.2.2.2.2.2.1 x.2.2.2.2.2.2.1 x.2.2.2.2.2.2.2.1 x.2.2.2.2.2.2.2.2.1 x.2.2.2.2.2.2.2.2.2 (fun w0 w1 w2 w3 w4 w5=>(Sum.inl (x.1,x.2.1,x.2.2.1,x.2.2.2.1,w0,w1,w2,w3,w4,w5))) (fun p0 p1 p2 p3 p4=>(Sum.inr (p0,p1,p2,p3,p4))):=by kernel_rfl
theorem qhn {R:Type} (x:tl) (k:tE→Option R) (r:R) (h:qhj x k=some r):∃ o,Z5s (LE.step X qhh qgY qgA qhc 12) x o∧k o=some r:=by
 obtain ⟨o,h1,h2⟩:=Z0 h
 exact ⟨qhi x o,Zhl (st:=fun (x:tl)=>X1m x.1 x.2.1 x.2.2.1 x.2.2.2.1) (prj:=fun x=>(x.2.2.2.2.1,x.2.2.2.2.2.1,x.2.2.2.2.2.2.1,x.2.2.2.2.2.2.2.1,x.2.2.2.2.2.2.2.2.1,x.2.2.2.2.2.2.2.2.2)) (emb:=qhk) (embO:=qhi) (fun x=>(qhl x).trans (by unfold X1m WT;simp only [Zhd,Zh8,Zhe,Option.map_some,Option.map_none];rfl)) (fun _ _=>rfl) (fun _ _=>rfl) (fun _ _ _=>rfl) (fun _ _ _=>rfl) (fun _=>rfl) (Z1S.1 h1),by
  first
  | exact h2
  | (rcases o with o<;>exact h2)⟩
noncomputable def qho {R:Type}:Z27 S R:=LE.ls X qhh qhj qhc
theorem qhp {R:Type}:Z3J X (qho (R:=R)):=Zhq xok qgZ (e:=qhh) qgB qhd qhn qhd
theorem qhq (x:(Int×(List Zu)×Int×ZJ×(List Zm)×(Nat→Nat)×t1c)):PE.step X qgX qgY qgA qho 12 x=WP x.1 x.2.1 x.2.2.1 x.2.2.2.1 x.2.2.2.2.1 x.2.2.2.2.2.1 x.2.2.2.2.2.2:=by kernel_rfl
theorem qhr:ZaX X qgX X2A:=Zhr (ZgU xok qgZ qgB qhp 12) fun x _ h=>((qhq x).trans (X4G x).symm).trans h
noncomputable def qhs {R:Type}:Prs S R:=PE.ps X qgX (fun x q=>(X2A x).bind q) qgA
theorem qht {R:Type}:Z7R X (qhs (R:=R)):=Zhi (e:=qgX) qhr qgB
noncomputable def qhu:F7 S:=⟨[],[.bool],fun _=>X5D⟩
theorem qhv:Z7Q X 20 qhu:=ZeO (X:=X) (F:=X5D) rfl Zdy
noncomputable def qhw:List (Nat×F7 S):=[]
theorem qhx:Z9n X (qhw):=trivial
abbrev qhy {R:Type}:Z27 S R:=Zgi
theorem qhz {R:Type}:Z3J X (qhy (R:=R)):=ZgQ X
def qhA:Key:=⟨[23],23,none,[0,0,1,0,1],0,3⟩
def qhB:StT S:=⟨(N v1j vJ L),(N L oj L),3⟩
def qhC:Way S:=⟨.ret,⟨(N L none (N (N L vL L) none L)),(N L oj L),14⟩,[.bool,(.st 2)]⟩
def qhD:Way S:=⟨(.exit 0),⟨L,(N L oj L),7⟩,[(.st 2)]⟩
def qhE:LE S:=⟨qhA,qhB,[.int,(.lst (.st 2)),(.st 2)],[qhC,qhD]⟩
def qhF (x:t17):(Bool⊕Unit)→((Bool×Zu)⊕Zu):=Sum.elim (fun y0=>(.inl (y0,x.2.2))) (fun y1=>(.inr x.2.2))
noncomputable def qhG {R:Type} (x:t17) (k:((Bool×Zu)⊕Zu)→Option R):Option R:=(X47 x.2.1 x.2.2 x.1).bind (Sum.elim (fun y0=>k (.inl (y0,x.2.2))) (fun y1=>k (.inr x.2.2)))
def qhH (x:t17) (v:Int):t17:=(v,x.2.1,x.2.2)
theorem qhI (x:t17):LE.step X qhE qhw qhs qhy 12 x=X1a x.2.1 x.2.2 x.1 (fun w0=>(Sum.inl (w0,x.2.1,x.2.2))) (fun p0=>(Sum.inr (.inl (p0,x.2.2)))) (Sum.inr (.inr x.2.2)):=by kernel_rfl
theorem qhK {R:Type} (x:t17) (k:((Bool×Zu)⊕Zu)→Option R) (r:R) (h:qhG x k=some r):∃ o,Z5s (LE.step X qhE qhw qhs qhy 12) x o∧k o=some r:=by
 obtain ⟨o,h1,h2⟩:=Z0 h
 exact ⟨qhF x o,Zhl (st:=fun (x:t17)=>X12 x.2.1 x.2.2) (prj:=fun x=>x.1) (emb:=qhH) (embO:=qhF) (fun x=>(qhI x).trans (by unfold X12 X1a;simp only [Zhd,Zh8,Zhe,Option.map_some,Option.map_none];rfl)) (fun _ _=>rfl) (fun _ _=>rfl) (fun _ _ _=>rfl) (fun _ _ _=>rfl) (fun _=>rfl) (Z1S.1 h1),by
  first
  | exact h2
  | (rcases o with o|o<;>exact h2)⟩
noncomputable def qhL {R:Type}:Z27 S R:=LE.ls X qhE qhG qhy
theorem qhM {R:Type}:Z3J X (qhL (R:=R)):=Zhq xok qhx (e:=qhE) qht qhz qhK qhz
theorem qhN (x0:List Zu) (x1:Zu):Zhs X qhw [(.sl (.st 2)),(.st 2)] [.bool] qhs qhL 12 23 (x0,x1,())=X2d x0 x1:=by kernel_rfl
noncomputable def qhO:F7 S:=⟨[(.sl (.st 2)),(.st 2)],[.bool],fun xs=>X4U xs.1 xs.2.1⟩
theorem qhP:Z7Q X 23 qhO:=Zho (Zhn xok qhx qht qhM 12 23) fun xs _ h=>((qhN xs.1 xs.2.1).trans (X5n xs.1 xs.2.1).symm).trans h
noncomputable def qhQ:List (Nat×F7 S):=[(21,q7),(22,q5o),(20,qhu),(11,qeB),(23,qhO),(24,qf4)]
theorem qhR:Z9n X (qhQ):=⟨q8,q5p,qhv,qeC,qhP,qf5,trivial⟩
abbrev qhS {R:Type}:Z27 S R:=Zgi
theorem qhT {R:Type}:Z3J X (qhS (R:=R)):=ZgQ X
def qhU:Key:=⟨[4],4,none,[0,0,1,0,1,1,1,1,1,1],0,34⟩
def qhV:StT S:=⟨(N (N (N (N L vH L) (some (.ptr 0 0)) L) vH L) none (N (N (N L vJ L) none (N L vK L)) none (N (N L vJ L) none L))),(N (N L od L) oa L),34⟩
def qhW:Way S:=⟨.ret,⟨(N L none (N L none (N L vL L))),(N (N L od L) oa L),46⟩,[.bool,(.st 21),(.st 20)]⟩
def qhX:Way S:=⟨(.exit 0),⟨(N (N (N (N L vH L) (some (.ptr 0 0)) L) vH L) none (N L none (N (N L vJ L) none L))),(N (N L od L) oa L),38⟩,[(.lst (.st 21)),(.lst (.st 21)),(.lst (.st 2)),(.st 21),(.st 20)]⟩
def qhY:LE S:=⟨qhU,qhV,[(.lst (.st 21)),(.lst (.st 21)),(.lst (.st 2)),.int,(.lst (.st 2)),(.st 21),(.st 20)],[qhW,qhX]⟩
def qhZ (x:tz):(Bool⊕Unit)→ts:=Sum.elim (fun y0=>(.inl (y0,x.2.2.2.2.2.1,x.2.2.2.2.2.2))) (fun y1=>(.inr (x.1,x.2.1,x.2.2.2.2.1,x.2.2.2.2.2.1,x.2.2.2.2.2.2)))
noncomputable def qi0 {R:Type} (x:tz) (k:ts→Option R):Option R:=(X1V x.2.2.1 x.2.2.2.2.1 x.2.2.2.1).bind (Sum.elim (fun y0=>k (.inl (y0,x.2.2.2.2.2.1,x.2.2.2.2.2.2))) (fun y1=>k (.inr (x.1,x.2.1,x.2.2.2.2.1,x.2.2.2.2.2.1,x.2.2.2.2.2.2))))
def qi1 (x:tz) (v:Int):tz:=(x.1,x.2.1,x.2.2.1,v,x.2.2.2.2.1,x.2.2.2.2.2.1,x.2.2.2.2.2.2)
theorem qi2 (x:tz):LE.step X qhY qhQ qhs qhS 12 x=XM x.2.2.1 x.2.2.2.2.1 x.2.2.2.1 (fun w0=>(Sum.inl (x.1,x.2.1,x.2.2.1,w0,x.2.2.2.2.1,x.2.2.2.2.2.1,x.2.2.2.2.2.2))) (fun p0=>(Sum.inr (.inl (p0,x.2.2.2.2.2.1,x.2.2.2.2.2.2)))) (Sum.inr (.inr (x.1,x.2.1,x.2.2.2.2.1,x.2.2.2.2.2.1,x.2.2.2.2.2.2))):=by kernel_rfl
theorem qi4 {R:Type} (x:tz) (k:ts→Option R) (r:R) (h:qi0 x k=some r):∃ o,Z5s (LE.step X qhY qhQ qhs qhS 12) x o∧k o=some r:=by
 obtain ⟨o,h1,h2⟩:=Z0 h
 exact ⟨qhZ x o,Zhl (st:=fun (x:tz)=>XG x.2.2.1 x.2.2.2.2.1) (prj:=fun x=>x.2.2.2.1) (emb:=qi1) (embO:=qhZ) (fun x=>(qi2 x).trans (by unfold XG XM;simp only [Zhd,Zh8,Zhe,Option.map_some,Option.map_none];rfl)) (fun _ _=>rfl) (fun _ _=>rfl) (fun _ _ _=>rfl) (fun _ _ _=>rfl) (fun _=>rfl) (Z1S.1 h1),by
  first
  | exact h2
  | (rcases o with o|o<;>exact h2)⟩
noncomputable def qi5 {R:Type}:Z27 S R:=LE.ls X qhY qi0 qhS
theorem qi6 {R:Type}:Z3J X (qi5 (R:=R)):=Zhq xok qhR (e:=qhY) qht qhT qi4 qhT
theorem qi7 (x0:ZJ) (x1:List Zm) (x2:Zm):Zhs X qhQ [(.st 20),(.sl (.st 21)),(.st 21)] [.bool] qhs qi5 12 4 (x0,x1,x2,())=X19 x0 x1 x2:=by kernel_rfl
noncomputable def qi8:F7 S:=⟨[(.st 20),(.sl (.st 21)),(.st 21)],[.bool],fun xs=>X2Z xs.1 xs.2.1 xs.2.2.1⟩
theorem X5e:Z7Q X 4 qi8:=Zho (Zhn xok qhR qht qi6 12 4) fun xs _ h=>((qi7 xs.1 xs.2.1 xs.2.2.1).trans (X45 xs.1 xs.2.1 xs.2.2.1).symm).trans h
end Nore
