/- The code comes to the plain functions. -/
import Derived.Test.YtaaalkppbbpacaaGreatDoorY
import Derived.Test.YtaaalkppbbpacaaGreatDoorD
set_option linter.unusedSectionVars false
set_option linter.unusedVariables false
set_option linter.unusedSimpArgs false
set_option maxRecDepth 100000
open Go Go.Ab Go.Proofs Go.Proofs.YtaaalkppbbpacaaGreatDoor
open Go.Ab.Tr renaming node→N,leaf→L
namespace Nore
noncomputable section
abbrev X3q:Type:=List (ByteArray×Int)
abbrev X6z:Type:=Int×Int×(List Point)
abbrev X5S:Type:=Int×(List Point)×Int×Int
abbrev X5R:Type:=Int×Int×(List Point)×Int
abbrev X6c:Type:=(Int×Int×Int)⊕(Int×Int)
abbrev X5Q:Type:=Int×(List ByteArray)×Zp
abbrev X5P:Type:=Int×Zp×(List ByteArray)
abbrev X5x:Type:=Int×ByteArray×ByteArray×Nat
abbrev X4g:Type:=Int×(List Int)×Int×Int×Int
abbrev X5O:Type:=ByteArray×Int×(List ByteArray)
abbrev X5N:Type:=Int×Int×(List ZO)×Int×Int
abbrev X5M:Type:=(List ZD)×Int×Int×SgMooring
abbrev X5L:Type:=Int×Int×(List Int)×Point×Point
abbrev X5K:Type:=Int×(List ZD)×Int×(List ZD)
abbrev tqZ:Type:=(List Int)×Point×Zp×(List Int)
abbrev tqY:Type:=Int×Int×Int×(List Zs)×(List Int)
abbrev tqX:Type:=(List (Nat→Int))×Za×SgMooring
abbrev tqW:Type:=Int×Int×Int×X3q×CtSand
abbrev tqV:Type:=Int×Int×(List Point)×ZD×SgMooring×Point
abbrev tqU:Type:=Int×Int×Int×(List CtSand)×Point×Point×Zp
abbrev tqT:Type:=Int×(List (Nat→Int))×Int×(Nat→Int)×(Nat→Int)
abbrev tqS:Type:=(Nat→Int)×Int×(Nat→Int)×(Nat→Int)×(Nat→Int)
abbrev tqR:Type:=Int×(List CtSand)×Int×Zp×X3q
abbrev tqQ:Type:=Int×Int×(List ZC)×Zp×X3q
abbrev tqP:Type:=(Bool×ByteArray×Nat)⊕X5x
abbrev tqO:Type:=Int×Int×Int×(List ByteArray)×ZC×(List ByteArray)
abbrev tqN:Type:=Int×Int×ZD×ZD×(List Int)×(List Int)×(List Int)
abbrev tqM:Type:=ZF×ZD×Za×ZD×Za×(Nat→Int)
abbrev tqL:Type:=Int×(List CtSand)×Int×(List Int)×Point×Zp×(List Int)
abbrev tqK:Type:=(List Point)×(List ZD)×Int×ZD×(List ZD)×SgMooring
abbrev tqJ:Type:=Int×(List ZD)×Int×(List (Nat→Int))×Za×SgMooring
abbrev tqI:Type:=Int×Int×ZF×ZD×Za×ZD×Za×(Nat→Int)
abbrev tqH:Type:=Int×Int×Int×ZF×ZD×Za×ZD×Za×(Nat→Int)
abbrev tqG:Type:=(Bool×Int×CtSand×Point×Point×Zp×Zf)⊕(Point×Point×Zp)
abbrev tqF:Type:=Int×Zf×Bool×Int×Bool×Zf×Bool×Int×Zf×Ze
abbrev tqE:Type:=Int×Point×ZD×(List Int)×Za×Point×(List Int)×(List Int)×Point
abbrev tqD:Type:=Int×Int×Int×Int×Int×(List CtSand)×CtSand×Point×Point×Zp×Zf
abbrev tqC:Type:=Int×Int×Int×Int×Int×Int×(List CtSand)×CtSand×Point×Point×Zp×Zf
abbrev tqB:Type:=Int×Int×Int×Int×Int×Int×Int×(Nat→Int)×ZF×SgMooring×SgMooring×Za
abbrev tqA:Type:=(Bool×ZD×(List ZD)×SgMooring×Point)⊕((List ZD)×ZD×(List ZD)×SgMooring)
abbrev tqz:Type:=Z8×Int×Zf×Point×Z8×Zf×Int×Zf×Point×Point
abbrev tqy:Type:=Int×Int×Bool×(List CtSand)×Bool×Int×(List Int)×Point×CtSand×Zp×(List Int)×Zf
abbrev tqx:Type:=Int×Int×Int×Int×Int×Int×Int×Int×Int×(Nat→Int)×ZF×SgMooring×SgMooring×Za
abbrev tqw:Type:=Int×Int×(List Point)×Point×Bool×Point×Zf×Zf×Bool×Point×Zf×Int×Int
abbrev tqv:Type:=Int×Int×(List Point)×Int×Zf×Bool×Int×Bool×Zf×Bool×Int×Zf×Ze
abbrev tqu:Type:=Int×Int×(List Point)×Zf×Bool×Int×Bool×Zf×Bool×Int×Zf×(List Int)×Point
abbrev tqt:Type:=Int×Int×Int×Int×Int×Int×Int×Int×Int×Int×(Nat→Int)×ZF×SgMooring×SgMooring×Za
abbrev tqs:Type:=Int×Int×Bool×Int×(List CtSand)×Bool×Int×Int×(List Int)×Point×CtSand×Zp×(List Int)×Zf
abbrev tqr:Type:=ZF×SgMooring×(List Point)×(Nat→Int)×Za×(List (Nat→Int))×Bool×(List ZD)×Int×SgMooring
abbrev tqq:Type:=(Int×Int×ZD×SgMooring×Point×Point)⊕(Int×Int×ZD×SgMooring×Point×Point)⊕(ZD×SgMooring×Point)
abbrev tqp:Type:=Int×Int×(List Point)×Z8×Int×Zf×Point×Z8×Zf×Int×Zf×Point×Point
abbrev tqo:Type:=Int×Int×ZF×SgMooring×(List Point)×(Nat→Int)×Za×(List (Nat→Int))×Bool×(List ZD)×Int×SgMooring
abbrev tqn:Type:=Int×Int×ZF×SgMooring×(Nat→Int)×Za×(List Point)×(List (Nat→Int))×Bool×(List ZD)×Int×SgMooring
abbrev tqm:Type:=Int×Int×Int×ZF×SgMooring×(Nat→Int)×Za×(List Point)×(List (Nat→Int))×Bool×(List ZD)×Int×SgMooring
abbrev tql:Type:=(Bool×Int×CtSand×Point×Point×Zp×Zf)⊕(Int×Int×Int×(List CtSand)×CtSand×Point×Point×Zp×Zf)
abbrev tqk:Type:=Int×Int×ZF×ZD×Za×ZD×ZD×Int×Za×Int×Int×ZF×Za×Point×(Nat→Int)×Int
abbrev tqj:Type:=Int×Int×Int×ZF×ZD×Za×ZD×ZD×Int×Za×Int×Int×ZF×Za×Point×(Nat→Int)×Int
abbrev tqi:Type:=(Bool×Int×CtSand×Point×Point×Zp×Zf)⊕tqD
abbrev tqh:Type:=(Int×Int×Int×(List ByteArray)×(List ByteArray)×Zp)⊕(Int×Int×Int×(List ByteArray)×(List ByteArray)×Zp)⊕((List ByteArray)×Zp)
abbrev tqg:Type:=(Int×(List Int)×(List Int)×Zs)⊕(Int×(List Int)×(List Int)×(List Int)×Zs)⊕(Int×(List Int)×(List Int)×(List Int)×Zs)⊕(List Int)
abbrev tqf:Type:=(Nat→Int)×ZF×(List ZD)×Za×ZD×SgMooring×Int×Bool×(List ZD)×Bool×(List (Nat→Int))×Bool×SgMooring×ZD×(List Point)
abbrev tqe:Type:=Int×Int×(Nat→Int)×ZF×(List ZD)×Za×ZD×SgMooring×Int×Bool×(List ZD)×Bool×(List (Nat→Int))×Bool×SgMooring×ZD×(List Point)
abbrev tqd:Type:=Int×Int×Int×(Nat→Int)×ZF×(List ZD)×Za×ZD×SgMooring×Int×Bool×(List ZD)×Bool×(List (Nat→Int))×Bool×SgMooring×ZD×(List Point)
abbrev tqc:Type:=(Bool×Point×Point×ZD×(List Int)×Za×Point×(List Int)×(List Int)×Point×Point)⊕(Point×ZD×(List Int)×Za×Point×(List Int)×(List Int)×Point)
abbrev tqb:Type:=(Zf×Bool×Int×Bool×Zf×Bool×Int×Zf×Point×Ze×(List Int)×Point)⊕(Zf×Bool×Int×Bool×Zf×Bool×Int×Zf×(List Int)×Point)
abbrev tqa:Type:=(Int×Int×Int×Zp×X3q×CtSand)⊕(Int×Int×Int×Zp×X3q×CtSand)⊕(Int×Int×Int×Zp×X3q×CtSand)⊕(Zp×X3q)
abbrev tq9:Type:=(Int×Int×Int×(List ByteArray)×ZC×Zp×(List ByteArray))⊕(Int×Int×Int×(List ByteArray)×ZC×Zp×(List ByteArray))⊕(Int×Int×Int×(List ByteArray)×ZC×Zp×(List ByteArray))⊕(Zp×(List ByteArray))
abbrev tq8:Type:=(ZF×ZD×Za×ZD×ZD×Int×Za×Int×Int×ZF×Za×Point×Point×(Nat→Int)×Int)⊕(ZF×ZD×Za×ZD×ZD×Int×Za×Int×Int×ZF×Za×Point×(Nat→Int)×Int)
abbrev tq7:Type:=Int×Int×(Nat→Int)×ZF×Int×Bool×(List ZD)×Bool×(List (Nat→Int))×Bool×Int×SgMooring×ZD×Int×Int×Za×ZD×Point×(List Point)×SgMooring×Int×Bool×(List ZD)×Bool×(List (Nat→Int))×Bool×SgMooring×ZD×ZF
abbrev tq6:Type:=Int×Int×Int×(Nat→Int)×ZF×(List Point)×Int×Bool×(List ZD)×Bool×(List (Nat→Int))×Bool×Int×SgMooring×ZD×Int×Int×Za×ZD×Point×SgMooring×Int×Bool×(List ZD)×Bool×(List (Nat→Int))×Bool×SgMooring×ZD×ZF
abbrev tq5:Type:=(ZF×ZD×Za×ZD×ZD×Int×Za×Int×Int×ZF×Za×Point×Point×(Nat→Int)×Int)⊕tqk
abbrev tq4:Type:=(Int×Int×Int×ZC×Zp×X3q)⊕(Int×Int×Int×ZC×Zp×X3q)⊕(Int×Int×Int×ZC×Zp×X3q×(List Point))⊕(Int×Int×Int×ZC×Zp×X3q×(List Point))⊕(Zp×X3q)
abbrev tq3:Type:=(Point×Bool×Ze×Point×Point×Point×Zf×Zf×Bool×Point×Zf×Int×Int)⊕(Point×Bool×Ze×Point×Point×Point×Point×Zf×Zf×Bool×Point×Zf×Int×Int)⊕(Point×Bool×Ze×Point×Point×Point×Zf×Zf×Bool×Point×Zf×Int×Int)⊕(Point×Bool×Point×Zf×Zf×Bool×Point×Zf×Int×Int)
abbrev tq2:Type:=(Int×Int×ZD×ZD×(List ZD))⊕(Int×Int×ZD×ZD×(List ZD)×(List Int))⊕(Int×Int×ZD×ZD×(List ZD)×(List Int)×(List Int))⊕(Int×Int×ZD×ZD×(List ZD)×(List Int)×(List Int)×(List Int))⊕(Int×Int×ZD×ZD×(List ZD)×(List Int)×(List Int)×(List Int))⊕(Int×Int×ZD×ZD×(List ZD)×(List Int)×(List Int)×(List Int))⊕(List ZD)
abbrev tq1:Type:=((List Point)×(Nat→Int)×ZF×(List Point)×Int×Bool×(List ZD)×Bool×(List (Nat→Int))×Bool×Int×SgMooring×ZD×Int×Int×Za×ZD×Point×Point×SgMooring×Int×Bool×(List ZD)×Bool×(List (Nat→Int))×Bool×SgMooring×ZD×ZF)⊕((Nat→Int)×ZF×Int×Bool×(List ZD)×Bool×(List (Nat→Int))×Bool×Int×SgMooring×ZD×Int×Int×Za×ZD×Point×(List Point)×SgMooring×Int×Bool×(List ZD)×Bool×(List (Nat→Int))×Bool×SgMooring×ZD×ZF)
abbrev tq0:Type:=((List Point)×(Nat→Int)×ZF×(List Point)×Int×Bool×(List ZD)×Bool×(List (Nat→Int))×Bool×Int×SgMooring×ZD×Int×Int×Za×ZD×Point×Point×SgMooring×Int×Bool×(List ZD)×Bool×(List (Nat→Int))×Bool×SgMooring×ZD×ZF)⊕(Int×Int×(Nat→Int)×ZF×(List Point)×Int×Bool×(List ZD)×Bool×(List (Nat→Int))×Bool×Int×SgMooring×ZD×Int×Int×Za×ZD×Point×SgMooring×Int×Bool×(List ZD)×Bool×(List (Nat→Int))×Bool×SgMooring×ZD×ZF)
abbrev vM:Option (TV S):=some (.bool false)
abbrev vL:Option (TV S):=some (.int .i64 0)
abbrev vK:Option (TV S):=some (.sl (.st 7) [])
abbrev vJ:Option (TV S):=some (.sl (.st 2) [])
abbrev vI:Option (TV S):=some (.sl (.st 10) [])
abbrev oH:Option (Zq S):=some (.row 9 .str [] 1 1)
abbrev oG:Option (Zq S):=some (.row 9 .str [] 0 0)
abbrev oF:Option (Zq S):=some (.row 9 .str [] 1 0)
abbrev vE:Option (TV S):=some (.str ByteArray.empty)
abbrev oD:Option (Zq S):=some (.cells 232 [(.map 4)])
abbrev oC:Option (Zq S):=some (.row 43 (.st 2) [] 1 0)
abbrev oB:Option (Zq S):=some (.row 34 (.st 10) [] 1 0)
abbrev oA:Option (Zq S):=some (.cells 4 [(.bool false)])
abbrev oz:Option (Zq S):=some (.map .str (.int .i64) [])
abbrev oy:Option (Zq S):=some (.siter ByteArray.empty 0)
abbrev ox:Option (Zq S):=some (.cells 3 [(.int .i64 0)])
abbrev ow:Option (Zq S):=some (.cells 35 [(.int .i64 0)])
abbrev ov:Option (Zq S):=some (.row 3 (.int .i64) [] 1 0)
abbrev vu:Option (TV S):=some (.agg [(.stc 2 (T.dflt 2))])
abbrev vt:Option (TV S):=some (.sl (.arr 5 (.int .u64)) [])
abbrev vs:Option (TV S):=some (.agg [(.stc 10 (T.dflt 10))])
abbrev vr:Option (TV S):=some (.agg [(.stc 15 (T.dflt 15))])
abbrev oq:Option (Zq S):=some (.cells 32 [(.sl (.st 10) [])])
abbrev op:Option (Zq S):=some (.cells 29 [(.stc 6 (T.dflt 6))])
abbrev vo:Option (TV S):=some (.fn (.func 137) [] [(.ptr 5 0)])
abbrev on:Option (Zq S):=some (.cells 43 [(.stc 2 (T.dflt 2))])
abbrev om:Option (Zq S):=some (.cells 31 [(.stc 9 (T.dflt 9))])
abbrev ol:Option (Zq S):=some (.cells 25 [(.stc 8 (T.dflt 8))])
abbrev ok:Option (Zq S):=some (.cells 71 [(.stc 7 (T.dflt 7))])
abbrev vj:Option (TV S):=some (.fn (.func 173) [] [(.ptr 23 0)])
abbrev oi:Option (Zq S):=some (.cells 173 [(.stc 3 (T.dflt 3))])
abbrev oh:Option (Zq S):=some (.cells 161 [(.stc 4 (T.dflt 4))])
abbrev og:Option (Zq S):=some (.cells 34 [(.stc 10 (T.dflt 10))])
abbrev of:Option (Zq S):=some (.cells 108 [(.stc 14 (T.dflt 14))])
abbrev oe:Option (Zq S):=some (.cells 155 [(.stc 16 (T.dflt 16))])
abbrev od:Option (Zq S):=some (.cells 225 [(.stc 17 (T.dflt 17))])
abbrev oc:Option (Zq S):=some (.cells 153 [(.stc 15 (T.dflt 15))])
abbrev vb:Option (TV S):=some (.agg [(.int .i64 0),(.int .i64 0)])
abbrev oa:Option (Zq S):=some (.cells 106 [(.arr (.int .u64) 5 (fun _=>tdf T (.int .u64)))])
abbrev o9:Option (Zq S):=some (.cells 108 [.nils,.nils,(.int .i64 0),(.int .i64 0),(.int .i64 0),(.int .i64 0),(.int .i64 0),(.int .i64 0),(.int .i64 0),(.arr (.int .u64) 5 (fun _=>tdf T (.int .u64)))])
abbrev o8:Option (Zq S):=some (.loop 101 (N (N (N L (some (.ptr 4 0)) L) (some (.ptr 0 0)) (N (N L (some (.fn (.func 107) [] [(.ptr 9 0)])) L) none L)) (some (.agg [(.stc 9 (T.dflt 9))])) (N L (some (.ptr 1 0)) L)) (10::(11::[])) .skip .skip 0 .normal (0::(101::[])) (0::(1::(0::(1::(1::[]))))))
abbrev o7:Option (Zq S):=some (.loop 106 (N (N (N L (some (.ptr 1 0)) L) vs L) (some (.agg [(.stc 14 (T.dflt 14))])) (N (N L (some (.ptr 2 0)) (N L (some (.fn (.func 107) [] [(.ptr 7 0)])) L)) (some (.ptr 0 0)) L)) (13::(14::[])) .skip .skip 0 .busy (0::(106::[])) (0::(1::(0::(1::[])))))
abbrev o6:Option (Zq S):=some (.loop 106 (N (N (N L (some (.ptr 1 0)) L) vs L) (some (.agg [(.stc 14 (T.dflt 14))])) (N (N L (some (.ptr 2 0)) (N L (some (.fn (.func 107) [] [(.ptr 7 0)])) L)) (some (.ptr 0 0)) L)) (13::(14::[])) .skip .skip 0 .normal (0::(106::[])) (0::(1::(0::(1::[])))))
abbrev o5:Option (Zq S):=some (.loop 110 (N (N (N (N (N L (some (.fn (.func 173) [] [(.ptr 8 0)])) L) (some (.ptr 4 0)) L) (some (.ptr 0 0)) L) vu (N L (some (.ptr 2 0)) L)) vr (N (N L (some (.ptr 1 0)) L) vL (N L (some (.ptr 3 0)) L))) (16::[]) .skip .skip 0 .ret (0::(110::[])) (0::(1::(0::(1::(1::[]))))))
abbrev o4:Option (Zq S):=some (.loop 8 (N (N (N (N L vt L) none (N (N L vM L) none (N L (some (.fn (.func 107) [] [(.ptr 25 0)])) L))) vI (N L vL L)) (some (.agg [(.stc 9 (T.dflt 9))])) (N (N (N L (some (.ptr 20 0)) L) (some (.ptr 1 0)) L) (some (.ptr 0 0)) (N L (some (.ptr 10 0)) L))) (28::(29::[])) .skip .skip 0 .normal (0::(8::[])) (0::(1::(0::(1::(1::(1::(1::[]))))))))
abbrev o3:Option (Zq S):=some (.loop 106 (N (N (N L (some (.ptr 1 0)) L) vs (N (N (N L (some (.fn (.func 107) [] [(.ptr 45 0)])) L) none L) (some (.ptr 38 0)) (N L vL L))) (some (.agg [(.stc 14 (T.dflt 14))])) (N (N L (some (.ptr 2 0)) (N L (some (.fn (.func 107) [] [(.ptr 7 0)])) L)) (some (.ptr 0 0)) (N L (some (.ptr 40 0)) (N L vb L)))) (18::(19::[])) .skip .skip 2 .normal (2::(11::(5::(7::(107::(0::(106::[]))))))) (0::(1::(0::(1::(0::(1::(0::(1::[])))))))))
abbrev o2:Option (Zq S):=some (.loop 46 (N (N (N (N L vL (N L vM L)) (some (.ptr 0 0)) L) vI (N (N (N (N L vM L) none L) vt (N (N L vM L) none L)) (some (.ptr 1 0)) L)) (some (.agg [(.stc 9 (T.dflt 9))])) (N (N (N L (some (.ptr 11 0)) L) none (N L none (N (N L (some (.fn (.func 107) [] [(.ptr 39 0)])) L) none L))) vs (N (N L (some (.ptr 31 0)) L) (some (.ptr 2 0)) L))) (45::(46::[])) .skip .skip 0 .busy (0::(46::[])) (0::(1::(0::(1::(1::(1::(1::(1::(1::[]))))))))))
abbrev o1:Option (Zq S):=some (.loop 46 (N (N (N (N L vL (N L vM L)) (some (.ptr 0 0)) L) vI (N (N (N (N L vM L) none L) vt (N (N L vM L) none L)) (some (.ptr 1 0)) L)) (some (.agg [(.stc 9 (T.dflt 9))])) (N (N (N L (some (.ptr 11 0)) L) none (N L none (N (N L (some (.fn (.func 107) [] [(.ptr 39 0)])) L) none L))) vs (N (N L (some (.ptr 31 0)) L) (some (.ptr 2 0)) L))) (45::(46::[])) .skip .skip 0 .normal (0::(46::[])) (0::(1::(0::(1::(1::(1::(1::(1::(1::[]))))))))))
abbrev o0:Option (Zq S):=some (.loop 46 (N (N (N (N L vL (N L vM L)) (some (.ptr 0 0)) L) vI (N (N (N (N L vM L) none (N L (some (.fn (.func 107) [] [(.ptr 78 0)])) L)) vt (N (N L vM L) none L)) (some (.ptr 1 0)) (N L none (N (N L vL L) none L)))) (some (.agg [(.stc 9 (T.dflt 9))])) (N (N (N L (some (.ptr 11 0)) L) none (N L (some (.ptr 73 0)) (N (N L (some (.fn (.func 107) [] [(.ptr 39 0)])) L) none L))) vs (N (N L (some (.ptr 31 0)) L) (some (.ptr 2 0)) (N L none (N (N L vb L) none L))))) (50::(51::[])) .skip .skip 2 .normal (2::(44::(5::(7::(107::(0::(46::[]))))))) (0::(1::(0::(1::(0::(1::(0::(1::(1::(1::(1::(1::(1::[]))))))))))))))
abbrev o1C:Tr (Zq S):=N (N L none (N L ov L)) none L
abbrev v1B:Tr (TV S):=N (N L none (N L vL L)) none L
abbrev o1A:Tr (Zq S):=N (N (N L ov L) none L) none L
abbrev o1z:Tr (Zq S):=N (N (N L oy L) none L) none L
abbrev o1y:Tr (Zq S):=N L none (N (N L oF L) none L)
abbrev v1x:Tr (TV S):=N (N (N L vL L) none L) none L
abbrev v1w:Tr (TV S):=N L none (N (N L vL L) none L)
abbrev v1v:Tr (TV S):=N v1x none L
abbrev o1u:Tr (Zq S):=N (N L none (N L oD L)) ol (N (N L oz L) none L)
abbrev v1t:Tr (TV S):=N (N (N L vL L) none L) none (N (N L vL L) vL L)
abbrev v1s:Tr (TV S):=N (N L none (N L vL L)) none (N (N L vL L) none L)
abbrev o1r:Tr (Zq S):=N (N (N (N L op L) none (N L o6 L)) og L) of (N L oa L)
abbrev o1q:Tr (Zq S):=N (N L og L) om (N L on (N L none (N (N L on L) none L)))
abbrev o1p:Tr (Zq S):=N (N L o9 (N (N L op L) none (N L o8 L))) om (N (N L of L) none L)
abbrev o1o:Tr (Zq S):=N (N L none (N L oD (N (N L oh L) none L))) ol (N (N L oz L) none L)
abbrev o1n:Tr (Zq S):=N (N (N (N (N L og L) none L) none (N (N L og L) none L)) none L) oq L
abbrev v1m:Tr (TV S):=N v1w none (N (N (N L vJ L) none L) none L)
abbrev v1l:Tr (TV S):=N (N (N L vL L) (some (.ptr 7 0)) L) (some (.yld 11)) (N (N L vL L) none L)
abbrev v1k:Tr (TV S):=N (N (N L vL L) (some (.ptr 9 0)) L) (some (.yld 13)) (N (N L vL L) none L)
abbrev v1j:Tr (TV S):=N (N (N L vL L) (some (.ptr 39 0)) L) (some (.yld 44)) (N (N L vL L) none L)
abbrev v1i:Tr (TV S):=N (N (N L vL L) (some (.ptr 78 0)) L) (some (.yld 83)) (N (N L vL L) none L)
abbrev v1h:Tr (TV S):=N (N (N L vL L) (some (.ptr 25 0)) L) (some (.yld 30)) (N (N L vL L) none L)
abbrev v1g:Tr (TV S):=N (N (N L vL L) (some (.ptr 45 0)) L) (some (.yld 49)) (N (N L vL L) none L)
abbrev o1f:Tr (Zq S):=N (N L none (N L oD L)) ol (N (N L oz L) none (N L none (N L none (N L ok L))))
abbrev o1e:Tr (Zq S):=N (N (N (N (N L ok L) none L) on L) on L) ol (N (N L none (N (N L oc L) none L)) none L)
abbrev o1d:Tr (Zq S):=N (N o1A on L) ol (N o1A none L)
abbrev o1c:Tr (Zq S):=N (N (N L none (N (N L (some (.row 106 (.arr 5 (.int .u64)) [] 1 0)) L) none L)) of L) om L
abbrev o1b:Tr (Zq S):=N (N (N L none (N L none (N (N L oG L) none L))) none (N L none (N (N L oH L) none L))) ol L
abbrev v1a:Tr (TV S):=N v1x none (N (N (N L vL L) none L) none (N L (some (.ptr 2 0)) L))
abbrev v19:Tr (TV S):=N (N (N (N L (some (.ptr 3 0)) L) none L) none L) none (N (N (N L vM L) none L) none (N L vL L))
abbrev o18:Tr (Zq S):=N (N L none (N L oD (N (N L oh L) none L))) ol (N (N L oz L) none (N (N (N L none (N L oC L)) none L) none L))
abbrev o17:Tr (Zq S):=N (N (N L ov L) none (N L none (N (N L ov L) none L))) none (N (N (N (N L ov L) none L) none (N L oi L)) none L)
abbrev o16:Tr (Zq S):=N (N (N (N (N (N L oG L) none L) none L) none L) none (N L none (N (N L oh L) none L))) ol (N L none (N (N L oH L) none L))
abbrev v15:Tr (TV S):=N (N (N (N L (some (.ptr 3 0)) L) none (N (N L vL L) none L)) none L) none (N (N L (some (.ptr 1 0)) (N (N L vL L) none L)) vL (N (N (N L vK L) none L) none L))
abbrev o14:Tr (Zq S):=N (N (N (N L none (N L on L)) oA (N L none (N (N L od L) none L))) on (N (N (N (N L on L) none (N L on L)) none L) none L)) oc (N (N (N L oc L) oA (N L o5 L)) ox L)
abbrev o13:Tr (Zq S):=N (N L (some (.cells 39 [(.rs 36 0)])) (N (N L none (N L op L)) none L)) om (N (N L none (N (N (N L oC L) oa L) none L)) none (N (N L of L) none (N L none (N L o4 L))))
abbrev o12:Tr (Zq S):=N (N L (some (.cells 39 [(.rs 46 0)])) (N (N L none (N L op L)) none L)) om (N (N L none (N (N L oa L) none L)) none (N (N L of L) none (N L none (N (N L oC L) o4 L))))
abbrev o11:Tr (Zq S):=N (N (N L on L) og (N L none o1C)) of (N (N (N (N L on L) none (N (N L ov L) none L)) none (N L none o1A)) on L)
abbrev o10:Tr (Zq S):=N (N (N L none (N L none (N (N L ov L) none L))) on (N L none (N (N L ok L) none L))) ol (N (N L none (N L none (N (N L ov L) none L))) none (N (N L none (N L oc L)) none L))
abbrev oZ:Tr (Zq S):=N (N (N (N (N (N L oa L) none L) none (N (N L op L) none L)) none (N (N L oB L) of L)) og L) om (N (N L none (N L none (N (N L o1 L) none (N L oC L)))) (some (.cells 39 [(.rs 60 0)])) L)
abbrev vY:Tr (TV S):=N (N (N (N L (some (.ptr 3 0)) L) none (N (N L vL L) (some (.ptr 20 0)) L)) none (N (N L vL L) none L)) none (N (N L (some (.ptr 1 0)) (N (N L vL L) vL L)) vL (N (N (N L vK L) none L) none L))
abbrev oX:Tr (Zq S):=N o1n none (N (N (N L none (N L none (N L ov L))) none L) none (N o1C none (N L none (N L none (N L ov L)))))
abbrev oW:Tr (Zq S):=N (N (N (N L op L) none (N L o7 L)) og (N (N (N L none (N L o3 L)) none L) none (N L none (N (N L op L) none L)))) of (N (N (N L none (N (N L on L) none L)) none L) oa (N L none (N (N (N L ox L) none L) none L)))
abbrev oV:Tr (Zq S):=N (N (N (N (N (N L oa L) none L) none (N (N L op L) none L)) none (N (N L oB L) of L)) og L) om (N (N L none (N L none (N (N L o1 L) none L))) (some (.cells 39 [(.rs 50 0)])) (N (N (N L none (N L oC L)) none L) none L))
abbrev oU:Tr (Zq S):=N (N (N (N (N (N L oa L) none L) none (N (N L op L) none L)) none (N (N L none (N (N L o0 L) none L)) of L)) og (N (N L none (N (N (N L on L) none L) none (N (N L oC L) none L))) none L)) om (N (N L none (N L none (N (N L o2 L) none L))) (some (.cells 39 [(.rs 89 0)])) (N L none (N L none (N (N (N L op L) none L) none L))))
abbrev oT:Tr (Zq S):=N (N (N (N (N (N L oa L) none L) none (N (N L op L) none L)) none (N (N (N L none (N L oC L)) none (N (N L o0 L) none L)) of L)) og (N (N L none (N (N (N L on L) none L) none L)) none L)) om (N (N L none (N L none (N (N L o2 L) none L))) (some (.cells 39 [(.rs 99 0)])) (N L none (N L none (N (N (N L op L) none L) none L))))
abbrev oS:Tr (Zq S):=N (N (N (N L none (N L on L)) oA L) on L) oc (N (N (N L oc L) oA (N L (some (.loop 110 (N (N (N (N (N L (some (.fn (.func 173) [] [(.ptr 8 0)])) L) (some (.ptr 4 0)) L) (some (.ptr 0 0)) L) vu (N L (some (.ptr 2 0)) L)) vr (N (N L (some (.ptr 1 0)) L) vL (N L (some (.ptr 3 0)) L))) (16::[]) .skip .skip 0 .normal (0::(110::[])) (0::(1::(0::(1::(1::[]))))))) L)) ox L)
abbrev oR:Tr (Zq S):=N (N (N (N L none (N L oc L)) none (N L none (N L (some (.loop 139 (N (N (N (N (N L vM L) none L) vL L) (some (.ptr 0 0)) (N (N L none (N L vM L)) none L)) vr (N (N (N L vM L) none (N L none (N L vj L))) (some (.ptr 1 0)) L)) (29::[]) .skip .skip 1 .normal (1::(139::[])) (0::(1::(0::(1::(1::(1::[])))))))) L))) ow L) oc (N L none (N L ov (N (N (N L on L) none L) none L)))
abbrev oQ:Tr (Zq S):=N (N (N (N L none (N L oc L)) none (N L none (N L (some (.loop 139 (N (N (N (N (N L vM L) none L) vL L) (some (.ptr 0 0)) (N (N L none (N L vM L)) none L)) vr (N (N (N L vM L) none (N L none (N L vj L))) (some (.ptr 1 0)) L)) (29::[]) .skip .skip 1 .busy (1::(139::[])) (0::(1::(0::(1::(1::(1::[])))))))) L))) ow L) oc (N L none (N (N L none (N L none (N L od L))) none L))
abbrev oP:Tr (Zq S):=N (N (N (N (N L oe L) none (N L (some (.loop 79 (N (N (N (N L (some (.ptr 15 0)) L) (some (.ptr 0 0)) L) vL (N L (some (.ptr 2 0)) L)) vr (N (N L (some (.ptr 1 0)) L) vu (N L (some (.ptr 3 0)) (N (N L (some (.fn (.func 173) [] [(.ptr 19 0)])) L) none L)))) (23::[]) .skip .skip 0 .normal (0::(79::[])) (0::(1::(0::(1::(1::[]))))))) L)) oe (N (N L oc L) none L)) ox L) oc (N L on (N (N (N (N L on L) none L) none L) none L))
abbrev oO:Tr (Zq S):=N (N (N (N L op L) none (N L o7 L)) og (N (N (N L none (N L (some (.loop 106 (N (N (N L (some (.ptr 1 0)) L) vs (N (N (N L (some (.fn (.func 107) [] [(.ptr 45 0)])) L) none L) (some (.ptr 38 0)) (N L vL L))) (some (.agg [(.stc 14 (T.dflt 14))])) (N (N L (some (.ptr 2 0)) (N L (some (.fn (.func 107) [] [(.ptr 7 0)])) L)) (some (.ptr 0 0)) (N L (some (.ptr 40 0)) (N L vb L)))) (18::(19::[])) .skip .skip 2 (.exit 2) (2::(11::(5::(7::(107::(0::(106::[]))))))) (0::(1::(0::(1::(0::(1::(0::(1::[])))))))))) L)) none L) none (N L none (N (N L op L) none L)))) of (N (N (N L none (N (N L on L) none L)) none (N L none (N (N (N L on L) none L) none L))) oa (N L none (N (N (N L ox L) none L) none L)))
abbrev oN:Tr (Zq S):=N (N (N (N (N (N (N (N L (some (.row 43 (.st 2) [] 0 0)) L) none L) oa L) none L) none (N (N L op L) none L)) none (N (N (N L none (N L (some (.row 43 (.st 2) [] 1 1)) L)) none (N (N L (some (.loop 46 (N (N (N (N L vL (N L vM L)) (some (.ptr 0 0)) L) vI (N (N (N (N L vM L) none (N L (some (.fn (.func 107) [] [(.ptr 78 0)])) L)) vt (N (N L vM L) none L)) (some (.ptr 1 0)) v1w)) (some (.agg [(.stc 9 (T.dflt 9))])) (N (N (N L (some (.ptr 11 0)) L) none (N L (some (.ptr 73 0)) (N (N L (some (.fn (.func 107) [] [(.ptr 39 0)])) L) none L))) vs (N (N L (some (.ptr 31 0)) L) (some (.ptr 2 0)) (N L none (N (N L vb L) none L))))) (50::(51::[])) .skip .skip 2 (.exit 2) (2::(44::(5::(7::(107::(0::(46::[]))))))) (0::(1::(0::(1::(0::(1::(0::(1::(1::(1::(1::(1::(1::[]))))))))))))))) L) none L)) of L)) og (N (N (N L none (N L none (N L on L))) none (N (N (N L on L) none L) none L)) none L)) om (N (N L none (N L none (N (N L o2 L) none L))) (some (.cells 39 [(.rs 99 1)])) (N L none (N L none (N (N (N L op L) none L) none L))))
def q0 {R:Type}:Prs S R:=Zjk
theorem q1 {R:Type}:Ze9 X (q0 (R:=R)):=Zjl X
def q2:List (Nat×F7 S):=[]
theorem q3:ZbA X (q2):=trivial
abbrev q4 {R:Type}:Z36 S R:=Zie
theorem q5 {R:Type}:Z58 X (q4 (R:=R)):=ZiT X
theorem q6 (x0:Int) (x1:Int) (x2:Int):Zju X q2 [(.int .i64),(.int .i64),(.int .i64)] [.bool] q0 q4 12 135 (x0,x1,x2,())=X18 x0 x1 x2:=by kernel_rfl
def q7:F7 S:=⟨[(.int .i64),(.int .i64),(.int .i64)],[.bool],fun xs=>X18 xs.1 xs.2.1 xs.2.2.1⟩
theorem q8:Zfl X 135 q7:=Zjs (Zjr xok q3 q1 q5 12 135) fun xs _ h=>(q6 xs.1 xs.2.1 xs.2.2.1).trans h
def q9:List (Nat×F7 S):=[(135,q7)]
theorem qa:ZbA X (q9):=⟨q8,trivial⟩
def qd:Key:=⟨[114],114,none,[0,0,1,0,1,1],0,6⟩
def qe:StT S:=⟨(N (N (N L vL L) none L) vE L),L,6⟩
def qf:Way S:=⟨.ret,⟨(N L none (N L vM L)),L,43⟩,[.bool]⟩
def qg:Way S:=⟨(.exit 0),⟨L,L,10⟩,[]⟩
def qh:LE S:=⟨qd,qe,[.int,.str],[qf,qg]⟩
def qi (x:(Int×ByteArray)):(Bool⊕Unit)→(Bool⊕Unit):=Sum.elim (fun y0=>(.inl y0)) (fun y1=>(.inr ()))
def qj {R:Type} (x:(Int×ByteArray)) (k:(Bool⊕Unit)→Option R):Option R:=(X3b x.2 x.1).bind (Sum.elim (fun y0=>k (.inl y0)) (fun y1=>k (.inr ())))
def qk (x:(Int×ByteArray)) (v:Int):(Int×ByteArray):=(v,x.2)
theorem ql (x:(Int×ByteArray)):LE.step X qh q9 q0 q4 12 x=WF x.2 x.1 (fun w0=>(Sum.inl (w0,x.2))) (fun p0=>(Sum.inr (.inl p0))) (Sum.inr (.inr ())):=by kernel_rfl
theorem qn {R:Type} (x:(Int×ByteArray)) (k:(Bool⊕Unit)→Option R) (r:R) (h:qj x k=some r):∃o,Z5L (LE.step X qh q9 q0 q4 12) x o∧k o=some r:=by
 obtain⟨o,h1,h2⟩:=Z0 h;exact⟨qi x o,Zjo (st:=fun(x:(Int×ByteArray))=>Wy x.2) (prj:=fun x=>x.1) (emb:=qk) (embO:=qi) (fun x=>(ql x).trans (by unfold Wy WF;simp only[Zji,Zj8,Zjj,Option.map_some,Option.map_none];rfl)) (fun _ _=>rfl) (fun _ _=>rfl) (fun _ _ _=>rfl) (fun _ _ _=>rfl) (fun _=>rfl) (Z28.1 h1),by first|exact h2|(rcases o with o|o<;>exact h2)⟩
def qo {R:Type}:Z36 S R:=LE.ls X qh qj q4
theorem qp {R:Type}:Z58 X (qo (R:=R)):=Zjt xok qa (e:=qh) q1 q5 qn q5
theorem qq (x0:ByteArray):Zju X q9 [.str] [.bool] q0 qo 12 114 (x0,())=X2X x0:=by kernel_rfl
def qr:F7 S:=⟨[.str],[.bool],fun xs=>X2X xs.1⟩
theorem qs:Zfl X 114 qr:=Zjs (Zjr xok qa q1 qp 12 114) fun xs _ h=>(qq xs.1).trans h
def qx:Key:=⟨[115],115,none,[0,0,1,0,1],0,2⟩
def qy:StT S:=⟨(N (N L vE (N L vL L)) (some (.sl .str [])) L),L,2⟩
def qz:Way S:=⟨.ret,⟨v1w,L,14⟩,[.int]⟩
def qA:Way S:=⟨(.exit 0),⟨L,L,6⟩,[]⟩
def qB:LE S:=⟨qx,qy,[.str,.int,(.lst .str)],[qz,qA]⟩
def qC (x:X5O):(Int⊕Unit)→(Int⊕Unit):=Sum.elim (fun y0=>(.inl y0)) (fun y1=>(.inr ()))
def qD {R:Type} (x:X5O) (k:(Int⊕Unit)→Option R):Option R:=(X1R x.1 x.2.2 x.2.1).bind (Sum.elim (fun y0=>k (.inl y0)) (fun y1=>k (.inr ())))
def qE (x:X5O) (v:Int):X5O:=(x.1,v,x.2.2)
theorem qF (x:X5O):LE.step X qB q2 q0 q4 12 x=Ws x.1 x.2.2 x.2.1 (fun w0=>(Sum.inl (x.1,w0,x.2.2))) (fun p0=>(Sum.inr (.inl p0))) (Sum.inr (.inr ())):=by kernel_rfl
theorem qH {R:Type} (x:X5O) (k:(Int⊕Unit)→Option R) (r:R) (h:qD x k=some r):∃o,Z5L (LE.step X qB q2 q0 q4 12) x o∧k o=some r:=by
 obtain⟨o,h1,h2⟩:=Z0 h;exact⟨qC x o,Zjo (st:=fun(x:X5O)=>XH x.1 x.2.2) (prj:=fun x=>x.2.1) (emb:=qE) (embO:=qC) (fun x=>(qF x).trans (by unfold XH Ws;simp only[Zji,Zj8,Zjj,Option.map_some,Option.map_none];rfl)) (fun _ _=>rfl) (fun _ _=>rfl) (fun _ _ _=>rfl) (fun _ _ _=>rfl) (fun _=>rfl) (Z28.1 h1),by first|exact h2|(rcases o with o|o<;>exact h2)⟩
def qI {R:Type}:Z36 S R:=LE.ls X qB qD q4
theorem qJ {R:Type}:Z58 X (qI (R:=R)):=Zjt xok q3 (e:=qB) q1 q5 qH q5
theorem qK (x0:List ByteArray) (x1:ByteArray):Zju X q2 [(.sl .str),.str] [(.int .i64)] q0 qI 12 115 (x0,x1,())=X3c x0 x1:=by kernel_rfl
def qL:F7 S:=⟨[(.sl .str),.str],[(.int .i64)],fun xs=>X3c xs.1 xs.2.1⟩
theorem qM:Zfl X 115 qL:=Zjs (Zjr xok q3 q1 qJ 12 115) fun xs _ h=>(qK xs.1 xs.2.1).trans h
def qN:List (Nat×F7 S):=[(114,qr),(115,qL)]
theorem qO:ZbA X (qN):=⟨qs,qM,trivial⟩
theorem qR (x0:ByteArray) (x1:List ByteArray):Zju X qN [.str,(.sl .str)] [(.int .i64)] q0 q4 12 58 (x0,x1,())=X1Z x0 x1:=by kernel_rfl
def qS:F7 S:=⟨[.str,(.sl .str)],[(.int .i64)],fun xs=>X1Z xs.1 xs.2.1⟩
theorem qT:Zfl X 58 qS:=Zjs (Zjr xok qO q1 q5 12 58) fun xs _ h=>(qR xs.1 xs.2.1).trans h
theorem qY (x0:Point) (x1:Int):Zju X q9 [(.st 2),(.int .i64)] [.bool] q0 q4 12 111 (x0,x1,())=X1E x0 x1:=by kernel_rfl
def qZ:F7 S:=⟨[(.st 2),(.int .i64)],[.bool],fun xs=>X1E xs.1 xs.2.1⟩
theorem q10:Zfl X 111 qZ:=Zjs (Zjr xok qa q1 q5 12 111) fun xs _ h=>(qY xs.1 xs.2.1).trans h
def q15:Key:=⟨[112],112,none,[0,0,1,0,1,1],0,6⟩
def q16:StT S:=⟨(N (N (N L vL L) none L) (some (.sl (.st 3) [])) L),L,6⟩
def q17:Way S:=⟨.ret,⟨(N L none (N L vL L)),L,27⟩,[.int]⟩
def q18:Way S:=⟨.ret,⟨(N L none (N L vL L)),L,43⟩,[.int]⟩
def q1a:LE S:=⟨q15,q16,[.int,(.lst (.st 3))],[q17,q18,qg]⟩
def q1b (x:(Int×(List Zs))):(Int⊕Int⊕Unit)→(Int⊕Int⊕Unit):=Sum.elim (fun y0=>(.inl y0)) (Sum.elim (fun y1=>(.inr (.inl y1))) (fun y2=>(.inr (.inr ()))))
def q1c {R:Type} (x:(Int×(List Zs))) (k:(Int⊕Int⊕Unit)→Option R):Option R:=(X2A x.2 x.1).bind (Sum.elim (fun y0=>k (.inl y0)) (Sum.elim (fun y1=>k (.inr (.inl y1))) (fun y2=>k (.inr (.inr ())))))
def q1d (x:(Int×(List Zs))) (v:Int):(Int×(List Zs)):=(v,x.2)
theorem q1e (x:(Int×(List Zs))):LE.step X q1a q9 q0 q4 12 x=W9 x.2 x.1 (fun w0=>(Sum.inl (w0,x.2))) (fun p0=>(Sum.inr (.inl p0))) (fun p0=>(Sum.inr (.inr (.inl p0)))) (Sum.inr (.inr (.inr ()))):=by kernel_rfl
theorem q1g {R:Type} (x:(Int×(List Zs))) (k:(Int⊕Int⊕Unit)→Option R) (r:R) (h:q1c x k=some r):∃o,Z5L (LE.step X q1a q9 q0 q4 12) x o∧k o=some r:=by
 obtain⟨o,h1,h2⟩:=Z0 h;exact⟨q1b x o,Zjo (st:=fun(x:(Int×(List Zs)))=>XV x.2) (prj:=fun x=>x.1) (emb:=q1d) (embO:=q1b) (fun x=>(q1e x).trans (by unfold XV W9;simp only[Zji,Zj8,Zjj,Option.map_some,Option.map_none];rfl)) (fun _ _=>rfl) (fun _ _=>rfl) (fun _ _ _=>rfl) (fun _ _ _=>rfl) (fun _=>rfl) (Z28.1 h1),by first|exact h2|(rcases o with o|o|o<;>exact h2)⟩
def q1h {R:Type}:Z36 S R:=LE.ls X q1a q1c q4
theorem q1i {R:Type}:Z58 X (q1h (R:=R)):=Zjt xok qa (e:=q1a) q1 q5 q1g q5
theorem q1j (x0:List Zs):Zju X q9 [(.sl (.st 3))] [(.int .i64)] q0 q1h 12 112 (x0,())=X1F x0:=by kernel_rfl
def q1k:F7 S:=⟨[(.sl (.st 3))],[(.int .i64)],fun xs=>X1F xs.1⟩
theorem q1l:Zfl X 112 q1k:=Zjs (Zjr xok qa q1 q1i 12 112) fun xs _ h=>(q1j xs.1).trans h
def q1q:Key:=⟨[86],86,none,[0,0,1,0,1,1],0,3⟩
def q1r:StT S:=⟨(N (N (N (N L vL L) none L) vL L) (some (.sl (.st 5) [])) (N (N (N L vL L) none L) vL L)),L,3⟩
def q1s:Way S:=⟨.ret,⟨(N L none (N L none (N L vL L))),L,28⟩,[.int]⟩
def q1t:Way S:=⟨(.exit 0),⟨v1v,L,7⟩,[.int]⟩
def q1u:LE S:=⟨q1q,q1r,[.int,.int,(.lst (.st 5)),.int,.int],[q1s,q1t]⟩
def q1v (x:X5N):(Int⊕Int)→(Int⊕Int):=Sum.elim (fun y0=>(.inl y0)) (fun y1=>(.inr y1))
def q1w {R:Type} (x:X5N) (k:(Int⊕Int)→Option R):Option R:=(X2z x.2.1 x.2.2.1 x.2.2.2.2 (x.1,x.2.2.2.1)).bind (Sum.elim (fun y0=>k (.inl y0)) (fun y1=>k (.inr y1)))
def q1x (x:X5N) (v:(Int×Int)):X5N:=(v.1,x.2.1,x.2.2.1,v.2,x.2.2.2.2)
theorem q1y (x:X5N):LE.step X q1u q9 q0 q4 12 x=W8 x.2.1 x.2.2.1 x.2.2.2.2 x.1 x.2.2.2.1 (fun w0 w1=>(Sum.inl (w0,x.2.1,x.2.2.1,w1,x.2.2.2.2))) (fun p0=>(Sum.inr (.inl p0))) (fun p0=>(Sum.inr (.inr p0))):=by kernel_rfl
theorem q1A {R:Type} (x:X5N) (k:(Int⊕Int)→Option R) (r:R) (h:q1w x k=some r):∃o,Z5L (LE.step X q1u q9 q0 q4 12) x o∧k o=some r:=by
 obtain⟨o,h1,h2⟩:=Z0 h;exact⟨q1v x o,Zjo (st:=fun(x:X5N)=>XU x.2.1 x.2.2.1 x.2.2.2.2) (prj:=fun x=>(x.1,x.2.2.2.1)) (emb:=q1x) (embO:=q1v) (fun x=>(q1y x).trans (by unfold XU W8;simp only[Zji,Zj8,Zjj,Option.map_some,Option.map_none];rfl)) (fun _ _=>rfl) (fun _ _=>rfl) (fun _ _ _=>rfl) (fun _ _ _=>rfl) (fun _=>rfl) (Z28.1 h1),by first|exact h2|(rcases o with o|o<;>exact h2)⟩
def q1B {R:Type}:Z36 S R:=LE.ls X q1u q1w q4
theorem q1C {R:Type}:Z58 X (q1B (R:=R)):=Zjt xok qa (e:=q1u) q1 q5 q1A q5
theorem q1D (x0:List ZO) (x1:Int) (x2:Int):Zju X q9 [(.sl (.st 5)),(.int .i64),(.int .i64)] [(.int .i64)] q0 q1B 12 86 (x0,x1,x2,())=X1g x0 x1 x2:=by kernel_rfl
def q1E:F7 S:=⟨[(.sl (.st 5)),(.int .i64),(.int .i64)],[(.int .i64)],fun xs=>X1g xs.1 xs.2.1 xs.2.2.1⟩
theorem q1F:Zfl X 86 q1E:=Zjs (Zjr xok qa q1 q1C 12 86) fun xs _ h=>(q1D xs.1 xs.2.1 xs.2.2.1).trans h
def q1G:List (Nat×F7 S):=[(86,q1E)]
theorem q1H:ZbA X (q1G):=⟨q1F,trivial⟩
theorem q1K (x0:ZF) (x1:Int) (x2:Int):Zju X q1G [(.st 6),(.int .i64),(.int .i64)] [(.int .i64)] q0 q4 12 21 (x0,x1,x2,())=X3p x0 x1 x2:=by kernel_rfl
def q1L:F7 S:=⟨[(.st 6),(.int .i64),(.int .i64)],[(.int .i64)],fun xs=>X3p xs.1 xs.2.1 xs.2.2.1⟩
theorem q1M:Zfl X 21 q1L:=Zjs (Zjr xok q1H q1 q5 12 21) fun xs _ h=>(q1K xs.1 xs.2.1 xs.2.2.1).trans h
theorem q1R (x0:Point) (x1:Point):Zju X q2 [(.st 2),(.st 2)] [(.st 2)] q0 q4 12 81 (x0,x1,())=X4L x0 x1:=by kernel_rfl
def q1S:F7 S:=⟨[(.st 2),(.st 2)],[(.st 2)],fun xs=>X4L xs.1 xs.2.1⟩
theorem q1T:Zfl X 81 q1S:=Zjs (Zjr xok q3 q1 q5 12 81) fun xs _ h=>(q1R xs.1 xs.2.1).trans h
theorem q1Y (x0:Point) (x1:Point):Zju X q2 [(.st 2),(.st 2)] [(.int .i64)] q0 q4 12 80 (x0,x1,())=X4K x0 x1:=by kernel_rfl
def q1Z:F7 S:=⟨[(.st 2),(.st 2)],[(.int .i64)],fun xs=>X4K xs.1 xs.2.1⟩
theorem q20:Zfl X 80 q1Z:=Zjs (Zjr xok q3 q1 q5 12 80) fun xs _ h=>(q1Y xs.1 xs.2.1).trans h
def q21:List (Nat×F7 S):=[(81,q1S),(80,q1Z)]
theorem q22:ZbA X (q21):=⟨q1T,q20,trivial⟩
def q25:Key:=⟨[160],160,none,[0,0,1,1,0,0,1,0,0,1,0,1],2,13⟩
def q26:StT S:=⟨(N (N (N L vL L) none (N L vL L)) vJ (N (N L vL L) none L)),L,13⟩
def q27:Way S:=⟨.ret,⟨(N L none (N L vM L)),L,48⟩,[.bool]⟩
def q28:Way S:=⟨(.exit 2),⟨(N (N (N L vL L) none L) vJ L),L,17⟩,[.int,(.lst (.st 2))]⟩
def q29:LE S:=⟨q25,q26,[.int,.int,(.lst (.st 2)),.int],[q27,q28]⟩
def q2a (x:X5R):(Bool⊕Unit)→(Bool⊕(Int×(List Point))):=Sum.elim (fun y0=>(.inl y0)) (fun y1=>(.inr (x.1,x.2.2.1)))
def q2b {R:Type} (x:X5R) (k:(Bool⊕(Int×(List Point)))→Option R):Option R:=(X1h x.1 x.2.2.1 x.2.2.2 x.2.1).bind (Sum.elim (fun y0=>k (.inl y0)) (fun y1=>k (.inr (x.1,x.2.2.1))))
def q2c (x:X5R) (v:Int):X5R:=(x.1,v,x.2.2.1,x.2.2.2)
theorem q2d (x:X5R):LE.step X q29 q21 q0 q4 12 x=Wu x.1 x.2.2.1 x.2.2.2 x.2.1 (fun w0=>(Sum.inl (x.1,w0,x.2.2.1,x.2.2.2))) (fun p0=>(Sum.inr (.inl p0))) (Sum.inr (.inr (x.1,x.2.2.1))):=by kernel_rfl
theorem q2f {R:Type} (x:X5R) (k:(Bool⊕(Int×(List Point)))→Option R) (r:R) (h:q2b x k=some r):∃o,Z5L (LE.step X q29 q21 q0 q4 12) x o∧k o=some r:=by
 obtain⟨o,h1,h2⟩:=Z0 h;exact⟨q2a x o,Zjo (st:=fun(x:X5R)=>Wl x.1 x.2.2.1 x.2.2.2) (prj:=fun x=>x.2.1) (emb:=q2c) (embO:=q2a) (fun x=>(q2d x).trans (by unfold Wl Wu;simp only[Zji,Zj8,Zjj,Option.map_some,Option.map_none];rfl)) (fun _ _=>rfl) (fun _ _=>rfl) (fun _ _ _=>rfl) (fun _ _ _=>rfl) (fun _=>rfl) (Z28.1 h1),by first|exact h2|(rcases o with o|o<;>exact h2)⟩
def q2g {R:Type}:Z36 S R:=LE.ls X q29 q2b q4
theorem q2h {R:Type}:Z58 X (q2g (R:=R)):=Zjt xok q22 (e:=q29) q1 q5 q2f q5
def q2i:Key:=⟨[160],160,none,[0,0,1,0,1],0,2⟩
def q2j:StT S:=⟨(N (N (N L vL L) none L) vJ L),L,2⟩
def q2m:LE S:=⟨q2i,q2j,[.int,(.lst (.st 2))],[q27,qA]⟩
def q2n (x:(Int×(List Point))):(Bool⊕Unit)→(Bool⊕Unit):=Sum.elim (fun y0=>(.inl y0)) (fun y1=>(.inr ()))
def q2o {R:Type} (x:(Int×(List Point))) (k:(Bool⊕Unit)→Option R):Option R:=(X2Y x.2 x.1).bind (Sum.elim (fun y0=>k (.inl y0)) (fun y1=>k (.inr ())))
def q2p (x:(Int×(List Point))) (v:Int):(Int×(List Point)):=(v,x.2)
theorem q2q (x:(Int×(List Point))):LE.step X q2m q21 q0 q2g 12 x=Wt x.2 x.1 (fun w0=>(Sum.inl (w0,x.2))) (fun p0=>(Sum.inr (.inl p0))) (Sum.inr (.inr ())):=by kernel_rfl
theorem q2s {R:Type} (x:(Int×(List Point))) (k:(Bool⊕Unit)→Option R) (r:R) (h:q2o x k=some r):∃o,Z5L (LE.step X q2m q21 q0 q2g 12) x o∧k o=some r:=by
 obtain⟨o,h1,h2⟩:=Z0 h;exact⟨q2n x o,Zjo (st:=fun(x:(Int×(List Point)))=>Wk x.2) (prj:=fun x=>x.1) (emb:=q2p) (embO:=q2n) (fun x=>(q2q x).trans (by unfold Wk Wt;simp only[Zji,Zj8,Zjj,Option.map_some,Option.map_none];rfl)) (fun _ _=>rfl) (fun _ _=>rfl) (fun _ _ _=>rfl) (fun _ _ _=>rfl) (fun _=>rfl) (Z28.1 h1),by first|exact h2|(rcases o with o|o<;>exact h2)⟩
def q2t {R:Type}:Z36 S R:=LE.ls X q2m q2o q2g
theorem q2u {R:Type}:Z58 X (q2t (R:=R)):=Zjt xok q22 (e:=q2m) q1 q2h q2s q2h
theorem q2v (x0:List Point):Zju X q21 [(.sl (.st 2))] [.bool] q0 q2t 12 160 (x0,())=X2m x0:=by kernel_rfl
def q2w:F7 S:=⟨[(.sl (.st 2))],[.bool],fun xs=>X2m xs.1⟩
theorem q2x:Zfl X 160 q2w:=Zjs (Zjr xok q22 q1 q2u 12 160) fun xs _ h=>(q2v xs.1).trans h
def q2y:List (Nat×F7 S):=[(135,q7),(111,qZ),(21,q1L),(160,q2w)]
theorem q2z:ZbA X (q2y):=⟨q8,q10,q1M,q2x,trivial⟩
def q2C:Key:=⟨[113],113,none,[0,0,1,0,1,1],0,8⟩
def q2D:StT S:=⟨(N (N (N L vL L) (some (.ptr 0 0)) L) none L),(N L ok L),8⟩
def q2E:Way S:=⟨.ret,⟨(N L none (N L vL L)),(N L ok L),21⟩,[.int,(.st 7)]⟩
def q2F:Way S:=⟨(.exit 0),⟨(N (N L (some (.ptr 0 0)) L) none L),(N L ok L),13⟩,[(.st 7)]⟩
def q2G:LE S:=⟨q2C,q2D,[.int,(.st 7)],[q2E,q2F]⟩
def q2H (x:(Int×CtSand)):(Int⊕Unit)→((Int×CtSand)⊕CtSand):=Sum.elim (fun y0=>(.inl (y0,x.2))) (fun y1=>(.inr x.2))
def q2I {R:Type} (x:(Int×CtSand)) (k:((Int×CtSand)⊕CtSand)→Option R):Option R:=(X27 x.2 x.1).bind (Sum.elim (fun y0=>k (.inl (y0,x.2))) (fun y1=>k (.inr x.2)))
def q2J (x:(Int×CtSand)) (v:Int):(Int×CtSand):=(v,x.2)
theorem q2K (x:(Int×CtSand)):LE.step X q2G q2y q0 q4 12 x=WG x.2 x.1 (fun w0=>(Sum.inl (w0,x.2))) (fun p0=>(Sum.inr (.inl (p0,x.2)))) (Sum.inr (.inr x.2)):=by kernel_rfl
theorem q2M {R:Type} (x:(Int×CtSand)) (k:((Int×CtSand)⊕CtSand)→Option R) (r:R) (h:q2I x k=some r):∃o,Z5L (LE.step X q2G q2y q0 q4 12) x o∧k o=some r:=by
 obtain⟨o,h1,h2⟩:=Z0 h;exact⟨q2H x o,Zjo (st:=fun(x:(Int×CtSand))=>XW x.2) (prj:=fun x=>x.1) (emb:=q2J) (embO:=q2H) (fun x=>(q2K x).trans (by unfold XW WG;simp only[Zji,Zj8,Zjj,Option.map_some,Option.map_none];rfl)) (fun _ _=>rfl) (fun _ _=>rfl) (fun _ _ _=>rfl) (fun _ _ _=>rfl) (fun _=>rfl) (Z28.1 h1),by first|exact h2|(rcases o with o|o<;>exact h2)⟩
def q2N {R:Type}:Z36 S R:=LE.ls X q2G q2I q4
theorem q2O {R:Type}:Z58 X (q2N (R:=R)):=Zjt xok q2z (e:=q2G) q1 q5 q2M q5
theorem q2P (x0:CtSand):Zju X q2y [(.st 7)] [(.int .i64)] q0 q2N 12 113 (x0,())=X2Z x0:=by kernel_rfl
def q2Q:F7 S:=⟨[(.st 7)],[(.int .i64)],fun xs=>X2Z xs.1⟩
theorem q2R:Zfl X 113 q2Q:=Zjs (Zjr xok q2z q1 q2O 12 113) fun xs _ h=>(q2P xs.1).trans h
def q2S:List (Nat×F7 S):=[(58,qS),(111,qZ),(112,q1k),(113,q2Q)]
theorem q2T:ZbA X (q2S):=⟨qT,q10,q1l,q2R,trivial⟩
def q2W:Key:=⟨[56],56,none,[0,0,1,0,1,1,1],0,10⟩
def q2X:StT S:=⟨(N (N L (some (.ptr 0 0)) (N L (some (.rs 10 0)) L)) none (N L none (N L vL L))),(N L ol o1y),11⟩
def q2Y:Way S:=⟨.ret,⟨v1t,o16,52⟩,[.int,.int,.int,(.lst .str),(.st 4),(.st 8),(.lst .str)]⟩
def q2Z:Way S:=⟨.ret,⟨v1t,o16,55⟩,[.int,.int,.int,(.lst .str),(.st 4),(.st 8),(.lst .str)]⟩
def q30:Way S:=⟨.ret,⟨v1t,o16,51⟩,[.int,.int,.int,(.lst .str),(.st 4),(.st 8),(.lst .str)]⟩
def q31:Way S:=⟨(.exit 0),⟨(N (N L (some (.ptr 0 0)) (N L (some (.rs 10 0)) L)) none L),(N L ol o1y),16⟩,[(.st 8),(.lst .str)]⟩
def q32:LE S:=⟨q2W,q2X,[.int,(.st 8),(.lst .str)],[q2Y,q2Z,q30,q31]⟩
def q33 (x:X5P):(tqO⊕tqO⊕tqO⊕(List ByteArray))→tq9:=Sum.elim (fun y0=>(.inl (y0.1,y0.2.1,y0.2.2.1,y0.2.2.2.1,y0.2.2.2.2.1,x.2.1,y0.2.2.2.2.2))) (Sum.elim (fun y1=>(.inr (.inl (y1.1,y1.2.1,y1.2.2.1,y1.2.2.2.1,y1.2.2.2.2.1,x.2.1,y1.2.2.2.2.2)))) (Sum.elim (fun y2=>(.inr (.inr (.inl (y2.1,y2.2.1,y2.2.2.1,y2.2.2.2.1,y2.2.2.2.2.1,x.2.1,y2.2.2.2.2.2))))) (fun y3=>(.inr (.inr (.inr (x.2.1,y3)))))))
def q34 {R:Type} (x:X5P) (k:tq9→Option R):Option R:=(X2W x.2.1 (x.1,x.2.2)).bind (Sum.elim (fun y0=>k (.inl (y0.1,y0.2.1,y0.2.2.1,y0.2.2.2.1,y0.2.2.2.2.1,x.2.1,y0.2.2.2.2.2))) (Sum.elim (fun y1=>k (.inr (.inl (y1.1,y1.2.1,y1.2.2.1,y1.2.2.2.1,y1.2.2.2.2.1,x.2.1,y1.2.2.2.2.2)))) (Sum.elim (fun y2=>k (.inr (.inr (.inl (y2.1,y2.2.1,y2.2.2.1,y2.2.2.2.1,y2.2.2.2.2.1,x.2.1,y2.2.2.2.2.2))))) (fun y3=>k (.inr (.inr (.inr (x.2.1,y3))))))))
def q35 (x:X5P) (v:(Int×(List ByteArray))):X5P:=(v.1,x.2.1,v.2)
theorem q36 (x:X5P):LE.step X q32 q2S q0 q4 12 x=Wq x.2.1 x.1 x.2.2 (fun w0 w1=>(Sum.inl (w0,x.2.1,w1))) (fun p0 p1 p2 p3 p4 p5=>(Sum.inr (.inl (p0,p1,p2,p3,p4,x.2.1,p5)))) (fun p0 p1 p2 p3 p4 p5=>(Sum.inr (.inr (.inl (p0,p1,p2,p3,p4,x.2.1,p5))))) (fun p0 p1 p2 p3 p4 p5=>(Sum.inr (.inr (.inr (.inl (p0,p1,p2,p3,p4,x.2.1,p5)))))) (fun p0=>(Sum.inr (.inr (.inr (.inr (x.2.1,p0)))))):=by kernel_rfl
theorem q38 {R:Type} (x:X5P) (k:tq9→Option R) (r:R) (h:q34 x k=some r):∃o,Z5L (LE.step X q32 q2S q0 q4 12) x o∧k o=some r:=by
 obtain⟨o,h1,h2⟩:=Z0 h;exact⟨q33 x o,Zjo (st:=fun(x:X5P)=>Wi x.2.1) (prj:=fun x=>(x.1,x.2.2)) (emb:=q35) (embO:=q33) (fun x=>(q36 x).trans (by unfold Wi Wq;simp only[Zji,Zj8,Zjj,Option.map_some,Option.map_none];rfl)) (fun _ _=>rfl) (fun _ _=>rfl) (fun _ _ _=>rfl) (fun _ _ _=>rfl) (fun _=>rfl) (Z28.1 h1),by first|exact h2|(rcases o with o|o|o|o<;>exact h2)⟩
def q39 {R:Type}:Z36 S R:=LE.ls X q32 q34 q4
theorem q3a {R:Type}:Z58 X (q39 (R:=R)):=Zjt xok q2T (e:=q32) q1 q5 q38 q5
def q3b:Key:=⟨[56],56,none,[0,0,1,0,1,1,1,1,1],2,21⟩
def q3c:StT S:=⟨(N (N L (some (.ptr 0 0)) (N (N L vL L) (some (.rs 21 0)) L)) none L),(N (N L none o1y) ol L),22⟩
def q3d:Way S:=⟨.ret,⟨v1t,o1b,62⟩,[.int,.int,.int,(.lst .str),(.lst .str),(.st 8)]⟩
def q3e:Way S:=⟨.ret,⟨v1t,o1b,55⟩,[.int,.int,.int,(.lst .str),(.lst .str),(.st 8)]⟩
def q3f:Way S:=⟨(.exit 2),⟨L,(N (N L none o1y) ol L),27⟩,[(.lst .str),(.st 8)]⟩
def q3g:LE S:=⟨q3b,q3c,[.int,(.lst .str),(.st 8)],[q3d,q3e,q3f]⟩
def q3h (x:X5Q):((Int×Int×Int×(List ByteArray)×(List ByteArray))⊕(Int×Int×Int×(List ByteArray)×(List ByteArray))⊕(List ByteArray))→tqh:=Sum.elim (fun y0=>(.inl (y0.1,y0.2.1,y0.2.2.1,y0.2.2.2.1,y0.2.2.2.2,x.2.2))) (Sum.elim (fun y1=>(.inr (.inl (y1.1,y1.2.1,y1.2.2.1,y1.2.2.2.1,y1.2.2.2.2,x.2.2)))) (fun y2=>(.inr (.inr (y2,x.2.2)))))
def q3i {R:Type} (x:X5Q) (k:tqh→Option R):Option R:=(X1f x.2.2 (x.1,x.2.1)).bind (Sum.elim (fun y0=>k (.inl (y0.1,y0.2.1,y0.2.2.1,y0.2.2.2.1,y0.2.2.2.2,x.2.2))) (Sum.elim (fun y1=>k (.inr (.inl (y1.1,y1.2.1,y1.2.2.1,y1.2.2.2.1,y1.2.2.2.2,x.2.2)))) (fun y2=>k (.inr (.inr (y2,x.2.2))))))
def q3j (x:X5Q) (v:(Int×(List ByteArray))):X5Q:=(v.1,v.2,x.2.2)
theorem q3k (x:X5Q):LE.step X q3g q2S q0 q39 12 x=Wr x.2.2 x.1 x.2.1 (fun w0 w1=>(Sum.inl (w0,w1,x.2.2))) (fun p0 p1 p2 p3 p4=>(Sum.inr (.inl (p0,p1,p2,p3,p4,x.2.2)))) (fun p0 p1 p2 p3 p4=>(Sum.inr (.inr (.inl (p0,p1,p2,p3,p4,x.2.2))))) (fun p0=>(Sum.inr (.inr (.inr (p0,x.2.2))))):=by kernel_rfl
theorem q3m {R:Type} (x:X5Q) (k:tqh→Option R) (r:R) (h:q3i x k=some r):∃o,Z5L (LE.step X q3g q2S q0 q39 12) x o∧k o=some r:=by
 obtain⟨o,h1,h2⟩:=Z0 h;exact⟨q3h x o,Zjo (st:=fun(x:X5Q)=>Wj x.2.2) (prj:=fun x=>(x.1,x.2.1)) (emb:=q3j) (embO:=q3h) (fun x=>(q3k x).trans (by unfold Wj Wr;simp only[Zji,Zj8,Zjj,Option.map_some,Option.map_none];rfl)) (fun _ _=>rfl) (fun _ _=>rfl) (fun _ _ _=>rfl) (fun _ _ _=>rfl) (fun _=>rfl) (Z28.1 h1),by first|exact h2|(rcases o with o|o|o<;>exact h2)⟩
def q3n {R:Type}:Z36 S R:=LE.ls X q3g q3i q39
theorem q3o {R:Type}:Z58 X (q3n (R:=R)):=Zjt xok q2T (e:=q3g) q1 q3a q3m q3a
theorem q3p (x0:Zp):Zju X q2S [(.st 8)] [(.int .i64),(.int .i64),(.int .i64)] q0 q3n 12 56 (x0,())=X2l x0:=by kernel_rfl
def q3q:F7 S:=⟨[(.st 8)],[(.int .i64),(.int .i64),(.int .i64)],fun xs=>X2l xs.1⟩
theorem q3r:Zfl X 56 q3q:=Zjs (Zjr xok q2T q1 q3o 12 56) fun xs _ h=>(q3p xs.1).trans h
theorem q3w (x0:ZF):Zju X q1G [(.st 6)] [(.int .i64)] q0 q4 12 88 (x0,())=X2I x0:=by kernel_rfl
def q3x:F7 S:=⟨[(.st 6)],[(.int .i64)],fun xs=>X2I xs.1⟩
theorem q3y:Zfl X 88 q3x:=Zjs (Zjr xok q1H q1 q5 12 88) fun xs _ h=>(q3w xs.1).trans h
theorem q3D (x0:ZO) (x1:Int) (x2:Int):Zju X q1G [(.st 5),(.int .i64),(.int .i64)] [(.int .i64)] q0 q4 12 59 (x0,x1,x2,())=X3d x0 x1 x2:=by kernel_rfl
def q3E:F7 S:=⟨[(.st 5),(.int .i64),(.int .i64)],[(.int .i64)],fun xs=>X3d xs.1 xs.2.1 xs.2.2.1⟩
theorem q3F:Zfl X 59 q3E:=Zjs (Zjr xok q1H q1 q5 12 59) fun xs _ h=>(q3D xs.1 xs.2.1 xs.2.2.1).trans h
theorem q3K (x0:Int) (x1:Int) (x2:Int):Zju X q2 [(.int .i64),(.int .i64),(.int .i64)] [.bool] q0 q4 12 89 (x0,x1,x2,())=X2o x0 x1 x2:=by kernel_rfl
def q3L:F7 S:=⟨[(.int .i64),(.int .i64),(.int .i64)],[.bool],fun xs=>X2o xs.1 xs.2.1 xs.2.2.1⟩
theorem q3M:Zfl X 89 q3L:=Zjs (Zjr xok q3 q1 q5 12 89) fun xs _ h=>(q3K xs.1 xs.2.1 xs.2.2.1).trans h
def q3N:List (Nat×F7 S):=[(56,q3q),(88,q3x),(59,q3E),(89,q3L)]
theorem q3O:ZbA X (q3N):=⟨q3r,q3y,q3F,q3M,trivial⟩
theorem q3R (x0:SgMooring):Zju X q3N [(.st 9)] [(.int .i64),(.int .i64)] q0 q4 12 23 (x0,())=X2n x0:=by kernel_rfl
def q3S:F7 S:=⟨[(.st 9)],[(.int .i64),(.int .i64)],fun xs=>X2n xs.1⟩
theorem q3T:Zfl X 23 q3S:=Zjs (Zjr xok q3O q1 q5 12 23) fun xs _ h=>(q3R xs.1).trans h
def q3U:List (Nat×F7 S):=[(88,q3x),(89,q3L)]
theorem q3V:ZbA X (q3U):=⟨q3y,q3M,trivial⟩
theorem q3Y (x0:ZD) (x1:Int):Zju X q3U [(.st 10),(.int .i64)] [(.int .i64)] q0 q4 12 24 (x0,x1,())=X30 x0 x1:=by kernel_rfl
def q3Z:F7 S:=⟨[(.st 10),(.int .i64)],[(.int .i64)],fun xs=>X30 xs.1 xs.2.1⟩
theorem q40:Zfl X 24 q3Z:=Zjs (Zjr xok q3V q1 q5 12 24) fun xs _ h=>(q3Y xs.1 xs.2.1).trans h
def q41:List (Nat×F7 S):=[(23,q3S),(24,q3Z)]
theorem q42:ZbA X (q41):=⟨q3T,q40,trivial⟩
def q45:Key:=⟨[5],5,none,[0,0,1,0,1,1,1,1,1],0,21⟩
def q46:StT S:=⟨(N (N L vI (N (N L vL L) none L)) none v1x),(N L om L),21⟩
def q47:Way S:=⟨.ret,⟨v1s,(N L om L),38⟩,[.int,.int,(.st 9)]⟩
def q48:Way S:=⟨(.exit 0),⟨L,(N L om L),25⟩,[(.st 9)]⟩
def q49:LE S:=⟨q45,q46,[(.lst (.st 10)),.int,.int,(.st 9)],[q47,q48]⟩
def q4a (x:X5M):((Int×Int)⊕Unit)→((Int×Int×SgMooring)⊕SgMooring):=Sum.elim (fun y0=>(.inl (y0.1,y0.2,x.2.2.2))) (fun y1=>(.inr x.2.2.2))
def q4b {R:Type} (x:X5M) (k:((Int×Int×SgMooring)⊕SgMooring)→Option R):Option R:=(X19 x.1 x.2.2.2 (x.2.1,x.2.2.1)).bind (Sum.elim (fun y0=>k (.inl (y0.1,y0.2,x.2.2.2))) (fun y1=>k (.inr x.2.2.2)))
def q4c (x:X5M) (v:(Int×Int)):X5M:=(x.1,v.1,v.2,x.2.2.2)
theorem q4d (x:X5M):LE.step X q49 q41 q0 q4 12 x=Xy x.1 x.2.2.2 x.2.1 x.2.2.1 (fun w0 w1=>(Sum.inl (x.1,w0,w1,x.2.2.2))) (fun p0 p1=>(Sum.inr (.inl (p0,p1,x.2.2.2)))) (Sum.inr (.inr x.2.2.2)):=by kernel_rfl
theorem q4f {R:Type} (x:X5M) (k:((Int×Int×SgMooring)⊕SgMooring)→Option R) (r:R) (h:q4b x k=some r):∃o,Z5L (LE.step X q49 q41 q0 q4 12) x o∧k o=some r:=by
 obtain⟨o,h1,h2⟩:=Z0 h;exact⟨q4a x o,Zjo (st:=fun(x:X5M)=>Xo x.1 x.2.2.2) (prj:=fun x=>(x.2.1,x.2.2.1)) (emb:=q4c) (embO:=q4a) (fun x=>(q4d x).trans (by unfold Xo Xy;simp only[Zji,Zj8,Zjj,Option.map_some,Option.map_none];rfl)) (fun _ _=>rfl) (fun _ _=>rfl) (fun _ _ _=>rfl) (fun _ _ _=>rfl) (fun _=>rfl) (Z28.1 h1),by first|exact h2|(rcases o with o|o<;>exact h2)⟩
def q4g {R:Type}:Z36 S R:=LE.ls X q49 q4b q4
theorem q4h {R:Type}:Z58 X (q4g (R:=R)):=Zjt xok q42 (e:=q49) q1 q5 q4f q5
theorem q4i (x0:SgMooring) (x1:List ZD):Zju X q41 [(.st 9),(.sl (.st 10))] [(.int .i64),(.int .i64)] q0 q4g 12 5 (x0,x1,())=Wz x0 x1:=by kernel_rfl
def q4j:F7 S:=⟨[(.st 9),(.sl (.st 10))],[(.int .i64),(.int .i64)],fun xs=>Wz xs.1 xs.2.1⟩
theorem q4k:Zfl X 5 q4j:=Zjs (Zjr xok q42 q1 q4h 12 5) fun xs _ h=>(q4i xs.1 xs.2.1).trans h
def q4p:Key:=⟨[158,2,1,108,2,1,54],158,none,[0,0,1,0,1],0,17⟩
def q4q:StT S:=⟨(N (N (N (N L vL L) none L) (some (.fn (.func 109) [] [(.ptr 0 0),(.ptr 1 0)])) L) (some (.sl (.int .i64) [])) v1x),(N (N L ox L) ox L),17⟩
def q4r:Way S:=⟨.ret,⟨v1w,(N (N L ox L) ox L),38⟩,[.int,.int,.int]⟩
def q4s:Way S:=⟨(.exit 0),⟨L,(N (N L ox L) ox L),18⟩,[.int,.int]⟩
def q4t:LE S:=⟨q4p,q4q,[.int,(.lst (.int .i64)),.int,.int,.int],[q4r,q4s]⟩
def q4u (x:X4g):(Int⊕Unit)→X6c:=Sum.elim (fun y0=>(.inl (y0,x.2.2.2.1,x.2.2.2.2))) (fun y1=>(.inr (x.2.2.2.1,x.2.2.2.2)))
def q4v {R:Type} (x:X4g) (k:X6c→Option R):Option R:=(X3m x.1 x.2.1 x.2.2.2.1 x.2.2.2.2 x.2.2.1).bind (Sum.elim (fun y0=>k (.inl (y0,x.2.2.2.1,x.2.2.2.2))) (fun y1=>k (.inr (x.2.2.2.1,x.2.2.2.2))))
def q4w (x:X4g) (v:Int):X4g:=(x.1,x.2.1,v,x.2.2.2.1,x.2.2.2.2)
theorem q4x (x:X4g):LE.step X q4t q2 q0 q4 12 x=WT x.1 x.2.1 x.2.2.2.1 x.2.2.2.2 x.2.2.1 (fun w0=>(Sum.inl (x.1,x.2.1,w0,x.2.2.2.1,x.2.2.2.2))) (fun p0=>(Sum.inr (.inl (p0,x.2.2.2.1,x.2.2.2.2)))) (Sum.inr (.inr (x.2.2.2.1,x.2.2.2.2))):=by kernel_rfl
theorem q4z {R:Type} (x:X4g) (k:X6c→Option R) (r:R) (h:q4v x k=some r):∃o,Z5L (LE.step X q4t q2 q0 q4 12) x o∧k o=some r:=by
 obtain⟨o,h1,h2⟩:=Z0 h;exact⟨q4u x o,Zjo (st:=fun(x:X4g)=>WR x.1 x.2.1 x.2.2.2.1 x.2.2.2.2) (prj:=fun x=>x.2.2.1) (emb:=q4w) (embO:=q4u) (fun x=>(q4x x).trans (by unfold WR WT;simp only[Zji,Zj8,Zjj,Option.map_some,Option.map_none];rfl)) (fun _ _=>rfl) (fun _ _=>rfl) (fun _ _ _=>rfl) (fun _ _ _=>rfl) (fun _=>rfl) (Z28.1 h1),by first|exact h2|(rcases o with o|o<;>exact h2)⟩
def q4A {R:Type}:Z36 S R:=LE.ls X q4t q4v q4
theorem q4B {R:Type}:Z58 X (q4A (R:=R)):=Zjt xok q3 (e:=q4t) q1 q5 q4z q5
theorem q4C (x0:Int) (x1:Int) (x2:List Int):Zju X q2 [(.int .i64),(.int .i64),(.sl (.int .i64))] [.bool] q0 q4A 12 54 (x0,x1,x2,())=WQ x0 x1 x2:=by kernel_rfl
def q4D:F7 S:=⟨[(.int .i64),(.int .i64),(.sl (.int .i64))],[.bool],fun xs=>WQ xs.1 xs.2.1 xs.2.2.1⟩
theorem q4E:Zfl X 54 q4D:=Zjs (Zjr xok q3 q1 q4B 12 54) fun xs _ h=>(q4C xs.1 xs.2.1 xs.2.2.1).trans h
theorem q4J:Zju X q2 [] [(.arr 8 (.st 2))] q0 q4 12 90 (())=X3Z:=by kernel_rfl
def q4K:F7 S:=⟨[],[(.arr 8 (.st 2))],fun xs=>X3Z⟩
theorem q4L:Zfl X 90 q4K:=Zjs (Zjr xok q3 q1 q5 12 90) fun xs _ h=>(q4J).trans h
def q4M:List (Nat×F7 S):=[(54,q4D),(90,q4K)]
theorem q4N:ZbA X (q4M):=⟨q4E,q4L,trivial⟩
def q4Q:Key:=⟨[25],25,none,[0,0,1,0,1,1,1],0,14⟩
def q4R:StT S:=⟨(N v1v none (N (N L (some (.ptr 9 0)) L) (some (.ptr 0 0)) (N L none (N L vL L)))),(N (N (N L ov L) none (N (N L on L) none L)) on L),14⟩
def q4S:Way S:=⟨(.exit 0),⟨(N L none (N (N L (some (.ptr 9 0)) L) (some (.ptr 0 0)) L)),(N (N (N L ov L) none (N (N L on L) none L)) on L),15⟩,[(.lst (.int .i64)),(.st 2),(.st 2)]⟩
def q4T:LE S:=⟨q4Q,q4R,[.int,.int,(.lst (.int .i64)),(.st 2),(.st 2)],[q4S]⟩
def q4U (x:X5L):Point→((List Int)×Point×Point):=fun y0=>(x.2.2.1,y0,x.2.2.2.2)
def q4V {R:Type} (x:X5L) (k:((List Int)×Point×Point)→Option R):Option R:=(X2u x.2.1 x.2.2.1 x.2.2.2.2 (x.1,x.2.2.2.1)).bind (fun y0=>k (x.2.2.1,y0,x.2.2.2.2))
def q4W (x:X5L) (v:(Int×Point)):X5L:=(v.1,x.2.1,x.2.2.1,v.2,x.2.2.2.2)
theorem q4X (x:X5L):LE.step X q4T q4M q0 q4 12 x=W2 x.2.1 x.2.2.1 x.2.2.2.2 x.1 x.2.2.2.1 (fun w0 w1=>(Sum.inl (w0,x.2.1,x.2.2.1,w1,x.2.2.2.2))) (fun p0=>(Sum.inr (x.2.2.1,p0,x.2.2.2.2))):=by kernel_rfl
theorem q4Z {R:Type} (x:X5L) (k:((List Int)×Point×Point)→Option R) (r:R) (h:q4V x k=some r):∃o,Z5L (LE.step X q4T q4M q0 q4 12) x o∧k o=some r:=by
 obtain⟨o,h1,h2⟩:=Z0 h;exact⟨q4U x o,Zjo (st:=fun(x:X5L)=>XQ x.2.1 x.2.2.1 x.2.2.2.2) (prj:=fun x=>(x.1,x.2.2.2.1)) (emb:=q4W) (embO:=q4U) (fun x=>(q4X x).trans (by unfold XQ W2;simp only[Zji,Zj8,Zjj,Option.map_some,Option.map_none];rfl)) (fun _ _=>rfl) (fun _ _=>rfl) (fun _ _ _=>rfl) (fun _ _ _=>rfl) (fun _=>rfl) (Z28.1 h1),by first|exact h2|(rcases o with o<;>exact h2)⟩
def q50 {R:Type}:Z36 S R:=LE.ls X q4T q4V q4
theorem q51 {R:Type}:Z58 X (q50 (R:=R)):=Zjt xok q4N (e:=q4T) q1 q5 q4Z q5
theorem q52 (x0:Int):Zju X q4M [(.int .i64)] [(.st 2),(.int .i64)] q0 q50 12 25 (x0,())=X1A x0:=by kernel_rfl
def q53:F7 S:=⟨[(.int .i64)],[(.st 2),(.int .i64)],fun xs=>X1A xs.1⟩
theorem q54:Zfl X 25 q53:=Zjs (Zjr xok q4N q1 q51 12 25) fun xs _ h=>(q52 xs.1).trans h
def q59:Key:=⟨[34],34,none,[0,0,1,0,1,1],0,4⟩
def q5a:StT S:=⟨(N (N (N (N L (some (.iter 3)) L) (some (.int .i32 0)) L) none L) vE L),o1z,4⟩
def q5b:Way S:=⟨.ret,⟨(N L none (N L vM L)),o1z,23⟩,[.bool,.str,.nat]⟩
def q5c:Way S:=⟨(.exit 0),⟨(N (N (N L (some (.int .i32 0)) L) none L) vE L),o1z,6⟩,[.int,.str,.str,.nat]⟩
def q5d:LE S:=⟨q59,q5a,[.int,.str,.str,.nat],[q5b,q5c]⟩
def q5e (x:X5x):((Bool×Nat)⊕(Int×Nat))→tqP:=Sum.elim (fun y0=>(.inl (y0.1,x.2.2.1,y0.2))) (fun y1=>(.inr (y1.1,x.2.1,x.2.2.1,y1.2)))
def q5f {R:Type} (x:X5x) (k:tqP→Option R):Option R:=(X35 x.2.1 x.2.2.1 (x.1,x.2.2.2)).bind (Sum.elim (fun y0=>k (.inl (y0.1,x.2.2.1,y0.2))) (fun y1=>k (.inr (y1.1,x.2.1,x.2.2.1,y1.2))))
def q5g (x:X5x) (v:(Int×Nat)):X5x:=(v.1,x.2.1,x.2.2.1,v.2)
theorem q5h (x:X5x):LE.step X q5d q2 q0 q4 12 x=WD x.2.1 x.2.2.1 x.1 x.2.2.2 (fun w0 w1=>(Sum.inl (w0,x.2.1,x.2.2.1,w1))) (fun p0 p1=>(Sum.inr (.inl (p0,x.2.2.1,p1)))) (fun p0 p1=>(Sum.inr (.inr (p0,x.2.1,x.2.2.1,p1)))):=by kernel_rfl
theorem q5j {R:Type} (x:X5x) (k:tqP→Option R) (r:R) (h:q5f x k=some r):∃o,Z5L (LE.step X q5d q2 q0 q4 12) x o∧k o=some r:=by
 obtain⟨o,h1,h2⟩:=Z0 h;exact⟨q5e x o,Zjo (st:=fun(x:X5x)=>Wx x.2.1 x.2.2.1) (prj:=fun x=>(x.1,x.2.2.2)) (emb:=q5g) (embO:=q5e) (fun x=>(q5h x).trans (by unfold Wx WD;simp only[Zji,Zj8,Zjj,Option.map_some,Option.map_none];rfl)) (fun _ _=>rfl) (fun _ _=>rfl) (fun _ _ _=>rfl) (fun _ _ _=>rfl) (fun _=>rfl) (Z28.1 h1),by first|exact h2|(rcases o with o|o<;>exact h2)⟩
def q5k {R:Type}:Z36 S R:=LE.ls X q5d q5f q4
theorem q5l {R:Type}:Z58 X (q5k (R:=R)):=Zjt xok q3 (e:=q5d) q1 q5 q5j q5
theorem q5m (x0:ByteArray):Zju X q2 [.str] [.bool] q0 q5k 12 34 (x0,())=X2N x0:=by kernel_rfl
def q5n:F7 S:=⟨[.str],[.bool],fun xs=>X2N xs.1⟩
theorem q5o:Zfl X 34 q5n:=Zjs (Zjr xok q3 q1 q5l 12 34) fun xs _ h=>(q5m xs.1).trans h
def q5p:List (Nat×F7 S):=[(54,q4D)]
theorem q5q:ZbA X (q5p):=⟨q4E,trivial⟩
def q5t:Key:=⟨[175,2,1,132,2,1,83],175,none,[0,0,1,0,1],0,16⟩
def q5u:StT S:=⟨(N (N (N (N L vL L) none L) (some (.fn (.func 133) [] [(.ptr 0 0)])) L) vJ v1x),(N L ox L),16⟩
def q5v:Way S:=⟨.ret,⟨v1w,(N (N L none (N (N L none (N L on L)) none L)) ox (N L none (N o1A none L))),39⟩,[.int,(.st 2),.int,(.lst (.int .i64))]⟩
def q5w:Way S:=⟨(.exit 0),⟨L,(N L ox L),17⟩,[.int]⟩
def q5x:LE S:=⟨q5t,q5u,[.int,(.lst (.st 2)),.int,.int],[q5v,q5w]⟩
def q5y (x:X5S):((Int×Point×(List Int))⊕Unit)→((Int×Point×Int×(List Int))⊕Int):=Sum.elim (fun y0=>(.inl (y0.1,y0.2.1,x.2.2.2,y0.2.2))) (fun y1=>(.inr x.2.2.2))
def q5z {R:Type} (x:X5S) (k:((Int×Point×Int×(List Int))⊕Int)→Option R):Option R:=(X3l x.1 x.2.1 x.2.2.2 x.2.2.1).bind (Sum.elim (fun y0=>k (.inl (y0.1,y0.2.1,x.2.2.2,y0.2.2))) (fun y1=>k (.inr x.2.2.2)))
def q5A (x:X5S) (v:Int):X5S:=(x.1,x.2.1,v,x.2.2.2)
theorem q5B (x:X5S):LE.step X q5x q5p q0 q4 12 x=WS x.1 x.2.1 x.2.2.2 x.2.2.1 (fun w0=>(Sum.inl (x.1,x.2.1,w0,x.2.2.2))) (fun p0 p1 p2=>(Sum.inr (.inl (p0,p1,x.2.2.2,p2)))) (Sum.inr (.inr x.2.2.2)):=by kernel_rfl
theorem q5D {R:Type} (x:X5S) (k:((Int×Point×Int×(List Int))⊕Int)→Option R) (r:R) (h:q5z x k=some r):∃o,Z5L (LE.step X q5x q5p q0 q4 12) x o∧k o=some r:=by
 obtain⟨o,h1,h2⟩:=Z0 h;exact⟨q5y x o,Zjo (st:=fun(x:X5S)=>WP x.1 x.2.1 x.2.2.2) (prj:=fun x=>x.2.2.1) (emb:=q5A) (embO:=q5y) (fun x=>(q5B x).trans (by unfold WP WS;simp only[Zji,Zj8,Zjj,Option.map_some,Option.map_none];rfl)) (fun _ _=>rfl) (fun _ _=>rfl) (fun _ _ _=>rfl) (fun _ _ _=>rfl) (fun _=>rfl) (Z28.1 h1),by first|exact h2|(rcases o with o|o<;>exact h2)⟩
def q5E {R:Type}:Z36 S R:=LE.ls X q5x q5z q4
theorem q5F {R:Type}:Z58 X (q5E (R:=R)):=Zjt xok q5q (e:=q5x) q1 q5 q5D q5
theorem q5G (x0:Int) (x1:List Point):Zju X q5p [(.int .i64),(.sl (.st 2))] [.bool] q0 q5E 12 83 (x0,x1,())=X2F x0 x1:=by kernel_rfl
def q5H:F7 S:=⟨[(.int .i64),(.sl (.st 2))],[.bool],fun xs=>X2F xs.1 xs.2.1⟩
theorem q5I:Zfl X 83 q5H:=Zjs (Zjr xok q5q q1 q5F 12 83) fun xs _ h=>(q5G xs.1 xs.2.1).trans h
def q5N:Key:=⟨[138],138,none,[0,0,1,0,1,1,1],0,9⟩
def q5O:StT S:=⟨(N (N (N L vL (N L vL L)) none L) none (N (N L none (N L vL L)) none (N (N L (some (.sl (.st 3) [])) L) none L))),o1A,9⟩
def q5P:Way S:=⟨.ret,⟨(N L none (N L vL L)),(N (N (N L ov L) none L) none (N (N (N (N L ov L) none L) none (N L oi L)) none L)),26⟩,[.int,(.lst (.int .i64)),(.lst (.int .i64)),(.st 3)]⟩
def q5Q:Way S:=⟨.ret,⟨(N L none (N L vL L)),o17,26⟩,[.int,(.lst (.int .i64)),(.lst (.int .i64)),(.lst (.int .i64)),(.st 3)]⟩
def q5R:Way S:=⟨.ret,⟨(N L none (N L vL L)),o17,31⟩,[.int,(.lst (.int .i64)),(.lst (.int .i64)),(.lst (.int .i64)),(.st 3)]⟩
def q5S:Way S:=⟨(.exit 0),⟨L,o1A,10⟩,[(.lst (.int .i64))]⟩
def q5T:LE S:=⟨q5N,q5O,[.int,.int,.int,(.lst (.st 3)),(.lst (.int .i64))],[q5P,q5Q,q5R,q5S]⟩
def q5U (x:tqY):((Int×(List Int)×Zs)⊕(Int×(List Int)×(List Int)×Zs)⊕(Int×(List Int)×(List Int)×Zs)⊕Unit)→tqg:=Sum.elim (fun y0=>(.inl (y0.1,x.2.2.2.2,y0.2.1,y0.2.2))) (Sum.elim (fun y1=>(.inr (.inl (y1.1,x.2.2.2.2,y1.2.1,y1.2.2.1,y1.2.2.2)))) (Sum.elim (fun y2=>(.inr (.inr (.inl (y2.1,x.2.2.2.2,y2.2.1,y2.2.2.1,y2.2.2.2))))) (fun y3=>(.inr (.inr (.inr x.2.2.2.2))))))
def q5V {R:Type} (x:tqY) (k:tqg→Option R):Option R:=(X2v x.2.1 x.2.2.2.1 x.2.2.2.2 (x.1,x.2.2.1)).bind (Sum.elim (fun y0=>k (.inl (y0.1,x.2.2.2.2,y0.2.1,y0.2.2))) (Sum.elim (fun y1=>k (.inr (.inl (y1.1,x.2.2.2.2,y1.2.1,y1.2.2.1,y1.2.2.2)))) (Sum.elim (fun y2=>k (.inr (.inr (.inl (y2.1,x.2.2.2.2,y2.2.1,y2.2.2.1,y2.2.2.2))))) (fun y3=>k (.inr (.inr (.inr x.2.2.2.2)))))))
def q5W (x:tqY) (v:(Int×Int)):tqY:=(v.1,x.2.1,v.2,x.2.2.2.1,x.2.2.2.2)
theorem q5X (x:tqY):LE.step X q5T q5p q0 q4 12 x=W6 x.2.1 x.2.2.2.1 x.2.2.2.2 x.1 x.2.2.1 (fun w0 w1=>(Sum.inl (w0,x.2.1,w1,x.2.2.2.1,x.2.2.2.2))) (fun p0 p1 p2=>(Sum.inr (.inl (p0,x.2.2.2.2,p1,p2)))) (fun p0 p1 p2 p3=>(Sum.inr (.inr (.inl (p0,x.2.2.2.2,p1,p2,p3))))) (fun p0 p1 p2 p3=>(Sum.inr (.inr (.inr (.inl (p0,x.2.2.2.2,p1,p2,p3)))))) (Sum.inr (.inr (.inr (.inr x.2.2.2.2)))):=by kernel_rfl
theorem q5Z {R:Type} (x:tqY) (k:tqg→Option R) (r:R) (h:q5V x k=some r):∃o,Z5L (LE.step X q5T q5p q0 q4 12) x o∧k o=some r:=by
 obtain⟨o,h1,h2⟩:=Z0 h;exact⟨q5U x o,Zjo (st:=fun(x:tqY)=>XT x.2.1 x.2.2.2.1 x.2.2.2.2) (prj:=fun x=>(x.1,x.2.2.1)) (emb:=q5W) (embO:=q5U) (fun x=>(q5X x).trans (by unfold XT W6;simp only[Zji,Zj8,Zjj,Option.map_some,Option.map_none];rfl)) (fun _ _=>rfl) (fun _ _=>rfl) (fun _ _ _=>rfl) (fun _ _ _=>rfl) (fun _=>rfl) (Z28.1 h1),by first|exact h2|(rcases o with o|o|o|o<;>exact h2)⟩
def q60 {R:Type}:Z36 S R:=LE.ls X q5T q5V q4
theorem q61 {R:Type}:Z58 X (q60 (R:=R)):=Zjt xok q5q (e:=q5T) q1 q5 q5Z q5
theorem q62 (x0:List Zs):Zju X q5p [(.sl (.st 3))] [(.int .i64)] q0 q60 12 138 (x0,())=X24 x0:=by kernel_rfl
def q63:F7 S:=⟨[(.sl (.st 3))],[(.int .i64)],fun xs=>X24 xs.1⟩
theorem q64:Zfl X 138 q63:=Zjs (Zjr xok q5q q1 q61 12 138) fun xs _ h=>(q62 xs.1).trans h
theorem q69 (x0:ZF) (x1:Int):Zju X q5p [(.st 6),(.int .i64)] [(.int .i64)] q0 q4 12 87 (x0,x1,())=X3k x0 x1:=by kernel_rfl
def q6a:F7 S:=⟨[(.st 6),(.int .i64)],[(.int .i64)],fun xs=>X3k xs.1 xs.2.1⟩
theorem q6b:Zfl X 87 q6a:=Zjs (Zjr xok q5q q1 q5 12 87) fun xs _ h=>(q69 xs.1 xs.2.1).trans h
theorem q6g (x0:Point) (x1:Point):Zju X q2 [(.st 2),(.st 2)] [(.st 2)] q0 q4 12 85 (x0,x1,())=X4B x0 x1:=by kernel_rfl
def q6h:F7 S:=⟨[(.st 2),(.st 2)],[(.st 2)],fun xs=>X4B xs.1 xs.2.1⟩
theorem q6i:Zfl X 85 q6h:=Zjs (Zjr xok q3 q1 q5 12 85) fun xs _ h=>(q6g xs.1 xs.2.1).trans h
theorem q6n (x0:Point) (x1:Point):Zju X q2 [(.st 2),(.st 2)] [(.int .i64)] q0 q4 12 134 (x0,x1,())=X4C x0 x1:=by kernel_rfl
def q6o:F7 S:=⟨[(.st 2),(.st 2)],[(.int .i64)],fun xs=>X4C xs.1 xs.2.1⟩
theorem q6p:Zfl X 134 q6o:=Zjs (Zjr xok q3 q1 q5 12 134) fun xs _ h=>(q6n xs.1 xs.2.1).trans h
def q6q:List (Nat×F7 S):=[(54,q4D),(83,q5H),(87,q6a),(85,q6h),(134,q6o)]
theorem q6r:ZbA X (q6q):=⟨q4E,q5I,q6b,q6i,q6p,trivial⟩
def q6u:Key:=⟨[27,6,4,173,1,139],139,(some 27),[0,0,1,0,1,0,1,0,1,0,1,1,1],3,66⟩
def q6v:StT S:=⟨(N (N L none (N v1x vL L)) none (N (N (N (N (N L vJ L) none L) none L) (some (.ptr 58 0)) L) (some (.ptr 1 0)) v1v)),oQ,66⟩
def q6w:Way S:=⟨(.exit 3),⟨(N (N L none (N L vL L)) none (N (N L (some (.ptr 58 0)) L) (some (.ptr 1 0)) L)),oQ,67⟩,[.int,(.st 15),.bool,.int,.bool,(.st 15),.bool,.int,(.st 15),(.st 17)]⟩
def q6x:LE S:=⟨q6u,q6v,[.int,.int,(.lst (.st 2)),.int,(.st 15),.bool,.int,.bool,(.st 15),.bool,.int,(.st 15),(.st 17)],[q6w]⟩
def q6y (x:tqv):Int→tqF:=fun y0=>(y0,x.2.2.2.2.1,x.2.2.2.2.2.1,x.2.2.2.2.2.2.1,x.2.2.2.2.2.2.2.1,x.2.2.2.2.2.2.2.2.1,x.2.2.2.2.2.2.2.2.2.1,x.2.2.2.2.2.2.2.2.2.2.1,x.2.2.2.2.2.2.2.2.2.2.2.1,x.2.2.2.2.2.2.2.2.2.2.2.2)
def q6z {R:Type} (x:tqv) (k:tqF→Option R):Option R:=(Wh x.1 x.2.2.1 x.2.2.2.2.1 x.2.2.2.2.2.1 x.2.2.2.2.2.2.1 x.2.2.2.2.2.2.2.1 x.2.2.2.2.2.2.2.2.1 x.2.2.2.2.2.2.2.2.2.1 x.2.2.2.2.2.2.2.2.2.2.1 x.2.2.2.2.2.2.2.2.2.2.2.1 x.2.2.2.2.2.2.2.2.2.2.2.2 (x.2.1,x.2.2.2.1)).bind (fun y0=>k (y0,x.2.2.2.2.1,x.2.2.2.2.2.1,x.2.2.2.2.2.2.1,x.2.2.2.2.2.2.2.1,x.2.2.2.2.2.2.2.2.1,x.2.2.2.2.2.2.2.2.2.1,x.2.2.2.2.2.2.2.2.2.2.1,x.2.2.2.2.2.2.2.2.2.2.2.1,x.2.2.2.2.2.2.2.2.2.2.2.2))
def q6A (x:tqv) (v:(Int×Int)):tqv:=(x.1,v.1,x.2.2.1,v.2,x.2.2.2.2.1,x.2.2.2.2.2.1,x.2.2.2.2.2.2.1,x.2.2.2.2.2.2.2.1,x.2.2.2.2.2.2.2.2.1,x.2.2.2.2.2.2.2.2.2.1,x.2.2.2.2.2.2.2.2.2.2.1,x.2.2.2.2.2.2.2.2.2.2.2.1,x.2.2.2.2.2.2.2.2.2.2.2.2)
theorem q6B (x:tqv):LE.step X q6x q6q q0 q4 12 x=Xw x.1 x.2.2.1 x.2.2.2.2.1 x.2.2.2.2.2.1 x.2.2.2.2.2.2.1 x.2.2.2.2.2.2.2.1 x.2.2.2.2.2.2.2.2.1 x.2.2.2.2.2.2.2.2.2.1 x.2.2.2.2.2.2.2.2.2.2.1 x.2.2.2.2.2.2.2.2.2.2.2.1 x.2.2.2.2.2.2.2.2.2.2.2.2 x.2.1 x.2.2.2.1 (fun w0 w1=>(Sum.inl (x.1,w0,x.2.2.1,w1,x.2.2.2.2.1,x.2.2.2.2.2.1,x.2.2.2.2.2.2.1,x.2.2.2.2.2.2.2.1,x.2.2.2.2.2.2.2.2.1,x.2.2.2.2.2.2.2.2.2.1,x.2.2.2.2.2.2.2.2.2.2.1,x.2.2.2.2.2.2.2.2.2.2.2.1,x.2.2.2.2.2.2.2.2.2.2.2.2))) (fun p0=>(Sum.inr (p0,x.2.2.2.2.1,x.2.2.2.2.2.1,x.2.2.2.2.2.2.1,x.2.2.2.2.2.2.2.1,x.2.2.2.2.2.2.2.2.1,x.2.2.2.2.2.2.2.2.2.1,x.2.2.2.2.2.2.2.2.2.2.1,x.2.2.2.2.2.2.2.2.2.2.2.1,x.2.2.2.2.2.2.2.2.2.2.2.2))):=by kernel_rfl
theorem q6D {R:Type} (x:tqv) (k:tqF→Option R) (r:R) (h:q6z x k=some r):∃o,Z5L (LE.step X q6x q6q q0 q4 12) x o∧k o=some r:=by
 obtain⟨o,h1,h2⟩:=Z0 h;exact⟨q6y x o,Zjo (st:=fun(x:tqv)=>Xn x.1 x.2.2.1 x.2.2.2.2.1 x.2.2.2.2.2.1 x.2.2.2.2.2.2.1 x.2.2.2.2.2.2.2.1 x.2.2.2.2.2.2.2.2.1 x.2.2.2.2.2.2.2.2.2.1 x.2.2.2.2.2.2.2.2.2.2.1 x.2.2.2.2.2.2.2.2.2.2.2.1 x.2.2.2.2.2.2.2.2.2.2.2.2) (prj:=fun x=>(x.2.1,x.2.2.2.1)) (emb:=q6A) (embO:=q6y) (fun x=>(q6B x).trans (by unfold Xn Xw;simp only[Zji,Zj8,Zjj,Option.map_some,Option.map_none];rfl)) (fun _ _=>rfl) (fun _ _=>rfl) (fun _ _ _=>rfl) (fun _ _ _=>rfl) (fun _=>rfl) (Z28.1 h1),by first|exact h2|(rcases o with o<;>exact h2)⟩
def q6E {R:Type}:Z36 S R:=LE.ls X q6x q6z q4
theorem q6F {R:Type}:Z58 X (q6E (R:=R)):=Zjt xok q6r (e:=q6x) q1 q5 q6D q5
def q6G:Key:=⟨[173,1,139],173,none,[0,0,1,1],0,45⟩
def q6H:StT S:=⟨(N (N (N L (some (.ptr 38 0)) (N (N L vL L) none L)) none L) (some (.yld 27)) v1m),oR,45⟩
def q6I:Way S:=⟨.ret,⟨L,(N (N (N (N L none (N L oc L)) none (N L none (N L (some (.loop 139 (N (N (N (N (N L vM L) none L) vL L) (some (.ptr 0 0)) (N (N L none (N L vM L)) none L)) vr (N (N (N L vM L) none (N L none (N L vj L))) (some (.ptr 1 0)) L)) (29::[]) .skip .skip 1 .ret (1::(139::[])) (0::(1::(0::(1::(1::(1::[])))))))) L))) ow L) oc (N (N (N (N L none (N L on L)) none L) none L) none (N (N L none (N L none (N L od L))) ov (N (N (N L on L) none L) none L)))),76⟩,[(.st 15),.bool,.int,.bool,(.st 15),.bool,.int,(.st 15),(.st 2),(.st 17),(.lst (.int .i64)),(.st 2)]⟩
def q6J:Way S:=⟨(.exit 0),⟨L,oR,46⟩,[(.st 15),.bool,.int,.bool,(.st 15),.bool,.int,(.st 15),(.lst (.int .i64)),(.st 2)]⟩
def q6K:LE S:=⟨q6G,q6H,[.int,.int,(.lst (.st 2)),(.st 15),.bool,.int,.bool,(.st 15),.bool,.int,(.st 15),(.lst (.int .i64)),(.st 2)],[q6I,q6J]⟩
def q6L (x:tqu):((Int×Point×Ze×Point)⊕Point)→tqb:=Sum.elim (fun y0=>(.inl (x.2.2.2.1,x.2.2.2.2.1,x.2.2.2.2.2.1,x.2.2.2.2.2.2.1,x.2.2.2.2.2.2.2.1,x.2.2.2.2.2.2.2.2.1,y0.1,x.2.2.2.2.2.2.2.2.2.2.1,y0.2.1,y0.2.2.1,x.2.2.2.2.2.2.2.2.2.2.2.1,y0.2.2.2))) (fun y1=>(.inr (x.2.2.2.1,x.2.2.2.2.1,x.2.2.2.2.2.1,x.2.2.2.2.2.2.1,x.2.2.2.2.2.2.2.1,x.2.2.2.2.2.2.2.2.1,x.2.2.2.2.2.2.2.2.2.1,x.2.2.2.2.2.2.2.2.2.2.1,x.2.2.2.2.2.2.2.2.2.2.2.1,y1)))
def q6M {R:Type} (x:tqu) (k:tqb→Option R):Option R:=(X1Y x.1 x.2.2.1 x.2.2.2.1 x.2.2.2.2.1 x.2.2.2.2.2.1 x.2.2.2.2.2.2.1 x.2.2.2.2.2.2.2.1 x.2.2.2.2.2.2.2.2.1 x.2.2.2.2.2.2.2.2.2.1 x.2.2.2.2.2.2.2.2.2.2.1 x.2.2.2.2.2.2.2.2.2.2.2.1 (x.2.1,x.2.2.2.2.2.2.2.2.2.2.2.2)).bind (Sum.elim (fun y0=>k (.inl (x.2.2.2.1,x.2.2.2.2.1,x.2.2.2.2.2.1,x.2.2.2.2.2.2.1,x.2.2.2.2.2.2.2.1,x.2.2.2.2.2.2.2.2.1,y0.1,x.2.2.2.2.2.2.2.2.2.2.1,y0.2.1,y0.2.2.1,x.2.2.2.2.2.2.2.2.2.2.2.1,y0.2.2.2))) (fun y1=>k (.inr (x.2.2.2.1,x.2.2.2.2.1,x.2.2.2.2.2.1,x.2.2.2.2.2.2.1,x.2.2.2.2.2.2.2.1,x.2.2.2.2.2.2.2.2.1,x.2.2.2.2.2.2.2.2.2.1,x.2.2.2.2.2.2.2.2.2.2.1,x.2.2.2.2.2.2.2.2.2.2.2.1,y1))))
def q6N (x:tqu) (v:(Int×Point)):tqu:=(x.1,v.1,x.2.2.1,x.2.2.2.1,x.2.2.2.2.1,x.2.2.2.2.2.1,x.2.2.2.2.2.2.1,x.2.2.2.2.2.2.2.1,x.2.2.2.2.2.2.2.2.1,x.2.2.2.2.2.2.2.2.2.1,x.2.2.2.2.2.2.2.2.2.2.1,x.2.2.2.2.2.2.2.2.2.2.2.1,v.2)
theorem q6O (x:tqu):LE.step X q6K q6q q0 q6E 12 x=Xv x.1 x.2.2.1 x.2.2.2.1 x.2.2.2.2.1 x.2.2.2.2.2.1 x.2.2.2.2.2.2.1 x.2.2.2.2.2.2.2.1 x.2.2.2.2.2.2.2.2.1 x.2.2.2.2.2.2.2.2.2.1 x.2.2.2.2.2.2.2.2.2.2.1 x.2.2.2.2.2.2.2.2.2.2.2.1 x.2.1 x.2.2.2.2.2.2.2.2.2.2.2.2 (fun w0 w1=>(Sum.inl (x.1,w0,x.2.2.1,x.2.2.2.1,x.2.2.2.2.1,x.2.2.2.2.2.1,x.2.2.2.2.2.2.1,x.2.2.2.2.2.2.2.1,x.2.2.2.2.2.2.2.2.1,x.2.2.2.2.2.2.2.2.2.1,x.2.2.2.2.2.2.2.2.2.2.1,x.2.2.2.2.2.2.2.2.2.2.2.1,w1))) (fun p0 p1 p2 p3=>(Sum.inr (.inl (x.2.2.2.1,x.2.2.2.2.1,x.2.2.2.2.2.1,x.2.2.2.2.2.2.1,x.2.2.2.2.2.2.2.1,x.2.2.2.2.2.2.2.2.1,p0,x.2.2.2.2.2.2.2.2.2.2.1,p1,p2,x.2.2.2.2.2.2.2.2.2.2.2.1,p3)))) (fun p0=>(Sum.inr (.inr (x.2.2.2.1,x.2.2.2.2.1,x.2.2.2.2.2.1,x.2.2.2.2.2.2.1,x.2.2.2.2.2.2.2.1,x.2.2.2.2.2.2.2.2.1,x.2.2.2.2.2.2.2.2.2.1,x.2.2.2.2.2.2.2.2.2.2.1,x.2.2.2.2.2.2.2.2.2.2.2.1,p0)))):=by kernel_rfl
theorem q6Q {R:Type} (x:tqu) (k:tqb→Option R) (r:R) (h:q6M x k=some r):∃o,Z5L (LE.step X q6K q6q q0 q6E 12) x o∧k o=some r:=by
 obtain⟨o,h1,h2⟩:=Z0 h;exact⟨q6L x o,Zjo (st:=fun(x:tqu)=>Xm x.1 x.2.2.1 x.2.2.2.1 x.2.2.2.2.1 x.2.2.2.2.2.1 x.2.2.2.2.2.2.1 x.2.2.2.2.2.2.2.1 x.2.2.2.2.2.2.2.2.1 x.2.2.2.2.2.2.2.2.2.1 x.2.2.2.2.2.2.2.2.2.2.1 x.2.2.2.2.2.2.2.2.2.2.2.1) (prj:=fun x=>(x.2.1,x.2.2.2.2.2.2.2.2.2.2.2.2)) (emb:=q6N) (embO:=q6L) (fun x=>(q6O x).trans (by unfold Xm Xv;simp only[Zji,Zj8,Zjj,Option.map_some,Option.map_none];rfl)) (fun _ _=>rfl) (fun _ _=>rfl) (fun _ _ _=>rfl) (fun _ _ _=>rfl) (fun _=>rfl) (Z28.1 h1),by first|exact h2|(rcases o with o|o<;>exact h2)⟩
def q6R {R:Type}:Z36 S R:=LE.ls X q6K q6M q6E
theorem q6S {R:Type}:Z58 X (q6R (R:=R)):=Zjt xok q6r (e:=q6K) q1 q6F q6Q q6F
theorem q6T (x0:Zf):Zju X q6q [(.st 15)] [(.int .i64)] q0 q6R 12 139 (x0,())=X15 x0:=by kernel_rfl
def q6U:F7 S:=⟨[(.st 15)],[(.int .i64)],fun xs=>X15 xs.1⟩
theorem q6V:Zfl X 139 q6U:=Zjs (Zjr xok q6r q1 q6S 12 139) fun xs _ h=>(q6T xs.1).trans h
def q6W:List (Nat×F7 S):=[(34,q5n),(83,q5H),(138,q63),(139,q6U)]
theorem q6X:ZbA X (q6W):=⟨q5o,q5I,q64,q6V,trivial⟩
def q70:Key:=⟨[92],92,none,[0,0,1,0,1,1,1,1],0,17⟩
def q71:StT S:=⟨(N (N v1w (some (.ptr 0 0)) L) none (N v1w none (N (N (N L (some (.sl (.st 4) [])) L) none L) vo L))),o1u,17⟩
def q72:Way S:=⟨.ret,⟨v1t,o1o,57⟩,[.int,.int,.int,(.st 4),(.st 8),(.mp .str (.int .i64))]⟩
def q73:Way S:=⟨.ret,⟨v1t,o1o,62⟩,[.int,.int,.int,(.st 4),(.st 8),(.mp .str (.int .i64))]⟩
def q74:Way S:=⟨.ret,⟨v1t,o18,63⟩,[.int,.int,.int,(.st 4),(.st 8),(.mp .str (.int .i64)),(.lst (.st 2))]⟩
def q75:Way S:=⟨.ret,⟨v1t,o18,66⟩,[.int,.int,.int,(.st 4),(.st 8),(.mp .str (.int .i64)),(.lst (.st 2))]⟩
def q76:Way S:=⟨(.exit 0),⟨(N (N L (some (.ptr 0 0)) L) none (N L none (N L vo L))),o1u,18⟩,[(.st 8),(.mp .str (.int .i64))]⟩
def q77:LE S:=⟨q70,q71,[.int,.int,(.lst (.st 4)),(.st 8),(.mp .str (.int .i64))],[q72,q73,q74,q75,q76]⟩
def q78 (x:tqQ):((Int×Int×Int×ZC×X3q)⊕(Int×Int×Int×ZC×X3q)⊕(Int×Int×Int×ZC×X3q×(List Point))⊕(Int×Int×Int×ZC×X3q×(List Point))⊕X3q)→tq4:=Sum.elim (fun y0=>(.inl (y0.1,y0.2.1,y0.2.2.1,y0.2.2.2.1,x.2.2.2.1,y0.2.2.2.2))) (Sum.elim (fun y1=>(.inr (.inl (y1.1,y1.2.1,y1.2.2.1,y1.2.2.2.1,x.2.2.2.1,y1.2.2.2.2)))) (Sum.elim (fun y2=>(.inr (.inr (.inl (y2.1,y2.2.1,y2.2.2.1,y2.2.2.2.1,x.2.2.2.1,y2.2.2.2.2.1,y2.2.2.2.2.2))))) (Sum.elim (fun y3=>(.inr (.inr (.inr (.inl (y3.1,y3.2.1,y3.2.2.1,y3.2.2.2.1,x.2.2.2.1,y3.2.2.2.2.1,y3.2.2.2.2.2)))))) (fun y4=>(.inr (.inr (.inr (.inr (x.2.2.2.1,y4)))))))))
def q79 {R:Type} (x:tqQ) (k:tq4→Option R):Option R:=(X2M x.1 x.2.2.1 x.2.2.2.1 (x.2.1,x.2.2.2.2)).bind (Sum.elim (fun y0=>k (.inl (y0.1,y0.2.1,y0.2.2.1,y0.2.2.2.1,x.2.2.2.1,y0.2.2.2.2))) (Sum.elim (fun y1=>k (.inr (.inl (y1.1,y1.2.1,y1.2.2.1,y1.2.2.2.1,x.2.2.2.1,y1.2.2.2.2)))) (Sum.elim (fun y2=>k (.inr (.inr (.inl (y2.1,y2.2.1,y2.2.2.1,y2.2.2.2.1,x.2.2.2.1,y2.2.2.2.2.1,y2.2.2.2.2.2))))) (Sum.elim (fun y3=>k (.inr (.inr (.inr (.inl (y3.1,y3.2.1,y3.2.2.1,y3.2.2.2.1,x.2.2.2.1,y3.2.2.2.2.1,y3.2.2.2.2.2)))))) (fun y4=>k (.inr (.inr (.inr (.inr (x.2.2.2.1,y4))))))))))
def q7a (x:tqQ) (v:(Int×X3q)):tqQ:=(x.1,v.1,x.2.2.1,x.2.2.2.1,v.2)
theorem q7b (x:tqQ):LE.step X q77 q6W q0 q4 12 x=Wn x.1 x.2.2.1 x.2.2.2.1 x.2.1 x.2.2.2.2 (fun w0 w1=>(Sum.inl (x.1,w0,x.2.2.1,x.2.2.2.1,w1))) (fun p0 p1 p2 p3 p4=>(Sum.inr (.inl (p0,p1,p2,p3,x.2.2.2.1,p4)))) (fun p0 p1 p2 p3 p4=>(Sum.inr (.inr (.inl (p0,p1,p2,p3,x.2.2.2.1,p4))))) (fun p0 p1 p2 p3 p4 p5=>(Sum.inr (.inr (.inr (.inl (p0,p1,p2,p3,x.2.2.2.1,p4,p5)))))) (fun p0 p1 p2 p3 p4 p5=>(Sum.inr (.inr (.inr (.inr (.inl (p0,p1,p2,p3,x.2.2.2.1,p4,p5))))))) (fun p0=>(Sum.inr (.inr (.inr (.inr (.inr (x.2.2.2.1,p0))))))):=by kernel_rfl
theorem q7d {R:Type} (x:tqQ) (k:tq4→Option R) (r:R) (h:q79 x k=some r):∃o,Z5L (LE.step X q77 q6W q0 q4 12) x o∧k o=some r:=by
 obtain⟨o,h1,h2⟩:=Z0 h;exact⟨q78 x o,Zjo (st:=fun(x:tqQ)=>Wf x.1 x.2.2.1 x.2.2.2.1) (prj:=fun x=>(x.2.1,x.2.2.2.2)) (emb:=q7a) (embO:=q78) (fun x=>(q7b x).trans (by unfold Wf Wn;simp only[Zji,Zj8,Zjj,Option.map_some,Option.map_none];rfl)) (fun _ _=>rfl) (fun _ _=>rfl) (fun _ _ _=>rfl) (fun _ _ _=>rfl) (fun _=>rfl) (Z28.1 h1),by first|exact h2|(rcases o with o|o|o|o|o<;>exact h2)⟩
def q7e {R:Type}:Z36 S R:=LE.ls X q77 q79 q4
theorem q7f {R:Type}:Z58 X (q7e (R:=R)):=Zjt xok q6X (e:=q77) q1 q5 q7d q5
def q7g:Key:=⟨[92],92,none,[0,0,1,0,1,1,1,1,1,1],2,26⟩
def q7h:StT S:=⟨(N (N L none (N L none v1B)) none (N (N L none (N (N L none (N L vK L)) none L)) none (N L vo v1B))),o1u,26⟩
def q7i:Way S:=⟨.ret,⟨v1t,o1f,58⟩,[.int,.int,.int,(.st 8),(.mp .str (.int .i64)),(.st 7)]⟩
def q7j:Way S:=⟨.ret,⟨v1t,o1f,63⟩,[.int,.int,.int,(.st 8),(.mp .str (.int .i64)),(.st 7)]⟩
def q7k:Way S:=⟨.ret,⟨v1t,o1f,67⟩,[.int,.int,.int,(.st 8),(.mp .str (.int .i64)),(.st 7)]⟩
def q7l:Way S:=⟨(.exit 2),⟨L,o1u,27⟩,[(.st 8),(.mp .str (.int .i64))]⟩
def q7m:LE S:=⟨q7g,q7h,[.int,(.lst (.st 7)),.int,(.st 8),(.mp .str (.int .i64))],[q7i,q7j,q7k,q7l]⟩
def q7n (x:tqR):(tqW⊕tqW⊕tqW⊕X3q)→tqa:=Sum.elim (fun y0=>(.inl (y0.1,y0.2.1,y0.2.2.1,x.2.2.2.1,y0.2.2.2.1,y0.2.2.2.2))) (Sum.elim (fun y1=>(.inr (.inl (y1.1,y1.2.1,y1.2.2.1,x.2.2.2.1,y1.2.2.2.1,y1.2.2.2.2)))) (Sum.elim (fun y2=>(.inr (.inr (.inl (y2.1,y2.2.1,y2.2.2.1,x.2.2.2.1,y2.2.2.2.1,y2.2.2.2.2))))) (fun y3=>(.inr (.inr (.inr (x.2.2.2.1,y3)))))))
def q7o {R:Type} (x:tqR) (k:tqa→Option R):Option R:=(X1c x.1 x.2.1 x.2.2.2.1 (x.2.2.1,x.2.2.2.2)).bind (Sum.elim (fun y0=>k (.inl (y0.1,y0.2.1,y0.2.2.1,x.2.2.2.1,y0.2.2.2.1,y0.2.2.2.2))) (Sum.elim (fun y1=>k (.inr (.inl (y1.1,y1.2.1,y1.2.2.1,x.2.2.2.1,y1.2.2.2.1,y1.2.2.2.2)))) (Sum.elim (fun y2=>k (.inr (.inr (.inl (y2.1,y2.2.1,y2.2.2.1,x.2.2.2.1,y2.2.2.2.1,y2.2.2.2.2))))) (fun y3=>k (.inr (.inr (.inr (x.2.2.2.1,y3))))))))
def q7p (x:tqR) (v:(Int×X3q)):tqR:=(x.1,x.2.1,v.1,x.2.2.2.1,v.2)
theorem q7q (x:tqR):LE.step X q7m q6W q0 q7e 12 x=Wo x.1 x.2.1 x.2.2.2.1 x.2.2.1 x.2.2.2.2 (fun w0 w1=>(Sum.inl (x.1,x.2.1,w0,x.2.2.2.1,w1))) (fun p0 p1 p2 p3 p4=>(Sum.inr (.inl (p0,p1,p2,x.2.2.2.1,p3,p4)))) (fun p0 p1 p2 p3 p4=>(Sum.inr (.inr (.inl (p0,p1,p2,x.2.2.2.1,p3,p4))))) (fun p0 p1 p2 p3 p4=>(Sum.inr (.inr (.inr (.inl (p0,p1,p2,x.2.2.2.1,p3,p4)))))) (fun p0=>(Sum.inr (.inr (.inr (.inr (x.2.2.2.1,p0)))))):=by kernel_rfl
theorem q7s {R:Type} (x:tqR) (k:tqa→Option R) (r:R) (h:q7o x k=some r):∃o,Z5L (LE.step X q7m q6W q0 q7e 12) x o∧k o=some r:=by
 obtain⟨o,h1,h2⟩:=Z0 h;exact⟨q7n x o,Zjo (st:=fun(x:tqR)=>Wg x.1 x.2.1 x.2.2.2.1) (prj:=fun x=>(x.2.2.1,x.2.2.2.2)) (emb:=q7p) (embO:=q7n) (fun x=>(q7q x).trans (by unfold Wg Wo;simp only[Zji,Zj8,Zjj,Option.map_some,Option.map_none];rfl)) (fun _ _=>rfl) (fun _ _=>rfl) (fun _ _ _=>rfl) (fun _ _ _=>rfl) (fun _=>rfl) (Z28.1 h1),by first|exact h2|(rcases o with o|o|o|o<;>exact h2)⟩
def q7t {R:Type}:Z36 S R:=LE.ls X q7m q7o q7e
theorem q7u {R:Type}:Z58 X (q7t (R:=R)):=Zjt xok q6X (e:=q7m) q1 q7f q7s q7f
theorem q7v (x0:Zp):Zju X q6W [(.st 8)] [(.int .i64),(.int .i64),(.int .i64)] q0 q7t 12 92 (x0,())=X1W x0:=by kernel_rfl
def q7w:F7 S:=⟨[(.st 8)],[(.int .i64),(.int .i64),(.int .i64)],fun xs=>X1W xs.1⟩
theorem q7x:Zfl X 92 q7w:=Zjs (Zjr xok q6X q1 q7u 12 92) fun xs _ h=>(q7v xs.1).trans h
def q7y:List (Nat×F7 S):=[(92,q7w),(83,q5H)]
theorem q7z:ZbA X (q7y):=⟨q7x,q5I,trivial⟩
theorem q7C (x0:Zp) (x1:Point):Zju X q7y [(.st 8),(.st 2)] [(.int .i64)] q0 q4 12 53 (x0,x1,())=X2e x0 x1:=by kernel_rfl
def q7D:F7 S:=⟨[(.st 8),(.st 2)],[(.int .i64)],fun xs=>X2e xs.1 xs.2.1⟩
theorem q7E:Zfl X 53 q7D:=Zjs (Zjr xok q7z q1 q5 12 53) fun xs _ h=>(q7C xs.1 xs.2.1).trans h
theorem q7J (x0:Int) (x1:Int):Zju X q2 [(.int .i64),(.int .i64)] [(.int .i64)] q0 q4 12 174 (x0,x1,())=X1X x0 x1:=by kernel_rfl
def q7K:F7 S:=⟨[(.int .i64),(.int .i64)],[(.int .i64)],fun xs=>X1X xs.1 xs.2.1⟩
theorem q7L:Zfl X 174 q7K:=Zjs (Zjr xok q3 q1 q5 12 174) fun xs _ h=>(q7J xs.1 xs.2.1).trans h
def q7M:List (Nat×F7 S):=[(174,q7K)]
theorem q7N:ZbA X (q7M):=⟨q7L,trivial⟩
theorem q7Q (x0:Z8) (x1:Int) (x2:Int):Zju X q7M [(.st 16),(.int .i64),(.int .i64)] [(.st 16)] q0 q4 12 131 (x0,x1,x2,())=WE x0 x1 x2:=by kernel_rfl
def q7R:F7 S:=⟨[(.st 16),(.int .i64),(.int .i64)],[(.st 16)],fun xs=>WE xs.1 xs.2.1 xs.2.2.1⟩
theorem q7S:Zfl X 131 q7R:=Zjs (Zjr xok q7N q1 q5 12 131) fun xs _ h=>(q7Q xs.1 xs.2.1 xs.2.2.1).trans h
def q7T:List (Nat×F7 S):=[(85,q6h),(131,q7R)]
theorem q7U:ZbA X (q7T):=⟨q6i,q7S,trivial⟩
def q7X:Key:=⟨[173,0,79],173,none,[0,0,1,1],0,41⟩
def q7Y:StT S:=⟨(N (N (N L (some (.ptr 34 0)) (N (N L vL L) none L)) none L) (some (.yld 23)) v1m),oP,41⟩
def q7Z:Way S:=⟨(.exit 0),⟨L,oP,42⟩,[(.st 16),.int,(.st 15),(.st 2),(.st 16),(.st 15),.int,(.st 15),(.st 2),(.st 2)]⟩
def q80:LE S:=⟨q7X,q7Y,[.int,.int,(.lst (.st 2)),(.st 16),.int,(.st 15),(.st 2),(.st 16),(.st 15),.int,(.st 15),(.st 2),(.st 2)],[q7Z]⟩
def q81 (x:tqp):(Z8×Point)→tqz:=fun y0=>(y0.1,x.2.2.2.2.1,x.2.2.2.2.2.1,x.2.2.2.2.2.2.1,x.2.2.2.2.2.2.2.1,x.2.2.2.2.2.2.2.2.1,x.2.2.2.2.2.2.2.2.2.1,x.2.2.2.2.2.2.2.2.2.2.1,x.2.2.2.2.2.2.2.2.2.2.2.1,y0.2)
def q82 {R:Type} (x:tqp) (k:tqz→Option R):Option R:=(X1e x.1 x.2.2.1 x.2.2.2.2.1 x.2.2.2.2.2.1 x.2.2.2.2.2.2.1 x.2.2.2.2.2.2.2.1 x.2.2.2.2.2.2.2.2.1 x.2.2.2.2.2.2.2.2.2.1 x.2.2.2.2.2.2.2.2.2.2.1 x.2.2.2.2.2.2.2.2.2.2.2.1 (x.2.1,x.2.2.2.1,x.2.2.2.2.2.2.2.2.2.2.2.2)).bind (fun y0=>k (y0.1,x.2.2.2.2.1,x.2.2.2.2.2.1,x.2.2.2.2.2.2.1,x.2.2.2.2.2.2.2.1,x.2.2.2.2.2.2.2.2.1,x.2.2.2.2.2.2.2.2.2.1,x.2.2.2.2.2.2.2.2.2.2.1,x.2.2.2.2.2.2.2.2.2.2.2.1,y0.2))
def q83 (x:tqp) (v:(Int×Z8×Point)):tqp:=(x.1,v.1,x.2.2.1,v.2.1,x.2.2.2.2.1,x.2.2.2.2.2.1,x.2.2.2.2.2.2.1,x.2.2.2.2.2.2.2.1,x.2.2.2.2.2.2.2.2.1,x.2.2.2.2.2.2.2.2.2.1,x.2.2.2.2.2.2.2.2.2.2.1,x.2.2.2.2.2.2.2.2.2.2.2.1,v.2.2)
theorem q84 (x:tqp):LE.step X q80 q7T q0 q4 12 x=XF x.1 x.2.2.1 x.2.2.2.2.1 x.2.2.2.2.2.1 x.2.2.2.2.2.2.1 x.2.2.2.2.2.2.2.1 x.2.2.2.2.2.2.2.2.1 x.2.2.2.2.2.2.2.2.2.1 x.2.2.2.2.2.2.2.2.2.2.1 x.2.2.2.2.2.2.2.2.2.2.2.1 x.2.1 x.2.2.2.1 x.2.2.2.2.2.2.2.2.2.2.2.2 (fun w0 w1 w2=>(Sum.inl (x.1,w0,x.2.2.1,w1,x.2.2.2.2.1,x.2.2.2.2.2.1,x.2.2.2.2.2.2.1,x.2.2.2.2.2.2.2.1,x.2.2.2.2.2.2.2.2.1,x.2.2.2.2.2.2.2.2.2.1,x.2.2.2.2.2.2.2.2.2.2.1,x.2.2.2.2.2.2.2.2.2.2.2.1,w2))) (fun p0 p1=>(Sum.inr (p0,x.2.2.2.2.1,x.2.2.2.2.2.1,x.2.2.2.2.2.2.1,x.2.2.2.2.2.2.2.1,x.2.2.2.2.2.2.2.2.1,x.2.2.2.2.2.2.2.2.2.1,x.2.2.2.2.2.2.2.2.2.2.1,x.2.2.2.2.2.2.2.2.2.2.2.1,p1))):=by kernel_rfl
theorem q86 {R:Type} (x:tqp) (k:tqz→Option R) (r:R) (h:q82 x k=some r):∃o,Z5L (LE.step X q80 q7T q0 q4 12) x o∧k o=some r:=by
 obtain⟨o,h1,h2⟩:=Z0 h;exact⟨q81 x o,Zjo (st:=fun(x:tqp)=>Xt x.1 x.2.2.1 x.2.2.2.2.1 x.2.2.2.2.2.1 x.2.2.2.2.2.2.1 x.2.2.2.2.2.2.2.1 x.2.2.2.2.2.2.2.2.1 x.2.2.2.2.2.2.2.2.2.1 x.2.2.2.2.2.2.2.2.2.2.1 x.2.2.2.2.2.2.2.2.2.2.2.1) (prj:=fun x=>(x.2.1,x.2.2.2.1,x.2.2.2.2.2.2.2.2.2.2.2.2)) (emb:=q83) (embO:=q81) (fun x=>(q84 x).trans (by unfold Xt XF;simp only[Zji,Zj8,Zjj,Option.map_some,Option.map_none];rfl)) (fun _ _=>rfl) (fun _ _=>rfl) (fun _ _ _=>rfl) (fun _ _ _=>rfl) (fun _=>rfl) (Z28.1 h1),by first|exact h2|(rcases o with o<;>exact h2)⟩
def q87 {R:Type}:Z36 S R:=LE.ls X q80 q82 q4
theorem q88 {R:Type}:Z58 X (q87 (R:=R)):=Zjt xok q7U (e:=q80) q1 q5 q86 q5
theorem q89 (x0:Zf) (x1:Int) (x2:Point):Zju X q7T [(.st 15),(.int .i64),(.st 2)] [(.st 16)] q0 q87 12 79 (x0,x1,x2,())=X1m x0 x1 x2:=by kernel_rfl
def q8a:F7 S:=⟨[(.st 15),(.int .i64),(.st 2)],[(.st 16)],fun xs=>X1m xs.1 xs.2.1 xs.2.2.1⟩
theorem q8b:Zfl X 79 q8a:=Zjs (Zjr xok q7U q1 q88 12 79) fun xs _ h=>(q89 xs.1 xs.2.1 xs.2.2.1).trans h
def q8c:List (Nat×F7 S):=[(53,q7D),(79,q8a)]
theorem q8d:ZbA X (q8c):=⟨q7E,q8b,trivial⟩
def q8g:Key:=⟨[17],17,none,[0,0,1,0,1,1,1,0,0,1,1,0,0,1,0,1,1],2,43⟩
def q8h:StT S:=⟨(N (N (N (N L vL (N L vL L)) (some (.ptr 1 0)) (N L vM L)) none (N (N L (some (.ptr 26 0)) (N (N L vL L) none L)) (some (.rs 43 0)) (N (N L vK L) none L))) none (N (N L (some (.rs 44 0)) L) none (N (N L vM (N (N L vL L) none L)) none (N (N L vL L) none L)))),o10,45⟩
def q8i:Way S:=⟨(.exit 2),⟨(N (N (N (N L vL (N L vL L)) (some (.ptr 1 0)) (N L vM L)) none (N L (some (.rs 43 0)) (N (N L vK L) none L))) none (N (N L (some (.rs 44 0)) L) none (N (N L vM L) none (N (N L vL L) none L)))),o10,46⟩,[.int,.int,.bool,(.lst (.st 7)),.bool,.int,(.lst (.int .i64)),(.st 2),(.st 7),(.st 8),(.lst (.int .i64)),(.st 15)]⟩
def q8j:LE S:=⟨q8g,q8h,[.int,.int,.bool,.int,(.lst (.st 7)),.bool,.int,.int,(.lst (.int .i64)),(.st 2),(.st 7),(.st 8),(.lst (.int .i64)),(.st 15)],[q8i]⟩
def q8k (x:tqs):(Bool×Bool)→tqy:=fun y0=>(x.1,x.2.1,y0.1,x.2.2.2.2.1,y0.2,x.2.2.2.2.2.2.2.1,x.2.2.2.2.2.2.2.2.1,x.2.2.2.2.2.2.2.2.2.1,x.2.2.2.2.2.2.2.2.2.2.1,x.2.2.2.2.2.2.2.2.2.2.2.1,x.2.2.2.2.2.2.2.2.2.2.2.2.1,x.2.2.2.2.2.2.2.2.2.2.2.2.2)
def q8l {R:Type} (x:tqs) (k:tqy→Option R):Option R:=(X1Q x.1 x.2.1 x.2.2.2.1 x.2.2.2.2.1 x.2.2.2.2.2.2.2.1 x.2.2.2.2.2.2.2.2.1 x.2.2.2.2.2.2.2.2.2.1 x.2.2.2.2.2.2.2.2.2.2.1 x.2.2.2.2.2.2.2.2.2.2.2.1 x.2.2.2.2.2.2.2.2.2.2.2.2.1 x.2.2.2.2.2.2.2.2.2.2.2.2.2 (x.2.2.1,x.2.2.2.2.2.1,x.2.2.2.2.2.2.1)).bind (fun y0=>k (x.1,x.2.1,y0.1,x.2.2.2.2.1,y0.2,x.2.2.2.2.2.2.2.1,x.2.2.2.2.2.2.2.2.1,x.2.2.2.2.2.2.2.2.2.1,x.2.2.2.2.2.2.2.2.2.2.1,x.2.2.2.2.2.2.2.2.2.2.2.1,x.2.2.2.2.2.2.2.2.2.2.2.2.1,x.2.2.2.2.2.2.2.2.2.2.2.2.2))
def q8m (x:tqs) (v:(Bool×Bool×Int)):tqs:=(x.1,x.2.1,v.1,x.2.2.2.1,x.2.2.2.2.1,v.2.1,v.2.2,x.2.2.2.2.2.2.2.1,x.2.2.2.2.2.2.2.2.1,x.2.2.2.2.2.2.2.2.2.1,x.2.2.2.2.2.2.2.2.2.2.1,x.2.2.2.2.2.2.2.2.2.2.2.1,x.2.2.2.2.2.2.2.2.2.2.2.2.1,x.2.2.2.2.2.2.2.2.2.2.2.2.2)
theorem q8n (x:tqs):LE.step X q8j q8c q0 q4 12 x=X13 x.1 x.2.1 x.2.2.2.1 x.2.2.2.2.1 x.2.2.2.2.2.2.2.1 x.2.2.2.2.2.2.2.2.1 x.2.2.2.2.2.2.2.2.2.1 x.2.2.2.2.2.2.2.2.2.2.1 x.2.2.2.2.2.2.2.2.2.2.2.1 x.2.2.2.2.2.2.2.2.2.2.2.2.1 x.2.2.2.2.2.2.2.2.2.2.2.2.2 x.2.2.1 x.2.2.2.2.2.1 x.2.2.2.2.2.2.1 (fun w0 w1 w2=>(Sum.inl (x.1,x.2.1,w0,x.2.2.2.1,x.2.2.2.2.1,w1,w2,x.2.2.2.2.2.2.2.1,x.2.2.2.2.2.2.2.2.1,x.2.2.2.2.2.2.2.2.2.1,x.2.2.2.2.2.2.2.2.2.2.1,x.2.2.2.2.2.2.2.2.2.2.2.1,x.2.2.2.2.2.2.2.2.2.2.2.2.1,x.2.2.2.2.2.2.2.2.2.2.2.2.2))) (fun p0 p1=>(Sum.inr (x.1,x.2.1,p0,x.2.2.2.2.1,p1,x.2.2.2.2.2.2.2.1,x.2.2.2.2.2.2.2.2.1,x.2.2.2.2.2.2.2.2.2.1,x.2.2.2.2.2.2.2.2.2.2.1,x.2.2.2.2.2.2.2.2.2.2.2.1,x.2.2.2.2.2.2.2.2.2.2.2.2.1,x.2.2.2.2.2.2.2.2.2.2.2.2.2))):=by kernel_rfl
theorem q8p {R:Type} (x:tqs) (k:tqy→Option R) (r:R) (h:q8l x k=some r):∃o,Z5L (LE.step X q8j q8c q0 q4 12) x o∧k o=some r:=by
 obtain⟨o,h1,h2⟩:=Z0 h;exact⟨q8k x o,Zjo (st:=fun(x:tqs)=>X12 x.1 x.2.1 x.2.2.2.1 x.2.2.2.2.1 x.2.2.2.2.2.2.2.1 x.2.2.2.2.2.2.2.2.1 x.2.2.2.2.2.2.2.2.2.1 x.2.2.2.2.2.2.2.2.2.2.1 x.2.2.2.2.2.2.2.2.2.2.2.1 x.2.2.2.2.2.2.2.2.2.2.2.2.1 x.2.2.2.2.2.2.2.2.2.2.2.2.2) (prj:=fun x=>(x.2.2.1,x.2.2.2.2.2.1,x.2.2.2.2.2.2.1)) (emb:=q8m) (embO:=q8k) (fun x=>(q8n x).trans (by unfold X12 X13;simp only[Zji,Zj8,Zjj,Option.map_some,Option.map_none];rfl)) (fun _ _=>rfl) (fun _ _=>rfl) (fun _ _ _=>rfl) (fun _ _ _=>rfl) (fun _=>rfl) (Z28.1 h1),by first|exact h2|(rcases o with o<;>exact h2)⟩
def q8q {R:Type}:Z36 S R:=LE.ls X q8j q8l q4
theorem q8r {R:Type}:Z58 X (q8q (R:=R)):=Zjt xok q8d (e:=q8j) q1 q5 q8p q5
def q8s:Key:=⟨[17],17,none,[0,0,1,0,1,1],0,15⟩
def q8t:StT S:=⟨(N (N (N (N L none (N L vL L)) (some (.ptr 1 0)) L) none (N L (some (.rs 16 0)) (N (N L vK L) none L))) none (N (N L (some (.rs 15 0)) L) none v1w)),o1d,17⟩
def q8u:Way S:=⟨(.exit 0),⟨(N (N L none (N L (some (.rs 16 0)) L)) none (N (N L (some (.rs 15 0)) L) none L)),o1d,18⟩,[(.lst (.int .i64)),(.st 2),(.st 8),(.lst (.int .i64))]⟩
def q8v:LE S:=⟨q8s,q8t,[.int,(.lst (.st 7)),.int,(.lst (.int .i64)),(.st 2),(.st 8),(.lst (.int .i64))],[q8u]⟩
def q8w (x:tqL):((List Int)×(List Int))→tqZ:=fun y0=>(y0.1,x.2.2.2.2.1,x.2.2.2.2.2.1,y0.2)
def q8x {R:Type} (x:tqL) (k:tqZ→Option R):Option R:=(X3t x.2.1 x.2.2.1 x.2.2.2.2.1 x.2.2.2.2.2.1 (x.1,x.2.2.2.1,x.2.2.2.2.2.2)).bind (fun y0=>k (y0.1,x.2.2.2.2.1,x.2.2.2.2.2.1,y0.2))
def q8y (x:tqL) (v:(Int×(List Int)×(List Int))):tqL:=(v.1,x.2.1,x.2.2.1,v.2.1,x.2.2.2.2.1,x.2.2.2.2.2.1,v.2.2)
theorem q8z (x:tqL):LE.step X q8v q8c q0 q8q 12 x=X11 x.2.1 x.2.2.1 x.2.2.2.2.1 x.2.2.2.2.2.1 x.1 x.2.2.2.1 x.2.2.2.2.2.2 (fun w0 w1 w2=>(Sum.inl (w0,x.2.1,x.2.2.1,w1,x.2.2.2.2.1,x.2.2.2.2.2.1,w2))) (fun p0 p1=>(Sum.inr (p0,x.2.2.2.2.1,x.2.2.2.2.2.1,p1))):=by kernel_rfl
theorem q8B {R:Type} (x:tqL) (k:tqZ→Option R) (r:R) (h:q8x x k=some r):∃o,Z5L (LE.step X q8v q8c q0 q8q 12) x o∧k o=some r:=by
 obtain⟨o,h1,h2⟩:=Z0 h;exact⟨q8w x o,Zjo (st:=fun(x:tqL)=>X10 x.2.1 x.2.2.1 x.2.2.2.2.1 x.2.2.2.2.2.1) (prj:=fun x=>(x.1,x.2.2.2.1,x.2.2.2.2.2.2)) (emb:=q8y) (embO:=q8w) (fun x=>(q8z x).trans (by unfold X10 X11;simp only[Zji,Zj8,Zjj,Option.map_some,Option.map_none];rfl)) (fun _ _=>rfl) (fun _ _=>rfl) (fun _ _ _=>rfl) (fun _ _ _=>rfl) (fun _=>rfl) (Z28.1 h1),by first|exact h2|(rcases o with o<;>exact h2)⟩
def q8C {R:Type}:Z36 S R:=LE.ls X q8v q8x q8q
theorem q8D {R:Type}:Z58 X (q8C (R:=R)):=Zjt xok q8d (e:=q8v) q1 q8r q8B q8r
theorem q8E (x0:Zp) (x1:Point):Zju X q8c [(.st 8),(.st 2)] [(.sl (.int .i64)),(.sl (.int .i64)),(.int .i64)] q0 q8C 12 17 (x0,x1,())=X3F x0 x1:=by kernel_rfl
def q8F:F7 S:=⟨[(.st 8),(.st 2)],[(.sl (.int .i64)),(.sl (.int .i64)),(.int .i64)],fun xs=>X3F xs.1 xs.2.1⟩
theorem q8G:Zfl X 17 q8F:=Zjs (Zjr xok q8d q1 q8D 12 17) fun xs _ h=>(q8E xs.1 xs.2.1).trans h
theorem q8L (x0:Point) (x1:Point):Zju X q2 [(.st 2),(.st 2)] [(.int .i64)] q0 q4 12 159 (x0,x1,())=X1k x0 x1:=by kernel_rfl
def q8M:F7 S:=⟨[(.st 2),(.st 2)],[(.int .i64)],fun xs=>X1u xs.1 xs.2.1⟩
theorem q8N:Zfl X 159 q8M:=Zjs (Zjr xok q3 q1 q5 12 159) fun xs _ h=>((q8L xs.1 xs.2.1).trans (X3G xs.1 xs.2.1).symm).trans h
def q8O:List (Nat×F7 S):=[(85,q6h),(134,q6o),(159,q8M)]
theorem q8P:ZbA X (q8O):=⟨q6i,q6p,q8N,trivial⟩
def q8S:Key:=⟨[173,0,110],173,none,[0,0,1,1],0,30⟩
def q8T:StT S:=⟨(N (N (N L (some (.ptr 23 0)) (N (N L vL L) none L)) none L) (some (.yld 12)) v1m),oS,30⟩
def q8U:Way S:=⟨.ret,⟨L,o14,86⟩,[(.st 2),.bool,(.st 17),(.st 2),(.st 2),(.st 2),(.st 15),(.st 15),.bool,(.st 2),(.st 15),.int,.int]⟩
def q8V:Way S:=⟨.ret,⟨L,(N (N (N (N L none (N L on L)) oA (N L none (N (N L od L) none L))) on (N (N (N (N L on L) none (N (N L on L) on L)) none L) none L)) oc (N (N (N L oc L) oA (N L o5 L)) ox L)),96⟩,[(.st 2),.bool,(.st 17),(.st 2),(.st 2),(.st 2),(.st 2),(.st 15),(.st 15),.bool,(.st 2),(.st 15),.int,.int]⟩
def q8W:Way S:=⟨.ret,⟨L,o14,89⟩,[(.st 2),.bool,(.st 17),(.st 2),(.st 2),(.st 2),(.st 15),(.st 15),.bool,(.st 2),(.st 15),.int,.int]⟩
def q8X:Way S:=⟨(.exit 0),⟨L,oS,31⟩,[(.st 2),.bool,(.st 2),(.st 15),(.st 15),.bool,(.st 2),(.st 15),.int,.int]⟩
def q8Y:LE S:=⟨q8S,q8T,[.int,.int,(.lst (.st 2)),(.st 2),.bool,(.st 2),(.st 15),(.st 15),.bool,(.st 2),(.st 15),.int,.int],[q8U,q8V,q8W,q8X]⟩
def q8Z (x:tqw):((Point×Bool×Ze×Point×Point×Bool)⊕(Point×Bool×Ze×Point×Point×Point×Bool)⊕(Point×Bool×Ze×Point×Point×Bool)⊕(Point×Bool))→tq3:=Sum.elim (fun y0=>(.inl (y0.1,y0.2.1,y0.2.2.1,x.2.2.2.2.2.1,y0.2.2.2.1,y0.2.2.2.2.1,x.2.2.2.2.2.2.1,x.2.2.2.2.2.2.2.1,y0.2.2.2.2.2,x.2.2.2.2.2.2.2.2.2.1,x.2.2.2.2.2.2.2.2.2.2.1,x.2.2.2.2.2.2.2.2.2.2.2.1,x.2.2.2.2.2.2.2.2.2.2.2.2))) (Sum.elim (fun y1=>(.inr (.inl (y1.1,y1.2.1,y1.2.2.1,x.2.2.2.2.2.1,y1.2.2.2.1,y1.2.2.2.2.1,y1.2.2.2.2.2.1,x.2.2.2.2.2.2.1,x.2.2.2.2.2.2.2.1,y1.2.2.2.2.2.2,x.2.2.2.2.2.2.2.2.2.1,x.2.2.2.2.2.2.2.2.2.2.1,x.2.2.2.2.2.2.2.2.2.2.2.1,x.2.2.2.2.2.2.2.2.2.2.2.2)))) (Sum.elim (fun y2=>(.inr (.inr (.inl (y2.1,y2.2.1,y2.2.2.1,x.2.2.2.2.2.1,y2.2.2.2.1,y2.2.2.2.2.1,x.2.2.2.2.2.2.1,x.2.2.2.2.2.2.2.1,y2.2.2.2.2.2,x.2.2.2.2.2.2.2.2.2.1,x.2.2.2.2.2.2.2.2.2.2.1,x.2.2.2.2.2.2.2.2.2.2.2.1,x.2.2.2.2.2.2.2.2.2.2.2.2))))) (fun y3=>(.inr (.inr (.inr (y3.1,x.2.2.2.2.1,x.2.2.2.2.2.1,x.2.2.2.2.2.2.1,x.2.2.2.2.2.2.2.1,y3.2,x.2.2.2.2.2.2.2.2.2.1,x.2.2.2.2.2.2.2.2.2.2.1,x.2.2.2.2.2.2.2.2.2.2.2.1,x.2.2.2.2.2.2.2.2.2.2.2.2)))))))
def q90 {R:Type} (x:tqw) (k:tq3→Option R):Option R:=(X1d x.1 x.2.2.1 x.2.2.2.2.2.1 x.2.2.2.2.2.2.2.2.2.2.2.2 (x.2.1,x.2.2.2.1,x.2.2.2.2.2.2.2.2.1)).bind (Sum.elim (fun y0=>k (.inl (y0.1,y0.2.1,y0.2.2.1,x.2.2.2.2.2.1,y0.2.2.2.1,y0.2.2.2.2.1,x.2.2.2.2.2.2.1,x.2.2.2.2.2.2.2.1,y0.2.2.2.2.2,x.2.2.2.2.2.2.2.2.2.1,x.2.2.2.2.2.2.2.2.2.2.1,x.2.2.2.2.2.2.2.2.2.2.2.1,x.2.2.2.2.2.2.2.2.2.2.2.2))) (Sum.elim (fun y1=>k (.inr (.inl (y1.1,y1.2.1,y1.2.2.1,x.2.2.2.2.2.1,y1.2.2.2.1,y1.2.2.2.2.1,y1.2.2.2.2.2.1,x.2.2.2.2.2.2.1,x.2.2.2.2.2.2.2.1,y1.2.2.2.2.2.2,x.2.2.2.2.2.2.2.2.2.1,x.2.2.2.2.2.2.2.2.2.2.1,x.2.2.2.2.2.2.2.2.2.2.2.1,x.2.2.2.2.2.2.2.2.2.2.2.2)))) (Sum.elim (fun y2=>k (.inr (.inr (.inl (y2.1,y2.2.1,y2.2.2.1,x.2.2.2.2.2.1,y2.2.2.2.1,y2.2.2.2.2.1,x.2.2.2.2.2.2.1,x.2.2.2.2.2.2.2.1,y2.2.2.2.2.2,x.2.2.2.2.2.2.2.2.2.1,x.2.2.2.2.2.2.2.2.2.2.1,x.2.2.2.2.2.2.2.2.2.2.2.1,x.2.2.2.2.2.2.2.2.2.2.2.2))))) (fun y3=>k (.inr (.inr (.inr (y3.1,x.2.2.2.2.1,x.2.2.2.2.2.1,x.2.2.2.2.2.2.1,x.2.2.2.2.2.2.2.1,y3.2,x.2.2.2.2.2.2.2.2.2.1,x.2.2.2.2.2.2.2.2.2.2.1,x.2.2.2.2.2.2.2.2.2.2.2.1,x.2.2.2.2.2.2.2.2.2.2.2.2))))))))
def q91 (x:tqw) (v:(Int×Point×Bool)):tqw:=(x.1,v.1,x.2.2.1,v.2.1,x.2.2.2.2.1,x.2.2.2.2.2.1,x.2.2.2.2.2.2.1,x.2.2.2.2.2.2.2.1,v.2.2,x.2.2.2.2.2.2.2.2.2.1,x.2.2.2.2.2.2.2.2.2.2.1,x.2.2.2.2.2.2.2.2.2.2.2.1,x.2.2.2.2.2.2.2.2.2.2.2.2)
theorem q92 (x:tqw):LE.step X q8Y q8O q0 q4 12 x=XE x.1 x.2.2.1 x.2.2.2.2.2.1 x.2.2.2.2.2.2.2.2.2.2.2.2 x.2.1 x.2.2.2.1 x.2.2.2.2.2.2.2.2.1 (fun w0 w1 w2=>(Sum.inl (x.1,w0,x.2.2.1,w1,x.2.2.2.2.1,x.2.2.2.2.2.1,x.2.2.2.2.2.2.1,x.2.2.2.2.2.2.2.1,w2,x.2.2.2.2.2.2.2.2.2.1,x.2.2.2.2.2.2.2.2.2.2.1,x.2.2.2.2.2.2.2.2.2.2.2.1,x.2.2.2.2.2.2.2.2.2.2.2.2))) (fun p0 p1 p2 p3 p4 p5=>(Sum.inr (.inl (p0,p1,p2,x.2.2.2.2.2.1,p3,p4,x.2.2.2.2.2.2.1,x.2.2.2.2.2.2.2.1,p5,x.2.2.2.2.2.2.2.2.2.1,x.2.2.2.2.2.2.2.2.2.2.1,x.2.2.2.2.2.2.2.2.2.2.2.1,x.2.2.2.2.2.2.2.2.2.2.2.2)))) (fun p0 p1 p2 p3 p4 p5 p6=>(Sum.inr (.inr (.inl (p0,p1,p2,x.2.2.2.2.2.1,p3,p4,p5,x.2.2.2.2.2.2.1,x.2.2.2.2.2.2.2.1,p6,x.2.2.2.2.2.2.2.2.2.1,x.2.2.2.2.2.2.2.2.2.2.1,x.2.2.2.2.2.2.2.2.2.2.2.1,x.2.2.2.2.2.2.2.2.2.2.2.2))))) (fun p0 p1 p2 p3 p4 p5=>(Sum.inr (.inr (.inr (.inl (p0,p1,p2,x.2.2.2.2.2.1,p3,p4,x.2.2.2.2.2.2.1,x.2.2.2.2.2.2.2.1,p5,x.2.2.2.2.2.2.2.2.2.1,x.2.2.2.2.2.2.2.2.2.2.1,x.2.2.2.2.2.2.2.2.2.2.2.1,x.2.2.2.2.2.2.2.2.2.2.2.2)))))) (fun p0 p1=>(Sum.inr (.inr (.inr (.inr (p0,x.2.2.2.2.1,x.2.2.2.2.2.1,x.2.2.2.2.2.2.1,x.2.2.2.2.2.2.2.1,p1,x.2.2.2.2.2.2.2.2.2.1,x.2.2.2.2.2.2.2.2.2.2.1,x.2.2.2.2.2.2.2.2.2.2.2.1,x.2.2.2.2.2.2.2.2.2.2.2.2)))))):=by kernel_rfl
theorem q94 {R:Type} (x:tqw) (k:tq3→Option R) (r:R) (h:q90 x k=some r):∃o,Z5L (LE.step X q8Y q8O q0 q4 12) x o∧k o=some r:=by
 obtain⟨o,h1,h2⟩:=Z0 h;exact⟨q8Z x o,Zjo (st:=fun(x:tqw)=>Xs x.1 x.2.2.1 x.2.2.2.2.2.1 x.2.2.2.2.2.2.2.2.2.2.2.2) (prj:=fun x=>(x.2.1,x.2.2.2.1,x.2.2.2.2.2.2.2.2.1)) (emb:=q91) (embO:=q8Z) (fun x=>(q92 x).trans (by unfold Xs XE;simp only[Zji,Zj8,Zjj,Option.map_some,Option.map_none];rfl)) (fun _ _=>rfl) (fun _ _=>rfl) (fun _ _ _=>rfl) (fun _ _ _=>rfl) (fun _=>rfl) (Z28.1 h1),by first|exact h2|(rcases o with o|o|o|o<;>exact h2)⟩
def q95 {R:Type}:Z36 S R:=LE.ls X q8Y q90 q4
theorem q96 {R:Type}:Z58 X (q95 (R:=R)):=Zjt xok q8P (e:=q8Y) q1 q5 q94 q5
theorem q97 (x0:Zf) (x1:Point) (x2:Int):Zju X q8O [(.st 15),(.st 2),(.int .i64)] [.bool] q0 q95 12 110 (x0,x1,x2,())=Wp x0 x1 x2:=by kernel_rfl
def q98:F7 S:=⟨[(.st 15),(.st 2),(.int .i64)],[.bool],fun xs=>X1l xs.1 xs.2.1 xs.2.2.1⟩
theorem q99:Zfl X 110 q98:=Zjs (Zjr xok q8P q1 q96 12 110) fun xs _ h=>((q97 xs.1 xs.2.1 xs.2.2.1).trans (X2O xs.1 xs.2.1 xs.2.2.1).symm).trans h
def q9a:List (Nat×F7 S):=[(85,q6h),(110,q98)]
theorem q9b:ZbA X (q9a):=⟨q6i,q99,trivial⟩
def q9e:Key:=⟨[55],55,none,[0,0,1,1,0,0,0,1,0,0,1,1,1,0,0,1,1,0,0,1,0,1,1],4,41⟩
def q9f:StT S:=⟨(N (N (N (N L (some (.ptr 3 0)) L) none (N (N L vL L) (some (.ptr 20 0)) L)) none (N (N L vL L) none (N L vL L))) none (N (N L (some (.ptr 1 0)) (N (N L vL L) vL L)) vL (N (N (N L vK L) none L) none L))),o1e,41⟩
def q9g:Way S:=⟨.ret,⟨v19,o1e,64⟩,[.bool,.int,(.st 7),(.st 2),(.st 2),(.st 8),(.st 15)]⟩
def q9h:Way S:=⟨(.exit 4),⟨vY,o1e,48⟩,[.int,.int,.int,.int,.int,(.lst (.st 7)),(.st 7),(.st 2),(.st 2),(.st 8),(.st 15)]⟩
def q9i:LE S:=⟨q9e,q9f,[.int,.int,.int,.int,.int,.int,(.lst (.st 7)),(.st 7),(.st 2),(.st 2),(.st 8),(.st 15)],[q9g,q9h]⟩
def q9j (x:tqC):((Bool×Point)⊕Point)→tqi:=Sum.elim (fun y0=>(.inl (y0.1,x.2.1,x.2.2.2.2.2.2.2.1,y0.2,x.2.2.2.2.2.2.2.2.2.1,x.2.2.2.2.2.2.2.2.2.2.1,x.2.2.2.2.2.2.2.2.2.2.2))) (fun y1=>(.inr (x.1,x.2.1,x.2.2.2.1,x.2.2.2.2.1,x.2.2.2.2.2.1,x.2.2.2.2.2.2.1,x.2.2.2.2.2.2.2.1,y1,x.2.2.2.2.2.2.2.2.2.1,x.2.2.2.2.2.2.2.2.2.2.1,x.2.2.2.2.2.2.2.2.2.2.2)))
def q9k {R:Type} (x:tqC) (k:tqi→Option R):Option R:=(X1K x.2.2.2.2.1 x.2.2.2.2.2.1 x.2.2.2.2.2.2.2.2.2.1 x.2.2.2.2.2.2.2.2.2.2.2 (x.2.2.1,x.2.2.2.2.2.2.2.2.1)).bind (Sum.elim (fun y0=>k (.inl (y0.1,x.2.1,x.2.2.2.2.2.2.2.1,y0.2,x.2.2.2.2.2.2.2.2.2.1,x.2.2.2.2.2.2.2.2.2.2.1,x.2.2.2.2.2.2.2.2.2.2.2))) (fun y1=>k (.inr (x.1,x.2.1,x.2.2.2.1,x.2.2.2.2.1,x.2.2.2.2.2.1,x.2.2.2.2.2.2.1,x.2.2.2.2.2.2.2.1,y1,x.2.2.2.2.2.2.2.2.2.1,x.2.2.2.2.2.2.2.2.2.2.1,x.2.2.2.2.2.2.2.2.2.2.2))))
def q9l (x:tqC) (v:(Int×Point)):tqC:=(x.1,x.2.1,v.1,x.2.2.2.1,x.2.2.2.2.1,x.2.2.2.2.2.1,x.2.2.2.2.2.2.1,x.2.2.2.2.2.2.2.1,v.2,x.2.2.2.2.2.2.2.2.2.1,x.2.2.2.2.2.2.2.2.2.2.1,x.2.2.2.2.2.2.2.2.2.2.2)
theorem q9m (x:tqC):LE.step X q9i q9a q0 q4 12 x=W5 x.2.2.2.2.1 x.2.2.2.2.2.1 x.2.2.2.2.2.2.2.2.2.1 x.2.2.2.2.2.2.2.2.2.2.2 x.2.2.1 x.2.2.2.2.2.2.2.2.1 (fun w0 w1=>(Sum.inl (x.1,x.2.1,w0,x.2.2.2.1,x.2.2.2.2.1,x.2.2.2.2.2.1,x.2.2.2.2.2.2.1,x.2.2.2.2.2.2.2.1,w1,x.2.2.2.2.2.2.2.2.2.1,x.2.2.2.2.2.2.2.2.2.2.1,x.2.2.2.2.2.2.2.2.2.2.2))) (fun p0 p1=>(Sum.inr (.inl (p0,x.2.1,x.2.2.2.2.2.2.2.1,p1,x.2.2.2.2.2.2.2.2.2.1,x.2.2.2.2.2.2.2.2.2.2.1,x.2.2.2.2.2.2.2.2.2.2.2)))) (fun p0=>(Sum.inr (.inr (x.1,x.2.1,x.2.2.2.1,x.2.2.2.2.1,x.2.2.2.2.2.1,x.2.2.2.2.2.2.1,x.2.2.2.2.2.2.2.1,p0,x.2.2.2.2.2.2.2.2.2.1,x.2.2.2.2.2.2.2.2.2.2.1,x.2.2.2.2.2.2.2.2.2.2.2)))):=by kernel_rfl
theorem q9o {R:Type} (x:tqC) (k:tqi→Option R) (r:R) (h:q9k x k=some r):∃o,Z5L (LE.step X q9i q9a q0 q4 12) x o∧k o=some r:=by
 obtain⟨o,h1,h2⟩:=Z0 h;exact⟨q9j x o,Zjo (st:=fun(x:tqC)=>XS x.2.2.2.2.1 x.2.2.2.2.2.1 x.2.2.2.2.2.2.2.2.2.1 x.2.2.2.2.2.2.2.2.2.2.2) (prj:=fun x=>(x.2.2.1,x.2.2.2.2.2.2.2.2.1)) (emb:=q9l) (embO:=q9j) (fun x=>(q9m x).trans (by unfold XS W5;simp only[Zji,Zj8,Zjj,Option.map_some,Option.map_none];rfl)) (fun _ _=>rfl) (fun _ _=>rfl) (fun _ _ _=>rfl) (fun _ _ _=>rfl) (fun _=>rfl) (Z28.1 h1),by first|exact h2|(rcases o with o|o<;>exact h2)⟩
def q9p {R:Type}:Z36 S R:=LE.ls X q9i q9k q4
theorem q9q {R:Type}:Z58 X (q9p (R:=R)):=Zjt xok q9b (e:=q9i) q1 q5 q9o q5
def q9r:Key:=⟨[55],55,none,[0,0,1,1,1,0,0,1,1,0,0,1,0,1,1],2,28⟩
def q9s:StT S:=⟨vY,o1e,28⟩
def q9u:Way S:=⟨(.exit 2),⟨v15,o1e,35⟩,[.int,.int,.int,(.lst (.st 7)),(.st 7),(.st 2),(.st 2),(.st 8),(.st 15)]⟩
def q9v:LE S:=⟨q9r,q9s,[.int,.int,.int,.int,.int,(.lst (.st 7)),(.st 7),(.st 2),(.st 2),(.st 8),(.st 15)],[q9g,q9u]⟩
def q9w (x:tqD):((Bool×Point)⊕Point)→tql:=Sum.elim (fun y0=>(.inl (y0.1,x.2.1,x.2.2.2.2.2.2.1,y0.2,x.2.2.2.2.2.2.2.2.1,x.2.2.2.2.2.2.2.2.2.1,x.2.2.2.2.2.2.2.2.2.2))) (fun y1=>(.inr (x.1,x.2.2.1,x.2.2.2.2.1,x.2.2.2.2.2.1,x.2.2.2.2.2.2.1,y1,x.2.2.2.2.2.2.2.2.1,x.2.2.2.2.2.2.2.2.2.1,x.2.2.2.2.2.2.2.2.2.2)))
def q9x {R:Type} (x:tqD) (k:tql→Option R):Option R:=(X1J x.2.2.2.2.1 x.2.2.2.2.2.2.2.2.1 x.2.2.2.2.2.2.2.2.2.2 (x.2.2.2.1,x.2.2.2.2.2.2.2.1)).bind (Sum.elim (fun y0=>k (.inl (y0.1,x.2.1,x.2.2.2.2.2.2.1,y0.2,x.2.2.2.2.2.2.2.2.1,x.2.2.2.2.2.2.2.2.2.1,x.2.2.2.2.2.2.2.2.2.2))) (fun y1=>k (.inr (x.1,x.2.2.1,x.2.2.2.2.1,x.2.2.2.2.2.1,x.2.2.2.2.2.2.1,y1,x.2.2.2.2.2.2.2.2.1,x.2.2.2.2.2.2.2.2.2.1,x.2.2.2.2.2.2.2.2.2.2))))
def q9y (x:tqD) (v:(Int×Point)):tqD:=(x.1,x.2.1,x.2.2.1,v.1,x.2.2.2.2.1,x.2.2.2.2.2.1,x.2.2.2.2.2.2.1,v.2,x.2.2.2.2.2.2.2.2.1,x.2.2.2.2.2.2.2.2.2.1,x.2.2.2.2.2.2.2.2.2.2)
theorem q9z (x:tqD):LE.step X q9v q9a q0 q9p 12 x=W4 x.2.2.2.2.1 x.2.2.2.2.2.2.2.2.1 x.2.2.2.2.2.2.2.2.2.2 x.2.2.2.1 x.2.2.2.2.2.2.2.1 (fun w0 w1=>(Sum.inl (x.1,x.2.1,x.2.2.1,w0,x.2.2.2.2.1,x.2.2.2.2.2.1,x.2.2.2.2.2.2.1,w1,x.2.2.2.2.2.2.2.2.1,x.2.2.2.2.2.2.2.2.2.1,x.2.2.2.2.2.2.2.2.2.2))) (fun p0 p1=>(Sum.inr (.inl (p0,x.2.1,x.2.2.2.2.2.2.1,p1,x.2.2.2.2.2.2.2.2.1,x.2.2.2.2.2.2.2.2.2.1,x.2.2.2.2.2.2.2.2.2.2)))) (fun p0=>(Sum.inr (.inr (x.1,x.2.2.1,x.2.2.2.2.1,x.2.2.2.2.2.1,x.2.2.2.2.2.2.1,p0,x.2.2.2.2.2.2.2.2.1,x.2.2.2.2.2.2.2.2.2.1,x.2.2.2.2.2.2.2.2.2.2)))):=by kernel_rfl
theorem q9B {R:Type} (x:tqD) (k:tql→Option R) (r:R) (h:q9x x k=some r):∃o,Z5L (LE.step X q9v q9a q0 q9p 12) x o∧k o=some r:=by
 obtain⟨o,h1,h2⟩:=Z0 h;exact⟨q9w x o,Zjo (st:=fun(x:tqD)=>XR x.2.2.2.2.1 x.2.2.2.2.2.2.2.2.1 x.2.2.2.2.2.2.2.2.2.2) (prj:=fun x=>(x.2.2.2.1,x.2.2.2.2.2.2.2.1)) (emb:=q9y) (embO:=q9w) (fun x=>(q9z x).trans (by unfold XR W4;simp only[Zji,Zj8,Zjj,Option.map_some,Option.map_none];rfl)) (fun _ _=>rfl) (fun _ _=>rfl) (fun _ _ _=>rfl) (fun _ _ _=>rfl) (fun _=>rfl) (Z28.1 h1),by first|exact h2|(rcases o with o|o<;>exact h2)⟩
def q9C {R:Type}:Z36 S R:=LE.ls X q9v q9x q9p
theorem q9D {R:Type}:Z58 X (q9C (R:=R)):=Zjt xok q9b (e:=q9v) q1 q9q q9B q9q
def q9E:Key:=⟨[55],55,none,[0,0,1,0,1,1],0,11⟩
def q9F:StT S:=⟨v15,(N (N (N L on L) on L) ol L),11⟩
def q9H:Way S:=⟨(.exit 0),⟨(N (N (N (N L (some (.ptr 3 0)) L) none L) none L) none L),(N (N (N L on L) on L) ol L),12⟩,[(.st 2),(.st 2),(.st 8)]⟩
def q9I:LE S:=⟨q9E,q9F,[.int,.int,.int,(.lst (.st 7)),(.st 2),(.st 2),(.st 8)],[q9g,q9H]⟩
def q9J (x:tqU):((Bool×Int×CtSand×Point×Zf)⊕Point)→tqG:=Sum.elim (fun y0=>(.inl (y0.1,y0.2.1,y0.2.2.1,y0.2.2.2.1,x.2.2.2.2.2.1,x.2.2.2.2.2.2,y0.2.2.2.2))) (fun y1=>(.inr (y1,x.2.2.2.2.2.1,x.2.2.2.2.2.2)))
def q9K {R:Type} (x:tqU) (k:tqG→Option R):Option R:=(X1I x.1 x.2.2.1 x.2.2.2.1 x.2.2.2.2.2.1 (x.2.1,x.2.2.2.2.1)).bind (Sum.elim (fun y0=>k (.inl (y0.1,y0.2.1,y0.2.2.1,y0.2.2.2.1,x.2.2.2.2.2.1,x.2.2.2.2.2.2,y0.2.2.2.2))) (fun y1=>k (.inr (y1,x.2.2.2.2.2.1,x.2.2.2.2.2.2))))
def q9L (x:tqU) (v:(Int×Point)):tqU:=(x.1,v.1,x.2.2.1,x.2.2.2.1,v.2,x.2.2.2.2.2.1,x.2.2.2.2.2.2)
theorem q9M (x:tqU):LE.step X q9I q9a q0 q9C 12 x=W3 x.1 x.2.2.1 x.2.2.2.1 x.2.2.2.2.2.1 x.2.1 x.2.2.2.2.1 (fun w0 w1=>(Sum.inl (x.1,w0,x.2.2.1,x.2.2.2.1,w1,x.2.2.2.2.2.1,x.2.2.2.2.2.2))) (fun p0 p1 p2 p3 p4=>(Sum.inr (.inl (p0,p1,p2,p3,x.2.2.2.2.2.1,x.2.2.2.2.2.2,p4)))) (fun p0=>(Sum.inr (.inr (p0,x.2.2.2.2.2.1,x.2.2.2.2.2.2)))):=by kernel_rfl
theorem q9O {R:Type} (x:tqU) (k:tqG→Option R) (r:R) (h:q9K x k=some r):∃o,Z5L (LE.step X q9I q9a q0 q9C 12) x o∧k o=some r:=by
 obtain⟨o,h1,h2⟩:=Z0 h;exact⟨q9J x o,Zjo (st:=fun(x:tqU)=>XB x.1 x.2.2.1 x.2.2.2.1 x.2.2.2.2.2.1) (prj:=fun x=>(x.2.1,x.2.2.2.2.1)) (emb:=q9L) (embO:=q9J) (fun x=>(q9M x).trans (by unfold XB W3;simp only[Zji,Zj8,Zjj,Option.map_some,Option.map_none];rfl)) (fun _ _=>rfl) (fun _ _=>rfl) (fun _ _ _=>rfl) (fun _ _ _=>rfl) (fun _=>rfl) (Z28.1 h1),by first|exact h2|(rcases o with o|o<;>exact h2)⟩
def q9P {R:Type}:Z36 S R:=LE.ls X q9I q9K q9C
theorem q9Q {R:Type}:Z58 X (q9P (R:=R)):=Zjt xok q9b (e:=q9I) q1 q9D q9O q9D
theorem q9R (x0:Zp) (x1:Point) (x2:Int):Zju X q9a [(.st 8),(.st 2),(.int .i64)] [(.int .i64),(.st 2),.bool] q0 q9P 12 55 (x0,x1,x2,())=X14 x0 x1 x2:=by kernel_rfl
def q9S:F7 S:=⟨[(.st 8),(.st 2),(.int .i64)],[(.int .i64),(.st 2),.bool],fun xs=>X23 xs.1 xs.2.1 xs.2.2.1⟩
theorem X36:Zfl X 55 q9S:=Zjs (Zjr xok q9b q1 q9Q 12 55) fun xs _ h=>((q9R xs.1 xs.2.1 xs.2.2.1).trans (X3v xs.1 xs.2.1 xs.2.2.1).symm).trans h
def q9T:List (Nat×F7 S):=[(53,q7D),(54,q4D),(55,q9S)]
theorem q9U:ZbA X (q9T):=⟨q7E,q4E,X36,trivial⟩
theorem q9X (x0:Zp) (x1:Point) (x2:Int):Zju X q9T [(.st 8),(.st 2),(.int .i64)] [(.int .i64),(.st 2),(.int .i64)] q0 q4 12 9 (x0,x1,x2,())=X1j x0 x1 x2:=by kernel_rfl
def q9Y:F7 S:=⟨[(.st 8),(.st 2),(.int .i64)],[(.int .i64),(.st 2),(.int .i64)],fun xs=>X34 xs.1 xs.2.1 xs.2.2.1⟩
theorem q9Z:Zfl X 9 q9Y:=Zjs (Zjr xok q9U q1 q5 12 9) fun xs _ h=>((q9X xs.1 xs.2.1 xs.2.2.1).trans (X3D xs.1 xs.2.1 xs.2.2.1).symm).trans h
def qa4:Key:=⟨[158,2,1,108,2,1,100],158,none,[0,0,1,0,1],0,17⟩
def qa5:StT S:=⟨(N (N (N (N L vL L) none L) (some (.fn (.func 153) [] [(.ptr 0 0),(.ptr 1 0)])) L) (some (.sl (.int .i64) [])) v1x),(N (N L ox L) ox L),17⟩
def qa8:LE S:=⟨qa4,qa5,[.int,(.lst (.int .i64)),.int,.int,.int],[q4r,q4s]⟩
def qaa {R:Type} (x:X4g) (k:X6c→Option R):Option R:=(X2q x.1 x.2.1 x.2.2.2.1 x.2.2.2.2 x.2.2.1).bind (Sum.elim (fun y0=>k (.inl (y0,x.2.2.2.1,x.2.2.2.2))) (fun y1=>k (.inr (x.2.2.2.1,x.2.2.2.2))))
theorem qac (x:X4g):LE.step X qa8 q2 q0 q4 12 x=XP x.1 x.2.1 x.2.2.2.1 x.2.2.2.2 x.2.2.1 (fun w0=>(Sum.inl (x.1,x.2.1,w0,x.2.2.2.1,x.2.2.2.2))) (fun p0=>(Sum.inr (.inl (p0,x.2.2.2.1,x.2.2.2.2)))) (Sum.inr (.inr (x.2.2.2.1,x.2.2.2.2))):=by kernel_rfl
theorem qae {R:Type} (x:X4g) (k:X6c→Option R) (r:R) (h:qaa x k=some r):∃o,Z5L (LE.step X qa8 q2 q0 q4 12) x o∧k o=some r:=by
 obtain⟨o,h1,h2⟩:=Z0 h;exact⟨q4u x o,Zjo (st:=fun(x:X4g)=>XJ x.1 x.2.1 x.2.2.2.1 x.2.2.2.2) (prj:=fun x=>x.2.2.1) (emb:=q4w) (embO:=q4u) (fun x=>(qac x).trans (by unfold XJ XP;simp only[Zji,Zj8,Zjj,Option.map_some,Option.map_none];rfl)) (fun _ _=>rfl) (fun _ _=>rfl) (fun _ _ _=>rfl) (fun _ _ _=>rfl) (fun _=>rfl) (Z28.1 h1),by first|exact h2|(rcases o with o|o<;>exact h2)⟩
def qaf {R:Type}:Z36 S R:=LE.ls X qa8 qaa q4
theorem qag {R:Type}:Z58 X (qaf (R:=R)):=Zjt xok q3 (e:=qa8) q1 q5 qae q5
theorem qah (x0:Int) (x1:Int) (x2:List Int):Zju X q2 [(.int .i64),(.int .i64),(.sl (.int .i64))] [.bool] q0 qaf 12 100 (x0,x1,x2,())=Xa x0 x1 x2:=by kernel_rfl
def qai:F7 S:=⟨[(.int .i64),(.int .i64),(.sl (.int .i64))],[.bool],fun xs=>Xa xs.1 xs.2.1 xs.2.2.1⟩
theorem qaj:Zfl X 100 qai:=Zjs (Zjr xok q3 q1 qag 12 100) fun xs _ h=>(qah xs.1 xs.2.1 xs.2.2.1).trans h
def qak:List (Nat×F7 S):=[(100,qai)]
theorem qal:ZbA X (qak):=⟨qaj,trivial⟩
theorem qao (x0:ZF):Zju X qak [(.st 6)] [(.int .i64)] q0 q4 12 152 (x0,())=X2J x0:=by kernel_rfl
def qap:F7 S:=⟨[(.st 6)],[(.int .i64)],fun xs=>X2J xs.1⟩
theorem qaq:Zfl X 152 qap:=Zjs (Zjr xok qal q1 q5 12 152) fun xs _ h=>(qao xs.1).trans h
def qar:List (Nat×F7 S):=[(92,q7w),(152,qap),(100,qai)]
theorem qas:ZbA X (qar):=⟨q7x,qaq,qaj,trivial⟩
theorem qav (x0:SgMooring):Zju X qar [(.st 9)] [(.int .i64),(.int .i64)] q0 q4 12 149 (x0,())=X2p x0:=by kernel_rfl
def qaw:F7 S:=⟨[(.st 9)],[(.int .i64),(.int .i64)],fun xs=>X2p xs.1⟩
theorem qax:Zfl X 149 qaw:=Zjs (Zjr xok qas q1 q5 12 149) fun xs _ h=>(qav xs.1).trans h
def qay:List (Nat×F7 S):=[(149,qaw),(152,qap),(100,qai)]
theorem qaz:ZbA X (qay):=⟨qax,qaq,qaj,trivial⟩
def qaC:Key:=⟨[150,2,6,99],150,none,[0,0,1,0,1],0,27⟩
def qaD:StT S:=⟨(N (N (N L none (N L vL L)) (some (.fn (.func 151) [] [(.ptr 1 0)])) (N (N L vI L) none L)) none v1w),(N (N L oq L) none L),27⟩
def qaE:Way S:=⟨.ret,⟨v1s,(N o1n none L),73⟩,[.int,.int,(.st 10),(.st 10),(.lst (.st 10))]⟩
def qaF:Way S:=⟨.ret,⟨v1s,(N o1n none (N L none (N o1C none L))),73⟩,[.int,.int,(.st 10),(.st 10),(.lst (.st 10)),(.lst (.int .i64))]⟩
def qaG:Way S:=⟨.ret,⟨v1s,(N o1n none (N (N (N L none (N L none (N L ov L))) none L) none (N o1C none L))),73⟩,[.int,.int,(.st 10),(.st 10),(.lst (.st 10)),(.lst (.int .i64)),(.lst (.int .i64))]⟩
def qaH:Way S:=⟨.ret,⟨v1s,oX,73⟩,[.int,.int,(.st 10),(.st 10),(.lst (.st 10)),(.lst (.int .i64)),(.lst (.int .i64)),(.lst (.int .i64))]⟩
def qaI:Way S:=⟨.ret,⟨v1s,oX,91⟩,[.int,.int,(.st 10),(.st 10),(.lst (.st 10)),(.lst (.int .i64)),(.lst (.int .i64)),(.lst (.int .i64))]⟩
def qaJ:Way S:=⟨.ret,⟨v1s,oX,92⟩,[.int,.int,(.st 10),(.st 10),(.lst (.st 10)),(.lst (.int .i64)),(.lst (.int .i64)),(.lst (.int .i64))]⟩
def qaK:Way S:=⟨(.exit 0),⟨L,(N (N L oq L) none L),28⟩,[(.lst (.st 10))]⟩
def qaL:LE S:=⟨qaC,qaD,[.int,(.lst (.st 10)),.int,(.lst (.st 10))],[qaE,qaF,qaG,qaH,qaI,qaJ,qaK]⟩
def qaM (x:X5K):((Int×Int×ZD×ZD)⊕(Int×Int×ZD×ZD×(List Int))⊕(Int×Int×ZD×ZD×(List Int)×(List Int))⊕tqN⊕tqN⊕tqN⊕Unit)→tq2:=Sum.elim (fun y0=>(.inl (y0.1,y0.2.1,y0.2.2.1,y0.2.2.2,x.2.2.2))) (Sum.elim (fun y1=>(.inr (.inl (y1.1,y1.2.1,y1.2.2.1,y1.2.2.2.1,x.2.2.2,y1.2.2.2.2)))) (Sum.elim (fun y2=>(.inr (.inr (.inl (y2.1,y2.2.1,y2.2.2.1,y2.2.2.2.1,x.2.2.2,y2.2.2.2.2.1,y2.2.2.2.2.2))))) (Sum.elim (fun y3=>(.inr (.inr (.inr (.inl (y3.1,y3.2.1,y3.2.2.1,y3.2.2.2.1,x.2.2.2,y3.2.2.2.2.1,y3.2.2.2.2.2.1,y3.2.2.2.2.2.2)))))) (Sum.elim (fun y4=>(.inr (.inr (.inr (.inr (.inl (y4.1,y4.2.1,y4.2.2.1,y4.2.2.2.1,x.2.2.2,y4.2.2.2.2.1,y4.2.2.2.2.2.1,y4.2.2.2.2.2.2))))))) (Sum.elim (fun y5=>(.inr (.inr (.inr (.inr (.inr (.inl (y5.1,y5.2.1,y5.2.2.1,y5.2.2.2.1,x.2.2.2,y5.2.2.2.2.1,y5.2.2.2.2.2.1,y5.2.2.2.2.2.2)))))))) (fun y6=>(.inr (.inr (.inr (.inr (.inr (.inr x.2.2.2))))))))))))
def qaN {R:Type} (x:X5K) (k:tq2→Option R):Option R:=(X20 x.2.1 x.2.2.1 x.2.2.2 x.1).bind (Sum.elim (fun y0=>k (.inl (y0.1,y0.2.1,y0.2.2.1,y0.2.2.2,x.2.2.2))) (Sum.elim (fun y1=>k (.inr (.inl (y1.1,y1.2.1,y1.2.2.1,y1.2.2.2.1,x.2.2.2,y1.2.2.2.2)))) (Sum.elim (fun y2=>k (.inr (.inr (.inl (y2.1,y2.2.1,y2.2.2.1,y2.2.2.2.1,x.2.2.2,y2.2.2.2.2.1,y2.2.2.2.2.2))))) (Sum.elim (fun y3=>k (.inr (.inr (.inr (.inl (y3.1,y3.2.1,y3.2.2.1,y3.2.2.2.1,x.2.2.2,y3.2.2.2.2.1,y3.2.2.2.2.2.1,y3.2.2.2.2.2.2)))))) (Sum.elim (fun y4=>k (.inr (.inr (.inr (.inr (.inl (y4.1,y4.2.1,y4.2.2.1,y4.2.2.2.1,x.2.2.2,y4.2.2.2.2.1,y4.2.2.2.2.2.1,y4.2.2.2.2.2.2))))))) (Sum.elim (fun y5=>k (.inr (.inr (.inr (.inr (.inr (.inl (y5.1,y5.2.1,y5.2.2.1,y5.2.2.2.1,x.2.2.2,y5.2.2.2.2.1,y5.2.2.2.2.2.1,y5.2.2.2.2.2.2)))))))) (fun y6=>k (.inr (.inr (.inr (.inr (.inr (.inr x.2.2.2)))))))))))))
def qaO (x:X5K) (v:Int):X5K:=(v,x.2.1,x.2.2.1,x.2.2.2)
theorem qaP (x:X5K):LE.step X qaL qay q0 q4 12 x=Xz x.2.1 x.2.2.1 x.2.2.2 x.1 (fun w0=>(Sum.inl (w0,x.2.1,x.2.2.1,x.2.2.2))) (fun p0 p1 p2 p3=>(Sum.inr (.inl (p0,p1,p2,p3,x.2.2.2)))) (fun p0 p1 p2 p3 p4=>(Sum.inr (.inr (.inl (p0,p1,p2,p3,x.2.2.2,p4))))) (fun p0 p1 p2 p3 p4 p5=>(Sum.inr (.inr (.inr (.inl (p0,p1,p2,p3,x.2.2.2,p4,p5)))))) (fun p0 p1 p2 p3 p4 p5 p6=>(Sum.inr (.inr (.inr (.inr (.inl (p0,p1,p2,p3,x.2.2.2,p4,p5,p6))))))) (fun p0 p1 p2 p3 p4 p5 p6=>(Sum.inr (.inr (.inr (.inr (.inr (.inl (p0,p1,p2,p3,x.2.2.2,p4,p5,p6)))))))) (fun p0 p1 p2 p3 p4 p5 p6=>(Sum.inr (.inr (.inr (.inr (.inr (.inr (.inl (p0,p1,p2,p3,x.2.2.2,p4,p5,p6))))))))) (Sum.inr (.inr (.inr (.inr (.inr (.inr (.inr x.2.2.2))))))):=by kernel_rfl
theorem qaR {R:Type} (x:X5K) (k:tq2→Option R) (r:R) (h:qaN x k=some r):∃o,Z5L (LE.step X qaL qay q0 q4 12) x o∧k o=some r:=by
 obtain⟨o,h1,h2⟩:=Z0 h;exact⟨qaM x o,Zjo (st:=fun(x:X5K)=>Xp x.2.1 x.2.2.1 x.2.2.2) (prj:=fun x=>x.1) (emb:=qaO) (embO:=qaM) (fun x=>(qaP x).trans (by unfold Xp Xz;simp only[Zji,Zj8,Zjj,Option.map_some,Option.map_none];rfl)) (fun _ _=>rfl) (fun _ _=>rfl) (fun _ _ _=>rfl) (fun _ _ _=>rfl) (fun _=>rfl) (Z28.1 h1),by first|exact h2|(rcases o with o|o|o|o|o|o|o<;>exact h2)⟩
def qaS {R:Type}:Z36 S R:=LE.ls X qaL qaN q4
theorem qaT {R:Type}:Z58 X (qaS (R:=R)):=Zjt xok qaz (e:=qaL) q1 q5 qaR q5
theorem qaU (x0:SgMooring) (x1:List ZD):Zju X qay [(.st 9),(.sl (.st 10))] [(.int .i64),(.int .i64)] q0 qaS 12 99 (x0,x1,())=WA x0 x1:=by kernel_rfl
def qaV:F7 S:=⟨[(.st 9),(.sl (.st 10))],[(.int .i64),(.int .i64)],fun xs=>WA xs.1 xs.2.1⟩
theorem qaW:Zfl X 99 qaV:=Zjs (Zjr xok qaz q1 qaT 12 99) fun xs _ h=>(qaU xs.1 xs.2.1).trans h
def qb1:Key:=⟨[107,0,101],107,none,[0,0,1,0,0,1,0,0,1,1],2,28⟩
def qb2:StT S:=⟨(N (N (N L vL L) (some (.ptr 9 0)) (N L vL L)) (some (.yld 13)) (N (N L vL L) none L)),o1p,28⟩
def qb3:Way S:=⟨(.exit 2),⟨v1k,o1p,33⟩,[.int,.int,.int,.int,.int,.int,.int,.int,.int,(.arr (.int .u64)),(.st 6),(.st 9),(.st 9),(.st 14)]⟩
def qb4:LE S:=⟨qb1,qb2,[.int,.int,.int,.int,.int,.int,.int,.int,.int,.int,(.arr (.int .u64)),(.st 6),(.st 9),(.st 9),(.st 14)],[qb3]⟩
def qb5 (x:tqt):(Int×Za)→tqx:=fun y0=>(y0.1,x.2.2.1,x.2.2.2.1,x.2.2.2.2.1,x.2.2.2.2.2.1,x.2.2.2.2.2.2.1,x.2.2.2.2.2.2.2.1,x.2.2.2.2.2.2.2.2.1,x.2.2.2.2.2.2.2.2.2.1,x.2.2.2.2.2.2.2.2.2.2.1,x.2.2.2.2.2.2.2.2.2.2.2.1,x.2.2.2.2.2.2.2.2.2.2.2.2.1,x.2.2.2.2.2.2.2.2.2.2.2.2.2.1,y0.2)
def qb6 {R:Type} (x:tqt) (k:tqx→Option R):Option R:=(X2c x.2.2.1 x.2.2.2.1 x.2.2.2.2.1 x.2.2.2.2.2.1 x.2.2.2.2.2.2.1 x.2.2.2.2.2.2.2.1 x.2.2.2.2.2.2.2.2.1 x.2.2.2.2.2.2.2.2.2.1 x.2.2.2.2.2.2.2.2.2.2.1 x.2.2.2.2.2.2.2.2.2.2.2.1 x.2.2.2.2.2.2.2.2.2.2.2.2.1 x.2.2.2.2.2.2.2.2.2.2.2.2.2.1 (x.1,x.2.1,x.2.2.2.2.2.2.2.2.2.2.2.2.2.2)).bind (fun y0=>k (y0.1,x.2.2.1,x.2.2.2.1,x.2.2.2.2.1,x.2.2.2.2.2.1,x.2.2.2.2.2.2.1,x.2.2.2.2.2.2.2.1,x.2.2.2.2.2.2.2.2.1,x.2.2.2.2.2.2.2.2.2.1,x.2.2.2.2.2.2.2.2.2.2.1,x.2.2.2.2.2.2.2.2.2.2.2.1,x.2.2.2.2.2.2.2.2.2.2.2.2.1,x.2.2.2.2.2.2.2.2.2.2.2.2.2.1,y0.2))
def qb7 (x:tqt) (v:(Int×Int×Za)):tqt:=(v.1,v.2.1,x.2.2.1,x.2.2.2.1,x.2.2.2.2.1,x.2.2.2.2.2.1,x.2.2.2.2.2.2.1,x.2.2.2.2.2.2.2.1,x.2.2.2.2.2.2.2.2.1,x.2.2.2.2.2.2.2.2.2.1,x.2.2.2.2.2.2.2.2.2.2.1,x.2.2.2.2.2.2.2.2.2.2.2.1,x.2.2.2.2.2.2.2.2.2.2.2.2.1,x.2.2.2.2.2.2.2.2.2.2.2.2.2.1,v.2.2)
theorem qb8 (x:tqt):LE.step X qb4 q2 q0 q4 12 x=WK x.2.2.1 x.2.2.2.1 x.2.2.2.2.1 x.2.2.2.2.2.1 x.2.2.2.2.2.2.1 x.2.2.2.2.2.2.2.1 x.2.2.2.2.2.2.2.2.1 x.2.2.2.2.2.2.2.2.2.1 x.2.2.2.2.2.2.2.2.2.2.1 x.2.2.2.2.2.2.2.2.2.2.2.1 x.2.2.2.2.2.2.2.2.2.2.2.2.1 x.2.2.2.2.2.2.2.2.2.2.2.2.2.1 x.1 x.2.1 x.2.2.2.2.2.2.2.2.2.2.2.2.2.2 (fun w0 w1 w2=>(Sum.inl (w0,w1,x.2.2.1,x.2.2.2.1,x.2.2.2.2.1,x.2.2.2.2.2.1,x.2.2.2.2.2.2.1,x.2.2.2.2.2.2.2.1,x.2.2.2.2.2.2.2.2.1,x.2.2.2.2.2.2.2.2.2.1,x.2.2.2.2.2.2.2.2.2.2.1,x.2.2.2.2.2.2.2.2.2.2.2.1,x.2.2.2.2.2.2.2.2.2.2.2.2.1,x.2.2.2.2.2.2.2.2.2.2.2.2.2.1,w2))) (fun p0 p1=>(Sum.inr (p0,x.2.2.1,x.2.2.2.1,x.2.2.2.2.1,x.2.2.2.2.2.1,x.2.2.2.2.2.2.1,x.2.2.2.2.2.2.2.1,x.2.2.2.2.2.2.2.2.1,x.2.2.2.2.2.2.2.2.2.1,x.2.2.2.2.2.2.2.2.2.2.1,x.2.2.2.2.2.2.2.2.2.2.2.1,x.2.2.2.2.2.2.2.2.2.2.2.2.1,x.2.2.2.2.2.2.2.2.2.2.2.2.2.1,p1))):=by kernel_rfl
theorem qba {R:Type} (x:tqt) (k:tqx→Option R) (r:R) (h:qb6 x k=some r):∃o,Z5L (LE.step X qb4 q2 q0 q4 12) x o∧k o=some r:=by
 obtain⟨o,h1,h2⟩:=Z0 h;exact⟨qb5 x o,Zjo (st:=fun(x:tqt)=>WC x.2.2.1 x.2.2.2.1 x.2.2.2.2.1 x.2.2.2.2.2.1 x.2.2.2.2.2.2.1 x.2.2.2.2.2.2.2.1 x.2.2.2.2.2.2.2.2.1 x.2.2.2.2.2.2.2.2.2.1 x.2.2.2.2.2.2.2.2.2.2.1 x.2.2.2.2.2.2.2.2.2.2.2.1 x.2.2.2.2.2.2.2.2.2.2.2.2.1 x.2.2.2.2.2.2.2.2.2.2.2.2.2.1) (prj:=fun x=>(x.1,x.2.1,x.2.2.2.2.2.2.2.2.2.2.2.2.2.2)) (emb:=qb7) (embO:=qb5) (fun x=>(qb8 x).trans (by unfold WC WK;simp only[Zji,Zj8,Zjj,Option.map_some,Option.map_none];rfl)) (fun _ _=>rfl) (fun _ _=>rfl) (fun _ _ _=>rfl) (fun _ _ _=>rfl) (fun _=>rfl) (Z28.1 h1),by first|exact h2|(rcases o with o<;>exact h2)⟩
def qbb {R:Type}:Z36 S R:=LE.ls X qb4 qb6 q4
theorem qbc {R:Type}:Z58 X (qbb (R:=R)):=Zjt xok q3 (e:=qb4) q1 q5 qba q5
def qbd:Key:=⟨[107,0,101],107,none,[0,0,1,1],0,19⟩
def qbe:StT S:=⟨v1k,o1p,19⟩
def qbf:Way S:=⟨(.exit 0),⟨L,o1p,24⟩,[.int,.int,.int,.int,.int,.int,.int,(.arr (.int .u64)),(.st 6),(.st 9),(.st 9),(.st 14)]⟩
def qbg:LE S:=⟨qbd,qbe,[.int,.int,.int,.int,.int,.int,.int,.int,.int,(.arr (.int .u64)),(.st 6),(.st 9),(.st 9),(.st 14)],[qbf]⟩
def qbh (x:tqx):Za→tqB:=fun y0=>(x.2.2.1,x.2.2.2.1,x.2.2.2.2.1,x.2.2.2.2.2.1,x.2.2.2.2.2.2.1,x.2.2.2.2.2.2.2.1,x.2.2.2.2.2.2.2.2.1,x.2.2.2.2.2.2.2.2.2.1,x.2.2.2.2.2.2.2.2.2.2.1,x.2.2.2.2.2.2.2.2.2.2.2.1,x.2.2.2.2.2.2.2.2.2.2.2.2.1,y0)
def qbi {R:Type} (x:tqx) (k:tqB→Option R):Option R:=(X2b x.2.2.1 x.2.2.2.1 x.2.2.2.2.1 x.2.2.2.2.2.1 x.2.2.2.2.2.2.1 x.2.2.2.2.2.2.2.1 x.2.2.2.2.2.2.2.2.1 x.2.2.2.2.2.2.2.2.2.1 x.2.2.2.2.2.2.2.2.2.2.1 x.2.2.2.2.2.2.2.2.2.2.2.1 x.2.2.2.2.2.2.2.2.2.2.2.2.1 (x.1,x.2.1,x.2.2.2.2.2.2.2.2.2.2.2.2.2)).bind (fun y0=>k (x.2.2.1,x.2.2.2.1,x.2.2.2.2.1,x.2.2.2.2.2.1,x.2.2.2.2.2.2.1,x.2.2.2.2.2.2.2.1,x.2.2.2.2.2.2.2.2.1,x.2.2.2.2.2.2.2.2.2.1,x.2.2.2.2.2.2.2.2.2.2.1,x.2.2.2.2.2.2.2.2.2.2.2.1,x.2.2.2.2.2.2.2.2.2.2.2.2.1,y0))
def qbj (x:tqx) (v:(Int×Int×Za)):tqx:=(v.1,v.2.1,x.2.2.1,x.2.2.2.1,x.2.2.2.2.1,x.2.2.2.2.2.1,x.2.2.2.2.2.2.1,x.2.2.2.2.2.2.2.1,x.2.2.2.2.2.2.2.2.1,x.2.2.2.2.2.2.2.2.2.1,x.2.2.2.2.2.2.2.2.2.2.1,x.2.2.2.2.2.2.2.2.2.2.2.1,x.2.2.2.2.2.2.2.2.2.2.2.2.1,v.2.2)
theorem qbk (x:tqx):LE.step X qbg q2 q0 qbb 12 x=WJ x.2.2.1 x.2.2.2.1 x.2.2.2.2.1 x.2.2.2.2.2.1 x.2.2.2.2.2.2.1 x.2.2.2.2.2.2.2.1 x.2.2.2.2.2.2.2.2.1 x.2.2.2.2.2.2.2.2.2.1 x.2.2.2.2.2.2.2.2.2.2.1 x.2.2.2.2.2.2.2.2.2.2.2.1 x.2.2.2.2.2.2.2.2.2.2.2.2.1 x.1 x.2.1 x.2.2.2.2.2.2.2.2.2.2.2.2.2 (fun w0 w1 w2=>(Sum.inl (w0,w1,x.2.2.1,x.2.2.2.1,x.2.2.2.2.1,x.2.2.2.2.2.1,x.2.2.2.2.2.2.1,x.2.2.2.2.2.2.2.1,x.2.2.2.2.2.2.2.2.1,x.2.2.2.2.2.2.2.2.2.1,x.2.2.2.2.2.2.2.2.2.2.1,x.2.2.2.2.2.2.2.2.2.2.2.1,x.2.2.2.2.2.2.2.2.2.2.2.2.1,w2))) (fun p0=>(Sum.inr (x.2.2.1,x.2.2.2.1,x.2.2.2.2.1,x.2.2.2.2.2.1,x.2.2.2.2.2.2.1,x.2.2.2.2.2.2.2.1,x.2.2.2.2.2.2.2.2.1,x.2.2.2.2.2.2.2.2.2.1,x.2.2.2.2.2.2.2.2.2.2.1,x.2.2.2.2.2.2.2.2.2.2.2.1,x.2.2.2.2.2.2.2.2.2.2.2.2.1,p0))):=by kernel_rfl
theorem qbm {R:Type} (x:tqx) (k:tqB→Option R) (r:R) (h:qbi x k=some r):∃o,Z5L (LE.step X qbg q2 q0 qbb 12) x o∧k o=some r:=by
 obtain⟨o,h1,h2⟩:=Z0 h;exact⟨qbh x o,Zjo (st:=fun(x:tqx)=>W0 x.2.2.1 x.2.2.2.1 x.2.2.2.2.1 x.2.2.2.2.2.1 x.2.2.2.2.2.2.1 x.2.2.2.2.2.2.2.1 x.2.2.2.2.2.2.2.2.1 x.2.2.2.2.2.2.2.2.2.1 x.2.2.2.2.2.2.2.2.2.2.1 x.2.2.2.2.2.2.2.2.2.2.2.1 x.2.2.2.2.2.2.2.2.2.2.2.2.1) (prj:=fun x=>(x.1,x.2.1,x.2.2.2.2.2.2.2.2.2.2.2.2.2)) (emb:=qbj) (embO:=qbh) (fun x=>(qbk x).trans (by unfold W0 WJ;simp only[Zji,Zj8,Zjj,Option.map_some,Option.map_none];rfl)) (fun _ _=>rfl) (fun _ _=>rfl) (fun _ _ _=>rfl) (fun _ _ _=>rfl) (fun _=>rfl) (Z28.1 h1),by first|exact h2|(rcases o with o<;>exact h2)⟩
def qbn {R:Type}:Z36 S R:=LE.ls X qbg qbi qbb
theorem qbo {R:Type}:Z58 X (qbn (R:=R)):=Zjt xok q3 (e:=qbg) q1 qbc qbm qbc
theorem qbp (x0:SgMooring):Zju X q2 [(.st 9)] [(.st 14)] q0 qbn 12 101 (x0,())=X33 x0:=by kernel_rfl
def qbq:F7 S:=⟨[(.st 9)],[(.st 14)],fun xs=>X33 xs.1⟩
theorem qbr:Zfl X 101 qbq:=Zjs (Zjr xok q3 q1 qbo 12 101) fun xs _ h=>(qbp xs.1).trans h
def qbs:List (Nat×F7 S):=[(100,qai),(25,q53)]
theorem qbt:ZbA X (qbs):=⟨qaj,q54,trivial⟩
def qbw:Key:=⟨[102],102,none,[0,0,1,0,1,1,1,1,1,1],0,89⟩
def qbx:StT S:=⟨(N (N (N L none (N L (some (.fn (.func 155) [] [(.ptr 16 0)])) L)) none (N L (some (.ptr 1 0)) L)) none v1B),o11,89⟩
def qby:Way S:=⟨.ret,⟨(N L none (N (N (N L vM L) none L) none L)),(N (N (N L on (N L none (N L none (N L none (N L on L))))) og (N L none o1C)) of (N (N (N (N L on L) none (N (N L ov L) none L)) none (N L none o1A)) on (N (N (N L none (N (N (N L on L) none L) none L)) none L) none L))),163⟩,[.bool,(.st 2),(.st 2),(.st 10),(.lst (.int .i64)),(.st 14),(.st 2),(.lst (.int .i64)),(.lst (.int .i64)),(.st 2),(.st 2)]⟩
def qbz:Way S:=⟨(.exit 0),⟨L,o11,93⟩,[(.st 2),(.st 10),(.lst (.int .i64)),(.st 14),(.st 2),(.lst (.int .i64)),(.lst (.int .i64)),(.st 2)]⟩
def qbA:LE S:=⟨qbw,qbx,[.int,(.st 2),(.st 10),(.lst (.int .i64)),(.st 14),(.st 2),(.lst (.int .i64)),(.lst (.int .i64)),(.st 2)],[qby,qbz]⟩
def qbB (x:tqE):((Bool×Point×Point)⊕Unit)→tqc:=Sum.elim (fun y0=>(.inl (y0.1,x.2.1,y0.2.1,x.2.2.1,x.2.2.2.1,x.2.2.2.2.1,x.2.2.2.2.2.1,x.2.2.2.2.2.2.1,x.2.2.2.2.2.2.2.1,x.2.2.2.2.2.2.2.2,y0.2.2))) (fun y1=>(.inr (x.2.1,x.2.2.1,x.2.2.2.1,x.2.2.2.2.1,x.2.2.2.2.2.1,x.2.2.2.2.2.2.1,x.2.2.2.2.2.2.2.1,x.2.2.2.2.2.2.2.2)))
def qbC {R:Type} (x:tqE) (k:tqc→Option R):Option R:=(X1H x.2.1 x.2.2.1 x.2.2.2.1 x.2.2.2.2.1 x.2.2.2.2.2.1 x.2.2.2.2.2.2.1 x.2.2.2.2.2.2.2.1 x.2.2.2.2.2.2.2.2 x.1).bind (Sum.elim (fun y0=>k (.inl (y0.1,x.2.1,y0.2.1,x.2.2.1,x.2.2.2.1,x.2.2.2.2.1,x.2.2.2.2.2.1,x.2.2.2.2.2.2.1,x.2.2.2.2.2.2.2.1,x.2.2.2.2.2.2.2.2,y0.2.2))) (fun y1=>k (.inr (x.2.1,x.2.2.1,x.2.2.2.1,x.2.2.2.2.1,x.2.2.2.2.2.1,x.2.2.2.2.2.2.1,x.2.2.2.2.2.2.2.1,x.2.2.2.2.2.2.2.2))))
def qbD (x:tqE) (v:Int):tqE:=(v,x.2.1,x.2.2.1,x.2.2.2.1,x.2.2.2.2.1,x.2.2.2.2.2.1,x.2.2.2.2.2.2.1,x.2.2.2.2.2.2.2.1,x.2.2.2.2.2.2.2.2)
theorem qbE (x:tqE):LE.step X qbA qbs q0 q4 12 x=Xl x.2.1 x.2.2.1 x.2.2.2.1 x.2.2.2.2.1 x.2.2.2.2.2.1 x.2.2.2.2.2.2.1 x.2.2.2.2.2.2.2.1 x.2.2.2.2.2.2.2.2 x.1 (fun w0=>(Sum.inl (w0,x.2.1,x.2.2.1,x.2.2.2.1,x.2.2.2.2.1,x.2.2.2.2.2.1,x.2.2.2.2.2.2.1,x.2.2.2.2.2.2.2.1,x.2.2.2.2.2.2.2.2))) (fun p0 p1 p2=>(Sum.inr (.inl (p0,x.2.1,p1,x.2.2.1,x.2.2.2.1,x.2.2.2.2.1,x.2.2.2.2.2.1,x.2.2.2.2.2.2.1,x.2.2.2.2.2.2.2.1,x.2.2.2.2.2.2.2.2,p2)))) (Sum.inr (.inr (x.2.1,x.2.2.1,x.2.2.2.1,x.2.2.2.2.1,x.2.2.2.2.2.1,x.2.2.2.2.2.2.1,x.2.2.2.2.2.2.2.1,x.2.2.2.2.2.2.2.2))):=by kernel_rfl
theorem qbG {R:Type} (x:tqE) (k:tqc→Option R) (r:R) (h:qbC x k=some r):∃o,Z5L (LE.step X qbA qbs q0 q4 12) x o∧k o=some r:=by
 obtain⟨o,h1,h2⟩:=Z0 h;exact⟨qbB x o,Zjo (st:=fun(x:tqE)=>Xe x.2.1 x.2.2.1 x.2.2.2.1 x.2.2.2.2.1 x.2.2.2.2.2.1 x.2.2.2.2.2.2.1 x.2.2.2.2.2.2.2.1 x.2.2.2.2.2.2.2.2) (prj:=fun x=>x.1) (emb:=qbD) (embO:=qbB) (fun x=>(qbE x).trans (by unfold Xe Xl;simp only[Zji,Zj8,Zjj,Option.map_some,Option.map_none];rfl)) (fun _ _=>rfl) (fun _ _=>rfl) (fun _ _ _=>rfl) (fun _ _ _=>rfl) (fun _=>rfl) (Z28.1 h1),by first|exact h2|(rcases o with o|o<;>exact h2)⟩
def qbH {R:Type}:Z36 S R:=LE.ls X qbA qbC q4
theorem qbI {R:Type}:Z58 X (qbH (R:=R)):=Zjt xok qbt (e:=qbA) q1 q5 qbG q5
theorem qbJ (x0:Za) (x1:ZD) (x2:Point) (x3:Point):Zju X qbs [(.st 14),(.st 10),(.st 2),(.st 2)] [.bool] q0 qbH 12 102 (x0,x1,x2,x3,())=XD x0 x1 x2 x3:=by kernel_rfl
def qbK:F7 S:=⟨[(.st 14),(.st 10),(.st 2),(.st 2)],[.bool],fun xs=>XD xs.1 xs.2.1 xs.2.2.1 xs.2.2.2.1⟩
theorem qbL:Zfl X 102 qbK:=Zjs (Zjr xok qbt q1 qbI 12 102) fun xs _ h=>(qbJ xs.1 xs.2.1 xs.2.2.1 xs.2.2.2.1).trans h
def qbM:List (Nat×F7 S):=[(102,qbK)]
theorem qbN:ZbA X (qbM):=⟨qbL,trivial⟩
def qbQ:Key:=⟨[107,2,11,5,7,107,0,106],107,none,[0,0,1,0,0,1,0,0,1,1],2,64⟩
def qbR:StT S:=⟨(N (N (N L vL L) (some (.ptr 45 0)) (N L vL L)) (some (.yld 49)) (N (N L vL L) none L)),oW,64⟩
def qbS:Way S:=⟨.ret,⟨L,oO,98⟩,[(.st 6),(.st 10),(.st 14),(.st 10),(.st 10),.int,(.st 14),.int,.int,(.st 6),(.st 14),(.st 2),(.st 2),(.arr (.int .u64)),.int]⟩
def qbT:Way S:=⟨(.exit 2),⟨v1g,oW,69⟩,[.int,.int,(.st 6),(.st 10),(.st 14),(.st 10),(.st 10),.int,(.st 14),.int,.int,(.st 6),(.st 14),(.st 2),(.arr (.int .u64)),.int]⟩
def qbU:LE S:=⟨qbQ,qbR,[.int,.int,.int,(.st 6),(.st 10),(.st 14),(.st 10),(.st 10),.int,(.st 14),.int,.int,(.st 6),(.st 14),(.st 2),(.arr (.int .u64)),.int],[qbS,qbT]⟩
def qbV (x:tqj):((Point×(Nat→Int))⊕Int)→tq5:=Sum.elim (fun y0=>(.inl (x.2.2.2.1,x.2.2.2.2.1,x.2.2.2.2.2.1,x.2.2.2.2.2.2.1,x.2.2.2.2.2.2.2.1,x.2.2.2.2.2.2.2.2.1,x.2.2.2.2.2.2.2.2.2.1,x.2.2.2.2.2.2.2.2.2.2.1,x.2.2.2.2.2.2.2.2.2.2.2.1,x.2.2.2.2.2.2.2.2.2.2.2.2.1,x.2.2.2.2.2.2.2.2.2.2.2.2.2.1,x.2.2.2.2.2.2.2.2.2.2.2.2.2.2.1,y0.1,y0.2,x.2.2.2.2.2.2.2.2.2.2.2.2.2.2.2.2))) (fun y1=>(.inr (y1,x.2.2.1,x.2.2.2.1,x.2.2.2.2.1,x.2.2.2.2.2.1,x.2.2.2.2.2.2.1,x.2.2.2.2.2.2.2.1,x.2.2.2.2.2.2.2.2.1,x.2.2.2.2.2.2.2.2.2.1,x.2.2.2.2.2.2.2.2.2.2.1,x.2.2.2.2.2.2.2.2.2.2.2.1,x.2.2.2.2.2.2.2.2.2.2.2.2.1,x.2.2.2.2.2.2.2.2.2.2.2.2.2.1,x.2.2.2.2.2.2.2.2.2.2.2.2.2.2.1,x.2.2.2.2.2.2.2.2.2.2.2.2.2.2.2.1,x.2.2.2.2.2.2.2.2.2.2.2.2.2.2.2.2)))
def qbW {R:Type} (x:tqj) (k:tq5→Option R):Option R:=(WO x.2.2.1 x.2.2.2.1 x.2.2.2.2.1 x.2.2.2.2.2.1 x.2.2.2.2.2.2.1 x.2.2.2.2.2.2.2.1 x.2.2.2.2.2.2.2.2.1 x.2.2.2.2.2.2.2.2.2.1 x.2.2.2.2.2.2.2.2.2.2.1 x.2.2.2.2.2.2.2.2.2.2.2.1 x.2.2.2.2.2.2.2.2.2.2.2.2.1 x.2.2.2.2.2.2.2.2.2.2.2.2.2.1 x.2.2.2.2.2.2.2.2.2.2.2.2.2.2.1 x.2.2.2.2.2.2.2.2.2.2.2.2.2.2.2.1 x.2.2.2.2.2.2.2.2.2.2.2.2.2.2.2.2 (x.1,x.2.1)).bind (Sum.elim (fun y0=>k (.inl (x.2.2.2.1,x.2.2.2.2.1,x.2.2.2.2.2.1,x.2.2.2.2.2.2.1,x.2.2.2.2.2.2.2.1,x.2.2.2.2.2.2.2.2.1,x.2.2.2.2.2.2.2.2.2.1,x.2.2.2.2.2.2.2.2.2.2.1,x.2.2.2.2.2.2.2.2.2.2.2.1,x.2.2.2.2.2.2.2.2.2.2.2.2.1,x.2.2.2.2.2.2.2.2.2.2.2.2.2.1,x.2.2.2.2.2.2.2.2.2.2.2.2.2.2.1,y0.1,y0.2,x.2.2.2.2.2.2.2.2.2.2.2.2.2.2.2.2))) (fun y1=>k (.inr (y1,x.2.2.1,x.2.2.2.1,x.2.2.2.2.1,x.2.2.2.2.2.1,x.2.2.2.2.2.2.1,x.2.2.2.2.2.2.2.1,x.2.2.2.2.2.2.2.2.1,x.2.2.2.2.2.2.2.2.2.1,x.2.2.2.2.2.2.2.2.2.2.1,x.2.2.2.2.2.2.2.2.2.2.2.1,x.2.2.2.2.2.2.2.2.2.2.2.2.1,x.2.2.2.2.2.2.2.2.2.2.2.2.2.1,x.2.2.2.2.2.2.2.2.2.2.2.2.2.2.1,x.2.2.2.2.2.2.2.2.2.2.2.2.2.2.2.1,x.2.2.2.2.2.2.2.2.2.2.2.2.2.2.2.2))))
def qbX (x:tqj) (v:(Int×Int)):tqj:=(v.1,v.2,x.2.2.1,x.2.2.2.1,x.2.2.2.2.1,x.2.2.2.2.2.1,x.2.2.2.2.2.2.1,x.2.2.2.2.2.2.2.1,x.2.2.2.2.2.2.2.2.1,x.2.2.2.2.2.2.2.2.2.1,x.2.2.2.2.2.2.2.2.2.2.1,x.2.2.2.2.2.2.2.2.2.2.2.1,x.2.2.2.2.2.2.2.2.2.2.2.2.1,x.2.2.2.2.2.2.2.2.2.2.2.2.2.1,x.2.2.2.2.2.2.2.2.2.2.2.2.2.2.1,x.2.2.2.2.2.2.2.2.2.2.2.2.2.2.2.1,x.2.2.2.2.2.2.2.2.2.2.2.2.2.2.2.2)
theorem qbY (x:tqj):LE.step X qbU qbM q0 q4 12 x=Xk x.2.2.1 x.2.2.2.1 x.2.2.2.2.1 x.2.2.2.2.2.1 x.2.2.2.2.2.2.1 x.2.2.2.2.2.2.2.1 x.2.2.2.2.2.2.2.2.1 x.2.2.2.2.2.2.2.2.2.1 x.2.2.2.2.2.2.2.2.2.2.1 x.2.2.2.2.2.2.2.2.2.2.2.1 x.2.2.2.2.2.2.2.2.2.2.2.2.1 x.2.2.2.2.2.2.2.2.2.2.2.2.2.1 x.2.2.2.2.2.2.2.2.2.2.2.2.2.2.1 x.2.2.2.2.2.2.2.2.2.2.2.2.2.2.2.1 x.2.2.2.2.2.2.2.2.2.2.2.2.2.2.2.2 x.1 x.2.1 (fun w0 w1=>(Sum.inl (w0,w1,x.2.2.1,x.2.2.2.1,x.2.2.2.2.1,x.2.2.2.2.2.1,x.2.2.2.2.2.2.1,x.2.2.2.2.2.2.2.1,x.2.2.2.2.2.2.2.2.1,x.2.2.2.2.2.2.2.2.2.1,x.2.2.2.2.2.2.2.2.2.2.1,x.2.2.2.2.2.2.2.2.2.2.2.1,x.2.2.2.2.2.2.2.2.2.2.2.2.1,x.2.2.2.2.2.2.2.2.2.2.2.2.2.1,x.2.2.2.2.2.2.2.2.2.2.2.2.2.2.1,x.2.2.2.2.2.2.2.2.2.2.2.2.2.2.2.1,x.2.2.2.2.2.2.2.2.2.2.2.2.2.2.2.2))) (fun p0 p1=>(Sum.inr (.inl (x.2.2.2.1,x.2.2.2.2.1,x.2.2.2.2.2.1,x.2.2.2.2.2.2.1,x.2.2.2.2.2.2.2.1,x.2.2.2.2.2.2.2.2.1,x.2.2.2.2.2.2.2.2.2.1,x.2.2.2.2.2.2.2.2.2.2.1,x.2.2.2.2.2.2.2.2.2.2.2.1,x.2.2.2.2.2.2.2.2.2.2.2.2.1,x.2.2.2.2.2.2.2.2.2.2.2.2.2.1,x.2.2.2.2.2.2.2.2.2.2.2.2.2.2.1,p0,p1,x.2.2.2.2.2.2.2.2.2.2.2.2.2.2.2.2)))) (fun p0=>(Sum.inr (.inr (p0,x.2.2.1,x.2.2.2.1,x.2.2.2.2.1,x.2.2.2.2.2.1,x.2.2.2.2.2.2.1,x.2.2.2.2.2.2.2.1,x.2.2.2.2.2.2.2.2.1,x.2.2.2.2.2.2.2.2.2.1,x.2.2.2.2.2.2.2.2.2.2.1,x.2.2.2.2.2.2.2.2.2.2.2.1,x.2.2.2.2.2.2.2.2.2.2.2.2.1,x.2.2.2.2.2.2.2.2.2.2.2.2.2.1,x.2.2.2.2.2.2.2.2.2.2.2.2.2.2.1,x.2.2.2.2.2.2.2.2.2.2.2.2.2.2.2.1,x.2.2.2.2.2.2.2.2.2.2.2.2.2.2.2.2)))):=by kernel_rfl
theorem qc0 {R:Type} (x:tqj) (k:tq5→Option R) (r:R) (h:qbW x k=some r):∃o,Z5L (LE.step X qbU qbM q0 q4 12) x o∧k o=some r:=by
 obtain⟨o,h1,h2⟩:=Z0 h;exact⟨qbV x o,Zjo (st:=fun(x:tqj)=>Xd x.2.2.1 x.2.2.2.1 x.2.2.2.2.1 x.2.2.2.2.2.1 x.2.2.2.2.2.2.1 x.2.2.2.2.2.2.2.1 x.2.2.2.2.2.2.2.2.1 x.2.2.2.2.2.2.2.2.2.1 x.2.2.2.2.2.2.2.2.2.2.1 x.2.2.2.2.2.2.2.2.2.2.2.1 x.2.2.2.2.2.2.2.2.2.2.2.2.1 x.2.2.2.2.2.2.2.2.2.2.2.2.2.1 x.2.2.2.2.2.2.2.2.2.2.2.2.2.2.1 x.2.2.2.2.2.2.2.2.2.2.2.2.2.2.2.1 x.2.2.2.2.2.2.2.2.2.2.2.2.2.2.2.2) (prj:=fun x=>(x.1,x.2.1)) (emb:=qbX) (embO:=qbV) (fun x=>(qbY x).trans (by unfold Xd Xk;simp only[Zji,Zj8,Zjj,Option.map_some,Option.map_none];rfl)) (fun _ _=>rfl) (fun _ _=>rfl) (fun _ _ _=>rfl) (fun _ _ _=>rfl) (fun _=>rfl) (Z28.1 h1),by first|exact h2|(rcases o with o|o<;>exact h2)⟩
def qc1 {R:Type}:Z36 S R:=LE.ls X qbU qbW q4
theorem qc2 {R:Type}:Z58 X (qc1 (R:=R)):=Zjt xok qbN (e:=qbU) q1 q5 qc0 q5
def qc3:Key:=⟨[107,2,11,5,7,107,0,106],107,none,[0,0,1,1],0,55⟩
def qc4:StT S:=⟨v1g,oW,55⟩
def qc6:Way S:=⟨(.exit 0),⟨L,oW,60⟩,[(.st 6),(.st 10),(.st 14),(.st 10),(.st 10),.int,(.st 14),.int,.int,(.st 6),(.st 14),(.st 2),(.arr (.int .u64)),.int]⟩
def qc7:LE S:=⟨qc3,qc4,[.int,.int,(.st 6),(.st 10),(.st 14),(.st 10),(.st 10),.int,(.st 14),.int,.int,(.st 6),(.st 14),(.st 2),(.arr (.int .u64)),.int],[qbS,qc6]⟩
def qc8 (x:tqk):((Point×(Nat→Int))⊕Unit)→tq8:=Sum.elim (fun y0=>(.inl (x.2.2.1,x.2.2.2.1,x.2.2.2.2.1,x.2.2.2.2.2.1,x.2.2.2.2.2.2.1,x.2.2.2.2.2.2.2.1,x.2.2.2.2.2.2.2.2.1,x.2.2.2.2.2.2.2.2.2.1,x.2.2.2.2.2.2.2.2.2.2.1,x.2.2.2.2.2.2.2.2.2.2.2.1,x.2.2.2.2.2.2.2.2.2.2.2.2.1,x.2.2.2.2.2.2.2.2.2.2.2.2.2.1,y0.1,y0.2,x.2.2.2.2.2.2.2.2.2.2.2.2.2.2.2))) (fun y1=>(.inr (x.2.2.1,x.2.2.2.1,x.2.2.2.2.1,x.2.2.2.2.2.1,x.2.2.2.2.2.2.1,x.2.2.2.2.2.2.2.1,x.2.2.2.2.2.2.2.2.1,x.2.2.2.2.2.2.2.2.2.1,x.2.2.2.2.2.2.2.2.2.2.1,x.2.2.2.2.2.2.2.2.2.2.2.1,x.2.2.2.2.2.2.2.2.2.2.2.2.1,x.2.2.2.2.2.2.2.2.2.2.2.2.2.1,x.2.2.2.2.2.2.2.2.2.2.2.2.2.2.1,x.2.2.2.2.2.2.2.2.2.2.2.2.2.2.2)))
def qc9 {R:Type} (x:tqk) (k:tq8→Option R):Option R:=(WN x.2.2.1 x.2.2.2.1 x.2.2.2.2.1 x.2.2.2.2.2.1 x.2.2.2.2.2.2.1 x.2.2.2.2.2.2.2.1 x.2.2.2.2.2.2.2.2.1 x.2.2.2.2.2.2.2.2.2.1 x.2.2.2.2.2.2.2.2.2.2.1 x.2.2.2.2.2.2.2.2.2.2.2.1 x.2.2.2.2.2.2.2.2.2.2.2.2.1 x.2.2.2.2.2.2.2.2.2.2.2.2.2.1 x.2.2.2.2.2.2.2.2.2.2.2.2.2.2.1 x.2.2.2.2.2.2.2.2.2.2.2.2.2.2.2 (x.1,x.2.1)).bind (Sum.elim (fun y0=>k (.inl (x.2.2.1,x.2.2.2.1,x.2.2.2.2.1,x.2.2.2.2.2.1,x.2.2.2.2.2.2.1,x.2.2.2.2.2.2.2.1,x.2.2.2.2.2.2.2.2.1,x.2.2.2.2.2.2.2.2.2.1,x.2.2.2.2.2.2.2.2.2.2.1,x.2.2.2.2.2.2.2.2.2.2.2.1,x.2.2.2.2.2.2.2.2.2.2.2.2.1,x.2.2.2.2.2.2.2.2.2.2.2.2.2.1,y0.1,y0.2,x.2.2.2.2.2.2.2.2.2.2.2.2.2.2.2))) (fun y1=>k (.inr (x.2.2.1,x.2.2.2.1,x.2.2.2.2.1,x.2.2.2.2.2.1,x.2.2.2.2.2.2.1,x.2.2.2.2.2.2.2.1,x.2.2.2.2.2.2.2.2.1,x.2.2.2.2.2.2.2.2.2.1,x.2.2.2.2.2.2.2.2.2.2.1,x.2.2.2.2.2.2.2.2.2.2.2.1,x.2.2.2.2.2.2.2.2.2.2.2.2.1,x.2.2.2.2.2.2.2.2.2.2.2.2.2.1,x.2.2.2.2.2.2.2.2.2.2.2.2.2.2.1,x.2.2.2.2.2.2.2.2.2.2.2.2.2.2.2))))
def qca (x:tqk) (v:(Int×Int)):tqk:=(v.1,v.2,x.2.2.1,x.2.2.2.1,x.2.2.2.2.1,x.2.2.2.2.2.1,x.2.2.2.2.2.2.1,x.2.2.2.2.2.2.2.1,x.2.2.2.2.2.2.2.2.1,x.2.2.2.2.2.2.2.2.2.1,x.2.2.2.2.2.2.2.2.2.2.1,x.2.2.2.2.2.2.2.2.2.2.2.1,x.2.2.2.2.2.2.2.2.2.2.2.2.1,x.2.2.2.2.2.2.2.2.2.2.2.2.2.1,x.2.2.2.2.2.2.2.2.2.2.2.2.2.2.1,x.2.2.2.2.2.2.2.2.2.2.2.2.2.2.2)
theorem qcb (x:tqk):LE.step X qc7 qbM q0 qc1 12 x=Xj x.2.2.1 x.2.2.2.1 x.2.2.2.2.1 x.2.2.2.2.2.1 x.2.2.2.2.2.2.1 x.2.2.2.2.2.2.2.1 x.2.2.2.2.2.2.2.2.1 x.2.2.2.2.2.2.2.2.2.1 x.2.2.2.2.2.2.2.2.2.2.1 x.2.2.2.2.2.2.2.2.2.2.2.1 x.2.2.2.2.2.2.2.2.2.2.2.2.1 x.2.2.2.2.2.2.2.2.2.2.2.2.2.1 x.2.2.2.2.2.2.2.2.2.2.2.2.2.2.1 x.2.2.2.2.2.2.2.2.2.2.2.2.2.2.2 x.1 x.2.1 (fun w0 w1=>(Sum.inl (w0,w1,x.2.2.1,x.2.2.2.1,x.2.2.2.2.1,x.2.2.2.2.2.1,x.2.2.2.2.2.2.1,x.2.2.2.2.2.2.2.1,x.2.2.2.2.2.2.2.2.1,x.2.2.2.2.2.2.2.2.2.1,x.2.2.2.2.2.2.2.2.2.2.1,x.2.2.2.2.2.2.2.2.2.2.2.1,x.2.2.2.2.2.2.2.2.2.2.2.2.1,x.2.2.2.2.2.2.2.2.2.2.2.2.2.1,x.2.2.2.2.2.2.2.2.2.2.2.2.2.2.1,x.2.2.2.2.2.2.2.2.2.2.2.2.2.2.2))) (fun p0 p1=>(Sum.inr (.inl (x.2.2.1,x.2.2.2.1,x.2.2.2.2.1,x.2.2.2.2.2.1,x.2.2.2.2.2.2.1,x.2.2.2.2.2.2.2.1,x.2.2.2.2.2.2.2.2.1,x.2.2.2.2.2.2.2.2.2.1,x.2.2.2.2.2.2.2.2.2.2.1,x.2.2.2.2.2.2.2.2.2.2.2.1,x.2.2.2.2.2.2.2.2.2.2.2.2.1,x.2.2.2.2.2.2.2.2.2.2.2.2.2.1,p0,p1,x.2.2.2.2.2.2.2.2.2.2.2.2.2.2.2)))) (Sum.inr (.inr (x.2.2.1,x.2.2.2.1,x.2.2.2.2.1,x.2.2.2.2.2.1,x.2.2.2.2.2.2.1,x.2.2.2.2.2.2.2.1,x.2.2.2.2.2.2.2.2.1,x.2.2.2.2.2.2.2.2.2.1,x.2.2.2.2.2.2.2.2.2.2.1,x.2.2.2.2.2.2.2.2.2.2.2.1,x.2.2.2.2.2.2.2.2.2.2.2.2.1,x.2.2.2.2.2.2.2.2.2.2.2.2.2.1,x.2.2.2.2.2.2.2.2.2.2.2.2.2.2.1,x.2.2.2.2.2.2.2.2.2.2.2.2.2.2.2))):=by kernel_rfl
theorem qcd {R:Type} (x:tqk) (k:tq8→Option R) (r:R) (h:qc9 x k=some r):∃o,Z5L (LE.step X qc7 qbM q0 qc1 12) x o∧k o=some r:=by
 obtain⟨o,h1,h2⟩:=Z0 h;exact⟨qc8 x o,Zjo (st:=fun(x:tqk)=>X6 x.2.2.1 x.2.2.2.1 x.2.2.2.2.1 x.2.2.2.2.2.1 x.2.2.2.2.2.2.1 x.2.2.2.2.2.2.2.1 x.2.2.2.2.2.2.2.2.1 x.2.2.2.2.2.2.2.2.2.1 x.2.2.2.2.2.2.2.2.2.2.1 x.2.2.2.2.2.2.2.2.2.2.2.1 x.2.2.2.2.2.2.2.2.2.2.2.2.1 x.2.2.2.2.2.2.2.2.2.2.2.2.2.1 x.2.2.2.2.2.2.2.2.2.2.2.2.2.2.1 x.2.2.2.2.2.2.2.2.2.2.2.2.2.2.2) (prj:=fun x=>(x.1,x.2.1)) (emb:=qca) (embO:=qc8) (fun x=>(qcb x).trans (by unfold X6 Xj;simp only[Zji,Zj8,Zjj,Option.map_some,Option.map_none];rfl)) (fun _ _=>rfl) (fun _ _=>rfl) (fun _ _ _=>rfl) (fun _ _ _=>rfl) (fun _=>rfl) (Z28.1 h1),by first|exact h2|(rcases o with o|o<;>exact h2)⟩
def qce {R:Type}:Z36 S R:=LE.ls X qc7 qc9 qc1
theorem qcf {R:Type}:Z58 X (qce (R:=R)):=Zjt xok qbN (e:=qc7) q1 qc2 qcd qc2
def qcg:Key:=⟨[107,0,106],107,none,[0,0,1,0,0,1,0,0,1,1],2,26⟩
def qch:StT S:=⟨(N (N (N L vL L) (some (.ptr 7 0)) (N L vL L)) (some (.yld 11)) (N (N L vL L) none L)),o1r,26⟩
def qci:Way S:=⟨(.exit 2),⟨v1l,o1r,31⟩,[.int,.int,(.st 6),(.st 10),(.st 14),(.st 10),(.st 14),(.arr (.int .u64))]⟩
def qcj:LE S:=⟨qcg,qch,[.int,.int,.int,(.st 6),(.st 10),(.st 14),(.st 10),(.st 14),(.arr (.int .u64))],[qci]⟩
def qck (x:tqH):(Int×(Nat→Int))→tqI:=fun y0=>(y0.1,x.2.2.1,x.2.2.2.1,x.2.2.2.2.1,x.2.2.2.2.2.1,x.2.2.2.2.2.2.1,x.2.2.2.2.2.2.2.1,y0.2)
def qcl {R:Type} (x:tqH) (k:tqI→Option R):Option R:=(WM x.2.2.1 x.2.2.2.1 x.2.2.2.2.1 x.2.2.2.2.2.1 x.2.2.2.2.2.2.1 x.2.2.2.2.2.2.2.1 (x.1,x.2.1,x.2.2.2.2.2.2.2.2)).bind (fun y0=>k (y0.1,x.2.2.1,x.2.2.2.1,x.2.2.2.2.1,x.2.2.2.2.2.1,x.2.2.2.2.2.2.1,x.2.2.2.2.2.2.2.1,y0.2))
def qcm (x:tqH) (v:(Int×Int×(Nat→Int))):tqH:=(v.1,v.2.1,x.2.2.1,x.2.2.2.1,x.2.2.2.2.1,x.2.2.2.2.2.1,x.2.2.2.2.2.2.1,x.2.2.2.2.2.2.2.1,v.2.2)
theorem qcn (x:tqH):LE.step X qcj qbM q0 qce 12 x=Xi x.2.2.1 x.2.2.2.1 x.2.2.2.2.1 x.2.2.2.2.2.1 x.2.2.2.2.2.2.1 x.2.2.2.2.2.2.2.1 x.1 x.2.1 x.2.2.2.2.2.2.2.2 (fun w0 w1 w2=>(Sum.inl (w0,w1,x.2.2.1,x.2.2.2.1,x.2.2.2.2.1,x.2.2.2.2.2.1,x.2.2.2.2.2.2.1,x.2.2.2.2.2.2.2.1,w2))) (fun p0 p1=>(Sum.inr (p0,x.2.2.1,x.2.2.2.1,x.2.2.2.2.1,x.2.2.2.2.2.1,x.2.2.2.2.2.2.1,x.2.2.2.2.2.2.2.1,p1))):=by kernel_rfl
theorem qcp {R:Type} (x:tqH) (k:tqI→Option R) (r:R) (h:qcl x k=some r):∃o,Z5L (LE.step X qcj qbM q0 qce 12) x o∧k o=some r:=by
 obtain⟨o,h1,h2⟩:=Z0 h;exact⟨qck x o,Zjo (st:=fun(x:tqH)=>Xc x.2.2.1 x.2.2.2.1 x.2.2.2.2.1 x.2.2.2.2.2.1 x.2.2.2.2.2.2.1 x.2.2.2.2.2.2.2.1) (prj:=fun x=>(x.1,x.2.1,x.2.2.2.2.2.2.2.2)) (emb:=qcm) (embO:=qck) (fun x=>(qcn x).trans (by unfold Xc Xi;simp only[Zji,Zj8,Zjj,Option.map_some,Option.map_none];rfl)) (fun _ _=>rfl) (fun _ _=>rfl) (fun _ _ _=>rfl) (fun _ _ _=>rfl) (fun _=>rfl) (Z28.1 h1),by first|exact h2|(rcases o with o<;>exact h2)⟩
def qcq {R:Type}:Z36 S R:=LE.ls X qcj qcl qce
theorem qcr {R:Type}:Z58 X (qcq (R:=R)):=Zjt xok qbN (e:=qcj) q1 qcf qcp qcf
def qcs:Key:=⟨[107,0,106],107,none,[0,0,1,1],0,17⟩
def qct:StT S:=⟨v1l,o1r,17⟩
def qcu:Way S:=⟨(.exit 0),⟨L,o1r,22⟩,[(.st 6),(.st 10),(.st 14),(.st 10),(.st 14),(.arr (.int .u64))]⟩
def qcv:LE S:=⟨qcs,qct,[.int,.int,(.st 6),(.st 10),(.st 14),(.st 10),(.st 14),(.arr (.int .u64))],[qcu]⟩
def qcw (x:tqI):(Nat→Int)→tqM:=fun y0=>(x.2.2.1,x.2.2.2.1,x.2.2.2.2.1,x.2.2.2.2.2.1,x.2.2.2.2.2.2.1,y0)
def qcx {R:Type} (x:tqI) (k:tqM→Option R):Option R:=(WL x.2.2.1 x.2.2.2.1 x.2.2.2.2.1 x.2.2.2.2.2.1 x.2.2.2.2.2.2.1 (x.1,x.2.1,x.2.2.2.2.2.2.2)).bind (fun y0=>k (x.2.2.1,x.2.2.2.1,x.2.2.2.2.1,x.2.2.2.2.2.1,x.2.2.2.2.2.2.1,y0))
def qcy (x:tqI) (v:(Int×Int×(Nat→Int))):tqI:=(v.1,v.2.1,x.2.2.1,x.2.2.2.1,x.2.2.2.2.1,x.2.2.2.2.2.1,x.2.2.2.2.2.2.1,v.2.2)
theorem qcz (x:tqI):LE.step X qcv qbM q0 qcq 12 x=Xh x.2.2.1 x.2.2.2.1 x.2.2.2.2.1 x.2.2.2.2.2.1 x.2.2.2.2.2.2.1 x.1 x.2.1 x.2.2.2.2.2.2.2 (fun w0 w1 w2=>(Sum.inl (w0,w1,x.2.2.1,x.2.2.2.1,x.2.2.2.2.1,x.2.2.2.2.2.1,x.2.2.2.2.2.2.1,w2))) (fun p0=>(Sum.inr (x.2.2.1,x.2.2.2.1,x.2.2.2.2.1,x.2.2.2.2.2.1,x.2.2.2.2.2.2.1,p0))):=by kernel_rfl
theorem qcB {R:Type} (x:tqI) (k:tqM→Option R) (r:R) (h:qcx x k=some r):∃o,Z5L (LE.step X qcv qbM q0 qcq 12) x o∧k o=some r:=by
 obtain⟨o,h1,h2⟩:=Z0 h;exact⟨qcw x o,Zjo (st:=fun(x:tqI)=>X7 x.2.2.1 x.2.2.2.1 x.2.2.2.2.1 x.2.2.2.2.2.1 x.2.2.2.2.2.2.1) (prj:=fun x=>(x.1,x.2.1,x.2.2.2.2.2.2.2)) (emb:=qcy) (embO:=qcw) (fun x=>(qcz x).trans (by unfold X7 Xh;simp only[Zji,Zj8,Zjj,Option.map_some,Option.map_none];rfl)) (fun _ _=>rfl) (fun _ _=>rfl) (fun _ _ _=>rfl) (fun _ _ _=>rfl) (fun _=>rfl) (Z28.1 h1),by first|exact h2|(rcases o with o<;>exact h2)⟩
def qcC {R:Type}:Z36 S R:=LE.ls X qcv qcx qcq
theorem qcD {R:Type}:Z58 X (qcC (R:=R)):=Zjt xok qbN (e:=qcv) q1 qcr qcB qcr
theorem qcE (x0:Za) (x1:ZD):Zju X qbM [(.st 14),(.st 10)] [(.arr 5 (.int .u64))] q0 qcC 12 106 (x0,x1,())=WI x0 x1:=by kernel_rfl
def qcF:F7 S:=⟨[(.st 14),(.st 10)],[(.arr 5 (.int .u64))],fun xs=>WI xs.1 xs.2.1⟩
theorem qcG:Zfl X 106 qcF:=Zjs (Zjr xok qbN q1 qcD 12 106) fun xs _ h=>(qcE xs.1 xs.2.1).trans h
def qcH:List (Nat×F7 S):=[(99,qaV),(101,qbq),(106,qcF)]
theorem qcI:ZbA X (qcH):=⟨qaW,qbr,qcG,trivial⟩
def qcL:Key:=⟨[49],49,none,[0,0,1,0,1,1,1],0,19⟩
def qcM:StT S:=⟨(N (N v1B none (N L (some (.rs 19 0)) (N (N L vI L) none L))) none (N (N L (some (.ptr 1 0)) L) none v1w)),o1c,20⟩
def qcN:Way S:=⟨(.exit 0),⟨(N (N L none (N L (some (.rs 19 0)) L)) none (N (N L (some (.ptr 1 0)) L) none L)),o1c,21⟩,[(.lst (.arr 5 (.int .u64))),(.st 14),(.st 9)]⟩
def qcO:LE S:=⟨qcL,qcM,[.int,(.lst (.st 10)),.int,(.lst (.arr 5 (.int .u64))),(.st 14),(.st 9)],[qcN]⟩
def qcP (x:tqJ):(List (Nat→Int))→tqX:=fun y0=>(y0,x.2.2.2.2.1,x.2.2.2.2.2)
def qcQ {R:Type} (x:tqJ) (k:tqX→Option R):Option R:=(X32 x.2.1 x.2.2.1 x.2.2.2.2.1 x.2.2.2.2.2 (x.1,x.2.2.2.1)).bind (fun y0=>k (y0,x.2.2.2.2.1,x.2.2.2.2.2))
def qcR (x:tqJ) (v:(Int×(List (Nat→Int)))):tqJ:=(v.1,x.2.1,x.2.2.1,v.2,x.2.2.2.2.1,x.2.2.2.2.2)
theorem qcS (x:tqJ):LE.step X qcO qcH q0 q4 12 x=Wv x.2.1 x.2.2.1 x.2.2.2.2.1 x.2.2.2.2.2 x.1 x.2.2.2.1 (fun w0 w1=>(Sum.inl (w0,x.2.1,x.2.2.1,w1,x.2.2.2.2.1,x.2.2.2.2.2))) (fun p0=>(Sum.inr (p0,x.2.2.2.2.1,x.2.2.2.2.2))):=by kernel_rfl
theorem qcU {R:Type} (x:tqJ) (k:tqX→Option R) (r:R) (h:qcQ x k=some r):∃o,Z5L (LE.step X qcO qcH q0 q4 12) x o∧k o=some r:=by
 obtain⟨o,h1,h2⟩:=Z0 h;exact⟨qcP x o,Zjo (st:=fun(x:tqJ)=>Wm x.2.1 x.2.2.1 x.2.2.2.2.1 x.2.2.2.2.2) (prj:=fun x=>(x.1,x.2.2.2.1)) (emb:=qcR) (embO:=qcP) (fun x=>(qcS x).trans (by unfold Wm Wv;simp only[Zji,Zj8,Zjj,Option.map_some,Option.map_none];rfl)) (fun _ _=>rfl) (fun _ _=>rfl) (fun _ _ _=>rfl) (fun _ _ _=>rfl) (fun _=>rfl) (Z28.1 h1),by first|exact h2|(rcases o with o<;>exact h2)⟩
def qcV {R:Type}:Z36 S R:=LE.ls X qcO qcQ q4
theorem qcW {R:Type}:Z58 X (qcV (R:=R)):=Zjt xok qcI (e:=qcO) q1 q5 qcU q5
theorem qcX (x0:SgMooring) (x1:List ZD):Zju X qcH [(.st 9),(.sl (.st 10))] [(.st 14),(.sl (.arr 5 (.int .u64))),(.int .i64)] q0 qcV 12 49 (x0,x1,())=X21 x0 x1:=by kernel_rfl
def qcY:F7 S:=⟨[(.st 9),(.sl (.st 10))],[(.st 14),(.sl (.arr 5 (.int .u64))),(.int .i64)],fun xs=>X21 xs.1 xs.2.1⟩
theorem qcZ:Zfl X 49 qcY:=Zjs (Zjr xok qcI q1 qcW 12 49) fun xs _ h=>(qcX xs.1 xs.2.1).trans h
def qd4:Key:=⟨[103],103,none,[0,0,1,0,1],0,5⟩
def qd5:StT S:=⟨(N (N (N (N L (some (.agg [(.arr (.int .u64) 5 (fun _=>tdf T (.int .u64)))])) L) (some (.ptr 1 0)) L) none L) none (N (N (N L vL L) (some (.ptr 2 0)) L) none L)),(N (N L oa L) oa (N L oa L)),5⟩
def qd6:Way S:=⟨(.exit 0),⟨(N L none (N (N L (some (.ptr 2 0)) L) none L)),(N (N L oa L) oa (N L oa L)),6⟩,[(.arr (.int .u64)),(.arr (.int .u64)),(.arr (.int .u64))]⟩
def qd7:LE S:=⟨qd4,qd5,[(.arr (.int .u64)),.int,(.arr (.int .u64)),(.arr (.int .u64)),(.arr (.int .u64))],[qd6]⟩
def qd8 (x:tqS):(Nat→Int)→((Nat→Int)×(Nat→Int)×(Nat→Int)):=fun y0=>(x.2.2.1,x.2.2.2.1,y0)
def qd9 {R:Type} (x:tqS) (k:((Nat→Int)×(Nat→Int)×(Nat→Int))→Option R):Option R:=(X22 x.1 x.2.2.1 x.2.2.2.1 (x.2.1,x.2.2.2.2)).bind (fun y0=>k (x.2.2.1,x.2.2.2.1,y0))
def qda (x:tqS) (v:(Int×(Nat→Int))):tqS:=(x.1,v.1,x.2.2.1,x.2.2.2.1,v.2)
theorem qdb (x:tqS):LE.step X qd7 q2 q0 q4 12 x=XA x.1 x.2.2.1 x.2.2.2.1 x.2.1 x.2.2.2.2 (fun w0 w1=>(Sum.inl (x.1,w0,x.2.2.1,x.2.2.2.1,w1))) (fun p0=>(Sum.inr (x.2.2.1,x.2.2.2.1,p0))):=by kernel_rfl
theorem qdd {R:Type} (x:tqS) (k:((Nat→Int)×(Nat→Int)×(Nat→Int))→Option R) (r:R) (h:qd9 x k=some r):∃o,Z5L (LE.step X qd7 q2 q0 q4 12) x o∧k o=some r:=by
 obtain⟨o,h1,h2⟩:=Z0 h;exact⟨qd8 x o,Zjo (st:=fun(x:tqS)=>Xq x.1 x.2.2.1 x.2.2.2.1) (prj:=fun x=>(x.2.1,x.2.2.2.2)) (emb:=qda) (embO:=qd8) (fun x=>(qdb x).trans (by unfold Xq XA;simp only[Zji,Zj8,Zjj,Option.map_some,Option.map_none];rfl)) (fun _ _=>rfl) (fun _ _=>rfl) (fun _ _ _=>rfl) (fun _ _ _=>rfl) (fun _=>rfl) (Z28.1 h1),by first|exact h2|(rcases o with o<;>exact h2)⟩
def qde {R:Type}:Z36 S R:=LE.ls X qd7 qd9 q4
theorem qdf {R:Type}:Z58 X (qde (R:=R)):=Zjt xok q3 (e:=qd7) q1 q5 qdd q5
theorem qdg (x0:Nat→Int) (x1:Nat→Int):Zju X q2 [(.arr 5 (.int .u64)),(.arr 5 (.int .u64))] [(.arr 5 (.int .u64))] q0 qde 12 103 (x0,x1,())=X1a x0 x1:=by kernel_rfl
def qdh:F7 S:=⟨[(.arr 5 (.int .u64)),(.arr 5 (.int .u64))],[(.arr 5 (.int .u64))],fun xs=>X1a xs.1 xs.2.1⟩
theorem qdi:Zfl X 103 qdh:=Zjs (Zjr xok q3 q1 qdf 12 103) fun xs _ h=>(qdg xs.1 xs.2.1).trans h
def qdj:List (Nat×F7 S):=[(103,qdh)]
theorem qdk:ZbA X (qdj):=⟨qdi,trivial⟩
def qdn:Key:=⟨[50],50,none,[0,0,1,0,1],0,5⟩
def qdo:StT S:=⟨(N v1w none (N (N (N L vt L) (some (.ptr 1 0)) L) (some (.ptr 0 0)) (N (N L vL L) none L))),(N (N L oa L) oa L),5⟩
def qdp:Way S:=⟨(.exit 0),⟨(N L none (N (N L (some (.ptr 1 0)) L) (some (.ptr 0 0)) L)),(N (N L oa L) oa L),6⟩,[(.arr (.int .u64)),(.arr (.int .u64))]⟩
def qdq:LE S:=⟨qdn,qdo,[.int,(.lst (.arr 5 (.int .u64))),.int,(.arr (.int .u64)),(.arr (.int .u64))],[qdp]⟩
def qdr (x:tqT):(Nat→Int)→((Nat→Int)×(Nat→Int)):=fun y0=>(x.2.2.2.1,y0)
def qds {R:Type} (x:tqT) (k:((Nat→Int)×(Nat→Int))→Option R):Option R:=(X3g x.1 x.2.1 x.2.2.2.1 (x.2.2.1,x.2.2.2.2)).bind (fun y0=>k (x.2.2.2.1,y0))
def qdt (x:tqT) (v:(Int×(Nat→Int))):tqT:=(x.1,x.2.1,v.1,x.2.2.2.1,v.2)
theorem qdu (x:tqT):LE.step X qdq qdj q0 q4 12 x=WH x.1 x.2.1 x.2.2.2.1 x.2.2.1 x.2.2.2.2 (fun w0 w1=>(Sum.inl (x.1,x.2.1,w0,x.2.2.2.1,w1))) (fun p0=>(Sum.inr (x.2.2.2.1,p0))):=by kernel_rfl
theorem qdw {R:Type} (x:tqT) (k:((Nat→Int)×(Nat→Int))→Option R) (r:R) (h:qds x k=some r):∃o,Z5L (LE.step X qdq qdj q0 q4 12) x o∧k o=some r:=by
 obtain⟨o,h1,h2⟩:=Z0 h;exact⟨qdr x o,Zjo (st:=fun(x:tqT)=>WB x.1 x.2.1 x.2.2.2.1) (prj:=fun x=>(x.2.2.1,x.2.2.2.2)) (emb:=qdt) (embO:=qdr) (fun x=>(qdu x).trans (by unfold WB WH;simp only[Zji,Zj8,Zjj,Option.map_some,Option.map_none];rfl)) (fun _ _=>rfl) (fun _ _=>rfl) (fun _ _ _=>rfl) (fun _ _ _=>rfl) (fun _=>rfl) (Z28.1 h1),by first|exact h2|(rcases o with o<;>exact h2)⟩
def qdx {R:Type}:Z36 S R:=LE.ls X qdq qds q4
theorem qdy {R:Type}:Z58 X (qdx (R:=R)):=Zjt xok qdk (e:=qdq) q1 q5 qdw q5
theorem qdz (x0:Nat→Int) (x1:List (Nat→Int)):Zju X qdj [(.arr 5 (.int .u64)),(.sl (.arr 5 (.int .u64)))] [(.arr 5 (.int .u64))] q0 qdx 12 50 (x0,x1,())=X2h x0 x1:=by kernel_rfl
def qdA:F7 S:=⟨[(.arr 5 (.int .u64)),(.sl (.arr 5 (.int .u64)))],[(.arr 5 (.int .u64))],fun xs=>X2h xs.1 xs.2.1⟩
theorem qdB:Zfl X 50 qdA:=Zjs (Zjr xok qdk q1 qdy 12 50) fun xs _ h=>(qdz xs.1 xs.2.1).trans h
theorem qdG (x0:Nat→Int) (x1:Int):Zju X q2 [(.arr 5 (.int .u64)),(.int .i64)] [.bool] q0 q4 12 52 (x0,x1,())=X1q x0 x1:=by kernel_rfl
def qdH:F7 S:=⟨[(.arr 5 (.int .u64)),(.int .i64)],[.bool],fun xs=>X1q xs.1 xs.2.1⟩
theorem qdI:Zfl X 52 qdH:=Zjs (Zjr xok q3 q1 q5 12 52) fun xs _ h=>(qdG xs.1 xs.2.1).trans h
def qdJ:List (Nat×F7 S):=[(49,qcY),(50,qdA),(52,qdH)]
theorem qdK:ZbA X (qdJ):=⟨qcZ,qdB,qdI,trivial⟩
def qdN:Key:=⟨[107,0,8],107,none,[0,0,1,0,0,1,0,0,1,1],2,46⟩
def qdO:StT S:=⟨(N (N (N L vL L) (some (.ptr 25 0)) (N L vL L)) (some (.yld 30)) (N (N L vL L) none L)),o12,47⟩
def qdP:Way S:=⟨(.exit 2),⟨v1h,o12,52⟩,[.int,.int,(.st 6),(.st 9),(.arr (.int .u64)),(.st 14),(.lst (.st 2)),(.lst (.arr 5 (.int .u64))),.bool,(.lst (.st 10)),.int,(.st 9)]⟩
def qdQ:LE S:=⟨qdN,qdO,[.int,.int,.int,(.st 6),(.st 9),(.arr (.int .u64)),(.st 14),(.lst (.st 2)),(.lst (.arr 5 (.int .u64))),.bool,(.lst (.st 10)),.int,(.st 9)],[qdP]⟩
def qdR (x:tqm):(Int×(List Point))→tqn:=fun y0=>(y0.1,x.2.2.1,x.2.2.2.1,x.2.2.2.2.1,x.2.2.2.2.2.1,x.2.2.2.2.2.2.1,y0.2,x.2.2.2.2.2.2.2.2.1,x.2.2.2.2.2.2.2.2.2.1,x.2.2.2.2.2.2.2.2.2.2.1,x.2.2.2.2.2.2.2.2.2.2.2.1,x.2.2.2.2.2.2.2.2.2.2.2.2)
def qdS {R:Type} (x:tqm) (k:tqn→Option R):Option R:=(X1y x.2.2.1 x.2.2.2.1 x.2.2.2.2.1 x.2.2.2.2.2.1 x.2.2.2.2.2.2.1 x.2.2.2.2.2.2.2.2.1 x.2.2.2.2.2.2.2.2.2.1 x.2.2.2.2.2.2.2.2.2.2.1 x.2.2.2.2.2.2.2.2.2.2.2.1 x.2.2.2.2.2.2.2.2.2.2.2.2 (x.1,x.2.1,x.2.2.2.2.2.2.2.1)).bind (fun y0=>k (y0.1,x.2.2.1,x.2.2.2.1,x.2.2.2.2.1,x.2.2.2.2.2.1,x.2.2.2.2.2.2.1,y0.2,x.2.2.2.2.2.2.2.2.1,x.2.2.2.2.2.2.2.2.2.1,x.2.2.2.2.2.2.2.2.2.2.1,x.2.2.2.2.2.2.2.2.2.2.2.1,x.2.2.2.2.2.2.2.2.2.2.2.2))
def qdT (x:tqm) (v:X6z):tqm:=(v.1,v.2.1,x.2.2.1,x.2.2.2.1,x.2.2.2.2.1,x.2.2.2.2.2.1,x.2.2.2.2.2.2.1,v.2.2,x.2.2.2.2.2.2.2.2.1,x.2.2.2.2.2.2.2.2.2.1,x.2.2.2.2.2.2.2.2.2.2.1,x.2.2.2.2.2.2.2.2.2.2.2.1,x.2.2.2.2.2.2.2.2.2.2.2.2)
theorem qdU (x:tqm):LE.step X qdQ qdJ q0 q4 12 x=XO x.2.2.1 x.2.2.2.1 x.2.2.2.2.1 x.2.2.2.2.2.1 x.2.2.2.2.2.2.1 x.2.2.2.2.2.2.2.2.1 x.2.2.2.2.2.2.2.2.2.1 x.2.2.2.2.2.2.2.2.2.2.1 x.2.2.2.2.2.2.2.2.2.2.2.1 x.2.2.2.2.2.2.2.2.2.2.2.2 x.1 x.2.1 x.2.2.2.2.2.2.2.1 (fun w0 w1 w2=>(Sum.inl (w0,w1,x.2.2.1,x.2.2.2.1,x.2.2.2.2.1,x.2.2.2.2.2.1,x.2.2.2.2.2.2.1,w2,x.2.2.2.2.2.2.2.2.1,x.2.2.2.2.2.2.2.2.2.1,x.2.2.2.2.2.2.2.2.2.2.1,x.2.2.2.2.2.2.2.2.2.2.2.1,x.2.2.2.2.2.2.2.2.2.2.2.2))) (fun p0 p1=>(Sum.inr (p0,x.2.2.1,x.2.2.2.1,x.2.2.2.2.1,x.2.2.2.2.2.1,x.2.2.2.2.2.2.1,p1,x.2.2.2.2.2.2.2.2.1,x.2.2.2.2.2.2.2.2.2.1,x.2.2.2.2.2.2.2.2.2.2.1,x.2.2.2.2.2.2.2.2.2.2.2.1,x.2.2.2.2.2.2.2.2.2.2.2.2))):=by kernel_rfl
theorem qdW {R:Type} (x:tqm) (k:tqn→Option R) (r:R) (h:qdS x k=some r):∃o,Z5L (LE.step X qdQ qdJ q0 q4 12) x o∧k o=some r:=by
 obtain⟨o,h1,h2⟩:=Z0 h;exact⟨qdR x o,Zjo (st:=fun(x:tqm)=>XI x.2.2.1 x.2.2.2.1 x.2.2.2.2.1 x.2.2.2.2.2.1 x.2.2.2.2.2.2.1 x.2.2.2.2.2.2.2.2.1 x.2.2.2.2.2.2.2.2.2.1 x.2.2.2.2.2.2.2.2.2.2.1 x.2.2.2.2.2.2.2.2.2.2.2.1 x.2.2.2.2.2.2.2.2.2.2.2.2) (prj:=fun x=>(x.1,x.2.1,x.2.2.2.2.2.2.2.1)) (emb:=qdT) (embO:=qdR) (fun x=>(qdU x).trans (by unfold XI XO;simp only[Zji,Zj8,Zjj,Option.map_some,Option.map_none];rfl)) (fun _ _=>rfl) (fun _ _=>rfl) (fun _ _ _=>rfl) (fun _ _ _=>rfl) (fun _=>rfl) (Z28.1 h1),by first|exact h2|(rcases o with o<;>exact h2)⟩
def qdX {R:Type}:Z36 S R:=LE.ls X qdQ qdS q4
theorem qdY {R:Type}:Z58 X (qdX (R:=R)):=Zjt xok qdK (e:=qdQ) q1 q5 qdW q5
def qdZ:Key:=⟨[107,0,8],107,none,[0,0,1,1],0,36⟩
def qe0:StT S:=⟨v1h,o13,37⟩
def qe1:Way S:=⟨(.exit 0),⟨L,o13,42⟩,[(.st 6),(.st 9),(.lst (.st 2)),(.arr (.int .u64)),(.st 14),(.lst (.arr 5 (.int .u64))),.bool,(.lst (.st 10)),.int,(.st 9)]⟩
def qe2:LE S:=⟨qdZ,qe0,[.int,.int,(.st 6),(.st 9),(.lst (.st 2)),(.arr (.int .u64)),(.st 14),(.lst (.arr 5 (.int .u64))),.bool,(.lst (.st 10)),.int,(.st 9)],[qe1]⟩
def qe3 (x:tqo):(List Point)→tqr:=fun y0=>(x.2.2.1,x.2.2.2.1,y0,x.2.2.2.2.2.1,x.2.2.2.2.2.2.1,x.2.2.2.2.2.2.2.1,x.2.2.2.2.2.2.2.2.1,x.2.2.2.2.2.2.2.2.2.1,x.2.2.2.2.2.2.2.2.2.2.1,x.2.2.2.2.2.2.2.2.2.2.2)
def qe4 {R:Type} (x:tqo) (k:tqr→Option R):Option R:=(X1x x.2.2.1 x.2.2.2.1 x.2.2.2.2.2.1 x.2.2.2.2.2.2.1 x.2.2.2.2.2.2.2.1 x.2.2.2.2.2.2.2.2.1 x.2.2.2.2.2.2.2.2.2.1 x.2.2.2.2.2.2.2.2.2.2.1 x.2.2.2.2.2.2.2.2.2.2.2 (x.1,x.2.1,x.2.2.2.2.1)).bind (fun y0=>k (x.2.2.1,x.2.2.2.1,y0,x.2.2.2.2.2.1,x.2.2.2.2.2.2.1,x.2.2.2.2.2.2.2.1,x.2.2.2.2.2.2.2.2.1,x.2.2.2.2.2.2.2.2.2.1,x.2.2.2.2.2.2.2.2.2.2.1,x.2.2.2.2.2.2.2.2.2.2.2))
def qe5 (x:tqo) (v:X6z):tqo:=(v.1,v.2.1,x.2.2.1,x.2.2.2.1,v.2.2,x.2.2.2.2.2.1,x.2.2.2.2.2.2.1,x.2.2.2.2.2.2.2.1,x.2.2.2.2.2.2.2.2.1,x.2.2.2.2.2.2.2.2.2.1,x.2.2.2.2.2.2.2.2.2.2.1,x.2.2.2.2.2.2.2.2.2.2.2)
theorem qe6 (x:tqo):LE.step X qe2 qdJ q0 qdX 12 x=XN x.2.2.1 x.2.2.2.1 x.2.2.2.2.2.1 x.2.2.2.2.2.2.1 x.2.2.2.2.2.2.2.1 x.2.2.2.2.2.2.2.2.1 x.2.2.2.2.2.2.2.2.2.1 x.2.2.2.2.2.2.2.2.2.2.1 x.2.2.2.2.2.2.2.2.2.2.2 x.1 x.2.1 x.2.2.2.2.1 (fun w0 w1 w2=>(Sum.inl (w0,w1,x.2.2.1,x.2.2.2.1,w2,x.2.2.2.2.2.1,x.2.2.2.2.2.2.1,x.2.2.2.2.2.2.2.1,x.2.2.2.2.2.2.2.2.1,x.2.2.2.2.2.2.2.2.2.1,x.2.2.2.2.2.2.2.2.2.2.1,x.2.2.2.2.2.2.2.2.2.2.2))) (fun p0=>(Sum.inr (x.2.2.1,x.2.2.2.1,p0,x.2.2.2.2.2.1,x.2.2.2.2.2.2.1,x.2.2.2.2.2.2.2.1,x.2.2.2.2.2.2.2.2.1,x.2.2.2.2.2.2.2.2.2.1,x.2.2.2.2.2.2.2.2.2.2.1,x.2.2.2.2.2.2.2.2.2.2.2))):=by kernel_rfl
theorem qe8 {R:Type} (x:tqo) (k:tqr→Option R) (r:R) (h:qe4 x k=some r):∃o,Z5L (LE.step X qe2 qdJ q0 qdX 12) x o∧k o=some r:=by
 obtain⟨o,h1,h2⟩:=Z0 h;exact⟨qe3 x o,Zjo (st:=fun(x:tqo)=>Xr x.2.2.1 x.2.2.2.1 x.2.2.2.2.2.1 x.2.2.2.2.2.2.1 x.2.2.2.2.2.2.2.1 x.2.2.2.2.2.2.2.2.1 x.2.2.2.2.2.2.2.2.2.1 x.2.2.2.2.2.2.2.2.2.2.1 x.2.2.2.2.2.2.2.2.2.2.2) (prj:=fun x=>(x.1,x.2.1,x.2.2.2.2.1)) (emb:=qe5) (embO:=qe3) (fun x=>(qe6 x).trans (by unfold Xr XN;simp only[Zji,Zj8,Zjj,Option.map_some,Option.map_none];rfl)) (fun _ _=>rfl) (fun _ _=>rfl) (fun _ _ _=>rfl) (fun _ _ _=>rfl) (fun _=>rfl) (Z28.1 h1),by first|exact h2|(rcases o with o<;>exact h2)⟩
def qe9 {R:Type}:Z36 S R:=LE.ls X qe2 qe4 qdX
theorem qea {R:Type}:Z58 X (qe9 (R:=R)):=Zjt xok qdK (e:=qe2) q1 qdY qe8 qdY
theorem qeb (x0:SgMooring) (x1:List ZD):Zju X qdJ [(.st 9),(.sl (.st 10))] [(.sl (.st 2)),(.int .i64)] q0 qe9 12 8 (x0,x1,())=X1p x0 x1:=by kernel_rfl
def qec:F7 S:=⟨[(.st 9),(.sl (.st 10))],[(.sl (.st 2)),(.int .i64)],fun xs=>X1p xs.1 xs.2.1⟩
theorem qed:Zfl X 8 qec:=Zjs (Zjr xok qdK q1 qea 12 8) fun xs _ h=>(qeb xs.1 xs.2.1).trans h
def qee:List (Nat×F7 S):=[(49,qcY),(99,qaV),(50,qdA),(52,qdH),(102,qbK)]
theorem qef:ZbA X (qee):=⟨qcZ,qaW,qdB,qdI,qbL,trivial⟩
def qei:Key:=⟨[107,2,44,5,7,107,0,46],107,none,[0,0,1,0,0,1,0,0,1,1],2,99⟩
def qej:StT S:=⟨(N (N (N L vL L) (some (.ptr 78 0)) (N L vL L)) (some (.yld 83)) (N (N L vL L) none L)),oT,100⟩
def qek:Way S:=⟨.ret,⟨L,oN,130⟩,[(.lst (.st 2)),(.arr (.int .u64)),(.st 6),(.lst (.st 2)),.int,.bool,(.lst (.st 10)),.bool,(.lst (.arr 5 (.int .u64))),.bool,.int,(.st 9),(.st 10),.int,.int,(.st 14),(.st 10),(.st 2),(.st 2),(.st 9),.int,.bool,(.lst (.st 10)),.bool,(.lst (.arr 5 (.int .u64))),.bool,(.st 9),(.st 10),(.st 6)]⟩
def qel:Way S:=⟨(.exit 2),⟨v1i,oT,105⟩,[.int,.int,(.arr (.int .u64)),(.st 6),(.lst (.st 2)),.int,.bool,(.lst (.st 10)),.bool,(.lst (.arr 5 (.int .u64))),.bool,.int,(.st 9),(.st 10),.int,.int,(.st 14),(.st 10),(.st 2),(.st 9),.int,.bool,(.lst (.st 10)),.bool,(.lst (.arr 5 (.int .u64))),.bool,(.st 9),(.st 10),(.st 6)]⟩
def qem:LE S:=⟨qei,qej,[.int,.int,.int,(.arr (.int .u64)),(.st 6),(.lst (.st 2)),.int,.bool,(.lst (.st 10)),.bool,(.lst (.arr 5 (.int .u64))),.bool,.int,(.st 9),(.st 10),.int,.int,(.st 14),(.st 10),(.st 2),(.st 9),.int,.bool,(.lst (.st 10)),.bool,(.lst (.arr 5 (.int .u64))),.bool,(.st 9),(.st 10),(.st 6)],[qek,qel]⟩
def qen (x:tq6):(((List Point)×(List Point)×Point)⊕Int)→tq0:=Sum.elim (fun y0=>(.inl (y0.1,x.2.2.2.1,x.2.2.2.2.1,y0.2.1,x.2.2.2.2.2.2.1,x.2.2.2.2.2.2.2.1,x.2.2.2.2.2.2.2.2.1,x.2.2.2.2.2.2.2.2.2.1,x.2.2.2.2.2.2.2.2.2.2.1,x.2.2.2.2.2.2.2.2.2.2.2.1,x.2.2.2.2.2.2.2.2.2.2.2.2.1,x.2.2.2.2.2.2.2.2.2.2.2.2.2.1,x.2.2.2.2.2.2.2.2.2.2.2.2.2.2.1,x.2.2.2.2.2.2.2.2.2.2.2.2.2.2.2.1,x.2.2.2.2.2.2.2.2.2.2.2.2.2.2.2.2.1,x.2.2.2.2.2.2.2.2.2.2.2.2.2.2.2.2.2.1,x.2.2.2.2.2.2.2.2.2.2.2.2.2.2.2.2.2.2.1,y0.2.2,x.2.2.2.2.2.2.2.2.2.2.2.2.2.2.2.2.2.2.2.1,x.2.2.2.2.2.2.2.2.2.2.2.2.2.2.2.2.2.2.2.2.1,x.2.2.2.2.2.2.2.2.2.2.2.2.2.2.2.2.2.2.2.2.2.1,x.2.2.2.2.2.2.2.2.2.2.2.2.2.2.2.2.2.2.2.2.2.2.1,x.2.2.2.2.2.2.2.2.2.2.2.2.2.2.2.2.2.2.2.2.2.2.2.1,x.2.2.2.2.2.2.2.2.2.2.2.2.2.2.2.2.2.2.2.2.2.2.2.2.1,x.2.2.2.2.2.2.2.2.2.2.2.2.2.2.2.2.2.2.2.2.2.2.2.2.2.1,x.2.2.2.2.2.2.2.2.2.2.2.2.2.2.2.2.2.2.2.2.2.2.2.2.2.2.1,x.2.2.2.2.2.2.2.2.2.2.2.2.2.2.2.2.2.2.2.2.2.2.2.2.2.2.2.1,x.2.2.2.2.2.2.2.2.2.2.2.2.2.2.2.2.2.2.2.2.2.2.2.2.2.2.2.2.1,x.2.2.2.2.2.2.2.2.2.2.2.2.2.2.2.2.2.2.2.2.2.2.2.2.2.2.2.2.2))) (fun y1=>(.inr (y1,x.2.2.1,x.2.2.2.1,x.2.2.2.2.1,x.2.2.2.2.2.1,x.2.2.2.2.2.2.1,x.2.2.2.2.2.2.2.1,x.2.2.2.2.2.2.2.2.1,x.2.2.2.2.2.2.2.2.2.1,x.2.2.2.2.2.2.2.2.2.2.1,x.2.2.2.2.2.2.2.2.2.2.2.1,x.2.2.2.2.2.2.2.2.2.2.2.2.1,x.2.2.2.2.2.2.2.2.2.2.2.2.2.1,x.2.2.2.2.2.2.2.2.2.2.2.2.2.2.1,x.2.2.2.2.2.2.2.2.2.2.2.2.2.2.2.1,x.2.2.2.2.2.2.2.2.2.2.2.2.2.2.2.2.1,x.2.2.2.2.2.2.2.2.2.2.2.2.2.2.2.2.2.1,x.2.2.2.2.2.2.2.2.2.2.2.2.2.2.2.2.2.2.1,x.2.2.2.2.2.2.2.2.2.2.2.2.2.2.2.2.2.2.2.1,x.2.2.2.2.2.2.2.2.2.2.2.2.2.2.2.2.2.2.2.2.1,x.2.2.2.2.2.2.2.2.2.2.2.2.2.2.2.2.2.2.2.2.2.1,x.2.2.2.2.2.2.2.2.2.2.2.2.2.2.2.2.2.2.2.2.2.2.1,x.2.2.2.2.2.2.2.2.2.2.2.2.2.2.2.2.2.2.2.2.2.2.2.1,x.2.2.2.2.2.2.2.2.2.2.2.2.2.2.2.2.2.2.2.2.2.2.2.2.1,x.2.2.2.2.2.2.2.2.2.2.2.2.2.2.2.2.2.2.2.2.2.2.2.2.2.1,x.2.2.2.2.2.2.2.2.2.2.2.2.2.2.2.2.2.2.2.2.2.2.2.2.2.2.1,x.2.2.2.2.2.2.2.2.2.2.2.2.2.2.2.2.2.2.2.2.2.2.2.2.2.2.2.1,x.2.2.2.2.2.2.2.2.2.2.2.2.2.2.2.2.2.2.2.2.2.2.2.2.2.2.2.2.1,x.2.2.2.2.2.2.2.2.2.2.2.2.2.2.2.2.2.2.2.2.2.2.2.2.2.2.2.2.2)))
def qeo {R:Type} (x:tq6) (k:tq0→Option R):Option R:=(X1O x.2.2.1 x.2.2.2.1 x.2.2.2.2.1 x.2.2.2.2.2.1 x.2.2.2.2.2.2.1 x.2.2.2.2.2.2.2.1 x.2.2.2.2.2.2.2.2.1 x.2.2.2.2.2.2.2.2.2.1 x.2.2.2.2.2.2.2.2.2.2.1 x.2.2.2.2.2.2.2.2.2.2.2.1 x.2.2.2.2.2.2.2.2.2.2.2.2.1 x.2.2.2.2.2.2.2.2.2.2.2.2.2.1 x.2.2.2.2.2.2.2.2.2.2.2.2.2.2.1 x.2.2.2.2.2.2.2.2.2.2.2.2.2.2.2.1 x.2.2.2.2.2.2.2.2.2.2.2.2.2.2.2.2.1 x.2.2.2.2.2.2.2.2.2.2.2.2.2.2.2.2.2.1 x.2.2.2.2.2.2.2.2.2.2.2.2.2.2.2.2.2.2.1 x.2.2.2.2.2.2.2.2.2.2.2.2.2.2.2.2.2.2.2.1 x.2.2.2.2.2.2.2.2.2.2.2.2.2.2.2.2.2.2.2.2.1 x.2.2.2.2.2.2.2.2.2.2.2.2.2.2.2.2.2.2.2.2.2.1 x.2.2.2.2.2.2.2.2.2.2.2.2.2.2.2.2.2.2.2.2.2.2.1 x.2.2.2.2.2.2.2.2.2.2.2.2.2.2.2.2.2.2.2.2.2.2.2.1 x.2.2.2.2.2.2.2.2.2.2.2.2.2.2.2.2.2.2.2.2.2.2.2.2.1 x.2.2.2.2.2.2.2.2.2.2.2.2.2.2.2.2.2.2.2.2.2.2.2.2.2.1 x.2.2.2.2.2.2.2.2.2.2.2.2.2.2.2.2.2.2.2.2.2.2.2.2.2.2.1 x.2.2.2.2.2.2.2.2.2.2.2.2.2.2.2.2.2.2.2.2.2.2.2.2.2.2.2.1 x.2.2.2.2.2.2.2.2.2.2.2.2.2.2.2.2.2.2.2.2.2.2.2.2.2.2.2.2.1 x.2.2.2.2.2.2.2.2.2.2.2.2.2.2.2.2.2.2.2.2.2.2.2.2.2.2.2.2.2 (x.1,x.2.1)).bind (Sum.elim (fun y0=>k (.inl (y0.1,x.2.2.2.1,x.2.2.2.2.1,y0.2.1,x.2.2.2.2.2.2.1,x.2.2.2.2.2.2.2.1,x.2.2.2.2.2.2.2.2.1,x.2.2.2.2.2.2.2.2.2.1,x.2.2.2.2.2.2.2.2.2.2.1,x.2.2.2.2.2.2.2.2.2.2.2.1,x.2.2.2.2.2.2.2.2.2.2.2.2.1,x.2.2.2.2.2.2.2.2.2.2.2.2.2.1,x.2.2.2.2.2.2.2.2.2.2.2.2.2.2.1,x.2.2.2.2.2.2.2.2.2.2.2.2.2.2.2.1,x.2.2.2.2.2.2.2.2.2.2.2.2.2.2.2.2.1,x.2.2.2.2.2.2.2.2.2.2.2.2.2.2.2.2.2.1,x.2.2.2.2.2.2.2.2.2.2.2.2.2.2.2.2.2.2.1,y0.2.2,x.2.2.2.2.2.2.2.2.2.2.2.2.2.2.2.2.2.2.2.1,x.2.2.2.2.2.2.2.2.2.2.2.2.2.2.2.2.2.2.2.2.1,x.2.2.2.2.2.2.2.2.2.2.2.2.2.2.2.2.2.2.2.2.2.1,x.2.2.2.2.2.2.2.2.2.2.2.2.2.2.2.2.2.2.2.2.2.2.1,x.2.2.2.2.2.2.2.2.2.2.2.2.2.2.2.2.2.2.2.2.2.2.2.1,x.2.2.2.2.2.2.2.2.2.2.2.2.2.2.2.2.2.2.2.2.2.2.2.2.1,x.2.2.2.2.2.2.2.2.2.2.2.2.2.2.2.2.2.2.2.2.2.2.2.2.2.1,x.2.2.2.2.2.2.2.2.2.2.2.2.2.2.2.2.2.2.2.2.2.2.2.2.2.2.1,x.2.2.2.2.2.2.2.2.2.2.2.2.2.2.2.2.2.2.2.2.2.2.2.2.2.2.2.1,x.2.2.2.2.2.2.2.2.2.2.2.2.2.2.2.2.2.2.2.2.2.2.2.2.2.2.2.2.1,x.2.2.2.2.2.2.2.2.2.2.2.2.2.2.2.2.2.2.2.2.2.2.2.2.2.2.2.2.2))) (fun y1=>k (.inr (y1,x.2.2.1,x.2.2.2.1,x.2.2.2.2.1,x.2.2.2.2.2.1,x.2.2.2.2.2.2.1,x.2.2.2.2.2.2.2.1,x.2.2.2.2.2.2.2.2.1,x.2.2.2.2.2.2.2.2.2.1,x.2.2.2.2.2.2.2.2.2.2.1,x.2.2.2.2.2.2.2.2.2.2.2.1,x.2.2.2.2.2.2.2.2.2.2.2.2.1,x.2.2.2.2.2.2.2.2.2.2.2.2.2.1,x.2.2.2.2.2.2.2.2.2.2.2.2.2.2.1,x.2.2.2.2.2.2.2.2.2.2.2.2.2.2.2.1,x.2.2.2.2.2.2.2.2.2.2.2.2.2.2.2.2.1,x.2.2.2.2.2.2.2.2.2.2.2.2.2.2.2.2.2.1,x.2.2.2.2.2.2.2.2.2.2.2.2.2.2.2.2.2.2.1,x.2.2.2.2.2.2.2.2.2.2.2.2.2.2.2.2.2.2.2.1,x.2.2.2.2.2.2.2.2.2.2.2.2.2.2.2.2.2.2.2.2.1,x.2.2.2.2.2.2.2.2.2.2.2.2.2.2.2.2.2.2.2.2.2.1,x.2.2.2.2.2.2.2.2.2.2.2.2.2.2.2.2.2.2.2.2.2.2.1,x.2.2.2.2.2.2.2.2.2.2.2.2.2.2.2.2.2.2.2.2.2.2.2.1,x.2.2.2.2.2.2.2.2.2.2.2.2.2.2.2.2.2.2.2.2.2.2.2.2.1,x.2.2.2.2.2.2.2.2.2.2.2.2.2.2.2.2.2.2.2.2.2.2.2.2.2.1,x.2.2.2.2.2.2.2.2.2.2.2.2.2.2.2.2.2.2.2.2.2.2.2.2.2.2.1,x.2.2.2.2.2.2.2.2.2.2.2.2.2.2.2.2.2.2.2.2.2.2.2.2.2.2.2.1,x.2.2.2.2.2.2.2.2.2.2.2.2.2.2.2.2.2.2.2.2.2.2.2.2.2.2.2.2.1,x.2.2.2.2.2.2.2.2.2.2.2.2.2.2.2.2.2.2.2.2.2.2.2.2.2.2.2.2.2))))
def qep (x:tq6) (v:(Int×Int)):tq6:=(v.1,v.2,x.2.2.1,x.2.2.2.1,x.2.2.2.2.1,x.2.2.2.2.2.1,x.2.2.2.2.2.2.1,x.2.2.2.2.2.2.2.1,x.2.2.2.2.2.2.2.2.1,x.2.2.2.2.2.2.2.2.2.1,x.2.2.2.2.2.2.2.2.2.2.1,x.2.2.2.2.2.2.2.2.2.2.2.1,x.2.2.2.2.2.2.2.2.2.2.2.2.1,x.2.2.2.2.2.2.2.2.2.2.2.2.2.1,x.2.2.2.2.2.2.2.2.2.2.2.2.2.2.1,x.2.2.2.2.2.2.2.2.2.2.2.2.2.2.2.1,x.2.2.2.2.2.2.2.2.2.2.2.2.2.2.2.2.1,x.2.2.2.2.2.2.2.2.2.2.2.2.2.2.2.2.2.1,x.2.2.2.2.2.2.2.2.2.2.2.2.2.2.2.2.2.2.1,x.2.2.2.2.2.2.2.2.2.2.2.2.2.2.2.2.2.2.2.1,x.2.2.2.2.2.2.2.2.2.2.2.2.2.2.2.2.2.2.2.2.1,x.2.2.2.2.2.2.2.2.2.2.2.2.2.2.2.2.2.2.2.2.2.1,x.2.2.2.2.2.2.2.2.2.2.2.2.2.2.2.2.2.2.2.2.2.2.1,x.2.2.2.2.2.2.2.2.2.2.2.2.2.2.2.2.2.2.2.2.2.2.2.1,x.2.2.2.2.2.2.2.2.2.2.2.2.2.2.2.2.2.2.2.2.2.2.2.2.1,x.2.2.2.2.2.2.2.2.2.2.2.2.2.2.2.2.2.2.2.2.2.2.2.2.2.1,x.2.2.2.2.2.2.2.2.2.2.2.2.2.2.2.2.2.2.2.2.2.2.2.2.2.2.1,x.2.2.2.2.2.2.2.2.2.2.2.2.2.2.2.2.2.2.2.2.2.2.2.2.2.2.2.1,x.2.2.2.2.2.2.2.2.2.2.2.2.2.2.2.2.2.2.2.2.2.2.2.2.2.2.2.2.1,x.2.2.2.2.2.2.2.2.2.2.2.2.2.2.2.2.2.2.2.2.2.2.2.2.2.2.2.2.2)
theorem qeq (x:tq6):LE.step X qem qee q0 q4 12 x=We x.2.2.1 x.2.2.2.1 x.2.2.2.2.1 x.2.2.2.2.2.1 x.2.2.2.2.2.2.1 x.2.2.2.2.2.2.2.1 x.2.2.2.2.2.2.2.2.1 x.2.2.2.2.2.2.2.2.2.1 x.2.2.2.2.2.2.2.2.2.2.1 x.2.2.2.2.2.2.2.2.2.2.2.1 x.2.2.2.2.2.2.2.2.2.2.2.2.1 x.2.2.2.2.2.2.2.2.2.2.2.2.2.1 x.2.2.2.2.2.2.2.2.2.2.2.2.2.2.1 x.2.2.2.2.2.2.2.2.2.2.2.2.2.2.2.1 x.2.2.2.2.2.2.2.2.2.2.2.2.2.2.2.2.1 x.2.2.2.2.2.2.2.2.2.2.2.2.2.2.2.2.2.1 x.2.2.2.2.2.2.2.2.2.2.2.2.2.2.2.2.2.2.1 x.2.2.2.2.2.2.2.2.2.2.2.2.2.2.2.2.2.2.2.1 x.2.2.2.2.2.2.2.2.2.2.2.2.2.2.2.2.2.2.2.2.1 x.2.2.2.2.2.2.2.2.2.2.2.2.2.2.2.2.2.2.2.2.2.1 x.2.2.2.2.2.2.2.2.2.2.2.2.2.2.2.2.2.2.2.2.2.2.1 x.2.2.2.2.2.2.2.2.2.2.2.2.2.2.2.2.2.2.2.2.2.2.2.1 x.2.2.2.2.2.2.2.2.2.2.2.2.2.2.2.2.2.2.2.2.2.2.2.2.1 x.2.2.2.2.2.2.2.2.2.2.2.2.2.2.2.2.2.2.2.2.2.2.2.2.2.1 x.2.2.2.2.2.2.2.2.2.2.2.2.2.2.2.2.2.2.2.2.2.2.2.2.2.2.1 x.2.2.2.2.2.2.2.2.2.2.2.2.2.2.2.2.2.2.2.2.2.2.2.2.2.2.2.1 x.2.2.2.2.2.2.2.2.2.2.2.2.2.2.2.2.2.2.2.2.2.2.2.2.2.2.2.2.1 x.2.2.2.2.2.2.2.2.2.2.2.2.2.2.2.2.2.2.2.2.2.2.2.2.2.2.2.2.2 x.1 x.2.1 (fun w0 w1=>(Sum.inl (w0,w1,x.2.2.1,x.2.2.2.1,x.2.2.2.2.1,x.2.2.2.2.2.1,x.2.2.2.2.2.2.1,x.2.2.2.2.2.2.2.1,x.2.2.2.2.2.2.2.2.1,x.2.2.2.2.2.2.2.2.2.1,x.2.2.2.2.2.2.2.2.2.2.1,x.2.2.2.2.2.2.2.2.2.2.2.1,x.2.2.2.2.2.2.2.2.2.2.2.2.1,x.2.2.2.2.2.2.2.2.2.2.2.2.2.1,x.2.2.2.2.2.2.2.2.2.2.2.2.2.2.1,x.2.2.2.2.2.2.2.2.2.2.2.2.2.2.2.1,x.2.2.2.2.2.2.2.2.2.2.2.2.2.2.2.2.1,x.2.2.2.2.2.2.2.2.2.2.2.2.2.2.2.2.2.1,x.2.2.2.2.2.2.2.2.2.2.2.2.2.2.2.2.2.2.1,x.2.2.2.2.2.2.2.2.2.2.2.2.2.2.2.2.2.2.2.1,x.2.2.2.2.2.2.2.2.2.2.2.2.2.2.2.2.2.2.2.2.1,x.2.2.2.2.2.2.2.2.2.2.2.2.2.2.2.2.2.2.2.2.2.1,x.2.2.2.2.2.2.2.2.2.2.2.2.2.2.2.2.2.2.2.2.2.2.1,x.2.2.2.2.2.2.2.2.2.2.2.2.2.2.2.2.2.2.2.2.2.2.2.1,x.2.2.2.2.2.2.2.2.2.2.2.2.2.2.2.2.2.2.2.2.2.2.2.2.1,x.2.2.2.2.2.2.2.2.2.2.2.2.2.2.2.2.2.2.2.2.2.2.2.2.2.1,x.2.2.2.2.2.2.2.2.2.2.2.2.2.2.2.2.2.2.2.2.2.2.2.2.2.2.1,x.2.2.2.2.2.2.2.2.2.2.2.2.2.2.2.2.2.2.2.2.2.2.2.2.2.2.2.1,x.2.2.2.2.2.2.2.2.2.2.2.2.2.2.2.2.2.2.2.2.2.2.2.2.2.2.2.2.1,x.2.2.2.2.2.2.2.2.2.2.2.2.2.2.2.2.2.2.2.2.2.2.2.2.2.2.2.2.2))) (fun p0 p1 p2=>(Sum.inr (.inl (p0,x.2.2.2.1,x.2.2.2.2.1,p1,x.2.2.2.2.2.2.1,x.2.2.2.2.2.2.2.1,x.2.2.2.2.2.2.2.2.1,x.2.2.2.2.2.2.2.2.2.1,x.2.2.2.2.2.2.2.2.2.2.1,x.2.2.2.2.2.2.2.2.2.2.2.1,x.2.2.2.2.2.2.2.2.2.2.2.2.1,x.2.2.2.2.2.2.2.2.2.2.2.2.2.1,x.2.2.2.2.2.2.2.2.2.2.2.2.2.2.1,x.2.2.2.2.2.2.2.2.2.2.2.2.2.2.2.1,x.2.2.2.2.2.2.2.2.2.2.2.2.2.2.2.2.1,x.2.2.2.2.2.2.2.2.2.2.2.2.2.2.2.2.2.1,x.2.2.2.2.2.2.2.2.2.2.2.2.2.2.2.2.2.2.1,p2,x.2.2.2.2.2.2.2.2.2.2.2.2.2.2.2.2.2.2.2.1,x.2.2.2.2.2.2.2.2.2.2.2.2.2.2.2.2.2.2.2.2.1,x.2.2.2.2.2.2.2.2.2.2.2.2.2.2.2.2.2.2.2.2.2.1,x.2.2.2.2.2.2.2.2.2.2.2.2.2.2.2.2.2.2.2.2.2.2.1,x.2.2.2.2.2.2.2.2.2.2.2.2.2.2.2.2.2.2.2.2.2.2.2.1,x.2.2.2.2.2.2.2.2.2.2.2.2.2.2.2.2.2.2.2.2.2.2.2.2.1,x.2.2.2.2.2.2.2.2.2.2.2.2.2.2.2.2.2.2.2.2.2.2.2.2.2.1,x.2.2.2.2.2.2.2.2.2.2.2.2.2.2.2.2.2.2.2.2.2.2.2.2.2.2.1,x.2.2.2.2.2.2.2.2.2.2.2.2.2.2.2.2.2.2.2.2.2.2.2.2.2.2.2.1,x.2.2.2.2.2.2.2.2.2.2.2.2.2.2.2.2.2.2.2.2.2.2.2.2.2.2.2.2.1,x.2.2.2.2.2.2.2.2.2.2.2.2.2.2.2.2.2.2.2.2.2.2.2.2.2.2.2.2.2)))) (fun p0=>(Sum.inr (.inr (p0,x.2.2.1,x.2.2.2.1,x.2.2.2.2.1,x.2.2.2.2.2.1,x.2.2.2.2.2.2.1,x.2.2.2.2.2.2.2.1,x.2.2.2.2.2.2.2.2.1,x.2.2.2.2.2.2.2.2.2.1,x.2.2.2.2.2.2.2.2.2.2.1,x.2.2.2.2.2.2.2.2.2.2.2.1,x.2.2.2.2.2.2.2.2.2.2.2.2.1,x.2.2.2.2.2.2.2.2.2.2.2.2.2.1,x.2.2.2.2.2.2.2.2.2.2.2.2.2.2.1,x.2.2.2.2.2.2.2.2.2.2.2.2.2.2.2.1,x.2.2.2.2.2.2.2.2.2.2.2.2.2.2.2.2.1,x.2.2.2.2.2.2.2.2.2.2.2.2.2.2.2.2.2.1,x.2.2.2.2.2.2.2.2.2.2.2.2.2.2.2.2.2.2.1,x.2.2.2.2.2.2.2.2.2.2.2.2.2.2.2.2.2.2.2.1,x.2.2.2.2.2.2.2.2.2.2.2.2.2.2.2.2.2.2.2.2.1,x.2.2.2.2.2.2.2.2.2.2.2.2.2.2.2.2.2.2.2.2.2.1,x.2.2.2.2.2.2.2.2.2.2.2.2.2.2.2.2.2.2.2.2.2.2.1,x.2.2.2.2.2.2.2.2.2.2.2.2.2.2.2.2.2.2.2.2.2.2.2.1,x.2.2.2.2.2.2.2.2.2.2.2.2.2.2.2.2.2.2.2.2.2.2.2.2.1,x.2.2.2.2.2.2.2.2.2.2.2.2.2.2.2.2.2.2.2.2.2.2.2.2.2.1,x.2.2.2.2.2.2.2.2.2.2.2.2.2.2.2.2.2.2.2.2.2.2.2.2.2.2.1,x.2.2.2.2.2.2.2.2.2.2.2.2.2.2.2.2.2.2.2.2.2.2.2.2.2.2.2.1,x.2.2.2.2.2.2.2.2.2.2.2.2.2.2.2.2.2.2.2.2.2.2.2.2.2.2.2.2.1,x.2.2.2.2.2.2.2.2.2.2.2.2.2.2.2.2.2.2.2.2.2.2.2.2.2.2.2.2.2)))):=by kernel_rfl
theorem qes {R:Type} (x:tq6) (k:tq0→Option R) (r:R) (h:qeo x k=some r):∃o,Z5L (LE.step X qem qee q0 q4 12) x o∧k o=some r:=by
 obtain⟨o,h1,h2⟩:=Z0 h;exact⟨qen x o,Zjo (st:=fun(x:tq6)=>XZ x.2.2.1 x.2.2.2.1 x.2.2.2.2.1 x.2.2.2.2.2.1 x.2.2.2.2.2.2.1 x.2.2.2.2.2.2.2.1 x.2.2.2.2.2.2.2.2.1 x.2.2.2.2.2.2.2.2.2.1 x.2.2.2.2.2.2.2.2.2.2.1 x.2.2.2.2.2.2.2.2.2.2.2.1 x.2.2.2.2.2.2.2.2.2.2.2.2.1 x.2.2.2.2.2.2.2.2.2.2.2.2.2.1 x.2.2.2.2.2.2.2.2.2.2.2.2.2.2.1 x.2.2.2.2.2.2.2.2.2.2.2.2.2.2.2.1 x.2.2.2.2.2.2.2.2.2.2.2.2.2.2.2.2.1 x.2.2.2.2.2.2.2.2.2.2.2.2.2.2.2.2.2.1 x.2.2.2.2.2.2.2.2.2.2.2.2.2.2.2.2.2.2.1 x.2.2.2.2.2.2.2.2.2.2.2.2.2.2.2.2.2.2.2.1 x.2.2.2.2.2.2.2.2.2.2.2.2.2.2.2.2.2.2.2.2.1 x.2.2.2.2.2.2.2.2.2.2.2.2.2.2.2.2.2.2.2.2.2.1 x.2.2.2.2.2.2.2.2.2.2.2.2.2.2.2.2.2.2.2.2.2.2.1 x.2.2.2.2.2.2.2.2.2.2.2.2.2.2.2.2.2.2.2.2.2.2.2.1 x.2.2.2.2.2.2.2.2.2.2.2.2.2.2.2.2.2.2.2.2.2.2.2.2.1 x.2.2.2.2.2.2.2.2.2.2.2.2.2.2.2.2.2.2.2.2.2.2.2.2.2.1 x.2.2.2.2.2.2.2.2.2.2.2.2.2.2.2.2.2.2.2.2.2.2.2.2.2.2.1 x.2.2.2.2.2.2.2.2.2.2.2.2.2.2.2.2.2.2.2.2.2.2.2.2.2.2.2.1 x.2.2.2.2.2.2.2.2.2.2.2.2.2.2.2.2.2.2.2.2.2.2.2.2.2.2.2.2.1 x.2.2.2.2.2.2.2.2.2.2.2.2.2.2.2.2.2.2.2.2.2.2.2.2.2.2.2.2.2) (prj:=fun x=>(x.1,x.2.1)) (emb:=qep) (embO:=qen) (fun x=>(qeq x).trans (by unfold XZ We;simp only[Zji,Zj8,Zjj,Option.map_some,Option.map_none];rfl)) (fun _ _=>rfl) (fun _ _=>rfl) (fun _ _ _=>rfl) (fun _ _ _=>rfl) (fun _=>rfl) (Z28.1 h1),by first|exact h2|(rcases o with o|o<;>exact h2)⟩
def qet {R:Type}:Z36 S R:=LE.ls X qem qeo q4
theorem qeu {R:Type}:Z58 X (qet (R:=R)):=Zjt xok qef (e:=qem) q1 q5 qes q5
def qev:Key:=⟨[107,2,44,5,7,107,0,46],107,none,[0,0,1,1],0,89⟩
def qew:StT S:=⟨v1i,oU,90⟩
def qey:Way S:=⟨(.exit 0),⟨L,oU,95⟩,[(.arr (.int .u64)),(.st 6),.int,.bool,(.lst (.st 10)),.bool,(.lst (.arr 5 (.int .u64))),.bool,.int,(.st 9),(.st 10),.int,.int,(.st 14),(.st 10),(.st 2),(.lst (.st 2)),(.st 9),.int,.bool,(.lst (.st 10)),.bool,(.lst (.arr 5 (.int .u64))),.bool,(.st 9),(.st 10),(.st 6)]⟩
def qez:LE S:=⟨qev,qew,[.int,.int,(.arr (.int .u64)),(.st 6),.int,.bool,(.lst (.st 10)),.bool,(.lst (.arr 5 (.int .u64))),.bool,.int,(.st 9),(.st 10),.int,.int,(.st 14),(.st 10),(.st 2),(.lst (.st 2)),(.st 9),.int,.bool,(.lst (.st 10)),.bool,(.lst (.arr 5 (.int .u64))),.bool,(.st 9),(.st 10),(.st 6)],[qek,qey]⟩
def qeA (x:tq7):(((List Point)×(List Point)×Point)⊕Unit)→tq1:=Sum.elim (fun y0=>(.inl (y0.1,x.2.2.1,x.2.2.2.1,y0.2.1,x.2.2.2.2.1,x.2.2.2.2.2.1,x.2.2.2.2.2.2.1,x.2.2.2.2.2.2.2.1,x.2.2.2.2.2.2.2.2.1,x.2.2.2.2.2.2.2.2.2.1,x.2.2.2.2.2.2.2.2.2.2.1,x.2.2.2.2.2.2.2.2.2.2.2.1,x.2.2.2.2.2.2.2.2.2.2.2.2.1,x.2.2.2.2.2.2.2.2.2.2.2.2.2.1,x.2.2.2.2.2.2.2.2.2.2.2.2.2.2.1,x.2.2.2.2.2.2.2.2.2.2.2.2.2.2.2.1,x.2.2.2.2.2.2.2.2.2.2.2.2.2.2.2.2.1,y0.2.2,x.2.2.2.2.2.2.2.2.2.2.2.2.2.2.2.2.2.1,x.2.2.2.2.2.2.2.2.2.2.2.2.2.2.2.2.2.2.2.1,x.2.2.2.2.2.2.2.2.2.2.2.2.2.2.2.2.2.2.2.2.1,x.2.2.2.2.2.2.2.2.2.2.2.2.2.2.2.2.2.2.2.2.2.1,x.2.2.2.2.2.2.2.2.2.2.2.2.2.2.2.2.2.2.2.2.2.2.1,x.2.2.2.2.2.2.2.2.2.2.2.2.2.2.2.2.2.2.2.2.2.2.2.1,x.2.2.2.2.2.2.2.2.2.2.2.2.2.2.2.2.2.2.2.2.2.2.2.2.1,x.2.2.2.2.2.2.2.2.2.2.2.2.2.2.2.2.2.2.2.2.2.2.2.2.2.1,x.2.2.2.2.2.2.2.2.2.2.2.2.2.2.2.2.2.2.2.2.2.2.2.2.2.2.1,x.2.2.2.2.2.2.2.2.2.2.2.2.2.2.2.2.2.2.2.2.2.2.2.2.2.2.2.1,x.2.2.2.2.2.2.2.2.2.2.2.2.2.2.2.2.2.2.2.2.2.2.2.2.2.2.2.2))) (fun y1=>(.inr (x.2.2.1,x.2.2.2.1,x.2.2.2.2.1,x.2.2.2.2.2.1,x.2.2.2.2.2.2.1,x.2.2.2.2.2.2.2.1,x.2.2.2.2.2.2.2.2.1,x.2.2.2.2.2.2.2.2.2.1,x.2.2.2.2.2.2.2.2.2.2.1,x.2.2.2.2.2.2.2.2.2.2.2.1,x.2.2.2.2.2.2.2.2.2.2.2.2.1,x.2.2.2.2.2.2.2.2.2.2.2.2.2.1,x.2.2.2.2.2.2.2.2.2.2.2.2.2.2.1,x.2.2.2.2.2.2.2.2.2.2.2.2.2.2.2.1,x.2.2.2.2.2.2.2.2.2.2.2.2.2.2.2.2.1,x.2.2.2.2.2.2.2.2.2.2.2.2.2.2.2.2.2.1,x.2.2.2.2.2.2.2.2.2.2.2.2.2.2.2.2.2.2.1,x.2.2.2.2.2.2.2.2.2.2.2.2.2.2.2.2.2.2.2.1,x.2.2.2.2.2.2.2.2.2.2.2.2.2.2.2.2.2.2.2.2.1,x.2.2.2.2.2.2.2.2.2.2.2.2.2.2.2.2.2.2.2.2.2.1,x.2.2.2.2.2.2.2.2.2.2.2.2.2.2.2.2.2.2.2.2.2.2.1,x.2.2.2.2.2.2.2.2.2.2.2.2.2.2.2.2.2.2.2.2.2.2.2.1,x.2.2.2.2.2.2.2.2.2.2.2.2.2.2.2.2.2.2.2.2.2.2.2.2.1,x.2.2.2.2.2.2.2.2.2.2.2.2.2.2.2.2.2.2.2.2.2.2.2.2.2.1,x.2.2.2.2.2.2.2.2.2.2.2.2.2.2.2.2.2.2.2.2.2.2.2.2.2.2.1,x.2.2.2.2.2.2.2.2.2.2.2.2.2.2.2.2.2.2.2.2.2.2.2.2.2.2.2.1,x.2.2.2.2.2.2.2.2.2.2.2.2.2.2.2.2.2.2.2.2.2.2.2.2.2.2.2.2)))
def qeB {R:Type} (x:tq7) (k:tq1→Option R):Option R:=(X1N x.2.2.1 x.2.2.2.1 x.2.2.2.2.1 x.2.2.2.2.2.1 x.2.2.2.2.2.2.1 x.2.2.2.2.2.2.2.1 x.2.2.2.2.2.2.2.2.1 x.2.2.2.2.2.2.2.2.2.1 x.2.2.2.2.2.2.2.2.2.2.1 x.2.2.2.2.2.2.2.2.2.2.2.1 x.2.2.2.2.2.2.2.2.2.2.2.2.1 x.2.2.2.2.2.2.2.2.2.2.2.2.2.1 x.2.2.2.2.2.2.2.2.2.2.2.2.2.2.1 x.2.2.2.2.2.2.2.2.2.2.2.2.2.2.2.1 x.2.2.2.2.2.2.2.2.2.2.2.2.2.2.2.2.1 x.2.2.2.2.2.2.2.2.2.2.2.2.2.2.2.2.2.1 x.2.2.2.2.2.2.2.2.2.2.2.2.2.2.2.2.2.2.1 x.2.2.2.2.2.2.2.2.2.2.2.2.2.2.2.2.2.2.2.1 x.2.2.2.2.2.2.2.2.2.2.2.2.2.2.2.2.2.2.2.2.1 x.2.2.2.2.2.2.2.2.2.2.2.2.2.2.2.2.2.2.2.2.2.1 x.2.2.2.2.2.2.2.2.2.2.2.2.2.2.2.2.2.2.2.2.2.2.1 x.2.2.2.2.2.2.2.2.2.2.2.2.2.2.2.2.2.2.2.2.2.2.2.1 x.2.2.2.2.2.2.2.2.2.2.2.2.2.2.2.2.2.2.2.2.2.2.2.2.1 x.2.2.2.2.2.2.2.2.2.2.2.2.2.2.2.2.2.2.2.2.2.2.2.2.2.1 x.2.2.2.2.2.2.2.2.2.2.2.2.2.2.2.2.2.2.2.2.2.2.2.2.2.2.1 x.2.2.2.2.2.2.2.2.2.2.2.2.2.2.2.2.2.2.2.2.2.2.2.2.2.2.2.1 x.2.2.2.2.2.2.2.2.2.2.2.2.2.2.2.2.2.2.2.2.2.2.2.2.2.2.2.2 (x.1,x.2.1)).bind (Sum.elim (fun y0=>k (.inl (y0.1,x.2.2.1,x.2.2.2.1,y0.2.1,x.2.2.2.2.1,x.2.2.2.2.2.1,x.2.2.2.2.2.2.1,x.2.2.2.2.2.2.2.1,x.2.2.2.2.2.2.2.2.1,x.2.2.2.2.2.2.2.2.2.1,x.2.2.2.2.2.2.2.2.2.2.1,x.2.2.2.2.2.2.2.2.2.2.2.1,x.2.2.2.2.2.2.2.2.2.2.2.2.1,x.2.2.2.2.2.2.2.2.2.2.2.2.2.1,x.2.2.2.2.2.2.2.2.2.2.2.2.2.2.1,x.2.2.2.2.2.2.2.2.2.2.2.2.2.2.2.1,x.2.2.2.2.2.2.2.2.2.2.2.2.2.2.2.2.1,y0.2.2,x.2.2.2.2.2.2.2.2.2.2.2.2.2.2.2.2.2.1,x.2.2.2.2.2.2.2.2.2.2.2.2.2.2.2.2.2.2.2.1,x.2.2.2.2.2.2.2.2.2.2.2.2.2.2.2.2.2.2.2.2.1,x.2.2.2.2.2.2.2.2.2.2.2.2.2.2.2.2.2.2.2.2.2.1,x.2.2.2.2.2.2.2.2.2.2.2.2.2.2.2.2.2.2.2.2.2.2.1,x.2.2.2.2.2.2.2.2.2.2.2.2.2.2.2.2.2.2.2.2.2.2.2.1,x.2.2.2.2.2.2.2.2.2.2.2.2.2.2.2.2.2.2.2.2.2.2.2.2.1,x.2.2.2.2.2.2.2.2.2.2.2.2.2.2.2.2.2.2.2.2.2.2.2.2.2.1,x.2.2.2.2.2.2.2.2.2.2.2.2.2.2.2.2.2.2.2.2.2.2.2.2.2.2.1,x.2.2.2.2.2.2.2.2.2.2.2.2.2.2.2.2.2.2.2.2.2.2.2.2.2.2.2.1,x.2.2.2.2.2.2.2.2.2.2.2.2.2.2.2.2.2.2.2.2.2.2.2.2.2.2.2.2))) (fun y1=>k (.inr (x.2.2.1,x.2.2.2.1,x.2.2.2.2.1,x.2.2.2.2.2.1,x.2.2.2.2.2.2.1,x.2.2.2.2.2.2.2.1,x.2.2.2.2.2.2.2.2.1,x.2.2.2.2.2.2.2.2.2.1,x.2.2.2.2.2.2.2.2.2.2.1,x.2.2.2.2.2.2.2.2.2.2.2.1,x.2.2.2.2.2.2.2.2.2.2.2.2.1,x.2.2.2.2.2.2.2.2.2.2.2.2.2.1,x.2.2.2.2.2.2.2.2.2.2.2.2.2.2.1,x.2.2.2.2.2.2.2.2.2.2.2.2.2.2.2.1,x.2.2.2.2.2.2.2.2.2.2.2.2.2.2.2.2.1,x.2.2.2.2.2.2.2.2.2.2.2.2.2.2.2.2.2.1,x.2.2.2.2.2.2.2.2.2.2.2.2.2.2.2.2.2.2.1,x.2.2.2.2.2.2.2.2.2.2.2.2.2.2.2.2.2.2.2.1,x.2.2.2.2.2.2.2.2.2.2.2.2.2.2.2.2.2.2.2.2.1,x.2.2.2.2.2.2.2.2.2.2.2.2.2.2.2.2.2.2.2.2.2.1,x.2.2.2.2.2.2.2.2.2.2.2.2.2.2.2.2.2.2.2.2.2.2.1,x.2.2.2.2.2.2.2.2.2.2.2.2.2.2.2.2.2.2.2.2.2.2.2.1,x.2.2.2.2.2.2.2.2.2.2.2.2.2.2.2.2.2.2.2.2.2.2.2.2.1,x.2.2.2.2.2.2.2.2.2.2.2.2.2.2.2.2.2.2.2.2.2.2.2.2.2.1,x.2.2.2.2.2.2.2.2.2.2.2.2.2.2.2.2.2.2.2.2.2.2.2.2.2.2.1,x.2.2.2.2.2.2.2.2.2.2.2.2.2.2.2.2.2.2.2.2.2.2.2.2.2.2.2.1,x.2.2.2.2.2.2.2.2.2.2.2.2.2.2.2.2.2.2.2.2.2.2.2.2.2.2.2.2))))
def qeC (x:tq7) (v:(Int×Int)):tq7:=(v.1,v.2,x.2.2.1,x.2.2.2.1,x.2.2.2.2.1,x.2.2.2.2.2.1,x.2.2.2.2.2.2.1,x.2.2.2.2.2.2.2.1,x.2.2.2.2.2.2.2.2.1,x.2.2.2.2.2.2.2.2.2.1,x.2.2.2.2.2.2.2.2.2.2.1,x.2.2.2.2.2.2.2.2.2.2.2.1,x.2.2.2.2.2.2.2.2.2.2.2.2.1,x.2.2.2.2.2.2.2.2.2.2.2.2.2.1,x.2.2.2.2.2.2.2.2.2.2.2.2.2.2.1,x.2.2.2.2.2.2.2.2.2.2.2.2.2.2.2.1,x.2.2.2.2.2.2.2.2.2.2.2.2.2.2.2.2.1,x.2.2.2.2.2.2.2.2.2.2.2.2.2.2.2.2.2.1,x.2.2.2.2.2.2.2.2.2.2.2.2.2.2.2.2.2.2.1,x.2.2.2.2.2.2.2.2.2.2.2.2.2.2.2.2.2.2.2.1,x.2.2.2.2.2.2.2.2.2.2.2.2.2.2.2.2.2.2.2.2.1,x.2.2.2.2.2.2.2.2.2.2.2.2.2.2.2.2.2.2.2.2.2.1,x.2.2.2.2.2.2.2.2.2.2.2.2.2.2.2.2.2.2.2.2.2.2.1,x.2.2.2.2.2.2.2.2.2.2.2.2.2.2.2.2.2.2.2.2.2.2.2.1,x.2.2.2.2.2.2.2.2.2.2.2.2.2.2.2.2.2.2.2.2.2.2.2.2.1,x.2.2.2.2.2.2.2.2.2.2.2.2.2.2.2.2.2.2.2.2.2.2.2.2.2.1,x.2.2.2.2.2.2.2.2.2.2.2.2.2.2.2.2.2.2.2.2.2.2.2.2.2.2.1,x.2.2.2.2.2.2.2.2.2.2.2.2.2.2.2.2.2.2.2.2.2.2.2.2.2.2.2.1,x.2.2.2.2.2.2.2.2.2.2.2.2.2.2.2.2.2.2.2.2.2.2.2.2.2.2.2.2)
theorem qeD (x:tq7):LE.step X qez qee q0 qet 12 x=Wd x.2.2.1 x.2.2.2.1 x.2.2.2.2.1 x.2.2.2.2.2.1 x.2.2.2.2.2.2.1 x.2.2.2.2.2.2.2.1 x.2.2.2.2.2.2.2.2.1 x.2.2.2.2.2.2.2.2.2.1 x.2.2.2.2.2.2.2.2.2.2.1 x.2.2.2.2.2.2.2.2.2.2.2.1 x.2.2.2.2.2.2.2.2.2.2.2.2.1 x.2.2.2.2.2.2.2.2.2.2.2.2.2.1 x.2.2.2.2.2.2.2.2.2.2.2.2.2.2.1 x.2.2.2.2.2.2.2.2.2.2.2.2.2.2.2.1 x.2.2.2.2.2.2.2.2.2.2.2.2.2.2.2.2.1 x.2.2.2.2.2.2.2.2.2.2.2.2.2.2.2.2.2.1 x.2.2.2.2.2.2.2.2.2.2.2.2.2.2.2.2.2.2.1 x.2.2.2.2.2.2.2.2.2.2.2.2.2.2.2.2.2.2.2.1 x.2.2.2.2.2.2.2.2.2.2.2.2.2.2.2.2.2.2.2.2.1 x.2.2.2.2.2.2.2.2.2.2.2.2.2.2.2.2.2.2.2.2.2.1 x.2.2.2.2.2.2.2.2.2.2.2.2.2.2.2.2.2.2.2.2.2.2.1 x.2.2.2.2.2.2.2.2.2.2.2.2.2.2.2.2.2.2.2.2.2.2.2.1 x.2.2.2.2.2.2.2.2.2.2.2.2.2.2.2.2.2.2.2.2.2.2.2.2.1 x.2.2.2.2.2.2.2.2.2.2.2.2.2.2.2.2.2.2.2.2.2.2.2.2.2.1 x.2.2.2.2.2.2.2.2.2.2.2.2.2.2.2.2.2.2.2.2.2.2.2.2.2.2.1 x.2.2.2.2.2.2.2.2.2.2.2.2.2.2.2.2.2.2.2.2.2.2.2.2.2.2.2.1 x.2.2.2.2.2.2.2.2.2.2.2.2.2.2.2.2.2.2.2.2.2.2.2.2.2.2.2.2 x.1 x.2.1 (fun w0 w1=>(Sum.inl (w0,w1,x.2.2.1,x.2.2.2.1,x.2.2.2.2.1,x.2.2.2.2.2.1,x.2.2.2.2.2.2.1,x.2.2.2.2.2.2.2.1,x.2.2.2.2.2.2.2.2.1,x.2.2.2.2.2.2.2.2.2.1,x.2.2.2.2.2.2.2.2.2.2.1,x.2.2.2.2.2.2.2.2.2.2.2.1,x.2.2.2.2.2.2.2.2.2.2.2.2.1,x.2.2.2.2.2.2.2.2.2.2.2.2.2.1,x.2.2.2.2.2.2.2.2.2.2.2.2.2.2.1,x.2.2.2.2.2.2.2.2.2.2.2.2.2.2.2.1,x.2.2.2.2.2.2.2.2.2.2.2.2.2.2.2.2.1,x.2.2.2.2.2.2.2.2.2.2.2.2.2.2.2.2.2.1,x.2.2.2.2.2.2.2.2.2.2.2.2.2.2.2.2.2.2.1,x.2.2.2.2.2.2.2.2.2.2.2.2.2.2.2.2.2.2.2.1,x.2.2.2.2.2.2.2.2.2.2.2.2.2.2.2.2.2.2.2.2.1,x.2.2.2.2.2.2.2.2.2.2.2.2.2.2.2.2.2.2.2.2.2.1,x.2.2.2.2.2.2.2.2.2.2.2.2.2.2.2.2.2.2.2.2.2.2.1,x.2.2.2.2.2.2.2.2.2.2.2.2.2.2.2.2.2.2.2.2.2.2.2.1,x.2.2.2.2.2.2.2.2.2.2.2.2.2.2.2.2.2.2.2.2.2.2.2.2.1,x.2.2.2.2.2.2.2.2.2.2.2.2.2.2.2.2.2.2.2.2.2.2.2.2.2.1,x.2.2.2.2.2.2.2.2.2.2.2.2.2.2.2.2.2.2.2.2.2.2.2.2.2.2.1,x.2.2.2.2.2.2.2.2.2.2.2.2.2.2.2.2.2.2.2.2.2.2.2.2.2.2.2.1,x.2.2.2.2.2.2.2.2.2.2.2.2.2.2.2.2.2.2.2.2.2.2.2.2.2.2.2.2))) (fun p0 p1 p2=>(Sum.inr (.inl (p0,x.2.2.1,x.2.2.2.1,p1,x.2.2.2.2.1,x.2.2.2.2.2.1,x.2.2.2.2.2.2.1,x.2.2.2.2.2.2.2.1,x.2.2.2.2.2.2.2.2.1,x.2.2.2.2.2.2.2.2.2.1,x.2.2.2.2.2.2.2.2.2.2.1,x.2.2.2.2.2.2.2.2.2.2.2.1,x.2.2.2.2.2.2.2.2.2.2.2.2.1,x.2.2.2.2.2.2.2.2.2.2.2.2.2.1,x.2.2.2.2.2.2.2.2.2.2.2.2.2.2.1,x.2.2.2.2.2.2.2.2.2.2.2.2.2.2.2.1,x.2.2.2.2.2.2.2.2.2.2.2.2.2.2.2.2.1,p2,x.2.2.2.2.2.2.2.2.2.2.2.2.2.2.2.2.2.1,x.2.2.2.2.2.2.2.2.2.2.2.2.2.2.2.2.2.2.2.1,x.2.2.2.2.2.2.2.2.2.2.2.2.2.2.2.2.2.2.2.2.1,x.2.2.2.2.2.2.2.2.2.2.2.2.2.2.2.2.2.2.2.2.2.1,x.2.2.2.2.2.2.2.2.2.2.2.2.2.2.2.2.2.2.2.2.2.2.1,x.2.2.2.2.2.2.2.2.2.2.2.2.2.2.2.2.2.2.2.2.2.2.2.1,x.2.2.2.2.2.2.2.2.2.2.2.2.2.2.2.2.2.2.2.2.2.2.2.2.1,x.2.2.2.2.2.2.2.2.2.2.2.2.2.2.2.2.2.2.2.2.2.2.2.2.2.1,x.2.2.2.2.2.2.2.2.2.2.2.2.2.2.2.2.2.2.2.2.2.2.2.2.2.2.1,x.2.2.2.2.2.2.2.2.2.2.2.2.2.2.2.2.2.2.2.2.2.2.2.2.2.2.2.1,x.2.2.2.2.2.2.2.2.2.2.2.2.2.2.2.2.2.2.2.2.2.2.2.2.2.2.2.2)))) (Sum.inr (.inr (x.2.2.1,x.2.2.2.1,x.2.2.2.2.1,x.2.2.2.2.2.1,x.2.2.2.2.2.2.1,x.2.2.2.2.2.2.2.1,x.2.2.2.2.2.2.2.2.1,x.2.2.2.2.2.2.2.2.2.1,x.2.2.2.2.2.2.2.2.2.2.1,x.2.2.2.2.2.2.2.2.2.2.2.1,x.2.2.2.2.2.2.2.2.2.2.2.2.1,x.2.2.2.2.2.2.2.2.2.2.2.2.2.1,x.2.2.2.2.2.2.2.2.2.2.2.2.2.2.1,x.2.2.2.2.2.2.2.2.2.2.2.2.2.2.2.1,x.2.2.2.2.2.2.2.2.2.2.2.2.2.2.2.2.1,x.2.2.2.2.2.2.2.2.2.2.2.2.2.2.2.2.2.1,x.2.2.2.2.2.2.2.2.2.2.2.2.2.2.2.2.2.2.1,x.2.2.2.2.2.2.2.2.2.2.2.2.2.2.2.2.2.2.2.1,x.2.2.2.2.2.2.2.2.2.2.2.2.2.2.2.2.2.2.2.2.1,x.2.2.2.2.2.2.2.2.2.2.2.2.2.2.2.2.2.2.2.2.2.1,x.2.2.2.2.2.2.2.2.2.2.2.2.2.2.2.2.2.2.2.2.2.2.1,x.2.2.2.2.2.2.2.2.2.2.2.2.2.2.2.2.2.2.2.2.2.2.2.1,x.2.2.2.2.2.2.2.2.2.2.2.2.2.2.2.2.2.2.2.2.2.2.2.2.1,x.2.2.2.2.2.2.2.2.2.2.2.2.2.2.2.2.2.2.2.2.2.2.2.2.2.1,x.2.2.2.2.2.2.2.2.2.2.2.2.2.2.2.2.2.2.2.2.2.2.2.2.2.2.1,x.2.2.2.2.2.2.2.2.2.2.2.2.2.2.2.2.2.2.2.2.2.2.2.2.2.2.2.1,x.2.2.2.2.2.2.2.2.2.2.2.2.2.2.2.2.2.2.2.2.2.2.2.2.2.2.2.2))):=by kernel_rfl
theorem qeF {R:Type} (x:tq7) (k:tq1→Option R) (r:R) (h:qeB x k=some r):∃o,Z5L (LE.step X qez qee q0 qet 12) x o∧k o=some r:=by
 obtain⟨o,h1,h2⟩:=Z0 h;exact⟨qeA x o,Zjo (st:=fun(x:tq7)=>Xg x.2.2.1 x.2.2.2.1 x.2.2.2.2.1 x.2.2.2.2.2.1 x.2.2.2.2.2.2.1 x.2.2.2.2.2.2.2.1 x.2.2.2.2.2.2.2.2.1 x.2.2.2.2.2.2.2.2.2.1 x.2.2.2.2.2.2.2.2.2.2.1 x.2.2.2.2.2.2.2.2.2.2.2.1 x.2.2.2.2.2.2.2.2.2.2.2.2.1 x.2.2.2.2.2.2.2.2.2.2.2.2.2.1 x.2.2.2.2.2.2.2.2.2.2.2.2.2.2.1 x.2.2.2.2.2.2.2.2.2.2.2.2.2.2.2.1 x.2.2.2.2.2.2.2.2.2.2.2.2.2.2.2.2.1 x.2.2.2.2.2.2.2.2.2.2.2.2.2.2.2.2.2.1 x.2.2.2.2.2.2.2.2.2.2.2.2.2.2.2.2.2.2.1 x.2.2.2.2.2.2.2.2.2.2.2.2.2.2.2.2.2.2.2.1 x.2.2.2.2.2.2.2.2.2.2.2.2.2.2.2.2.2.2.2.2.1 x.2.2.2.2.2.2.2.2.2.2.2.2.2.2.2.2.2.2.2.2.2.1 x.2.2.2.2.2.2.2.2.2.2.2.2.2.2.2.2.2.2.2.2.2.2.1 x.2.2.2.2.2.2.2.2.2.2.2.2.2.2.2.2.2.2.2.2.2.2.2.1 x.2.2.2.2.2.2.2.2.2.2.2.2.2.2.2.2.2.2.2.2.2.2.2.2.1 x.2.2.2.2.2.2.2.2.2.2.2.2.2.2.2.2.2.2.2.2.2.2.2.2.2.1 x.2.2.2.2.2.2.2.2.2.2.2.2.2.2.2.2.2.2.2.2.2.2.2.2.2.2.1 x.2.2.2.2.2.2.2.2.2.2.2.2.2.2.2.2.2.2.2.2.2.2.2.2.2.2.2.1 x.2.2.2.2.2.2.2.2.2.2.2.2.2.2.2.2.2.2.2.2.2.2.2.2.2.2.2.2) (prj:=fun x=>(x.1,x.2.1)) (emb:=qeC) (embO:=qeA) (fun x=>(qeD x).trans (by unfold Xg Wd;simp only[Zji,Zj8,Zjj,Option.map_some,Option.map_none];rfl)) (fun _ _=>rfl) (fun _ _=>rfl) (fun _ _ _=>rfl) (fun _ _ _=>rfl) (fun _=>rfl) (Z28.1 h1),by first|exact h2|(rcases o with o|o<;>exact h2)⟩
def qeG {R:Type}:Z36 S R:=LE.ls X qez qeB qet
theorem qeH {R:Type}:Z58 X (qeG (R:=R)):=Zjt xok qef (e:=qez) q1 qeu qeF qeu
def qeI:Key:=⟨[107,0,46],107,none,[0,0,1,0,0,1,0,0,1,1],2,60⟩
def qeJ:StT S:=⟨(N (N (N L vL L) (some (.ptr 39 0)) (N L vL L)) (some (.yld 44)) (N (N L vL L) none L)),oZ,61⟩
def qeK:Way S:=⟨(.exit 2),⟨v1j,oZ,66⟩,[.int,.int,(.arr (.int .u64)),(.st 6),(.lst (.st 10)),(.st 14),(.st 10),(.st 9),.int,.bool,(.lst (.st 10)),.bool,(.lst (.arr 5 (.int .u64))),.bool,(.st 9),(.st 10),(.lst (.st 2))]⟩
def qeL:LE S:=⟨qeI,qeJ,[.int,.int,.int,(.arr (.int .u64)),(.st 6),(.lst (.st 10)),(.st 14),(.st 10),(.st 9),.int,.bool,(.lst (.st 10)),.bool,(.lst (.arr 5 (.int .u64))),.bool,(.st 9),(.st 10),(.lst (.st 2))],[qeK]⟩
def qeM (x:tqd):(Int×(List Point))→tqe:=fun y0=>(y0.1,x.2.2.1,x.2.2.2.1,x.2.2.2.2.1,x.2.2.2.2.2.1,x.2.2.2.2.2.2.1,x.2.2.2.2.2.2.2.1,x.2.2.2.2.2.2.2.2.1,x.2.2.2.2.2.2.2.2.2.1,x.2.2.2.2.2.2.2.2.2.2.1,x.2.2.2.2.2.2.2.2.2.2.2.1,x.2.2.2.2.2.2.2.2.2.2.2.2.1,x.2.2.2.2.2.2.2.2.2.2.2.2.2.1,x.2.2.2.2.2.2.2.2.2.2.2.2.2.2.1,x.2.2.2.2.2.2.2.2.2.2.2.2.2.2.2.1,x.2.2.2.2.2.2.2.2.2.2.2.2.2.2.2.2.1,y0.2)
def qeN {R:Type} (x:tqd) (k:tqe→Option R):Option R:=(X1M x.2.2.1 x.2.2.2.1 x.2.2.2.2.1 x.2.2.2.2.2.1 x.2.2.2.2.2.2.1 x.2.2.2.2.2.2.2.1 x.2.2.2.2.2.2.2.2.1 x.2.2.2.2.2.2.2.2.2.1 x.2.2.2.2.2.2.2.2.2.2.1 x.2.2.2.2.2.2.2.2.2.2.2.1 x.2.2.2.2.2.2.2.2.2.2.2.2.1 x.2.2.2.2.2.2.2.2.2.2.2.2.2.1 x.2.2.2.2.2.2.2.2.2.2.2.2.2.2.1 x.2.2.2.2.2.2.2.2.2.2.2.2.2.2.2.1 x.2.2.2.2.2.2.2.2.2.2.2.2.2.2.2.2.1 (x.1,x.2.1,x.2.2.2.2.2.2.2.2.2.2.2.2.2.2.2.2.2)).bind (fun y0=>k (y0.1,x.2.2.1,x.2.2.2.1,x.2.2.2.2.1,x.2.2.2.2.2.1,x.2.2.2.2.2.2.1,x.2.2.2.2.2.2.2.1,x.2.2.2.2.2.2.2.2.1,x.2.2.2.2.2.2.2.2.2.1,x.2.2.2.2.2.2.2.2.2.2.1,x.2.2.2.2.2.2.2.2.2.2.2.1,x.2.2.2.2.2.2.2.2.2.2.2.2.1,x.2.2.2.2.2.2.2.2.2.2.2.2.2.1,x.2.2.2.2.2.2.2.2.2.2.2.2.2.2.1,x.2.2.2.2.2.2.2.2.2.2.2.2.2.2.2.1,x.2.2.2.2.2.2.2.2.2.2.2.2.2.2.2.2.1,y0.2))
def qeO (x:tqd) (v:X6z):tqd:=(v.1,v.2.1,x.2.2.1,x.2.2.2.1,x.2.2.2.2.1,x.2.2.2.2.2.1,x.2.2.2.2.2.2.1,x.2.2.2.2.2.2.2.1,x.2.2.2.2.2.2.2.2.1,x.2.2.2.2.2.2.2.2.2.1,x.2.2.2.2.2.2.2.2.2.2.1,x.2.2.2.2.2.2.2.2.2.2.2.1,x.2.2.2.2.2.2.2.2.2.2.2.2.1,x.2.2.2.2.2.2.2.2.2.2.2.2.2.1,x.2.2.2.2.2.2.2.2.2.2.2.2.2.2.1,x.2.2.2.2.2.2.2.2.2.2.2.2.2.2.2.1,x.2.2.2.2.2.2.2.2.2.2.2.2.2.2.2.2.1,v.2.2)
theorem qeP (x:tqd):LE.step X qeL qee q0 qeG 12 x=Wc x.2.2.1 x.2.2.2.1 x.2.2.2.2.1 x.2.2.2.2.2.1 x.2.2.2.2.2.2.1 x.2.2.2.2.2.2.2.1 x.2.2.2.2.2.2.2.2.1 x.2.2.2.2.2.2.2.2.2.1 x.2.2.2.2.2.2.2.2.2.2.1 x.2.2.2.2.2.2.2.2.2.2.2.1 x.2.2.2.2.2.2.2.2.2.2.2.2.1 x.2.2.2.2.2.2.2.2.2.2.2.2.2.1 x.2.2.2.2.2.2.2.2.2.2.2.2.2.2.1 x.2.2.2.2.2.2.2.2.2.2.2.2.2.2.2.1 x.2.2.2.2.2.2.2.2.2.2.2.2.2.2.2.2.1 x.1 x.2.1 x.2.2.2.2.2.2.2.2.2.2.2.2.2.2.2.2.2 (fun w0 w1 w2=>(Sum.inl (w0,w1,x.2.2.1,x.2.2.2.1,x.2.2.2.2.1,x.2.2.2.2.2.1,x.2.2.2.2.2.2.1,x.2.2.2.2.2.2.2.1,x.2.2.2.2.2.2.2.2.1,x.2.2.2.2.2.2.2.2.2.1,x.2.2.2.2.2.2.2.2.2.2.1,x.2.2.2.2.2.2.2.2.2.2.2.1,x.2.2.2.2.2.2.2.2.2.2.2.2.1,x.2.2.2.2.2.2.2.2.2.2.2.2.2.1,x.2.2.2.2.2.2.2.2.2.2.2.2.2.2.1,x.2.2.2.2.2.2.2.2.2.2.2.2.2.2.2.1,x.2.2.2.2.2.2.2.2.2.2.2.2.2.2.2.2.1,w2))) (fun p0 p1=>(Sum.inr (p0,x.2.2.1,x.2.2.2.1,x.2.2.2.2.1,x.2.2.2.2.2.1,x.2.2.2.2.2.2.1,x.2.2.2.2.2.2.2.1,x.2.2.2.2.2.2.2.2.1,x.2.2.2.2.2.2.2.2.2.1,x.2.2.2.2.2.2.2.2.2.2.1,x.2.2.2.2.2.2.2.2.2.2.2.1,x.2.2.2.2.2.2.2.2.2.2.2.2.1,x.2.2.2.2.2.2.2.2.2.2.2.2.2.1,x.2.2.2.2.2.2.2.2.2.2.2.2.2.2.1,x.2.2.2.2.2.2.2.2.2.2.2.2.2.2.2.1,x.2.2.2.2.2.2.2.2.2.2.2.2.2.2.2.2.1,p1))):=by kernel_rfl
theorem qeR {R:Type} (x:tqd) (k:tqe→Option R) (r:R) (h:qeN x k=some r):∃o,Z5L (LE.step X qeL qee q0 qeG 12) x o∧k o=some r:=by
 obtain⟨o,h1,h2⟩:=Z0 h;exact⟨qeM x o,Zjo (st:=fun(x:tqd)=>XY x.2.2.1 x.2.2.2.1 x.2.2.2.2.1 x.2.2.2.2.2.1 x.2.2.2.2.2.2.1 x.2.2.2.2.2.2.2.1 x.2.2.2.2.2.2.2.2.1 x.2.2.2.2.2.2.2.2.2.1 x.2.2.2.2.2.2.2.2.2.2.1 x.2.2.2.2.2.2.2.2.2.2.2.1 x.2.2.2.2.2.2.2.2.2.2.2.2.1 x.2.2.2.2.2.2.2.2.2.2.2.2.2.1 x.2.2.2.2.2.2.2.2.2.2.2.2.2.2.1 x.2.2.2.2.2.2.2.2.2.2.2.2.2.2.2.1 x.2.2.2.2.2.2.2.2.2.2.2.2.2.2.2.2.1) (prj:=fun x=>(x.1,x.2.1,x.2.2.2.2.2.2.2.2.2.2.2.2.2.2.2.2.2)) (emb:=qeO) (embO:=qeM) (fun x=>(qeP x).trans (by unfold XY Wc;simp only[Zji,Zj8,Zjj,Option.map_some,Option.map_none];rfl)) (fun _ _=>rfl) (fun _ _=>rfl) (fun _ _ _=>rfl) (fun _ _ _=>rfl) (fun _=>rfl) (Z28.1 h1),by first|exact h2|(rcases o with o<;>exact h2)⟩
def qeS {R:Type}:Z36 S R:=LE.ls X qeL qeN qeG
theorem qeT {R:Type}:Z58 X (qeS (R:=R)):=Zjt xok qef (e:=qeL) q1 qeH qeR qeH
def qeU:Key:=⟨[107,0,46],107,none,[0,0,1,1],0,50⟩
def qeV:StT S:=⟨v1j,oV,51⟩
def qeW:Way S:=⟨(.exit 0),⟨L,oV,56⟩,[(.arr (.int .u64)),(.st 6),(.lst (.st 10)),(.st 14),(.st 10),(.st 9),.int,.bool,(.lst (.st 10)),.bool,(.lst (.arr 5 (.int .u64))),.bool,(.st 9),(.st 10),(.lst (.st 2))]⟩
def qeX:LE S:=⟨qeU,qeV,[.int,.int,(.arr (.int .u64)),(.st 6),(.lst (.st 10)),(.st 14),(.st 10),(.st 9),.int,.bool,(.lst (.st 10)),.bool,(.lst (.arr 5 (.int .u64))),.bool,(.st 9),(.st 10),(.lst (.st 2))],[qeW]⟩
def qeY (x:tqe):(List Point)→tqf:=fun y0=>(x.2.2.1,x.2.2.2.1,x.2.2.2.2.1,x.2.2.2.2.2.1,x.2.2.2.2.2.2.1,x.2.2.2.2.2.2.2.1,x.2.2.2.2.2.2.2.2.1,x.2.2.2.2.2.2.2.2.2.1,x.2.2.2.2.2.2.2.2.2.2.1,x.2.2.2.2.2.2.2.2.2.2.2.1,x.2.2.2.2.2.2.2.2.2.2.2.2.1,x.2.2.2.2.2.2.2.2.2.2.2.2.2.1,x.2.2.2.2.2.2.2.2.2.2.2.2.2.2.1,x.2.2.2.2.2.2.2.2.2.2.2.2.2.2.2.1,y0)
def qeZ {R:Type} (x:tqe) (k:tqf→Option R):Option R:=(X1L x.2.2.1 x.2.2.2.1 x.2.2.2.2.1 x.2.2.2.2.2.1 x.2.2.2.2.2.2.1 x.2.2.2.2.2.2.2.1 x.2.2.2.2.2.2.2.2.1 x.2.2.2.2.2.2.2.2.2.1 x.2.2.2.2.2.2.2.2.2.2.1 x.2.2.2.2.2.2.2.2.2.2.2.1 x.2.2.2.2.2.2.2.2.2.2.2.2.1 x.2.2.2.2.2.2.2.2.2.2.2.2.2.1 x.2.2.2.2.2.2.2.2.2.2.2.2.2.2.1 x.2.2.2.2.2.2.2.2.2.2.2.2.2.2.2.1 (x.1,x.2.1,x.2.2.2.2.2.2.2.2.2.2.2.2.2.2.2.2)).bind (fun y0=>k (x.2.2.1,x.2.2.2.1,x.2.2.2.2.1,x.2.2.2.2.2.1,x.2.2.2.2.2.2.1,x.2.2.2.2.2.2.2.1,x.2.2.2.2.2.2.2.2.1,x.2.2.2.2.2.2.2.2.2.1,x.2.2.2.2.2.2.2.2.2.2.1,x.2.2.2.2.2.2.2.2.2.2.2.1,x.2.2.2.2.2.2.2.2.2.2.2.2.1,x.2.2.2.2.2.2.2.2.2.2.2.2.2.1,x.2.2.2.2.2.2.2.2.2.2.2.2.2.2.1,x.2.2.2.2.2.2.2.2.2.2.2.2.2.2.2.1,y0))
def qf0 (x:tqe) (v:X6z):tqe:=(v.1,v.2.1,x.2.2.1,x.2.2.2.1,x.2.2.2.2.1,x.2.2.2.2.2.1,x.2.2.2.2.2.2.1,x.2.2.2.2.2.2.2.1,x.2.2.2.2.2.2.2.2.1,x.2.2.2.2.2.2.2.2.2.1,x.2.2.2.2.2.2.2.2.2.2.1,x.2.2.2.2.2.2.2.2.2.2.2.1,x.2.2.2.2.2.2.2.2.2.2.2.2.1,x.2.2.2.2.2.2.2.2.2.2.2.2.2.1,x.2.2.2.2.2.2.2.2.2.2.2.2.2.2.1,x.2.2.2.2.2.2.2.2.2.2.2.2.2.2.2.1,v.2.2)
theorem qf1 (x:tqe):LE.step X qeX qee q0 qeS 12 x=Wb x.2.2.1 x.2.2.2.1 x.2.2.2.2.1 x.2.2.2.2.2.1 x.2.2.2.2.2.2.1 x.2.2.2.2.2.2.2.1 x.2.2.2.2.2.2.2.2.1 x.2.2.2.2.2.2.2.2.2.1 x.2.2.2.2.2.2.2.2.2.2.1 x.2.2.2.2.2.2.2.2.2.2.2.1 x.2.2.2.2.2.2.2.2.2.2.2.2.1 x.2.2.2.2.2.2.2.2.2.2.2.2.2.1 x.2.2.2.2.2.2.2.2.2.2.2.2.2.2.1 x.2.2.2.2.2.2.2.2.2.2.2.2.2.2.2.1 x.1 x.2.1 x.2.2.2.2.2.2.2.2.2.2.2.2.2.2.2.2 (fun w0 w1 w2=>(Sum.inl (w0,w1,x.2.2.1,x.2.2.2.1,x.2.2.2.2.1,x.2.2.2.2.2.1,x.2.2.2.2.2.2.1,x.2.2.2.2.2.2.2.1,x.2.2.2.2.2.2.2.2.1,x.2.2.2.2.2.2.2.2.2.1,x.2.2.2.2.2.2.2.2.2.2.1,x.2.2.2.2.2.2.2.2.2.2.2.1,x.2.2.2.2.2.2.2.2.2.2.2.2.1,x.2.2.2.2.2.2.2.2.2.2.2.2.2.1,x.2.2.2.2.2.2.2.2.2.2.2.2.2.2.1,x.2.2.2.2.2.2.2.2.2.2.2.2.2.2.2.1,w2))) (fun p0=>(Sum.inr (x.2.2.1,x.2.2.2.1,x.2.2.2.2.1,x.2.2.2.2.2.1,x.2.2.2.2.2.2.1,x.2.2.2.2.2.2.2.1,x.2.2.2.2.2.2.2.2.1,x.2.2.2.2.2.2.2.2.2.1,x.2.2.2.2.2.2.2.2.2.2.1,x.2.2.2.2.2.2.2.2.2.2.2.1,x.2.2.2.2.2.2.2.2.2.2.2.2.1,x.2.2.2.2.2.2.2.2.2.2.2.2.2.1,x.2.2.2.2.2.2.2.2.2.2.2.2.2.2.1,x.2.2.2.2.2.2.2.2.2.2.2.2.2.2.2.1,p0))):=by kernel_rfl
theorem qf3 {R:Type} (x:tqe) (k:tqf→Option R) (r:R) (h:qeZ x k=some r):∃o,Z5L (LE.step X qeX qee q0 qeS 12) x o∧k o=some r:=by
 obtain⟨o,h1,h2⟩:=Z0 h;exact⟨qeY x o,Zjo (st:=fun(x:tqe)=>XC x.2.2.1 x.2.2.2.1 x.2.2.2.2.1 x.2.2.2.2.2.1 x.2.2.2.2.2.2.1 x.2.2.2.2.2.2.2.1 x.2.2.2.2.2.2.2.2.1 x.2.2.2.2.2.2.2.2.2.1 x.2.2.2.2.2.2.2.2.2.2.1 x.2.2.2.2.2.2.2.2.2.2.2.1 x.2.2.2.2.2.2.2.2.2.2.2.2.1 x.2.2.2.2.2.2.2.2.2.2.2.2.2.1 x.2.2.2.2.2.2.2.2.2.2.2.2.2.2.1 x.2.2.2.2.2.2.2.2.2.2.2.2.2.2.2.1) (prj:=fun x=>(x.1,x.2.1,x.2.2.2.2.2.2.2.2.2.2.2.2.2.2.2.2)) (emb:=qf0) (embO:=qeY) (fun x=>(qf1 x).trans (by unfold XC Wb;simp only[Zji,Zj8,Zjj,Option.map_some,Option.map_none];rfl)) (fun _ _=>rfl) (fun _ _=>rfl) (fun _ _ _=>rfl) (fun _ _ _=>rfl) (fun _=>rfl) (Z28.1 h1),by first|exact h2|(rcases o with o<;>exact h2)⟩
def qf4 {R:Type}:Z36 S R:=LE.ls X qeX qeZ qeS
theorem qf5 {R:Type}:Z58 X (qf4 (R:=R)):=Zjt xok qef (e:=qeX) q1 qeT qf3 qeT
theorem qf6 (x0:SgMooring) (x1:List ZD) (x2:ZD):Zju X qee [(.st 9),(.sl (.st 10)),(.st 10)] [(.sl (.st 2)),(.int .i64)] q0 qf4 12 46 (x0,x1,x2,())=X2a x0 x1 x2:=by kernel_rfl
def qf7:F7 S:=⟨[(.st 9),(.sl (.st 10)),(.st 10)],[(.sl (.st 2)),(.int .i64)],fun xs=>X2a xs.1 xs.2.1 xs.2.2.1⟩
theorem qf8:Zfl X 46 qf7:=Zjs (Zjr xok qef q1 qf5 12 46) fun xs _ h=>(qf6 xs.1 xs.2.1 xs.2.2.1).trans h
def qf9:List (Nat×F7 S):=[(46,qf7),(17,q8F)]
theorem qfa:ZbA X (qf9):=⟨qf8,q8G,trivial⟩
def qfd:Key:=⟨[10],10,none,[0,0,1,0,1,1,1],0,19⟩
def qfe:StT S:=⟨(N (N (N L (some (.ptr 0 0)) (N L none (N L vL L))) none L) none (N (N L none (N L none (N L vL L))) none (N (N L none (N L vJ L)) (some (.ptr 2 0)) L))),(N (N L og L) om (N L on L)),19⟩
def qff:Way S:=⟨.ret,⟨v1a,o1q,46⟩,[.int,.int,(.st 10),(.st 9),(.st 2),(.st 2)]⟩
def qfg:Way S:=⟨.ret,⟨v1a,o1q,61⟩,[.int,.int,(.st 10),(.st 9),(.st 2),(.st 2)]⟩
def qfh:Way S:=⟨(.exit 0),⟨(N L none (N L none (N L (some (.ptr 2 0)) L))),(N (N L og L) om (N L on L)),20⟩,[(.st 10),(.st 9),(.st 2)]⟩
def qfi:LE S:=⟨qfd,qfe,[.int,.int,(.lst (.st 2)),(.st 10),(.st 9),(.st 2)],[qff,qfg,qfh]⟩
def qfj (x:tqV):((Int×Int×Point×Point)⊕(Int×Int×Point×Point)⊕Unit)→tqq:=Sum.elim (fun y0=>(.inl (y0.1,y0.2.1,x.2.2.2.1,x.2.2.2.2.1,y0.2.2.1,y0.2.2.2))) (Sum.elim (fun y1=>(.inr (.inl (y1.1,y1.2.1,x.2.2.2.1,x.2.2.2.2.1,y1.2.2.1,y1.2.2.2)))) (fun y2=>(.inr (.inr (x.2.2.2.1,x.2.2.2.2.1,x.2.2.2.2.2)))))
def qfk {R:Type} (x:tqV) (k:tqq→Option R):Option R:=(X2D x.1 x.2.2.1 x.2.2.2.1 x.2.2.2.2.1 x.2.2.2.2.2 x.2.1).bind (Sum.elim (fun y0=>k (.inl (y0.1,y0.2.1,x.2.2.2.1,x.2.2.2.2.1,y0.2.2.1,y0.2.2.2))) (Sum.elim (fun y1=>k (.inr (.inl (y1.1,y1.2.1,x.2.2.2.1,x.2.2.2.2.1,y1.2.2.1,y1.2.2.2)))) (fun y2=>k (.inr (.inr (x.2.2.2.1,x.2.2.2.2.1,x.2.2.2.2.2))))))
def qfl (x:tqV) (v:Int):tqV:=(x.1,v,x.2.2.1,x.2.2.2.1,x.2.2.2.2.1,x.2.2.2.2.2)
theorem qfm (x:tqV):LE.step X qfi qf9 q0 q4 12 x=Wa x.1 x.2.2.1 x.2.2.2.1 x.2.2.2.2.1 x.2.2.2.2.2 x.2.1 (fun w0=>(Sum.inl (x.1,w0,x.2.2.1,x.2.2.2.1,x.2.2.2.2.1,x.2.2.2.2.2))) (fun p0 p1 p2 p3=>(Sum.inr (.inl (p0,p1,x.2.2.2.1,x.2.2.2.2.1,p2,p3)))) (fun p0 p1 p2 p3=>(Sum.inr (.inr (.inl (p0,p1,x.2.2.2.1,x.2.2.2.2.1,p2,p3))))) (Sum.inr (.inr (.inr (x.2.2.2.1,x.2.2.2.2.1,x.2.2.2.2.2)))):=by kernel_rfl
theorem qfo {R:Type} (x:tqV) (k:tqq→Option R) (r:R) (h:qfk x k=some r):∃o,Z5L (LE.step X qfi qf9 q0 q4 12) x o∧k o=some r:=by
 obtain⟨o,h1,h2⟩:=Z0 h;exact⟨qfj x o,Zjo (st:=fun(x:tqV)=>XX x.1 x.2.2.1 x.2.2.2.1 x.2.2.2.2.1 x.2.2.2.2.2) (prj:=fun x=>x.2.1) (emb:=qfl) (embO:=qfj) (fun x=>(qfm x).trans (by unfold XX Wa;simp only[Zji,Zj8,Zjj,Option.map_some,Option.map_none];rfl)) (fun _ _=>rfl) (fun _ _=>rfl) (fun _ _ _=>rfl) (fun _ _ _=>rfl) (fun _=>rfl) (Z28.1 h1),by first|exact h2|(rcases o with o|o|o<;>exact h2)⟩
def qfp {R:Type}:Z36 S R:=LE.ls X qfi qfk q4
theorem qfq {R:Type}:Z58 X (qfp (R:=R)):=Zjt xok qfa (e:=qfi) q1 q5 qfo q5
theorem qfr (x0:SgMooring) (x1:List ZD) (x2:ZD):Zju X qf9 [(.st 9),(.sl (.st 10)),(.st 10)] [(.st 2),(.int .i64),(.int .i64)] q0 qfp 12 10 (x0,x1,x2,())=X29 x0 x1 x2:=by kernel_rfl
def qfs:F7 S:=⟨[(.st 9),(.sl (.st 10)),(.st 10)],[(.st 2),(.int .i64),(.int .i64)],fun xs=>X29 xs.1 xs.2.1 xs.2.2.1⟩
theorem qft:Zfl X 10 qfs:=Zjs (Zjr xok qfa q1 qfq 12 10) fun xs _ h=>(qfr xs.1 xs.2.1 xs.2.2.1).trans h
end
end Nore
