/- The code comes to the plain functions. -/
import Derived.Test.YtaaalkppbbpacaaGreatDoorY
import Derived.Test.YtaaalkppbbpacaaGreatDoorD
set_option linter.unusedSectionVars false
set_option linter.unusedVariables false
set_option linter.unusedSimpArgs false
set_option maxRecDepth 100000
open Go Go.Ab Go.Proofs Go.Proofs.YtaaalkppbbpacaaGreatDoor
open Go.Ab.Tr renaming node->N,leaf->L
namespace Prod
abbrev v2 {a b s:Type} (x:a×b×s):=x.2.2
abbrev u2 {a b r s:Type} (x:a×b×r×s):=x.2.2.1
abbrev v3 {a b c s:Type} (x:a×b×c×s):=x.2.2.2
abbrev u3 {a b c r s:Type} (x:a×b×c×r×s):=x.2.2.2.1
abbrev v4 {a b c d s:Type} (x:a×b×c×d×s):=x.2.2.2.2
abbrev u4 {a b c d r s:Type} (x:a×b×c×d×r×s):=x.2.2.2.2.1
abbrev v5 {a b c d e s:Type} (x:a×b×c×d×e×s):=x.2.2.2.2.2
abbrev u5 {a b c d e r s:Type} (x:a×b×c×d×e×r×s):=x.2.2.2.2.2.1
abbrev v6 {a b c d e f s:Type} (x:a×b×c×d×e×f×s):=x.2.2.2.2.2.2
abbrev u6 {a b c d e f r s:Type} (x:a×b×c×d×e×f×r×s):=x.2.2.2.2.2.2.1
abbrev v7 {a b c d e f g s:Type} (x:a×b×c×d×e×f×g×s):=x.2.2.2.2.2.2.2
abbrev u7 {a b c d e f g r s:Type} (x:a×b×c×d×e×f×g×r×s):=x.2.2.2.2.2.2.2.1
abbrev v8 {a b c d e f g h s:Type} (x:a×b×c×d×e×f×g×h×s):=x.2.2.2.2.2.2.2.2
abbrev u8 {a b c d e f g h r s:Type} (x:a×b×c×d×e×f×g×h×r×s):=x.2.2.2.2.2.2.2.2.1
abbrev v9 {a b c d e f g h i s:Type} (x:a×b×c×d×e×f×g×h×i×s):=x.2.2.2.2.2.2.2.2.2
abbrev u9 {a b c d e f g h i r s:Type} (x:a×b×c×d×e×f×g×h×i×r×s):=x.2.2.2.2.2.2.2.2.2.1
abbrev v10 {a b c d e f g h i j s:Type} (x:a×b×c×d×e×f×g×h×i×j×s):=x.2.2.2.2.2.2.2.2.2.2
abbrev u10 {a b c d e f g h i j r s:Type} (x:a×b×c×d×e×f×g×h×i×j×r×s):=x.2.2.2.2.2.2.2.2.2.2.1
abbrev v11 {a b c d e f g h i j k s:Type} (x:a×b×c×d×e×f×g×h×i×j×k×s):=x.2.2.2.2.2.2.2.2.2.2.2
abbrev u11 {a b c d e f g h i j k r s:Type} (x:a×b×c×d×e×f×g×h×i×j×k×r×s):=x.2.2.2.2.2.2.2.2.2.2.2.1
abbrev v12 {a b c d e f g h i j k l s:Type} (x:a×b×c×d×e×f×g×h×i×j×k×l×s):=x.2.2.2.2.2.2.2.2.2.2.2.2
abbrev u12 {a b c d e f g h i j k l r s:Type} (x:a×b×c×d×e×f×g×h×i×j×k×l×r×s):=x.2.2.2.2.2.2.2.2.2.2.2.2.1
abbrev v13 {a b c d e f g h i j k l m s:Type} (x:a×b×c×d×e×f×g×h×i×j×k×l×m×s):=x.2.2.2.2.2.2.2.2.2.2.2.2.2
abbrev u13 {a b c d e f g h i j k l m r s:Type} (x:a×b×c×d×e×f×g×h×i×j×k×l×m×r×s):=x.2.2.2.2.2.2.2.2.2.2.2.2.2.1
abbrev v14 {a b c d e f g h i j k l m n s:Type} (x:a×b×c×d×e×f×g×h×i×j×k×l×m×n×s):=x.2.2.2.2.2.2.2.2.2.2.2.2.2.2
end Prod
namespace Nore
noncomputable section
abbrev X1B:Type:=List (Zn×Int)
abbrev Xae:Type:=Int×(List Int)×Int
abbrev X6e:Type:=List (ByteArray×Int)
abbrev Xad:Type:=Int×Int×Int×ZC
abbrev X88:Type:=Int×(List Zz)×Int
abbrev X9L:Type:=(Int×Int×Zz)⊕Unit
abbrev Xac:Type:=(List Zt)×Int×ZS
abbrev Xab:Type:=Int×(List Point)×Int×Int
abbrev X8b:Type:=Int×(List ByteArray)×ZS
abbrev Xar:Type:=Int×Int×(List Point)×Int
abbrev XaM:Type:=(Int×Int×Int)⊕(Int×Int)
abbrev Xaq:Type:=Int×(List ByteArray)×Zo
abbrev Xap:Type:=Int×Zo×(List ByteArray)
abbrev Xao:Type:=Int×(List Zz)×Int×Point
abbrev Xan:Type:=(Nat->Point)×Int×Int×Point
abbrev X9M:Type:=Int×ByteArray×ByteArray×Nat
abbrev X8a:Type:=Int×(List Int)×Int×Int×Int
abbrev Xam:Type:=ByteArray×Int×(List ByteArray)
abbrev Xal:Type:=Int×Int×(List ZN)×Int×Int
abbrev Xak:Type:=Int×(List Z9)×Int×ZS
abbrev Xbj:Type:=(List Int)×Point×Zo×(List Int)
abbrev Xaj:Type:=(List Point)×Int×Point×CtSand×Point
abbrev X9a:Type:=Int×ZC×ZF×Zo×(Nat->Int)
abbrev X99:Type:=Int×ZC×ZF×(Nat->Int)×Zo
abbrev Xai:Type:=Int×Int×Int×(List Zr)×(List Int)
abbrev X89:Type:=Int×(List Z9)×Int×Z9
abbrev Xbi:Type:=Point×Z7×ZS×(List Zt)
abbrev XaL:Type:=(Int×Z9×Z9)⊕Z9
abbrev Xah:Type:=Int×Int×ZC×ZF×Zo×(Nat->Int)
abbrev Xag:Type:=Int×Int×ZC×ZF×(Nat->Int)×Zo
abbrev Xbh:Type:=ZC×ZF×Zo×(Nat->Int)×(List Int)
abbrev Xbg:Type:=ZC×ZF×(List Int)×(Nat->Int)×Zo
abbrev Xbf:Type:=Int×Int×Int×X6e×CtSand
abbrev Xaf:Type:=Int×Point×Z7×ZS×(List Zt)
abbrev Xbe:Type:=(Int×(List Int)×Point×(List Int)×Zz)⊕Point
abbrev Xbd:Type:=(Int×Int×Z9×Z9×ZS)⊕ZS
abbrev Xaa:Type:=Int×Int×Int×(List CtSand)×Point×Point×Zo
abbrev Xbc:Type:=(Bool×Point×CtSand×Point)⊕(Point×CtSand×Point)
abbrev XaY:Type:=ZS×(List Zt)×(Nat->Nat)×X1B
abbrev Xa9:Type:=Int×(List CtSand)×Int×Zo×X6e
abbrev Xa8:Type:=Int×Int×(List ZC)×Zo×X6e
abbrev Xbb:Type:=(Bool×ByteArray×Nat)⊕X9M
abbrev Xba:Type:=Int×Int×Int×(List ByteArray)×ZC×(List ByteArray)
abbrev Xa7:Type:=Int×Z6×(List Zt)×ZS×ZF×Point
abbrev tqZ:Type:=Int×ZS×(List Zt)×(Nat->Nat)×X1B
abbrev tqY:Type:=Int×(List CtSand)×Int×(List Int)×Point×Zo×(List Int)
abbrev tqX:Type:=Bool×Int×Z6×(List Zt)×ZS×ZF×Point
abbrev tqW:Type:=(Nat->Int)×Int×ZC×ZF×Zo×(Nat->Int)×(List Int)
abbrev tqV:Type:=(Nat->Int)×Int×ZC×ZF×(List Int)×(Nat->Int)×Zo
abbrev tqU:Type:=(Int×Int×Int×(List ByteArray)×ZS)⊕((List ByteArray)×ZS)
abbrev tqT:Type:=Int×Int×Bool×Z6×(List Zt)×ZS×ZF×Point
abbrev tqS:Type:=(Nat->Int)×ZS×(List Zt)×(Nat->Nat)×X1B
abbrev tqR:Type:=(List Point)×ZS×(List Zt)×(Nat->Nat)×X1B
abbrev tqQ:Type:=(Int×Bool×ZS×(List Zt)×(Nat->Nat)×Int×X1B)
abbrev tqP:Type:=Int×(List Point)×ZS×(List Zt)×(Nat->Nat)×X1B
abbrev tqO:Type:=Int×ZS×(List Zt)×(Nat->Nat)×X1B×(List Point)
abbrev tqN:Type:=Bool×(List Point)×Int×Z6×(List Zt)×ZS×ZF×Point
abbrev tqM:Type:=Int×Int×Int×ZS×(List Zt)×(Nat->Nat)×Int×X1B
abbrev tqL:Type:=(List Zt)×ZS×ZS×(List Zt)×(Nat->Nat)×X1B
abbrev tqK:Type:=tqM
abbrev tqJ:Type:=(Bool×Int×CtSand×Point×Point×Zo×Zf)⊕(Point×Point×Zo)
abbrev tqI:Type:=Int×Zf×Bool×Int×Bool×Zf×Bool×Int×Zf×Ze
abbrev tqH:Type:=Int×Int×ZS×(List Zt)×(Nat->Nat)×X1B×(List Point)
abbrev tqG:Type:=Int×(List Zt)×Int×ZS×(List Zt)×(Nat->Nat)×X1B
abbrev tqF:Type:=Int×Int×Int×Int×Int×(List CtSand)×CtSand×Point×Point×Zo×Zf
abbrev tqE:Type:=Int×Int×ZS×(List Zt)×(Nat->Nat)×X1B×Bool×Int×Int
abbrev tqD:Type:=Int×Int×Int×(List Zt)×ZS×(List Zt)×(Nat->Nat)×X1B
abbrev tqC:Type:=Int×Int×(Nat->ZN)×ZS×(List Zt)×(Nat->Nat)×X1B×Point
abbrev tqB:Type:=Int×Int×Int×Int×Int×Int×(List CtSand)×CtSand×Point×Point×Zo×Zf
abbrev tqA:Type:=Int×Int×Int×ZS×(List Zt)×(Nat->Nat)×X1B×Bool×Int×Int
abbrev tqz:Type:=Int×Int×Int×(List Int)×Bool×Int×Z6×(List Zt)×ZS×ZF×Point
abbrev tqy:Type:=X1B×ZF×Point×ZS×ZS×(List Zt)×(Nat->Nat)×(List Point)
abbrev tqx:Type:=Z8×Int×Zf×Point×Z8×Zf×Int×Zf×Point×Point
abbrev tqw:Type:=Int×Int×Bool×(List CtSand)×Bool×Int×(List Int)×Point×CtSand×Zo×(List Int)×Zf
abbrev tqv:Type:=Int×Int×X1B×ZF×Point×ZS×ZS×(List Zt)×(Nat->Nat)×(List Point)
abbrev tqu:Type:=Int×Int×(List Point)×Point×Bool×Point×Zf×Zf×Bool×Point×Zf×Int×Int
abbrev tqt:Type:=Int×Int×(List Point)×Int×Int×(Nat->Int)×ZS×(List Zt)×(Nat->Nat)×X1B
abbrev tqs:Type:=Int×Int×(List Point)×Int×Zf×Bool×Int×Bool×Zf×Bool×Int×Zf×Ze
abbrev tqr:Type:=Int×Int×(List Point)×Zf×Bool×Int×Bool×Zf×Bool×Int×Zf×(List Int)×Point
abbrev tqq:Type:=(List Z9)×(List Zt)×Int×Int×ZS×ZS×(List Zt)×(Nat->Nat)×X1B
abbrev tqp:Type:=Int×Int×Bool×Int×(List CtSand)×Bool×Int×Int×(List Int)×Point×CtSand×Zo×(List Int)×Zf
abbrev tqo:Type:=Int×Int×(List Zt)×Int×Int×(Nat->ZN)×ZS×(List Zt)×(Nat->Nat)×X1B×Point
abbrev tqn:Type:=Int×Int×Int×Zo×(List Int)×Bool×Int×Bool×Zo×Int×Bool×(List Int)×Int×(List Zr)×ZC
abbrev tqm:Type:=(Bool×Z6×(List Zt)×ZS×ZF×Point)⊕(Z6×(List Zt)×ZS×ZF×Point)
abbrev tql:Type:=Int×Int×Int×Int×(List Z9)×(Nat->ZN)×ZS×(List Zt)×(Nat->Nat)×X1B×Point
abbrev tqk:Type:=Int×Int×(List Point)×Z8×Int×Zf×Point×Z8×Zf×Int×Zf×Point×Point
abbrev tqj:Type:=(Bool×Z6×(List Zt)×ZS×ZF×Point)⊕(Bool×Z6×(List Zt)×ZS×ZF×Point)
abbrev tqi:Type:=Int×Int×(List Point)×Int×Int×(Nat->Int)×ZS×(List Zt)×(Nat->Nat)×X1B×(Nat->ZN)×Point
abbrev tqh:Type:=(Bool×Int×CtSand×Point×Point×Zo×Zf)⊕(Int×Int×Int×(List CtSand)×CtSand×Point×Point×Zo×Zf)
abbrev tqg:Type:=(Bool×CtSand×Z6×(List Zt)×ZS×ZF×Point×Point)⊕(Z6×(List Zt)×ZS×ZF×Point)
abbrev tqf:Type:=Int×Int×Int×(List Point)×Int×Int×Int×Int×(Nat->Int)×ZS×(List Zt)×(Nat->Nat)×X1B×(Nat->ZN)×Point
abbrev tqe:Type:=(Int×Bool×ZS×(List Zt)×(Nat->Nat)×Int×X1B)⊕(ZS×(List Zt)×(Nat->Nat)×Int×X1B)
abbrev tqd:Type:=(Bool×Int×CtSand×Point×Point×Zo×Zf)⊕tqF
abbrev tqc:Type:=(Int×Int×ZS×(List Zt)×(Nat->Nat)×Zt×Zt×X1B)⊕XaY
abbrev tqb:Type:=(Int×Int×Int×(List ByteArray)×(List ByteArray)×Zo)⊕(Int×Int×Int×(List ByteArray)×(List ByteArray)×Zo)⊕((List ByteArray)×Zo)
abbrev tqa:Type:=(Int×(List Int)×(List Int)×Zr)⊕(Int×(List Int)×(List Int)×(List Int)×Zr)⊕(Int×(List Int)×(List Int)×(List Int)×Zr)⊕(List Int)
abbrev tq9:Type:=(Int×Int×Int×(List ByteArray)×ZS×(List ByteArray)×Z9)⊕(Int×Int×Int×(List ByteArray)×ZS×(List ByteArray)×Z9)⊕((List ByteArray)×ZS)
abbrev tq8:Type:=(Int×ZS×(List Zt)×(Nat->Nat)×(Nat->ZN)×Point×X1B×Bool×Int×Int)⊕(Int×ZS×(List Zt)×(Nat->Nat)×X1B×Bool×Int×Int)
abbrev tq7:Type:=(Zf×Bool×Int×Bool×Zf×Bool×Int×Zf×Point×Ze×(List Int)×Point)⊕(Zf×Bool×Int×Bool×Zf×Bool×Int×Zf×(List Int)×Point)
abbrev tq6:Type:=(Int×ZS×(List Zt)×(Nat->Nat)×(Nat->ZN)×Point×X1B×Bool×Int×Int)⊕tqE
abbrev tq5:Type:=(Int×Int×Int×Zo×X6e×CtSand)⊕(Int×Int×Int×Zo×X6e×CtSand)⊕(Int×Int×Int×Zo×X6e×CtSand)⊕(Zo×X6e)
abbrev tq4:Type:=(Zr×Int×Int×Zo×(List Int)×Bool×Int×Bool×Zo×Int×Bool×(List Int)×Int×(List Zr)×ZC)⊕(Int×Int×Zo×(List Int)×Bool×Int×Bool×Zo×Int×Bool×(List Int)×Int×(List Zr)×ZC)
abbrev tq3:Type:=(Int×Int×Int×(List ByteArray)×ZC×Zo×(List ByteArray))⊕(Int×Int×Int×(List ByteArray)×ZC×Zo×(List ByteArray))⊕(Int×Int×Int×(List ByteArray)×ZC×Zo×(List ByteArray))⊕(Zo×(List ByteArray))
abbrev tq2:Type:=(Bool×(Nat->ZN)×ZS×(List Zt)×(Nat->Nat)×ZN×X1B×Point×Zt)⊕(Bool×(Nat->ZN)×ZS×(List Zt)×(Nat->Nat)×ZN×X1B×Point×Zt)⊕((Nat->ZN)×ZS×(List Zt)×(Nat->Nat)×X1B×Point)
abbrev tq1:Type:=(Int×Int×Int×ZC×Zo×X6e)⊕(Int×Int×Int×ZC×Zo×X6e)⊕(Int×Int×Int×ZC×Zo×X6e×(List Point))⊕(Int×Int×Int×ZC×Zo×X6e×(List Point))⊕(Zo×X6e)
abbrev tq0:Type:=(Point×Bool×Ze×Point×Point×Point×Zf×Zf×Bool×Point×Zf×Int×Int)⊕(Point×Bool×Ze×Point×Point×Point×Point×Zf×Zf×Bool×Point×Zf×Int×Int)⊕(Point×Bool×Ze×Point×Point×Point×Zf×Zf×Bool×Point×Zf×Int×Int)⊕(Point×Bool×Point×Zf×Zf×Bool×Point×Zf×Int×Int)
abbrev vU:Option (TV S):=some (.bool false)
abbrev vT:Option (TV S):=some (.int .i64 0)
abbrev vS:Option (TV S):=some (.sl (.st 7) [])
abbrev vR:Option (TV S):=some (.sl (.st 2) [])
abbrev vQ:Option (TV S):=some (.sl (.st 23) [])
abbrev vP:Option (TV S):=some (.sl (.st 18) [])
abbrev vO:Option (TV S):=some (.sl (.int .i64) [])
abbrev oN:Option (Zp S):=some (.row 9 .str [] 1 1)
abbrev oM:Option (Zp S):=some (.row 9 .str [] 0 0)
abbrev oL:Option (Zp S):=some (.row 9 .str [] 1 0)
abbrev vK:Option (TV S):=some (.str ByteArray.empty)
abbrev oJ:Option (Zp S):=some (.cells 232 [(.map 4)])
abbrev oI:Option (Zp S):=some (.row 43 (.st 2) [] 1 0)
abbrev oH:Option (Zp S):=some (.cells 148 [(.ptr 3 0)])
abbrev oG:Option (Zp S):=some (.cells 148 [(.ptr 1 0)])
abbrev oF:Option (Zp S):=some (.row 134 (.st 23) [] 1 0)
abbrev oE:Option (Zp S):=some (.row 134 (.st 23) [] 0 0)
abbrev oD:Option (Zp S):=some (.cells 148 [(.ptr 20 0)])
abbrev oC:Option (Zp S):=some (.cells 4 [(.bool false)])
abbrev oB:Option (Zp S):=some (.map .str (.int .i64) [])
abbrev oA:Option (Zp S):=some (.siter ByteArray.empty 0)
abbrev oz:Option (Zp S):=some (.cells 3 [(.int .i64 0)])
abbrev oy:Option (Zp S):=some (.cells 35 [(.int .i64 0)])
abbrev ox:Option (Zp S):=some (.row 3 (.int .i64) [] 1 0)
abbrev vw:Option (TV S):=some (.agg [(.stc 8 (T.dflt 8))])
abbrev vv:Option (TV S):=some (.agg [(.stc 2 (T.dflt 2))])
abbrev vu:Option (TV S):=some (.agg [(.stc 20 (T.dflt 20))])
abbrev vt:Option (TV S):=some (.agg [(.stc 23 (T.dflt 23))])
abbrev os:Option (Zp S):=some (.map (.st 24) (.int .i64) [])
abbrev vr:Option (TV S):=some (.agg [(.stc 15 (T.dflt 15))])
abbrev oq:Option (Zp S):=some (.cells 159 [(.sl (.st 3) [])])
abbrev op:Option (Zp S):=some (.cells 29 [(.stc 6 (T.dflt 6))])
abbrev vo:Option (TV S):=some (.fn (.func 137) [] [(.ptr 5 0)])
abbrev on:Option (Zp S):=some (.cells 43 [(.stc 2 (T.dflt 2))])
abbrev om:Option (Zp S):=some (.cells 25 [(.stc 8 (T.dflt 8))])
abbrev ol:Option (Zp S):=some (.cells 71 [(.stc 7 (T.dflt 7))])
abbrev vk:Option (TV S):=some (.fn (.func 176) [] [(.ptr 36 0)])
abbrev vj:Option (TV S):=some (.fn (.func 173) [] [(.ptr 23 0)])
abbrev oi:Option (Zp S):=some (.cells 173 [(.stc 3 (T.dflt 3))])
abbrev oh:Option (Zp S):=some (.cells 161 [(.stc 4 (T.dflt 4))])
abbrev og:Option (Zp S):=some (.cells 58 [(.stc 22 (T.dflt 22))])
abbrev of:Option (Zp S):=some (.cells 52 [(.stc 20 (T.dflt 20))])
abbrev oe:Option (Zp S):=some (.cells 134 [(.stc 23 (T.dflt 23))])
abbrev od:Option (Zp S):=some (.cells 131 [(.stc 19 (T.dflt 19))])
abbrev oc:Option (Zp S):=some (.cells 155 [(.stc 16 (T.dflt 16))])
abbrev ob:Option (Zp S):=some (.cells 225 [(.stc 17 (T.dflt 17))])
abbrev oa:Option (Zp S):=some (.cells 153 [(.stc 15 (T.dflt 15))])
abbrev o9:Option (Zp S):=some (.cells 125 [(.stc 18 (T.dflt 18))])
abbrev o8:Option (Zp S):=some (.cells 196 [(.arr (.st 5) 4 (fun _=>tdf T (.st 5)))])
abbrev o7:Option (Zp S):=some (.cells 168 [(.arr (.int .i64) 32 (fun _=>tdf T (.int .i64)))])
abbrev o6:Option (Zp S):=some (.cells 201 [(.fn (.func 120) [] [(.ptr 4 0),(.ptr 1 0),(.ptr 0 0)])])
abbrev o5:Option (Zp S):=some (.cells 211 [(.stc 20 (T.dflt 20)),(.sl (.st 23) []),(.earr [204,256] 3 4 (fun _=>0)),(.map 2)])
abbrev o4:Option (Zp S):=some (.cells 211 [(.stc 20 (T.dflt 20)),(.sl (.st 23) []),(.earr [204,256] 1 4 (fun _=>0)),(.map 0)])
abbrev o3:Option (Zp S):=some (.cells 211 [(.stc 20 (T.dflt 20)),(.sl (.st 23) []),(.earr [204,256] 20 4 (fun _=>0)),(.map 18)])
abbrev o2:Option (Zp S):=some (.loop 78 (N (N (N (N L (some (.fn (.func 172) [] [(.ptr 6 0)])) L) none L) (some (.ptr 2 0)) L) (some (.ptr 1 0)) (N L (some (.ptr 3 0)) L)) (8::[]) .skip .skip 0 .normal (0::(78::[])) (0::(1::(0::(1::[])))))
abbrev o1:Option (Zp S):=some (.loop 121 (N (N (N L (some (.ptr 3 0)) (N (N L (some (.fn (.func 172) [] [(.ptr 18 0)])) L) none L)) vT (N L (some (.ptr 14 0)) L)) (some (.ptr 1 0)) (N (N L (some (.ptr 4 0)) L) (some (.ptr 2 0)) L)) (20::[]) .skip .skip 0 .normal (0::(121::[])) (0::(1::(0::(1::(1::[]))))))
abbrev o0:Option (Zp S):=some (.loop 110 (N (N (N (N (N L (some (.fn (.func 173) [] [(.ptr 8 0)])) L) (some (.ptr 4 0)) L) (some (.ptr 0 0)) L) vv (N L (some (.ptr 2 0)) L)) vr (N (N L (some (.ptr 1 0)) L) vT (N L (some (.ptr 3 0)) L))) (16::[]) .skip .skip 0 .ret (0::(110::[])) (0::(1::(0::(1::(1::[]))))))
abbrev v1Z:Tr (TV S):=N L none (N (N L vU L) none L)
abbrev v1Y:Tr (TV S):=N (N L none (N L vT L)) none L
abbrev o1X:Tr (Zp S):=N (N (N L on L) none L) none L
abbrev o1W:Tr (Zp S):=N (N (N L ox L) none L) none L
abbrev o1V:Tr (Zp S):=N (N (N L oA L) none L) none L
abbrev o1U:Tr (Zp S):=N L none (N (N L oL L) none L)
abbrev v1T:Tr (TV S):=N (N (N L vT L) none L) none L
abbrev v1S:Tr (TV S):=N L none (N (N L vT L) none L)
abbrev v1R:Tr (TV S):=N (N L vT L) (some (.ptr 1 0)) L
abbrev v1Q:Tr (TV S):=N (N L (some (.ptr 3 0)) L) none L
abbrev v1P:Tr (TV S):=N L none (N L (some (.ptr 40 0)) L)
abbrev o1O:Tr (Zp S):=N (N (N L o8 L) o4 L) os (N L on L)
abbrev v1N:Tr (TV S):=N v1T none L
abbrev o1M:Tr (Zp S):=N (N (N L o5 L) oz L) o6 (N (N L oH L) os L)
abbrev o1L:Tr (Zp S):=N (N L none (N L oJ L)) om (N (N L oB L) none L)
abbrev v1K:Tr (TV S):=N (N (N L vT L) none L) none (N (N L vT L) vT L)
abbrev v1J:Tr (TV S):=N (N L none (N L vT L)) none (N (N L vT L) none L)
abbrev o1I:Tr (Zp S):=N L none (N (N (N (N L o9 L) none L) none L) none L)
abbrev v1H:Tr (TV S):=N (N (N L vT L) (some (.ptr 6 0)) L) (some (.yld 11)) L
abbrev v1G:Tr (TV S):=N (N (N L vT L) (some (.ptr 18 0)) L) (some (.yld 22)) L
abbrev o1F:Tr (Zp S):=N (N (N o1U none L) none L) of L
abbrev v1E:Tr (TV S):=N (N L (some (.ptr 22 0)) (N L vT L)) none (N (N L vT L) none L)
abbrev v1D:Tr (TV S):=N L (some (.tup [(.agg [(.stc 5 (T.dflt 5))]),(.bool false)])) L
abbrev o1C:Tr (Zp S):=N (N (N L o7 L) o4 L) os (N L none (N (N (N L o8 L) on L) none L))
abbrev o1B:Tr (Zp S):=N (N (N L none (N L oh L)) op (N L none (N (N L o7 L) none L))) om L
abbrev o1A:Tr (Zp S):=N (N L none (N L oJ (N (N L oh L) none L))) om (N (N L oB L) none L)
abbrev v1z:Tr (TV S):=N v1S none (N (N (N L vR L) none L) none L)
abbrev o1y:Tr (Zp S):=N (N (N L none (N L oh L)) op L) om (N L none (N (N (N L o7 L) none L) none L))
abbrev o1x:Tr (Zp S):=N (N L none (N L oJ L)) om (N (N L oB L) none (N L none (N L none (N L ol L))))
abbrev v1w:Tr (TV S):=N (N (N L (some .nils) L) none (N L vT L)) none (N (N L (some (.ptr 11 0)) L) none L)
abbrev v1v:Tr (TV S):=N v1Z none (N v1Q none L)
abbrev o1u:Tr (Zp S):=N (N (N (N (N L ol L) none L) on L) on L) om (N (N L none (N (N L oa L) none L)) none L)
abbrev o1t:Tr (Zp S):=N L none (N (N (N (N L (some (.cells 27 [(.stc 5 (T.dflt 5))])) L) none L) none L) none L)
abbrev o1s:Tr (Zp S):=N (N L oD L) of (N (N L none (N (N L o3 L) none L)) none (N (N (N L os L) none L) none L))
abbrev o1r:Tr (Zp S):=N (N o1W on L) om (N o1W none L)
abbrev o1q:Tr (Zp S):=N (N (N L (some (.cells 39 [(.rs 19 0)])) (N (N L oI L) o2 L)) o4 L) os (N L oG (N L oG L))
abbrev o1p:Tr (Zp S):=N (N L oD L) none (N (N L none (N (N L o3 L) none L)) none (N (N (N L os L) none L) none L))
abbrev o1o:Tr (Zp S):=N (N (N L none (N L none (N (N L oM L) none L))) none (N L none (N (N L oN L) none L))) om L
abbrev o1n:Tr (Zp S):=N (N (N L oz L) o4 L) os (N (N L oC L) oG (N (N (N L oG L) none L) none (N (N L o1 L) oz L)))
abbrev v1m:Tr (TV S):=N (N v1Q none L) none (N (N (N L vU L) none L) none (N L vT L))
abbrev o1l:Tr (Zp S):=N (N (N L none (N L oh L)) op L) om (N L none (N (N (N L o7 L) none L) none (N L none (N L ox L))))
abbrev o1k:Tr (Zp S):=N (N (N L none (N L oh L)) op (N o1W none (N (N L o7 L) none L))) om L
abbrev v1j:Tr (TV S):=N (N L (some (.ptr 1 0)) (N L (some (.ptr 40 0)) L)) none (N (N L (some (.ptr 22 0)) L) none (N L vU L))
abbrev v1i:Tr (TV S):=N (N (N (N L vT L) none L) (some (.fn (.func 201) [] [(.ptr 0 0)])) L) vP v1T
abbrev o1h:Tr (Zp S):=N (N (N (N L on L) none L) (some (.cells 56 [(.stc 21 (T.dflt 21))])) L) of (N L none (N (N L oE L) none L))
abbrev o1g:Tr (Zp S):=N (N L none (N L oJ (N (N L oh L) none L))) om (N (N L oB L) none (N (N (N L none (N L oI L)) none L) none L))
abbrev o1f:Tr (Zp S):=N (N (N L ox L) none (N L none (N (N L ox L) none L))) none (N (N (N (N L ox L) none L) none (N L oi L)) none L)
abbrev o1e:Tr (Zp S):=N (N (N L (some (.cells 39 [(.rs 34 0)])) (N L o2 L)) o4 L) os (N L oG (N (N (N (N L oI L) none L) none L) oG L))
abbrev o1d:Tr (Zp S):=N (N (N (N (N (N L oM L) none L) none L) none L) none (N L none (N (N L oh L) none L))) om (N L none (N (N L oN L) none L))
abbrev v1c:Tr (TV S):=N (N L none (N (N (N (N L (some (.agg [(.arr (.int .i64) 32 (fun _=>tdf T (.int .i64)))])) L) none L) none L) none L)) none L
abbrev o1b:Tr (Zp S):=N (N L og (N (N L none (N L oF L)) none L)) of (N (N (N L none (N (N L op L) none L)) none L) none (N L none (N (N L on L) none L)))
abbrev v1a:Tr (TV S):=N (N (N L none (N L vT L)) (some (.fn (.func 188) [] [])) (N (N L (some (.sl (.st 19) [])) L) none L)) none v1S
abbrev o19:Tr (Zp S):=N (N (N (N L none (N (N L oN L) none L)) none L) none L) of (N (N L none (N L none (N L none (N L oM L)))) none (N (N (N L none (N L o9 L)) none L) none L))
abbrev v18:Tr (TV S):=N (N (N L vT L) none (N (N (N L vT L) (some (.ptr 3 0)) L) none L)) (some (.ptr 1 0)) (N (N (N (N L vR L) none L) none L) vT v1T)
abbrev v17:Tr (TV S):=N (N (N (N L (some (.ptr 3 0)) L) none (N (N L vT L) none L)) none L) none (N (N L (some (.ptr 1 0)) (N (N L vT L) none L)) vT (N (N (N L vS L) none L) none L))
abbrev o16:Tr (Zp S):=N (N (N (N L none (N L on L)) oC (N L none (N (N L ob L) none L))) on (N (N (N (N L on L) none (N L on L)) none L) none L)) oa (N (N (N L oa L) oC (N L o0 L)) oz L)
abbrev v15:Tr (TV S):=N (N (N (N L (some (.ptr 1 0)) L) none (N L (some (.ptr 18 0)) L)) none L) none v1w
abbrev v14:Tr (TV S):=N (N (N (N L (some (.ptr 1 0)) L) none (N L (some (.ptr 21 0)) L)) none L) none v1w
abbrev o13:Tr (Zp S):=N (N (N L none (N L none (N (N L ox L) none L))) on (N L none (N (N L ol L) none L))) om (N (N L none (N L none (N (N L ox L) none L))) none (N (N L none (N L oa L)) none L))
abbrev v12:Tr (TV S):=N (N (N (N L (some (.ptr 3 0)) L) none (N (N L vT L) (some (.ptr 20 0)) L)) none (N (N L vT L) none L)) none (N (N L (some (.ptr 1 0)) (N (N L vT L) vT L)) vT (N (N (N L vS L) none L) none L))
abbrev o11:Tr (Zp S):=N (N (N L none (N L os L)) op (N (N L none (N L on L)) none L)) of (N (N L none (N L (some (.cells 211 [(.stc 20 (T.dflt 20)),(.sl (.st 23) []),(.earr [204,256] 12 4 (fun _=>0)),(.map 11)])) L)) none (N (N L none (N (N L oI L) none L)) none L))
abbrev o10:Tr (Zp S):=N (N (N (N L none (N L on L)) oC L) on L) oa (N (N (N L oa L) oC (N L (some (.loop 110 (N (N (N (N (N L (some (.fn (.func 173) [] [(.ptr 8 0)])) L) (some (.ptr 4 0)) L) (some (.ptr 0 0)) L) vv (N L (some (.ptr 2 0)) L)) vr (N (N L (some (.ptr 1 0)) L) vT (N L (some (.ptr 3 0)) L))) (16::[]) .skip .skip 0 .normal (0::(110::[])) (0::(1::(0::(1::(1::[]))))))) L)) oz L)
abbrev oZ:Tr (Zp S):=N (N (N (N L none (N L oa L)) none (N L none (N L (some (.loop 139 (N (N (N (N (N L vU L) none L) vT L) (some (.ptr 0 0)) (N (N L none (N L vU L)) none L)) vr (N (N (N L vU L) none (N L none (N L vj L))) (some (.ptr 1 0)) L)) (29::[]) .skip .skip 1 .normal (1::(139::[])) (0::(1::(0::(1::(1::(1::[])))))))) L))) oy L) oa (N L none (N L ox o1X))
abbrev oY:Tr (Zp S):=N (N (N (N L none (N L oa L)) none (N L none (N L (some (.loop 139 (N (N (N (N (N L vU L) none L) vT L) (some (.ptr 0 0)) (N (N L none (N L vU L)) none L)) vr (N (N (N L vU L) none (N L none (N L vj L))) (some (.ptr 1 0)) L)) (29::[]) .skip .skip 1 .busy (1::(139::[])) (0::(1::(0::(1::(1::(1::[])))))))) L))) oy L) oa (N L none (N (N L none (N L none (N L ob L))) none L))
abbrev oX:Tr (Zp S):=N (N (N (N (N L oc L) none (N L (some (.loop 79 (N (N (N (N L (some (.ptr 15 0)) L) (some (.ptr 0 0)) L) vT (N L (some (.ptr 2 0)) L)) vr (N (N L (some (.ptr 1 0)) L) vv (N L (some (.ptr 3 0)) (N (N L (some (.fn (.func 173) [] [(.ptr 19 0)])) L) none L)))) (23::[]) .skip .skip 0 .normal (0::(79::[])) (0::(1::(0::(1::(1::[]))))))) L)) oc (N (N L oa L) none L)) oz L) oa (N L on (N o1X none L))
abbrev oW:Tr (Zp S):=N (N (N L oz L) oz L) om (N (N (N (N L ox L) none (N (N L (some (.loop 91 (N (N (N (N L (some (.ptr 3 0)) L) (some (.ptr 0 0)) (N L none (N (N L vk L) vU L))) vT (N (N (N L vU L) none L) none L)) vw (N (N (N L (some (.ptr 4 0)) L) (some (.ptr 1 0)) L) vT (N L (some (.ptr 2 0)) (N (N L vU L) none L)))) (44::(45::[])) .skip .skip 1 .normal (1::(91::[])) (0::(1::(0::(1::(1::(1::(1::[]))))))))) L) ox L)) oy (N (N (N L oq L) none L) none L)) oh L)
abbrev oV:Tr (Zp S):=N (N (N L oz L) o4 (N (N L none (N L none (N (N L o8 L) none L))) none (N o1X none L))) os (N (N L oC L) oG (N (N (N L oG L) none L) none (N (N L (some (.loop 121 (N (N (N L (some (.ptr 3 0)) (N (N L (some (.fn (.func 172) [] [(.ptr 18 0)])) L) none L)) vT (N L (some (.ptr 14 0)) L)) (some (.ptr 1 0)) (N (N L (some (.ptr 4 0)) L) (some (.ptr 2 0)) L)) (20::[]) .skip .skip 0 .ret (0::(121::[])) (0::(1::(0::(1::(1::[]))))))) L) oz L)))
def q0 {R:Type}:Prs S R:=ZiI
theorem q1 {R:Type}:Z8r X (q0 (R:=R)):=ZiJ X
def q2:List (Nat×F7 S):=[]
theorem q3:Za2 X (q2):=trivial
abbrev q4 {R:Type}:Z2L S R:=ZhI
theorem q5 {R:Type}:Z45 X (q4 (R:=R)):=Zih X
theorem q6 (x0 x1 x2:Int):ZiV X q2 [(.int .i64),(.int .i64),(.int .i64)] [.bool] q0 q4 12 135 (x0,x1,x2,())=X1a x0 x1 x2:=by kernel_rfl
def q7:F7 S:=⟨[(.int .i64),(.int .i64),(.int .i64)],[.bool],fun xs=>X1a xs.1 xs.2.1 xs.u2⟩
theorem q8:Z9R X 135 q7:=ZiS (ZiR xok q3 q1 q5 12 135) fun xs _ h=>(q6 xs.1 xs.2.1 xs.u2).trans h
def q9:List (Nat×F7 S):=[(135,q7)]
theorem qa:Za2 X (q9):=⟨q8,trivial⟩
def qd:Key:=⟨[114],114,none,[0,0,1,0,1,1],0,6⟩
def qe:StT S:=⟨(N (N (N L vT L) none L) vK L),L,6⟩
def qf:Way S:=⟨.ret,⟨(N L none (N L vU L)),L,43⟩,[.bool]⟩
def qg:Way S:=⟨(.exit 0),⟨L,L,10⟩,[]⟩
def qh:LE S:=⟨qd,qe,[.int,.str],[qf,qg]⟩
def qi (x:(Int×ByteArray)):(Bool⊕Unit)->(Bool⊕Unit):=Sum.elim (fun y0=>(.inl y0)) (fun y1=>(.inr ()))
def qj {R:Type} (x:(Int×ByteArray)) (k:(Bool⊕Unit)->Option R):Option R:=(X5S x.2 x.1).bind (Sum.elim (fun y0=>k (.inl y0)) (fun y1=>k (.inr ())))
def qk (x:(Int×ByteArray)) (v:Int):(Int×ByteArray):=(v,x.2)
theorem ql (x:(Int×ByteArray)):LE.step X qh q9 q0 q4 12 x=X1w x.2 x.1 (fun w0=>(Sum.inl (w0,x.2))) (fun p0=>(Sum.inr (.inl p0))) (Sum.inr (.inr ())):=by kernel_rfl
theorem qn {R:Type} (x:(Int×ByteArray)) (k:(Bool⊕Unit)->Option R) (r:R) (h:qj x k=some r):∃o,Z5Q (LE.step X qh q9 q0 q4 12) x o/\k o=some r:=by
 obtain⟨o,h1,h2⟩:=Z0 h;exact⟨qi x o,ZiO (st:=fun(x:(Int×ByteArray))=>X1m x.2) (prj:=fun x=>x.1) (emb:=qk) (embO:=qi) (fun x=>(ql x).trans (by unfold X1m X1w;simp only[ZiG,Ziy,ZiH,Option.map_some,Option.map_none];rfl)) (fun _ _=>rfl) (fun _ _=>rfl) (fun _ _ _=>rfl) (fun _ _ _=>rfl) (fun _=>rfl) (Z29.1 h1),by first|exact h2|(rcases o with o|o<;>exact h2)⟩
def qo {R:Type}:Z2L S R:=LE.ls X qh qj q4
theorem qp {R:Type}:Z45 X (qo (R:=R)):=ZiT xok qa (e:=qh) q1 q5 qn q5
theorem qq (x0:ByteArray):ZiV X q9 [.str] [.bool] q0 qo 12 114 (x0,())=X5D x0:=by kernel_rfl
def qr:F7 S:=⟨[.str],[.bool],fun xs=>X5D xs.1⟩
theorem qs:Z9R X 114 qr:=ZiS (ZiR xok qa q1 qp 12 114) fun xs _ h=>(qq xs.1).trans h
def qx:Key:=⟨[115],115,none,[0,0,1,0,1],0,2⟩
def qy:StT S:=⟨(N (N L vK (N L vT L)) (some (.sl .str [])) L),L,2⟩
def qz:Way S:=⟨.ret,⟨v1S,L,14⟩,[.int]⟩
def qA:Way S:=⟨(.exit 0),⟨L,L,6⟩,[]⟩
def qB:LE S:=⟨qx,qy,[.str,.int,(.lst .str)],[qz,qA]⟩
def qC (x:Xam):(Int⊕Unit)->(Int⊕Unit):=Sum.elim (fun y0=>(.inl y0)) (fun y1=>(.inr ()))
def qD {R:Type} (x:Xam) (k:(Int⊕Unit)->Option R):Option R:=(X3Q x.1 x.v2 x.2.1).bind (Sum.elim (fun y0=>k (.inl y0)) (fun y1=>k (.inr ())))
def qE (x:Xam) (v:Int):Xam:=(x.1,v,x.v2)
theorem qF (x:Xam):LE.step X qB q2 q0 q4 12 x=X19 x.1 x.v2 x.2.1 (fun w0=>(Sum.inl (x.1,w0,x.v2))) (fun p0=>(Sum.inr (.inl p0))) (Sum.inr (.inr ())):=by kernel_rfl
theorem qH {R:Type} (x:Xam) (k:(Int⊕Unit)->Option R) (r:R) (h:qD x k=some r):∃o,Z5Q (LE.step X qB q2 q0 q4 12) x o/\k o=some r:=by
 obtain⟨o,h1,h2⟩:=Z0 h;exact⟨qC x o,ZiO (st:=fun(x:Xam)=>XW x.1 x.v2) (prj:=fun x=>x.2.1) (emb:=qE) (embO:=qC) (fun x=>(qF x).trans (by unfold XW X19;simp only[ZiG,Ziy,ZiH,Option.map_some,Option.map_none];rfl)) (fun _ _=>rfl) (fun _ _=>rfl) (fun _ _ _=>rfl) (fun _ _ _=>rfl) (fun _=>rfl) (Z29.1 h1),by first|exact h2|(rcases o with o|o<;>exact h2)⟩
def qI {R:Type}:Z2L S R:=LE.ls X qB qD q4
theorem qJ {R:Type}:Z45 X (qI (R:=R)):=ZiT xok q3 (e:=qB) q1 q5 qH q5
theorem qK (x0:List ByteArray) (x1:ByteArray):ZiV X q2 [(.sl .str),.str] [(.int .i64)] q0 qI 12 115 (x0,x1,())=X5U x0 x1:=by kernel_rfl
def qL:F7 S:=⟨[(.sl .str),.str],[(.int .i64)],fun xs=>X5U xs.1 xs.2.1⟩
theorem qM:Z9R X 115 qL:=ZiS (ZiR xok q3 q1 qJ 12 115) fun xs _ h=>(qK xs.1 xs.2.1).trans h
def qN:List (Nat×F7 S):=[(114,qr),(115,qL)]
theorem qO:Za2 X (qN):=⟨qs,qM,trivial⟩
theorem qR (x0:ByteArray) (x1:List ByteArray):ZiV X qN [.str,(.sl .str)] [(.int .i64)] q0 q4 12 58 (x0,x1,())=X3c x0 x1:=by kernel_rfl
def qS:F7 S:=⟨[.str,(.sl .str)],[(.int .i64)],fun xs=>X3c xs.1 xs.2.1⟩
theorem qT:Z9R X 58 qS:=ZiS (ZiR xok qO q1 q5 12 58) fun xs _ h=>(qR xs.1 xs.2.1).trans h
theorem qY (x0:Point) (x1:Int):ZiV X q9 [(.st 2),(.int .i64)] [.bool] q0 q4 12 111 (x0,x1,())=X2B x0 x1:=by kernel_rfl
def qZ:F7 S:=⟨[(.st 2),(.int .i64)],[.bool],fun xs=>X2B xs.1 xs.2.1⟩
theorem q10:Z9R X 111 qZ:=ZiS (ZiR xok qa q1 q5 12 111) fun xs _ h=>(qY xs.1 xs.2.1).trans h
def q15:Key:=⟨[112],112,none,[0,0,1,0,1,1],0,6⟩
def q16:StT S:=⟨(N (N (N L vT L) none L) (some (.sl (.st 3) [])) L),L,6⟩
def q17:Way S:=⟨.ret,⟨(N L none (N L vT L)),L,27⟩,[.int]⟩
def q18:Way S:=⟨.ret,⟨(N L none (N L vT L)),L,43⟩,[.int]⟩
def q1a:LE S:=⟨q15,q16,[.int,(.lst (.st 3))],[q17,q18,qg]⟩
def q1b (x:(Int×(List Zr))):(Int⊕Int⊕Unit)->(Int⊕Int⊕Unit):=Sum.elim (fun y0=>(.inl y0)) (Sum.elim (fun y1=>(.inr (.inl y1))) (fun y2=>(.inr (.inr ()))))
def q1c {R:Type} (x:(Int×(List Zr))) (k:(Int⊕Int⊕Unit)->Option R):Option R:=(X58 x.2 x.1).bind (Sum.elim (fun y0=>k (.inl y0)) (Sum.elim (fun y1=>k (.inr (.inl y1))) (fun y2=>k (.inr (.inr ())))))
def q1d (x:(Int×(List Zr))) (v:Int):(Int×(List Zr)):=(v,x.2)
theorem q1e (x:(Int×(List Zr))):LE.step X q1a q9 q0 q4 12 x=WA x.2 x.1 (fun w0=>(Sum.inl (w0,x.2))) (fun p0=>(Sum.inr (.inl p0))) (fun p0=>(Sum.inr (.inr (.inl p0)))) (Sum.inr (.inr (.inr ()))):=by kernel_rfl
theorem q1g {R:Type} (x:(Int×(List Zr))) (k:(Int⊕Int⊕Unit)->Option R) (r:R) (h:q1c x k=some r):∃o,Z5Q (LE.step X q1a q9 q0 q4 12) x o/\k o=some r:=by
 obtain⟨o,h1,h2⟩:=Z0 h;exact⟨q1b x o,ZiO (st:=fun(x:(Int×(List Zr)))=>Wh x.2) (prj:=fun x=>x.1) (emb:=q1d) (embO:=q1b) (fun x=>(q1e x).trans (by unfold Wh WA;simp only[ZiG,Ziy,ZiH,Option.map_some,Option.map_none];rfl)) (fun _ _=>rfl) (fun _ _=>rfl) (fun _ _ _=>rfl) (fun _ _ _=>rfl) (fun _=>rfl) (Z29.1 h1),by first|exact h2|(rcases o with o|o|o<;>exact h2)⟩
def q1h {R:Type}:Z2L S R:=LE.ls X q1a q1c q4
theorem q1i {R:Type}:Z45 X (q1h (R:=R)):=ZiT xok qa (e:=q1a) q1 q5 q1g q5
theorem q1j (x0:List Zr):ZiV X q9 [(.sl (.st 3))] [(.int .i64)] q0 q1h 12 112 (x0,())=X3j x0:=by kernel_rfl
def q1k:F7 S:=⟨[(.sl (.st 3))],[(.int .i64)],fun xs=>X3j xs.1⟩
theorem q1l:Z9R X 112 q1k:=ZiS (ZiR xok qa q1 q1i 12 112) fun xs _ h=>(q1j xs.1).trans h
def q1q:Key:=⟨[86],86,none,[0,0,1,0,1,1],0,3⟩
def q1r:StT S:=⟨(N (N (N (N L vT L) none L) vT L) (some (.sl (.st 5) [])) (N (N (N L vT L) none L) vT L)),L,3⟩
def q1s:Way S:=⟨.ret,⟨(N L none (N L none (N L vT L))),L,28⟩,[.int]⟩
def q1t:Way S:=⟨(.exit 0),⟨v1N,L,7⟩,[.int]⟩
def q1u:LE S:=⟨q1q,q1r,[.int,.int,(.lst (.st 5)),.int,.int],[q1s,q1t]⟩
def q1v (x:Xal):(Int⊕Int)->(Int⊕Int):=Sum.elim (fun y0=>(.inl y0)) (fun y1=>(.inr y1))
def q1w {R:Type} (x:Xal) (k:(Int⊕Int)->Option R):Option R:=(X56 x.2.1 x.u2 x.v4 (x.1,x.u3)).bind (Sum.elim (fun y0=>k (.inl y0)) (fun y1=>k (.inr y1)))
def q1x (x:Xal) (v:(Int×Int)):Xal:=(v.1,x.2.1,x.u2,v.2,x.v4)
theorem q1y (x:Xal):LE.step X q1u q9 q0 q4 12 x=Wx x.2.1 x.u2 x.v4 x.1 x.u3 (fun w0 w1=>(Sum.inl (w0,x.2.1,x.u2,w1,x.v4))) (fun p0=>(Sum.inr (.inl p0))) (fun p0=>(Sum.inr (.inr p0))):=by kernel_rfl
theorem q1A {R:Type} (x:Xal) (k:(Int⊕Int)->Option R) (r:R) (h:q1w x k=some r):∃o,Z5Q (LE.step X q1u q9 q0 q4 12) x o/\k o=some r:=by
 obtain⟨o,h1,h2⟩:=Z0 h;exact⟨q1v x o,ZiO (st:=fun(x:Xal)=>Wf x.2.1 x.u2 x.v4) (prj:=fun x=>(x.1,x.u3)) (emb:=q1x) (embO:=q1v) (fun x=>(q1y x).trans (by unfold Wf Wx;simp only[ZiG,Ziy,ZiH,Option.map_some,Option.map_none];rfl)) (fun _ _=>rfl) (fun _ _=>rfl) (fun _ _ _=>rfl) (fun _ _ _=>rfl) (fun _=>rfl) (Z29.1 h1),by first|exact h2|(rcases o with o|o<;>exact h2)⟩
def q1B {R:Type}:Z2L S R:=LE.ls X q1u q1w q4
theorem q1C {R:Type}:Z45 X (q1B (R:=R)):=ZiT xok qa (e:=q1u) q1 q5 q1A q5
theorem q1D (x0:List ZN) (x1 x2:Int):ZiV X q9 [(.sl (.st 5)),(.int .i64),(.int .i64)] [(.int .i64)] q0 q1B 12 86 (x0,x1,x2,())=X2A x0 x1 x2:=by kernel_rfl
def q1E:F7 S:=⟨[(.sl (.st 5)),(.int .i64),(.int .i64)],[(.int .i64)],fun xs=>X2A xs.1 xs.2.1 xs.u2⟩
theorem q1F:Z9R X 86 q1E:=ZiS (ZiR xok qa q1 q1C 12 86) fun xs _ h=>(q1D xs.1 xs.2.1 xs.u2).trans h
def q1G:List (Nat×F7 S):=[(86,q1E)]
theorem q1H:Za2 X (q1G):=⟨q1F,trivial⟩
theorem q1K (x0:ZF) (x1 x2:Int):ZiV X q1G [(.st 6),(.int .i64),(.int .i64)] [(.int .i64)] q0 q4 12 21 (x0,x1,x2,())=X5h x0 x1 x2:=by kernel_rfl
def q1L:F7 S:=⟨[(.st 6),(.int .i64),(.int .i64)],[(.int .i64)],fun xs=>X5h xs.1 xs.2.1 xs.u2⟩
theorem q1M:Z9R X 21 q1L:=ZiS (ZiR xok q1H q1 q5 12 21) fun xs _ h=>(q1K xs.1 xs.2.1 xs.u2).trans h
theorem q1R (x0 x1:Point):ZiV X q2 [(.st 2),(.st 2)] [(.st 2)] q0 q4 12 81 (x0,x1,())=X8R x0 x1:=by kernel_rfl
def q1S:F7 S:=⟨[(.st 2),(.st 2)],[(.st 2)],fun xs=>X8R xs.1 xs.2.1⟩
theorem q1T:Z9R X 81 q1S:=ZiS (ZiR xok q3 q1 q5 12 81) fun xs _ h=>(q1R xs.1 xs.2.1).trans h
theorem q1Y (x0 x1:Point):ZiV X q2 [(.st 2),(.st 2)] [(.int .i64)] q0 q4 12 80 (x0,x1,())=X8Q x0 x1:=by kernel_rfl
def q1Z:F7 S:=⟨[(.st 2),(.st 2)],[(.int .i64)],fun xs=>X8Q xs.1 xs.2.1⟩
theorem q20:Z9R X 80 q1Z:=ZiS (ZiR xok q3 q1 q5 12 80) fun xs _ h=>(q1Y xs.1 xs.2.1).trans h
def q21:List (Nat×F7 S):=[(81,q1S),(80,q1Z)]
theorem q22:Za2 X (q21):=⟨q1T,q20,trivial⟩
def q25:Key:=⟨[160],160,none,[0,0,1,1,0,0,1,0,0,1,0,1],2,13⟩
def q26:StT S:=⟨(N (N (N L vT L) none (N L vT L)) vR (N (N L vT L) none L)),L,13⟩
def q27:Way S:=⟨.ret,⟨(N L none (N L vU L)),L,48⟩,[.bool]⟩
def q28:Way S:=⟨(.exit 2),⟨(N (N (N L vT L) none L) vR L),L,17⟩,[.int,(.lst (.st 2))]⟩
def q29:LE S:=⟨q25,q26,[.int,.int,(.lst (.st 2)),.int],[q27,q28]⟩
def q2a (x:Xar):(Bool⊕Unit)->(Bool⊕(Int×(List Point))):=Sum.elim (fun y0=>(.inl y0)) (fun y1=>(.inr (x.1,x.u2)))
def q2b {R:Type} (x:Xar) (k:(Bool⊕(Int×(List Point)))->Option R):Option R:=(X2C x.1 x.u2 x.v3 x.2.1).bind (Sum.elim (fun y0=>k (.inl y0)) (fun y1=>k (.inr (x.1,x.u2))))
def q2c (x:Xar) (v:Int):Xar:=(x.1,v,x.u2,x.v3)
theorem q2d (x:Xar):LE.step X q29 q21 q0 q4 12 x=X1c x.1 x.u2 x.v3 x.2.1 (fun w0=>(Sum.inl (x.1,w0,x.u2,x.v3))) (fun p0=>(Sum.inr (.inl p0))) (Sum.inr (.inr (x.1,x.u2))):=by kernel_rfl
theorem q2f {R:Type} (x:Xar) (k:(Bool⊕(Int×(List Point)))->Option R) (r:R) (h:q2b x k=some r):∃o,Z5Q (LE.step X q29 q21 q0 q4 12) x o/\k o=some r:=by
 obtain⟨o,h1,h2⟩:=Z0 h;exact⟨q2a x o,ZiO (st:=fun(x:Xar)=>WS x.1 x.u2 x.v3) (prj:=fun x=>x.2.1) (emb:=q2c) (embO:=q2a) (fun x=>(q2d x).trans (by unfold WS X1c;simp only[ZiG,Ziy,ZiH,Option.map_some,Option.map_none];rfl)) (fun _ _=>rfl) (fun _ _=>rfl) (fun _ _ _=>rfl) (fun _ _ _=>rfl) (fun _=>rfl) (Z29.1 h1),by first|exact h2|(rcases o with o|o<;>exact h2)⟩
def q2g {R:Type}:Z2L S R:=LE.ls X q29 q2b q4
theorem q2h {R:Type}:Z45 X (q2g (R:=R)):=ZiT xok q22 (e:=q29) q1 q5 q2f q5
def q2i:Key:=⟨[160],160,none,[0,0,1,0,1],0,2⟩
def q2j:StT S:=⟨(N (N (N L vT L) none L) vR L),L,2⟩
def q2m:LE S:=⟨q2i,q2j,[.int,(.lst (.st 2))],[q27,qA]⟩
def q2n (x:(Int×(List Point))):(Bool⊕Unit)->(Bool⊕Unit):=Sum.elim (fun y0=>(.inl y0)) (fun y1=>(.inr ()))
def q2o {R:Type} (x:(Int×(List Point))) (k:(Bool⊕Unit)->Option R):Option R:=(X5E x.2 x.1).bind (Sum.elim (fun y0=>k (.inl y0)) (fun y1=>k (.inr ())))
def q2p (x:(Int×(List Point))) (v:Int):(Int×(List Point)):=(v,x.2)
theorem q2q (x:(Int×(List Point))):LE.step X q2m q21 q0 q2g 12 x=X1b x.2 x.1 (fun w0=>(Sum.inl (w0,x.2))) (fun p0=>(Sum.inr (.inl p0))) (Sum.inr (.inr ())):=by kernel_rfl
theorem q2s {R:Type} (x:(Int×(List Point))) (k:(Bool⊕Unit)->Option R) (r:R) (h:q2o x k=some r):∃o,Z5Q (LE.step X q2m q21 q0 q2g 12) x o/\k o=some r:=by
 obtain⟨o,h1,h2⟩:=Z0 h;exact⟨q2n x o,ZiO (st:=fun(x:(Int×(List Point)))=>WR x.2) (prj:=fun x=>x.1) (emb:=q2p) (embO:=q2n) (fun x=>(q2q x).trans (by unfold WR X1b;simp only[ZiG,Ziy,ZiH,Option.map_some,Option.map_none];rfl)) (fun _ _=>rfl) (fun _ _=>rfl) (fun _ _ _=>rfl) (fun _ _ _=>rfl) (fun _=>rfl) (Z29.1 h1),by first|exact h2|(rcases o with o|o<;>exact h2)⟩
def q2t {R:Type}:Z2L S R:=LE.ls X q2m q2o q2g
theorem q2u {R:Type}:Z45 X (q2t (R:=R)):=ZiT xok q22 (e:=q2m) q1 q2h q2s q2h
theorem q2v (x0:List Point):ZiV X q21 [(.sl (.st 2))] [.bool] q0 q2t 12 160 (x0,())=X4N x0:=by kernel_rfl
def q2w:F7 S:=⟨[(.sl (.st 2))],[.bool],fun xs=>X4N xs.1⟩
theorem q2x:Z9R X 160 q2w:=ZiS (ZiR xok q22 q1 q2u 12 160) fun xs _ h=>(q2v xs.1).trans h
def q2y:List (Nat×F7 S):=[(135,q7),(111,qZ),(21,q1L),(160,q2w)]
theorem q2z:Za2 X (q2y):=⟨q8,q10,q1M,q2x,trivial⟩
def q2C:Key:=⟨[113],113,none,[0,0,1,0,1,1],0,8⟩
def q2D:StT S:=⟨(N (N (N L vT L) (some (.ptr 0 0)) L) none L),(N L ol L),8⟩
def q2E:Way S:=⟨.ret,⟨(N L none (N L vT L)),(N L ol L),21⟩,[.int,(.st 7)]⟩
def q2F:Way S:=⟨(.exit 0),⟨(N (N L (some (.ptr 0 0)) L) none L),(N L ol L),13⟩,[(.st 7)]⟩
def q2G:LE S:=⟨q2C,q2D,[.int,(.st 7)],[q2E,q2F]⟩
def q2H (x:(Int×CtSand)):(Int⊕Unit)->((Int×CtSand)⊕CtSand):=Sum.elim (fun y0=>(.inl (y0,x.2))) (fun y1=>(.inr x.2))
def q2I {R:Type} (x:(Int×CtSand)) (k:((Int×CtSand)⊕CtSand)->Option R):Option R:=(X4o x.2 x.1).bind (Sum.elim (fun y0=>k (.inl (y0,x.2))) (fun y1=>k (.inr x.2)))
def q2J (x:(Int×CtSand)) (v:Int):(Int×CtSand):=(v,x.2)
theorem q2K (x:(Int×CtSand)):LE.step X q2G q2y q0 q4 12 x=X1x x.2 x.1 (fun w0=>(Sum.inl (w0,x.2))) (fun p0=>(Sum.inr (.inl (p0,x.2)))) (Sum.inr (.inr x.2)):=by kernel_rfl
theorem q2M {R:Type} (x:(Int×CtSand)) (k:((Int×CtSand)⊕CtSand)->Option R) (r:R) (h:q2I x k=some r):∃o,Z5Q (LE.step X q2G q2y q0 q4 12) x o/\k o=some r:=by
 obtain⟨o,h1,h2⟩:=Z0 h;exact⟨q2H x o,ZiO (st:=fun(x:(Int×CtSand))=>Wi x.2) (prj:=fun x=>x.1) (emb:=q2J) (embO:=q2H) (fun x=>(q2K x).trans (by unfold Wi X1x;simp only[ZiG,Ziy,ZiH,Option.map_some,Option.map_none];rfl)) (fun _ _=>rfl) (fun _ _=>rfl) (fun _ _ _=>rfl) (fun _ _ _=>rfl) (fun _=>rfl) (Z29.1 h1),by first|exact h2|(rcases o with o|o<;>exact h2)⟩
def q2N {R:Type}:Z2L S R:=LE.ls X q2G q2I q4
theorem q2O {R:Type}:Z45 X (q2N (R:=R)):=ZiT xok q2z (e:=q2G) q1 q5 q2M q5
theorem q2P (x0:CtSand):ZiV X q2y [(.st 7)] [(.int .i64)] q0 q2N 12 113 (x0,())=X5F x0:=by kernel_rfl
def q2Q:F7 S:=⟨[(.st 7)],[(.int .i64)],fun xs=>X5F xs.1⟩
theorem q2R:Z9R X 113 q2Q:=ZiS (ZiR xok q2z q1 q2O 12 113) fun xs _ h=>(q2P xs.1).trans h
def q2S:List (Nat×F7 S):=[(58,qS),(111,qZ),(112,q1k),(113,q2Q)]
theorem q2T:Za2 X (q2S):=⟨qT,q10,q1l,q2R,trivial⟩
def q2W:Key:=⟨[56],56,none,[0,0,1,0,1,1,1],0,10⟩
def q2X:StT S:=⟨(N (N L (some (.ptr 0 0)) (N L (some (.rs 10 0)) L)) none (N L none (N L vT L))),(N L om o1U),11⟩
def q2Y:Way S:=⟨.ret,⟨v1K,o1d,52⟩,[.int,.int,.int,(.lst .str),(.st 4),(.st 8),(.lst .str)]⟩
def q2Z:Way S:=⟨.ret,⟨v1K,o1d,55⟩,[.int,.int,.int,(.lst .str),(.st 4),(.st 8),(.lst .str)]⟩
def q30:Way S:=⟨.ret,⟨v1K,o1d,51⟩,[.int,.int,.int,(.lst .str),(.st 4),(.st 8),(.lst .str)]⟩
def q31:Way S:=⟨(.exit 0),⟨(N (N L (some (.ptr 0 0)) (N L (some (.rs 10 0)) L)) none L),(N L om o1U),16⟩,[(.st 8),(.lst .str)]⟩
def q32:LE S:=⟨q2W,q2X,[.int,(.st 8),(.lst .str)],[q2Y,q2Z,q30,q31]⟩
def q33 (x:Xap):(Xba⊕Xba⊕Xba⊕(List ByteArray))->tq3:=Sum.elim (fun y0=>(.inl (y0.1,y0.2.1,y0.u2,y0.u3,y0.u4,x.2.1,y0.v5))) (Sum.elim (fun y1=>(.inr (.inl (y1.1,y1.2.1,y1.u2,y1.u3,y1.u4,x.2.1,y1.v5)))) (Sum.elim (fun y2=>(.inr (.inr (.inl (y2.1,y2.2.1,y2.u2,y2.u3,y2.u4,x.2.1,y2.v5))))) (fun y3=>(.inr (.inr (.inr (x.2.1,y3)))))))
def q34 {R:Type} (x:Xap) (k:tq3->Option R):Option R:=(X5A x.2.1 (x.1,x.v2)).bind (Sum.elim (fun y0=>k (.inl (y0.1,y0.2.1,y0.u2,y0.u3,y0.u4,x.2.1,y0.v5))) (Sum.elim (fun y1=>k (.inr (.inl (y1.1,y1.2.1,y1.u2,y1.u3,y1.u4,x.2.1,y1.v5)))) (Sum.elim (fun y2=>k (.inr (.inr (.inl (y2.1,y2.2.1,y2.u2,y2.u3,y2.u4,x.2.1,y2.v5))))) (fun y3=>k (.inr (.inr (.inr (x.2.1,y3))))))))
def q35 (x:Xap) (v:(Int×(List ByteArray))):Xap:=(v.1,x.2.1,v.2)
theorem q36 (x:Xap):LE.step X q32 q2S q0 q4 12 x=X17 x.2.1 x.1 x.v2 (fun w0 w1=>(Sum.inl (w0,x.2.1,w1))) (fun p0 p1 p2 p3 p4 p5=>(Sum.inr (.inl (p0,p1,p2,p3,p4,x.2.1,p5)))) (fun p0 p1 p2 p3 p4 p5=>(Sum.inr (.inr (.inl (p0,p1,p2,p3,p4,x.2.1,p5))))) (fun p0 p1 p2 p3 p4 p5=>(Sum.inr (.inr (.inr (.inl (p0,p1,p2,p3,p4,x.2.1,p5)))))) (fun p0=>(Sum.inr (.inr (.inr (.inr (x.2.1,p0)))))):=by kernel_rfl
theorem q38 {R:Type} (x:Xap) (k:tq3->Option R) (r:R) (h:q34 x k=some r):∃o,Z5Q (LE.step X q32 q2S q0 q4 12) x o/\k o=some r:=by
 obtain⟨o,h1,h2⟩:=Z0 h;exact⟨q33 x o,ZiO (st:=fun(x:Xap)=>WP x.2.1) (prj:=fun x=>(x.1,x.v2)) (emb:=q35) (embO:=q33) (fun x=>(q36 x).trans (by unfold WP X17;simp only[ZiG,Ziy,ZiH,Option.map_some,Option.map_none];rfl)) (fun _ _=>rfl) (fun _ _=>rfl) (fun _ _ _=>rfl) (fun _ _ _=>rfl) (fun _=>rfl) (Z29.1 h1),by first|exact h2|(rcases o with o|o|o|o<;>exact h2)⟩
def q39 {R:Type}:Z2L S R:=LE.ls X q32 q34 q4
theorem q3a {R:Type}:Z45 X (q39 (R:=R)):=ZiT xok q2T (e:=q32) q1 q5 q38 q5
def q3b:Key:=⟨[56],56,none,[0,0,1,0,1,1,1,1,1],2,21⟩
def q3c:StT S:=⟨(N (N L (some (.ptr 0 0)) (N (N L vT L) (some (.rs 21 0)) L)) none L),(N (N L none o1U) om L),22⟩
def q3d:Way S:=⟨.ret,⟨v1K,o1o,62⟩,[.int,.int,.int,(.lst .str),(.lst .str),(.st 8)]⟩
def q3e:Way S:=⟨.ret,⟨v1K,o1o,55⟩,[.int,.int,.int,(.lst .str),(.lst .str),(.st 8)]⟩
def q3f:Way S:=⟨(.exit 2),⟨L,(N (N L none o1U) om L),27⟩,[(.lst .str),(.st 8)]⟩
def q3g:LE S:=⟨q3b,q3c,[.int,(.lst .str),(.st 8)],[q3d,q3e,q3f]⟩
def q3h (x:Xaq):((Int×Int×Int×(List ByteArray)×(List ByteArray))⊕(Int×Int×Int×(List ByteArray)×(List ByteArray))⊕(List ByteArray))->tqb:=Sum.elim (fun y0=>(.inl (y0.1,y0.2.1,y0.u2,y0.u3,y0.v4,x.v2))) (Sum.elim (fun y1=>(.inr (.inl (y1.1,y1.2.1,y1.u2,y1.u3,y1.v4,x.v2)))) (fun y2=>(.inr (.inr (y2,x.v2)))))
def q3i {R:Type} (x:Xaq) (k:tqb->Option R):Option R:=(X2z x.v2 (x.1,x.2.1)).bind (Sum.elim (fun y0=>k (.inl (y0.1,y0.2.1,y0.u2,y0.u3,y0.v4,x.v2))) (Sum.elim (fun y1=>k (.inr (.inl (y1.1,y1.2.1,y1.u2,y1.u3,y1.v4,x.v2)))) (fun y2=>k (.inr (.inr (y2,x.v2))))))
def q3j (x:Xaq) (v:(Int×(List ByteArray))):Xaq:=(v.1,v.2,x.v2)
theorem q3k (x:Xaq):LE.step X q3g q2S q0 q39 12 x=X18 x.v2 x.1 x.2.1 (fun w0 w1=>(Sum.inl (w0,w1,x.v2))) (fun p0 p1 p2 p3 p4=>(Sum.inr (.inl (p0,p1,p2,p3,p4,x.v2)))) (fun p0 p1 p2 p3 p4=>(Sum.inr (.inr (.inl (p0,p1,p2,p3,p4,x.v2))))) (fun p0=>(Sum.inr (.inr (.inr (p0,x.v2))))):=by kernel_rfl
theorem q3m {R:Type} (x:Xaq) (k:tqb->Option R) (r:R) (h:q3i x k=some r):∃o,Z5Q (LE.step X q3g q2S q0 q39 12) x o/\k o=some r:=by
 obtain⟨o,h1,h2⟩:=Z0 h;exact⟨q3h x o,ZiO (st:=fun(x:Xaq)=>WQ x.v2) (prj:=fun x=>(x.1,x.2.1)) (emb:=q3j) (embO:=q3h) (fun x=>(q3k x).trans (by unfold WQ X18;simp only[ZiG,Ziy,ZiH,Option.map_some,Option.map_none];rfl)) (fun _ _=>rfl) (fun _ _=>rfl) (fun _ _ _=>rfl) (fun _ _ _=>rfl) (fun _=>rfl) (Z29.1 h1),by first|exact h2|(rcases o with o|o|o<;>exact h2)⟩
def q3n {R:Type}:Z2L S R:=LE.ls X q3g q3i q39
theorem q3o {R:Type}:Z45 X (q3n (R:=R)):=ZiT xok q2T (e:=q3g) q1 q3a q3m q3a
theorem q3p (x0:Zo):ZiV X q2S [(.st 8)] [(.int .i64),(.int .i64),(.int .i64)] q0 q3n 12 56 (x0,())=X3Y x0:=by kernel_rfl
def q3q:F7 S:=⟨[(.st 8)],[(.int .i64),(.int .i64),(.int .i64)],fun xs=>X3Y xs.1⟩
theorem q3r:Z9R X 56 q3q:=ZiS (ZiR xok q2T q1 q3o 12 56) fun xs _ h=>(q3p xs.1).trans h
theorem q3w (x0 x1 x2:Int):ZiV X q2 [(.int .i64),(.int .i64),(.int .i64)] [.bool] q0 q4 12 57 (x0,x1,x2,())=X4p x0 x1 x2:=by kernel_rfl
def q3x:F7 S:=⟨[(.int .i64),(.int .i64),(.int .i64)],[.bool],fun xs=>X1z xs.1 xs.2.1 xs.u2⟩
theorem q3y:Z9R X 57 q3x:=ZiS (ZiR xok q3 q1 q5 12 57) fun xs _ h=>((q3w xs.1 xs.2.1 xs.u2).trans (X8t xs.1 xs.2.1 xs.u2).symm).trans h
theorem q3D (x0:Z9):ZiV X q2 [(.st 18)] [(.int .i64)] q0 q4 12 60 (x0,())=X3F x0:=by kernel_rfl
def q3E:F7 S:=⟨[(.st 18)],[(.int .i64)],fun xs=>X6c xs.1⟩
theorem q3F:Z9R X 60 q3E:=ZiS (ZiR xok q3 q1 q5 12 60) fun xs _ h=>((q3D xs.1).trans (X85 xs.1).symm).trans h
theorem q3K (x0:ZN) (x1 x2:Int):ZiV X q1G [(.st 5),(.int .i64),(.int .i64)] [(.int .i64)] q0 q4 12 59 (x0,x1,x2,())=X3Z x0 x1 x2:=by kernel_rfl
def q3L:F7 S:=⟨[(.st 5),(.int .i64),(.int .i64)],[(.int .i64)],fun xs=>X3Z xs.1 xs.2.1 xs.u2⟩
theorem q3M:Z9R X 59 q3L:=ZiS (ZiR xok q1H q1 q5 12 59) fun xs _ h=>(q3K xs.1 xs.2.1 xs.u2).trans h
def q3N:List (Nat×F7 S):=[(86,q1E),(59,q3L),(57,q3x)]
theorem q3O:Za2 X (q3N):=⟨q1F,q3M,q3y,trivial⟩
theorem q3R (x0:Zz):ZiV X q3N [(.st 19)] [(.int .i64)] q0 q4 12 61 (x0,())=X3e x0:=by kernel_rfl
def q3S:F7 S:=⟨[(.st 19)],[(.int .i64)],fun xs=>X6p xs.1⟩
theorem q3T:Z9R X 61 q3S:=ZiS (ZiR xok q3O q1 q5 12 61) fun xs _ h=>((q3R xs.1).trans (X7B xs.1).symm).trans h
def q3U:List (Nat×F7 S):=[(56,q3q),(57,q3x),(58,qS),(60,q3E),(59,q3L),(61,q3S)]
theorem q3V:Za2 X (q3U):=⟨q3r,q3y,qT,q3F,q3M,q3T,trivial⟩
def q3Y:Key:=⟨[11],11,none,[0,0,1,0,1,1,1,1,1,1],0,39⟩
def q3Z:StT S:=⟨(N (N L (some (.ptr 0 0)) (N (N L vT L) none L)) none (N (N (N L (some (.rs 39 0)) L) none L) none L)),o1F,40⟩
def q40:Way S:=⟨.ret,⟨v1K,o19,81⟩,[.int,.int,.int,(.lst .str),(.st 20),(.lst .str),(.st 18)]⟩
def q41:Way S:=⟨.ret,⟨v1K,o19,72⟩,[.int,.int,.int,(.lst .str),(.st 20),(.lst .str),(.st 18)]⟩
def q42:Way S:=⟨(.exit 0),⟨(N (N L (some (.ptr 0 0)) L) none L),o1F,45⟩,[(.lst .str),(.st 20)]⟩
def q43:LE S:=⟨q3Y,q3Z,[.int,(.lst .str),(.st 20)],[q40,q41,q42]⟩
def q44 (x:X8b):((Int×Int×Int×(List ByteArray)×(List ByteArray)×Z9)⊕(Int×Int×Int×(List ByteArray)×(List ByteArray)×Z9)⊕(List ByteArray))->tq9:=Sum.elim (fun y0=>(.inl (y0.1,y0.2.1,y0.u2,y0.u3,x.v2,y0.u4,y0.v5))) (Sum.elim (fun y1=>(.inr (.inl (y1.1,y1.2.1,y1.u2,y1.u3,x.v2,y1.u4,y1.v5)))) (fun y2=>(.inr (.inr (y2,x.v2)))))
def q45 {R:Type} (x:X8b) (k:tq9->Option R):Option R:=(X3R x.v2 (x.1,x.2.1)).bind (Sum.elim (fun y0=>k (.inl (y0.1,y0.2.1,y0.u2,y0.u3,x.v2,y0.u4,y0.v5))) (Sum.elim (fun y1=>k (.inr (.inl (y1.1,y1.2.1,y1.u2,y1.u3,x.v2,y1.u4,y1.v5)))) (fun y2=>k (.inr (.inr (y2,x.v2))))))
def q46 (x:X8b) (v:(Int×(List ByteArray))):X8b:=(v.1,v.2,x.v2)
theorem q47 (x:X8b):LE.step X q43 q3U q0 q4 12 x=X1d x.v2 x.1 x.2.1 (fun w0 w1=>(Sum.inl (w0,w1,x.v2))) (fun p0 p1 p2 p3 p4 p5=>(Sum.inr (.inl (p0,p1,p2,p3,x.v2,p4,p5)))) (fun p0 p1 p2 p3 p4 p5=>(Sum.inr (.inr (.inl (p0,p1,p2,p3,x.v2,p4,p5))))) (fun p0=>(Sum.inr (.inr (.inr (p0,x.v2))))):=by kernel_rfl
theorem q49 {R:Type} (x:X8b) (k:tq9->Option R) (r:R) (h:q45 x k=some r):∃o,Z5Q (LE.step X q43 q3U q0 q4 12) x o/\k o=some r:=by
 obtain⟨o,h1,h2⟩:=Z0 h;exact⟨q44 x o,ZiO (st:=fun(x:X8b)=>WT x.v2) (prj:=fun x=>(x.1,x.2.1)) (emb:=q46) (embO:=q44) (fun x=>(q47 x).trans (by unfold WT X1d;simp only[ZiG,Ziy,ZiH,Option.map_some,Option.map_none];rfl)) (fun _ _=>rfl) (fun _ _=>rfl) (fun _ _ _=>rfl) (fun _ _ _=>rfl) (fun _=>rfl) (Z29.1 h1),by first|exact h2|(rcases o with o|o|o<;>exact h2)⟩
def q4a {R:Type}:Z2L S R:=LE.ls X q43 q45 q4
theorem q4b {R:Type}:Z45 X (q4a (R:=R)):=ZiT xok q3V (e:=q43) q1 q5 q49 q5
def q4c:Key:=⟨[11],11,none,[0,0,1,0,1,1,1,1,1,1,1,1],2,50⟩
def q4d:StT S:=⟨(N (N (N L none (N L vT L)) (some (.ptr 0 0)) L) none L),o1F,50⟩
def q4e:Way S:=⟨.ret,⟨v1K,o1F,69⟩,[.int,.int,.int,(.lst .str),(.st 20)]⟩
def q4f:Way S:=⟨(.exit 2),⟨L,o1F,55⟩,[(.lst .str),(.st 20)]⟩
def q4g:LE S:=⟨q4c,q4d,[.int,(.lst .str),(.st 20)],[q4e,q4f]⟩
def q4h (x:X8b):((Int×Int×Int)⊕Unit)->tqU:=Sum.elim (fun y0=>(.inl (y0.1,y0.2.1,y0.v2,x.2.1,x.v2))) (fun y1=>(.inr (x.2.1,x.v2)))
def q4i {R:Type} (x:X8b) (k:tqU->Option R):Option R:=(X3S x.v2 x.1).bind (Sum.elim (fun y0=>k (.inl (y0.1,y0.2.1,y0.v2,x.2.1,x.v2))) (fun y1=>k (.inr (x.2.1,x.v2))))
def q4j (x:X8b) (v:Int):X8b:=(v,x.2.1,x.v2)
theorem q4k (x:X8b):LE.step X q4g q3U q0 q4a 12 x=X1e x.v2 x.1 (fun w0=>(Sum.inl (w0,x.2.1,x.v2))) (fun p0 p1 p2=>(Sum.inr (.inl (p0,p1,p2,x.2.1,x.v2)))) (Sum.inr (.inr (x.2.1,x.v2))):=by kernel_rfl
theorem q4m {R:Type} (x:X8b) (k:tqU->Option R) (r:R) (h:q4i x k=some r):∃o,Z5Q (LE.step X q4g q3U q0 q4a 12) x o/\k o=some r:=by
 obtain⟨o,h1,h2⟩:=Z0 h;exact⟨q4h x o,ZiO (st:=fun(x:X8b)=>WU x.v2) (prj:=fun x=>x.1) (emb:=q4j) (embO:=q4h) (fun x=>(q4k x).trans (by unfold WU X1e;simp only[ZiG,Ziy,ZiH,Option.map_some,Option.map_none];rfl)) (fun _ _=>rfl) (fun _ _=>rfl) (fun _ _ _=>rfl) (fun _ _ _=>rfl) (fun _=>rfl) (Z29.1 h1),by first|exact h2|(rcases o with o|o<;>exact h2)⟩
def q4n {R:Type}:Z2L S R:=LE.ls X q4g q4i q4a
theorem q4o {R:Type}:Z45 X (q4n (R:=R)):=ZiT xok q3V (e:=q4g) q1 q4b q4m q4b
theorem q4p (x0:ZS):ZiV X q3U [(.st 20)] [(.int .i64),(.int .i64),(.int .i64)] q0 q4n 12 11 (x0,())=X2N x0:=by kernel_rfl
def q4q:F7 S:=⟨[(.st 20)],[(.int .i64),(.int .i64),(.int .i64)],fun xs=>X4O xs.1⟩
theorem q4r:Z9R X 11 q4q:=ZiS (ZiR xok q3V q1 q4o 12 11) fun xs _ h=>((q4p xs.1).trans (X7c xs.1).symm).trans h
def q4w:Key:=⟨[158,2,1,108,2,1,54],158,none,[0,0,1,0,1],0,17⟩
def q4x:StT S:=⟨(N (N (N (N L vT L) none L) (some (.fn (.func 109) [] [(.ptr 0 0),(.ptr 1 0)])) L) vO v1T),(N (N L oz L) oz L),17⟩
def q4y:Way S:=⟨.ret,⟨v1S,(N (N L oz L) oz L),38⟩,[.int,.int,.int]⟩
def q4z:Way S:=⟨(.exit 0),⟨L,(N (N L oz L) oz L),18⟩,[.int,.int]⟩
def q4A:LE S:=⟨q4w,q4x,[.int,(.lst (.int .i64)),.int,.int,.int],[q4y,q4z]⟩
def q4B (x:X8a):(Int⊕Unit)->XaM:=Sum.elim (fun y0=>(.inl (y0,x.u3,x.v4))) (fun y1=>(.inr (x.u3,x.v4)))
def q4C {R:Type} (x:X8a) (k:XaM->Option R):Option R:=(X62 x.1 x.2.1 x.u3 x.v4 x.u2).bind (Sum.elim (fun y0=>k (.inl (y0,x.u3,x.v4))) (fun y1=>k (.inr (x.u3,x.v4))))
def q4D (x:X8a) (v:Int):X8a:=(x.1,x.2.1,v,x.u3,x.v4)
theorem q4E (x:X8a):LE.step X q4A q2 q0 q4 12 x=X1Q x.1 x.2.1 x.u3 x.v4 x.u2 (fun w0=>(Sum.inl (x.1,x.2.1,w0,x.u3,x.v4))) (fun p0=>(Sum.inr (.inl (p0,x.u3,x.v4)))) (Sum.inr (.inr (x.u3,x.v4))):=by kernel_rfl
theorem q4G {R:Type} (x:X8a) (k:XaM->Option R) (r:R) (h:q4C x k=some r):∃o,Z5Q (LE.step X q4A q2 q0 q4 12) x o/\k o=some r:=by
 obtain⟨o,h1,h2⟩:=Z0 h;exact⟨q4B x o,ZiO (st:=fun(x:X8a)=>X1L x.1 x.2.1 x.u3 x.v4) (prj:=fun x=>x.u2) (emb:=q4D) (embO:=q4B) (fun x=>(q4E x).trans (by unfold X1L X1Q;simp only[ZiG,Ziy,ZiH,Option.map_some,Option.map_none];rfl)) (fun _ _=>rfl) (fun _ _=>rfl) (fun _ _ _=>rfl) (fun _ _ _=>rfl) (fun _=>rfl) (Z29.1 h1),by first|exact h2|(rcases o with o|o<;>exact h2)⟩
def q4H {R:Type}:Z2L S R:=LE.ls X q4A q4C q4
theorem q4I {R:Type}:Z45 X (q4H (R:=R)):=ZiT xok q3 (e:=q4A) q1 q5 q4G q5
theorem q4J (x0 x1:Int) (x2:List Int):ZiV X q2 [(.int .i64),(.int .i64),(.sl (.int .i64))] [.bool] q0 q4H 12 54 (x0,x1,x2,())=X1K x0 x1 x2:=by kernel_rfl
def q4K:F7 S:=⟨[(.int .i64),(.int .i64),(.sl (.int .i64))],[.bool],fun xs=>X1K xs.1 xs.2.1 xs.u2⟩
theorem q4L:Z9R X 54 q4K:=ZiS (ZiR xok q3 q1 q4I 12 54) fun xs _ h=>(q4J xs.1 xs.2.1 xs.u2).trans h
theorem q4Q:ZiV X q2 [] [(.arr 8 (.st 2))] q0 q4 12 90 (())=X7q:=by kernel_rfl
def q4R:F7 S:=⟨[],[(.arr 8 (.st 2))],fun xs=>X7q⟩
theorem q4S:Z9R X 90 q4R:=ZiS (ZiR xok q3 q1 q5 12 90) fun xs _ h=>(q4Q).trans h
def q4X:Key:=⟨[34],34,none,[0,0,1,0,1,1],0,4⟩
def q4Y:StT S:=⟨(N (N (N (N L (some (.iter 3)) L) (some (.int .i32 0)) L) none L) vK L),o1V,4⟩
def q4Z:Way S:=⟨.ret,⟨(N L none (N L vU L)),o1V,23⟩,[.bool,.str,.nat]⟩
def q50:Way S:=⟨(.exit 0),⟨(N (N (N L (some (.int .i32 0)) L) none L) vK L),o1V,6⟩,[.int,.str,.str,.nat]⟩
def q51:LE S:=⟨q4X,q4Y,[.int,.str,.str,.nat],[q4Z,q50]⟩
def q52 (x:X9M):((Bool×Nat)⊕(Int×Nat))->Xbb:=Sum.elim (fun y0=>(.inl (y0.1,x.u2,y0.2))) (fun y1=>(.inr (y1.1,x.2.1,x.u2,y1.2)))
def q53 {R:Type} (x:X9M) (k:Xbb->Option R):Option R:=(X5K x.2.1 x.u2 (x.1,x.v3)).bind (Sum.elim (fun y0=>k (.inl (y0.1,x.u2,y0.2))) (fun y1=>k (.inr (y1.1,x.2.1,x.u2,y1.2))))
def q54 (x:X9M) (v:(Int×Nat)):X9M:=(v.1,x.2.1,x.u2,v.2)
theorem q55 (x:X9M):LE.step X q51 q2 q0 q4 12 x=X1o x.2.1 x.u2 x.1 x.v3 (fun w0 w1=>(Sum.inl (w0,x.2.1,x.u2,w1))) (fun p0 p1=>(Sum.inr (.inl (p0,x.u2,p1)))) (fun p0 p1=>(Sum.inr (.inr (p0,x.2.1,x.u2,p1)))):=by kernel_rfl
theorem q57 {R:Type} (x:X9M) (k:Xbb->Option R) (r:R) (h:q53 x k=some r):∃o,Z5Q (LE.step X q51 q2 q0 q4 12) x o/\k o=some r:=by
 obtain⟨o,h1,h2⟩:=Z0 h;exact⟨q52 x o,ZiO (st:=fun(x:X9M)=>X1k x.2.1 x.u2) (prj:=fun x=>(x.1,x.v3)) (emb:=q54) (embO:=q52) (fun x=>(q55 x).trans (by unfold X1k X1o;simp only[ZiG,Ziy,ZiH,Option.map_some,Option.map_none];rfl)) (fun _ _=>rfl) (fun _ _=>rfl) (fun _ _ _=>rfl) (fun _ _ _=>rfl) (fun _=>rfl) (Z29.1 h1),by first|exact h2|(rcases o with o|o<;>exact h2)⟩
def q58 {R:Type}:Z2L S R:=LE.ls X q51 q53 q4
theorem q59 {R:Type}:Z45 X (q58 (R:=R)):=ZiT xok q3 (e:=q51) q1 q5 q57 q5
theorem q5a (x0:ByteArray):ZiV X q2 [.str] [.bool] q0 q58 12 34 (x0,())=X3K x0:=by kernel_rfl
def q5b:F7 S:=⟨[.str],[.bool],fun xs=>X3K xs.1⟩
theorem q5c:Z9R X 34 q5b:=ZiS (ZiR xok q3 q1 q59 12 34) fun xs _ h=>(q5a xs.1).trans h
def q5d:List (Nat×F7 S):=[(54,q4K)]
theorem q5e:Za2 X (q5d):=⟨q4L,trivial⟩
def q5h:Key:=⟨[175,2,1,132,2,1,83],175,none,[0,0,1,0,1],0,16⟩
def q5i:StT S:=⟨(N (N (N (N L vT L) none L) (some (.fn (.func 133) [] [(.ptr 0 0)])) L) vR v1T),(N L oz L),16⟩
def q5j:Way S:=⟨.ret,⟨v1S,(N (N L none (N (N L none (N L on L)) none L)) oz (N L none (N o1W none L))),39⟩,[.int,(.st 2),.int,(.lst (.int .i64))]⟩
def q5k:Way S:=⟨(.exit 0),⟨L,(N L oz L),17⟩,[.int]⟩
def q5l:LE S:=⟨q5h,q5i,[.int,(.lst (.st 2)),.int,.int],[q5j,q5k]⟩
def q5m (x:Xab):((Int×Point×(List Int))⊕Unit)->((Int×Point×Int×(List Int))⊕Int):=Sum.elim (fun y0=>(.inl (y0.1,y0.2.1,x.v3,y0.v2))) (fun y1=>(.inr x.v3))
def q5n {R:Type} (x:Xab) (k:((Int×Point×Int×(List Int))⊕Int)->Option R):Option R:=(X61 x.1 x.2.1 x.v3 x.u2).bind (Sum.elim (fun y0=>k (.inl (y0.1,y0.2.1,x.v3,y0.v2))) (fun y1=>k (.inr x.v3)))
def q5o (x:Xab) (v:Int):Xab:=(x.1,x.2.1,v,x.v3)
theorem q5p (x:Xab):LE.step X q5l q5d q0 q4 12 x=X1P x.1 x.2.1 x.v3 x.u2 (fun w0=>(Sum.inl (x.1,x.2.1,w0,x.v3))) (fun p0 p1 p2=>(Sum.inr (.inl (p0,p1,x.v3,p2)))) (Sum.inr (.inr x.v3)):=by kernel_rfl
theorem q5r {R:Type} (x:Xab) (k:((Int×Point×Int×(List Int))⊕Int)->Option R) (r:R) (h:q5n x k=some r):∃o,Z5Q (LE.step X q5l q5d q0 q4 12) x o/\k o=some r:=by
 obtain⟨o,h1,h2⟩:=Z0 h;exact⟨q5m x o,ZiO (st:=fun(x:Xab)=>X1J x.1 x.2.1 x.v3) (prj:=fun x=>x.u2) (emb:=q5o) (embO:=q5m) (fun x=>(q5p x).trans (by unfold X1J X1P;simp only[ZiG,Ziy,ZiH,Option.map_some,Option.map_none];rfl)) (fun _ _=>rfl) (fun _ _=>rfl) (fun _ _ _=>rfl) (fun _ _ _=>rfl) (fun _=>rfl) (Z29.1 h1),by first|exact h2|(rcases o with o|o<;>exact h2)⟩
def q5s {R:Type}:Z2L S R:=LE.ls X q5l q5n q4
theorem q5t {R:Type}:Z45 X (q5s (R:=R)):=ZiT xok q5e (e:=q5l) q1 q5 q5r q5
theorem q5u (x0:Int) (x1:List Point):ZiV X q5d [(.int .i64),(.sl (.st 2))] [.bool] q0 q5s 12 83 (x0,x1,())=X4w x0 x1:=by kernel_rfl
def q5v:F7 S:=⟨[(.int .i64),(.sl (.st 2))],[.bool],fun xs=>X4w xs.1 xs.2.1⟩
theorem q5w:Z9R X 83 q5v:=ZiS (ZiR xok q5e q1 q5t 12 83) fun xs _ h=>(q5u xs.1 xs.2.1).trans h
def q5B:Key:=⟨[138],138,none,[0,0,1,0,1,1,1],0,9⟩
def q5C:StT S:=⟨(N (N (N L vT (N L vT L)) none L) none (N (N L none (N L vT L)) none (N (N L (some (.sl (.st 3) [])) L) none L))),o1W,9⟩
def q5D:Way S:=⟨.ret,⟨(N L none (N L vT L)),(N (N (N L ox L) none L) none (N (N (N (N L ox L) none L) none (N L oi L)) none L)),26⟩,[.int,(.lst (.int .i64)),(.lst (.int .i64)),(.st 3)]⟩
def q5E:Way S:=⟨.ret,⟨(N L none (N L vT L)),o1f,26⟩,[.int,(.lst (.int .i64)),(.lst (.int .i64)),(.lst (.int .i64)),(.st 3)]⟩
def q5F:Way S:=⟨.ret,⟨(N L none (N L vT L)),o1f,31⟩,[.int,(.lst (.int .i64)),(.lst (.int .i64)),(.lst (.int .i64)),(.st 3)]⟩
def q5G:Way S:=⟨(.exit 0),⟨L,o1W,10⟩,[(.lst (.int .i64))]⟩
def q5H:LE S:=⟨q5B,q5C,[.int,.int,.int,(.lst (.st 3)),(.lst (.int .i64))],[q5D,q5E,q5F,q5G]⟩
def q5I (x:Xai):((Int×(List Int)×Zr)⊕(Int×(List Int)×(List Int)×Zr)⊕(Int×(List Int)×(List Int)×Zr)⊕Unit)->tqa:=Sum.elim (fun y0=>(.inl (y0.1,x.v4,y0.2.1,y0.v2))) (Sum.elim (fun y1=>(.inr (.inl (y1.1,x.v4,y1.2.1,y1.u2,y1.v3)))) (Sum.elim (fun y2=>(.inr (.inr (.inl (y2.1,x.v4,y2.2.1,y2.u2,y2.v3))))) (fun y3=>(.inr (.inr (.inr x.v4))))))
def q5J {R:Type} (x:Xai) (k:tqa->Option R):Option R:=(X51 x.2.1 x.u3 x.v4 (x.1,x.u2)).bind (Sum.elim (fun y0=>k (.inl (y0.1,x.v4,y0.2.1,y0.v2))) (Sum.elim (fun y1=>k (.inr (.inl (y1.1,x.v4,y1.2.1,y1.u2,y1.v3)))) (Sum.elim (fun y2=>k (.inr (.inr (.inl (y2.1,x.v4,y2.2.1,y2.u2,y2.v3))))) (fun y3=>k (.inr (.inr (.inr x.v4)))))))
def q5K (x:Xai) (v:(Int×Int)):Xai:=(v.1,x.2.1,v.2,x.u3,x.v4)
theorem q5L (x:Xai):LE.step X q5H q5d q0 q4 12 x=Wt x.2.1 x.u3 x.v4 x.1 x.u2 (fun w0 w1=>(Sum.inl (w0,x.2.1,w1,x.u3,x.v4))) (fun p0 p1 p2=>(Sum.inr (.inl (p0,x.v4,p1,p2)))) (fun p0 p1 p2 p3=>(Sum.inr (.inr (.inl (p0,x.v4,p1,p2,p3))))) (fun p0 p1 p2 p3=>(Sum.inr (.inr (.inr (.inl (p0,x.v4,p1,p2,p3)))))) (Sum.inr (.inr (.inr (.inr x.v4)))):=by kernel_rfl
theorem q5N {R:Type} (x:Xai) (k:tqa->Option R) (r:R) (h:q5J x k=some r):∃o,Z5Q (LE.step X q5H q5d q0 q4 12) x o/\k o=some r:=by
 obtain⟨o,h1,h2⟩:=Z0 h;exact⟨q5I x o,ZiO (st:=fun(x:Xai)=>Wb x.2.1 x.u3 x.v4) (prj:=fun x=>(x.1,x.u2)) (emb:=q5K) (embO:=q5I) (fun x=>(q5L x).trans (by unfold Wb Wt;simp only[ZiG,Ziy,ZiH,Option.map_some,Option.map_none];rfl)) (fun _ _=>rfl) (fun _ _=>rfl) (fun _ _ _=>rfl) (fun _ _ _=>rfl) (fun _=>rfl) (Z29.1 h1),by first|exact h2|(rcases o with o|o|o|o<;>exact h2)⟩
def q5O {R:Type}:Z2L S R:=LE.ls X q5H q5J q4
theorem q5P {R:Type}:Z45 X (q5O (R:=R)):=ZiT xok q5e (e:=q5H) q1 q5 q5N q5
theorem q5Q (x0:List Zr):ZiV X q5d [(.sl (.st 3))] [(.int .i64)] q0 q5O 12 138 (x0,())=X41 x0:=by kernel_rfl
def q5R:F7 S:=⟨[(.sl (.st 3))],[(.int .i64)],fun xs=>X41 xs.1⟩
theorem q5S:Z9R X 138 q5R:=ZiS (ZiR xok q5e q1 q5P 12 138) fun xs _ h=>(q5Q xs.1).trans h
theorem q5X (x0:ZF) (x1:Int):ZiV X q5d [(.st 6),(.int .i64)] [(.int .i64)] q0 q4 12 87 (x0,x1,())=X5g x0 x1:=by kernel_rfl
def q5Y:F7 S:=⟨[(.st 6),(.int .i64)],[(.int .i64)],fun xs=>X5g xs.1 xs.2.1⟩
theorem q5Z:Z9R X 87 q5Y:=ZiS (ZiR xok q5e q1 q5 12 87) fun xs _ h=>(q5X xs.1 xs.2.1).trans h
theorem q64 (x0 x1:Point):ZiV X q2 [(.st 2),(.st 2)] [(.st 2)] q0 q4 12 85 (x0,x1,())=X8F x0 x1:=by kernel_rfl
def q65:F7 S:=⟨[(.st 2),(.st 2)],[(.st 2)],fun xs=>X8F xs.1 xs.2.1⟩
theorem q66:Z9R X 85 q65:=ZiS (ZiR xok q3 q1 q5 12 85) fun xs _ h=>(q64 xs.1 xs.2.1).trans h
theorem q6b (x0 x1:Point):ZiV X q2 [(.st 2),(.st 2)] [(.int .i64)] q0 q4 12 134 (x0,x1,())=X8G x0 x1:=by kernel_rfl
def q6c:F7 S:=⟨[(.st 2),(.st 2)],[(.int .i64)],fun xs=>X8G xs.1 xs.2.1⟩
theorem q6d:Z9R X 134 q6c:=ZiS (ZiR xok q3 q1 q5 12 134) fun xs _ h=>(q6b xs.1 xs.2.1).trans h
def q6e:List (Nat×F7 S):=[(54,q4K),(83,q5v),(87,q5Y),(85,q65),(134,q6c)]
theorem q6f:Za2 X (q6e):=⟨q4L,q5w,q5Z,q66,q6d,trivial⟩
def q6i:Key:=⟨[27,6,4,173,1,139],139,(some 27),[0,0,1,0,1,0,1,0,1,0,1,1,1],3,66⟩
def q6j:StT S:=⟨(N (N L none (N v1T vT L)) none (N (N (N (N (N L vR L) none L) none L) (some (.ptr 58 0)) L) (some (.ptr 1 0)) v1N)),oY,66⟩
def q6k:Way S:=⟨(.exit 3),⟨(N (N L none (N L vT L)) none (N (N L (some (.ptr 58 0)) L) (some (.ptr 1 0)) L)),oY,67⟩,[.int,(.st 15),.bool,.int,.bool,(.st 15),.bool,.int,(.st 15),(.st 17)]⟩
def q6l:LE S:=⟨q6i,q6j,[.int,.int,(.lst (.st 2)),.int,(.st 15),.bool,.int,.bool,(.st 15),.bool,.int,(.st 15),(.st 17)],[q6k]⟩
def q6m (x:tqs):Int->tqI:=fun y0=>(y0,x.u4,x.u5,x.u6,x.u7,x.u8,x.u9,x.u10,x.u11,x.v12)
def q6n {R:Type} (x:tqs) (k:tqI->Option R):Option R:=(WE x.1 x.u2 x.u4 x.u5 x.u6 x.u7 x.u8 x.u9 x.u10 x.u11 x.v12 (x.2.1,x.u3)).bind (fun y0=>k (y0,x.u4,x.u5,x.u6,x.u7,x.u8,x.u9,x.u10,x.u11,x.v12))
def q6o (x:tqs) (v:(Int×Int)):tqs:=(x.1,v.1,x.u2,v.2,x.u4,x.u5,x.u6,x.u7,x.u8,x.u9,x.u10,x.u11,x.v12)
theorem q6p (x:tqs):LE.step X q6l q6e q0 q4 12 x=Xx x.1 x.u2 x.u4 x.u5 x.u6 x.u7 x.u8 x.u9 x.u10 x.u11 x.v12 x.2.1 x.u3 (fun w0 w1=>(Sum.inl (x.1,w0,x.u2,w1,x.u4,x.u5,x.u6,x.u7,x.u8,x.u9,x.u10,x.u11,x.v12))) (fun p0=>(Sum.inr (p0,x.u4,x.u5,x.u6,x.u7,x.u8,x.u9,x.u10,x.u11,x.v12))):=by kernel_rfl
theorem q6r {R:Type} (x:tqs) (k:tqI->Option R) (r:R) (h:q6n x k=some r):∃o,Z5Q (LE.step X q6l q6e q0 q4 12) x o/\k o=some r:=by
 obtain⟨o,h1,h2⟩:=Z0 h;exact⟨q6m x o,ZiO (st:=fun(x:tqs)=>Xl x.1 x.u2 x.u4 x.u5 x.u6 x.u7 x.u8 x.u9 x.u10 x.u11 x.v12) (prj:=fun x=>(x.2.1,x.u3)) (emb:=q6o) (embO:=q6m) (fun x=>(q6p x).trans (by unfold Xl Xx;simp only[ZiG,Ziy,ZiH,Option.map_some,Option.map_none];rfl)) (fun _ _=>rfl) (fun _ _=>rfl) (fun _ _ _=>rfl) (fun _ _ _=>rfl) (fun _=>rfl) (Z29.1 h1),by first|exact h2|(rcases o with o<;>exact h2)⟩
def q6s {R:Type}:Z2L S R:=LE.ls X q6l q6n q4
theorem q6t {R:Type}:Z45 X (q6s (R:=R)):=ZiT xok q6f (e:=q6l) q1 q5 q6r q5
def q6u:Key:=⟨[173,1,139],173,none,[0,0,1,1],0,45⟩
def q6v:StT S:=⟨(N (N (N L (some (.ptr 38 0)) (N (N L vT L) none L)) none L) (some (.yld 27)) v1z),oZ,45⟩
def q6w:Way S:=⟨.ret,⟨L,(N (N (N (N L none (N L oa L)) none (N L none (N L (some (.loop 139 (N (N (N (N (N L vU L) none L) vT L) (some (.ptr 0 0)) (N (N L none (N L vU L)) none L)) vr (N (N (N L vU L) none (N L none (N L vj L))) (some (.ptr 1 0)) L)) (29::[]) .skip .skip 1 .ret (1::(139::[])) (0::(1::(0::(1::(1::(1::[])))))))) L))) oy L) oa (N (N (N (N L none (N L on L)) none L) none L) none (N (N L none (N L none (N L ob L))) ox o1X))),76⟩,[(.st 15),.bool,.int,.bool,(.st 15),.bool,.int,(.st 15),(.st 2),(.st 17),(.lst (.int .i64)),(.st 2)]⟩
def q6x:Way S:=⟨(.exit 0),⟨L,oZ,46⟩,[(.st 15),.bool,.int,.bool,(.st 15),.bool,.int,(.st 15),(.lst (.int .i64)),(.st 2)]⟩
def q6y:LE S:=⟨q6u,q6v,[.int,.int,(.lst (.st 2)),(.st 15),.bool,.int,.bool,(.st 15),.bool,.int,(.st 15),(.lst (.int .i64)),(.st 2)],[q6w,q6x]⟩
def q6z (x:tqr):((Int×Point×Ze×Point)⊕Point)->tq7:=Sum.elim (fun y0=>(.inl (x.u3,x.u4,x.u5,x.u6,x.u7,x.u8,y0.1,x.u10,y0.2.1,y0.u2,x.u11,y0.v3))) (fun y1=>(.inr (x.u3,x.u4,x.u5,x.u6,x.u7,x.u8,x.u9,x.u10,x.u11,y1)))
def q6A {R:Type} (x:tqr) (k:tq7->Option R):Option R:=(X3V x.1 x.u2 x.u3 x.u4 x.u5 x.u6 x.u7 x.u8 x.u9 x.u10 x.u11 (x.2.1,x.v12)).bind (Sum.elim (fun y0=>k (.inl (x.u3,x.u4,x.u5,x.u6,x.u7,x.u8,y0.1,x.u10,y0.2.1,y0.u2,x.u11,y0.v3))) (fun y1=>k (.inr (x.u3,x.u4,x.u5,x.u6,x.u7,x.u8,x.u9,x.u10,x.u11,y1))))
def q6B (x:tqr) (v:(Int×Point)):tqr:=(x.1,v.1,x.u2,x.u3,x.u4,x.u5,x.u6,x.u7,x.u8,x.u9,x.u10,x.u11,v.2)
theorem q6C (x:tqr):LE.step X q6y q6e q0 q6s 12 x=Xw x.1 x.u2 x.u3 x.u4 x.u5 x.u6 x.u7 x.u8 x.u9 x.u10 x.u11 x.2.1 x.v12 (fun w0 w1=>(Sum.inl (x.1,w0,x.u2,x.u3,x.u4,x.u5,x.u6,x.u7,x.u8,x.u9,x.u10,x.u11,w1))) (fun p0 p1 p2 p3=>(Sum.inr (.inl (x.u3,x.u4,x.u5,x.u6,x.u7,x.u8,p0,x.u10,p1,p2,x.u11,p3)))) (fun p0=>(Sum.inr (.inr (x.u3,x.u4,x.u5,x.u6,x.u7,x.u8,x.u9,x.u10,x.u11,p0)))):=by kernel_rfl
theorem q6E {R:Type} (x:tqr) (k:tq7->Option R) (r:R) (h:q6A x k=some r):∃o,Z5Q (LE.step X q6y q6e q0 q6s 12) x o/\k o=some r:=by
 obtain⟨o,h1,h2⟩:=Z0 h;exact⟨q6z x o,ZiO (st:=fun(x:tqr)=>Xk x.1 x.u2 x.u3 x.u4 x.u5 x.u6 x.u7 x.u8 x.u9 x.u10 x.u11) (prj:=fun x=>(x.2.1,x.v12)) (emb:=q6B) (embO:=q6z) (fun x=>(q6C x).trans (by unfold Xk Xw;simp only[ZiG,Ziy,ZiH,Option.map_some,Option.map_none];rfl)) (fun _ _=>rfl) (fun _ _=>rfl) (fun _ _ _=>rfl) (fun _ _ _=>rfl) (fun _=>rfl) (Z29.1 h1),by first|exact h2|(rcases o with o|o<;>exact h2)⟩
def q6F {R:Type}:Z2L S R:=LE.ls X q6y q6A q6s
theorem q6G {R:Type}:Z45 X (q6F (R:=R)):=ZiT xok q6f (e:=q6y) q1 q6t q6E q6t
theorem q6H (x0:Zf):ZiV X q6e [(.st 15)] [(.int .i64)] q0 q6F 12 139 (x0,())=X2e x0:=by kernel_rfl
def q6I:F7 S:=⟨[(.st 15)],[(.int .i64)],fun xs=>X2e xs.1⟩
theorem q6J:Z9R X 139 q6I:=ZiS (ZiR xok q6f q1 q6G 12 139) fun xs _ h=>(q6H xs.1).trans h
def q6K:List (Nat×F7 S):=[(34,q5b),(83,q5v),(138,q5R),(139,q6I)]
theorem q6L:Za2 X (q6K):=⟨q5c,q5w,q5S,q6J,trivial⟩
def q6O:Key:=⟨[92],92,none,[0,0,1,0,1,1,1,1],0,17⟩
def q6P:StT S:=⟨(N (N v1S (some (.ptr 0 0)) L) none (N v1S none (N (N (N L (some (.sl (.st 4) [])) L) none L) vo L))),o1L,17⟩
def q6Q:Way S:=⟨.ret,⟨v1K,o1A,57⟩,[.int,.int,.int,(.st 4),(.st 8),(.mp .str (.int .i64))]⟩
def q6R:Way S:=⟨.ret,⟨v1K,o1A,62⟩,[.int,.int,.int,(.st 4),(.st 8),(.mp .str (.int .i64))]⟩
def q6S:Way S:=⟨.ret,⟨v1K,o1g,63⟩,[.int,.int,.int,(.st 4),(.st 8),(.mp .str (.int .i64)),(.lst (.st 2))]⟩
def q6T:Way S:=⟨.ret,⟨v1K,o1g,66⟩,[.int,.int,.int,(.st 4),(.st 8),(.mp .str (.int .i64)),(.lst (.st 2))]⟩
def q6U:Way S:=⟨(.exit 0),⟨(N (N L (some (.ptr 0 0)) L) none (N L none (N L vo L))),o1L,18⟩,[(.st 8),(.mp .str (.int .i64))]⟩
def q6V:LE S:=⟨q6O,q6P,[.int,.int,(.lst (.st 4)),(.st 8),(.mp .str (.int .i64))],[q6Q,q6R,q6S,q6T,q6U]⟩
def q6W (x:Xa8):((Int×Int×Int×ZC×X6e)⊕(Int×Int×Int×ZC×X6e)⊕(Int×Int×Int×ZC×X6e×(List Point))⊕(Int×Int×Int×ZC×X6e×(List Point))⊕X6e)->tq1:=Sum.elim (fun y0=>(.inl (y0.1,y0.2.1,y0.u2,y0.u3,x.u3,y0.v4))) (Sum.elim (fun y1=>(.inr (.inl (y1.1,y1.2.1,y1.u2,y1.u3,x.u3,y1.v4)))) (Sum.elim (fun y2=>(.inr (.inr (.inl (y2.1,y2.2.1,y2.u2,y2.u3,x.u3,y2.u4,y2.v5))))) (Sum.elim (fun y3=>(.inr (.inr (.inr (.inl (y3.1,y3.2.1,y3.u2,y3.u3,x.u3,y3.u4,y3.v5)))))) (fun y4=>(.inr (.inr (.inr (.inr (x.u3,y4)))))))))
def q6X {R:Type} (x:Xa8) (k:tq1->Option R):Option R:=(X5j x.1 x.u2 x.u3 (x.2.1,x.v4)).bind (Sum.elim (fun y0=>k (.inl (y0.1,y0.2.1,y0.u2,y0.u3,x.u3,y0.v4))) (Sum.elim (fun y1=>k (.inr (.inl (y1.1,y1.2.1,y1.u2,y1.u3,x.u3,y1.v4)))) (Sum.elim (fun y2=>k (.inr (.inr (.inl (y2.1,y2.2.1,y2.u2,y2.u3,x.u3,y2.u4,y2.v5))))) (Sum.elim (fun y3=>k (.inr (.inr (.inr (.inl (y3.1,y3.2.1,y3.u2,y3.u3,x.u3,y3.u4,y3.v5)))))) (fun y4=>k (.inr (.inr (.inr (.inr (x.u3,y4))))))))))
def q6Y (x:Xa8) (v:(Int×X6e)):Xa8:=(x.1,v.1,x.u2,x.u3,v.2)
theorem q6Z (x:Xa8):LE.step X q6V q6K q0 q4 12 x=WY x.1 x.u2 x.u3 x.2.1 x.v4 (fun w0 w1=>(Sum.inl (x.1,w0,x.u2,x.u3,w1))) (fun p0 p1 p2 p3 p4=>(Sum.inr (.inl (p0,p1,p2,p3,x.u3,p4)))) (fun p0 p1 p2 p3 p4=>(Sum.inr (.inr (.inl (p0,p1,p2,p3,x.u3,p4))))) (fun p0 p1 p2 p3 p4 p5=>(Sum.inr (.inr (.inr (.inl (p0,p1,p2,p3,x.u3,p4,p5)))))) (fun p0 p1 p2 p3 p4 p5=>(Sum.inr (.inr (.inr (.inr (.inl (p0,p1,p2,p3,x.u3,p4,p5))))))) (fun p0=>(Sum.inr (.inr (.inr (.inr (.inr (x.u3,p0))))))):=by kernel_rfl
theorem q71 {R:Type} (x:Xa8) (k:tq1->Option R) (r:R) (h:q6X x k=some r):∃o,Z5Q (LE.step X q6V q6K q0 q4 12) x o/\k o=some r:=by
 obtain⟨o,h1,h2⟩:=Z0 h;exact⟨q6W x o,ZiO (st:=fun(x:Xa8)=>WC x.1 x.u2 x.u3) (prj:=fun x=>(x.2.1,x.v4)) (emb:=q6Y) (embO:=q6W) (fun x=>(q6Z x).trans (by unfold WC WY;simp only[ZiG,Ziy,ZiH,Option.map_some,Option.map_none];rfl)) (fun _ _=>rfl) (fun _ _=>rfl) (fun _ _ _=>rfl) (fun _ _ _=>rfl) (fun _=>rfl) (Z29.1 h1),by first|exact h2|(rcases o with o|o|o|o|o<;>exact h2)⟩
def q72 {R:Type}:Z2L S R:=LE.ls X q6V q6X q4
theorem q73 {R:Type}:Z45 X (q72 (R:=R)):=ZiT xok q6L (e:=q6V) q1 q5 q71 q5
def q74:Key:=⟨[92],92,none,[0,0,1,0,1,1,1,1,1,1],2,26⟩
def q75:StT S:=⟨(N (N L none (N L none v1Y)) none (N (N L none (N (N L none (N L vS L)) none L)) none (N L vo v1Y))),o1L,26⟩
def q76:Way S:=⟨.ret,⟨v1K,o1x,58⟩,[.int,.int,.int,(.st 8),(.mp .str (.int .i64)),(.st 7)]⟩
def q77:Way S:=⟨.ret,⟨v1K,o1x,63⟩,[.int,.int,.int,(.st 8),(.mp .str (.int .i64)),(.st 7)]⟩
def q78:Way S:=⟨.ret,⟨v1K,o1x,67⟩,[.int,.int,.int,(.st 8),(.mp .str (.int .i64)),(.st 7)]⟩
def q79:Way S:=⟨(.exit 2),⟨L,o1L,27⟩,[(.st 8),(.mp .str (.int .i64))]⟩
def q7a:LE S:=⟨q74,q75,[.int,(.lst (.st 7)),.int,(.st 8),(.mp .str (.int .i64))],[q76,q77,q78,q79]⟩
def q7b (x:Xa9):(Xbf⊕Xbf⊕Xbf⊕X6e)->tq5:=Sum.elim (fun y0=>(.inl (y0.1,y0.2.1,y0.u2,x.u3,y0.u3,y0.v4))) (Sum.elim (fun y1=>(.inr (.inl (y1.1,y1.2.1,y1.u2,x.u3,y1.u3,y1.v4)))) (Sum.elim (fun y2=>(.inr (.inr (.inl (y2.1,y2.2.1,y2.u2,x.u3,y2.u3,y2.v4))))) (fun y3=>(.inr (.inr (.inr (x.u3,y3)))))))
def q7c {R:Type} (x:Xa9) (k:tq5->Option R):Option R:=(X2s x.1 x.2.1 x.u3 (x.u2,x.v4)).bind (Sum.elim (fun y0=>k (.inl (y0.1,y0.2.1,y0.u2,x.u3,y0.u3,y0.v4))) (Sum.elim (fun y1=>k (.inr (.inl (y1.1,y1.2.1,y1.u2,x.u3,y1.u3,y1.v4)))) (Sum.elim (fun y2=>k (.inr (.inr (.inl (y2.1,y2.2.1,y2.u2,x.u3,y2.u3,y2.v4))))) (fun y3=>k (.inr (.inr (.inr (x.u3,y3))))))))
def q7d (x:Xa9) (v:(Int×X6e)):Xa9:=(x.1,x.2.1,v.1,x.u3,v.2)
theorem q7e (x:Xa9):LE.step X q7a q6K q0 q72 12 x=WZ x.1 x.2.1 x.u3 x.u2 x.v4 (fun w0 w1=>(Sum.inl (x.1,x.2.1,w0,x.u3,w1))) (fun p0 p1 p2 p3 p4=>(Sum.inr (.inl (p0,p1,p2,x.u3,p3,p4)))) (fun p0 p1 p2 p3 p4=>(Sum.inr (.inr (.inl (p0,p1,p2,x.u3,p3,p4))))) (fun p0 p1 p2 p3 p4=>(Sum.inr (.inr (.inr (.inl (p0,p1,p2,x.u3,p3,p4)))))) (fun p0=>(Sum.inr (.inr (.inr (.inr (x.u3,p0)))))):=by kernel_rfl
theorem q7g {R:Type} (x:Xa9) (k:tq5->Option R) (r:R) (h:q7c x k=some r):∃o,Z5Q (LE.step X q7a q6K q0 q72 12) x o/\k o=some r:=by
 obtain⟨o,h1,h2⟩:=Z0 h;exact⟨q7b x o,ZiO (st:=fun(x:Xa9)=>WD x.1 x.2.1 x.u3) (prj:=fun x=>(x.u2,x.v4)) (emb:=q7d) (embO:=q7b) (fun x=>(q7e x).trans (by unfold WD WZ;simp only[ZiG,Ziy,ZiH,Option.map_some,Option.map_none];rfl)) (fun _ _=>rfl) (fun _ _=>rfl) (fun _ _ _=>rfl) (fun _ _ _=>rfl) (fun _=>rfl) (Z29.1 h1),by first|exact h2|(rcases o with o|o|o|o<;>exact h2)⟩
def q7h {R:Type}:Z2L S R:=LE.ls X q7a q7c q72
theorem q7i {R:Type}:Z45 X (q7h (R:=R)):=ZiT xok q6L (e:=q7a) q1 q73 q7g q73
theorem q7j (x0:Zo):ZiV X q6K [(.st 8)] [(.int .i64),(.int .i64),(.int .i64)] q0 q7h 12 92 (x0,())=X2Z x0:=by kernel_rfl
def q7k:F7 S:=⟨[(.st 8)],[(.int .i64),(.int .i64),(.int .i64)],fun xs=>X2Z xs.1⟩
theorem q7l:Z9R X 92 q7k:=ZiS (ZiR xok q6L q1 q7i 12 92) fun xs _ h=>(q7j xs.1).trans h
def q7m:List (Nat×F7 S):=[(92,q7k),(83,q5v)]
theorem q7n:Za2 X (q7m):=⟨q7l,q5w,trivial⟩
theorem q7q (x0:Zo) (x1:Point):ZiV X q7m [(.st 8),(.st 2)] [(.int .i64)] q0 q4 12 53 (x0,x1,())=X5m x0 x1:=by kernel_rfl
def q7r:F7 S:=⟨[(.st 8),(.st 2)],[(.int .i64)],fun xs=>X5m xs.1 xs.2.1⟩
theorem q7s:Z9R X 53 q7r:=ZiS (ZiR xok q7n q1 q5 12 53) fun xs _ h=>(q7q xs.1 xs.2.1).trans h
theorem q7x (x0 x1:Int):ZiV X q2 [(.int .i64),(.int .i64)] [(.int .i64)] q0 q4 12 174 (x0,x1,())=X3U x0 x1:=by kernel_rfl
def q7y:F7 S:=⟨[(.int .i64),(.int .i64)],[(.int .i64)],fun xs=>X3U xs.1 xs.2.1⟩
theorem q7z:Z9R X 174 q7y:=ZiS (ZiR xok q3 q1 q5 12 174) fun xs _ h=>(q7x xs.1 xs.2.1).trans h
def q7A:List (Nat×F7 S):=[(174,q7y)]
theorem q7B:Za2 X (q7A):=⟨q7z,trivial⟩
theorem q7E (x0:Z8) (x1 x2:Int):ZiV X q7A [(.st 16),(.int .i64),(.int .i64)] [(.st 16)] q0 q4 12 131 (x0,x1,x2,())=X1p x0 x1 x2:=by kernel_rfl
def q7F:F7 S:=⟨[(.st 16),(.int .i64),(.int .i64)],[(.st 16)],fun xs=>X1p xs.1 xs.2.1 xs.u2⟩
theorem q7G:Z9R X 131 q7F:=ZiS (ZiR xok q7B q1 q5 12 131) fun xs _ h=>(q7E xs.1 xs.2.1 xs.u2).trans h
def q7H:List (Nat×F7 S):=[(85,q65),(131,q7F)]
theorem q7I:Za2 X (q7H):=⟨q66,q7G,trivial⟩
def q7L:Key:=⟨[173,0,79],173,none,[0,0,1,1],0,41⟩
def q7M:StT S:=⟨(N (N (N L (some (.ptr 34 0)) (N (N L vT L) none L)) none L) (some (.yld 23)) v1z),oX,41⟩
def q7N:Way S:=⟨(.exit 0),⟨L,oX,42⟩,[(.st 16),.int,(.st 15),(.st 2),(.st 16),(.st 15),.int,(.st 15),(.st 2),(.st 2)]⟩
def q7O:LE S:=⟨q7L,q7M,[.int,.int,(.lst (.st 2)),(.st 16),.int,(.st 15),(.st 2),(.st 16),(.st 15),.int,(.st 15),(.st 2),(.st 2)],[q7N]⟩
def q7P (x:tqk):(Z8×Point)->tqx:=fun y0=>(y0.1,x.u4,x.u5,x.u6,x.u7,x.u8,x.u9,x.u10,x.u11,y0.2)
def q7Q {R:Type} (x:tqk) (k:tqx->Option R):Option R:=(X2u x.1 x.u2 x.u4 x.u5 x.u6 x.u7 x.u8 x.u9 x.u10 x.u11 (x.2.1,x.u3,x.v12)).bind (fun y0=>k (y0.1,x.u4,x.u5,x.u6,x.u7,x.u8,x.u9,x.u10,x.u11,y0.2))
def q7R (x:tqk) (v:(Int×Z8×Point)):tqk:=(x.1,v.1,x.u2,v.2.1,x.u4,x.u5,x.u6,x.u7,x.u8,x.u9,x.u10,x.u11,v.v2)
theorem q7S (x:tqk):LE.step X q7O q7H q0 q4 12 x=XE x.1 x.u2 x.u4 x.u5 x.u6 x.u7 x.u8 x.u9 x.u10 x.u11 x.2.1 x.u3 x.v12 (fun w0 w1 w2=>(Sum.inl (x.1,w0,x.u2,w1,x.u4,x.u5,x.u6,x.u7,x.u8,x.u9,x.u10,x.u11,w2))) (fun p0 p1=>(Sum.inr (p0,x.u4,x.u5,x.u6,x.u7,x.u8,x.u9,x.u10,x.u11,p1))):=by kernel_rfl
theorem q7U {R:Type} (x:tqk) (k:tqx->Option R) (r:R) (h:q7Q x k=some r):∃o,Z5Q (LE.step X q7O q7H q0 q4 12) x o/\k o=some r:=by
 obtain⟨o,h1,h2⟩:=Z0 h;exact⟨q7P x o,ZiO (st:=fun(x:tqk)=>Xt x.1 x.u2 x.u4 x.u5 x.u6 x.u7 x.u8 x.u9 x.u10 x.u11) (prj:=fun x=>(x.2.1,x.u3,x.v12)) (emb:=q7R) (embO:=q7P) (fun x=>(q7S x).trans (by unfold Xt XE;simp only[ZiG,Ziy,ZiH,Option.map_some,Option.map_none];rfl)) (fun _ _=>rfl) (fun _ _=>rfl) (fun _ _ _=>rfl) (fun _ _ _=>rfl) (fun _=>rfl) (Z29.1 h1),by first|exact h2|(rcases o with o<;>exact h2)⟩
def q7V {R:Type}:Z2L S R:=LE.ls X q7O q7Q q4
theorem q7W {R:Type}:Z45 X (q7V (R:=R)):=ZiT xok q7I (e:=q7O) q1 q5 q7U q5
theorem q7X (x0:Zf) (x1:Int) (x2:Point):ZiV X q7H [(.st 15),(.int .i64),(.st 2)] [(.st 16)] q0 q7V 12 79 (x0,x1,x2,())=X2H x0 x1 x2:=by kernel_rfl
def q7Y:F7 S:=⟨[(.st 15),(.int .i64),(.st 2)],[(.st 16)],fun xs=>X2H xs.1 xs.2.1 xs.u2⟩
theorem q7Z:Z9R X 79 q7Y:=ZiS (ZiR xok q7I q1 q7W 12 79) fun xs _ h=>(q7X xs.1 xs.2.1 xs.u2).trans h
def q80:List (Nat×F7 S):=[(53,q7r),(79,q7Y)]
theorem q81:Za2 X (q80):=⟨q7s,q7Z,trivial⟩
def q84:Key:=⟨[17],17,none,[0,0,1,0,1,1,1,0,0,1,1,0,0,1,0,1,1],2,43⟩
def q85:StT S:=⟨(N (N (N (N L vT (N L vT L)) (some (.ptr 1 0)) (N L vU L)) none (N (N L (some (.ptr 26 0)) (N (N L vT L) none L)) (some (.rs 43 0)) (N (N L vS L) none L))) none (N (N L (some (.rs 44 0)) L) none (N (N L vU (N (N L vT L) none L)) none (N (N L vT L) none L)))),o13,45⟩
def q86:Way S:=⟨(.exit 2),⟨(N (N (N (N L vT (N L vT L)) (some (.ptr 1 0)) (N L vU L)) none (N L (some (.rs 43 0)) (N (N L vS L) none L))) none (N (N L (some (.rs 44 0)) L) none (N (N L vU L) none (N (N L vT L) none L)))),o13,46⟩,[.int,.int,.bool,(.lst (.st 7)),.bool,.int,(.lst (.int .i64)),(.st 2),(.st 7),(.st 8),(.lst (.int .i64)),(.st 15)]⟩
def q87:LE S:=⟨q84,q85,[.int,.int,.bool,.int,(.lst (.st 7)),.bool,.int,.int,(.lst (.int .i64)),(.st 2),(.st 7),(.st 8),(.lst (.int .i64)),(.st 15)],[q86]⟩
def q88 (x:tqp):(Bool×Bool)->tqw:=fun y0=>(x.1,x.2.1,y0.1,x.u4,y0.2,x.u7,x.u8,x.u9,x.u10,x.u11,x.u12,x.v13)
def q89 {R:Type} (x:tqp) (k:tqw->Option R):Option R:=(X3H x.1 x.2.1 x.u3 x.u4 x.u7 x.u8 x.u9 x.u10 x.u11 x.u12 x.v13 (x.u2,x.u5,x.u6)).bind (fun y0=>k (x.1,x.2.1,y0.1,x.u4,y0.2,x.u7,x.u8,x.u9,x.u10,x.u11,x.u12,x.v13))
def q8a (x:tqp) (v:(Bool×Bool×Int)):tqp:=(x.1,x.2.1,v.1,x.u3,x.u4,v.2.1,v.v2,x.u7,x.u8,x.u9,x.u10,x.u11,x.u12,x.v13)
theorem q8b (x:tqp):LE.step X q87 q80 q0 q4 12 x=X2a x.1 x.2.1 x.u3 x.u4 x.u7 x.u8 x.u9 x.u10 x.u11 x.u12 x.v13 x.u2 x.u5 x.u6 (fun w0 w1 w2=>(Sum.inl (x.1,x.2.1,w0,x.u3,x.u4,w1,w2,x.u7,x.u8,x.u9,x.u10,x.u11,x.u12,x.v13))) (fun p0 p1=>(Sum.inr (x.1,x.2.1,p0,x.u4,p1,x.u7,x.u8,x.u9,x.u10,x.u11,x.u12,x.v13))):=by kernel_rfl
theorem q8d {R:Type} (x:tqp) (k:tqw->Option R) (r:R) (h:q89 x k=some r):∃o,Z5Q (LE.step X q87 q80 q0 q4 12) x o/\k o=some r:=by
 obtain⟨o,h1,h2⟩:=Z0 h;exact⟨q88 x o,ZiO (st:=fun(x:tqp)=>X29 x.1 x.2.1 x.u3 x.u4 x.u7 x.u8 x.u9 x.u10 x.u11 x.u12 x.v13) (prj:=fun x=>(x.u2,x.u5,x.u6)) (emb:=q8a) (embO:=q88) (fun x=>(q8b x).trans (by unfold X29 X2a;simp only[ZiG,Ziy,ZiH,Option.map_some,Option.map_none];rfl)) (fun _ _=>rfl) (fun _ _=>rfl) (fun _ _ _=>rfl) (fun _ _ _=>rfl) (fun _=>rfl) (Z29.1 h1),by first|exact h2|(rcases o with o<;>exact h2)⟩
def q8e {R:Type}:Z2L S R:=LE.ls X q87 q89 q4
theorem q8f {R:Type}:Z45 X (q8e (R:=R)):=ZiT xok q81 (e:=q87) q1 q5 q8d q5
def q8g:Key:=⟨[17],17,none,[0,0,1,0,1,1],0,15⟩
def q8h:StT S:=⟨(N (N (N (N L none (N L vT L)) (some (.ptr 1 0)) L) none (N L (some (.rs 16 0)) (N (N L vS L) none L))) none (N (N L (some (.rs 15 0)) L) none v1S)),o1r,17⟩
def q8i:Way S:=⟨(.exit 0),⟨(N (N L none (N L (some (.rs 16 0)) L)) none (N (N L (some (.rs 15 0)) L) none L)),o1r,18⟩,[(.lst (.int .i64)),(.st 2),(.st 8),(.lst (.int .i64))]⟩
def q8j:LE S:=⟨q8g,q8h,[.int,(.lst (.st 7)),.int,(.lst (.int .i64)),(.st 2),(.st 8),(.lst (.int .i64))],[q8i]⟩
def q8k (x:tqY):((List Int)×(List Int))->Xbj:=fun y0=>(y0.1,x.u4,x.u5,y0.2)
def q8l {R:Type} (x:tqY) (k:Xbj->Option R):Option R:=(X6t x.2.1 x.u2 x.u4 x.u5 (x.1,x.u3,x.v6)).bind (fun y0=>k (y0.1,x.u4,x.u5,y0.2))
def q8m (x:tqY) (v:(Int×(List Int)×(List Int))):tqY:=(v.1,x.2.1,x.u2,v.2.1,x.u4,x.u5,v.v2)
theorem q8n (x:tqY):LE.step X q8j q80 q0 q8e 12 x=X28 x.2.1 x.u2 x.u4 x.u5 x.1 x.u3 x.v6 (fun w0 w1 w2=>(Sum.inl (w0,x.2.1,x.u2,w1,x.u4,x.u5,w2))) (fun p0 p1=>(Sum.inr (p0,x.u4,x.u5,p1))):=by kernel_rfl
theorem q8p {R:Type} (x:tqY) (k:Xbj->Option R) (r:R) (h:q8l x k=some r):∃o,Z5Q (LE.step X q8j q80 q0 q8e 12) x o/\k o=some r:=by
 obtain⟨o,h1,h2⟩:=Z0 h;exact⟨q8k x o,ZiO (st:=fun(x:tqY)=>X27 x.2.1 x.u2 x.u4 x.u5) (prj:=fun x=>(x.1,x.u3,x.v6)) (emb:=q8m) (embO:=q8k) (fun x=>(q8n x).trans (by unfold X27 X28;simp only[ZiG,Ziy,ZiH,Option.map_some,Option.map_none];rfl)) (fun _ _=>rfl) (fun _ _=>rfl) (fun _ _ _=>rfl) (fun _ _ _=>rfl) (fun _=>rfl) (Z29.1 h1),by first|exact h2|(rcases o with o<;>exact h2)⟩
def q8q {R:Type}:Z2L S R:=LE.ls X q8j q8l q8e
theorem q8r {R:Type}:Z45 X (q8q (R:=R)):=ZiT xok q81 (e:=q8j) q1 q8f q8p q8f
theorem q8s (x0:Zo) (x1:Point):ZiV X q80 [(.st 8),(.st 2)] [(.sl (.int .i64)),(.sl (.int .i64)),(.int .i64)] q0 q8q 12 17 (x0,x1,())=X6N x0 x1:=by kernel_rfl
def q8t:F7 S:=⟨[(.st 8),(.st 2)],[(.sl (.int .i64)),(.sl (.int .i64)),(.int .i64)],fun xs=>X6N xs.1 xs.2.1⟩
theorem q8u:Z9R X 17 q8t:=ZiS (ZiR xok q81 q1 q8r 12 17) fun xs _ h=>(q8s xs.1 xs.2.1).trans h
theorem q8z (x0 x1:Point):ZiV X q2 [(.st 2),(.st 2)] [(.int .i64)] q0 q4 12 159 (x0,x1,())=X2F x0 x1:=by kernel_rfl
def q8A:F7 S:=⟨[(.st 2),(.st 2)],[(.int .i64)],fun xs=>X34 xs.1 xs.2.1⟩
theorem q8B:Z9R X 159 q8A:=ZiS (ZiR xok q3 q1 q5 12 159) fun xs _ h=>((q8z xs.1 xs.2.1).trans (X6P xs.1 xs.2.1).symm).trans h
def q8C:List (Nat×F7 S):=[(85,q65),(134,q6c),(159,q8A)]
theorem q8D:Za2 X (q8C):=⟨q66,q6d,q8B,trivial⟩
def q8G:Key:=⟨[173,0,110],173,none,[0,0,1,1],0,30⟩
def q8H:StT S:=⟨(N (N (N L (some (.ptr 23 0)) (N (N L vT L) none L)) none L) (some (.yld 12)) v1z),o10,30⟩
def q8I:Way S:=⟨.ret,⟨L,o16,86⟩,[(.st 2),.bool,(.st 17),(.st 2),(.st 2),(.st 2),(.st 15),(.st 15),.bool,(.st 2),(.st 15),.int,.int]⟩
def q8J:Way S:=⟨.ret,⟨L,(N (N (N (N L none (N L on L)) oC (N L none (N (N L ob L) none L))) on (N (N (N (N L on L) none (N (N L on L) on L)) none L) none L)) oa (N (N (N L oa L) oC (N L o0 L)) oz L)),96⟩,[(.st 2),.bool,(.st 17),(.st 2),(.st 2),(.st 2),(.st 2),(.st 15),(.st 15),.bool,(.st 2),(.st 15),.int,.int]⟩
def q8K:Way S:=⟨.ret,⟨L,o16,89⟩,[(.st 2),.bool,(.st 17),(.st 2),(.st 2),(.st 2),(.st 15),(.st 15),.bool,(.st 2),(.st 15),.int,.int]⟩
def q8L:Way S:=⟨(.exit 0),⟨L,o10,31⟩,[(.st 2),.bool,(.st 2),(.st 15),(.st 15),.bool,(.st 2),(.st 15),.int,.int]⟩
def q8M:LE S:=⟨q8G,q8H,[.int,.int,(.lst (.st 2)),(.st 2),.bool,(.st 2),(.st 15),(.st 15),.bool,(.st 2),(.st 15),.int,.int],[q8I,q8J,q8K,q8L]⟩
def q8N (x:tqu):((Point×Bool×Ze×Point×Point×Bool)⊕(Point×Bool×Ze×Point×Point×Point×Bool)⊕(Point×Bool×Ze×Point×Point×Bool)⊕(Point×Bool))->tq0:=Sum.elim (fun y0=>(.inl (y0.1,y0.2.1,y0.u2,x.u5,y0.u3,y0.u4,x.u6,x.u7,y0.v5,x.u9,x.u10,x.u11,x.v12))) (Sum.elim (fun y1=>(.inr (.inl (y1.1,y1.2.1,y1.u2,x.u5,y1.u3,y1.u4,y1.u5,x.u6,x.u7,y1.v6,x.u9,x.u10,x.u11,x.v12)))) (Sum.elim (fun y2=>(.inr (.inr (.inl (y2.1,y2.2.1,y2.u2,x.u5,y2.u3,y2.u4,x.u6,x.u7,y2.v5,x.u9,x.u10,x.u11,x.v12))))) (fun y3=>(.inr (.inr (.inr (y3.1,x.u4,x.u5,x.u6,x.u7,y3.2,x.u9,x.u10,x.u11,x.v12)))))))
def q8O {R:Type} (x:tqu) (k:tq0->Option R):Option R:=(X2t x.1 x.u2 x.u5 x.v12 (x.2.1,x.u3,x.u8)).bind (Sum.elim (fun y0=>k (.inl (y0.1,y0.2.1,y0.u2,x.u5,y0.u3,y0.u4,x.u6,x.u7,y0.v5,x.u9,x.u10,x.u11,x.v12))) (Sum.elim (fun y1=>k (.inr (.inl (y1.1,y1.2.1,y1.u2,x.u5,y1.u3,y1.u4,y1.u5,x.u6,x.u7,y1.v6,x.u9,x.u10,x.u11,x.v12)))) (Sum.elim (fun y2=>k (.inr (.inr (.inl (y2.1,y2.2.1,y2.u2,x.u5,y2.u3,y2.u4,x.u6,x.u7,y2.v5,x.u9,x.u10,x.u11,x.v12))))) (fun y3=>k (.inr (.inr (.inr (y3.1,x.u4,x.u5,x.u6,x.u7,y3.2,x.u9,x.u10,x.u11,x.v12))))))))
def q8P (x:tqu) (v:(Int×Point×Bool)):tqu:=(x.1,v.1,x.u2,v.2.1,x.u4,x.u5,x.u6,x.u7,v.v2,x.u9,x.u10,x.u11,x.v12)
theorem q8Q (x:tqu):LE.step X q8M q8C q0 q4 12 x=XD x.1 x.u2 x.u5 x.v12 x.2.1 x.u3 x.u8 (fun w0 w1 w2=>(Sum.inl (x.1,w0,x.u2,w1,x.u4,x.u5,x.u6,x.u7,w2,x.u9,x.u10,x.u11,x.v12))) (fun p0 p1 p2 p3 p4 p5=>(Sum.inr (.inl (p0,p1,p2,x.u5,p3,p4,x.u6,x.u7,p5,x.u9,x.u10,x.u11,x.v12)))) (fun p0 p1 p2 p3 p4 p5 p6=>(Sum.inr (.inr (.inl (p0,p1,p2,x.u5,p3,p4,p5,x.u6,x.u7,p6,x.u9,x.u10,x.u11,x.v12))))) (fun p0 p1 p2 p3 p4 p5=>(Sum.inr (.inr (.inr (.inl (p0,p1,p2,x.u5,p3,p4,x.u6,x.u7,p5,x.u9,x.u10,x.u11,x.v12)))))) (fun p0 p1=>(Sum.inr (.inr (.inr (.inr (p0,x.u4,x.u5,x.u6,x.u7,p1,x.u9,x.u10,x.u11,x.v12)))))):=by kernel_rfl
theorem q8S {R:Type} (x:tqu) (k:tq0->Option R) (r:R) (h:q8O x k=some r):∃o,Z5Q (LE.step X q8M q8C q0 q4 12) x o/\k o=some r:=by
 obtain⟨o,h1,h2⟩:=Z0 h;exact⟨q8N x o,ZiO (st:=fun(x:tqu)=>Xs x.1 x.u2 x.u5 x.v12) (prj:=fun x=>(x.2.1,x.u3,x.u8)) (emb:=q8P) (embO:=q8N) (fun x=>(q8Q x).trans (by unfold Xs XD;simp only[ZiG,Ziy,ZiH,Option.map_some,Option.map_none];rfl)) (fun _ _=>rfl) (fun _ _=>rfl) (fun _ _ _=>rfl) (fun _ _ _=>rfl) (fun _=>rfl) (Z29.1 h1),by first|exact h2|(rcases o with o|o|o|o<;>exact h2)⟩
def q8T {R:Type}:Z2L S R:=LE.ls X q8M q8O q4
theorem q8U {R:Type}:Z45 X (q8T (R:=R)):=ZiT xok q8D (e:=q8M) q1 q5 q8S q5
theorem q8V (x0:Zf) (x1:Point) (x2:Int):ZiV X q8C [(.st 15),(.st 2),(.int .i64)] [.bool] q0 q8T 12 110 (x0,x1,x2,())=X11 x0 x1 x2:=by kernel_rfl
def q8W:F7 S:=⟨[(.st 15),(.st 2),(.int .i64)],[.bool],fun xs=>X2G xs.1 xs.2.1 xs.u2⟩
theorem q8X:Z9R X 110 q8W:=ZiS (ZiR xok q8D q1 q8U 12 110) fun xs _ h=>((q8V xs.1 xs.2.1 xs.u2).trans (X5n xs.1 xs.2.1 xs.u2).symm).trans h
def q8Y:List (Nat×F7 S):=[(85,q65),(110,q8W)]
theorem q8Z:Za2 X (q8Y):=⟨q66,q8X,trivial⟩
def q92:Key:=⟨[55],55,none,[0,0,1,1,0,0,0,1,0,0,1,1,1,0,0,1,1,0,0,1,0,1,1],4,41⟩
def q93:StT S:=⟨(N (N (N (N L (some (.ptr 3 0)) L) none (N (N L vT L) (some (.ptr 20 0)) L)) none (N (N L vT L) none (N L vT L))) none (N (N L (some (.ptr 1 0)) (N (N L vT L) vT L)) vT (N (N (N L vS L) none L) none L))),o1u,41⟩
def q94:Way S:=⟨.ret,⟨v1m,o1u,64⟩,[.bool,.int,(.st 7),(.st 2),(.st 2),(.st 8),(.st 15)]⟩
def q95:Way S:=⟨(.exit 4),⟨v12,o1u,48⟩,[.int,.int,.int,.int,.int,(.lst (.st 7)),(.st 7),(.st 2),(.st 2),(.st 8),(.st 15)]⟩
def q96:LE S:=⟨q92,q93,[.int,.int,.int,.int,.int,.int,(.lst (.st 7)),(.st 7),(.st 2),(.st 2),(.st 8),(.st 15)],[q94,q95]⟩
def q97 (x:tqB):((Bool×Point)⊕Point)->tqd:=Sum.elim (fun y0=>(.inl (y0.1,x.2.1,x.u7,y0.2,x.u9,x.u10,x.v11))) (fun y1=>(.inr (x.1,x.2.1,x.u3,x.u4,x.u5,x.u6,x.u7,y1,x.u9,x.u10,x.v11)))
def q98 {R:Type} (x:tqB) (k:tqd->Option R):Option R:=(X3q x.u4 x.u5 x.u9 x.v11 (x.u2,x.u8)).bind (Sum.elim (fun y0=>k (.inl (y0.1,x.2.1,x.u7,y0.2,x.u9,x.u10,x.v11))) (fun y1=>k (.inr (x.1,x.2.1,x.u3,x.u4,x.u5,x.u6,x.u7,y1,x.u9,x.u10,x.v11))))
def q99 (x:tqB) (v:(Int×Point)):tqB:=(x.1,x.2.1,v.1,x.u3,x.u4,x.u5,x.u6,x.u7,v.2,x.u9,x.u10,x.v11)
theorem q9a (x:tqB):LE.step X q96 q8Y q0 q4 12 x=Wr x.u4 x.u5 x.u9 x.v11 x.u2 x.u8 (fun w0 w1=>(Sum.inl (x.1,x.2.1,w0,x.u3,x.u4,x.u5,x.u6,x.u7,w1,x.u9,x.u10,x.v11))) (fun p0 p1=>(Sum.inr (.inl (p0,x.2.1,x.u7,p1,x.u9,x.u10,x.v11)))) (fun p0=>(Sum.inr (.inr (x.1,x.2.1,x.u3,x.u4,x.u5,x.u6,x.u7,p0,x.u9,x.u10,x.v11)))):=by kernel_rfl
theorem q9c {R:Type} (x:tqB) (k:tqd->Option R) (r:R) (h:q98 x k=some r):∃o,Z5Q (LE.step X q96 q8Y q0 q4 12) x o/\k o=some r:=by
 obtain⟨o,h1,h2⟩:=Z0 h;exact⟨q97 x o,ZiO (st:=fun(x:tqB)=>W9 x.u4 x.u5 x.u9 x.v11) (prj:=fun x=>(x.u2,x.u8)) (emb:=q99) (embO:=q97) (fun x=>(q9a x).trans (by unfold W9 Wr;simp only[ZiG,Ziy,ZiH,Option.map_some,Option.map_none];rfl)) (fun _ _=>rfl) (fun _ _=>rfl) (fun _ _ _=>rfl) (fun _ _ _=>rfl) (fun _=>rfl) (Z29.1 h1),by first|exact h2|(rcases o with o|o<;>exact h2)⟩
def q9d {R:Type}:Z2L S R:=LE.ls X q96 q98 q4
theorem q9e {R:Type}:Z45 X (q9d (R:=R)):=ZiT xok q8Z (e:=q96) q1 q5 q9c q5
def q9f:Key:=⟨[55],55,none,[0,0,1,1,1,0,0,1,1,0,0,1,0,1,1],2,28⟩
def q9g:StT S:=⟨v12,o1u,28⟩
def q9i:Way S:=⟨(.exit 2),⟨v17,o1u,35⟩,[.int,.int,.int,(.lst (.st 7)),(.st 7),(.st 2),(.st 2),(.st 8),(.st 15)]⟩
def q9j:LE S:=⟨q9f,q9g,[.int,.int,.int,.int,.int,(.lst (.st 7)),(.st 7),(.st 2),(.st 2),(.st 8),(.st 15)],[q94,q9i]⟩
def q9k (x:tqF):((Bool×Point)⊕Point)->tqh:=Sum.elim (fun y0=>(.inl (y0.1,x.2.1,x.u6,y0.2,x.u8,x.u9,x.v10))) (fun y1=>(.inr (x.1,x.u2,x.u4,x.u5,x.u6,y1,x.u8,x.u9,x.v10)))
def q9l {R:Type} (x:tqF) (k:tqh->Option R):Option R:=(X3p x.u4 x.u8 x.v10 (x.u3,x.u7)).bind (Sum.elim (fun y0=>k (.inl (y0.1,x.2.1,x.u6,y0.2,x.u8,x.u9,x.v10))) (fun y1=>k (.inr (x.1,x.u2,x.u4,x.u5,x.u6,y1,x.u8,x.u9,x.v10))))
def q9m (x:tqF) (v:(Int×Point)):tqF:=(x.1,x.2.1,x.u2,v.1,x.u4,x.u5,x.u6,v.2,x.u8,x.u9,x.v10)
theorem q9n (x:tqF):LE.step X q9j q8Y q0 q9d 12 x=Wq x.u4 x.u8 x.v10 x.u3 x.u7 (fun w0 w1=>(Sum.inl (x.1,x.2.1,x.u2,w0,x.u4,x.u5,x.u6,w1,x.u8,x.u9,x.v10))) (fun p0 p1=>(Sum.inr (.inl (p0,x.2.1,x.u6,p1,x.u8,x.u9,x.v10)))) (fun p0=>(Sum.inr (.inr (x.1,x.u2,x.u4,x.u5,x.u6,p0,x.u8,x.u9,x.v10)))):=by kernel_rfl
theorem q9p {R:Type} (x:tqF) (k:tqh->Option R) (r:R) (h:q9l x k=some r):∃o,Z5Q (LE.step X q9j q8Y q0 q9d 12) x o/\k o=some r:=by
 obtain⟨o,h1,h2⟩:=Z0 h;exact⟨q9k x o,ZiO (st:=fun(x:tqF)=>W8 x.u4 x.u8 x.v10) (prj:=fun x=>(x.u3,x.u7)) (emb:=q9m) (embO:=q9k) (fun x=>(q9n x).trans (by unfold W8 Wq;simp only[ZiG,Ziy,ZiH,Option.map_some,Option.map_none];rfl)) (fun _ _=>rfl) (fun _ _=>rfl) (fun _ _ _=>rfl) (fun _ _ _=>rfl) (fun _=>rfl) (Z29.1 h1),by first|exact h2|(rcases o with o|o<;>exact h2)⟩
def q9q {R:Type}:Z2L S R:=LE.ls X q9j q9l q9d
theorem q9r {R:Type}:Z45 X (q9q (R:=R)):=ZiT xok q8Z (e:=q9j) q1 q9e q9p q9e
def q9s:Key:=⟨[55],55,none,[0,0,1,0,1,1],0,11⟩
def q9t:StT S:=⟨v17,(N (N (N L on L) on L) om L),11⟩
def q9v:Way S:=⟨(.exit 0),⟨(N (N v1Q none L) none L),(N (N (N L on L) on L) om L),12⟩,[(.st 2),(.st 2),(.st 8)]⟩
def q9w:LE S:=⟨q9s,q9t,[.int,.int,.int,(.lst (.st 7)),(.st 2),(.st 2),(.st 8)],[q94,q9v]⟩
def q9x (x:Xaa):((Bool×Int×CtSand×Point×Zf)⊕Point)->tqJ:=Sum.elim (fun y0=>(.inl (y0.1,y0.2.1,y0.u2,y0.u3,x.u5,x.v6,y0.v4))) (fun y1=>(.inr (y1,x.u5,x.v6)))
def q9y {R:Type} (x:Xaa) (k:tqJ->Option R):Option R:=(X3o x.1 x.u2 x.u3 x.u5 (x.2.1,x.u4)).bind (Sum.elim (fun y0=>k (.inl (y0.1,y0.2.1,y0.u2,y0.u3,x.u5,x.v6,y0.v4))) (fun y1=>k (.inr (y1,x.u5,x.v6))))
def q9z (x:Xaa) (v:(Int×Point)):Xaa:=(x.1,v.1,x.u2,x.u3,v.2,x.u5,x.v6)
theorem q9A (x:Xaa):LE.step X q9w q8Y q0 q9q 12 x=Wp x.1 x.u2 x.u3 x.u5 x.2.1 x.u4 (fun w0 w1=>(Sum.inl (x.1,w0,x.u2,x.u3,w1,x.u5,x.v6))) (fun p0 p1 p2 p3 p4=>(Sum.inr (.inl (p0,p1,p2,p3,x.u5,x.v6,p4)))) (fun p0=>(Sum.inr (.inr (p0,x.u5,x.v6)))):=by kernel_rfl
theorem q9C {R:Type} (x:Xaa) (k:tqJ->Option R) (r:R) (h:q9y x k=some r):∃o,Z5Q (LE.step X q9w q8Y q0 q9q 12) x o/\k o=some r:=by
 obtain⟨o,h1,h2⟩:=Z0 h;exact⟨q9x x o,ZiO (st:=fun(x:Xaa)=>XC x.1 x.u2 x.u3 x.u5) (prj:=fun x=>(x.2.1,x.u4)) (emb:=q9z) (embO:=q9x) (fun x=>(q9A x).trans (by unfold XC Wp;simp only[ZiG,Ziy,ZiH,Option.map_some,Option.map_none];rfl)) (fun _ _=>rfl) (fun _ _=>rfl) (fun _ _ _=>rfl) (fun _ _ _=>rfl) (fun _=>rfl) (Z29.1 h1),by first|exact h2|(rcases o with o|o<;>exact h2)⟩
def q9D {R:Type}:Z2L S R:=LE.ls X q9w q9y q9q
theorem q9E {R:Type}:Z45 X (q9D (R:=R)):=ZiT xok q8Z (e:=q9w) q1 q9r q9C q9r
theorem q9F (x0:Zo) (x1:Point) (x2:Int):ZiV X q8Y [(.st 8),(.st 2),(.int .i64)] [(.int .i64),(.st 2),.bool] q0 q9D 12 55 (x0,x1,x2,())=X2c x0 x1 x2:=by kernel_rfl
def q9G:F7 S:=⟨[(.st 8),(.st 2),(.int .i64)],[(.int .i64),(.st 2),.bool],fun xs=>X5e xs.1 xs.2.1 xs.u2⟩
theorem X7N:Z9R X 55 q9G:=ZiS (ZiR xok q8Z q1 q9E 12 55) fun xs _ h=>((q9F xs.1 xs.2.1 xs.u2).trans (X6w xs.1 xs.2.1 xs.u2).symm).trans h
def q9H:List (Nat×F7 S):=[(92,q7k),(54,q4K)]
theorem q9I:Za2 X (q9H):=⟨q7l,q4L,trivial⟩
def q9L:Key:=⟨[176,1,91],176,none,[0,0,1],0,45⟩
def q9M:StT S:=⟨(N (N (N L vT L) (some (.ptr 36 0)) L) (some (.yld 40)) L),oW,45⟩
def q9N:Way S:=⟨.ret,⟨L,(N (N (N (N L none (N L none (N L oi L))) oz L) oz L) om (N (N (N (N L ox L) none (N (N L (some (.loop 91 (N (N (N (N L (some (.ptr 3 0)) L) (some (.ptr 0 0)) (N L none (N (N L vk L) vU L))) vT (N (N (N L vU L) none L) none L)) vw (N (N (N L (some (.ptr 4 0)) L) (some (.ptr 1 0)) L) vT (N L (some (.ptr 2 0)) (N (N L vU L) none L)))) (44::(45::[])) .skip .skip 1 .ret (1::(91::[])) (0::(1::(0::(1::(1::(1::(1::[]))))))))) L) ox L)) oy (N (N (N L oq L) none L) none L)) oh L)),67⟩,[(.st 3),.int,.int,(.st 8),(.lst (.int .i64)),.bool,.int,.bool,(.st 8),.int,.bool,(.lst (.int .i64)),.int,(.lst (.st 3)),(.st 4)]⟩
def q9O:Way S:=⟨(.exit 0),⟨L,oW,47⟩,[.int,.int,(.st 8),(.lst (.int .i64)),.bool,.int,.bool,(.st 8),.int,.bool,(.lst (.int .i64)),.int,(.lst (.st 3)),(.st 4)]⟩
def q9P:LE S:=⟨q9L,q9M,[.int,.int,.int,(.st 8),(.lst (.int .i64)),.bool,.int,.bool,(.st 8),.int,.bool,(.lst (.int .i64)),.int,(.lst (.st 3)),(.st 4)],[q9N,q9O]⟩
def q9Q (x:tqn):((Zr×Int×Int)⊕Unit)->tq4:=Sum.elim (fun y0=>(.inl (y0.1,y0.2.1,x.u2,x.u3,x.u4,x.u5,x.u6,x.u7,x.u8,x.u9,x.u10,x.u11,y0.v2,x.u13,x.v14))) (fun y1=>(.inr (x.2.1,x.u2,x.u3,x.u4,x.u5,x.u6,x.u7,x.u8,x.u9,x.u10,x.u11,x.u12,x.u13,x.v14)))
def q9R {R:Type} (x:tqn) (k:tq4->Option R):Option R:=(X23 x.u2 x.u13 x.1).bind (Sum.elim (fun y0=>k (.inl (y0.1,y0.2.1,x.u2,x.u3,x.u4,x.u5,x.u6,x.u7,x.u8,x.u9,x.u10,x.u11,y0.v2,x.u13,x.v14))) (fun y1=>k (.inr (x.2.1,x.u2,x.u3,x.u4,x.u5,x.u6,x.u7,x.u8,x.u9,x.u10,x.u11,x.u12,x.u13,x.v14))))
def q9S (x:tqn) (v:Int):tqn:=(v,x.2.1,x.u2,x.u3,x.u4,x.u5,x.u6,x.u7,x.u8,x.u9,x.u10,x.u11,x.u12,x.u13,x.v14)
theorem q9T (x:tqn):LE.step X q9P q9H q0 q4 12 x=Ws x.u2 x.u13 x.1 (fun w0=>(Sum.inl (w0,x.2.1,x.u2,x.u3,x.u4,x.u5,x.u6,x.u7,x.u8,x.u9,x.u10,x.u11,x.u12,x.u13,x.v14))) (fun p0 p1 p2=>(Sum.inr (.inl (p0,p1,x.u2,x.u3,x.u4,x.u5,x.u6,x.u7,x.u8,x.u9,x.u10,x.u11,p2,x.u13,x.v14)))) (Sum.inr (.inr (x.2.1,x.u2,x.u3,x.u4,x.u5,x.u6,x.u7,x.u8,x.u9,x.u10,x.u11,x.u12,x.u13,x.v14))):=by kernel_rfl
theorem q9V {R:Type} (x:tqn) (k:tq4->Option R) (r:R) (h:q9R x k=some r):∃o,Z5Q (LE.step X q9P q9H q0 q4 12) x o/\k o=some r:=by
 obtain⟨o,h1,h2⟩:=Z0 h;exact⟨q9Q x o,ZiO (st:=fun(x:tqn)=>Wa x.u2 x.u13) (prj:=fun x=>x.1) (emb:=q9S) (embO:=q9Q) (fun x=>(q9T x).trans (by unfold Wa Ws;simp only[ZiG,Ziy,ZiH,Option.map_some,Option.map_none];rfl)) (fun _ _=>rfl) (fun _ _=>rfl) (fun _ _ _=>rfl) (fun _ _ _=>rfl) (fun _=>rfl) (Z29.1 h1),by first|exact h2|(rcases o with o|o<;>exact h2)⟩
def q9W {R:Type}:Z2L S R:=LE.ls X q9P q9R q4
theorem q9X {R:Type}:Z45 X (q9W (R:=R)):=ZiT xok q9I (e:=q9P) q1 q5 q9V q5
theorem q9Y (x0:Zo) (x1 x2:Int):ZiV X q9H [(.st 8),(.int .i64),(.int .i64)] [(.st 4),(.int .i64),(.int .i64)] q0 q9W 12 91 (x0,x1,x2,())=X2d x0 x1 x2:=by kernel_rfl
def q9Z:F7 S:=⟨[(.st 8),(.int .i64),(.int .i64)],[(.st 4),(.int .i64),(.int .i64)],fun xs=>X40 xs.1 xs.2.1 xs.u2⟩
theorem qa0:Z9R X 91 q9Z:=ZiS (ZiR xok q9I q1 q9X 12 91) fun xs _ h=>((q9Y xs.1 xs.2.1 xs.u2).trans (X6y xs.1 xs.2.1 xs.u2).symm).trans h
def qa1:List (Nat×F7 S):=[(91,q9Z)]
theorem qa2:Za2 X (qa1):=⟨qa0,trivial⟩
theorem qa5 (x0:Zo) (x1 x2:Int):ZiV X qa1 [(.st 8),(.int .i64),(.int .i64)] [(.int .i64),(.int .i64)] q0 q4 12 29 (x0,x1,x2,())=X26 x0 x1 x2:=by kernel_rfl
def qa6:F7 S:=⟨[(.st 8),(.int .i64),(.int .i64)],[(.int .i64),(.int .i64)],fun xs=>X6f xs.1 xs.2.1 xs.u2⟩
theorem qa7:Z9R X 29 qa6:=ZiS (ZiR xok qa2 q1 q5 12 29) fun xs _ h=>((qa5 xs.1 xs.2.1 xs.u2).trans (X6r xs.1 xs.2.1 xs.u2).symm).trans h
theorem qac (x0:Zo) (x1 x2:Int):ZiV X qa1 [(.st 8),(.int .i64),(.int .i64)] [(.st 4),(.int .i64)] q0 q4 12 82 (x0,x1,x2,())=Wc x0 x1 x2:=by kernel_rfl
def qad:F7 S:=⟨[(.st 8),(.int .i64),(.int .i64)],[(.st 4),(.int .i64)],fun xs=>X42 xs.1 xs.2.1 xs.u2⟩
theorem qae:Z9R X 82 qad:=ZiS (ZiR xok qa2 q1 q5 12 82) fun xs _ h=>((qac xs.1 xs.2.1 xs.u2).trans (X43 xs.1 xs.2.1 xs.u2).symm).trans h
def qaf:List (Nat×F7 S):=[(90,q4R),(134,q6c)]
theorem qag:Za2 X (qaf):=⟨q4S,q6d,trivial⟩
def qaj:Key:=⟨[84],84,none,[0,0,0,1],0,2⟩
def qak:StT S:=⟨(N (N L (some (.ptr 0 0)) L) none (N L vT L)),(N L on L),2⟩
def qal:Way S:=⟨(.exit 0),⟨(N (N L (some (.ptr 0 0)) L) none (N L vT L)),(N L on L),10⟩,[.int,(.st 2)]⟩
def qam:LE S:=⟨qaj,qak,[.int,(.st 2)],[qal]⟩
def qan (x:(Int×Point)):(Int×Point)->(Int×Point):=fun y0=>(y0.1,y0.2)
def qao {R:Type} (x:(Int×Point)) (k:(Int×Point)->Option R):Option R:=(X24 (x.1,x.2)).bind (fun y0=>k (y0.1,y0.2))
def qap (x v:(Int×Point)):(Int×Point):=(v.1,v.2)
theorem qaq (x:(Int×Point)):LE.step X qam qaf q0 q4 12 x=XF x.1 x.2 (fun w0 w1=>(Sum.inl (w0,w1))) (fun p0 p1=>(Sum.inr (p0,p1))):=by kernel_rfl
theorem qas {R:Type} (x:(Int×Point)) (k:(Int×Point)->Option R) (r:R) (h:qao x k=some r):∃o,Z5Q (LE.step X qam qaf q0 q4 12) x o/\k o=some r:=by
 obtain⟨o,h1,h2⟩:=Z0 h;exact⟨qan x o,ZiO (st:=fun(x:(Int×Point))=>Xb) (prj:=fun x=>(x.1,x.2)) (emb:=qap) (embO:=qan) (fun x=>(qaq x).trans (by unfold Xb XF;simp only[ZiG,Ziy,ZiH,Option.map_some,Option.map_none];rfl)) (fun _ _=>rfl) (fun _ _=>rfl) (fun _ _ _=>rfl) (fun _ _ _=>rfl) (fun _=>rfl) (Z29.1 h1),by first|exact h2|(rcases o with o<;>exact h2)⟩
def qat {R:Type}:Z2L S R:=LE.ls X qam qao q4
theorem qau {R:Type}:Z45 X (qat (R:=R)):=ZiT xok qag (e:=qam) q1 q5 qas q5
def qav:Key:=⟨[84],84,none,[0,0,1,0,1,1],2,12⟩
def qaw:StT S:=⟨(N (N L (some (.ptr 0 0)) (N L none (N (N L (some (.agg [(.arr (.st 2) 8 (fun _=>tdf T (.st 2)))])) L) none L))) none (N L vT v1S)),(N L on L),12⟩
def qax:Way S:=⟨(.exit 2),⟨(N L none (N L vT L)),(N L on L),13⟩,[.int,(.st 2)]⟩
def qay:LE S:=⟨qav,qaw,[(.arr (.st 2)),.int,.int,(.st 2)],[qax]⟩
def qaz (x:Xan):Int->(Int×Point):=fun y0=>(y0,x.v3)
def qaA {R:Type} (x:Xan) (k:(Int×Point)->Option R):Option R:=(X3r x.1 x.v3 (x.2.1,x.u2)).bind (fun y0=>k (y0,x.v3))
def qaB (x:Xan) (v:(Int×Int)):Xan:=(x.1,v.1,v.2,x.v3)
theorem qaC (x:Xan):LE.step X qay qaf q0 qat 12 x=Wu x.1 x.v3 x.2.1 x.u2 (fun w0 w1=>(Sum.inl (x.1,w0,w1,x.v3))) (fun p0=>(Sum.inr (p0,x.v3))):=by kernel_rfl
theorem qaE {R:Type} (x:Xan) (k:(Int×Point)->Option R) (r:R) (h:qaA x k=some r):∃o,Z5Q (LE.step X qay qaf q0 qat 12) x o/\k o=some r:=by
 obtain⟨o,h1,h2⟩:=Z0 h;exact⟨qaz x o,ZiO (st:=fun(x:Xan)=>Wd x.1 x.v3) (prj:=fun x=>(x.2.1,x.u2)) (emb:=qaB) (embO:=qaz) (fun x=>(qaC x).trans (by unfold Wd Wu;simp only[ZiG,Ziy,ZiH,Option.map_some,Option.map_none];rfl)) (fun _ _=>rfl) (fun _ _=>rfl) (fun _ _ _=>rfl) (fun _ _ _=>rfl) (fun _=>rfl) (Z29.1 h1),by first|exact h2|(rcases o with o<;>exact h2)⟩
def qaF {R:Type}:Z2L S R:=LE.ls X qay qaA qat
theorem qaG {R:Type}:Z45 X (qaF (R:=R)):=ZiT xok qag (e:=qay) q1 qau qaE qau
theorem qaH (x0:Point):ZiV X qaf [(.st 2)] [(.int .i64)] q0 qaF 12 84 (x0,())=X2f x0:=by kernel_rfl
def qaI:F7 S:=⟨[(.st 2)],[(.int .i64)],fun xs=>X3f xs.1⟩
theorem qaJ:Z9R X 84 qaI:=ZiS (ZiR xok qag q1 qaG 12 84) fun xs _ h=>((qaH xs.1).trans (X6A xs.1).symm).trans h
def qaK:List (Nat×F7 S):=[(82,qad),(83,q5v),(85,q65),(84,qaI)]
theorem qaL:Za2 X (qaK):=⟨qae,q5w,q66,qaJ,trivial⟩
theorem qaO (x0:Zo) (x1 x2:Int) (x3:Point):ZiV X qaK [(.st 8),(.int .i64),(.int .i64),(.st 2)] [(.int .i64),(.int .i64)] q0 q4 12 20 (x0,x1,x2,x3,())=X33 x0 x1 x2 x3:=by kernel_rfl
def qaP:F7 S:=⟨[(.st 8),(.int .i64),(.int .i64),(.st 2)],[(.int .i64),(.int .i64)],fun xs=>X5l xs.1 xs.2.1 xs.u2 xs.u3⟩
theorem qaQ:Z9R X 20 qaP:=ZiS (ZiR xok qaL q1 q5 12 20) fun xs _ h=>((qaO xs.1 xs.2.1 xs.u2 xs.u3).trans (X7o xs.1 xs.2.1 xs.u2 xs.u3).symm).trans h
def qaR:List (Nat×F7 S):=[(82,qad),(87,q5Y),(85,q65),(84,qaI)]
theorem qaS:Za2 X (qaR):=⟨qae,q5Z,q66,qaJ,trivial⟩
def qaV:Key:=⟨[22],22,none,[0,0,1,0,0,1,0,0,1,0,1,1,1,1,1],2,35⟩
def qaW:StT S:=⟨(N (N (N (N L (some (.ptr 1 0)) L) none (N L (some (.ptr 21 0)) L)) none (N L none (N L vT L))) none v1w),o1B,35⟩
def qaX:Way S:=⟨(.exit 2),⟨v14,o1B,40⟩,[.int,(.st 4),(.st 6),(.arr (.int .i64)),(.st 8)]⟩
def qaY:LE S:=⟨qaV,qaW,[.int,.int,(.st 4),(.st 6),(.arr (.int .i64)),(.st 8)],[qaX]⟩
def qaZ (x:Xag):(Nat->Int)->X99:=fun y0=>(x.2.1,x.u2,x.u3,y0,x.v5)
def qb0 {R:Type} (x:Xag) (k:X99->Option R):Option R:=(X21 x.2.1 x.u2 x.u3 x.v5 (x.1,x.u4)).bind (fun y0=>k (x.2.1,x.u2,x.u3,y0,x.v5))
def qb1 (x:Xag) (v:(Int×(Nat->Int))):Xag:=(v.1,x.2.1,x.u2,x.u3,v.2,x.v5)
theorem qb2 (x:Xag):LE.step X qaY qaR q0 q4 12 x=Wn x.2.1 x.u2 x.u3 x.v5 x.1 x.u4 (fun w0 w1=>(Sum.inl (w0,x.2.1,x.u2,x.u3,w1,x.v5))) (fun p0=>(Sum.inr (x.2.1,x.u2,x.u3,p0,x.v5))):=by kernel_rfl
theorem qb4 {R:Type} (x:Xag) (k:X99->Option R) (r:R) (h:qb0 x k=some r):∃o,Z5Q (LE.step X qaY qaR q0 q4 12) x o/\k o=some r:=by
 obtain⟨o,h1,h2⟩:=Z0 h;exact⟨qaZ x o,ZiO (st:=fun(x:Xag)=>W6 x.2.1 x.u2 x.u3 x.v5) (prj:=fun x=>(x.1,x.u4)) (emb:=qb1) (embO:=qaZ) (fun x=>(qb2 x).trans (by unfold W6 Wn;simp only[ZiG,Ziy,ZiH,Option.map_some,Option.map_none];rfl)) (fun _ _=>rfl) (fun _ _=>rfl) (fun _ _ _=>rfl) (fun _ _ _=>rfl) (fun _=>rfl) (Z29.1 h1),by first|exact h2|(rcases o with o<;>exact h2)⟩
def qb5 {R:Type}:Z2L S R:=LE.ls X qaY qb0 q4
theorem qb6 {R:Type}:Z45 X (qb5 (R:=R)):=ZiT xok qaS (e:=qaY) q1 q5 qb4 q5
def qb7:Key:=⟨[22],22,none,[0,0,1,0,1,1,1,1,1],0,26⟩
def qb8:StT S:=⟨v14,o1B,26⟩
def qb9:Way S:=⟨(.exit 0),⟨(N (N (N L none (N L (some (.ptr 21 0)) L)) none L) none (N (N (N L (some .nils) L) none L) none L)),o1B,31⟩,[(.st 4),(.st 6),(.arr (.int .i64)),(.st 8)]⟩
def qba:LE S:=⟨qb7,qb8,[.int,(.st 4),(.st 6),(.arr (.int .i64)),(.st 8)],[qb9]⟩
def qbb (x:X99):(Nat->Int)->(ZC×ZF×(Nat->Int)×Zo):=fun y0=>(x.2.1,x.u2,y0,x.v4)
def qbc {R:Type} (x:X99) (k:(ZC×ZF×(Nat->Int)×Zo)->Option R):Option R:=(X10 x.2.1 x.u2 x.v4 (x.1,x.u3)).bind (fun y0=>k (x.2.1,x.u2,y0,x.v4))
def qbd (x:X99) (v:(Int×(Nat->Int))):X99:=(v.1,x.2.1,x.u2,v.2,x.v4)
theorem qbe (x:X99):LE.step X qba qaR q0 qb5 12 x=Wm x.2.1 x.u2 x.v4 x.1 x.u3 (fun w0 w1=>(Sum.inl (w0,x.2.1,x.u2,w1,x.v4))) (fun p0=>(Sum.inr (x.2.1,x.u2,p0,x.v4))):=by kernel_rfl
theorem qbg {R:Type} (x:X99) (k:(ZC×ZF×(Nat->Int)×Zo)->Option R) (r:R) (h:qbc x k=some r):∃o,Z5Q (LE.step X qba qaR q0 qb5 12) x o/\k o=some r:=by
 obtain⟨o,h1,h2⟩:=Z0 h;exact⟨qbb x o,ZiO (st:=fun(x:X99)=>W5 x.2.1 x.u2 x.v4) (prj:=fun x=>(x.1,x.u3)) (emb:=qbd) (embO:=qbb) (fun x=>(qbe x).trans (by unfold W5 Wm;simp only[ZiG,Ziy,ZiH,Option.map_some,Option.map_none];rfl)) (fun _ _=>rfl) (fun _ _=>rfl) (fun _ _ _=>rfl) (fun _ _ _=>rfl) (fun _=>rfl) (Z29.1 h1),by first|exact h2|(rcases o with o<;>exact h2)⟩
def qbh {R:Type}:Z2L S R:=LE.ls X qba qbc qb5
theorem qbi {R:Type}:Z45 X (qbh (R:=R)):=ZiT xok qaS (e:=qba) q1 qb6 qbg qb6
def qbj:Key:=⟨[22],22,none,[0,0,1,0,1,1,1,1,1,1],4,33⟩
def qbk:StT S:=⟨(N v1c none (N (N (N L (some (.rs 33 0)) L) none v1N) none L)),o1k,34⟩
def qbl:Way S:=⟨(.exit 4),⟨(N L none (N (N (N L (some (.rs 33 0)) L) none L) none L)),o1k,35⟩,[(.st 4),(.st 6),(.lst (.int .i64)),(.arr (.int .i64)),(.st 8)]⟩
def qbm:LE S:=⟨qbj,qbk,[(.arr (.int .i64)),.int,(.st 4),(.st 6),(.lst (.int .i64)),(.arr (.int .i64)),(.st 8)],[qbl]⟩
def qbn (x:tqV):(List Int)->Xbg:=fun y0=>(x.u2,x.u3,y0,x.u5,x.v6)
def qbo {R:Type} (x:tqV) (k:Xbg->Option R):Option R:=(X22 x.1 (x.2.1,x.u4)).bind (fun y0=>k (x.u2,x.u3,y0,x.u5,x.v6))
def qbp (x:tqV) (v:(Int×(List Int))):tqV:=(x.1,v.1,x.u2,x.u3,v.2,x.u5,x.v6)
theorem qbq (x:tqV):LE.step X qbm qaR q0 qbh 12 x=Wo x.1 x.2.1 x.u4 (fun w0 w1=>(Sum.inl (x.1,w0,x.u2,x.u3,w1,x.u5,x.v6))) (fun p0=>(Sum.inr (x.u2,x.u3,p0,x.u5,x.v6))):=by kernel_rfl
theorem qbs {R:Type} (x:tqV) (k:Xbg->Option R) (r:R) (h:qbo x k=some r):∃o,Z5Q (LE.step X qbm qaR q0 qbh 12) x o/\k o=some r:=by
 obtain⟨o,h1,h2⟩:=Z0 h;exact⟨qbn x o,ZiO (st:=fun(x:tqV)=>W7 x.1) (prj:=fun x=>(x.2.1,x.u4)) (emb:=qbp) (embO:=qbn) (fun x=>(qbq x).trans (by unfold W7 Wo;simp only[ZiG,Ziy,ZiH,Option.map_some,Option.map_none];rfl)) (fun _ _=>rfl) (fun _ _=>rfl) (fun _ _ _=>rfl) (fun _ _ _=>rfl) (fun _=>rfl) (Z29.1 h1),by first|exact h2|(rcases o with o<;>exact h2)⟩
def qbt {R:Type}:Z2L S R:=LE.ls X qbm qbo qbh
theorem qbu {R:Type}:Z45 X (qbt (R:=R)):=ZiT xok qaS (e:=qbm) q1 qbi qbs qbi
def qbv:Key:=⟨[22],22,none,[0,0,1,0,0,1,0,0,1,0,1,1,1,1,1],2,32⟩
def qbw:StT S:=⟨(N (N (N (N L (some (.ptr 1 0)) L) none (N L (some (.ptr 18 0)) L)) none (N L none (N L vT L))) none v1w),o1y,32⟩
def qbx:Way S:=⟨(.exit 2),⟨v15,o1y,37⟩,[.int,(.st 4),(.st 6),(.st 8),(.arr (.int .i64))]⟩
def qby:LE S:=⟨qbv,qbw,[.int,.int,(.st 4),(.st 6),(.st 8),(.arr (.int .i64))],[qbx]⟩
def qbz (x:Xah):(Nat->Int)->X9a:=fun y0=>(x.2.1,x.u2,x.u3,x.u4,y0)
def qbA {R:Type} (x:Xah) (k:X9a->Option R):Option R:=(X4Z x.2.1 x.u2 x.u3 x.u4 (x.1,x.v5)).bind (fun y0=>k (x.2.1,x.u2,x.u3,x.u4,y0))
def qbB (x:Xah) (v:(Int×(Nat->Int))):Xah:=(v.1,x.2.1,x.u2,x.u3,x.u4,v.2)
theorem qbC (x:Xah):LE.step X qby qaR q0 qbt 12 x=X31 x.2.1 x.u2 x.u3 x.u4 x.1 x.v5 (fun w0 w1=>(Sum.inl (w0,x.2.1,x.u2,x.u3,x.u4,w1))) (fun p0=>(Sum.inr (x.2.1,x.u2,x.u3,x.u4,p0))):=by kernel_rfl
theorem qbE {R:Type} (x:Xah) (k:X9a->Option R) (r:R) (h:qbA x k=some r):∃o,Z5Q (LE.step X qby qaR q0 qbt 12) x o/\k o=some r:=by
 obtain⟨o,h1,h2⟩:=Z0 h;exact⟨qbz x o,ZiO (st:=fun(x:Xah)=>X3M x.2.1 x.u2 x.u3 x.u4) (prj:=fun x=>(x.1,x.v5)) (emb:=qbB) (embO:=qbz) (fun x=>(qbC x).trans (by unfold X3M X31;simp only[ZiG,Ziy,ZiH,Option.map_some,Option.map_none];rfl)) (fun _ _=>rfl) (fun _ _=>rfl) (fun _ _ _=>rfl) (fun _ _ _=>rfl) (fun _=>rfl) (Z29.1 h1),by first|exact h2|(rcases o with o<;>exact h2)⟩
def qbF {R:Type}:Z2L S R:=LE.ls X qby qbA qbt
theorem qbG {R:Type}:Z45 X (qbF (R:=R)):=ZiT xok qaS (e:=qby) q1 qbu qbE qbu
def qbH:Key:=⟨[22],22,none,[0,0,1,0,1,1,1,1,1],0,23⟩
def qbI:StT S:=⟨v15,o1y,23⟩
def qbJ:Way S:=⟨(.exit 0),⟨(N (N (N L none (N L (some (.ptr 18 0)) L)) none L) none (N (N (N L (some .nils) L) none L) none L)),o1y,28⟩,[(.st 4),(.st 6),(.st 8),(.arr (.int .i64))]⟩
def qbK:LE S:=⟨qbH,qbI,[.int,(.st 4),(.st 6),(.st 8),(.arr (.int .i64))],[qbJ]⟩
def qbL (x:X9a):(Nat->Int)->(ZC×ZF×Zo×(Nat->Int)):=fun y0=>(x.2.1,x.u2,x.u3,y0)
def qbM {R:Type} (x:X9a) (k:(ZC×ZF×Zo×(Nat->Int))->Option R):Option R:=(X4Y x.2.1 x.u2 x.u3 (x.1,x.v4)).bind (fun y0=>k (x.2.1,x.u2,x.u3,y0))
def qbN (x:X9a) (v:(Int×(Nat->Int))):X9a:=(v.1,x.2.1,x.u2,x.u3,v.2)
theorem qbO (x:X9a):LE.step X qbK qaR q0 qbF 12 x=X30 x.2.1 x.u2 x.u3 x.1 x.v4 (fun w0 w1=>(Sum.inl (w0,x.2.1,x.u2,x.u3,w1))) (fun p0=>(Sum.inr (x.2.1,x.u2,x.u3,p0))):=by kernel_rfl
theorem qbQ {R:Type} (x:X9a) (k:(ZC×ZF×Zo×(Nat->Int))->Option R) (r:R) (h:qbM x k=some r):∃o,Z5Q (LE.step X qbK qaR q0 qbF 12) x o/\k o=some r:=by
 obtain⟨o,h1,h2⟩:=Z0 h;exact⟨qbL x o,ZiO (st:=fun(x:X9a)=>X3L x.2.1 x.u2 x.u3) (prj:=fun x=>(x.1,x.v4)) (emb:=qbN) (embO:=qbL) (fun x=>(qbO x).trans (by unfold X3L X30;simp only[ZiG,Ziy,ZiH,Option.map_some,Option.map_none];rfl)) (fun _ _=>rfl) (fun _ _=>rfl) (fun _ _ _=>rfl) (fun _ _ _=>rfl) (fun _=>rfl) (Z29.1 h1),by first|exact h2|(rcases o with o<;>exact h2)⟩
def qbR {R:Type}:Z2L S R:=LE.ls X qbK qbM qbF
theorem qbS {R:Type}:Z45 X (qbR (R:=R)):=ZiT xok qaS (e:=qbK) q1 qbG qbQ qbG
def qbT:Key:=⟨[22],22,none,[0,0,1,0,1,1,1,1,1,1],4,30⟩
def qbU:StT S:=⟨(N v1c none (N (N (N L (some (.rs 30 0)) L) none v1N) none L)),o1l,31⟩
def qbV:Way S:=⟨(.exit 4),⟨(N L none (N (N (N L (some (.rs 30 0)) L) none L) none L)),o1l,32⟩,[(.st 4),(.st 6),(.st 8),(.arr (.int .i64)),(.lst (.int .i64))]⟩
def qbW:LE S:=⟨qbT,qbU,[(.arr (.int .i64)),.int,(.st 4),(.st 6),(.st 8),(.arr (.int .i64)),(.lst (.int .i64))],[qbV]⟩
def qbX (x:tqW):(List Int)->Xbh:=fun y0=>(x.u2,x.u3,x.u4,x.u5,y0)
def qbY {R:Type} (x:tqW) (k:Xbh->Option R):Option R:=(X50 x.1 (x.2.1,x.v6)).bind (fun y0=>k (x.u2,x.u3,x.u4,x.u5,y0))
def qbZ (x:tqW) (v:(Int×(List Int))):tqW:=(x.1,v.1,x.u2,x.u3,x.u4,x.u5,v.2)
theorem qc0 (x:tqW):LE.step X qbW qaR q0 qbR 12 x=X32 x.1 x.2.1 x.v6 (fun w0 w1=>(Sum.inl (x.1,w0,x.u2,x.u3,x.u4,x.u5,w1))) (fun p0=>(Sum.inr (x.u2,x.u3,x.u4,x.u5,p0))):=by kernel_rfl
theorem qc2 {R:Type} (x:tqW) (k:Xbh->Option R) (r:R) (h:qbY x k=some r):∃o,Z5Q (LE.step X qbW qaR q0 qbR 12) x o/\k o=some r:=by
 obtain⟨o,h1,h2⟩:=Z0 h;exact⟨qbX x o,ZiO (st:=fun(x:tqW)=>X3N x.1) (prj:=fun x=>(x.2.1,x.v6)) (emb:=qbZ) (embO:=qbX) (fun x=>(qc0 x).trans (by unfold X3N X32;simp only[ZiG,Ziy,ZiH,Option.map_some,Option.map_none];rfl)) (fun _ _=>rfl) (fun _ _=>rfl) (fun _ _ _=>rfl) (fun _ _ _=>rfl) (fun _=>rfl) (Z29.1 h1),by first|exact h2|(rcases o with o<;>exact h2)⟩
def qc3 {R:Type}:Z2L S R:=LE.ls X qbW qbY qbR
theorem qc4 {R:Type}:Z45 X (qc3 (R:=R)):=ZiT xok qaS (e:=qbW) q1 qbS qc2 qbS
theorem qc5 (x0:Zo) (x1 x2:Int) (x3:ZF):ZiV X qaR [(.st 8),(.int .i64),(.int .i64),(.st 6)] [(.sl (.int .i64)),(.int .i64)] q0 qc3 12 22 (x0,x1,x2,x3,())=X2b x0 x1 x2 x3:=by kernel_rfl
def qc6:F7 S:=⟨[(.st 8),(.int .i64),(.int .i64),(.st 6)],[(.sl (.int .i64)),(.int .i64)],fun xs=>X5c xs.1 xs.2.1 xs.u2 xs.u3⟩
theorem qc7:Z9R X 22 qc6:=ZiS (ZiR xok qaS q1 qc4 12 22) fun xs _ h=>((qc5 xs.1 xs.2.1 xs.u2 xs.u3).trans (X6u xs.1 xs.2.1 xs.u2 xs.u3).symm).trans h
def qcc:Key:=⟨[158,2,1,108,2,1,116],158,none,[0,0,1,0,1],0,17⟩
def qcd:StT S:=⟨(N (N (N (N L vT L) none L) (some (.fn (.func 161) [] [(.ptr 0 0),(.ptr 1 0)])) L) vO v1T),(N (N L oz L) oz L),17⟩
def qcg:LE S:=⟨qcc,qcd,[.int,(.lst (.int .i64)),.int,.int,.int],[q4y,q4z]⟩
def qci {R:Type} (x:X8a) (k:XaM->Option R):Option R:=(X5u x.1 x.2.1 x.u3 x.v4 x.u2).bind (Sum.elim (fun y0=>k (.inl (y0,x.u3,x.v4))) (fun y1=>k (.inr (x.u3,x.v4))))
theorem qck (x:X8a):LE.step X qcg q2 q0 q4 12 x=X16 x.1 x.2.1 x.u3 x.v4 x.u2 (fun w0=>(Sum.inl (x.1,x.2.1,w0,x.u3,x.v4))) (fun p0=>(Sum.inr (.inl (p0,x.u3,x.v4)))) (Sum.inr (.inr (x.u3,x.v4))):=by kernel_rfl
theorem qcm {R:Type} (x:X8a) (k:XaM->Option R) (r:R) (h:qci x k=some r):∃o,Z5Q (LE.step X qcg q2 q0 q4 12) x o/\k o=some r:=by
 obtain⟨o,h1,h2⟩:=Z0 h;exact⟨q4B x o,ZiO (st:=fun(x:X8a)=>WK x.1 x.2.1 x.u3 x.v4) (prj:=fun x=>x.u2) (emb:=q4D) (embO:=q4B) (fun x=>(qck x).trans (by unfold WK X16;simp only[ZiG,Ziy,ZiH,Option.map_some,Option.map_none];rfl)) (fun _ _=>rfl) (fun _ _=>rfl) (fun _ _ _=>rfl) (fun _ _ _=>rfl) (fun _=>rfl) (Z29.1 h1),by first|exact h2|(rcases o with o|o<;>exact h2)⟩
def qcn {R:Type}:Z2L S R:=LE.ls X qcg qci q4
theorem qco {R:Type}:Z45 X (qcn (R:=R)):=ZiT xok q3 (e:=qcg) q1 q5 qcm q5
theorem qcp (x0 x1:Int) (x2:List Int):ZiV X q2 [(.int .i64),(.int .i64),(.sl (.int .i64))] [.bool] q0 qcn 12 116 (x0,x1,x2,())=X2K x0 x1 x2:=by kernel_rfl
def qcq:F7 S:=⟨[(.int .i64),(.int .i64),(.sl (.int .i64))],[.bool],fun xs=>X3 xs.1 xs.2.1 xs.u2⟩
theorem qcr:Z9R X 116 qcq:=ZiS (ZiR xok q3 q1 qco 12 116) fun xs _ h=>((qcp xs.1 xs.2.1 xs.u2).trans (X6Y xs.1 xs.2.1 xs.u2).symm).trans h
def qcs:List (Nat×F7 S):=[(34,q5b),(116,qcq)]
theorem qct:Za2 X (qcs):=⟨q5c,qcr,trivial⟩
def qcw:Key:=⟨[213,2,1,200,2,6,186],213,none,[0,0,1,0,1],0,25⟩
def qcx:StT S:=⟨v1i,(N L o9 L),25⟩
def qcy:Way S:=⟨.ret,⟨v1S,(N L o9 o1I),44⟩,[.int,(.st 18),(.st 18)]⟩
def qcz:Way S:=⟨(.exit 0),⟨L,(N L o9 L),26⟩,[(.st 18)]⟩
def qcA:LE S:=⟨qcw,qcx,[.int,(.lst (.st 18)),.int,(.st 18)],[qcy,qcz]⟩
def qcB (x:X89):((Int×Z9)⊕Unit)->XaL:=Sum.elim (fun y0=>(.inl (y0.1,x.v3,y0.2))) (fun y1=>(.inr x.v3))
def qcC {R:Type} (x:X89) (k:XaL->Option R):Option R:=(X2P x.1 x.2.1 x.v3 x.u2).bind (Sum.elim (fun y0=>k (.inl (y0.1,x.v3,y0.2))) (fun y1=>k (.inr x.v3)))
def qcD (x:X89) (v:Int):X89:=(x.1,x.2.1,v,x.v3)
theorem qcE (x:X89):LE.step X qcA qcs q0 q4 12 x=XT x.1 x.2.1 x.v3 x.u2 (fun w0=>(Sum.inl (x.1,x.2.1,w0,x.v3))) (fun p0 p1=>(Sum.inr (.inl (p0,x.v3,p1)))) (Sum.inr (.inr x.v3)):=by kernel_rfl
theorem qcG {R:Type} (x:X89) (k:XaL->Option R) (r:R) (h:qcC x k=some r):∃o,Z5Q (LE.step X qcA qcs q0 q4 12) x o/\k o=some r:=by
 obtain⟨o,h1,h2⟩:=Z0 h;exact⟨qcB x o,ZiO (st:=fun(x:X89)=>XN x.1 x.2.1 x.v3) (prj:=fun x=>x.u2) (emb:=qcD) (embO:=qcB) (fun x=>(qcE x).trans (by unfold XN XT;simp only[ZiG,Ziy,ZiH,Option.map_some,Option.map_none];rfl)) (fun _ _=>rfl) (fun _ _=>rfl) (fun _ _ _=>rfl) (fun _ _ _=>rfl) (fun _=>rfl) (Z29.1 h1),by first|exact h2|(rcases o with o|o<;>exact h2)⟩
def qcH {R:Type}:Z2L S R:=LE.ls X qcA qcC q4
theorem qcI {R:Type}:Z45 X (qcH (R:=R)):=ZiT xok qct (e:=qcA) q1 q5 qcG q5
def qcJ:Key:=⟨[213,2,1,200,2,6,186],213,none,[0,0,1,0,1],0,24⟩
def qcK:StT S:=⟨v1i,(N L o9 L),24⟩
def qcL:Way S:=⟨.ret,⟨v1S,(N o1I o9 L),43⟩,[.int,(.st 18),(.st 18)]⟩
def qcM:Way S:=⟨(.exit 0),⟨L,(N L o9 L),25⟩,[(.st 18)]⟩
def qcN:LE S:=⟨qcJ,qcK,[.int,(.lst (.st 18)),.int,(.st 18)],[qcL,qcM]⟩
def qcO (x:X89):((Int×Z9)⊕Unit)->XaL:=Sum.elim (fun y0=>(.inl (y0.1,y0.2,x.v3))) (fun y1=>(.inr x.v3))
def qcP {R:Type} (x:X89) (k:XaL->Option R):Option R:=(X2Q x.1 x.2.1 x.v3 x.u2).bind (Sum.elim (fun y0=>k (.inl (y0.1,y0.2,x.v3))) (fun y1=>k (.inr x.v3)))
theorem qcR (x:X89):LE.step X qcN qcs q0 qcH 12 x=XU x.1 x.2.1 x.v3 x.u2 (fun w0=>(Sum.inl (x.1,x.2.1,w0,x.v3))) (fun p0 p1=>(Sum.inr (.inl (p0,p1,x.v3)))) (Sum.inr (.inr x.v3)):=by kernel_rfl
theorem qcT {R:Type} (x:X89) (k:XaL->Option R) (r:R) (h:qcP x k=some r):∃o,Z5Q (LE.step X qcN qcs q0 qcH 12) x o/\k o=some r:=by
 obtain⟨o,h1,h2⟩:=Z0 h;exact⟨qcO x o,ZiO (st:=fun(x:X89)=>XO x.1 x.2.1 x.v3) (prj:=fun x=>x.u2) (emb:=qcD) (embO:=qcO) (fun x=>(qcR x).trans (by unfold XO XU;simp only[ZiG,Ziy,ZiH,Option.map_some,Option.map_none];rfl)) (fun _ _=>rfl) (fun _ _=>rfl) (fun _ _ _=>rfl) (fun _ _ _=>rfl) (fun _=>rfl) (Z29.1 h1),by first|exact h2|(rcases o with o|o<;>exact h2)⟩
def qcU {R:Type}:Z2L S R:=LE.ls X qcN qcP qcH
theorem qcV {R:Type}:Z45 X (qcU (R:=R)):=ZiT xok qct (e:=qcN) q1 qcI qcT qcI
theorem qcW (x0:Z9) (x1:List Z9):ZiV X qcs [(.st 18),(.sl (.st 18))] [(.int .i64)] q0 qcU 12 186 (x0,x1,())=X1t x0 x1:=by kernel_rfl
def qcX:F7 S:=⟨[(.st 18),(.sl (.st 18))],[(.int .i64)],fun xs=>X4i xs.1 xs.2.1⟩
theorem qcY:Z9R X 186 qcX:=ZiS (ZiR xok qct q1 qcV 12 186) fun xs _ h=>((qcW xs.1 xs.2.1).trans (X5N xs.1 xs.2.1).symm).trans h
def qcZ:List (Nat×F7 S):=[(116,qcq)]
theorem qd0:Za2 X (qcZ):=⟨qcr,trivial⟩
theorem qd3 (x0:Zz):ZiV X qcZ [(.st 19)] [(.int .i64)] q0 q4 12 189 (x0,())=X45 x0:=by kernel_rfl
def qd4:F7 S:=⟨[(.st 19)],[(.int .i64)],fun xs=>X7U xs.1⟩
theorem qd5:Z9R X 189 qd4:=ZiS (ZiR xok qd0 q1 q5 12 189) fun xs _ h=>((qd3 xs.1).trans (X8i xs.1).symm).trans h
def qd6:List (Nat×F7 S):=[(189,qd4)]
theorem qd7:Za2 X (qd6):=⟨qd5,trivial⟩
theorem qda (x0:Int) (x1:Zz):ZiV X qd6 [(.int .i64),(.st 19)] [(.int .i64)] q0 q4 12 188 (x0,x1,())=X2I x0 x1:=by kernel_rfl
def qdb:F7 S:=⟨[(.int .i64),(.st 19)],[(.int .i64)],fun xs=>X4I xs.1 xs.2.1⟩
theorem qdc:Z9R X 188 qdb:=ZiS (ZiR xok qd7 q1 q5 12 188) fun xs _ h=>((qda xs.1 xs.2.1).trans (X6S xs.1 xs.2.1).symm).trans h
def qdd:List (Nat×F7 S):=[(92,q7k),(116,qcq),(186,qcX),(188,qdb)]
theorem qde:Za2 X (qdd):=⟨q7l,qcr,qcY,qdc,trivial⟩
def qdh:Key:=⟨[184,3,8,168],184,none,[0,0,1,0,1],0,51⟩
def qdi:StT S:=⟨(N (N (N L none (N L vT L)) (some (.fn (.func 185) [] [(.ptr 0 0)])) (N (N L vP L) none L)) none v1S),(N L of L),51⟩
def qdj:Way S:=⟨.ret,⟨v1J,(N (N (N (N (N (N (N L o9 L) none L) none L) none (N L none (N L o9 L))) none L) none L) of L),78⟩,[.int,.int,(.st 18),(.st 18),(.st 20)]⟩
def qdk:Way S:=⟨(.exit 0),⟨L,(N L of L),52⟩,[(.st 20)]⟩
def qdl:LE S:=⟨qdh,qdi,[.int,(.lst (.st 18)),.int,(.st 20)],[qdj,qdk]⟩
def qdm (x:Xak):((Int×Int×Z9×Z9)⊕Unit)->Xbd:=Sum.elim (fun y0=>(.inl (y0.1,y0.2.1,y0.u2,y0.v3,x.v3))) (fun y1=>(.inr x.v3))
def qdn {R:Type} (x:Xak) (k:Xbd->Option R):Option R:=(X4y x.2.1 x.u2 x.v3 x.1).bind (Sum.elim (fun y0=>k (.inl (y0.1,y0.2.1,y0.u2,y0.v3,x.v3))) (fun y1=>k (.inr x.v3)))
def qdo (x:Xak) (v:Int):Xak:=(v,x.2.1,x.u2,x.v3)
theorem qdp (x:Xak):LE.step X qdl qdd q0 q4 12 x=X1R x.2.1 x.u2 x.v3 x.1 (fun w0=>(Sum.inl (w0,x.2.1,x.u2,x.v3))) (fun p0 p1 p2 p3=>(Sum.inr (.inl (p0,p1,p2,p3,x.v3)))) (Sum.inr (.inr x.v3)):=by kernel_rfl
theorem qdr {R:Type} (x:Xak) (k:Xbd->Option R) (r:R) (h:qdn x k=some r):∃o,Z5Q (LE.step X qdl qdd q0 q4 12) x o/\k o=some r:=by
 obtain⟨o,h1,h2⟩:=Z0 h;exact⟨qdm x o,ZiO (st:=fun(x:Xak)=>X1M x.2.1 x.u2 x.v3) (prj:=fun x=>x.1) (emb:=qdo) (embO:=qdm) (fun x=>(qdp x).trans (by unfold X1M X1R;simp only[ZiG,Ziy,ZiH,Option.map_some,Option.map_none];rfl)) (fun _ _=>rfl) (fun _ _=>rfl) (fun _ _ _=>rfl) (fun _ _ _=>rfl) (fun _=>rfl) (Z29.1 h1),by first|exact h2|(rcases o with o|o<;>exact h2)⟩
def qds {R:Type}:Z2L S R:=LE.ls X qdl qdn q4
theorem qdt {R:Type}:Z45 X (qds (R:=R)):=ZiT xok qde (e:=qdl) q1 q5 qdr q5
def qdu:Key:=⟨[187,2,13,168],187,none,[0,0,1,0,1],0,97⟩
def qdv:StT S:=⟨v1a,L,97⟩
def qdw:Way S:=⟨.ret,⟨v1J,(N (N L none (N L none (N (N (N L none (N L od L)) none L) none L))) none L),115⟩,[.int,.int,(.st 19)]⟩
def qdx:Way S:=⟨(.exit 0),⟨L,L,98⟩,[]⟩
def qdy:LE S:=⟨qdu,qdv,[.int,(.lst (.st 19)),.int],[qdw,qdx]⟩
def qdz (x:X88):X9L->X9L:=Sum.elim (fun y0=>(.inl (y0.1,y0.2.1,y0.v2))) (fun y1=>(.inr ()))
def qdA {R:Type} (x:X88) (k:X9L->Option R):Option R:=(X4z x.2.1 x.v2 x.1).bind (Sum.elim (fun y0=>k (.inl (y0.1,y0.2.1,y0.v2))) (fun y1=>k (.inr ())))
def qdB (x:X88) (v:Int):X88:=(v,x.2.1,x.v2)
theorem qdC (x:X88):LE.step X qdy qdd q0 qds 12 x=X1S x.2.1 x.v2 x.1 (fun w0=>(Sum.inl (w0,x.2.1,x.v2))) (fun p0 p1 p2=>(Sum.inr (.inl (p0,p1,p2)))) (Sum.inr (.inr ())):=by kernel_rfl
theorem qdE {R:Type} (x:X88) (k:X9L->Option R) (r:R) (h:qdA x k=some r):∃o,Z5Q (LE.step X qdy qdd q0 qds 12) x o/\k o=some r:=by
 obtain⟨o,h1,h2⟩:=Z0 h;exact⟨qdz x o,ZiO (st:=fun(x:X88)=>X1N x.2.1 x.v2) (prj:=fun x=>x.1) (emb:=qdB) (embO:=qdz) (fun x=>(qdC x).trans (by unfold X1N X1S;simp only[ZiG,Ziy,ZiH,Option.map_some,Option.map_none];rfl)) (fun _ _=>rfl) (fun _ _=>rfl) (fun _ _ _=>rfl) (fun _ _ _=>rfl) (fun _=>rfl) (Z29.1 h1),by first|exact h2|(rcases o with o|o<;>exact h2)⟩
def qdF {R:Type}:Z2L S R:=LE.ls X qdy qdA qds
theorem qdG {R:Type}:Z45 X (qdF (R:=R)):=ZiT xok qde (e:=qdy) q1 qdt qdE qdt
def qdH:Key:=⟨[187,2,13,168],187,none,[0,0,1,0,1],0,73⟩
def qdI:StT S:=⟨v1a,L,73⟩
def qdJ:Way S:=⟨.ret,⟨v1J,(N (N L none (N L none (N L none (N (N (N L od L) none L) none L)))) none L),91⟩,[.int,.int,(.st 19)]⟩
def qdK:Way S:=⟨(.exit 0),⟨L,L,74⟩,[]⟩
def qdL:LE S:=⟨qdH,qdI,[.int,(.lst (.st 19)),.int],[qdJ,qdK]⟩
def qdN {R:Type} (x:X88) (k:X9L->Option R):Option R:=(X3h x.2.1 x.v2 x.1).bind (Sum.elim (fun y0=>k (.inl (y0.1,y0.2.1,y0.v2))) (fun y1=>k (.inr ())))
theorem qdP (x:X88):LE.step X qdL qdd q0 qdF 12 x=X44 x.2.1 x.v2 x.1 (fun w0=>(Sum.inl (w0,x.2.1,x.v2))) (fun p0 p1 p2=>(Sum.inr (.inl (p0,p1,p2)))) (Sum.inr (.inr ())):=by kernel_rfl
theorem qdR {R:Type} (x:X88) (k:X9L->Option R) (r:R) (h:qdN x k=some r):∃o,Z5Q (LE.step X qdL qdd q0 qdF 12) x o/\k o=some r:=by
 obtain⟨o,h1,h2⟩:=Z0 h;exact⟨qdz x o,ZiO (st:=fun(x:X88)=>X4T x.2.1 x.v2) (prj:=fun x=>x.1) (emb:=qdB) (embO:=qdz) (fun x=>(qdP x).trans (by unfold X4T X44;simp only[ZiG,Ziy,ZiH,Option.map_some,Option.map_none];rfl)) (fun _ _=>rfl) (fun _ _=>rfl) (fun _ _ _=>rfl) (fun _ _ _=>rfl) (fun _=>rfl) (Z29.1 h1),by first|exact h2|(rcases o with o|o<;>exact h2)⟩
def qdS {R:Type}:Z2L S R:=LE.ls X qdL qdN qdF
theorem qdT {R:Type}:Z45 X (qdS (R:=R)):=ZiT xok qde (e:=qdL) q1 qdG qdR qdG
theorem qdU (x0:ZS):ZiV X qdd [(.st 20)] [(.int .i64),(.int .i64),(.int .i64)] q0 qdS 12 168 (x0,())=X3x x0:=by kernel_rfl
def qdV:F7 S:=⟨[(.st 20)],[(.int .i64),(.int .i64),(.int .i64)],fun xs=>X7j xs.1⟩
theorem qdW:Z9R X 168 qdV:=ZiS (ZiR xok qde q1 qdT 12 168) fun xs _ h=>((qdU xs.1).trans (X7Q xs.1).symm).trans h
def qdX:StT S:=⟨v1R,(N (N L o4 L) os L),2⟩
def qdY:Way S:=⟨.ret,⟨(N L vU L),(N (N L o4 L) os L),2⟩,[.bool,(.st 20),(.lst (.st 23)),.en,(.mp (.st 24) (.int .i64))]⟩
def qdZ:PE S:=⟨122,2,qdX,[.int,(.st 20),(.lst (.st 23)),.en,(.mp (.st 24) (.int .i64))],[qdY]⟩
def qe0:List (Nat×F7 S):=[(29,qa6)]
theorem qe1:Za2 X qe0:=⟨qa7,trivial⟩
theorem qe4 (x:tqZ):PE.step X qdZ qe0 q0 q4 12 x=XJ x.1 x.2.1 x.u2 x.u3 x.v4:=by kernel_rfl
theorem qe5:ZbS X qdZ XZ:=ZiU (Zil xok qe1 q1 q5 12) fun x _ h=>((qe4 x).trans (X4a x).symm).trans h
def qe6 {R:Type}:Prs S R:=PE.ps X qdZ (fun x q=>(XZ x).bind q) q0
theorem qe7 {R:Type}:Z8r X (qe6 (R:=R)):=ZiL (e:=qdZ) qe5 q1
def qe8:StT S:=⟨(N (N L vt L) (some (.ptr 1 0)) L),(N (N L o4 L) os L),2⟩
def qe9:Way S:=⟨.ret,⟨(N L vT L),(N (N L o4 L) os L),2⟩,[.int,(.st 20),(.lst (.st 23)),.en,(.mp (.st 24) (.int .i64))]⟩
def qea:PE S:=⟨171,2,qe8,[(.st 23),(.st 20),(.lst (.st 23)),.en,(.mp (.st 24) (.int .i64))],[qe9]⟩
def qeb:List (Nat×F7 S):=[(116,qcq),(29,qa6)]
theorem qec:Za2 X qeb:=⟨qcr,qa7,trivial⟩
theorem qef (x:(Zt×ZS×(List Zt)×(Nat->Nat)×X1B)):PE.step X qea qeb qe6 q4 12 x=XS x.1 x.2.1 x.u2 x.u3 x.v4:=by kernel_rfl
theorem qeg:ZbS X qea X1q:=ZiU (Zil xok qec qe7 q5 12) fun x _ h=>((qef x).trans (X4s x).symm).trans h
def qeh {R:Type}:Prs S R:=PE.ps X qea (fun x q=>(X1q x).bind q) qe6
theorem qei {R:Type}:Z8r X (qeh (R:=R)):=ZiL (e:=qea) qeg qe7
def qej:StT S:=⟨(N (N L vQ L) vu L),L,0⟩
def qek:Way S:=⟨.ret,⟨(N L (some (.tup [.nilp,(.int .i64 0),(.int .i64 0)])) L),L,0⟩,[.int,.int]⟩
def qel:Way S:=⟨.ret,⟨(N L (some (.tup [(.ptr 1 0),(.int .i64 0),(.int .i64 0)])) L),(N (N L o4 L) os L),2⟩,[.int,.int,(.st 20),(.lst (.st 23)),.en,(.mp (.st 24) (.int .i64))]⟩
def qem:PE S:=⟨128,2,qej,[(.lst (.st 23)),(.st 20)],[qek,qel]⟩
def qen:List (Nat×F7 S):=[(168,qdV),(116,qcq),(29,qa6)]
theorem qeo:Za2 X qen:=⟨qdW,qcr,qa7,trivial⟩
def qer:Key:=⟨[128],128,none,[0,0,1,0,1,1,1,1],0,26⟩
def qes:StT S:=⟨(N (N (N L none (N L none (N L vP L))) vQ (N L none (N L none (N L vT L)))) none (N (N L (some (.ptr 1 0)) (N L none (N L vT L))) none L)),o1s,26⟩
def qet:Way S:=⟨(.exit 0),⟨(N (N L vQ L) none (N (N L (some (.ptr 1 0)) L) none L)),o1s,27⟩,[(.lst (.st 23)),(.st 20),(.st 20),(.lst (.st 23)),.en,(.mp (.st 24) (.int .i64))]⟩
def qeu:LE S:=⟨qer,qes,[(.lst (.st 18)),(.lst (.st 23)),.int,.int,(.st 20),(.st 20),(.lst (.st 23)),.en,(.mp (.st 24) (.int .i64))],[qet]⟩
def qev (x:tqq):(Nat->Nat)->tqL:=fun y0=>(x.2.1,x.u4,x.u5,x.u6,y0,x.v8)
def qew {R:Type} (x:tqq) (k:tqL->Option R):Option R:=(X3O x.1 x.u3 (x.u2,x.u7)).bind (fun y0=>k (x.2.1,x.u4,x.u5,x.u6,y0,x.v8))
def qex (x:tqq) (v:(Int×(Nat->Nat))):tqq:=(x.1,x.2.1,v.1,x.u3,x.u4,x.u5,x.u6,v.2,x.v8)
theorem qey (x:tqq):LE.step X qeu qen q0 q4 12 x=X14 x.1 x.u3 x.u2 x.u7 (fun w0 w1=>(Sum.inl (x.1,x.2.1,w0,x.u3,x.u4,x.u5,x.u6,w1,x.v8))) (fun p0=>(Sum.inr (x.2.1,x.u4,x.u5,x.u6,p0,x.v8))):=by kernel_rfl
theorem qeA {R:Type} (x:tqq) (k:tqL->Option R) (r:R) (h:qew x k=some r):∃o,Z5Q (LE.step X qeu qen q0 q4 12) x o/\k o=some r:=by
 obtain⟨o,h1,h2⟩:=Z0 h;exact⟨qev x o,ZiO (st:=fun(x:tqq)=>WI x.1 x.u3) (prj:=fun x=>(x.u2,x.u7)) (emb:=qex) (embO:=qev) (fun x=>(qey x).trans (by unfold WI X14;simp only[ZiG,Ziy,ZiH,Option.map_some,Option.map_none];rfl)) (fun _ _=>rfl) (fun _ _=>rfl) (fun _ _ _=>rfl) (fun _ _ _=>rfl) (fun _=>rfl) (Z29.1 h1),by first|exact h2|(rcases o with o<;>exact h2)⟩
def qeB {R:Type}:Z2L S R:=LE.ls X qeu qew q4
theorem qeC {R:Type}:Z45 X (qeB (R:=R)):=ZiT xok qeo (e:=qeu) q1 q5 qeA q5
def qeD:Key:=⟨[169,2,14,128],169,none,[0,0,1,0,1],0,40⟩
def qeE:StT S:=⟨(N (N (N L none (N L vT L)) (some (.fn (.func 170) [] [(.ptr 1 0)])) (N (N L vQ L) none L)) none v1S),o1p,40⟩
def qeF:Way S:=⟨.ret,⟨v1J,(N (N L oD L) none (N (N L none (N (N L o3 (N L oe L)) none (N (N L oe L) none L))) none (N (N (N L os L) none L) none L))),64⟩,[.int,.int,(.st 20),(.lst (.st 23)),.en,(.st 23),(.st 23),(.mp (.st 24) (.int .i64))]⟩
def qeG:Way S:=⟨(.exit 0),⟨L,o1p,41⟩,[(.st 20),(.lst (.st 23)),.en,(.mp (.st 24) (.int .i64))]⟩
def qeH:LE S:=⟨qeD,qeE,[.int,(.lst (.st 23)),.int,(.st 20),(.lst (.st 23)),.en,(.mp (.st 24) (.int .i64))],[qeF,qeG]⟩
def qeI (x:tqG):tqc->tqc:=Sum.elim (fun y0=>(.inl (y0.1,y0.2.1,y0.u2,y0.u3,y0.u4,y0.u5,y0.u6,y0.v7))) (fun y1=>(.inr (y1.1,y1.2.1,y1.u2,y1.v3)))
def qeJ {R:Type} (x:tqG) (k:tqc->Option R):Option R:=(X3P x.2.1 x.u2 (x.1,x.u3,x.u4,x.u5,x.v6)).bind (Sum.elim (fun y0=>k (.inl (y0.1,y0.2.1,y0.u2,y0.u3,y0.u4,y0.u5,y0.u6,y0.v7))) (fun y1=>k (.inr (y1.1,y1.2.1,y1.u2,y1.v3))))
def qeK (x:tqG) (v:tqZ):tqG:=(v.1,x.2.1,x.u2,v.2.1,v.u2,v.u3,v.v4)
theorem qeL (x:tqG):LE.step X qeH qen qeh qeB 12 x=X15 x.2.1 x.u2 x.1 x.u3 x.u4 x.u5 x.v6 (fun w0 w1 w2 w3 w4=>(Sum.inl (w0,x.2.1,x.u2,w1,w2,w3,w4))) (fun p0 p1 p2 p3 p4 p5 p6 p7=>(Sum.inr (.inl (p0,p1,p2,p3,p4,p5,p6,p7)))) (fun p0 p1 p2 p3=>(Sum.inr (.inr (p0,p1,p2,p3)))):=by kernel_rfl
theorem qeN {R:Type} (x:tqG) (k:tqc->Option R) (r:R) (h:qeJ x k=some r):∃o,Z5Q (LE.step X qeH qen qeh qeB 12) x o/\k o=some r:=by
 obtain⟨o,h1,h2⟩:=Z0 h;exact⟨qeI x o,ZiO (st:=fun(x:tqG)=>WJ x.2.1 x.u2) (prj:=fun x=>(x.1,x.u3,x.u4,x.u5,x.v6)) (emb:=qeK) (embO:=qeI) (fun x=>(qeL x).trans (by unfold WJ X15;simp only[ZiG,Ziy,ZiH,Option.map_some,Option.map_none];rfl)) (fun _ _=>rfl) (fun _ _=>rfl) (fun _ _ _=>rfl) (fun _ _ _=>rfl) (fun _=>rfl) (Z29.1 h1),by first|exact h2|(rcases o with o|o<;>exact h2)⟩
def qeO {R:Type}:Z2L S R:=LE.ls X qeH qeJ qeB
theorem qeP {R:Type}:Z45 X (qeO (R:=R)):=ZiT xok qeo (e:=qeH) qei qeC qeN qeC
theorem qeQ (x:((List Zt)×ZS)):PE.step X qem qen qeh qeO 12 x=X2J x.1 x.2:=by kernel_rfl
theorem qeR:ZbS X qem X5P:=ZiU (Zil xok qeo qei qeP 12) fun x _ h=>((qeQ x).trans (X6W x).symm).trans h
def qeS {R:Type}:Prs S R:=PE.ps X qem (fun x q=>(X5P x).bind q) qeh
theorem qeT {R:Type}:Z8r X (qeS (R:=R)):=ZiL (e:=qem) qeR qei
def qeV:Way S:=⟨.ret,⟨(N L (some (.tup [.nilp,(.int .i64 0)])) L),L,0⟩,[.int]⟩
def qeW:Way S:=⟨.ret,⟨(N L (some (.tup [(.ptr 1 0),(.int .i64 0)])) L),(N (N L o4 L) os L),2⟩,[.int,(.st 20),(.lst (.st 23)),.en,(.mp (.st 24) (.int .i64))]⟩
def qeX:PE S:=⟨77,2,qej,[(.lst (.st 23)),(.st 20)],[qeV,qeW]⟩
theorem qf2 (x:((List Zt)×ZS)):PE.step X qeX qen qeS q4 12 x=X2j x.1 x.2:=by kernel_rfl
theorem qf3:ZbS X qeX X2y:=ZiU (Zil xok qeo qeT q5 12) fun x _ h=>((qf2 x).trans (X6C x).symm).trans h
def qf4 {R:Type}:Prs S R:=PE.ps X qeX (fun x q=>(X2y x).bind q) qeS
theorem qf5 {R:Type}:Z8r X (qf4 (R:=R)):=ZiL (e:=qeX) qf3 qeT
def qf6:StT S:=⟨(N L (some .nilp) L),L,0⟩
def qf7:PE S:=⟨78,1,qf6,[],[]⟩
def qf8:List (Nat×F7 S):=[(20,qaP),(116,qcq)]
theorem qf9:Za2 X qf8:=⟨qaQ,qcr,trivial⟩
theorem qfc (x:Unit):PE.step X qf7 qf8 qf4 q4 12 x=WF:=by kernel_rfl
theorem qfd:ZbS X qf7 X13:=ZiU (Zil xok qf9 qf5 q5 12) fun x _ h=>((qfc x).trans (X6i x).symm).trans h
def qfe {R:Type}:Prs S R:=PE.ps X qf7 (fun x q=>(X13 x).bind q) qf4
theorem qff {R:Type}:Z8r X (qfe (R:=R)):=ZiL (e:=qf7) qfd qf5
def qfg:StT S:=⟨(N (N L vT L) (some (.ptr 1 0)) (N L vv L)),(N (N L o4 L) os L),2⟩
def qfi:PE S:=⟨162,3,qfg,[.int,(.st 2),(.st 20),(.lst (.st 23)),.en,(.mp (.st 24) (.int .i64))],[qe9]⟩
def qfj:List (Nat×F7 S):=[(20,qaP)]
theorem qfk:Za2 X qfj:=⟨qaQ,trivial⟩
theorem qfn (x:(Int×Point×ZS×(List Zt)×(Nat->Nat)×X1B)):PE.step X qfi qfj qfe q4 12 x=XK x.1 x.2.1 x.u2 x.u3 x.u4 x.v5:=by kernel_rfl
theorem qfo:ZbS X qfi W0:=ZiU (Zil xok qfk qff q5 12) fun x _ h=>((qfn x).trans (X4e x).symm).trans h
def qfp {R:Type}:Prs S R:=PE.ps X qfi (fun x q=>(W0 x).bind q) qfe
theorem qfq {R:Type}:Z8r X (qfp (R:=R)):=ZiL (e:=qfi) qfo qff
def qfr:StT S:=⟨(N (N L vv L) (some (.agg [(.ptr 1 0)])) (N L vt L)),(N (N L o4 L) os L),2⟩
def qfs:Way S:=⟨.ret,⟨v1D,(N (N L o4 L) os L),2⟩,[(.st 5),.bool,(.st 20),(.lst (.st 23)),.en,(.mp (.st 24) (.int .i64))]⟩
def qft:PE S:=⟨247,3,qfr,[(.st 2),(.st 23),(.st 20),(.lst (.st 23)),.en,(.mp (.st 24) (.int .i64))],[qfs]⟩
theorem qfy (x:(Point×Zt×ZS×(List Zt)×(Nat->Nat)×X1B)):PE.step X qft qfj qfp q4 12 x=XM x.1 x.2.1 x.u2 x.u3 x.u4 x.v5:=by kernel_rfl
theorem qfz:ZbS X qft Xr:=ZiU (Zil xok qfk qfq q5 12) fun x _ h=>((qfy x).trans (X4g x).symm).trans h
def qfA {R:Type}:Prs S R:=PE.ps X qft (fun x q=>(Xr x).bind q) qfp
theorem qfB {R:Type}:Z8r X (qfA (R:=R)):=ZiL (e:=qft) qfz qfq
def qfE:PE S:=⟨249,3,qfr,[(.st 2),(.st 23),(.st 20),(.lst (.st 23)),.en,(.mp (.st 24) (.int .i64))],[qfs]⟩
theorem qfG:Za2 X qcZ:=⟨qcr,trivial⟩
def qfJ:Key:=⟨[250,7,1,249],250,none,[0,0,1,0,1],0,20⟩
def qfK:StT S:=⟨(N (N (N (N L vT L) none L) (some (.fn (.func 251) [] [(.ptr 3 0)])) L) (some (.sl (.st 19) [])) v1T),o1X,20⟩
def qfL:Way S:=⟨.ret,⟨v1S,(N (N (N (N L none (N (N L ox L) none L)) on (N (N L none (N L ox L)) none L)) none (N L none (N L none (N L od L)))) none L),58⟩,[.int,(.lst (.int .i64)),(.st 2),(.lst (.int .i64)),(.st 19)]⟩
def qfM:Way S:=⟨(.exit 0),⟨L,o1X,21⟩,[(.st 2)]⟩
def qfN:LE S:=⟨qfJ,qfK,[.int,(.lst (.st 19)),.int,(.st 2)],[qfL,qfM]⟩
def qfO (x:Xao):((Int×(List Int)×(List Int)×Zz)⊕Unit)->Xbe:=Sum.elim (fun y0=>(.inl (y0.1,y0.2.1,x.v3,y0.u2,y0.v3))) (fun y1=>(.inr x.v3))
def qfP {R:Type} (x:Xao) (k:Xbe->Option R):Option R:=(X3X x.1 x.2.1 x.v3 x.u2).bind (Sum.elim (fun y0=>k (.inl (y0.1,y0.2.1,x.v3,y0.u2,y0.v3))) (fun y1=>k (.inr x.v3)))
def qfQ (x:Xao) (v:Int):Xao:=(x.1,x.2.1,v,x.v3)
theorem qfR (x:Xao):LE.step X qfN qcZ qfA q4 12 x=Xy x.1 x.2.1 x.v3 x.u2 (fun w0=>(Sum.inl (x.1,x.2.1,w0,x.v3))) (fun p0 p1 p2 p3=>(Sum.inr (.inl (p0,p1,x.v3,p2,p3)))) (Sum.inr (.inr x.v3)):=by kernel_rfl
theorem qfT {R:Type} (x:Xao) (k:Xbe->Option R) (r:R) (h:qfP x k=some r):∃o,Z5Q (LE.step X qfN qcZ qfA q4 12) x o/\k o=some r:=by
 obtain⟨o,h1,h2⟩:=Z0 h;exact⟨qfO x o,ZiO (st:=fun(x:Xao)=>Xm x.1 x.2.1 x.v3) (prj:=fun x=>x.u2) (emb:=qfQ) (embO:=qfO) (fun x=>(qfR x).trans (by unfold Xm Xy;simp only[ZiG,Ziy,ZiH,Option.map_some,Option.map_none];rfl)) (fun _ _=>rfl) (fun _ _=>rfl) (fun _ _ _=>rfl) (fun _ _ _=>rfl) (fun _=>rfl) (Z29.1 h1),by first|exact h2|(rcases o with o|o<;>exact h2)⟩
def qfU {R:Type}:Z2L S R:=LE.ls X qfN qfP q4
theorem qfV {R:Type}:Z45 X (qfU (R:=R)):=ZiT xok qfG (e:=qfN) qfB q5 qfT q5
theorem qfW (x:(Point×Zt×ZS×(List Zt)×(Nat->Nat)×X1B)):PE.step X qfE qcZ qfA qfU 12 x=Wv x.1 x.2.1 x.u2 x.u3 x.u4 x.v5:=by kernel_rfl
theorem qfX:ZbS X qfE We:=ZiU (Zil xok qfG qfB qfV 12) fun x _ h=>((qfW x).trans (X52 x).symm).trans h
def qfY {R:Type}:Prs S R:=PE.ps X qfE (fun x q=>(We x).bind q) qfA
theorem qfZ {R:Type}:Z8r X (qfY (R:=R)):=ZiL (e:=qfE) qfX qfB
def qg0:StT S:=⟨(N (N (N L vT L) vv L) (some (.ptr 1 0)) (N L vT L)),(N (N L o4 L) os L),2⟩
def qg1:Way S:=⟨.ret,⟨(N L (some (.tup [(.agg [(.arr (.st 5) 4 (fun _=>tdf T (.st 5)))]),(.bool false)])) L),(N (N L o4 L) os L),2⟩,[(.arr (.st 5)),.bool,(.st 20),(.lst (.st 23)),.en,(.mp (.st 24) (.int .i64))]⟩
def qg2:PE S:=⟨117,4,qg0,[.int,(.st 2),.int,(.st 20),(.lst (.st 23)),.en,(.mp (.st 24) (.int .i64))],[qg1]⟩
def qg7:Key:=⟨[117],117,none,[0,0,1,0,0,1],0,12⟩
def qg8:StT S:=⟨(N (N (N (N L none (N L vT L)) vT L) none (N L (some (.ptr 2 0)) L)) (some (.ptr 1 0)) (N (N (N L (some (.ptr 3 0)) (N L vT L)) none L) vT (N L none (N (N L vP L) none L)))),o1O,12⟩
def qg9:Way S:=⟨(.exit 0),⟨(N (N (N L vT L) none (N L (some (.ptr 2 0)) L)) (some (.ptr 1 0)) (N v1Q vT L)),o1O,13⟩,[.int,.int,(.arr (.st 5)),(.st 20),(.lst (.st 23)),.en,(.mp (.st 24) (.int .i64)),(.st 2)]⟩
def qga:LE S:=⟨qg7,qg8,[.int,.int,.int,.int,(.lst (.st 18)),(.arr (.st 5)),(.st 20),(.lst (.st 23)),.en,(.mp (.st 24) (.int .i64)),(.st 2)],[qg9]⟩
def qgb (x:tql):(Nat->ZN)->tqC:=fun y0=>(x.2.1,x.u3,y0,x.u6,x.u7,x.u8,x.u9,x.v10)
def qgc {R:Type} (x:tql) (k:tqC->Option R):Option R:=(X2w x.1 x.2.1 x.u3 x.u4 x.u6 x.u7 x.u8 x.u9 x.v10 (x.u2,x.u5)).bind (fun y0=>k (x.2.1,x.u3,y0,x.u6,x.u7,x.u8,x.u9,x.v10))
def qgd (x:tql) (v:(Int×(Nat->ZN))):tql:=(x.1,x.2.1,v.1,x.u3,x.u4,v.2,x.u6,x.u7,x.u8,x.u9,x.v10)
theorem qge (x:tql):LE.step X qga qf8 qfe q4 12 x=XG x.1 x.2.1 x.u3 x.u4 x.u6 x.u7 x.u8 x.u9 x.v10 x.u2 x.u5 (fun w0 w1=>(Sum.inl (x.1,x.2.1,w0,x.u3,x.u4,w1,x.u6,x.u7,x.u8,x.u9,x.v10))) (fun p0=>(Sum.inr (x.2.1,x.u3,p0,x.u6,x.u7,x.u8,x.u9,x.v10))):=by kernel_rfl
theorem qgg {R:Type} (x:tql) (k:tqC->Option R) (r:R) (h:qgc x k=some r):∃o,Z5Q (LE.step X qga qf8 qfe q4 12) x o/\k o=some r:=by
 obtain⟨o,h1,h2⟩:=Z0 h;exact⟨qgb x o,ZiO (st:=fun(x:tql)=>Xu x.1 x.2.1 x.u3 x.u4 x.u6 x.u7 x.u8 x.u9 x.v10) (prj:=fun x=>(x.u2,x.u5)) (emb:=qgd) (embO:=qgb) (fun x=>(qge x).trans (by unfold Xu XG;simp only[ZiG,Ziy,ZiH,Option.map_some,Option.map_none];rfl)) (fun _ _=>rfl) (fun _ _=>rfl) (fun _ _ _=>rfl) (fun _ _ _=>rfl) (fun _=>rfl) (Z29.1 h1),by first|exact h2|(rcases o with o<;>exact h2)⟩
def qgh {R:Type}:Z2L S R:=LE.ls X qga qgc q4
theorem qgi {R:Type}:Z45 X (qgh (R:=R)):=ZiT xok qf9 (e:=qga) qff q5 qgg q5
def qgj:Key:=⟨[117],117,none,[0,0,1,0,1,1,0,1],2,19⟩
def qgk:StT S:=⟨(N (N (N v1S vT L) none (N L (some (.ptr 2 0)) (N (N (N L vQ L) none L) none L))) (some (.ptr 1 0)) (N v1Q vT (N L none v1T))),o1O,19⟩
def qgl:Way S:=⟨.ret,⟨v1v,(N (N (N L o8 (N (N (N L (some (.cells 256 [.nilp])) L) none L) none L)) o4 o1t) os (N L on (N L none (N (N L oe L) none L)))),102⟩,[.bool,(.arr (.st 5)),(.st 20),(.lst (.st 23)),.en,(.st 5),(.mp (.st 24) (.int .i64)),(.st 2),(.st 23)]⟩
def qgm:Way S:=⟨.ret,⟨v1v,(N (N (N L o8 (N (N (N L (some (.cells 256 [(.ptr 1 0)])) L) none L) none L)) o4 o1t) os (N L on (N L none (N (N L oe L) none L)))),102⟩,[.bool,(.arr (.st 5)),(.st 20),(.lst (.st 23)),.en,(.st 5),(.mp (.st 24) (.int .i64)),(.st 2),(.st 23)]⟩
def qgn:Way S:=⟨(.exit 2),⟨(N L none (N v1Q none L)),o1O,20⟩,[(.arr (.st 5)),(.st 20),(.lst (.st 23)),.en,(.mp (.st 24) (.int .i64)),(.st 2)]⟩
def qgo:LE S:=⟨qgj,qgk,[.int,.int,(.lst (.st 23)),.int,.int,(.arr (.st 5)),(.st 20),(.lst (.st 23)),.en,(.mp (.st 24) (.int .i64)),(.st 2)],[qgl,qgm,qgn]⟩
def qgp (x:tqo):((Bool×(Nat->ZN)×ZS×(List Zt)×(Nat->Nat)×ZN×X1B×Zt)⊕(Bool×(Nat->ZN)×ZS×(List Zt)×(Nat->Nat)×ZN×X1B×Zt)⊕((Nat->ZN)×ZS×(List Zt)×(Nat->Nat)×X1B))->tq2:=Sum.elim (fun y0=>(.inl (y0.1,y0.2.1,y0.u2,y0.u3,y0.u4,y0.u5,y0.u6,x.v10,y0.v7))) (Sum.elim (fun y1=>(.inr (.inl (y1.1,y1.2.1,y1.u2,y1.u3,y1.u4,y1.u5,y1.u6,x.v10,y1.v7)))) (fun y2=>(.inr (.inr (y2.1,y2.2.1,y2.u2,y2.u3,y2.v4,x.v10)))))
def qgq {R:Type} (x:tqo) (k:tq2->Option R):Option R:=(X2x x.2.1 x.u2 x.u3 x.u4 x.v10 (x.1,x.u5,x.u6,x.u7,x.u8,x.u9)).bind (Sum.elim (fun y0=>k (.inl (y0.1,y0.2.1,y0.u2,y0.u3,y0.u4,y0.u5,y0.u6,x.v10,y0.v7))) (Sum.elim (fun y1=>k (.inr (.inl (y1.1,y1.2.1,y1.u2,y1.u3,y1.u4,y1.u5,y1.u6,x.v10,y1.v7)))) (fun y2=>k (.inr (.inr (y2.1,y2.2.1,y2.u2,y2.u3,y2.v4,x.v10))))))
def qgr (x:tqo) (v:(Int×(Nat->ZN)×ZS×(List Zt)×(Nat->Nat)×X1B)):tqo:=(v.1,x.2.1,x.u2,x.u3,x.u4,v.2.1,v.u2,v.u3,v.u4,v.v5,x.v10)
theorem qgs (x:tqo):LE.step X qgo qf8 qfY qgh 12 x=XH x.2.1 x.u2 x.u3 x.u4 x.v10 x.1 x.u5 x.u6 x.u7 x.u8 x.u9 (fun w0 w1 w2 w3 w4 w5=>(Sum.inl (w0,x.2.1,x.u2,x.u3,x.u4,w1,w2,w3,w4,w5,x.v10))) (fun p0 p1 p2 p3 p4 p5 p6 p7=>(Sum.inr (.inl (p0,p1,p2,p3,p4,p5,p6,x.v10,p7)))) (fun p0 p1 p2 p3 p4 p5 p6 p7=>(Sum.inr (.inr (.inl (p0,p1,p2,p3,p4,p5,p6,x.v10,p7))))) (fun p0 p1 p2 p3 p4=>(Sum.inr (.inr (.inr (p0,p1,p2,p3,p4,x.v10))))):=by kernel_rfl
theorem qgu {R:Type} (x:tqo) (k:tq2->Option R) (r:R) (h:qgq x k=some r):∃o,Z5Q (LE.step X qgo qf8 qfY qgh 12) x o/\k o=some r:=by
 obtain⟨o,h1,h2⟩:=Z0 h;exact⟨qgp x o,ZiO (st:=fun(x:tqo)=>Xv x.2.1 x.u2 x.u3 x.u4 x.v10) (prj:=fun x=>(x.1,x.u5,x.u6,x.u7,x.u8,x.u9)) (emb:=qgr) (embO:=qgp) (fun x=>(qgs x).trans (by unfold Xv XH;simp only[ZiG,Ziy,ZiH,Option.map_some,Option.map_none];rfl)) (fun _ _=>rfl) (fun _ _=>rfl) (fun _ _ _=>rfl) (fun _ _ _=>rfl) (fun _=>rfl) (Z29.1 h1),by first|exact h2|(rcases o with o|o|o<;>exact h2)⟩
def qgv {R:Type}:Z2L S R:=LE.ls X qgo qgq qgh
theorem qgw {R:Type}:Z45 X (qgv (R:=R)):=ZiT xok qf9 (e:=qgo) qfZ qgi qgu qgi
theorem qgx (x:(Int×Point×Int×ZS×(List Zt)×(Nat->Nat)×X1B)):PE.step X qg2 qf8 qfY qgv 12 x=X12 x.1 x.2.1 x.u2 x.u3 x.u4 x.u5 x.v6:=by kernel_rfl
theorem qgy:ZbS X qg2 WV:=ZiU (Zil xok qf9 qfZ qgw 12) fun x _ h=>((qgx x).trans (X5r x).symm).trans h
def qgz {R:Type}:Prs S R:=PE.ps X qg2 (fun x q=>(WV x).bind q) qfY
theorem qgA {R:Type}:Z8r X (qgz (R:=R)):=ZiL (e:=qg2) qgy qfZ
def qgB:StT S:=⟨(N L (some (.ptr 1 0)) L),(N (N L o4 L) os L),2⟩
def qgC:Way S:=⟨.ret,⟨(N L (some (.rs 2 0)) L),(N (N L o4 L) os (N L oI L)),3⟩,[(.st 20),(.lst (.st 23)),.en,(.mp (.st 24) (.int .i64)),(.lst (.st 2))]⟩
def qgD:PE S:=⟨78,1,qgB,[(.st 20),(.lst (.st 23)),.en,(.mp (.st 24) (.int .i64))],[qgC]⟩
def qgI:Key:=⟨[172,0,78],172,none,[0,0,1,0,0,1,0,0,1],2,34⟩
def qgJ:StT S:=⟨(N (N (N L vT L) (some (.ptr 6 0)) L) (some (.yld 11)) (N (N L vT L) none L)),o1e,35⟩
def qgK:Way S:=⟨(.exit 2),⟨v1H,o1e,42⟩,[.int,(.st 20),(.lst (.st 23)),.en,(.mp (.st 24) (.int .i64)),(.lst (.st 2))]⟩
def qgL:LE S:=⟨qgI,qgJ,[.int,.int,(.st 20),(.lst (.st 23)),.en,(.mp (.st 24) (.int .i64)),(.lst (.st 2))],[qgK]⟩
def qgM (x:tqH):(ZS×(List Zt)×(Nat->Nat)×X1B×(List Point))->tqO:=fun y0=>(x.1,y0.1,y0.2.1,y0.u2,y0.u3,y0.v4)
def qgN {R:Type} (x:tqH) (k:tqO->Option R):Option R:=(XR x.1 (x.2.1,x.u2,x.u3,x.u4,x.u5,x.v6)).bind (fun y0=>k (x.1,y0.1,y0.2.1,y0.u2,y0.u3,y0.v4))
def qgO (x:tqH) (v:tqO):tqH:=(x.1,v.1,v.2.1,v.u2,v.u3,v.u4,v.v5)
theorem qgP (x:tqH):LE.step X qgL qf8 qgz q4 12 x=Xh x.1 x.2.1 x.u2 x.u3 x.u4 x.u5 x.v6 (fun w0 w1 w2 w3 w4 w5=>(Sum.inl (x.1,w0,w1,w2,w3,w4,w5))) (fun p0 p1 p2 p3 p4=>(Sum.inr (x.1,p0,p1,p2,p3,p4))):=by kernel_rfl
theorem qgR {R:Type} (x:tqH) (k:tqO->Option R) (r:R) (h:qgN x k=some r):∃o,Z5Q (LE.step X qgL qf8 qgz q4 12) x o/\k o=some r:=by
 obtain⟨o,h1,h2⟩:=Z0 h;exact⟨qgM x o,ZiO (st:=fun(x:tqH)=>Xa x.1) (prj:=fun x=>(x.2.1,x.u2,x.u3,x.u4,x.u5,x.v6)) (emb:=qgO) (embO:=qgM) (fun x=>(qgP x).trans (by unfold Xa Xh;simp only[ZiG,Ziy,ZiH,Option.map_some,Option.map_none];rfl)) (fun _ _=>rfl) (fun _ _=>rfl) (fun _ _ _=>rfl) (fun _ _ _=>rfl) (fun _=>rfl) (Z29.1 h1),by first|exact h2|(rcases o with o<;>exact h2)⟩
def qgS {R:Type}:Z2L S R:=LE.ls X qgL qgN q4
theorem qgT {R:Type}:Z45 X (qgS (R:=R)):=ZiT xok qf9 (e:=qgL) qgA q5 qgR q5
def qgU:Key:=⟨[172,0,78],172,none,[0,0,1],0,19⟩
def qgV:StT S:=⟨v1H,o1q,20⟩
def qgW:Way S:=⟨(.exit 0),⟨L,o1q,27⟩,[(.lst (.st 2)),(.st 20),(.lst (.st 23)),.en,(.mp (.st 24) (.int .i64))]⟩
def qgX:LE S:=⟨qgU,qgV,[.int,(.lst (.st 2)),(.st 20),(.lst (.st 23)),.en,(.mp (.st 24) (.int .i64))],[qgW]⟩
def qgY (x:tqP):tqR->tqR:=fun y0=>(y0.1,y0.2.1,y0.u2,y0.u3,y0.v4)
def qgZ {R:Type} (x:tqP) (k:tqR->Option R):Option R:=(XQ (x.1,x.2.1,x.u2,x.u3,x.u4,x.v5)).bind (fun y0=>k (y0.1,y0.2.1,y0.u2,y0.u3,y0.v4))
def qh0 (x v:tqP):tqP:=(v.1,v.2.1,v.u2,v.u3,v.u4,v.v5)
theorem qh1 (x:tqP):LE.step X qgX qf8 qgz qgS 12 x=Xg x.1 x.2.1 x.u2 x.u3 x.u4 x.v5 (fun w0 w1 w2 w3 w4 w5=>(Sum.inl (w0,w1,w2,w3,w4,w5))) (fun p0 p1 p2 p3 p4=>(Sum.inr (p0,p1,p2,p3,p4))):=by kernel_rfl
theorem qh3 {R:Type} (x:tqP) (k:tqR->Option R) (r:R) (h:qgZ x k=some r):∃o,Z5Q (LE.step X qgX qf8 qgz qgS 12) x o/\k o=some r:=by
 obtain⟨o,h1,h2⟩:=Z0 h;exact⟨qgY x o,ZiO (st:=fun(x:tqP)=>X9) (prj:=fun x=>(x.1,x.2.1,x.u2,x.u3,x.u4,x.v5)) (emb:=qh0) (embO:=qgY) (fun x=>(qh1 x).trans (by unfold X9 Xg;simp only[ZiG,Ziy,ZiH,Option.map_some,Option.map_none];rfl)) (fun _ _=>rfl) (fun _ _=>rfl) (fun _ _ _=>rfl) (fun _ _ _=>rfl) (fun _=>rfl) (Z29.1 h1),by first|exact h2|(rcases o with o<;>exact h2)⟩
def qh4 {R:Type}:Z2L S R:=LE.ls X qgX qgZ qgS
theorem qh5 {R:Type}:Z45 X (qh4 (R:=R)):=ZiT xok qf9 (e:=qgX) qgA qgT qh3 qgT
theorem qh6 (x:XaY):PE.step X qgD qf8 qgz qh4 12 x=XI x.1 x.2.1 x.u2 x.v3:=by kernel_rfl
theorem qh7:ZbS X qgD XY:=ZiU (Zil xok qf9 qgA qh5 12) fun x _ h=>((qh6 x).trans (X48 x).symm).trans h
def qh8 {R:Type}:Prs S R:=PE.ps X qgD (fun x q=>(XY x).bind q) qgz
theorem qh9 {R:Type}:Z8r X (qh8 (R:=R)):=ZiL (e:=qgD) qh7 qgA
def qha:List (Nat×F7 S):=[(168,qdV),(116,qcq),(29,qa6),(20,qaP)]
theorem qhb:Za2 X (qha):=⟨qdW,qcr,qa7,qaQ,trivial⟩
theorem qhe (x0:ZS) (x1:List Zt):ZiV X qha [(.st 20),(.sl (.st 23))] [(.sl (.st 2)),(.int .i64)] qh8 q4 12 15 (x0,x1,())=X35 x0 x1:=by kernel_rfl
def qhf:F7 S:=⟨[(.st 20),(.sl (.st 23))],[(.sl (.st 2)),(.int .i64)],fun xs=>X6h xs.1 xs.2.1⟩
theorem qhg:Z9R X 15 qhf:=ZiS (ZiR xok qhb qh9 q5 12 15) fun xs _ h=>((qhe xs.1 xs.2.1).trans (X7r xs.1 xs.2.1).symm).trans h
def qhh:StT S:=⟨(N (N (N L vT L) vv L) (some .nilp) (N L vT L)),L,0⟩
def qhi:PE S:=⟨117,4,qhh,[.int,(.st 2),.int],[]⟩
theorem qhn (x:(Int×Point×Int)):PE.step X qhi qf8 qh8 q4 12 x=X25 x.1 x.2.1 x.v2:=by kernel_rfl
theorem qho:ZbS X qhi X4U:=ZiU (Zil xok qf9 qh9 q5 12) fun x _ h=>((qhn x).trans (X7G x).symm).trans h
def qhp {R:Type}:Prs S R:=PE.ps X qhi (fun x q=>(X4U x).bind q) qh8
theorem qhq {R:Type}:Z8r X (qhp (R:=R)):=ZiL (e:=qhi) qho qh9
def qhv:Key:=⟨[16],16,none,[0,0,1,0,1,1,1,1,1,1,1],0,42⟩
def qhw:StT S:=⟨(N (N (N L none v1S) none (N (N L none (N (N L (some (.rs 42 0)) L) none L)) none L)) none (N (N L (some (.ptr 1 0)) L) none (N v1S none L))),o11,43⟩
def qhx:Way S:=⟨(.exit 0),⟨(N L none (N (N L (some (.ptr 1 0)) L) none L)),o11,44⟩,[(.mp (.st 24) (.int .i64)),(.st 6),(.st 2),(.st 20),(.st 20),(.lst (.st 23)),.en,(.lst (.st 2))]⟩
def qhy:LE S:=⟨qhv,qhw,[.int,.int,(.mp (.st 24) (.int .i64)),(.st 6),(.st 2),(.st 20),(.st 20),(.lst (.st 23)),.en,(.lst (.st 2))],[qhx]⟩
def qhz (x:tqv):ZF->tqy:=fun y0=>(x.u2,y0,x.u4,x.u5,x.u6,x.u7,x.u8,x.v9)
def qhA {R:Type} (x:tqv) (k:tqy->Option R):Option R:=(X4A x.2.1 x.v9 (x.1,x.u3)).bind (fun y0=>k (x.u2,y0,x.u4,x.u5,x.u6,x.u7,x.u8,x.v9))
def qhB (x:tqv) (v:(Int×ZF)):tqv:=(v.1,x.2.1,x.u2,v.2,x.u4,x.u5,x.u6,x.u7,x.u8,x.v9)
theorem qhC (x:tqv):LE.step X qhy qha qhp q4 12 x=X1T x.2.1 x.v9 x.1 x.u3 (fun w0 w1=>(Sum.inl (w0,x.2.1,x.u2,w1,x.u4,x.u5,x.u6,x.u7,x.u8,x.v9))) (fun p0=>(Sum.inr (x.u2,p0,x.u4,x.u5,x.u6,x.u7,x.u8,x.v9))):=by kernel_rfl
theorem qhE {R:Type} (x:tqv) (k:tqy->Option R) (r:R) (h:qhA x k=some r):∃o,Z5Q (LE.step X qhy qha qhp q4 12) x o/\k o=some r:=by
 obtain⟨o,h1,h2⟩:=Z0 h;exact⟨qhz x o,ZiO (st:=fun(x:tqv)=>X1O x.2.1 x.v9) (prj:=fun x=>(x.1,x.u3)) (emb:=qhB) (embO:=qhz) (fun x=>(qhC x).trans (by unfold X1O X1T;simp only[ZiG,Ziy,ZiH,Option.map_some,Option.map_none];rfl)) (fun _ _=>rfl) (fun _ _=>rfl) (fun _ _ _=>rfl) (fun _ _ _=>rfl) (fun _=>rfl) (Z29.1 h1),by first|exact h2|(rcases o with o<;>exact h2)⟩
def qhF {R:Type}:Z2L S R:=LE.ls X qhy qhA q4
theorem qhG {R:Type}:Z45 X (qhF (R:=R)):=ZiT xok qhb (e:=qhy) qhq q5 qhE q5
theorem qhH (x0:ZS) (x1:List Zt):ZiV X qha [(.st 20),(.sl (.st 23))] [(.st 6),(.int .i64)] qhp qhF 12 16 (x0,x1,())=X3y x0 x1:=by kernel_rfl
def qhI:F7 S:=⟨[(.st 20),(.sl (.st 23))],[(.st 6),(.int .i64)],fun xs=>X7k xs.1 xs.2.1⟩
theorem qhJ:Z9R X 16 qhI:=ZiS (ZiR xok qhb qhq qhG 12 16) fun xs _ h=>((qhH xs.1 xs.2.1).trans (X7S xs.1 xs.2.1).symm).trans h
def qhL:PE S:=⟨119,1,qf6,[],[]⟩
theorem qhN:Za2 X q2:=trivial
theorem qhQ (x:Unit):PE.step X qhL q2 qhp q4 12 x=WG:=by kernel_rfl
theorem qhR:ZbS X qhL X3s:=ZiU (Zil xok qhN qhq q5 12) fun x _ h=>((qhQ x).trans (X6j x).symm).trans h
def qhS {R:Type}:Prs S R:=PE.ps X qhL (fun x q=>(X3s x).bind q) qhp
theorem qhT {R:Type}:Z8r X (qhS (R:=R)):=ZiL (e:=qhL) qhR qhq
def qhW:PE S:=⟨119,1,qgB,[(.st 20),(.lst (.st 23)),.en,(.mp (.st 24) (.int .i64))],[qe9]⟩
def qi1:Key:=⟨[119],119,none,[0,0,1,0,1],0,9⟩
def qi2:StT S:=⟨(N v1Y (some (.ptr 1 0)) (N (N L none (N L vT L)) vT (N (N L vQ L) none L))),(N (N L o4 L) os L),9⟩
def qi3:Way S:=⟨(.exit 0),⟨(N L none (N L vT L)),(N (N L o4 L) os L),10⟩,[.int,(.st 20),(.lst (.st 23)),.en,(.mp (.st 24) (.int .i64))]⟩
def qi4:LE S:=⟨qi1,qi2,[.int,.int,.int,(.lst (.st 23)),(.st 20),(.lst (.st 23)),.en,(.mp (.st 24) (.int .i64))],[qi3]⟩
def qi5 (x:tqD):Int->tqZ:=fun y0=>(y0,x.u4,x.u5,x.u6,x.v7)
def qi6 {R:Type} (x:tqD) (k:tqZ->Option R):Option R:=(X37 x.1 x.u3 x.u4 x.u6 (x.2.1,x.u2)).bind (fun y0=>k (y0,x.u4,x.u5,x.u6,x.v7))
def qi7 (x:tqD) (v:(Int×Int)):tqD:=(x.1,v.1,v.2,x.u3,x.u4,x.u5,x.u6,x.v7)
theorem qi8 (x:tqD):LE.step X qi4 q2 qhS q4 12 x=X1h x.1 x.u3 x.u4 x.u6 x.2.1 x.u2 (fun w0 w1=>(Sum.inl (x.1,w0,w1,x.u3,x.u4,x.u5,x.u6,x.v7))) (fun p0=>(Sum.inr (p0,x.u4,x.u5,x.u6,x.v7))):=by kernel_rfl
theorem qia {R:Type} (x:tqD) (k:tqZ->Option R) (r:R) (h:qi6 x k=some r):∃o,Z5Q (LE.step X qi4 q2 qhS q4 12) x o/\k o=some r:=by
 obtain⟨o,h1,h2⟩:=Z0 h;exact⟨qi5 x o,ZiO (st:=fun(x:tqD)=>X1H x.1 x.u3 x.u4 x.u6) (prj:=fun x=>(x.2.1,x.u2)) (emb:=qi7) (embO:=qi5) (fun x=>(qi8 x).trans (by unfold X1H X1h;simp only[ZiG,Ziy,ZiH,Option.map_some,Option.map_none];rfl)) (fun _ _=>rfl) (fun _ _=>rfl) (fun _ _ _=>rfl) (fun _ _ _=>rfl) (fun _=>rfl) (Z29.1 h1),by first|exact h2|(rcases o with o<;>exact h2)⟩
def qib {R:Type}:Z2L S R:=LE.ls X qi4 qi6 q4
theorem qic {R:Type}:Z45 X (qib (R:=R)):=ZiT xok qhN (e:=qi4) qhT q5 qia q5
theorem qid (x:XaY):PE.step X qhW q2 qhS qib 12 x=WH x.1 x.2.1 x.u2 x.v3:=by kernel_rfl
theorem qie:ZbS X qhW X3t:=ZiU (Zil xok qhN qhT qic 12) fun x _ h=>((qid x).trans (X6k x).symm).trans h
def qif {R:Type}:Prs S R:=PE.ps X qhW (fun x q=>(X3t x).bind q) qhS
theorem qig {R:Type}:Z8r X (qif (R:=R)):=ZiL (e:=qhW) qie qhT
def qij:PE S:=⟨121,2,qdX,[.int,(.st 20),(.lst (.st 23)),.en,(.mp (.st 24) (.int .i64))],[qdY]⟩
def qio:Key:=⟨[172,0,121],172,none,[0,0,1,0,0,1,0,0,1],2,44⟩
def qip:StT S:=⟨(N (N (N L vT L) (some (.ptr 18 0)) L) (some (.yld 22)) (N (N L vT L) none L)),o1n,44⟩
def qiq:Way S:=⟨.ret,⟨L,oV,94⟩,[.int,(.st 20),(.lst (.st 23)),.en,(.arr (.st 5)),(.st 2),(.mp (.st 24) (.int .i64)),.bool,.int,.int]⟩
def qir:Way S:=⟨(.exit 2),⟨v1G,o1n,51⟩,[.int,.int,(.st 20),(.lst (.st 23)),.en,(.mp (.st 24) (.int .i64)),.bool,.int,.int]⟩
def qis:LE S:=⟨qio,qip,[.int,.int,.int,(.st 20),(.lst (.st 23)),.en,(.mp (.st 24) (.int .i64)),.bool,.int,.int],[qiq,qir]⟩
def qit (x:tqA):((ZS×(List Zt)×(Nat->Nat)×(Nat->ZN)×Point×X1B×Bool)⊕XaY)->tq6:=Sum.elim (fun y0=>(.inl (x.u2,y0.1,y0.2.1,y0.u2,y0.u3,y0.u4,y0.u5,y0.v6,x.u8,x.v9))) (fun y1=>(.inr (x.1,x.u2,y1.1,y1.2.1,y1.u2,y1.v3,x.u7,x.u8,x.v9)))
def qiu {R:Type} (x:tqA) (k:tq6->Option R):Option R:=(X2U x.1 x.u2 x.v9 (x.2.1,x.u3,x.u4,x.u5,x.u6)).bind (Sum.elim (fun y0=>k (.inl (x.u2,y0.1,y0.2.1,y0.u2,y0.u3,y0.u4,y0.u5,y0.v6,x.u8,x.v9))) (fun y1=>k (.inr (x.1,x.u2,y1.1,y1.2.1,y1.u2,y1.v3,x.u7,x.u8,x.v9))))
def qiv (x:tqA) (v:tqZ):tqA:=(x.1,v.1,x.u2,v.2.1,v.u2,v.u3,v.v4,x.u7,x.u8,x.v9)
theorem qiw (x:tqA):LE.step X qis qf8 qif q4 12 x=WX x.1 x.u2 x.v9 x.2.1 x.u3 x.u4 x.u5 x.u6 (fun w0 w1 w2 w3 w4=>(Sum.inl (x.1,w0,x.u2,w1,w2,w3,w4,x.u7,x.u8,x.v9))) (fun p0 p1 p2 p3 p4 p5 p6=>(Sum.inr (.inl (x.u2,p0,p1,p2,p3,p4,p5,p6,x.u8,x.v9)))) (fun p0 p1 p2 p3=>(Sum.inr (.inr (x.1,x.u2,p0,p1,p2,p3,x.u7,x.u8,x.v9)))):=by kernel_rfl
theorem qiy {R:Type} (x:tqA) (k:tq6->Option R) (r:R) (h:qiu x k=some r):∃o,Z5Q (LE.step X qis qf8 qif q4 12) x o/\k o=some r:=by
 obtain⟨o,h1,h2⟩:=Z0 h;exact⟨qit x o,ZiO (st:=fun(x:tqA)=>X1s x.1 x.u2 x.v9) (prj:=fun x=>(x.2.1,x.u3,x.u4,x.u5,x.u6)) (emb:=qiv) (embO:=qit) (fun x=>(qiw x).trans (by unfold X1s WX;simp only[ZiG,Ziy,ZiH,Option.map_some,Option.map_none];rfl)) (fun _ _=>rfl) (fun _ _=>rfl) (fun _ _ _=>rfl) (fun _ _ _=>rfl) (fun _=>rfl) (Z29.1 h1),by first|exact h2|(rcases o with o|o<;>exact h2)⟩
def qiz {R:Type}:Z2L S R:=LE.ls X qis qiu q4
theorem qiA {R:Type}:Z45 X (qiz (R:=R)):=ZiT xok qf9 (e:=qis) qig q5 qiy q5
def qiB:Key:=⟨[172,0,121],172,none,[0,0,1],0,30⟩
def qiC:StT S:=⟨v1G,o1n,30⟩
def qiE:Way S:=⟨(.exit 0),⟨L,o1n,37⟩,[.int,(.st 20),(.lst (.st 23)),.en,(.mp (.st 24) (.int .i64)),.bool,.int,.int]⟩
def qiF:LE S:=⟨qiB,qiC,[.int,.int,(.st 20),(.lst (.st 23)),.en,(.mp (.st 24) (.int .i64)),.bool,.int,.int],[qiq,qiE]⟩
def qiG (x:tqE):((ZS×(List Zt)×(Nat->Nat)×(Nat->ZN)×Point×X1B×Bool)⊕XaY)->tq8:=Sum.elim (fun y0=>(.inl (x.2.1,y0.1,y0.2.1,y0.u2,y0.u3,y0.u4,y0.u5,y0.v6,x.u7,x.v8))) (fun y1=>(.inr (x.2.1,y1.1,y1.2.1,y1.u2,y1.v3,x.u6,x.u7,x.v8)))
def qiH {R:Type} (x:tqE) (k:tq8->Option R):Option R:=(X2T x.2.1 x.v8 (x.1,x.u2,x.u3,x.u4,x.u5)).bind (Sum.elim (fun y0=>k (.inl (x.2.1,y0.1,y0.2.1,y0.u2,y0.u3,y0.u4,y0.u5,y0.v6,x.u7,x.v8))) (fun y1=>k (.inr (x.2.1,y1.1,y1.2.1,y1.u2,y1.v3,x.u6,x.u7,x.v8))))
def qiI (x:tqE) (v:tqZ):tqE:=(v.1,x.2.1,v.2.1,v.u2,v.u3,v.v4,x.u6,x.u7,x.v8)
theorem qiJ (x:tqE):LE.step X qiF qf8 qif qiz 12 x=WW x.2.1 x.v8 x.1 x.u2 x.u3 x.u4 x.u5 (fun w0 w1 w2 w3 w4=>(Sum.inl (w0,x.2.1,w1,w2,w3,w4,x.u6,x.u7,x.v8))) (fun p0 p1 p2 p3 p4 p5 p6=>(Sum.inr (.inl (x.2.1,p0,p1,p2,p3,p4,p5,p6,x.u7,x.v8)))) (fun p0 p1 p2 p3=>(Sum.inr (.inr (x.2.1,p0,p1,p2,p3,x.u6,x.u7,x.v8)))):=by kernel_rfl
theorem qiL {R:Type} (x:tqE) (k:tq8->Option R) (r:R) (h:qiH x k=some r):∃o,Z5Q (LE.step X qiF qf8 qif qiz 12) x o/\k o=some r:=by
 obtain⟨o,h1,h2⟩:=Z0 h;exact⟨qiG x o,ZiO (st:=fun(x:tqE)=>X1r x.2.1 x.v8) (prj:=fun x=>(x.1,x.u2,x.u3,x.u4,x.u5)) (emb:=qiI) (embO:=qiG) (fun x=>(qiJ x).trans (by unfold X1r WW;simp only[ZiG,Ziy,ZiH,Option.map_some,Option.map_none];rfl)) (fun _ _=>rfl) (fun _ _=>rfl) (fun _ _ _=>rfl) (fun _ _ _=>rfl) (fun _=>rfl) (Z29.1 h1),by first|exact h2|(rcases o with o|o<;>exact h2)⟩
def qiM {R:Type}:Z2L S R:=LE.ls X qiF qiH qiz
theorem qiN {R:Type}:Z45 X (qiM (R:=R)):=ZiT xok qf9 (e:=qiF) qig qiA qiL qiA
theorem qiO (x:tqZ):PE.step X qij qf8 qif qiM 12 x=Wl x.1 x.2.1 x.u2 x.u3 x.v4:=by kernel_rfl
theorem qiP:ZbS X qij X1U:=ZiU (Zil xok qf9 qig qiN 12) fun x _ h=>((qiO x).trans (X64 x).symm).trans h
def qiQ {R:Type}:Prs S R:=PE.ps X qij (fun x q=>(X1U x).bind q) qif
theorem qiR {R:Type}:Z8r X (qiQ (R:=R)):=ZiL (e:=qij) qiP qig
def qiS:StT S:=⟨(N (N (N L (some (.ptr 4 0)) L) vT (N L (some (.ptr 0 0)) L)) vT (N (N L (some (.ptr 1 0)) L) vT L)),o1M,5⟩
def qiT:Way S:=⟨.ret,⟨(N L (some (.tup [(.int .i64 0),(.bool false)])) L),o1M,5⟩,[.int,.bool,(.st 20),(.lst (.st 23)),.en,.int,(.mp (.st 24) (.int .i64))]⟩
def qiU:PE S:=⟨120,6,qiS,[.int,.int,.int,(.st 20),(.lst (.st 23)),.en,.int,(.mp (.st 24) (.int .i64))],[qiT]⟩
abbrev qiX (ih:tqK->Option tqQ) {R:Type}:Z2L S R:=ZhI
theorem qiY (ih:tqK->Option tqQ) (hih:ZbS X qiU ih) {R:Type}:Z45 X (qiX ih (R:=R)):=Zih X
def qiZ:Key:=⟨[120],120,none,[0,0,1,0,1,1],0,11⟩
def qj0:StT S:=⟨(N (N (N L none (N L vT L)) none (N L (some (.ptr 0 0)) L)) vT (N (N L (some (.ptr 1 0)) L) vT L)),o1M,11⟩
def qj1:Way S:=⟨.ret,⟨(N v1S none v1Z),o1M,39⟩,[.int,.bool,(.st 20),(.lst (.st 23)),.en,.int,(.mp (.st 24) (.int .i64))]⟩
def qj2:Way S:=⟨(.exit 0),⟨L,o1M,15⟩,[(.st 20),(.lst (.st 23)),.en,.int,(.mp (.st 24) (.int .i64))]⟩
def qj3:LE S:=⟨qiZ,qj0,[.int,.int,.int,(.st 20),(.lst (.st 23)),.en,.int,(.mp (.st 24) (.int .i64))],[qj1,qj2]⟩
def qj4 (x:tqM):tqe->tqe:=Sum.elim (fun y0=>(.inl (y0.1,y0.2.1,y0.u2,y0.u3,y0.u4,y0.u5,y0.v6))) (fun y1=>(.inr (y1.1,y1.2.1,y1.u2,y1.u3,y1.v4)))
def qj5 (ih:tqK->Option tqQ) {R:Type} (x:tqM) (k:tqe->Option R):Option R:=(X4r ih x.2.1 x.u2 (x.1,x.u3,x.u4,x.u5,x.u6,x.v7)).bind (Sum.elim (fun y0=>k (.inl (y0.1,y0.2.1,y0.u2,y0.u3,y0.u4,y0.u5,y0.v6))) (fun y1=>k (.inr (y1.1,y1.2.1,y1.u2,y1.u3,y1.v4))))
def qj6 (x:tqM) (v:(Int×ZS×(List Zt)×(Nat->Nat)×Int×X1B)):tqM:=(v.1,x.2.1,x.u2,v.2.1,v.u2,v.u3,v.u4,v.v5)
theorem qj7 (ih:tqK->Option tqQ) (x:tqM):LE.step X qj3 qf8 (PE.ps X qiU (fun x q=>(ih x).bind q) qiQ) (qiX ih) 12 x=X2v ih x.2.1 x.u2 x.1 x.u3 x.u4 x.u5 x.u6 x.v7 (fun w0 w1 w2 w3 w4 w5=>(Sum.inl (w0,x.2.1,x.u2,w1,w2,w3,w4,w5))) (fun p0 p1 p2 p3 p4 p5 p6=>(Sum.inr (.inl (p0,p1,p2,p3,p4,p5,p6)))) (fun p0 p1 p2 p3 p4=>(Sum.inr (.inr (p0,p1,p2,p3,p4)))):=by kernel_rfl
theorem qj9 (ih:tqK->Option tqQ) {R:Type} (x:tqM) (k:tqe->Option R) (r:R) (h:qj5 ih x k=some r):∃o,Z5Q (LE.step X qj3 qf8 (PE.ps X qiU (fun x q=>(ih x).bind q) qiQ) (qiX ih) 12) x o/\k o=some r:=by
 obtain⟨o,h1,h2⟩:=Z0 h;exact⟨qj4 x o,ZiO (st:=fun(x:tqM)=>X36 ih x.2.1 x.u2) (prj:=fun x=>(x.1,x.u3,x.u4,x.u5,x.u6,x.v7)) (emb:=qj6) (embO:=qj4) (fun x=>(qj7 ih x).trans (by unfold X36 X2v;simp only[ZiG,Ziy,ZiH,Option.map_some,Option.map_none];rfl)) (fun _ _=>rfl) (fun _ _=>rfl) (fun _ _ _=>rfl) (fun _ _ _=>rfl) (fun _=>rfl) (Z29.1 h1),by first|exact h2|(rcases o with o|o<;>exact h2)⟩
def qja (ih:tqK->Option tqQ) {R:Type}:Z2L S R:=LE.ls X qj3 (qj5 ih) (qiX ih)
theorem qjb (ih:tqK->Option tqQ) (hih:ZbS X qiU ih) {R:Type}:Z45 X (qja ih (R:=R)):=ZiT xok qf9 (e:=qj3) (ZiL (e:=qiU) hih qiR) (qiY ih hih) (qj9 ih) (qiY ih hih)
theorem qjc (ih:tqK->Option tqQ) (x:tqM):PE.step X qiU qf8 (PE.ps X qiU (fun x q=>(ih x).bind q) qiQ) (qja ih) 12 x=X5p ih x.1 x.2.1 x.u2 x.u3 x.u4 x.u5 x.u6 x.v7:=by kernel_rfl
theorem qjd:ZbS X qiU X6U:=ZiM (X:=X) (e:=qiU) (t:=X5q) fun ih hih=>ZiU (Zil xok qf9 (ZiL (e:=qiU) hih qiR) (qjb ih hih) 12) fun x _ h=>(qjc ih x).trans h
def qje {R:Type}:Prs S R:=PE.ps X qiU (fun x q=>(X6U x).bind q) qiQ
theorem qjf {R:Type}:Z8r X (qje (R:=R)):=ZiL (e:=qiU) qjd qiR
def qjk:Key:=⟨[163],163,none,[0,0,1,0,1,1,1],0,9⟩
def qjl:StT S:=⟨(N (N (N L vT L) none L) vO (N (N L vT L) none L)),L,9⟩
def qjm:Way S:=⟨(.exit 0),⟨v1T,L,13⟩,[.int]⟩
def qjn:LE S:=⟨qjk,qjl,[.int,(.lst (.int .i64)),.int],[qjm]⟩
def qjo (x:Xae):Int->Int:=fun y0=>y0
def qjp {R:Type} (x:Xae) (k:Int->Option R):Option R:=(X3n x.2.1 (x.1,x.v2)).bind (fun y0=>k y0)
def qjq (x:Xae) (v:(Int×Int)):Xae:=(v.1,x.2.1,v.2)
theorem qjr (x:Xae):LE.step X qjn q2 qje q4 12 x=X1A x.2.1 x.1 x.v2 (fun w0 w1=>(Sum.inl (w0,x.2.1,w1))) (fun p0=>(Sum.inr p0)):=by kernel_rfl
theorem qjt {R:Type} (x:Xae) (k:Int->Option R) (r:R) (h:qjp x k=some r):∃o,Z5Q (LE.step X qjn q2 qje q4 12) x o/\k o=some r:=by
 obtain⟨o,h1,h2⟩:=Z0 h;exact⟨qjo x o,ZiO (st:=fun(x:Xae)=>X20 x.2.1) (prj:=fun x=>(x.1,x.v2)) (emb:=qjq) (embO:=qjo) (fun x=>(qjr x).trans (by unfold X20 X1A;simp only[ZiG,Ziy,ZiH,Option.map_some,Option.map_none];rfl)) (fun _ _=>rfl) (fun _ _=>rfl) (fun _ _ _=>rfl) (fun _ _ _=>rfl) (fun _=>rfl) (Z29.1 h1),by first|exact h2|(rcases o with o<;>exact h2)⟩
def qju {R:Type}:Z2L S R:=LE.ls X qjn qjp q4
theorem qjv {R:Type}:Z45 X (qju (R:=R)):=ZiT xok q3 (e:=qjn) qjf q5 qjt q5
theorem qjw (x0:List Int):ZiV X q2 [(.sl (.int .i64))] [(.int .i64)] qje qju 12 163 (x0,())=X1j x0:=by kernel_rfl
def qjx:F7 S:=⟨[(.sl (.int .i64))],[(.int .i64)],fun xs=>X3T xs.1⟩
theorem qjy:Z9R X 163 qjx:=ZiS (ZiR xok q3 qjf qjv 12 163) fun xs _ h=>((qjw xs.1).trans (X6J xs.1).symm).trans h
def qjz:StT S:=⟨(N (N (N L vT L) vR L) (some (.ptr 1 0)) (N L vT L)),(N (N L o4 L) os L),2⟩
def qjB:PE S:=⟨123,4,qjz,[.int,(.lst (.st 2)),.int,(.st 20),(.lst (.st 23)),.en,(.mp (.st 24) (.int .i64))],[qe9]⟩
def qjC:List (Nat×F7 S):=[(20,qaP),(116,qcq),(163,qjx)]
theorem qjD:Za2 X qjC:=⟨qaQ,qcr,qjy,trivial⟩
def qjG:Key:=⟨[123],123,none,[0,0,1,1,1,1,1,0,0,1,1,0,0,1,0,1,1],2,39⟩
def qjH:StT S:=⟨(N (N (N L vT v1S) none (N (N (N L vT L) (some (.ptr 3 0)) L) none L)) (some (.ptr 1 0)) (N (N (N (N L vR L) none L) none (N L (some (.ptr 18 0)) (N (N L vT L) none L))) vT (N (N (N L vT L) none L) none (N L vT L)))),o1C,39⟩
def qjI:Way S:=⟨(.exit 2),⟨v18,o1C,40⟩,[.int,.int,(.lst (.st 2)),.int,.int,(.arr (.int .i64)),(.st 20),(.lst (.st 23)),.en,(.mp (.st 24) (.int .i64)),(.arr (.st 5)),(.st 2)]⟩
def qjJ:LE S:=⟨qjG,qjH,[.int,.int,.int,(.lst (.st 2)),.int,.int,.int,.int,(.arr (.int .i64)),(.st 20),(.lst (.st 23)),.en,(.mp (.st 24) (.int .i64)),(.arr (.st 5)),(.st 2)],[qjI]⟩
def qjK (x:tqf):(Nat->Int)->tqi:=fun y0=>(x.1,x.u2,x.u3,x.u5,x.u6,y0,x.u9,x.u10,x.u11,x.u12,x.u13,x.v14)
def qjL {R:Type} (x:tqf) (k:tqi->Option R):Option R:=(X3A x.1 x.2.1 x.u2 x.u3 x.u5 x.u6 x.u7 x.u9 x.u10 x.u11 x.u12 x.u13 x.v14 (x.u4,x.u8)).bind (fun y0=>k (x.1,x.u2,x.u3,x.u5,x.u6,y0,x.u9,x.u10,x.u11,x.u12,x.u13,x.v14))
def qjM (x:tqf) (v:(Int×(Nat->Int))):tqf:=(x.1,x.2.1,x.u2,x.u3,v.1,x.u5,x.u6,x.u7,v.2,x.u9,x.u10,x.u11,x.u12,x.u13,x.v14)
theorem qjN (x:tqf):LE.step X qjJ qjC qje q4 12 x=X1G x.1 x.2.1 x.u2 x.u3 x.u5 x.u6 x.u7 x.u9 x.u10 x.u11 x.u12 x.u13 x.v14 x.u4 x.u8 (fun w0 w1=>(Sum.inl (x.1,x.2.1,x.u2,x.u3,w0,x.u5,x.u6,x.u7,w1,x.u9,x.u10,x.u11,x.u12,x.u13,x.v14))) (fun p0=>(Sum.inr (x.1,x.u2,x.u3,x.u5,x.u6,p0,x.u9,x.u10,x.u11,x.u12,x.u13,x.v14))):=by kernel_rfl
theorem qjP {R:Type} (x:tqf) (k:tqi->Option R) (r:R) (h:qjL x k=some r):∃o,Z5Q (LE.step X qjJ qjC qje q4 12) x o/\k o=some r:=by
 obtain⟨o,h1,h2⟩:=Z0 h;exact⟨qjK x o,ZiO (st:=fun(x:tqf)=>X2i x.1 x.2.1 x.u2 x.u3 x.u5 x.u6 x.u7 x.u9 x.u10 x.u11 x.u12 x.u13 x.v14) (prj:=fun x=>(x.u4,x.u8)) (emb:=qjM) (embO:=qjK) (fun x=>(qjN x).trans (by unfold X2i X1G;simp only[ZiG,Ziy,ZiH,Option.map_some,Option.map_none];rfl)) (fun _ _=>rfl) (fun _ _=>rfl) (fun _ _ _=>rfl) (fun _ _ _=>rfl) (fun _=>rfl) (Z29.1 h1),by first|exact h2|(rcases o with o<;>exact h2)⟩
def qjQ {R:Type}:Z2L S R:=LE.ls X qjJ qjL q4
theorem qjR {R:Type}:Z45 X (qjQ (R:=R)):=ZiT xok qjD (e:=qjJ) qjf q5 qjP q5
def qjS:Key:=⟨[123],123,none,[0,0,1,0,1,1],0,7⟩
def qjT:StT S:=⟨v18,(N (N (N L o7 L) o4 L) os L),7⟩
def qjU:Way S:=⟨(.exit 0),⟨(N (N L none v1Q) none L),(N (N (N L o7 L) o4 L) os L),8⟩,[(.arr (.int .i64)),(.st 20),(.lst (.st 23)),.en,(.mp (.st 24) (.int .i64))]⟩
def qjV:LE S:=⟨qjS,qjT,[.int,.int,(.lst (.st 2)),.int,.int,(.arr (.int .i64)),(.st 20),(.lst (.st 23)),.en,(.mp (.st 24) (.int .i64))],[qjU]⟩
def qjW (x:tqt):tqS->tqS:=fun y0=>(y0.1,y0.2.1,y0.u2,y0.u3,y0.v4)
def qjX {R:Type} (x:tqt) (k:tqS->Option R):Option R:=(X3z x.1 x.2.1 x.u2 x.u3 (x.u4,x.u5,x.u6,x.u7,x.u8,x.v9)).bind (fun y0=>k (y0.1,y0.2.1,y0.u2,y0.u3,y0.v4))
def qjY (x:tqt) (v:(Int×(Nat->Int)×ZS×(List Zt)×(Nat->Nat)×X1B)):tqt:=(x.1,x.2.1,x.u2,x.u3,v.1,v.2.1,v.u2,v.u3,v.u4,v.v5)
theorem qjZ (x:tqt):LE.step X qjV qjC qje qjQ 12 x=X1F x.1 x.2.1 x.u2 x.u3 x.u4 x.u5 x.u6 x.u7 x.u8 x.v9 (fun w0 w1 w2 w3 w4 w5=>(Sum.inl (x.1,x.2.1,x.u2,x.u3,w0,w1,w2,w3,w4,w5))) (fun p0 p1 p2 p3 p4=>(Sum.inr (p0,p1,p2,p3,p4))):=by kernel_rfl
theorem qk1 {R:Type} (x:tqt) (k:tqS->Option R) (r:R) (h:qjX x k=some r):∃o,Z5Q (LE.step X qjV qjC qje qjQ 12) x o/\k o=some r:=by
 obtain⟨o,h1,h2⟩:=Z0 h;exact⟨qjW x o,ZiO (st:=fun(x:tqt)=>X2h x.1 x.2.1 x.u2 x.u3) (prj:=fun x=>(x.u4,x.u5,x.u6,x.u7,x.u8,x.v9)) (emb:=qjY) (embO:=qjW) (fun x=>(qjZ x).trans (by unfold X2h X1F;simp only[ZiG,Ziy,ZiH,Option.map_some,Option.map_none];rfl)) (fun _ _=>rfl) (fun _ _=>rfl) (fun _ _ _=>rfl) (fun _ _ _=>rfl) (fun _=>rfl) (Z29.1 h1),by first|exact h2|(rcases o with o<;>exact h2)⟩
def qk2 {R:Type}:Z2L S R:=LE.ls X qjV qjX qjQ
theorem qk3 {R:Type}:Z45 X (qk2 (R:=R)):=ZiT xok qjD (e:=qjV) qjf qjR qk1 qjR
theorem qk4 (x:(Int×(List Point)×Int×ZS×(List Zt)×(Nat->Nat)×X1B)):PE.step X qjB qjC qje qk2 12 x=X1D x.1 x.2.1 x.u2 x.u3 x.u4 x.u5 x.v6:=by kernel_rfl
theorem qk5:ZbS X qjB X46:=ZiU (Zil xok qjD qjf qk3 12) fun x _ h=>((qk4 x).trans (X6V x).symm).trans h
def qk6 {R:Type}:Prs S R:=PE.ps X qjB (fun x q=>(X46 x).bind q) qje
theorem qk7 {R:Type}:Z8r X (qk6 (R:=R)):=ZiL (e:=qjB) qk5 qjf
theorem qkc (x0:ZS) (x1:Z7):ZiV X q2 [(.st 20),(.st 21)] [(.st 2)] qk6 q4 12 14 (x0,x1,())=X4k x0 x1:=by kernel_rfl
def qkd:F7 S:=⟨[(.st 20),(.st 21)],[(.st 2)],fun xs=>X71 xs.1 xs.2.1⟩
theorem qke:Z9R X 14 qkd:=ZiS (ZiR xok q3 qk7 q5 12 14) fun xs _ h=>((qkc xs.1 xs.2.1).trans (X8n xs.1 xs.2.1).symm).trans h
theorem qkj (x0:List Int) (x1:Int):ZiV X q2 [(.sl (.int .u16)),(.int .i64)] [(.int .i64)] qk6 q4 12 124 (x0,x1,())=X3b x0 x1:=by kernel_rfl
def qkk:F7 S:=⟨[(.sl (.int .u16)),(.int .i64)],[(.int .i64)],fun xs=>X6m xs.1 xs.2.1⟩
theorem qkl:Z9R X 124 qkk:=ZiS (ZiR xok q3 qk7 q5 12 124) fun xs _ h=>((qkj xs.1 xs.2.1).trans (X7v xs.1 xs.2.1).symm).trans h
theorem qkq (x0:ZN) (x1:Int):ZiV X q2 [(.st 5),(.int .i64)] [(.int .i64)] qk6 q4 12 74 (x0,x1,())=X2L x0 x1:=by kernel_rfl
def qkr:F7 S:=⟨[(.st 5),(.int .i64)],[(.int .i64)],fun xs=>X4K xs.1 xs.2.1⟩
theorem qks:Z9R X 74 qkr:=ZiS (ZiR xok q3 qk7 q5 12 74) fun xs _ h=>((qkq xs.1 xs.2.1).trans (X72 xs.1 xs.2.1).symm).trans h
def qkt:List (Nat×F7 S):=[(124,qkk),(74,qkr)]
theorem qku:Za2 X (qkt):=⟨qkl,qks,trivial⟩
theorem qkx (x0:ZS) (x1:Z7) (x2:Int):ZiV X qkt [(.st 20),(.st 21),(.int .i64)] [(.int .i64)] qk6 q4 12 72 (x0,x1,x2,())=X3B x0 x1 x2:=by kernel_rfl
def qky:F7 S:=⟨[(.st 20),(.st 21),(.int .i64)],[(.int .i64)],fun xs=>X7l xs.1 xs.2.1 xs.u2⟩
theorem qkz:Z9R X 72 qky:=ZiS (ZiR xok qku qk7 q5 12 72) fun xs _ h=>((qkx xs.1 xs.2.1 xs.u2).trans (X7X xs.1 xs.2.1 xs.u2).symm).trans h
def qkA:List (Nat×F7 S):=[(57,q3x)]
theorem qkB:Za2 X (qkA):=⟨q3y,trivial⟩
def qkE:Key:=⟨[73],73,none,[0,0,1,0,1],0,4⟩
def qkF:StT S:=⟨(N (N (N L (some (.ptr 1 0)) L) none (N L vT L)) none (N L (some (.ptr 0 0)) L)),(N (N L on L) of L),4⟩
def qkG:Way S:=⟨.ret,⟨v1S,(N (N L on L) of L),47⟩,[.int,(.st 2),(.st 20)]⟩
def qkH:Way S:=⟨(.exit 0),⟨L,(N (N L on L) of L),9⟩,[(.st 2),(.st 20)]⟩
def qkI:LE S:=⟨qkE,qkF,[.int,(.st 2),(.st 20)],[qkG,qkH]⟩
def qkJ (x:(Int×Point×ZS)):(Int⊕Unit)->((Int×Point×ZS)⊕(Point×ZS)):=Sum.elim (fun y0=>(.inl (y0,x.2.1,x.v2))) (fun y1=>(.inr (x.2.1,x.v2)))
def qkK {R:Type} (x:(Int×Point×ZS)) (k:((Int×Point×ZS)⊕(Point×ZS))->Option R):Option R:=(X3u x.2.1 x.v2 x.1).bind (Sum.elim (fun y0=>k (.inl (y0,x.2.1,x.v2))) (fun y1=>k (.inr (x.2.1,x.v2))))
def qkL (x:(Int×Point×ZS)) (v:Int):(Int×Point×ZS):=(v,x.2.1,x.v2)
theorem qkM (x:(Int×Point×ZS)):LE.step X qkI qkA qk6 q4 12 x=WB x.2.1 x.v2 x.1 (fun w0=>(Sum.inl (w0,x.2.1,x.v2))) (fun p0=>(Sum.inr (.inl (p0,x.2.1,x.v2)))) (Sum.inr (.inr (x.2.1,x.v2))):=by kernel_rfl
theorem qkO {R:Type} (x:(Int×Point×ZS)) (k:((Int×Point×ZS)⊕(Point×ZS))->Option R) (r:R) (h:qkK x k=some r):∃o,Z5Q (LE.step X qkI qkA qk6 q4 12) x o/\k o=some r:=by
 obtain⟨o,h1,h2⟩:=Z0 h;exact⟨qkJ x o,ZiO (st:=fun(x:(Int×Point×ZS))=>Wj x.2.1 x.v2) (prj:=fun x=>x.1) (emb:=qkL) (embO:=qkJ) (fun x=>(qkM x).trans (by unfold Wj WB;simp only[ZiG,Ziy,ZiH,Option.map_some,Option.map_none];rfl)) (fun _ _=>rfl) (fun _ _=>rfl) (fun _ _ _=>rfl) (fun _ _ _=>rfl) (fun _=>rfl) (Z29.1 h1),by first|exact h2|(rcases o with o|o<;>exact h2)⟩
def qkP {R:Type}:Z2L S R:=LE.ls X qkI qkK q4
theorem qkQ {R:Type}:Z45 X (qkP (R:=R)):=ZiT xok qkB (e:=qkI) qk7 q5 qkO q5
theorem qkR (x0:ZS) (x1:Point):ZiV X qkA [(.st 20),(.st 2)] [(.int .i64)] qk6 qkP 12 73 (x0,x1,())=X2n x0 x1:=by kernel_rfl
def qkS:F7 S:=⟨[(.st 20),(.st 2)],[(.int .i64)],fun xs=>X5f xs.1 xs.2.1⟩
theorem qkT:Z9R X 73 qkS:=ZiS (ZiR xok qkB qk7 qkQ 12 73) fun xs _ h=>((qkR xs.1 xs.2.1).trans (X6E xs.1 xs.2.1).symm).trans h
def qkU:List (Nat×F7 S):=[(56,q3q),(135,q7)]
theorem qkV:Za2 X (qkU):=⟨q3r,q8,trivial⟩
theorem qkY (x0:Zo) (x1 x2:Int):ZiV X qkU [(.st 8),(.int .i64),(.int .i64)] [(.int .i64)] qk6 q4 12 164 (x0,x1,x2,())=X2M x0 x1 x2:=by kernel_rfl
def qkZ:F7 S:=⟨[(.st 8),(.int .i64),(.int .i64)],[(.int .i64)],fun xs=>X79 xs.1 xs.2.1 xs.u2⟩
theorem ql0:Z9R X 164 qkZ:=ZiS (ZiR xok qkV qk7 q5 12 164) fun xs _ h=>((qkY xs.1 xs.2.1 xs.u2).trans (X7a xs.1 xs.2.1 xs.u2).symm).trans h
def ql5:Key:=⟨[165],165,none,[0,0,1,0,1,1],0,4⟩
def ql6:StT S:=⟨(N (N L vT (N L vT L)) none (N L (some (.ptr 0 0)) (N L vT L))),(N L oh L),4⟩
def ql7:Way S:=⟨(.exit 0),⟨v1Y,(N L oh L),9⟩,[.int,(.st 4)]⟩
def ql8:LE S:=⟨ql5,ql6,[.int,.int,.int,(.st 4)],[ql7]⟩
def ql9 (x:Xad):Int->(Int×ZC):=fun y0=>(y0,x.v3)
def qla {R:Type} (x:Xad) (k:(Int×ZC)->Option R):Option R:=(X4M x.1 x.v3 (x.2.1,x.u2)).bind (fun y0=>k (y0,x.v3))
def qlb (x:Xad) (v:(Int×Int)):Xad:=(x.1,v.1,v.2,x.v3)
theorem qlc (x:Xad):LE.step X ql8 q2 qk6 q4 12 x=W3 x.1 x.v3 x.2.1 x.u2 (fun w0 w1=>(Sum.inl (x.1,w0,w1,x.v3))) (fun p0=>(Sum.inr (p0,x.v3))):=by kernel_rfl
theorem qle {R:Type} (x:Xad) (k:(Int×ZC)->Option R) (r:R) (h:qla x k=some r):∃o,Z5Q (LE.step X ql8 q2 qk6 q4 12) x o/\k o=some r:=by
 obtain⟨o,h1,h2⟩:=Z0 h;exact⟨ql9 x o,ZiO (st:=fun(x:Xad)=>W1 x.1 x.v3) (prj:=fun x=>(x.2.1,x.u2)) (emb:=qlb) (embO:=ql9) (fun x=>(qlc x).trans (by unfold W1 W3;simp only[ZiG,Ziy,ZiH,Option.map_some,Option.map_none];rfl)) (fun _ _=>rfl) (fun _ _=>rfl) (fun _ _ _=>rfl) (fun _ _ _=>rfl) (fun _=>rfl) (Z29.1 h1),by first|exact h2|(rcases o with o<;>exact h2)⟩
def qlf {R:Type}:Z2L S R:=LE.ls X ql8 qla q4
theorem qlg {R:Type}:Z45 X (qlf (R:=R)):=ZiT xok q3 (e:=ql8) qk7 q5 qle q5
theorem qlh (x0:ZC) (x1:Int):ZiV X q2 [(.st 4),(.int .i64)] [(.int .i64)] qk6 qlf 12 165 (x0,x1,())=X1X x0 x1:=by kernel_rfl
def qli:F7 S:=⟨[(.st 4),(.int .i64)],[(.int .i64)],fun xs=>X3E xs.1 xs.2.1⟩
theorem qlj:Z9R X 165 qli:=ZiS (ZiR xok q3 qk7 qlg 12 165) fun xs _ h=>((qlh xs.1 xs.2.1).trans (X6a xs.1 xs.2.1).symm).trans h
def qlk:List (Nat×F7 S):=[(164,qkZ),(165,qli)]
theorem qll:Za2 X (qlk):=⟨ql0,qlj,trivial⟩
theorem qlo (x0:Zo) (x1 x2:Int):ZiV X qlk [(.st 8),(.int .i64),(.int .i64)] [(.int .i64)] qk6 q4 12 125 (x0,x1,x2,())=X1y x0 x1 x2:=by kernel_rfl
def qlp:F7 S:=⟨[(.st 8),(.int .i64),(.int .i64)],[(.int .i64)],fun xs=>X5G xs.1 xs.2.1 xs.u2⟩
theorem qlq:Z9R X 125 qlp:=ZiS (ZiR xok qll qk7 q5 12 125) fun xs _ h=>((qlo xs.1 xs.2.1 xs.u2).trans (X5V xs.1 xs.2.1 xs.u2).symm).trans h
theorem qlv (x0:Point):ZiV X q2 [(.st 2)] [(.st 2)] qk6 q4 12 183 (x0,())=X84 x0:=by kernel_rfl
def qlw:F7 S:=⟨[(.st 2)],[(.st 2)],fun xs=>X84 xs.1⟩
theorem qlx:Z9R X 183 qlw:=ZiS (ZiR xok q3 qk7 q5 12 183) fun xs _ h=>(qlv xs.1).trans h
def qly (ih:(Int×Unit)->Option (Point)):List (Nat×F7 S):=[(183,qlw),(166,⟨[(.int .i64)],[(.st 2)],ih⟩)]
theorem qlz (ih:(Int×Unit)->Option (Point)) (hih:Z9R X 166 ⟨[(.int .i64)],[(.st 2)],ih⟩):Za2 X (qly ih):=⟨qlx,hih,trivial⟩
abbrev qlA (ih:(Int×Unit)->Option (Point)) {R:Type}:Z2L S R:=ZhI
theorem qlB (ih:(Int×Unit)->Option (Point)) (hih:Z9R X 166 ⟨[(.int .i64)],[(.st 2)],ih⟩) {R:Type}:Z45 X (qlA ih (R:=R)):=Zih X
theorem qlC (ih:(Int×Unit)->Option (Point)) (x0:Int):ZiV X (qly ih) [(.int .i64)] [(.st 2)] qk6 (qlA ih) 12 166 (x0,())=X2W ih x0:=by kernel_rfl
def qlD:F7 S:=⟨[(.int .i64)],[(.st 2)],fun xs=>X4G xs.1⟩
theorem qlE:Z9R X 166 qlD:=ZjW (X:=X) (g:=166) (pts:=[(.int .i64)]) (rts:=[(.st 2)]) (t:=X8) fun ih hih=>ZiS (ZiR xok (qlz ih hih) qk7 (qlB ih hih) 12 166) fun xs _ h=>(qlC ih xs.1).trans h
def qlF:List (Nat×F7 S):=[(166,qlD),(80,q1Z)]
theorem qlG:Za2 X (qlF):=⟨qlE,q20,trivial⟩
def qlJ:Key:=⟨[126],126,none,[0,0,0,1,1],0,3⟩
def qlK:StT S:=⟨(N (N (N L vT L) (some (.ptr 0 0)) L) none L),(N L on L),3⟩
def qlL:Way S:=⟨(.exit 0),⟨v1T,(N L on L),17⟩,[.int,(.st 2)]⟩
def qlM:LE S:=⟨qlJ,qlK,[.int,(.st 2)],[qlL]⟩
def qlN (x:(Int×Point)):Int->(Int×Point):=fun y0=>(y0,x.2)
def qlO {R:Type} (x:(Int×Point)) (k:(Int×Point)->Option R):Option R:=(X57 x.2 x.1).bind (fun y0=>k (y0,x.2))
def qlP (x:(Int×Point)) (v:Int):(Int×Point):=(v,x.2)
theorem qlQ (x:(Int×Point)):LE.step X qlM qlF qk6 q4 12 x=Wy x.2 x.1 (fun w0=>(Sum.inl (w0,x.2))) (fun p0=>(Sum.inr (p0,x.2))):=by kernel_rfl
theorem qlS {R:Type} (x:(Int×Point)) (k:(Int×Point)->Option R) (r:R) (h:qlO x k=some r):∃o,Z5Q (LE.step X qlM qlF qk6 q4 12) x o/\k o=some r:=by
 obtain⟨o,h1,h2⟩:=Z0 h;exact⟨qlN x o,ZiO (st:=fun(x:(Int×Point))=>Wg x.2) (prj:=fun x=>x.1) (emb:=qlP) (embO:=qlN) (fun x=>(qlQ x).trans (by unfold Wg Wy;simp only[ZiG,Ziy,ZiH,Option.map_some,Option.map_none];rfl)) (fun _ _=>rfl) (fun _ _=>rfl) (fun _ _ _=>rfl) (fun _ _ _=>rfl) (fun _=>rfl) (Z29.1 h1),by first|exact h2|(rcases o with o<;>exact h2)⟩
def qlT {R:Type}:Z2L S R:=LE.ls X qlM qlO q4
theorem qlU {R:Type}:Z45 X (qlT (R:=R)):=ZiT xok qlG (e:=qlM) qk7 q5 qlS q5
theorem qlV (x0:Point):ZiV X qlF [(.st 2)] [(.int .i64)] qk6 qlT 12 126 (x0,())=X1i x0:=by kernel_rfl
def qlW:F7 S:=⟨[(.st 2)],[(.int .i64)],fun xs=>X1i xs.1⟩
theorem qlX:Z9R X 126 qlW:=ZiS (ZiR xok qlG qk7 qlU 12 126) fun xs _ h=>(qlV xs.1).trans h
def qlY:List (Nat×F7 S):=[(125,qlp),(111,qZ),(81,q1S),(126,qlW)]
theorem qlZ:Za2 X (qlY):=⟨qlq,q10,q1T,qlX,trivial⟩
theorem qm2 (x0:Zo) (x1 x2:Int) (x3:Point):ZiV X qlY [(.st 8),(.int .i64),(.int .i64),(.st 2)] [(.int .i64),(.int .i64)] qk6 q4 12 75 (x0,x1,x2,x3,())=X3d x0 x1 x2 x3:=by kernel_rfl
def qm3:F7 S:=⟨[(.st 8),(.int .i64),(.int .i64),(.st 2)],[(.int .i64),(.int .i64)],fun xs=>X6o xs.1 xs.2.1 xs.u2 xs.u3⟩
theorem qm4:Z9R X 75 qm3:=ZiS (ZiR xok qlZ qk7 q5 12 75) fun xs _ h=>((qm2 xs.1 xs.2.1 xs.u2 xs.u3).trans (X7z xs.1 xs.2.1 xs.u2 xs.u3).symm).trans h
def qm5:List (Nat×F7 S):=[(57,q3x),(165,qli)]
theorem qm6:Za2 X (qm5):=⟨q3y,qlj,trivial⟩
theorem qm9 (x0:ZS) (x1:Zt):ZiV X qm5 [(.st 20),(.st 23)] [(.int .i64)] qk6 q4 12 167 (x0,x1,())=X2O x0 x1:=by kernel_rfl
def qma:F7 S:=⟨[(.st 20),(.st 23)],[(.int .i64)],fun xs=>X5X xs.1 xs.2.1⟩
theorem qmb:Z9R X 167 qma:=ZiS (ZiR xok qm6 qk7 q5 12 167) fun xs _ h=>((qm9 xs.1 xs.2.1).trans (X7e xs.1 xs.2.1).symm).trans h
def qmc:List (Nat×F7 S):=[(11,q4q),(167,qma)]
theorem qmd:Za2 X (qmc):=⟨q4r,qmb,trivial⟩
def qmg:Key:=⟨[127],127,none,[0,0,1,0,1,1,1,1],0,22⟩
def qmh:StT S:=⟨(N (N L vQ (N (N L vT L) none L)) none (N L (some (.ptr 0 0)) L)),(N L of L),22⟩
def qmi:Way S:=⟨.ret,⟨v1J,(N L of L),39⟩,[.int,.int,(.st 20)]⟩
def qmj:Way S:=⟨(.exit 0),⟨L,(N L of L),26⟩,[(.st 20)]⟩
def qmk:LE S:=⟨qmg,qmh,[(.lst (.st 23)),.int,(.st 20)],[qmi,qmj]⟩
def qml (x:Xac):((Int×Int)⊕Unit)->((Int×Int×ZS)⊕ZS):=Sum.elim (fun y0=>(.inl (y0.1,y0.2,x.v2))) (fun y1=>(.inr x.v2))
def qmm {R:Type} (x:Xac) (k:((Int×Int×ZS)⊕ZS)->Option R):Option R:=(X1Y x.1 x.v2 x.2.1).bind (Sum.elim (fun y0=>k (.inl (y0.1,y0.2,x.v2))) (fun y1=>k (.inr x.v2)))
def qmn (x:Xac) (v:Int):Xac:=(x.1,v,x.v2)
theorem qmo (x:Xac):LE.step X qmk qmc qk6 q4 12 x=Xq x.1 x.v2 x.2.1 (fun w0=>(Sum.inl (x.1,w0,x.v2))) (fun p0 p1=>(Sum.inr (.inl (p0,p1,x.v2)))) (Sum.inr (.inr x.v2)):=by kernel_rfl
theorem qmq {R:Type} (x:Xac) (k:((Int×Int×ZS)⊕ZS)->Option R) (r:R) (h:qmm x k=some r):∃o,Z5Q (LE.step X qmk qmc qk6 q4 12) x o/\k o=some r:=by
 obtain⟨o,h1,h2⟩:=Z0 h;exact⟨qml x o,ZiO (st:=fun(x:Xac)=>Xi x.1 x.v2) (prj:=fun x=>x.2.1) (emb:=qmn) (embO:=qml) (fun x=>(qmo x).trans (by unfold Xi Xq;simp only[ZiG,Ziy,ZiH,Option.map_some,Option.map_none];rfl)) (fun _ _=>rfl) (fun _ _=>rfl) (fun _ _ _=>rfl) (fun _ _ _=>rfl) (fun _=>rfl) (Z29.1 h1),by first|exact h2|(rcases o with o|o<;>exact h2)⟩
def qmr {R:Type}:Z2L S R:=LE.ls X qmk qmm q4
theorem qms {R:Type}:Z45 X (qmr (R:=R)):=ZiT xok qmd (e:=qmk) qk7 q5 qmq q5
theorem qmt (x0:ZS) (x1:List Zt):ZiV X qmc [(.st 20),(.sl (.st 23))] [(.int .i64),(.int .i64)] qk6 qmr 12 127 (x0,x1,())=W4 x0 x1:=by kernel_rfl
def qmu:F7 S:=⟨[(.st 20),(.sl (.st 23))],[(.int .i64),(.int .i64)],fun xs=>X2X xs.1 xs.2.1⟩
theorem qmv:Z9R X 127 qmu:=ZiS (ZiR xok qmd qk7 qms 12 127) fun xs _ h=>((qmt xs.1 xs.2.1).trans (X4P xs.1 xs.2.1).symm).trans h
def qmw:List (Nat×F7 S):=[(127,qmu)]
theorem qmx:Za2 X (qmw):=⟨qmv,trivial⟩
theorem qmA (x0:ZS) (x1:List Zt):ZiV X qmw [(.st 20),(.sl (.st 23))] [.bool] qk6 q4 12 76 (x0,x1,())=X3a x0 x1:=by kernel_rfl
def qmB:F7 S:=⟨[(.st 20),(.sl (.st 23))],[.bool],fun xs=>X4B xs.1 xs.2.1⟩
theorem qmC:Z9R X 76 qmB:=ZiS (ZiR xok qmx qk7 q5 12 76) fun xs _ h=>((qmA xs.1 xs.2.1).trans (X7t xs.1 xs.2.1).symm).trans h
theorem qmH (x0:ZN) (x1:Int):ZiV X q2 [(.st 5),(.int .i64)] [(.int .i64)] qk6 q4 12 18 (x0,x1,())=X1W x0 x1:=by kernel_rfl
def qmI:F7 S:=⟨[(.st 5),(.int .i64)],[(.int .i64)],fun xs=>X3D xs.1 xs.2.1⟩
theorem qmJ:Z9R X 18 qmI:=ZiS (ZiR xok q3 qk7 q5 12 18) fun xs _ h=>((qmH xs.1 xs.2.1).trans (X67 xs.1 xs.2.1).symm).trans h
def qmO:Key:=⟨[19],19,none,[0,0,1,0,1,1],0,8⟩
def qmP:StT S:=⟨(N (N (N (N L vR L) none L) none (N L (some (.ptr 2 0)) L)) none (N v1R none L)),(N (N L on L) ol (N L on L)),8⟩
def qmQ:Way S:=⟨.ret,⟨(N L none (N L none (N L vU L))),(N (N L on L) ol (N L on L)),38⟩,[.bool,(.st 2),(.st 7),(.st 2)]⟩
def qmR:Way S:=⟨(.exit 0),⟨L,(N (N L on L) ol (N L on L)),12⟩,[(.st 2),(.st 7),(.st 2)]⟩
def qmS:LE S:=⟨qmO,qmP,[(.lst (.st 2)),.int,(.st 2),(.st 7),(.st 2)],[qmQ,qmR]⟩
def qmT (x:Xaj):(Bool⊕Unit)->Xbc:=Sum.elim (fun y0=>(.inl (y0,x.u2,x.u3,x.v4))) (fun y1=>(.inr (x.u2,x.u3,x.v4)))
def qmU {R:Type} (x:Xaj) (k:Xbc->Option R):Option R:=(X4n x.1 x.u2 x.u3 x.v4 x.2.1).bind (Sum.elim (fun y0=>k (.inl (y0,x.u2,x.u3,x.v4))) (fun y1=>k (.inr (x.u2,x.u3,x.v4))))
def qmV (x:Xaj) (v:Int):Xaj:=(x.1,v,x.u2,x.u3,x.v4)
theorem qmW (x:Xaj):LE.step X qmS q21 qk6 q4 12 x=X1v x.1 x.u2 x.u3 x.v4 x.2.1 (fun w0=>(Sum.inl (x.1,w0,x.u2,x.u3,x.v4))) (fun p0=>(Sum.inr (.inl (p0,x.u2,x.u3,x.v4)))) (Sum.inr (.inr (x.u2,x.u3,x.v4))):=by kernel_rfl
theorem qmY {R:Type} (x:Xaj) (k:Xbc->Option R) (r:R) (h:qmU x k=some r):∃o,Z5Q (LE.step X qmS q21 qk6 q4 12) x o/\k o=some r:=by
 obtain⟨o,h1,h2⟩:=Z0 h;exact⟨qmT x o,ZiO (st:=fun(x:Xaj)=>X1l x.1 x.u2 x.u3 x.v4) (prj:=fun x=>x.2.1) (emb:=qmV) (embO:=qmT) (fun x=>(qmW x).trans (by unfold X1l X1v;simp only[ZiG,Ziy,ZiH,Option.map_some,Option.map_none];rfl)) (fun _ _=>rfl) (fun _ _=>rfl) (fun _ _ _=>rfl) (fun _ _ _=>rfl) (fun _=>rfl) (Z29.1 h1),by first|exact h2|(rcases o with o|o<;>exact h2)⟩
def qmZ {R:Type}:Z2L S R:=LE.ls X qmS qmU q4
theorem qn0 {R:Type}:Z45 X (qmZ (R:=R)):=ZiT xok q22 (e:=qmS) qk7 q5 qmY q5
theorem qn1 (x0:CtSand) (x1 x2:Point):ZiV X q21 [(.st 7),(.st 2),(.st 2)] [.bool] qk6 qmZ 12 19 (x0,x1,x2,())=X5C x0 x1 x2:=by kernel_rfl
def qn2:F7 S:=⟨[(.st 7),(.st 2),(.st 2)],[.bool],fun xs=>X5C xs.1 xs.2.1 xs.u2⟩
theorem qn3:Z9R X 19 qn2:=ZiS (ZiR xok q22 qk7 qn0 12 19) fun xs _ h=>(qn1 xs.1 xs.2.1 xs.u2).trans h
def qn4:StT S:=⟨(N (N L (some (.agg [(.stc 21 (T.dflt 21))])) L) vu L),L,0⟩
def qn5:Way S:=⟨.ret,⟨(N L (some (.rs 0 0)) L),(N L oE L),1⟩,[(.lst (.st 23))]⟩
def qn6:PE S:=⟨13,2,qn4,[(.st 21),(.st 20)],[qn5]⟩
def qn7:List (Nat×F7 S):=[(14,qkd),(72,qky),(73,qkS),(74,qkr),(75,qm3),(76,qmB)]
theorem qn8:Za2 X qn7:=⟨qke,qkz,qkT,qks,qm4,qmC,trivial⟩
def qnb:Key:=⟨[13],13,none,[0,0,1,0,1,1,1],0,10⟩
def qnc:StT S:=⟨(N (N v1R none (N L (some (.rs 10 0)) L)) none (N L (some (.ptr 0 0)) (N L (some (.ptr 7 0)) L))),o1h,11⟩
def qnd:Way S:=⟨(.exit 0),⟨(N (N L none (N L (some (.rs 10 0)) L)) none L),o1h,22⟩,[(.st 2),(.st 21),(.st 20),(.lst (.st 23))]⟩
def qne:LE S:=⟨qnb,qnc,[.int,(.st 2),(.st 21),(.st 20),(.lst (.st 23))],[qnd]⟩
def qnf (x:Xaf):(List Zt)->Xbi:=fun y0=>(x.2.1,x.u2,x.u3,y0)
def qng {R:Type} (x:Xaf) (k:Xbi->Option R):Option R:=(X39 x.2.1 x.u2 x.u3 (x.1,x.v4)).bind (fun y0=>k (x.2.1,x.u2,x.u3,y0))
def qnh (x:Xaf) (v:(Int×(List Zt))):Xaf:=(v.1,x.2.1,x.u2,x.u3,v.2)
theorem qni (x:Xaf):LE.step X qne qn7 qk6 q4 12 x=Xf x.2.1 x.u2 x.u3 x.1 x.v4 (fun w0 w1=>(Sum.inl (w0,x.2.1,x.u2,x.u3,w1))) (fun p0=>(Sum.inr (x.2.1,x.u2,x.u3,p0))):=by kernel_rfl
theorem qnk {R:Type} (x:Xaf) (k:Xbi->Option R) (r:R) (h:qng x k=some r):∃o,Z5Q (LE.step X qne qn7 qk6 q4 12) x o/\k o=some r:=by
 obtain⟨o,h1,h2⟩:=Z0 h;exact⟨qnf x o,ZiO (st:=fun(x:Xaf)=>Xe x.2.1 x.u2 x.u3) (prj:=fun x=>(x.1,x.v4)) (emb:=qnh) (embO:=qnf) (fun x=>(qni x).trans (by unfold Xe Xf;simp only[ZiG,Ziy,ZiH,Option.map_some,Option.map_none];rfl)) (fun _ _=>rfl) (fun _ _=>rfl) (fun _ _ _=>rfl) (fun _ _ _=>rfl) (fun _=>rfl) (Z29.1 h1),by first|exact h2|(rcases o with o<;>exact h2)⟩
def qnl {R:Type}:Z2L S R:=LE.ls X qne qng q4
theorem qnm {R:Type}:Z45 X (qnl (R:=R)):=ZiT xok qn8 (e:=qne) qk7 q5 qnk q5
theorem qnn (x:(Z7×ZS)):PE.step X qn6 qn7 qk6 qnl 12 x=X1V x.1 x.2:=by kernel_rfl
theorem qno:ZbS X qn6 X3C:=ZiU (Zil xok qn8 qk7 qnm 12) fun x _ h=>((qnn x).trans (X65 x).symm).trans h
def qnp {R:Type}:Prs S R:=PE.ps X qn6 (fun x q=>(X3C x).bind q) qk6
theorem qnq {R:Type}:Z8r X (qnp (R:=R)):=ZiL (e:=qn6) qno qk7
end
end Nore
