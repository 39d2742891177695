/- The code comes to the plain functions. -/
import Derived.Test.YtlgmncmjacjgmaaGreatDoorY
import Derived.Test.YtlgmncmjacjgmaaGreatDoorD
set_option linter.unusedSectionVars false
set_option linter.unusedVariables false
set_option linter.unusedSimpArgs false
set_option maxRecDepth 100000
open Go Go.Ab Go.Proofs Go.Proofs.YtlgmncmjacjgmaaGreatDoor
open Go.Ab.Tr renaming node->N,leaf->L
namespace Prod
abbrev v2 {a b s:Type} (x:a×b×s):=x.2.2
abbrev u2 {a b r s:Type} (x:a×b×r×s):=x.2.2.1
abbrev v3 {a b c s:Type} (x:a×b×c×s):=x.2.2.2
abbrev u3 {a b c r s:Type} (x:a×b×c×r×s):=x.2.2.2.1
abbrev v4 {a b c d s:Type} (x:a×b×c×d×s):=x.2.2.2.2
abbrev u4 {a b c d r s:Type} (x:a×b×c×d×r×s):=x.2.2.2.2.1
abbrev v5 {a b c d e s:Type} (x:a×b×c×d×e×s):=x.2.2.2.2.2
abbrev u5 {a b c d e r s:Type} (x:a×b×c×d×e×r×s):=x.2.2.2.2.2.1
abbrev v6 {a b c d e f s:Type} (x:a×b×c×d×e×f×s):=x.2.2.2.2.2.2
abbrev u6 {a b c d e f r s:Type} (x:a×b×c×d×e×f×r×s):=x.2.2.2.2.2.2.1
abbrev v7 {a b c d e f g s:Type} (x:a×b×c×d×e×f×g×s):=x.2.2.2.2.2.2.2
abbrev u7 {a b c d e f g r s:Type} (x:a×b×c×d×e×f×g×r×s):=x.2.2.2.2.2.2.2.1
abbrev v8 {a b c d e f g h s:Type} (x:a×b×c×d×e×f×g×h×s):=x.2.2.2.2.2.2.2.2
abbrev u8 {a b c d e f g h r s:Type} (x:a×b×c×d×e×f×g×h×r×s):=x.2.2.2.2.2.2.2.2.1
abbrev v9 {a b c d e f g h i s:Type} (x:a×b×c×d×e×f×g×h×i×s):=x.2.2.2.2.2.2.2.2.2
abbrev u9 {a b c d e f g h i r s:Type} (x:a×b×c×d×e×f×g×h×i×r×s):=x.2.2.2.2.2.2.2.2.2.1
abbrev v10 {a b c d e f g h i j s:Type} (x:a×b×c×d×e×f×g×h×i×j×s):=x.2.2.2.2.2.2.2.2.2.2
abbrev u10 {a b c d e f g h i j r s:Type} (x:a×b×c×d×e×f×g×h×i×j×r×s):=x.2.2.2.2.2.2.2.2.2.2.1
abbrev v11 {a b c d e f g h i j k s:Type} (x:a×b×c×d×e×f×g×h×i×j×k×s):=x.2.2.2.2.2.2.2.2.2.2.2
abbrev u11 {a b c d e f g h i j k r s:Type} (x:a×b×c×d×e×f×g×h×i×j×k×r×s):=x.2.2.2.2.2.2.2.2.2.2.2.1
abbrev u12 {a b c d e f g h i j k l r s:Type} (x:a×b×c×d×e×f×g×h×i×j×k×l×r×s):=x.2.2.2.2.2.2.2.2.2.2.2.2.1
abbrev u13 {a b c d e f g h i j k l m r s:Type} (x:a×b×c×d×e×f×g×h×i×j×k×l×m×r×s):=x.2.2.2.2.2.2.2.2.2.2.2.2.2.1
abbrev u14 {a b c d e f g h i j k l m n r s:Type} (x:a×b×c×d×e×f×g×h×i×j×k×l×m×n×r×s):=x.2.2.2.2.2.2.2.2.2.2.2.2.2.2.1
abbrev u15 {a b c d e f g h i j k l m n o r s:Type} (x:a×b×c×d×e×f×g×h×i×j×k×l×m×n×o×r×s):=x.2.2.2.2.2.2.2.2.2.2.2.2.2.2.2.1
abbrev u16 {a b c d e f g h i j k l m n o p r s:Type} (x:a×b×c×d×e×f×g×h×i×j×k×l×m×n×o×p×r×s):=x.2.2.2.2.2.2.2.2.2.2.2.2.2.2.2.2.1
abbrev u17 {a b c d e f g h i j k l m n o p q r s:Type} (x:a×b×c×d×e×f×g×h×i×j×k×l×m×n×o×p×q×r×s):=x.2.2.2.2.2.2.2.2.2.2.2.2.2.2.2.2.2.1
abbrev u18 {a b c d e f g h i j k l m n o p q t r s:Type} (x:a×b×c×d×e×f×g×h×i×j×k×l×m×n×o×p×q×t×r×s):=x.2.2.2.2.2.2.2.2.2.2.2.2.2.2.2.2.2.2.1
abbrev u19 {a b c d e f g h i j k l m n o p q t u r s:Type} (x:a×b×c×d×e×f×g×h×i×j×k×l×m×n×o×p×q×t×u×r×s):=x.2.2.2.2.2.2.2.2.2.2.2.2.2.2.2.2.2.2.2.1
abbrev u20 {a b c d e f g h i j k l m n o p q t u v r s:Type} (x:a×b×c×d×e×f×g×h×i×j×k×l×m×n×o×p×q×t×u×v×r×s):=x.2.2.2.2.2.2.2.2.2.2.2.2.2.2.2.2.2.2.2.2.1
abbrev u21 {a b c d e f g h i j k l m n o p q t u v w r s:Type} (x:a×b×c×d×e×f×g×h×i×j×k×l×m×n×o×p×q×t×u×v×w×r×s):=x.2.2.2.2.2.2.2.2.2.2.2.2.2.2.2.2.2.2.2.2.2.1
abbrev u22 {a b c d e f g h i j k l m n o p q t u v w x r s:Type} (x:a×b×c×d×e×f×g×h×i×j×k×l×m×n×o×p×q×t×u×v×w×x×r×s):=x.2.2.2.2.2.2.2.2.2.2.2.2.2.2.2.2.2.2.2.2.2.2.1
abbrev v23 {a b c d e f g h i j k l m n o p q t u v w x y s:Type} (x:a×b×c×d×e×f×g×h×i×j×k×l×m×n×o×p×q×t×u×v×w×x×y×s):=x.2.2.2.2.2.2.2.2.2.2.2.2.2.2.2.2.2.2.2.2.2.2.2
abbrev u23 {a b c d e f g h i j k l m n o p q t u v w x y r s:Type} (x:a×b×c×d×e×f×g×h×i×j×k×l×m×n×o×p×q×t×u×v×w×x×y×r×s):=x.2.2.2.2.2.2.2.2.2.2.2.2.2.2.2.2.2.2.2.2.2.2.2.1
abbrev v24 {a b c d e f g h i j k l m n o p q t u v w x y z s:Type} (x:a×b×c×d×e×f×g×h×i×j×k×l×m×n×o×p×q×t×u×v×w×x×y×z×s):=x.2.2.2.2.2.2.2.2.2.2.2.2.2.2.2.2.2.2.2.2.2.2.2.2
end Prod
namespace Nore
noncomputable section
abbrev tqR:Type:=Int×Int×Int×Unit
abbrev tqQ:Type:=Int×(List Y2)×Int
abbrev tqP:Type:=Int×Int×(List Int)×Int
abbrev tqO:Type:=(List Int)×Int×(List Int)
abbrev tqN:Type:=Bool×(List Int)×(List Int)
abbrev tqM:Type:=(List Zr)×Int×CoRecord
abbrev tqL:Type:=Int×(List Zq)×Int×Int
abbrev tqK:Type:=Int×(List ByteArray)×CoRecord
abbrev tqJ:Type:=Int×ByteArray×ByteArray×Nat
abbrev tqI:Type:=ByteArray×Int×(List ByteArray)
abbrev tqH:Type:=Int×(List Int)×Int×Int×Int
abbrev tqG:Type:=Int×Int×Int×(List (List Int))
abbrev tqF:Type:=Int×Int×(List Y2)×Int×Int
abbrev tqE:Type:=(List Int)×Int×Int×Int×Unit
abbrev tqD:Type:=(List Int)×Int×Zr×CoRecord
abbrev tqC:Type:=Int×(List Zr)×Int×CoRecord
abbrev tqB:Type:=Int×(List Zq)×Int×CoRecord
abbrev tqA:Type:=Int×(List Zm)×Int×CoRecord
abbrev tqz:Type:=Int×(List Zm)×Int×Zm
abbrev tqy:Type:=Int×Int×(List ByteArray)×CoRecord
abbrev tqx:Type:=Int×(List Int)×CoRecord×(List Int)
abbrev tqw:Type:=Int×(List Int)×(List Int)×(List Int)×Int
abbrev tqv:Type:=CoRecord×(List Zr)×Z8×Unit
abbrev tqu:Type:=(List Zr)×Int×Zr×CoRecord×(List Int)
abbrev tqt:Type:=Int×(List Int)×(List Zr)×Int×(List Zr)
abbrev tqs:Type:=Int×(List Zr)×Int×Int×CoRecord×(List Int)
abbrev tqr:Type:=(List Zr)×(List (List Int))×Int×Int×CoRecord
abbrev tqq:Type:=Int×(List Zr)×Int×Bool×(List Int)×CoRecord
abbrev tqp:Type:=Bool×(List Int)×(List Z6)×(List Int)
abbrev tqo:Type:=Int×Int×Int×Int×Zc×(List (Int×Int))
abbrev tqn:Type:=Int×(List (List Int))×Int×Int×Int×(List (List Int))
abbrev tqm:Type:=Bool×Int×(List Int)×(List Z6)×(List Int)
abbrev tql:Type:=Int×Bool×(List Int)×(List Z6)×(List Int)
abbrev tqk:Type:=Int×Int×Int×Int×Int×CoRecord×(List Z6)
abbrev tqj:Type:=(List Zr)×Int×Int×Zc×Zr×CoRecord×(List Int)
abbrev tqi:Type:=Int×Int×(List Zb)×(Nat->Y2)×Zc×(Nat->Y2)
abbrev tqh:Type:=Int×Int×Int×(List Zb)×(Nat->Y2)×Zc×(Nat->Y2)
abbrev tqg:Type:=Int×(List Zq)×Int×Zc×Zc×(Nat->Y2)×Bool×Zc
abbrev tqf:Type:=((Nat->Y2)×Int×(List Zb)×Zc×Bool×Zc×Zc)
abbrev tqe:Type:=Zb×Zc×Bool×Bool×Zc×Zb×Zc×Zq
abbrev tqd:Type:=(List Zr)×(List Z6)×Int×Z8×CoRecord×(List Z8)
abbrev tqc:Type:=(List Zb)×Int×Int×Int×Int×(List Zb)×(Nat->Y2)×Zc×(Nat->Y2)
abbrev tqb:Type:=Zb×Zc×Bool×(Nat->Y2)×Bool×Zc×Zb×Zc×Zq
abbrev tqa:Type:=Int×Int×(List Zr)×(List Zr)×Int×Int×Int×Bool×(List Zr)×CoRecord×(List Int)×(List Int)
abbrev tq9:Type:=Int×Int×Int×Int×Int×Int×(List Zb)×(List Zb)×(Nat->Y2)×Zc×(Nat->Y2)
abbrev tq8:Type:=((Bool×Zc×Bool×Zc×Zc)⊕(Bool×Zc×Bool×Zc×Zc))
abbrev tq7:Type:=Zb×Zc×Bool×Bool×Zc×Zb×(List Zb)×(List Zb)×Zc×Zq
abbrev tq6:Type:=(List Zb)×Zb×Zc×Bool×(Nat->Y2)×Bool×Zc×Zb×(List Zb)×Zc×Zq
abbrev tq5:Type:=Zb×Zc×(List Zb)×Bool×(Nat->Y2)×Bool×Zc×Zb×Zc×Zq×(List Zb)
abbrev tq4:Type:=Zb×Zc×Bool×(Nat->Y2)×Bool×Zc×(List Zb)×Zb×Zc×Zq×(List Zb)
abbrev tq3:Type:=Int×Int×Int×(Nat->Y2)×Zb×Zc×Bool×(Nat->Y2)×Bool×Int×Zc×(List Zq)×(List Zq)×Zr×(List Zb)×Zc×Zc×Int×Int×Bool×(Nat->Y2)×Bool×Int×Bool
abbrev tq2:Type:=(Nat->Y2)×Zb×Zc×Bool×(Nat->Y2)×(Nat->Y2)×Bool×Int×Zc×(List Zq)×Zb×(List Zq)×Zr×(List Zb)×Zc×Zc×Zq×Int×Int×Bool×(Nat->Y2)×Bool×Int×Bool
abbrev tq1:Type:=Int×Int×Int×(Nat->Y2)×Zb×Zc×Bool×(Nat->Y2)×Bool×Int×Zc×(List Zq)×(List Zq)×Zr×(List Zb)×Zc×Zc×Int×Int×Bool×(Nat->Y2)×Bool×Int×Bool×(List Zb)
abbrev tq0:Type:=(Nat->Y2)×Zb×Zc×Bool×(Nat->Y2)×(Nat->Y2)×Bool×Int×Zc×(List Zq)×Zb×(List Zq)×Zr×(List Zb)×Zc×Zc×Zq×Int×Int×Bool×(Nat->Y2)×Bool×Int×Bool×(List Zb)
abbrev vB:Option (TV S):=some (.bool false)
abbrev vA:Option (TV S):=some (.int .i64 0)
abbrev vz:Option (TV S):=some (.sl (.st 28) [])
abbrev vy:Option (TV S):=some (.sl (.st 21) [])
abbrev vx:Option (TV S):=some (.sl (.st 19) [])
abbrev ow:Option (Zo S):=some (.row 9 .str [] 1 0)
abbrev vv:Option (TV S):=some (.sl (.int .i64) [])
abbrev vu:Option (TV S):=some (.str ByteArray.empty)
abbrev ot:Option (Zo S):=some (.cells 141 [(.yld 3)])
abbrev os:Option (Zo S):=some (.row 30 (.st 21) [] 1 0)
abbrev or:Option (Zo S):=some (.row 49 (.st 19) [] 1 0)
abbrev oq:Option (Zo S):=some (.row 150 (.st 28) [] 0 0)
abbrev op:Option (Zo S):=some (.row 150 (.st 28) [] 1 1)
abbrev oo:Option (Zo S):=some (.cells 4 [(.bool false)])
abbrev on:Option (Zo S):=some (.siter ByteArray.empty 0)
abbrev om:Option (Zo S):=some (.cells 3 [(.int .i64 0)])
abbrev ol:Option (Zo S):=some (.row 3 (.int .i64) [] 0 0)
abbrev ok:Option (Zo S):=some (.row 3 (.int .i64) [] 1 0)
abbrev oj:Option (Zo S):=some (.cells 143 [(.sl (.st 28) [])])
abbrev oi:Option (Zo S):=some (.row 34 (.sl (.int .i64)) [] 1 0)
abbrev oh:Option (Zo S):=some (.cells 120 [.nils,.nils,.nils])
abbrev og:Option (Zo S):=some (.cells 78 [(.stc 25 (T.dflt 25))])
abbrev of:Option (Zo S):=some (.cells 30 [(.stc 21 (T.dflt 21))])
abbrev oe:Option (Zo S):=some (.cells 49 [(.stc 19 (T.dflt 19))])
abbrev od:Option (Zo S):=some (.cells 69 [(.stc 18 (T.dflt 18))])
abbrev oc:Option (Zo S):=some (.cells 25 [(.stc 20 (T.dflt 20))])
abbrev ob:Option (Zo S):=some (.cells 150 [(.stc 28 (T.dflt 28))])
abbrev va:Option (TV S):=some (.tup [(.int .i64 0),(.int .i64 0)])
abbrev v9:Option (TV S):=some (.agg [(.arr (.st 5) 10 (fun _=>tdf T (.st 5)))])
abbrev o8:Option (Zo S):=some (.cells 120 [(.rs 38 0),(.rs 39 0),(.sl (.st 26) [])])
abbrev o7:Option (Zo S):=some (.cells 104 [(.arr (.st 5) 10 (fun _=>tdf T (.st 5)))])
abbrev v6:Option (TV S):=some (.fn (.func 121) [] [(.ptr 40 0),(.ptr 41 0),(.ptr 42 0)])
abbrev o5:Option (Zo S):=some (.cells 142 [(.fn (.func 82) [] [(.ptr 5 0),(.ptr 4 0),(.ptr 0 0)])])
abbrev o4:Option (Zo S):=some (.loop 39 (N (N L (some (.ptr 2 0)) L) (some (.agg [(.stc 25 (T.dflt 25))])) (N (N L (some (.fn (.func 81) [] [(.ptr 5 0)])) L) (some (.ptr 1 0)) L)) (5::[]) .skip .skip 0 .ret (0::(39::[])) (0::(1::(0::(1::[])))))
abbrev o3:Option (Zo S):=some (.loop 39 (N (N L (some (.ptr 2 0)) L) (some (.agg [(.stc 25 (T.dflt 25))])) (N (N L (some (.fn (.func 81) [] [(.ptr 1 0)])) L) (some (.ptr 0 0)) L)) (5::[]) .skip .skip 0 .normal (0::(39::[])) (0::(1::(0::(1::[])))))
abbrev o2:Option (Zo S):=some (.loop 39 (N (N L (some (.ptr 2 0)) L) (some (.agg [(.stc 25 (T.dflt 25))])) (N (N L (some (.fn (.func 81) [] [(.ptr 5 0)])) L) (some (.ptr 1 0)) L)) (5::[]) .skip .skip 0 .normal (0::(39::[])) (0::(1::(0::(1::[])))))
abbrev o1:Option (Zo S):=some (.loop 82 (N (N (N (N L (some (.ptr 7 0)) L) (some (.ptr 5 0)) (N L vB (N (N L v6 L) none L))) v9 (N (N L (some (.ptr 9 0)) L) (some (.ptr 0 0)) (N L none (N L vB L)))) vA (N (N (N L (some (.ptr 8 0)) (N L vB L)) (some (.ptr 4 0)) (N L (some (.ptr 32 0)) L)) (some .sl0) (N (N L (some (.ptr 17 0)) L) (some (.ptr 6 0)) L))) (44::[]) .skip .skip 0 .ret (0::(82::[])) (0::(1::(0::(1::(1::(1::(1::(1::[])))))))))
abbrev o0:Option (Zo S):=some (.loop 82 (N (N (N (N L (some (.ptr 7 0)) L) (some (.ptr 5 0)) (N L vB (N (N L v6 L) none L))) v9 (N (N L (some (.ptr 9 0)) L) (some (.ptr 0 0)) (N L none (N L vB L)))) vA (N (N (N L (some (.ptr 8 0)) (N L vB L)) (some (.ptr 4 0)) (N L (some (.ptr 32 0)) L)) vz (N (N L (some (.ptr 17 0)) L) (some (.ptr 6 0)) L))) (44::[]) .skip .skip 0 .ret (0::(82::[])) (0::(1::(0::(1::(1::(1::(1::(1::[])))))))))
abbrev v1z:Tr (TV S):=N (N L none (N L vA L)) none L
abbrev o1y:Tr (Zo S):=N (N (N L ok L) none L) none L
abbrev o1x:Tr (Zo S):=N (N (N L on L) none L) none L
abbrev v1w:Tr (TV S):=N L none (N (N L vA L) none L)
abbrev v1v:Tr (TV S):=N (N (N L vA L) none L) none L
abbrev v1u:Tr (TV S):=N (N L vA L) (some (.ptr 1 0)) L
abbrev o1t:Tr (Zo S):=N L none (N (N (N L od L) od L) none L)
abbrev v1s:Tr (TV S):=N (N (N L vA L) none L) none (N (N L vA L) vA L)
abbrev o1r:Tr (Zo S):=N (N L none (N (N (N L ow L) none L) none L)) oc L
abbrev v1q:Tr (TV S):=N (N L none (N L vA L)) none (N (N L vA L) none L)
abbrev o1p:Tr (Zo S):=N L none (N L none (N (N (N L oi L) none L) none L))
abbrev o1o:Tr (Zo S):=N (N L none (N (N L none (N L od L)) none L)) none L
abbrev o1n:Tr (Zo S):=N L none (N L none (N (N (N L od L) none L) none L))
abbrev o1m:Tr (Zo S):=N (N (N L o3 L) og (N L o7 L)) oo (N (N L ot L) og L)
abbrev o1l:Tr (Zo S):=N (N (N L o4 L) oo (N L og L)) o5 (N (N L ot L) og L)
abbrev o1k:Tr (Zo S):=N (N (N L o2 L) oo (N L og L)) o5 (N (N L ot L) og L)
abbrev v1j:Tr (TV S):=N (N (N L vB L) none L) none (N L (some (.ptr 1 0)) L)
abbrev o1i:Tr (Zo S):=N L og (N L (some (.map (.int .i64) (.int .i64) [])) L)
abbrev v1h:Tr (TV S):=N (N L (some (.ptr 5 0)) L) v9 (N L (some (.ptr 0 0)) L)
abbrev o1g:Tr (Zo S):=N (N L of L) oc (N L none (N L none (N (N L ok L) none L)))
abbrev v1f:Tr (TV S):=N (N L vy L) none (N (N (N L vA L) none L) (some (.ptr 0 0)) L)
abbrev v1e:Tr (TV S):=N (N L (some (.ptr 0 0)) L) none (N (N L vB L) (some (.ptr 1 0)) L)
abbrev o1d:Tr (Zo S):=N L oc (N (N L none (N L (some (.row 163 (.st 26) [] 1 0)) L)) none L)
abbrev o1c:Tr (Zo S):=N (N (N L none (N L og L)) of L) oc (N L none (N (N L none (N L ok L)) none L))
abbrev v1b:Tr (TV S):=N L none (N (N (N L vA L) (some (.ptr 1 0)) (N L vA L)) vz (N L (some (.ptr 2 0)) L))
abbrev o1a:Tr (Zo S):=N (N L oh (N L ok L)) oc (N (N L ok L) (some (.cells 120 [(.rs 4 0),(.rs 5 0),.nils])) L)
abbrev o19:Tr (Zo S):=N (N (N (N L none (N (N L ol L) none L)) none L) o8 L) o8 (N L none (N L none (N (N (N L ol L) none L) none L)))
abbrev o18:Tr (Zo S):=N (N (N (N L none (N (N L ol L) none L)) none L) oh L) o8 (N L none (N L none (N (N (N L ol L) none L) none L)))
abbrev o17:Tr (Zo S):=N (N (N L none (N L none (N L os L))) none L) oc (N (N L none (N L none (N L ok L))) none (N (N L none (N L ok L)) none L))
abbrev o16:Tr (Zo S):=N (N L (some (.cells 120 [(.stc 27 (T.dflt 27))])) L) oc (N (N L none (N L none (N L (some (.row 120 (.st 27) [] 1 0)) L))) none L)
abbrev v15:Tr (TV S):=N (N v1w none L) none (N (N (N L vA L) (some (.ptr 1 0)) (N (N L vA L) none L)) vz (N L (some (.ptr 2 0)) L))
abbrev o14:Tr (Zo S):=N (N L oh (N (N (N L ol L) none L) none L)) (some (.cells 120 [(.rs 16 0),(.rs 17 0),(.sl (.st 26) [])])) (N (N (N (N L ol L) none L) none L) none L)
abbrev o13:Tr (Zo S):=N (N L oh (N L none (N (N L ol L) none L))) (some (.cells 120 [(.rs 21 0),(.rs 22 0),(.sl (.st 26) [])])) (N L none (N L none (N (N L ol L) none L)))
abbrev o12:Tr (Zo S):=N (N (N (N (N (N L ol L) none L) none L) none L) oh L) (some (.cells 120 [(.rs 30 0),(.rs 31 0),(.sl (.st 26) [])])) (N L none (N L none (N L none (N L ol L))))
abbrev o11:Tr (Zo S):=N (N (N (N (N (N (N L op L) or L) of L) none L) oj (N (N L og L) none L)) ot L) og (N (N L none (N (N (N L oe L) om L) none L)) om (N L none (N (N L o1 L) none L)))
abbrev o10:Tr (Zo S):=N (N (N (N (N (N (N L op L) or L) of L) none L) oj (N (N L og L) none L)) ot L) og (N (N L none (N (N (N L oe L) om L) none L)) om (N L none (N (N L o0 L) none L)))
abbrev oZ:Tr (Zo S):=N (N (N (N (N (N L or L) of L) none L) oj (N (N L og L) none L)) ot L) og (N (N L none (N (N (N L oe L) om L) none L)) om (N L none (N (N (N (N L op L) none L) o1 L) none L)))
abbrev oY:Tr (Zo S):=N (N (N (N (N (N L or L) of L) none L) oj (N (N L og L) none L)) ot L) og (N (N L none (N (N (N L oe L) om L) none L)) om (N L none (N (N (N (N L op L) none L) o0 L) none L)))
abbrev oX:Tr (Zo S):=N (N L none (N (N (N L (some (.row 9 .str [] 1 1)) L) none L) none L)) oc (N (N L none (N L none (N L od L))) none (N L none (N (N (N L (some (.row 9 .str [] 0 0)) L) none L) none L)))
abbrev oW:Tr (Zo S):=N (N (N (N (N (N L or L) of L) none L) oj (N (N L og L) none L)) ot L) og (N (N L none (N (N (N L oe L) om L) none (N (N (N L oq L) none L) none L))) om (N L none (N (N L o1 L) none L)))
abbrev oV:Tr (Zo S):=N (N (N (N (N (N L or L) of L) none L) oj (N (N L og L) none L)) ot L) og (N (N L none (N (N (N L oe L) om L) none (N (N (N L oq L) none L) none L))) om (N L none (N (N L o0 L) none L)))
abbrev oU:Tr (Zo S):=N (N (N L o7 (N L none (N L ob L))) o4 L) oo (N (N (N (N L none (N L o7 L)) o7 L) oo (N (N L om L) none L)) og (N (N (N (N L or L) none L) none L) none (N L none (N (N L ob L) none (N L oq L)))))
abbrev oT:Tr (Zo S):=N (N (N L o7 (N L none (N L ob L))) o2 L) oo (N (N (N (N L none (N L o7 L)) o7 L) oo (N (N L om L) none L)) og (N (N (N (N L or L) none L) none L) none (N L none (N (N L ob L) none (N L oq L)))))
abbrev oS:Tr (Zo S):=N (N (N L o7 (N L none (N L ob L))) o4 L) oo (N (N (N (N L none (N L o7 L)) o7 L) oo (N (N L om L) none L)) og (N (N (N (N L or L) none L) none L) none (N L none (N (N (N L op L) ob L) none L))))
abbrev oR:Tr (Zo S):=N (N (N L o7 (N L none (N L ob L))) o2 L) oo (N (N (N (N L none (N L o7 L)) o7 L) oo (N (N L om L) none L)) og (N (N (N (N L or L) none L) none L) none (N L none (N (N (N L op L) ob L) none L))))
abbrev vQ:Tr (TV S):=N (N (N L (some (.ptr 42 0)) L) none (N (N L none (N L vA L)) (some (.ptr 55 0)) L)) (some (.yld 46)) (N (N (N L none (N L (some (.rs 69 0)) L)) none L) (some (.ptr 41 0)) (N (N L none (N L vA L)) vA L))
abbrev oP:Tr (Zo S):=N (N (N (N (N (N L or L) of L) none L) oj (N (N L og L) none L)) ot (N L none (N (N (N (N L oq L) none L) none L) none L))) og (N (N L none (N (N (N L oe L) om L) none L)) om (N L none (N (N L o1 L) none L)))
abbrev oO:Tr (Zo S):=N (N (N (N (N (N L or L) of L) none L) oj (N (N L og L) none L)) ot (N L none (N (N (N (N L oq L) none L) none L) none L))) og (N (N L none (N (N (N L oe L) om L) none L)) om (N L none (N (N L o0 L) none L)))
abbrev oN:Tr (Zo S):=N (N (N (N L none (N (N (N L op L) none L) none L)) o7 (N L none (N L ob L))) o4 L) oo (N (N (N (N L none (N L o7 L)) o7 L) oo (N (N L om L) none L)) og (N (N (N (N L or L) none L) none L) none (N L none (N (N L ob L) none L))))
abbrev oM:Tr (Zo S):=N (N (N (N L none (N (N (N L op L) none L) none L)) o7 (N L none (N L ob L))) o2 L) oo (N (N (N (N L none (N L o7 L)) o7 L) oo (N (N L om L) none L)) og (N (N (N (N L or L) none L) none L) none (N L none (N (N L ob L) none L))))
abbrev vL:Tr (TV S):=N (N (N (N L none (N L none (N (N L vz L) none L))) none L) none (N (N L none v1w) none L)) none (N (N (N L vA v1w) (some (.ptr 1 0)) (N L vA L)) vz (N L (some (.ptr 2 0)) L))
abbrev oK:Tr (Zo S):=N (N (N L o7 (N L none (N L ob L))) o4 (N L none (N (N (N (N L oq L) none L) none L) none L))) oo (N (N (N (N L none (N L o7 L)) o7 L) oo (N (N L om L) none L)) og (N (N (N (N L or L) none L) none L) none (N L none (N (N L ob L) none L))))
abbrev oJ:Tr (Zo S):=N (N (N L o7 (N L none (N L ob L))) o2 (N L none (N (N (N (N L oq L) none L) none L) none L))) oo (N (N (N (N L none (N L o7 L)) o7 L) oo (N (N L om L) none L)) og (N (N (N (N L or L) none L) none L) none (N L none (N (N L ob L) none L))))
abbrev vI:Tr (TV S):=N (N (N v1w none (N (N L vA L) none L)) none (N (N L vA L) none L)) none (N (N (N L vA (N (N L vA L) none L)) (some (.ptr 1 0)) (N (N L vA L) none L)) vz (N L (some (.ptr 2 0)) (N (N (N L vz L) none L) none L)))
abbrev oH:Tr (Zo S):=N (N (N (N L o7 (N L none (N L ob L))) o4 L) oo (N (N (N (N L none (N L o7 L)) o7 L) oo (N (N L om L) none L)) og (N (N (N (N L or L) none L) none L) none (N L none (N (N L ob L) none L))))) o5 (N (N (N (N (N (N L or L) of L) none L) oj (N (N L og L) none L)) ot L) og (N (N L none (N (N (N L oe L) om L) none L)) om (N L none (N (N L o1 L) none L))))
abbrev oG:Tr (Zo S):=N (N (N (N L o7 (N L none (N L ob L))) o2 L) oo (N (N (N (N L none (N L o7 L)) o7 L) oo (N (N L om L) none L)) og (N (N (N (N L or L) none L) none L) none (N L none (N (N L ob L) none L))))) o5 (N (N (N (N (N (N L or L) of L) none L) oj (N (N L og L) none L)) ot L) og (N (N L none (N (N (N L oe L) om L) none L)) om (N L none (N (N L o1 L) none L))))
abbrev oF:Tr (Zo S):=N (N (N (N L o7 (N L none (N L ob L))) o4 L) oo (N (N (N (N L none (N L o7 L)) o7 L) oo (N (N L om L) none L)) og (N (N (N (N L or L) none L) none L) none (N L none (N (N L ob L) none L))))) o5 (N (N (N (N (N (N L or L) of L) none L) oj (N (N L og L) none L)) ot L) og (N (N L none (N (N (N L oe L) om L) none L)) om (N L none (N (N L o0 L) none L))))
abbrev oE:Tr (Zo S):=N (N (N (N L o7 (N L none (N L ob L))) o2 L) oo (N (N (N (N L none (N L o7 L)) o7 L) oo (N (N L om L) none L)) og (N (N (N (N L or L) none L) none L) none (N L none (N (N L ob L) none L))))) o5 (N (N (N (N (N (N L or L) of L) none L) oj (N (N L og L) none L)) ot L) og (N (N L none (N (N (N L oe L) om L) none L)) om (N L none (N (N L o0 L) none L))))
abbrev oD:Tr (Zo S):=N (N (N (N L o7 (N L none (N L ob L))) o2 L) oo (N (N (N L o7 L) oo (N (N L om L) none L)) og (N (N (N (N L or L) none L) none L) none L))) o5 (N (N (N (N (N (N L or L) of L) none L) oj (N (N L og L) none L)) ot L) og (N (N L none (N (N L om L) none L)) om (N L none (N (N L (some (.loop 82 (N (N (N (N L (some (.ptr 7 0)) L) (some (.ptr 5 0)) (N L vB (N (N L v6 L) none L))) v9 (N (N L (some (.ptr 9 0)) L) (some (.ptr 0 0)) (N L none (N L vB L)))) vA (N (N (N L (some (.ptr 8 0)) (N L vB L)) (some (.ptr 4 0)) (N L (some (.ptr 32 0)) L)) vz (N (N L (some (.ptr 17 0)) L) (some (.ptr 6 0)) L))) (44::[]) .skip .skip 0 .normal (0::(82::[])) (0::(1::(0::(1::(1::(1::(1::(1::[])))))))))) L) none L))))
abbrev oC:Tr (Zo S):=N (N (N (N L o7 (N L none (N L ob L))) o2 L) oo (N (N (N L o7 L) oo (N (N L om L) none L)) og (N (N (N (N L or L) none L) none L) none L))) o5 (N (N (N (N (N (N L or L) of L) none L) oj (N (N L og L) none L)) ot L) og (N (N L none (N (N L om L) none L)) om (N L none (N (N L (some (.loop 82 (N (N (N (N L (some (.ptr 7 0)) L) (some (.ptr 5 0)) (N L vB (N (N L v6 L) none L))) v9 (N (N L (some (.ptr 9 0)) L) (some (.ptr 0 0)) (N L none (N L vB L)))) vA (N (N (N L (some (.ptr 8 0)) (N L vB L)) (some (.ptr 4 0)) (N L (some (.ptr 32 0)) L)) (some .sl0) (N (N L (some (.ptr 17 0)) L) (some (.ptr 6 0)) L))) (44::[]) .skip .skip 0 .normal (0::(82::[])) (0::(1::(0::(1::(1::(1::(1::(1::[])))))))))) L) none L))))
def q0 {R:Type}:Prs S R:=Zk4
theorem q1 {R:Type}:Z8k X (q0 (R:=R)):=Zk5 X
def q2:List (Nat×F7 S):=[]
theorem q3:Z95 X (q2):=trivial
abbrev q4 {R:Type}:Z21 S R:=Zj1
theorem q5 {R:Type}:Z2e X (q4 (R:=R)):=ZjC X
def q6:Key:=⟨[115,2,1,77,2,1,51],115,none,[0,0,1,0,1],0,17⟩
def q7:StT S:=⟨(N (N (N (N L vA L) none L) (some (.fn (.func 78) [] [(.ptr 0 0),(.ptr 1 0)])) L) vv v1v),(N (N L om L) om L),17⟩
def q8:Way S:=⟨.ret,⟨v1w,(N (N L om L) om L),38⟩,[.int,.int,.int]⟩
def q9:Way S:=⟨(.exit 0),⟨L,(N (N L om L) om L),18⟩,[.int,.int]⟩
def qa:LE S:=⟨q6,q7,[.int,(.lst (.int .i64)),.int,.int,.int],[q8,q9]⟩
def qb {T:Type} (x:tqH) (k:((Int×Int×Int)⊕(Int×Int))->T):(Int⊕Unit)->T:=Sum.elim (fun y0=>k (.inl (y0,x.u3,x.v4))) (fun y1=>k (.inr (x.u3,x.v4)))
def qc (x:tqH) (v:Int):tqH:=(x.1,x.2.1,v,x.u3,x.v4)
theorem qd (x:tqH):LE.step X qa q2 q0 q4 12 x=WO x.1 x.2.1 x.u3 x.v4 x.u2 (fun w=>Sum.inl (qc x w)) (fun o=>Sum.inr (qb x id o)):=by kernel_rfl
def qe {R:Type}:Z21 S R:=LE.ls X qa (fun x k=>(X4y x.1 x.2.1 x.u3 x.v4 x.u2).bind (qb x k)) q4
theorem qf {R:Type}:Z2e X (qe (R:=R)):=Zke xok q3 (e:=qa) q1 q5 (st:=fun(x:tqH)=>WG x.1 x.2.1 x.u3 x.v4) (prj:=fun(x:tqH)=>x.u2) (emb:=qc) qb (fun x=>(qd x).trans (by unfold WG WO;simp only[Zk2,ZjT,Zk3,Option.map_some,Option.map_none];rfl)) q5
theorem qg (x0 x1:Int) (x2:List Int):Zkg X q2 [(.int .i64),(.int .i64),(.sl (.int .i64))] [.bool] q0 qe 12 51 (x0,x1,x2,())=X23 x0 x1 x2:=by kernel_rfl
def qh:F7 S:=⟨[(.int .i64),(.int .i64),(.sl (.int .i64))],[.bool],fun xs=>Wf xs.1 xs.2.1 xs.u2⟩
theorem qi:Zav X 51 qh:=Zkd (Zkc xok q3 q1 qf 12 51) fun xs _ h=>((qg xs.1 xs.2.1 xs.u2).trans (X5y xs.1 xs.2.1 xs.u2).symm).trans h
def qn:Key:=⟨[98],98,none,[0,0,1,0,1,1],0,4⟩
def qo:StT S:=⟨(N (N (N (N L (some (.iter 3)) L) (some (.int .i32 0)) L) none L) vu L),o1x,4⟩
def qp:Way S:=⟨.ret,⟨(N L none (N L vB L)),o1x,23⟩,[.bool,.str,.nat]⟩
def qq:Way S:=⟨(.exit 0),⟨(N (N (N L (some (.int .i32 0)) L) none L) vu L),o1x,6⟩,[.int,.str,.str,.nat]⟩
def qr:LE S:=⟨qn,qo,[.int,.str,.str,.nat],[qp,qq]⟩
def qs {T:Type} (x:tqJ) (k:((Bool×ByteArray×Nat)⊕tqJ)->T):((Bool×Nat)⊕(Int×Nat))->T:=Sum.elim (fun y0=>k (.inl (y0.1,x.u2,y0.2))) (fun y1=>k (.inr (y1.1,x.2.1,x.u2,y1.2)))
def qt (x:tqJ) (v:(Int×Nat)):tqJ:=(v.1,x.2.1,x.u2,v.2)
theorem qu (x:tqJ):LE.step X qr q2 q0 q4 12 x=X1N x.2.1 x.u2 x.1 x.v3 (fun w=>Sum.inl (qt x w)) (fun o=>Sum.inr (qs x id o)):=by kernel_rfl
def qv {R:Type}:Z21 S R:=LE.ls X qr (fun x k=>(X5e x.2.1 x.u2 (x.1,x.v3)).bind (qs x k)) q4
theorem qw {R:Type}:Z2e X (qv (R:=R)):=Zke xok q3 (e:=qr) q1 q5 (st:=fun(x:tqJ)=>X1J x.2.1 x.u2) (prj:=fun(x:tqJ)=>(x.1,x.v3)) (emb:=qt) qs (fun x=>(qu x).trans (by unfold X1J X1N;simp only[Zk2,ZjT,Zk3,Option.map_some,Option.map_none];rfl)) q5
theorem qx (x0:ByteArray):Zkg X q2 [.str] [.bool] q0 qv 12 98 (x0,())=X5G x0:=by kernel_rfl
def qy:F7 S:=⟨[.str],[.bool],fun xs=>X5G xs.1⟩
theorem qz:Zav X 98 qy:=Zkd (Zkc xok q3 q1 qw 12 98) fun xs _ h=>(qx xs.1).trans h
def qA:List (Nat×F7 S):=[(51,qh)]
theorem qB:Z95 X (qA):=⟨qi,trivial⟩
theorem qE (x0:CoRecord) (x1:Zr):Zkg X qA [(.st 20),(.st 21)] [(.int .i64)] q0 q4 12 57 (x0,x1,())=X3j x0 x1:=by kernel_rfl
def qF:F7 S:=⟨[(.st 20),(.st 21)],[(.int .i64)],fun xs=>X4s xs.1 xs.2.1⟩
theorem qG:Zav X 57 qF:=Zkd (Zkc xok qB q1 q5 12 57) fun xs _ h=>((qE xs.1 xs.2.1).trans (X6N xs.1 xs.2.1).symm).trans h
def qH:StT S:=⟨(N (N L (some (.fn (.func 97) [] [(.ptr 0 0)])) L) (some (.sl (.st 18) [])) L),(N L oc L),1⟩
def qI:Way S:=⟨.ret,⟨(N L va L),(N L oc L),1⟩,[.int,.int,(.st 20)]⟩
def qJ:PE S:=⟨96,2,qH,[(.lst (.st 18)),(.st 20)],[qI]⟩
def qK:List (Nat×F7 S):=[(51,qh),(98,qy),(57,qF)]
theorem qL:Z95 X qK:=⟨qi,qz,qG,trivial⟩
def qO:Key:=⟨[125,2,1,99,5,3,97,3,4,96],125,none,[0,0,1,0,1],0,42⟩
def qP:StT S:=⟨(N (N (N (N L vA L) none L) (some (.fn (.func 100) [] [(.ptr 18 0)])) L) (some (.sl (.st 18) [])) v1v),o1n,42⟩
def qQ:Way S:=⟨.ret,⟨v1w,(N o1o none (N L none (N (N (N L od L) none L) none L))),61⟩,[.int,(.st 18),(.st 18)]⟩
def qR:Way S:=⟨(.exit 0),⟨L,o1n,43⟩,[(.st 18)]⟩
def qS:LE S:=⟨qO,qP,[.int,(.lst (.st 18)),.int,(.st 18)],[qQ,qR]⟩
def qT {T:Type} (x:tqz) (k:((Int×Zm×Zm)⊕Zm)->T):((Int×Zm)⊕Unit)->T:=Sum.elim (fun y0=>k (.inl (y0.1,y0.2,x.v3))) (fun y1=>k (.inr x.v3))
def qU (x:tqz) (v:Int):tqz:=(x.1,x.2.1,v,x.v3)
theorem qV (x:tqz):LE.step X qS qK q0 q4 12 x=Xf x.1 x.2.1 x.v3 x.u2 (fun w=>Sum.inl (qU x w)) (fun o=>Sum.inr (qT x id o)):=by kernel_rfl
def qW {R:Type}:Z21 S R:=LE.ls X qS (fun x k=>(Xg x.1 x.2.1 x.v3 x.u2).bind (qT x k)) q4
theorem qX {R:Type}:Z2e X (qW (R:=R)):=Zke xok qL (e:=qS) q1 q5 (st:=fun(x:tqz)=>X7 x.1 x.2.1 x.v3) (prj:=fun(x:tqz)=>x.u2) (emb:=qU) qT (fun x=>(qV x).trans (by unfold X7 Xf;simp only[Zk2,ZjT,Zk3,Option.map_some,Option.map_none];rfl)) q5
def qY:Key:=⟨[96],96,none,[0,0,1,0,1],0,6⟩
def qZ:StT S:=⟨(N (N (N L none (N L vA L)) (some (.fn (.func 97) [] [(.ptr 0 0)])) (N (N L (some (.sl (.st 18) [])) L) none L)) none v1w),(N L oc L),6⟩
def q10:Way S:=⟨.ret,⟨v1q,(N L oc o1t),32⟩,[.int,.int,(.st 20),(.st 18),(.st 18)]⟩
def q11:Way S:=⟨.ret,⟨v1q,(N o1o oc o1t),68⟩,[.int,.int,(.st 18),(.st 20),(.st 18),(.st 18)]⟩
def q12:Way S:=⟨.ret,⟨v1q,(N (N (N (N o1y none L) none (N (N L none (N L od L)) none L)) none L) oc o1t),82⟩,[.int,.int,(.lst (.int .i64)),(.st 18),(.st 20),(.st 18),(.st 18)]⟩
def q13:Way S:=⟨.ret,⟨v1q,(N (N (N (N o1y none o1y) none (N (N L none (N L od L)) none L)) none L) oc o1t),82⟩,[.int,.int,(.lst (.int .i64)),(.lst (.int .i64)),(.st 18),(.st 20),(.st 18),(.st 18)]⟩
def q14:Way S:=⟨.ret,⟨v1q,(N L oc (N L none (N (N (N L od L) od L) none (N L none (N (N L ok L) none L))))),65⟩,[.int,.int,(.st 20),(.st 18),(.st 18),(.lst (.int .i64))]⟩
def q15:Way S:=⟨.ret,⟨v1q,(N L oc (N L none (N (N (N L od L) od L) none (N (N L none (N L ok L)) none (N (N L ok L) none L))))),65⟩,[.int,.int,(.st 20),(.st 18),(.st 18),(.lst (.int .i64)),(.lst (.int .i64))]⟩
def q16:Way S:=⟨(.exit 0),⟨L,(N L oc L),7⟩,[(.st 20)]⟩
def q17:LE S:=⟨qY,qZ,[.int,(.lst (.st 18)),.int,(.st 20)],[q10,q11,q12,q13,q14,q15,q16]⟩
def q18 {T:Type} (x:tqA) (k:((Int×Int×CoRecord×Zm×Zm)⊕(Int×Int×Zm×CoRecord×Zm×Zm)⊕(Int×Int×(List Int)×Zm×CoRecord×Zm×Zm)⊕(Int×Int×(List Int)×(List Int)×Zm×CoRecord×Zm×Zm)⊕(Int×Int×CoRecord×Zm×Zm×(List Int))⊕(Int×Int×CoRecord×Zm×Zm×(List Int)×(List Int))⊕CoRecord)->T):((Int×Int×Zm×Zm)⊕(Int×Int×Zm×Zm×Zm)⊕(Int×Int×(List Int)×Zm×Zm×Zm)⊕(Int×Int×(List Int)×(List Int)×Zm×Zm×Zm)⊕(Int×Int×Zm×Zm×(List Int))⊕(Int×Int×Zm×Zm×(List Int)×(List Int))⊕Unit)->T:=Sum.elim (fun y0=>k (.inl (y0.1,y0.2.1,x.v3,y0.u2,y0.v3))) (Sum.elim (fun y1=>k (.inr (.inl (y1.1,y1.2.1,y1.u2,x.v3,y1.u3,y1.v4)))) (Sum.elim (fun y2=>k (.inr (.inr (.inl (y2.1,y2.2.1,y2.u2,y2.u3,x.v3,y2.u4,y2.v5))))) (Sum.elim (fun y3=>k (.inr (.inr (.inr (.inl (y3.1,y3.2.1,y3.u2,y3.u3,y3.u4,x.v3,y3.u5,y3.v6)))))) (Sum.elim (fun y4=>k (.inr (.inr (.inr (.inr (.inl (y4.1,y4.2.1,x.v3,y4.u2,y4.u3,y4.v4))))))) (Sum.elim (fun y5=>k (.inr (.inr (.inr (.inr (.inr (.inl (y5.1,y5.2.1,x.v3,y5.u2,y5.u3,y5.u4,y5.v5)))))))) (fun y6=>k (.inr (.inr (.inr (.inr (.inr (.inr x.v3))))))))))))
def q19 (x:tqA) (v:Int):tqA:=(v,x.2.1,x.u2,x.v3)
theorem q1a (x:tqA):LE.step X q17 qK q0 qW 12 x=Xe x.2.1 x.u2 x.v3 x.1 (fun w=>Sum.inl (q19 x w)) (fun o=>Sum.inr (q18 x id o)):=by kernel_rfl
def q1b {R:Type}:Z21 S R:=LE.ls X q17 (fun x k=>(Wi x.2.1 x.u2 x.v3 x.1).bind (q18 x k)) qW
theorem q1c {R:Type}:Z2e X (q1b (R:=R)):=Zke xok qL (e:=q17) q1 qX (st:=fun(x:tqA)=>Xj x.2.1 x.u2 x.v3) (prj:=fun(x:tqA)=>x.1) (emb:=q19) q18 (fun x=>(q1a x).trans (by unfold Xj Xe;simp only[Zk2,ZjT,Zk3,Option.map_some,Option.map_none];rfl)) qX
theorem q1d (x:((List Zm)×CoRecord)):PE.step X qJ qK q0 q1b 12 x=Xp x.1 x.2:=by kernel_rfl
theorem q1e:ZcD X qJ XV:=Zkf (ZjG xok qL q1 q1c 12) fun x _ h=>((q1d x).trans (X2m x).symm).trans h
def q1f {R:Type}:Prs S R:=PE.ps X qJ (fun x q=>(XV x).bind q) q0
theorem q1g {R:Type}:Z8k X (q1f (R:=R)):=Zk8 (e:=qJ) q1e q1
def q1h:StT S:=⟨(N (N L (some (.fn (.func 102) [] [(.ptr 0 0)])) L) vx L),(N L oc L),1⟩
def q1j:PE S:=⟨101,2,q1h,[(.lst (.st 19)),(.st 20)],[qI]⟩
def q1o:Key:=⟨[101],101,none,[0,0,1,0,1],0,6⟩
def q1p:StT S:=⟨(N (N (N L none (N L vA L)) (some (.fn (.func 102) [] [(.ptr 0 0)])) (N (N L vx L) none L)) none v1w),(N L oc L),6⟩
def q1q:Way S:=⟨.ret,⟨v1q,(N L oc (N L none (N (N (N L oe L) oe L) none L))),30⟩,[.int,.int,(.st 20),(.st 19),(.st 19)]⟩
def q1s:LE S:=⟨q1o,q1p,[.int,(.lst (.st 19)),.int,(.st 20)],[q1q,q16]⟩
def q1t {T:Type} (x:tqB) (k:((Int×Int×CoRecord×Zq×Zq)⊕CoRecord)->T):((Int×Int×Zq×Zq)⊕Unit)->T:=Sum.elim (fun y0=>k (.inl (y0.1,y0.2.1,x.v3,y0.u2,y0.v3))) (fun y1=>k (.inr x.v3))
def q1u (x:tqB) (v:Int):tqB:=(v,x.2.1,x.u2,x.v3)
theorem q1v (x:tqB):LE.step X q1s qK q1f q4 12 x=Xh x.2.1 x.u2 x.v3 x.1 (fun w=>Sum.inl (q1u x w)) (fun o=>Sum.inr (q1t x id o)):=by kernel_rfl
def q1w {R:Type}:Z21 S R:=LE.ls X q1s (fun x k=>(Wu x.2.1 x.u2 x.v3 x.1).bind (q1t x k)) q4
theorem q1x {R:Type}:Z2e X (q1w (R:=R)):=Zke xok qL (e:=q1s) q1g q5 (st:=fun(x:tqB)=>Xn x.2.1 x.u2 x.v3) (prj:=fun(x:tqB)=>x.1) (emb:=q1u) q1t (fun x=>(q1v x).trans (by unfold Xn Xh;simp only[Zk2,ZjT,Zk3,Option.map_some,Option.map_none];rfl)) q5
theorem q1y (x:((List Zq)×CoRecord)):PE.step X q1j qK q1f q1w 12 x=Xs x.1 x.2:=by kernel_rfl
theorem q1z:ZcD X q1j W2:=Zkf (ZjG xok qL q1g q1x 12) fun x _ h=>((q1y x).trans (X2w x).symm).trans h
def q1A {R:Type}:Prs S R:=PE.ps X q1j (fun x q=>(W2 x).bind q) q1f
theorem q1B {R:Type}:Z8k X (q1A (R:=R)):=Zk8 (e:=q1j) q1z q1g
def q1C:StT S:=⟨(N (N L (some (.fn (.func 103) [] [(.ptr 0 0)])) L) vx L),(N L om L),1⟩
def q1D:Way S:=⟨.ret,⟨(N L va L),(N L om L),1⟩,[.int,.int,.int]⟩
def q1E:PE S:=⟨101,2,q1C,[(.lst (.st 19)),.int],[q1D]⟩
def q1K:StT S:=⟨(N (N (N L none (N L vA L)) (some (.fn (.func 103) [] [(.ptr 0 0)])) (N (N L vx L) none L)) none v1w),(N L om L),6⟩
def q1L:Way S:=⟨.ret,⟨v1q,(N L om (N L none (N (N (N L oe L) oe L) none L))),38⟩,[.int,.int,.int,(.st 19),(.st 19)]⟩
def q1M:Way S:=⟨(.exit 0),⟨L,(N L om L),7⟩,[.int]⟩
def q1N:LE S:=⟨q1o,q1K,[.int,(.lst (.st 19)),.int,.int],[q1L,q1M]⟩
def q1O {T:Type} (x:tqL) (k:((Int×Int×Int×Zq×Zq)⊕Int)->T):((Int×Int×Int×Zq×Zq)⊕Int)->T:=Sum.elim (fun y0=>k (.inl (y0.1,y0.2.1,y0.u2,y0.u3,y0.v4))) (fun y1=>k (.inr y1))
def q1P (x:tqL) (v:(Int×Int)):tqL:=(v.1,x.2.1,x.u2,v.2)
theorem q1Q (x:tqL):LE.step X q1N qK q1A q4 12 x=Xi x.2.1 x.u2 x.1 x.v3 (fun w=>Sum.inl (q1P x w)) (fun o=>Sum.inr (q1O x id o)):=by kernel_rfl
def q1R {R:Type}:Z21 S R:=LE.ls X q1N (fun x k=>(Wv x.2.1 x.u2 (x.1,x.v3)).bind (q1O x k)) q4
theorem q1S {R:Type}:Z2e X (q1R (R:=R)):=Zke xok qL (e:=q1N) q1B q5 (st:=fun(x:tqL)=>X4 x.2.1 x.u2) (prj:=fun(x:tqL)=>(x.1,x.v3)) (emb:=q1P) q1O (fun x=>(q1Q x).trans (by unfold X4 Xi;simp only[Zk2,ZjT,Zk3,Option.map_some,Option.map_none];rfl)) q5
theorem q1T (x:((List Zq)×Int)):PE.step X q1E qK q1A q1R 12 x=Xt x.1 x.2:=by kernel_rfl
theorem q1U:ZcD X q1E W3:=Zkf (ZjG xok qL q1B q1S 12) fun x _ h=>((q1T x).trans (X2y x).symm).trans h
def q1V {R:Type}:Prs S R:=PE.ps X q1E (fun x q=>(W3 x).bind q) q1A
theorem q1W {R:Type}:Z8k X (q1V (R:=R)):=Zk8 (e:=q1E) q1U q1B
theorem q1Y:Z95 X (qK):=⟨qi,qz,qG,trivial⟩
theorem q21 (x0:CoRecord):Zkg X qK [(.st 20)] [(.int .i64),(.int .i64),(.int .i64)] q1V q4 12 65 (x0,())=X2T x0:=by kernel_rfl
def q22:F7 S:=⟨[(.st 20)],[(.int .i64),(.int .i64),(.int .i64)],fun xs=>X5f xs.1⟩
theorem q23:Zav X 65 q22:=Zkd (Zkc xok q1Y q1W q5 12 65) fun xs _ h=>((q21 xs.1).trans (X65 xs.1).symm).trans h
def q24:StT S:=⟨(N (N L (some (.fn (.func 90) [] [(.ptr 0 0)])) L) vy L),(N L oc L),1⟩
def q26:PE S:=⟨89,2,q24,[(.lst (.st 21)),(.st 20)],[qI]⟩
def q27:List (Nat×F7 S):=[(65,q22),(57,qF)]
theorem q28:Z95 X q27:=⟨q23,qG,trivial⟩
def q2b:Key:=⟨[89],89,none,[0,0,1,0,1],0,6⟩
def q2c:StT S:=⟨(N (N (N L none (N L vA L)) (some (.fn (.func 90) [] [(.ptr 0 0)])) (N (N L vy L) none L)) none v1w),(N L oc L),6⟩
def q2d:Way S:=⟨.ret,⟨v1q,(N L oc (N L none (N (N (N L of L) of L) none L))),30⟩,[.int,.int,(.st 20),(.st 21),(.st 21)]⟩
def q2f:LE S:=⟨q2b,q2c,[.int,(.lst (.st 21)),.int,(.st 20)],[q2d,q16]⟩
def q2g {T:Type} (x:tqC) (k:((Int×Int×CoRecord×Zr×Zr)⊕CoRecord)->T):((Int×Int×Zr×Zr)⊕Unit)->T:=Sum.elim (fun y0=>k (.inl (y0.1,y0.2.1,x.v3,y0.u2,y0.v3))) (fun y1=>k (.inr x.v3))
def q2h (x:tqC) (v:Int):tqC:=(v,x.2.1,x.u2,x.v3)
theorem q2i (x:tqC):LE.step X q2f q27 q1V q4 12 x=Xk x.2.1 x.u2 x.v3 x.1 (fun w=>Sum.inl (q2h x w)) (fun o=>Sum.inr (q2g x id o)):=by kernel_rfl
def q2j {R:Type}:Z21 S R:=LE.ls X q2f (fun x k=>(Wz x.2.1 x.u2 x.v3 x.1).bind (q2g x k)) q4
theorem q2k {R:Type}:Z2e X (q2j (R:=R)):=Zke xok q28 (e:=q2f) q1W q5 (st:=fun(x:tqC)=>Xq x.2.1 x.u2 x.v3) (prj:=fun(x:tqC)=>x.1) (emb:=q2h) q2g (fun x=>(q2i x).trans (by unfold Xq Xk;simp only[Zk2,ZjT,Zk3,Option.map_some,Option.map_none];rfl)) q5
theorem q2l (x:((List Zr)×CoRecord)):PE.step X q26 q27 q1V q2j 12 x=XG x.1 x.2:=by kernel_rfl
theorem q2m:ZcD X q26 W9:=Zkf (ZjG xok q28 q1W q2k 12) fun x _ h=>((q2l x).trans (X2W x).symm).trans h
def q2n {R:Type}:Prs S R:=PE.ps X q26 (fun x q=>(W9 x).bind q) q1V
theorem q2o {R:Type}:Z8k X (q2n (R:=R)):=Zk8 (e:=q26) q2m q1W
theorem q2q:Z95 X (q27):=⟨q23,qG,trivial⟩
theorem q2t (x0:CoRecord) (x1:List Zr):Zkg X q27 [(.st 20),(.sl (.st 21))] [(.int .i64),(.int .i64)] q2n q4 12 60 (x0,x1,())=X1m x0 x1:=by kernel_rfl
def q2u:F7 S:=⟨[(.st 20),(.sl (.st 21))],[(.int .i64),(.int .i64)],fun xs=>X3R xs.1 xs.2.1⟩
theorem q2v:Zav X 60 q2u:=Zkd (Zkc xok q2q q2o q5 12 60) fun xs _ h=>((q2t xs.1 xs.2.1).trans (X4V xs.1 xs.2.1).symm).trans h
def q2w:List (Nat×F7 S):=[(60,q2u)]
theorem q2x:Z95 X (q2w):=⟨q2v,trivial⟩
theorem q2A (x0:CoRecord) (x1:List Zr):Zkg X q2w [(.st 20),(.sl (.st 21))] [(.st 25),(.int .i64)] q2n q4 12 37 (x0,x1,())=X2V x0 x1:=by kernel_rfl
def q2B:F7 S:=⟨[(.st 20),(.sl (.st 21))],[(.st 25),(.int .i64)],fun xs=>X4x xs.1 xs.2.1⟩
theorem q2C:Zav X 37 q2B:=Zkd (Zkc xok q2x q2o q5 12 37) fun xs _ h=>((q2A xs.1 xs.2.1).trans (X6b xs.1 xs.2.1).symm).trans h
theorem q2H (x0:Y2):Zkg X q2 [(.st 5)] [.bool] q2n q4 12 120 (x0,())=W5 x0:=by kernel_rfl
def q2I:F7 S:=⟨[(.st 5)],[.bool],fun xs=>X2I xs.1⟩
theorem q2J:Zav X 120 q2I:=Zkd (Zkc xok q3 q2o q5 12 120) fun xs _ h=>((q2H xs.1).trans (X3z xs.1).symm).trans h
def q2K:List (Nat×F7 S):=[(120,q2I)]
theorem q2L:Z95 X (q2K):=⟨q2J,trivial⟩
def q2O:Key:=⟨[83],83,none,[0,0,1,1,1,0,0,1,1,0,0,1,0,1,1],2,33⟩
def q2P:StT S:=⟨vI,(N (N L o7 L) og (N L o7 L)),33⟩
def q2Q:Way S:=⟨(.exit 2),⟨v15,(N (N L o7 L) og (N L o7 L)),34⟩,[.int,.int,.int,(.lst (.st 28)),(.arr (.st 5)),(.st 25),(.arr (.st 5))]⟩
def q2R:LE S:=⟨q2O,q2P,[.int,.int,.int,.int,.int,.int,(.lst (.st 28)),(.lst (.st 28)),(.arr (.st 5)),(.st 25),(.arr (.st 5))],[q2Q]⟩
def q2S {T:Type} (x:tq9) (k:tqh->T):(Nat->Y2)->T:=fun y0=>k (x.2.1,x.u3,x.u5,x.u6,y0,x.u9,x.v10)
def q2T (x:tq9) (v:(Int×(Nat->Y2))):tq9:=(x.1,x.2.1,x.u2,x.u3,v.1,x.u5,x.u6,x.u7,v.2,x.u9,x.v10)
theorem q2U (x:tq9):LE.step X q2R q2K q2n q4 12 x=X9 x.1 x.2.1 x.u2 x.u3 x.u5 x.u6 x.u7 x.u9 x.v10 x.u4 x.u8 (fun w=>Sum.inl (q2T x w)) (fun o=>Sum.inr (q2S x id o)):=by kernel_rfl
def q2V {R:Type}:Z21 S R:=LE.ls X q2R (fun x k=>(Wr x.1 x.2.1 x.u2 x.u3 x.u5 x.u6 x.u7 x.u9 x.v10 (x.u4,x.u8)).bind (q2S x k)) q4
theorem q2W {R:Type}:Z2e X (q2V (R:=R)):=Zke xok q2L (e:=q2R) q2o q5 (st:=fun(x:tq9)=>Xv x.1 x.2.1 x.u2 x.u3 x.u5 x.u6 x.u7 x.u9 x.v10) (prj:=fun(x:tq9)=>(x.u4,x.u8)) (emb:=q2T) q2S (fun x=>(q2U x).trans (by unfold Xv X9;simp only[Zk2,ZjT,Zk3,Option.map_some,Option.map_none];rfl)) q5
def q2X:Key:=⟨[83],83,none,[0,0,1,1,1,0,0,1,1,0,0,1,0,1,1],2,19⟩
def q2Y:StT S:=⟨vI,(N (N L o7 L) og (N L o7 L)),19⟩
def q2Z:Way S:=⟨(.exit 2),⟨v15,(N (N L o7 L) og (N L o7 L)),20⟩,[.int,.int,.int,(.lst (.st 28)),(.arr (.st 5)),(.st 25),(.arr (.st 5))]⟩
def q30:LE S:=⟨q2X,q2Y,[.int,.int,.int,.int,.int,.int,(.lst (.st 28)),(.lst (.st 28)),(.arr (.st 5)),(.st 25),(.arr (.st 5))],[q2Z]⟩
theorem q33 (x:tq9):LE.step X q30 q2K q2n q2V 12 x=X1h x.1 x.2.1 x.u2 x.u3 x.u5 x.u6 x.u7 x.u9 x.v10 x.u4 x.u8 (fun w=>Sum.inl (q2T x w)) (fun o=>Sum.inr (q2S x id o)):=by kernel_rfl
def q34 {R:Type}:Z21 S R:=LE.ls X q30 (fun x k=>(X1A x.1 x.2.1 x.u2 x.u3 x.u5 x.u6 x.u7 x.u9 x.v10 (x.u4,x.u8)).bind (q2S x k)) q2V
theorem q35 {R:Type}:Z2e X (q34 (R:=R)):=Zke xok q2L (e:=q30) q2o q2W (st:=fun(x:tq9)=>X1P x.1 x.2.1 x.u2 x.u3 x.u5 x.u6 x.u7 x.u9 x.v10) (prj:=fun(x:tq9)=>(x.u4,x.u8)) (emb:=q2T) q2S (fun x=>(q33 x).trans (by unfold X1P X1h X9;simp only[Zk2,ZjT,Zk3,Option.map_some,Option.map_none];rfl)) q2W
def q36:Key:=⟨[83],83,none,[0,0,1,0,1,1],0,11⟩
def q37:StT S:=⟨v15,(N (N L o7 L) og (N L o7 L)),11⟩
def q38:Way S:=⟨(.exit 0),⟨(N L none (N v1u vz (N L (some (.ptr 2 0)) L))),(N (N L o7 L) og (N L o7 L)),12⟩,[.int,(.lst (.st 28)),(.arr (.st 5)),(.st 25),(.arr (.st 5))]⟩
def q39:LE S:=⟨q36,q37,[.int,.int,.int,(.lst (.st 28)),(.arr (.st 5)),(.st 25),(.arr (.st 5))],[q38]⟩
def q3a {T:Type} (x:tqh) (k:(Int×(List Zb)×(Nat->Y2)×Zc×(Nat->Y2))->T):(Nat->Y2)->T:=fun y0=>k (x.2.1,x.u3,y0,x.u5,x.v6)
def q3b (x:tqh) (v:(Int×(Nat->Y2))):tqh:=(x.1,x.2.1,v.1,x.u3,v.2,x.u5,x.v6)
theorem q3c (x:tqh):LE.step X q39 q2K q2n q34 12 x=XK x.1 x.2.1 x.u3 x.u5 x.v6 x.u2 x.u4 (fun w=>Sum.inl (q3b x w)) (fun o=>Sum.inr (q3a x id o)):=by kernel_rfl
def q3d {R:Type}:Z21 S R:=LE.ls X q39 (fun x k=>(Wq x.1 x.2.1 x.u3 x.u5 x.v6 (x.u2,x.u4)).bind (q3a x k)) q34
theorem q3e {R:Type}:Z2e X (q3d (R:=R)):=Zke xok q2L (e:=q39) q2o q35 (st:=fun(x:tqh)=>Xu x.1 x.2.1 x.u3 x.u5 x.v6) (prj:=fun(x:tqh)=>(x.u2,x.u4)) (emb:=q3b) q3a (fun x=>(q3c x).trans (by unfold Xu XK;simp only[Zk2,ZjT,Zk3,Option.map_some,Option.map_none];rfl)) q35
def q3f:Key:=⟨[83],83,none,[0,0,1,1,0,0,1,0,0,1,0,1,1,1],6,38⟩
def q3g:StT S:=⟨vL,(N (N L o7 L) og (N L o7 L)),38⟩
def q3h:Way S:=⟨(.exit 6),⟨v1b,(N (N L o7 L) og (N L o7 L)),39⟩,[.int,.int,(.lst (.st 28)),(.arr (.st 5)),(.st 25),(.arr (.st 5))]⟩
def q3i:LE S:=⟨q3f,q3g,[(.lst (.st 28)),.int,.int,.int,.int,(.lst (.st 28)),(.arr (.st 5)),(.st 25),(.arr (.st 5))],[q3h]⟩
def q3j {T:Type} (x:tqc) (k:tqi->T):(Nat->Y2)->T:=fun y0=>k (x.u2,x.u4,x.u5,y0,x.u7,x.v8)
def q3k (x:tqc) (v:(Int×(Nat->Y2))):tqc:=(x.1,v.1,x.u2,x.u3,x.u4,x.u5,v.2,x.u7,x.v8)
theorem q3l (x:tqc):LE.step X q3i q2K q2n q3d 12 x=Xa x.1 x.u2 x.u3 x.u4 x.u5 x.u7 x.v8 x.2.1 x.u6 (fun w=>Sum.inl (q3k x w)) (fun o=>Sum.inr (q3j x id o)):=by kernel_rfl
def q3m {R:Type}:Z21 S R:=LE.ls X q3i (fun x k=>(Wt x.1 x.u2 x.u3 x.u4 x.u5 x.u7 x.v8 (x.2.1,x.u6)).bind (q3j x k)) q3d
theorem q3n {R:Type}:Z2e X (q3m (R:=R)):=Zke xok q2L (e:=q3i) q2o q3e (st:=fun(x:tqc)=>Xx x.1 x.u2 x.u3 x.u4 x.u5 x.u7 x.v8) (prj:=fun(x:tqc)=>(x.2.1,x.u6)) (emb:=q3k) q3j (fun x=>(q3l x).trans (by unfold Xx Xa;simp only[Zk2,ZjT,Zk3,Option.map_some,Option.map_none];rfl)) q3e
def q3o:Key:=⟨[83],83,none,[0,0,1,1,0,0,1,0,0,1,0,1,1,1],6,24⟩
def q3p:StT S:=⟨vL,(N (N L o7 L) og (N L o7 L)),24⟩
def q3q:Way S:=⟨(.exit 6),⟨v1b,(N (N L o7 L) og (N L o7 L)),25⟩,[.int,.int,(.lst (.st 28)),(.arr (.st 5)),(.st 25),(.arr (.st 5))]⟩
def q3r:LE S:=⟨q3o,q3p,[(.lst (.st 28)),.int,.int,.int,.int,(.lst (.st 28)),(.arr (.st 5)),(.st 25),(.arr (.st 5))],[q3q]⟩
theorem q3u (x:tqc):LE.step X q3r q2K q2n q3m 12 x=X1i x.1 x.u2 x.u3 x.u4 x.u5 x.u7 x.v8 x.2.1 x.u6 (fun w=>Sum.inl (q3k x w)) (fun o=>Sum.inr (q3j x id o)):=by kernel_rfl
def q3v {R:Type}:Z21 S R:=LE.ls X q3r (fun x k=>(X1B x.1 x.u2 x.u3 x.u4 x.u5 x.u7 x.v8 (x.2.1,x.u6)).bind (q3j x k)) q3m
theorem q3w {R:Type}:Z2e X (q3v (R:=R)):=Zke xok q2L (e:=q3r) q2o q3n (st:=fun(x:tqc)=>X1Q x.1 x.u2 x.u3 x.u4 x.u5 x.u7 x.v8) (prj:=fun(x:tqc)=>(x.2.1,x.u6)) (emb:=q3k) q3j (fun x=>(q3u x).trans (by unfold X1Q X1i Xa;simp only[Zk2,ZjT,Zk3,Option.map_some,Option.map_none];rfl)) q3n
def q3x:Key:=⟨[83],83,none,[0,0,1,0,1,1,1],4,15⟩
def q3y:StT S:=⟨v1b,(N (N L o7 L) og (N L o7 L)),15⟩
def q3z:Way S:=⟨(.exit 4),⟨(N L none (N v1u none (N L (some (.ptr 2 0)) L))),(N (N L o7 L) og (N L o7 L)),17⟩,[.int,(.arr (.st 5)),(.st 25),(.arr (.st 5))]⟩
def q3A:LE S:=⟨q3x,q3y,[.int,.int,(.lst (.st 28)),(.arr (.st 5)),(.st 25),(.arr (.st 5))],[q3z]⟩
def q3B {T:Type} (x:tqi) (k:(Int×(Nat->Y2)×Zc×(Nat->Y2))->T):(Nat->Y2)->T:=fun y0=>k (x.1,y0,x.u4,x.v5)
def q3C (x:tqi) (v:(Int×(Nat->Y2))):tqi:=(x.1,v.1,x.u2,v.2,x.u4,x.v5)
theorem q3D (x:tqi):LE.step X q3A q2K q2n q3v 12 x=XM x.1 x.u2 x.u4 x.v5 x.2.1 x.u3 (fun w=>Sum.inl (q3C x w)) (fun o=>Sum.inr (q3B x id o)):=by kernel_rfl
def q3E {R:Type}:Z21 S R:=LE.ls X q3A (fun x k=>(Ws x.1 x.u2 x.u4 x.v5 (x.2.1,x.u3)).bind (q3B x k)) q3v
theorem q3F {R:Type}:Z2e X (q3E (R:=R)):=Zke xok q2L (e:=q3A) q2o q3w (st:=fun(x:tqi)=>Xw x.1 x.u2 x.u4 x.v5) (prj:=fun(x:tqi)=>(x.2.1,x.u3)) (emb:=q3C) q3B (fun x=>(q3D x).trans (by unfold Xw XM;simp only[Zk2,ZjT,Zk3,Option.map_some,Option.map_none];rfl)) q3w
def q3G:Key:=⟨[146,2,1,119,3,25,83],146,none,[0,0,1,0,1],0,34⟩
def q3H:StT S:=⟨(N (N (N (N L vA L) none L) (some (.fn (.func 120) [] [])) L) (some (.sl (.st 5) [])) v1v),L,34⟩
def q3I:Way S:=⟨.ret,⟨v1w,L,45⟩,[.int]⟩
def q3J:Way S:=⟨(.exit 0),⟨L,L,35⟩,[]⟩
def q3K:LE S:=⟨q3G,q3H,[.int,(.lst (.st 5)),.int],[q3I,q3J]⟩
def q3L {T:Type} (x:tqQ) (k:(Int⊕Unit)->T):(Int⊕Unit)->T:=Sum.elim (fun y0=>k (.inl y0)) (fun y1=>k (.inr ()))
def q3M (x:tqQ) (v:Int):tqQ:=(x.1,x.2.1,v)
theorem q3N (x:tqQ):LE.step X q3K q2K q2n q3E 12 x=XN x.1 x.2.1 x.v2 (fun w=>Sum.inl (q3M x w)) (fun o=>Sum.inr (q3L x id o)):=by kernel_rfl
def q3O {R:Type}:Z21 S R:=LE.ls X q3K (fun x k=>(X1C x.1 x.2.1 x.v2).bind (q3L x k)) q3E
theorem q3P {R:Type}:Z2e X (q3O (R:=R)):=Zke xok q2L (e:=q3K) q2o q3F (st:=fun(x:tqQ)=>Xy x.1 x.2.1) (prj:=fun(x:tqQ)=>x.v2) (emb:=q3M) q3L (fun x=>(q3N x).trans (by unfold Xy XN;simp only[Zk2,ZjT,Zk3,Option.map_some,Option.map_none];rfl)) q3F
theorem q3Q (x0:Zc) (x1:Nat->Y2) (x2:List Zb):Zkg X q2K [(.st 25),(.arr 10 (.st 5)),(.sl (.st 28))] [(.arr 10 (.st 5)),.bool] q2n q3O 12 83 (x0,x1,x2,())=Wc x0 x1 x2:=by kernel_rfl
def q3R:F7 S:=⟨[(.st 25),(.arr 10 (.st 5)),(.sl (.st 28))],[(.arr 10 (.st 5)),.bool],fun xs=>Wm xs.1 xs.2.1 xs.u2⟩
theorem q3S:Zav X 83 q3R:=Zkd (Zkc xok q2L q2o q3P 12 83) fun xs _ h=>((q3Q xs.1 xs.2.1 xs.u2).trans (X45 xs.1 xs.2.1 xs.u2).symm).trans h
def q3T:StT S:=⟨(N v1h vA (N (N L (some (.ptr 4 0)) L) vz L)),o1k,6⟩
def q3U:Way S:=⟨.ret,⟨(N L vB L),o1k,6⟩,[.bool,(.st 25),.bool,(.st 25),(.st 25)]⟩
def q3V:Way S:=⟨.ret,⟨(N L vB L),o1l,6⟩,[.bool,(.st 25),.bool,(.st 25),(.st 25)]⟩
def q3W:PE S:=⟨82,6,q3T,[(.arr (.st 5)),.int,(.lst (.st 28)),(.st 25),.bool,(.st 25),(.st 25)],[q3U,q3V]⟩
def q3X:List (Nat×F7 S):=[(83,q3R)]
theorem q3Y:Z95 X q3X:=⟨q3S,trivial⟩
abbrev q3Z (ih:tqf->Option tq8) {R:Type}:Z21 S R:=Zj1
theorem q40 (ih:tqf->Option tq8) (hih:ZcD X q3W ih) {R:Type}:Z2e X (q3Z ih (R:=R)):=ZjC X
def q41:Key:=⟨[121,0,82],121,none,[0,0,1,1],0,69⟩
def q42:StT S:=⟨vQ,oD,70⟩
def q43:Way S:=⟨.ret,⟨L,(N oR o5 oV),166⟩,[(.arr (.st 5)),(.st 28),(.st 25),.bool,(.arr (.st 5)),(.arr (.st 5)),.bool,.int,(.st 25),(.lst (.st 19)),(.lst (.st 28)),(.st 28),(.lst (.st 19)),(.st 21),(.lst (.st 28)),(.st 25),(.st 25),(.st 19),.int,(.lst (.st 28)),.int,.bool,(.arr (.st 5)),.bool,.int,.bool,(.lst (.st 28))]⟩
def q44:Way S:=⟨.ret,⟨L,(N oS o5 oV),166⟩,[(.arr (.st 5)),(.st 28),(.st 25),.bool,(.arr (.st 5)),(.arr (.st 5)),.bool,.int,(.st 25),(.lst (.st 19)),(.lst (.st 28)),(.st 28),(.lst (.st 19)),(.st 21),(.lst (.st 28)),(.st 25),(.st 25),(.st 19),.int,(.lst (.st 28)),.int,.bool,(.arr (.st 5)),.bool,.int,.bool,(.lst (.st 28))]⟩
def q45:Way S:=⟨.ret,⟨L,oE,159⟩,[(.arr (.st 5)),(.st 28),(.st 25),.bool,(.arr (.st 5)),(.arr (.st 5)),.bool,.int,(.st 25),(.lst (.st 19)),(.st 28),(.lst (.st 19)),(.st 21),(.lst (.st 28)),(.st 25),(.st 25),(.st 19),.int,.int,.bool,(.arr (.st 5)),.bool,.int,.bool,(.lst (.st 28))]⟩
def q46:Way S:=⟨.ret,⟨L,oF,159⟩,[(.arr (.st 5)),(.st 28),(.st 25),.bool,(.arr (.st 5)),(.arr (.st 5)),.bool,.int,(.st 25),(.lst (.st 19)),(.st 28),(.lst (.st 19)),(.st 21),(.lst (.st 28)),(.st 25),(.st 25),(.st 19),.int,.int,.bool,(.arr (.st 5)),.bool,.int,.bool,(.lst (.st 28))]⟩
def q47:Way S:=⟨.ret,⟨L,(N oJ o5 oY),151⟩,[(.arr (.st 5)),(.st 28),(.st 25),(.lst (.st 28)),.bool,(.arr (.st 5)),(.arr (.st 5)),.bool,.int,(.st 25),(.lst (.st 19)),(.st 28),(.lst (.st 19)),(.st 21),(.lst (.st 28)),(.st 25),(.st 25),(.st 19),.int,.int,(.lst (.st 28)),.bool,(.arr (.st 5)),.bool,.int,.bool,(.lst (.st 28))]⟩
def q48:Way S:=⟨.ret,⟨L,(N oK o5 oY),151⟩,[(.arr (.st 5)),(.st 28),(.st 25),(.lst (.st 28)),.bool,(.arr (.st 5)),(.arr (.st 5)),.bool,.int,(.st 25),(.lst (.st 19)),(.st 28),(.lst (.st 19)),(.st 21),(.lst (.st 28)),(.st 25),(.st 25),(.st 19),.int,.int,(.lst (.st 28)),.bool,(.arr (.st 5)),.bool,.int,.bool,(.lst (.st 28))]⟩
def q49:Way S:=⟨.ret,⟨L,oE,144⟩,[(.arr (.st 5)),(.st 28),(.st 25),.bool,(.arr (.st 5)),(.arr (.st 5)),.bool,.int,(.st 25),(.lst (.st 19)),(.st 28),(.lst (.st 19)),(.st 21),(.lst (.st 28)),(.st 25),(.st 25),(.st 19),.int,.int,.bool,(.arr (.st 5)),.bool,.int,.bool,(.lst (.st 28))]⟩
def q4a:Way S:=⟨.ret,⟨L,oF,144⟩,[(.arr (.st 5)),(.st 28),(.st 25),.bool,(.arr (.st 5)),(.arr (.st 5)),.bool,.int,(.st 25),(.lst (.st 19)),(.st 28),(.lst (.st 19)),(.st 21),(.lst (.st 28)),(.st 25),(.st 25),(.st 19),.int,.int,.bool,(.arr (.st 5)),.bool,.int,.bool,(.lst (.st 28))]⟩
def q4b:Way S:=⟨.ret,⟨L,(N oM o5 oO),152⟩,[(.lst (.st 28)),(.arr (.st 5)),(.st 28),(.st 25),.bool,(.arr (.st 5)),(.arr (.st 5)),.bool,.int,(.st 25),(.lst (.st 19)),(.st 28),(.lst (.st 19)),(.st 21),(.lst (.st 28)),(.st 25),(.lst (.st 28)),(.st 25),(.st 19),.int,.int,.bool,(.arr (.st 5)),.bool,.int,.bool,(.lst (.st 28))]⟩
def q4c:Way S:=⟨.ret,⟨L,(N oN o5 oO),152⟩,[(.lst (.st 28)),(.arr (.st 5)),(.st 28),(.st 25),.bool,(.arr (.st 5)),(.arr (.st 5)),.bool,.int,(.st 25),(.lst (.st 19)),(.st 28),(.lst (.st 19)),(.st 21),(.lst (.st 28)),(.st 25),(.lst (.st 28)),(.st 25),(.st 19),.int,.int,.bool,(.arr (.st 5)),.bool,.int,.bool,(.lst (.st 28))]⟩
def q4d:Way S:=⟨.ret,⟨L,oE,145⟩,[(.arr (.st 5)),(.st 28),(.st 25),.bool,(.arr (.st 5)),(.arr (.st 5)),.bool,.int,(.st 25),(.lst (.st 19)),(.st 28),(.lst (.st 19)),(.st 21),(.lst (.st 28)),(.st 25),(.st 25),(.st 19),.int,.int,.bool,(.arr (.st 5)),.bool,.int,.bool,(.lst (.st 28))]⟩
def q4e:Way S:=⟨.ret,⟨L,oF,145⟩,[(.arr (.st 5)),(.st 28),(.st 25),.bool,(.arr (.st 5)),(.arr (.st 5)),.bool,.int,(.st 25),(.lst (.st 19)),(.st 28),(.lst (.st 19)),(.st 21),(.lst (.st 28)),(.st 25),(.st 25),(.st 19),.int,.int,.bool,(.arr (.st 5)),.bool,.int,.bool,(.lst (.st 28))]⟩
def q4f:Way S:=⟨.ret,⟨L,(N oT o5 o10),137⟩,[(.arr (.st 5)),(.st 28),(.st 25),.bool,(.arr (.st 5)),(.arr (.st 5)),.bool,.int,(.st 25),(.lst (.st 19)),(.st 28),(.lst (.st 28)),(.lst (.st 28)),(.lst (.st 19)),(.st 21),(.lst (.st 28)),(.st 25),(.st 25),(.st 19),.int,.int,.bool,(.arr (.st 5)),.bool,.int,.bool,(.lst (.st 28))]⟩
def q4g:Way S:=⟨.ret,⟨L,(N oU o5 o10),137⟩,[(.arr (.st 5)),(.st 28),(.st 25),.bool,(.arr (.st 5)),(.arr (.st 5)),.bool,.int,(.st 25),(.lst (.st 19)),(.st 28),(.lst (.st 28)),(.lst (.st 28)),(.lst (.st 19)),(.st 21),(.lst (.st 28)),(.st 25),(.st 25),(.st 19),.int,.int,.bool,(.arr (.st 5)),.bool,.int,.bool,(.lst (.st 28))]⟩
def q4h:Way S:=⟨.ret,⟨L,oE,130⟩,[(.arr (.st 5)),(.st 28),(.st 25),.bool,(.arr (.st 5)),(.arr (.st 5)),.bool,.int,(.st 25),(.lst (.st 19)),(.st 28),(.lst (.st 19)),(.st 21),(.lst (.st 28)),(.st 25),(.st 25),(.st 19),.int,.int,.bool,(.arr (.st 5)),.bool,.int,.bool,(.lst (.st 28))]⟩
def q4i:Way S:=⟨.ret,⟨L,oF,130⟩,[(.arr (.st 5)),(.st 28),(.st 25),.bool,(.arr (.st 5)),(.arr (.st 5)),.bool,.int,(.st 25),(.lst (.st 19)),(.st 28),(.lst (.st 19)),(.st 21),(.lst (.st 28)),(.st 25),(.st 25),(.st 19),.int,.int,.bool,(.arr (.st 5)),.bool,.int,.bool,(.lst (.st 28))]⟩
def q4j:Way S:=⟨(.exit 0),⟨L,oD,71⟩,[(.arr (.st 5)),(.st 28),(.st 25),.bool,(.arr (.st 5)),.bool,.int,(.st 25),(.lst (.st 19)),(.lst (.st 19)),(.st 21),(.lst (.st 28)),(.st 25),(.st 25),.int,.int,.bool,(.arr (.st 5)),.bool,.int,.bool,(.lst (.st 28))]⟩
def q4k:LE S:=⟨q41,q42,[.int,.int,.int,(.arr (.st 5)),(.st 28),(.st 25),.bool,(.arr (.st 5)),.bool,.int,(.st 25),(.lst (.st 19)),(.lst (.st 19)),(.st 21),(.lst (.st 28)),(.st 25),(.st 25),.int,.int,.bool,(.arr (.st 5)),.bool,.int,.bool,(.lst (.st 28))],[q43,q44,q45,q46,q47,q48,q49,q4a,q4b,q4c,q4d,q4e,q4f,q4g,q4h,q4i,q4j]⟩
def q4l {T:Type} (x:tq1) (k:(((Nat->Y2)×Zb×Zc×Bool×(Nat->Y2)×(Nat->Y2)×Bool×Int×Zc×(List Zq)×(List Zb)×Zb×(List Zq)×Zr×(List Zb)×Zc×Zc×Zq×Int×(List Zb)×Int×Bool×(Nat->Y2)×Bool×Int×Bool×(List Zb))⊕((Nat->Y2)×Zb×Zc×Bool×(Nat->Y2)×(Nat->Y2)×Bool×Int×Zc×(List Zq)×(List Zb)×Zb×(List Zq)×Zr×(List Zb)×Zc×Zc×Zq×Int×(List Zb)×Int×Bool×(Nat->Y2)×Bool×Int×Bool×(List Zb))⊕tq0⊕tq0⊕((Nat->Y2)×Zb×Zc×(List Zb)×Bool×(Nat->Y2)×(Nat->Y2)×Bool×Int×Zc×(List Zq)×Zb×(List Zq)×Zr×(List Zb)×Zc×Zc×Zq×Int×Int×(List Zb)×Bool×(Nat->Y2)×Bool×Int×Bool×(List Zb))⊕((Nat->Y2)×Zb×Zc×(List Zb)×Bool×(Nat->Y2)×(Nat->Y2)×Bool×Int×Zc×(List Zq)×Zb×(List Zq)×Zr×(List Zb)×Zc×Zc×Zq×Int×Int×(List Zb)×Bool×(Nat->Y2)×Bool×Int×Bool×(List Zb))⊕tq0⊕tq0⊕((List Zb)×(Nat->Y2)×Zb×Zc×Bool×(Nat->Y2)×(Nat->Y2)×Bool×Int×Zc×(List Zq)×Zb×(List Zq)×Zr×(List Zb)×Zc×(List Zb)×Zc×Zq×Int×Int×Bool×(Nat->Y2)×Bool×Int×Bool×(List Zb))⊕((List Zb)×(Nat->Y2)×Zb×Zc×Bool×(Nat->Y2)×(Nat->Y2)×Bool×Int×Zc×(List Zq)×Zb×(List Zq)×Zr×(List Zb)×Zc×(List Zb)×Zc×Zq×Int×Int×Bool×(Nat->Y2)×Bool×Int×Bool×(List Zb))⊕tq0⊕tq0⊕((Nat->Y2)×Zb×Zc×Bool×(Nat->Y2)×(Nat->Y2)×Bool×Int×Zc×(List Zq)×Zb×(List Zb)×(List Zb)×(List Zq)×Zr×(List Zb)×Zc×Zc×Zq×Int×Int×Bool×(Nat->Y2)×Bool×Int×Bool×(List Zb))⊕((Nat->Y2)×Zb×Zc×Bool×(Nat->Y2)×(Nat->Y2)×Bool×Int×Zc×(List Zq)×Zb×(List Zb)×(List Zb)×(List Zq)×Zr×(List Zb)×Zc×Zc×Zq×Int×Int×Bool×(Nat->Y2)×Bool×Int×Bool×(List Zb))⊕tq0⊕tq0⊕((Nat->Y2)×Zb×Zc×Bool×(Nat->Y2)×Bool×Int×Zc×(List Zq)×(List Zq)×Zr×(List Zb)×Zc×Zc×Int×Int×Bool×(Nat->Y2)×Bool×Int×Bool×(List Zb)))->T):(tq4⊕tq4⊕tqb⊕tqb⊕tq5⊕tq5⊕tqb⊕tqb⊕tq6⊕tq6⊕tqb⊕tqb⊕tq7⊕tq7⊕tqe⊕tqe⊕(Zb×Zc×Bool×Zc×Zc))->T:=Sum.elim (fun y0=>k (.inl (x.u3,y0.1,y0.2.1,y0.u2,y0.u3,x.u7,y0.u4,x.u9,y0.u5,x.u11,y0.u6,y0.u7,x.u12,x.u13,x.u14,x.u15,y0.u8,y0.u9,x.u17,y0.v10,x.u18,x.u19,x.u20,x.u21,x.u22,x.u23,x.v24))) (Sum.elim (fun y1=>k (.inr (.inl (x.u3,y1.1,y1.2.1,y1.u2,y1.u3,x.u7,y1.u4,x.u9,y1.u5,x.u11,y1.u6,y1.u7,x.u12,x.u13,x.u14,x.u15,y1.u8,y1.u9,x.u17,y1.v10,x.u18,x.u19,x.u20,x.u21,x.u22,x.u23,x.v24)))) (Sum.elim (fun y2=>k (.inr (.inr (.inl (x.u3,y2.1,y2.2.1,y2.u2,y2.u3,x.u7,y2.u4,x.u9,y2.u5,x.u11,y2.u6,x.u12,x.u13,x.u14,x.u15,y2.u7,y2.v8,x.u17,x.u18,x.u19,x.u20,x.u21,x.u22,x.u23,x.v24))))) (Sum.elim (fun y3=>k (.inr (.inr (.inr (.inl (x.u3,y3.1,y3.2.1,y3.u2,y3.u3,x.u7,y3.u4,x.u9,y3.u5,x.u11,y3.u6,x.u12,x.u13,x.u14,x.u15,y3.u7,y3.v8,x.u17,x.u18,x.u19,x.u20,x.u21,x.u22,x.u23,x.v24)))))) (Sum.elim (fun y4=>k (.inr (.inr (.inr (.inr (.inl (x.u3,y4.1,y4.2.1,y4.u2,y4.u3,y4.u4,x.u7,y4.u5,x.u9,y4.u6,x.u11,y4.u7,x.u12,x.u13,x.u14,x.u15,y4.u8,y4.u9,x.u17,x.u18,y4.v10,x.u19,x.u20,x.u21,x.u22,x.u23,x.v24))))))) (Sum.elim (fun y5=>k (.inr (.inr (.inr (.inr (.inr (.inl (x.u3,y5.1,y5.2.1,y5.u2,y5.u3,y5.u4,x.u7,y5.u5,x.u9,y5.u6,x.u11,y5.u7,x.u12,x.u13,x.u14,x.u15,y5.u8,y5.u9,x.u17,x.u18,y5.v10,x.u19,x.u20,x.u21,x.u22,x.u23,x.v24)))))))) (Sum.elim (fun y6=>k (.inr (.inr (.inr (.inr (.inr (.inr (.inl (x.u3,y6.1,y6.2.1,y6.u2,y6.u3,x.u7,y6.u4,x.u9,y6.u5,x.u11,y6.u6,x.u12,x.u13,x.u14,x.u15,y6.u7,y6.v8,x.u17,x.u18,x.u19,x.u20,x.u21,x.u22,x.u23,x.v24))))))))) (Sum.elim (fun y7=>k (.inr (.inr (.inr (.inr (.inr (.inr (.inr (.inl (x.u3,y7.1,y7.2.1,y7.u2,y7.u3,x.u7,y7.u4,x.u9,y7.u5,x.u11,y7.u6,x.u12,x.u13,x.u14,x.u15,y7.u7,y7.v8,x.u17,x.u18,x.u19,x.u20,x.u21,x.u22,x.u23,x.v24)))))))))) (Sum.elim (fun y8=>k (.inr (.inr (.inr (.inr (.inr (.inr (.inr (.inr (.inl (y8.1,x.u3,y8.2.1,y8.u2,y8.u3,y8.u4,x.u7,y8.u5,x.u9,y8.u6,x.u11,y8.u7,x.u12,x.u13,x.u14,x.u15,y8.u8,y8.u9,y8.v10,x.u17,x.u18,x.u19,x.u20,x.u21,x.u22,x.u23,x.v24))))))))))) (Sum.elim (fun y9=>k (.inr (.inr (.inr (.inr (.inr (.inr (.inr (.inr (.inr (.inl (y9.1,x.u3,y9.2.1,y9.u2,y9.u3,y9.u4,x.u7,y9.u5,x.u9,y9.u6,x.u11,y9.u7,x.u12,x.u13,x.u14,x.u15,y9.u8,y9.u9,y9.v10,x.u17,x.u18,x.u19,x.u20,x.u21,x.u22,x.u23,x.v24)))))))))))) (Sum.elim (fun y10=>k (.inr (.inr (.inr (.inr (.inr (.inr (.inr (.inr (.inr (.inr (.inl (x.u3,y10.1,y10.2.1,y10.u2,y10.u3,x.u7,y10.u4,x.u9,y10.u5,x.u11,y10.u6,x.u12,x.u13,x.u14,x.u15,y10.u7,y10.v8,x.u17,x.u18,x.u19,x.u20,x.u21,x.u22,x.u23,x.v24))))))))))))) (Sum.elim (fun y11=>k (.inr (.inr (.inr (.inr (.inr (.inr (.inr (.inr (.inr (.inr (.inr (.inl (x.u3,y11.1,y11.2.1,y11.u2,y11.u3,x.u7,y11.u4,x.u9,y11.u5,x.u11,y11.u6,x.u12,x.u13,x.u14,x.u15,y11.u7,y11.v8,x.u17,x.u18,x.u19,x.u20,x.u21,x.u22,x.u23,x.v24)))))))))))))) (Sum.elim (fun y12=>k (.inr (.inr (.inr (.inr (.inr (.inr (.inr (.inr (.inr (.inr (.inr (.inr (.inl (x.u3,y12.1,y12.2.1,y12.u2,x.u3,x.u7,y12.u3,x.u9,y12.u4,x.u11,y12.u5,y12.u6,y12.u7,x.u12,x.u13,x.u14,x.u15,y12.u8,y12.v9,x.u17,x.u18,x.u19,x.u20,x.u21,x.u22,x.u23,x.v24))))))))))))))) (Sum.elim (fun y13=>k (.inr (.inr (.inr (.inr (.inr (.inr (.inr (.inr (.inr (.inr (.inr (.inr (.inr (.inl (x.u3,y13.1,y13.2.1,y13.u2,x.u3,x.u7,y13.u3,x.u9,y13.u4,x.u11,y13.u5,y13.u6,y13.u7,x.u12,x.u13,x.u14,x.u15,y13.u8,y13.v9,x.u17,x.u18,x.u19,x.u20,x.u21,x.u22,x.u23,x.v24)))))))))))))))) (Sum.elim (fun y14=>k (.inr (.inr (.inr (.inr (.inr (.inr (.inr (.inr (.inr (.inr (.inr (.inr (.inr (.inr (.inl (x.u3,y14.1,y14.2.1,y14.u2,x.u3,x.u7,y14.u3,x.u9,y14.u4,x.u11,y14.u5,x.u12,x.u13,x.u14,x.u15,y14.u6,y14.v7,x.u17,x.u18,x.u19,x.u20,x.u21,x.u22,x.u23,x.v24))))))))))))))))) (Sum.elim (fun y15=>k (.inr (.inr (.inr (.inr (.inr (.inr (.inr (.inr (.inr (.inr (.inr (.inr (.inr (.inr (.inr (.inl (x.u3,y15.1,y15.2.1,y15.u2,x.u3,x.u7,y15.u3,x.u9,y15.u4,x.u11,y15.u5,x.u12,x.u13,x.u14,x.u15,y15.u6,y15.v7,x.u17,x.u18,x.u19,x.u20,x.u21,x.u22,x.u23,x.v24)))))))))))))))))) (fun y16=>k (.inr (.inr (.inr (.inr (.inr (.inr (.inr (.inr (.inr (.inr (.inr (.inr (.inr (.inr (.inr (.inr (x.u3,y16.1,y16.2.1,y16.u2,x.u7,x.u8,x.u9,y16.u3,x.u11,x.u12,x.u13,x.u14,x.u15,y16.v4,x.u17,x.u18,x.u19,x.u20,x.u21,x.u22,x.u23,x.v24)))))))))))))))))))))))))))))))))
def q4m (x:tq1) (v:(Int×Int×Zb×Zc×Bool×Zc×Zc)):tq1:=(x.1,v.1,v.2.1,x.u3,v.u2,v.u3,v.u4,x.u7,x.u8,x.u9,v.u5,x.u11,x.u12,x.u13,x.u14,x.u15,v.v6,x.u17,x.u18,x.u19,x.u20,x.u21,x.u22,x.u23,x.v24)
theorem q4n (ih:tqf->Option tq8) (x:tq1):LE.step X q4k q3X (PE.ps X q3W (fun x q=>(ih x).bind q) q2n) (q3Z ih) 12 x=X0 ih x.1 x.u3 x.u7 x.u8 x.u9 x.u11 x.u12 x.u13 x.u14 x.u15 x.u17 x.u18 x.u19 x.u20 x.u21 x.u22 x.u23 x.v24 x.2.1 x.u2 x.u4 x.u5 x.u6 x.u10 x.u16 (fun w=>Sum.inl (q4m x w)) (fun o=>Sum.inr (q4l x id o)):=by kernel_rfl
def q4o (ih:tqf->Option tq8) {R:Type}:Z21 S R:=LE.ls X q4k (fun x k=>(XI ih x.1 x.u3 x.u7 x.u8 x.u9 x.u11 x.u12 x.u13 x.u14 x.u15 x.u17 x.u18 x.u19 x.u20 x.u21 x.u22 x.u23 x.v24 (x.2.1,x.u2,x.u4,x.u5,x.u6,x.u10,x.u16)).bind (q4l x k)) (q3Z ih)
theorem q4p (ih:tqf->Option tq8) (hih:ZcD X q3W ih) {R:Type}:Z2e X (q4o ih (R:=R)):=Zke xok q3Y (e:=q4k) (Zk8 (e:=q3W) hih q2o) (q40 ih hih) (st:=fun(x:tq1)=>X8 ih x.1 x.u3 x.u7 x.u8 x.u9 x.u11 x.u12 x.u13 x.u14 x.u15 x.u17 x.u18 x.u19 x.u20 x.u21 x.u22 x.u23 x.v24) (prj:=fun(x:tq1)=>(x.2.1,x.u2,x.u4,x.u5,x.u6,x.u10,x.u16)) (emb:=q4m) q4l (fun x=>(q4n ih x).trans (by unfold X8 X0;simp only[Zk2,ZjT,Zk3,Option.map_some,Option.map_none];rfl)) (q40 ih hih)
theorem q4q (ih:tqf->Option tq8) (x:((Nat->Y2)×Int×(List Zb)×Zc×Bool×Zc×Zc)):PE.step X q3W q3X (PE.ps X q3W (fun x q=>(ih x).bind q) q2n) (q4o ih) 12 x=Xb ih x.1 x.2.1 x.u2 x.u3 x.u4 x.u5 x.v6:=by kernel_rfl
theorem q4r:ZcD X q3W XX:=Zk9 (X:=X) (e:=q3W) (t:=X2) fun ih hih=>Zkf (ZjG xok q3Y (Zk8 (e:=q3W) hih q2o) (q4p ih hih) 12) fun x _ h=>(q4q ih x).trans h
def q4s {R:Type}:Prs S R:=PE.ps X q3W (fun x q=>(XX x).bind q) q2n
theorem q4t {R:Type}:Z8k X (q4s (R:=R)):=Zk8 (e:=q3W) q4r q2o
def q4u:StT S:=⟨(N v1h vA (N (N L (some (.ptr 4 0)) L) (some .sl0) L)),o1k,6⟩
def q4x:PE S:=⟨82,6,q4u,[(.arr (.st 5)),.int,(.st 25),.bool,(.st 25),(.st 25)],[q3U,q3V]⟩
def q4D:StT S:=⟨vQ,oC,70⟩
def q4E:Way S:=⟨.ret,⟨L,(N oR o5 oW),166⟩,[(.arr (.st 5)),(.st 28),(.st 25),.bool,(.arr (.st 5)),(.arr (.st 5)),.bool,.int,(.st 25),(.lst (.st 19)),(.lst (.st 28)),(.st 28),(.lst (.st 19)),(.st 21),(.lst (.st 28)),(.st 25),(.st 25),(.st 19),.int,(.lst (.st 28)),.int,.bool,(.arr (.st 5)),.bool,.int,.bool]⟩
def q4F:Way S:=⟨.ret,⟨L,(N oS o5 oW),166⟩,[(.arr (.st 5)),(.st 28),(.st 25),.bool,(.arr (.st 5)),(.arr (.st 5)),.bool,.int,(.st 25),(.lst (.st 19)),(.lst (.st 28)),(.st 28),(.lst (.st 19)),(.st 21),(.lst (.st 28)),(.st 25),(.st 25),(.st 19),.int,(.lst (.st 28)),.int,.bool,(.arr (.st 5)),.bool,.int,.bool]⟩
def q4G:Way S:=⟨.ret,⟨L,oG,159⟩,[(.arr (.st 5)),(.st 28),(.st 25),.bool,(.arr (.st 5)),(.arr (.st 5)),.bool,.int,(.st 25),(.lst (.st 19)),(.st 28),(.lst (.st 19)),(.st 21),(.lst (.st 28)),(.st 25),(.st 25),(.st 19),.int,.int,.bool,(.arr (.st 5)),.bool,.int,.bool]⟩
def q4H:Way S:=⟨.ret,⟨L,oH,159⟩,[(.arr (.st 5)),(.st 28),(.st 25),.bool,(.arr (.st 5)),(.arr (.st 5)),.bool,.int,(.st 25),(.lst (.st 19)),(.st 28),(.lst (.st 19)),(.st 21),(.lst (.st 28)),(.st 25),(.st 25),(.st 19),.int,.int,.bool,(.arr (.st 5)),.bool,.int,.bool]⟩
def q4I:Way S:=⟨.ret,⟨L,(N oJ o5 oZ),151⟩,[(.arr (.st 5)),(.st 28),(.st 25),(.lst (.st 28)),.bool,(.arr (.st 5)),(.arr (.st 5)),.bool,.int,(.st 25),(.lst (.st 19)),(.st 28),(.lst (.st 19)),(.st 21),(.lst (.st 28)),(.st 25),(.st 25),(.st 19),.int,.int,(.lst (.st 28)),.bool,(.arr (.st 5)),.bool,.int,.bool]⟩
def q4J:Way S:=⟨.ret,⟨L,(N oK o5 oZ),151⟩,[(.arr (.st 5)),(.st 28),(.st 25),(.lst (.st 28)),.bool,(.arr (.st 5)),(.arr (.st 5)),.bool,.int,(.st 25),(.lst (.st 19)),(.st 28),(.lst (.st 19)),(.st 21),(.lst (.st 28)),(.st 25),(.st 25),(.st 19),.int,.int,(.lst (.st 28)),.bool,(.arr (.st 5)),.bool,.int,.bool]⟩
def q4K:Way S:=⟨.ret,⟨L,oG,144⟩,[(.arr (.st 5)),(.st 28),(.st 25),.bool,(.arr (.st 5)),(.arr (.st 5)),.bool,.int,(.st 25),(.lst (.st 19)),(.st 28),(.lst (.st 19)),(.st 21),(.lst (.st 28)),(.st 25),(.st 25),(.st 19),.int,.int,.bool,(.arr (.st 5)),.bool,.int,.bool]⟩
def q4L:Way S:=⟨.ret,⟨L,oH,144⟩,[(.arr (.st 5)),(.st 28),(.st 25),.bool,(.arr (.st 5)),(.arr (.st 5)),.bool,.int,(.st 25),(.lst (.st 19)),(.st 28),(.lst (.st 19)),(.st 21),(.lst (.st 28)),(.st 25),(.st 25),(.st 19),.int,.int,.bool,(.arr (.st 5)),.bool,.int,.bool]⟩
def q4M:Way S:=⟨.ret,⟨L,(N oM o5 oP),152⟩,[(.lst (.st 28)),(.arr (.st 5)),(.st 28),(.st 25),.bool,(.arr (.st 5)),(.arr (.st 5)),.bool,.int,(.st 25),(.lst (.st 19)),(.st 28),(.lst (.st 19)),(.st 21),(.lst (.st 28)),(.st 25),(.lst (.st 28)),(.st 25),(.st 19),.int,.int,.bool,(.arr (.st 5)),.bool,.int,.bool]⟩
def q4N:Way S:=⟨.ret,⟨L,(N oN o5 oP),152⟩,[(.lst (.st 28)),(.arr (.st 5)),(.st 28),(.st 25),.bool,(.arr (.st 5)),(.arr (.st 5)),.bool,.int,(.st 25),(.lst (.st 19)),(.st 28),(.lst (.st 19)),(.st 21),(.lst (.st 28)),(.st 25),(.lst (.st 28)),(.st 25),(.st 19),.int,.int,.bool,(.arr (.st 5)),.bool,.int,.bool]⟩
def q4O:Way S:=⟨.ret,⟨L,oG,145⟩,[(.arr (.st 5)),(.st 28),(.st 25),.bool,(.arr (.st 5)),(.arr (.st 5)),.bool,.int,(.st 25),(.lst (.st 19)),(.st 28),(.lst (.st 19)),(.st 21),(.lst (.st 28)),(.st 25),(.st 25),(.st 19),.int,.int,.bool,(.arr (.st 5)),.bool,.int,.bool]⟩
def q4P:Way S:=⟨.ret,⟨L,oH,145⟩,[(.arr (.st 5)),(.st 28),(.st 25),.bool,(.arr (.st 5)),(.arr (.st 5)),.bool,.int,(.st 25),(.lst (.st 19)),(.st 28),(.lst (.st 19)),(.st 21),(.lst (.st 28)),(.st 25),(.st 25),(.st 19),.int,.int,.bool,(.arr (.st 5)),.bool,.int,.bool]⟩
def q4Q:Way S:=⟨.ret,⟨L,(N oT o5 o11),137⟩,[(.arr (.st 5)),(.st 28),(.st 25),.bool,(.arr (.st 5)),(.arr (.st 5)),.bool,.int,(.st 25),(.lst (.st 19)),(.st 28),(.lst (.st 28)),(.lst (.st 28)),(.lst (.st 19)),(.st 21),(.lst (.st 28)),(.st 25),(.st 25),(.st 19),.int,.int,.bool,(.arr (.st 5)),.bool,.int,.bool]⟩
def q4R:Way S:=⟨.ret,⟨L,(N oU o5 o11),137⟩,[(.arr (.st 5)),(.st 28),(.st 25),.bool,(.arr (.st 5)),(.arr (.st 5)),.bool,.int,(.st 25),(.lst (.st 19)),(.st 28),(.lst (.st 28)),(.lst (.st 28)),(.lst (.st 19)),(.st 21),(.lst (.st 28)),(.st 25),(.st 25),(.st 19),.int,.int,.bool,(.arr (.st 5)),.bool,.int,.bool]⟩
def q4S:Way S:=⟨.ret,⟨L,oG,130⟩,[(.arr (.st 5)),(.st 28),(.st 25),.bool,(.arr (.st 5)),(.arr (.st 5)),.bool,.int,(.st 25),(.lst (.st 19)),(.st 28),(.lst (.st 19)),(.st 21),(.lst (.st 28)),(.st 25),(.st 25),(.st 19),.int,.int,.bool,(.arr (.st 5)),.bool,.int,.bool]⟩
def q4T:Way S:=⟨.ret,⟨L,oH,130⟩,[(.arr (.st 5)),(.st 28),(.st 25),.bool,(.arr (.st 5)),(.arr (.st 5)),.bool,.int,(.st 25),(.lst (.st 19)),(.st 28),(.lst (.st 19)),(.st 21),(.lst (.st 28)),(.st 25),(.st 25),(.st 19),.int,.int,.bool,(.arr (.st 5)),.bool,.int,.bool]⟩
def q4U:Way S:=⟨(.exit 0),⟨L,oC,71⟩,[(.arr (.st 5)),(.st 28),(.st 25),.bool,(.arr (.st 5)),.bool,.int,(.st 25),(.lst (.st 19)),(.lst (.st 19)),(.st 21),(.lst (.st 28)),(.st 25),(.st 25),.int,.int,.bool,(.arr (.st 5)),.bool,.int,.bool]⟩
def q4V:LE S:=⟨q41,q4D,[.int,.int,.int,(.arr (.st 5)),(.st 28),(.st 25),.bool,(.arr (.st 5)),.bool,.int,(.st 25),(.lst (.st 19)),(.lst (.st 19)),(.st 21),(.lst (.st 28)),(.st 25),(.st 25),.int,.int,.bool,(.arr (.st 5)),.bool,.int,.bool],[q4E,q4F,q4G,q4H,q4I,q4J,q4K,q4L,q4M,q4N,q4O,q4P,q4Q,q4R,q4S,q4T,q4U]⟩
def q4W {T:Type} (x:tq3) (k:(((Nat->Y2)×Zb×Zc×Bool×(Nat->Y2)×(Nat->Y2)×Bool×Int×Zc×(List Zq)×(List Zb)×Zb×(List Zq)×Zr×(List Zb)×Zc×Zc×Zq×Int×(List Zb)×Int×Bool×(Nat->Y2)×Bool×Int×Bool)⊕((Nat->Y2)×Zb×Zc×Bool×(Nat->Y2)×(Nat->Y2)×Bool×Int×Zc×(List Zq)×(List Zb)×Zb×(List Zq)×Zr×(List Zb)×Zc×Zc×Zq×Int×(List Zb)×Int×Bool×(Nat->Y2)×Bool×Int×Bool)⊕tq2⊕tq2⊕((Nat->Y2)×Zb×Zc×(List Zb)×Bool×(Nat->Y2)×(Nat->Y2)×Bool×Int×Zc×(List Zq)×Zb×(List Zq)×Zr×(List Zb)×Zc×Zc×Zq×Int×Int×(List Zb)×Bool×(Nat->Y2)×Bool×Int×Bool)⊕((Nat->Y2)×Zb×Zc×(List Zb)×Bool×(Nat->Y2)×(Nat->Y2)×Bool×Int×Zc×(List Zq)×Zb×(List Zq)×Zr×(List Zb)×Zc×Zc×Zq×Int×Int×(List Zb)×Bool×(Nat->Y2)×Bool×Int×Bool)⊕tq2⊕tq2⊕((List Zb)×(Nat->Y2)×Zb×Zc×Bool×(Nat->Y2)×(Nat->Y2)×Bool×Int×Zc×(List Zq)×Zb×(List Zq)×Zr×(List Zb)×Zc×(List Zb)×Zc×Zq×Int×Int×Bool×(Nat->Y2)×Bool×Int×Bool)⊕((List Zb)×(Nat->Y2)×Zb×Zc×Bool×(Nat->Y2)×(Nat->Y2)×Bool×Int×Zc×(List Zq)×Zb×(List Zq)×Zr×(List Zb)×Zc×(List Zb)×Zc×Zq×Int×Int×Bool×(Nat->Y2)×Bool×Int×Bool)⊕tq2⊕tq2⊕((Nat->Y2)×Zb×Zc×Bool×(Nat->Y2)×(Nat->Y2)×Bool×Int×Zc×(List Zq)×Zb×(List Zb)×(List Zb)×(List Zq)×Zr×(List Zb)×Zc×Zc×Zq×Int×Int×Bool×(Nat->Y2)×Bool×Int×Bool)⊕((Nat->Y2)×Zb×Zc×Bool×(Nat->Y2)×(Nat->Y2)×Bool×Int×Zc×(List Zq)×Zb×(List Zb)×(List Zb)×(List Zq)×Zr×(List Zb)×Zc×Zc×Zq×Int×Int×Bool×(Nat->Y2)×Bool×Int×Bool)⊕tq2⊕tq2⊕((Nat->Y2)×Zb×Zc×Bool×(Nat->Y2)×Bool×Int×Zc×(List Zq)×(List Zq)×Zr×(List Zb)×Zc×Zc×Int×Int×Bool×(Nat->Y2)×Bool×Int×Bool))->T):(tq4⊕tq4⊕tqb⊕tqb⊕tq5⊕tq5⊕tqb⊕tqb⊕tq6⊕tq6⊕tqb⊕tqb⊕tq7⊕tq7⊕tqe⊕tqe⊕(Zb×Zc×Bool×Zc×Zc))->T:=Sum.elim (fun y0=>k (.inl (x.u3,y0.1,y0.2.1,y0.u2,y0.u3,x.u7,y0.u4,x.u9,y0.u5,x.u11,y0.u6,y0.u7,x.u12,x.u13,x.u14,x.u15,y0.u8,y0.u9,x.u17,y0.v10,x.u18,x.u19,x.u20,x.u21,x.u22,x.v23))) (Sum.elim (fun y1=>k (.inr (.inl (x.u3,y1.1,y1.2.1,y1.u2,y1.u3,x.u7,y1.u4,x.u9,y1.u5,x.u11,y1.u6,y1.u7,x.u12,x.u13,x.u14,x.u15,y1.u8,y1.u9,x.u17,y1.v10,x.u18,x.u19,x.u20,x.u21,x.u22,x.v23)))) (Sum.elim (fun y2=>k (.inr (.inr (.inl (x.u3,y2.1,y2.2.1,y2.u2,y2.u3,x.u7,y2.u4,x.u9,y2.u5,x.u11,y2.u6,x.u12,x.u13,x.u14,x.u15,y2.u7,y2.v8,x.u17,x.u18,x.u19,x.u20,x.u21,x.u22,x.v23))))) (Sum.elim (fun y3=>k (.inr (.inr (.inr (.inl (x.u3,y3.1,y3.2.1,y3.u2,y3.u3,x.u7,y3.u4,x.u9,y3.u5,x.u11,y3.u6,x.u12,x.u13,x.u14,x.u15,y3.u7,y3.v8,x.u17,x.u18,x.u19,x.u20,x.u21,x.u22,x.v23)))))) (Sum.elim (fun y4=>k (.inr (.inr (.inr (.inr (.inl (x.u3,y4.1,y4.2.1,y4.u2,y4.u3,y4.u4,x.u7,y4.u5,x.u9,y4.u6,x.u11,y4.u7,x.u12,x.u13,x.u14,x.u15,y4.u8,y4.u9,x.u17,x.u18,y4.v10,x.u19,x.u20,x.u21,x.u22,x.v23))))))) (Sum.elim (fun y5=>k (.inr (.inr (.inr (.inr (.inr (.inl (x.u3,y5.1,y5.2.1,y5.u2,y5.u3,y5.u4,x.u7,y5.u5,x.u9,y5.u6,x.u11,y5.u7,x.u12,x.u13,x.u14,x.u15,y5.u8,y5.u9,x.u17,x.u18,y5.v10,x.u19,x.u20,x.u21,x.u22,x.v23)))))))) (Sum.elim (fun y6=>k (.inr (.inr (.inr (.inr (.inr (.inr (.inl (x.u3,y6.1,y6.2.1,y6.u2,y6.u3,x.u7,y6.u4,x.u9,y6.u5,x.u11,y6.u6,x.u12,x.u13,x.u14,x.u15,y6.u7,y6.v8,x.u17,x.u18,x.u19,x.u20,x.u21,x.u22,x.v23))))))))) (Sum.elim (fun y7=>k (.inr (.inr (.inr (.inr (.inr (.inr (.inr (.inl (x.u3,y7.1,y7.2.1,y7.u2,y7.u3,x.u7,y7.u4,x.u9,y7.u5,x.u11,y7.u6,x.u12,x.u13,x.u14,x.u15,y7.u7,y7.v8,x.u17,x.u18,x.u19,x.u20,x.u21,x.u22,x.v23)))))))))) (Sum.elim (fun y8=>k (.inr (.inr (.inr (.inr (.inr (.inr (.inr (.inr (.inl (y8.1,x.u3,y8.2.1,y8.u2,y8.u3,y8.u4,x.u7,y8.u5,x.u9,y8.u6,x.u11,y8.u7,x.u12,x.u13,x.u14,x.u15,y8.u8,y8.u9,y8.v10,x.u17,x.u18,x.u19,x.u20,x.u21,x.u22,x.v23))))))))))) (Sum.elim (fun y9=>k (.inr (.inr (.inr (.inr (.inr (.inr (.inr (.inr (.inr (.inl (y9.1,x.u3,y9.2.1,y9.u2,y9.u3,y9.u4,x.u7,y9.u5,x.u9,y9.u6,x.u11,y9.u7,x.u12,x.u13,x.u14,x.u15,y9.u8,y9.u9,y9.v10,x.u17,x.u18,x.u19,x.u20,x.u21,x.u22,x.v23)))))))))))) (Sum.elim (fun y10=>k (.inr (.inr (.inr (.inr (.inr (.inr (.inr (.inr (.inr (.inr (.inl (x.u3,y10.1,y10.2.1,y10.u2,y10.u3,x.u7,y10.u4,x.u9,y10.u5,x.u11,y10.u6,x.u12,x.u13,x.u14,x.u15,y10.u7,y10.v8,x.u17,x.u18,x.u19,x.u20,x.u21,x.u22,x.v23))))))))))))) (Sum.elim (fun y11=>k (.inr (.inr (.inr (.inr (.inr (.inr (.inr (.inr (.inr (.inr (.inr (.inl (x.u3,y11.1,y11.2.1,y11.u2,y11.u3,x.u7,y11.u4,x.u9,y11.u5,x.u11,y11.u6,x.u12,x.u13,x.u14,x.u15,y11.u7,y11.v8,x.u17,x.u18,x.u19,x.u20,x.u21,x.u22,x.v23)))))))))))))) (Sum.elim (fun y12=>k (.inr (.inr (.inr (.inr (.inr (.inr (.inr (.inr (.inr (.inr (.inr (.inr (.inl (x.u3,y12.1,y12.2.1,y12.u2,x.u3,x.u7,y12.u3,x.u9,y12.u4,x.u11,y12.u5,y12.u6,y12.u7,x.u12,x.u13,x.u14,x.u15,y12.u8,y12.v9,x.u17,x.u18,x.u19,x.u20,x.u21,x.u22,x.v23))))))))))))))) (Sum.elim (fun y13=>k (.inr (.inr (.inr (.inr (.inr (.inr (.inr (.inr (.inr (.inr (.inr (.inr (.inr (.inl (x.u3,y13.1,y13.2.1,y13.u2,x.u3,x.u7,y13.u3,x.u9,y13.u4,x.u11,y13.u5,y13.u6,y13.u7,x.u12,x.u13,x.u14,x.u15,y13.u8,y13.v9,x.u17,x.u18,x.u19,x.u20,x.u21,x.u22,x.v23)))))))))))))))) (Sum.elim (fun y14=>k (.inr (.inr (.inr (.inr (.inr (.inr (.inr (.inr (.inr (.inr (.inr (.inr (.inr (.inr (.inl (x.u3,y14.1,y14.2.1,y14.u2,x.u3,x.u7,y14.u3,x.u9,y14.u4,x.u11,y14.u5,x.u12,x.u13,x.u14,x.u15,y14.u6,y14.v7,x.u17,x.u18,x.u19,x.u20,x.u21,x.u22,x.v23))))))))))))))))) (Sum.elim (fun y15=>k (.inr (.inr (.inr (.inr (.inr (.inr (.inr (.inr (.inr (.inr (.inr (.inr (.inr (.inr (.inr (.inl (x.u3,y15.1,y15.2.1,y15.u2,x.u3,x.u7,y15.u3,x.u9,y15.u4,x.u11,y15.u5,x.u12,x.u13,x.u14,x.u15,y15.u6,y15.v7,x.u17,x.u18,x.u19,x.u20,x.u21,x.u22,x.v23)))))))))))))))))) (fun y16=>k (.inr (.inr (.inr (.inr (.inr (.inr (.inr (.inr (.inr (.inr (.inr (.inr (.inr (.inr (.inr (.inr (x.u3,y16.1,y16.2.1,y16.u2,x.u7,x.u8,x.u9,y16.u3,x.u11,x.u12,x.u13,x.u14,x.u15,y16.v4,x.u17,x.u18,x.u19,x.u20,x.u21,x.u22,x.v23)))))))))))))))))))))))))))))))))
def q4X (x:tq3) (v:(Int×Int×Zb×Zc×Bool×Zc×Zc)):tq3:=(x.1,v.1,v.2.1,x.u3,v.u2,v.u3,v.u4,x.u7,x.u8,x.u9,v.u5,x.u11,x.u12,x.u13,x.u14,x.u15,v.v6,x.u17,x.u18,x.u19,x.u20,x.u21,x.u22,x.v23)
theorem q4Y (x:tq3):LE.step X q4V q3X q4s q4 12 x=We x.1 x.u3 x.u7 x.u8 x.u9 x.u11 x.u12 x.u13 x.u14 x.u15 x.u17 x.u18 x.u19 x.u20 x.u21 x.u22 x.v23 x.2.1 x.u2 x.u4 x.u5 x.u6 x.u10 x.u16 (fun w=>Sum.inl (q4X x w)) (fun o=>Sum.inr (q4W x id o)):=by kernel_rfl
def q4Z {R:Type}:Z21 S R:=LE.ls X q4V (fun x k=>(X1R x.1 x.u3 x.u7 x.u8 x.u9 x.u11 x.u12 x.u13 x.u14 x.u15 x.u17 x.u18 x.u19 x.u20 x.u21 x.u22 x.v23 (x.2.1,x.u2,x.u4,x.u5,x.u6,x.u10,x.u16)).bind (q4W x k)) q4
theorem q50 {R:Type}:Z2e X (q4Z (R:=R)):=Zke xok q3Y (e:=q4V) q4t q5 (st:=fun(x:tq3)=>Ww x.1 x.u3 x.u7 x.u8 x.u9 x.u11 x.u12 x.u13 x.u14 x.u15 x.u17 x.u18 x.u19 x.u20 x.u21 x.u22 x.v23) (prj:=fun(x:tq3)=>(x.2.1,x.u2,x.u4,x.u5,x.u6,x.u10,x.u16)) (emb:=q4X) q4W (fun x=>(q4Y x).trans (by unfold Ww We X0;simp only[Zk2,ZjT,Zk3,Option.map_some,Option.map_none];rfl)) q5
theorem q51 (x:((Nat->Y2)×Int×Zc×Bool×Zc×Zc)):PE.step X q4x q3X q4s q4Z 12 x=W0 x.1 x.2.1 x.u2 x.u3 x.u4 x.v5:=by kernel_rfl
theorem q52:ZcD X q4x XW:=Zkf (ZjG xok q3Y q4t q50 12) fun x _ h=>((q51 x).trans (X2o x).symm).trans h
def q53 {R:Type}:Prs S R:=PE.ps X q4x (fun x q=>(XW x).bind q) q4s
theorem q54 {R:Type}:Z8k X (q53 (R:=R)):=Zk8 (e:=q4x) q52 q4t
def q55:StT S:=⟨(N (N L (some (.ptr 1 0)) L) (some (.yld 3)) L),(N (N (N L o3 L) og L) oo (N L og L)),4⟩
def q56:Way S:=⟨.ret,⟨(N L (some (.tup [])) L),(N (N (N L o3 L) og L) oo (N L og L)),4⟩,[(.st 25),(.st 25),.bool,(.st 25)]⟩
def q57:Way S:=⟨.ret,⟨(N L (some (.tup [])) L),(N (N (N L (some (.loop 39 (N (N L (some (.ptr 2 0)) L) (some (.agg [(.stc 25 (T.dflt 25))])) (N (N L (some (.fn (.func 81) [] [(.ptr 1 0)])) L) (some (.ptr 0 0)) L)) (5::[]) .skip .skip 0 .ret (0::(39::[])) (0::(1::(0::(1::[])))))) L) og L) oo (N L og L)),4⟩,[(.st 25),(.st 25),.bool,(.st 25)]⟩
def q58:PE S:=⟨81,2,q55,[(.st 25),(.st 25),.bool,(.st 25)],[q56,q57]⟩
def q5d:Key:=⟨[81],81,none,[0,0,1,0,1,1],0,11⟩
def q5e:StT S:=⟨(N (N (N L (some (.ptr 5 0)) (N L vA L)) (some (.ptr 1 0)) (N (N L vx L) none L)) none (N L (some (.ptr 4 0)) (N (N L vA L) none L))),o1m,11⟩
def q5f:Way S:=⟨(.exit 0),⟨(N (N (N L (some (.ptr 5 0)) L) (some (.ptr 1 0)) L) none (N L (some (.ptr 4 0)) L)),o1m,12⟩,[(.st 25),(.st 25),(.arr (.st 5)),.bool,(.st 25)]⟩
def q5g:LE S:=⟨q5d,q5e,[.int,(.lst (.st 19)),.int,(.st 25),(.st 25),(.arr (.st 5)),.bool,(.st 25)],[q5f]⟩
def q5h {T:Type} (x:tqg) (k:(Zc×Zc×(Nat->Y2)×Bool×Zc)->T):(Nat->Y2)->T:=fun y0=>k (x.u3,x.u4,y0,x.u6,x.v7)
def q5i (x:tqg) (v:(Int×(Nat->Y2))):tqg:=(v.1,x.2.1,x.u2,x.u3,x.u4,v.2,x.u6,x.v7)
theorem q5j (x:tqg):LE.step X q5g q3X q2n q4 12 x=Xl x.2.1 x.u2 x.u3 x.u4 x.u6 x.v7 x.1 x.u5 (fun w=>Sum.inl (q5i x w)) (fun o=>Sum.inr (q5h x id o)):=by kernel_rfl
def q5k {R:Type}:Z21 S R:=LE.ls X q5g (fun x k=>(XY x.2.1 x.u2 x.u3 x.u4 x.u6 x.v7 (x.1,x.u5)).bind (q5h x k)) q4
theorem q5l {R:Type}:Z2e X (q5k (R:=R)):=Zke xok q3Y (e:=q5g) q2o q5 (st:=fun(x:tqg)=>Xc x.2.1 x.u2 x.u3 x.u4 x.u6 x.v7) (prj:=fun(x:tqg)=>(x.1,x.u5)) (emb:=q5i) q5h (fun x=>(q5j x).trans (by unfold Xc Xl;simp only[Zk2,ZjT,Zk3,Option.map_some,Option.map_none];rfl)) q5
theorem q5m (x:(Zc×Zc×Bool×Zc)):PE.step X q58 q3X q53 q5k 12 x=XH x.1 x.2.1 x.u2 x.v3:=by kernel_rfl
theorem q5n:ZcD X q58 WL:=Zkf (ZjG xok q3Y q54 q5l 12) fun x _ h=>((q5m x).trans (X2Y x).symm).trans h
def q5o {R:Type}:Prs S R:=PE.ps X q58 (fun x q=>(WL x).bind q) q53
theorem q5p {R:Type}:Z8k X (q5o (R:=R)):=Zk8 (e:=q58) q5n q54
theorem q5r:Z95 X (q3X):=⟨q3S,trivial⟩
theorem q5u (x0:Zc):Zkg X q3X [(.st 25)] [.bool] q5o q4 12 39 (x0,())=Wl x0:=by kernel_rfl
def q5v:F7 S:=⟨[(.st 25)],[.bool],fun xs=>X6 xs.1⟩
theorem q5w:Zav X 39 q5v:=Zkd (Zkc xok q5r q5p q5 12 39) fun xs _ h=>((q5u xs.1).trans (X4g xs.1).symm).trans h
def q5x:List (Nat×F7 S):=[(37,q2B),(57,qF),(39,q5v)]
theorem q5y:Z95 X (q5x):=⟨q2C,qG,q5w,trivial⟩
theorem q5B (x0:CoRecord) (x1:List Zr) (x2:Zr):Zkg X q5x [(.st 20),(.sl (.st 21)),(.st 21)] [(.st 25),(.int .i64)] q5o q4 12 31 (x0,x1,x2,())=X3i x0 x1 x2:=by kernel_rfl
def q5C:F7 S:=⟨[(.st 20),(.sl (.st 21)),(.st 21)],[(.st 25),(.int .i64)],fun xs=>X4Y xs.1 xs.2.1 xs.u2⟩
theorem q5D:Zav X 31 q5C:=Zkd (Zkc xok q5y q5p q5 12 31) fun xs _ h=>((q5B xs.1 xs.2.1 xs.u2).trans (X6L xs.1 xs.2.1 xs.u2).symm).trans h
theorem q5I (x0:Zc) (x1:List Zr):Zkg X q2 [(.st 25),(.sl (.st 21))] [(.st 25)] q5o q4 12 79 (x0,x1,())=WA x0 x1:=by kernel_rfl
def q5J:F7 S:=⟨[(.st 25),(.sl (.st 21))],[(.st 25)],fun xs=>X2J xs.1 xs.2.1⟩
theorem q5K:Zav X 79 q5J:=Zkd (Zkc xok q3 q5p q5 12 79) fun xs _ h=>((q5I xs.1 xs.2.1).trans (X4m xs.1 xs.2.1).symm).trans h
theorem q5P (x0:Int):Zkg X q2 [(.int .u32)] [(.int .i64)] q5o q4 12 144 (x0,())=X2i x0:=by kernel_rfl
def q5Q:F7 S:=⟨[(.int .u32)],[(.int .i64)],fun xs=>X5P xs.1⟩
theorem q5R:Zav X 144 q5Q:=Zkd (Zkc xok q3 q5p q5 12 144) fun xs _ h=>((q5P xs.1).trans (X72 xs.1).symm).trans h
theorem q5W (x0:Int):Zkg X q2 [(.int .u64)] [(.int .i64)] q5o q4 12 145 (x0,())=X2j x0:=by kernel_rfl
def q5X:F7 S:=⟨[(.int .u64)],[(.int .i64)],fun xs=>X5Q xs.1⟩
theorem q5Y:Zav X 145 q5X:=Zkd (Zkc xok q3 q5p q5 12 145) fun xs _ h=>((q5W xs.1).trans (X73 xs.1).symm).trans h
def q5Z:List (Nat×F7 S):=[(144,q5Q),(145,q5X)]
theorem q60:Z95 X (q5Z):=⟨q5R,q5Y,trivial⟩
theorem q63 (x0:Int):Zkg X q5Z [(.int .u64)] [(.int .i64)] q5o q4 12 118 (x0,())=X3c x0:=by kernel_rfl
def q64:F7 S:=⟨[(.int .u64)],[(.int .i64)],fun xs=>X6P xs.1⟩
theorem q65:Zav X 118 q64:=Zkd (Zkc xok q60 q5p q5 12 118) fun xs _ h=>((q63 xs.1).trans (X7t xs.1).symm).trans h
theorem q6a (x0:Int):Zkg X q2 [(.int .i64)] [.bool] q5o q4 12 91 (x0,())=X6K x0:=by kernel_rfl
def q6b:F7 S:=⟨[(.int .i64)],[.bool],fun xs=>X6K xs.1⟩
theorem q6c:Zav X 91 q6b:=Zkd (Zkc xok q3 q5p q5 12 91) fun xs _ h=>(q6a xs.1).trans h
def q6d:List (Nat×F7 S):=[(91,q6b)]
theorem q6e:Z95 X (q6d):=⟨q6c,trivial⟩
theorem q6h (x0 x1:Int):Zkg X q6d [(.int .i64),(.int .i64)] [.bool] q5o q4 12 141 (x0,x1,())=X3t x0 x1:=by kernel_rfl
def q6i:F7 S:=⟨[(.int .i64),(.int .i64)],[.bool],fun xs=>X79 xs.1 xs.2.1⟩
theorem q6j:Zav X 141 q6i:=Zkd (Zkc xok q6e q5p q5 12 141) fun xs _ h=>((q6h xs.1 xs.2.1).trans (X7L xs.1 xs.2.1).symm).trans h
def q6k:List (Nat×F7 S):=[(141,q6i)]
theorem q6l:Z95 X (q6k):=⟨q6j,trivial⟩
theorem q6o (x0:List Int) (x1 x2:Int):Zkg X q6k [(.sl (.int .i64)),(.int .i64),(.int .i64)] [] q5o q4 12 135 (x0,x1,x2,())=XE x0 x1 x2:=by kernel_rfl
def q6p:F7 S:=⟨[(.sl (.int .i64)),(.int .i64),(.int .i64)],[],fun xs=>X2f xs.1 xs.2.1 xs.u2⟩
theorem q6q:Zav X 135 q6p:=Zkd (Zkc xok q6l q5p q5 12 135) fun xs _ h=>((q6o xs.1 xs.2.1 xs.u2).trans (X41 xs.1 xs.2.1 xs.u2).symm).trans h
theorem q6v (x0:List Int) (x1 x2 x3:Int):Zkg X q6k [(.sl (.int .i64)),(.int .i64),(.int .i64),(.int .i64)] [] q5o q4 12 163 (x0,x1,x2,x3,())=W8 x0 x1 x2 x3:=by kernel_rfl
def q6w:F7 S:=⟨[(.sl (.int .i64)),(.int .i64),(.int .i64),(.int .i64)],[],fun xs=>X3s xs.1 xs.2.1 xs.u2 xs.u3⟩
theorem q6x:Zav X 163 q6w:=Zkd (Zkc xok q6l q5p q5 12 163) fun xs _ h=>((q6v xs.1 xs.2.1 xs.u2 xs.u3).trans (X4E xs.1 xs.2.1 xs.u2 xs.u3).symm).trans h
def q6y:List (Nat×F7 S):=[(163,q6w)]
theorem q6z:Z95 X (q6y):=⟨q6x,trivial⟩
theorem q6C (x0:List Int) (x1 x2:Int):Zkg X q6y [(.sl (.int .i64)),(.int .i64),(.int .i64)] [] q5o q4 12 136 (x0,x1,x2,())=W7 x0 x1 x2:=by kernel_rfl
def q6D:F7 S:=⟨[(.sl (.int .i64)),(.int .i64),(.int .i64)],[],fun xs=>X3r xs.1 xs.2.1 xs.u2⟩
theorem q6E:Zav X 136 q6D:=Zkd (Zkc xok q6z q5p q5 12 136) fun xs _ h=>((q6C xs.1 xs.2.1 xs.u2).trans (X4D xs.1 xs.2.1 xs.u2).symm).trans h
def q6F:List (Nat×F7 S):=[(118,q64)]
theorem q6G:Z95 X (q6F):=⟨q65,trivial⟩
theorem q6J (x0:Int):Zkg X q6F [(.int .i64)] [(.int .u64)] q5o q4 12 164 (x0,())=WM x0:=by kernel_rfl
def q6K:F7 S:=⟨[(.int .i64)],[(.int .u64)],fun xs=>X4q xs.1⟩
theorem q6L:Zav X 164 q6K:=Zkd (Zkc xok q6G q5p q5 12 164) fun xs _ h=>((q6J xs.1).trans (X5v xs.1).symm).trans h
def q6M:List (Nat×F7 S):=[(164,q6K)]
theorem q6N:Z95 X (q6M):=⟨q6L,trivial⟩
theorem q6Q (x0:List Int) (x1 x2:Int):Zkg X q6M [(.sl (.int .i64)),(.int .i64),(.int .i64)] [] q5o q4 12 137 (x0,x1,x2,())=XD x0 x1 x2:=by kernel_rfl
def q6R:F7 S:=⟨[(.sl (.int .i64)),(.int .i64),(.int .i64)],[],fun xs=>X2e xs.1 xs.2.1 xs.u2⟩
theorem q6S:Zav X 137 q6R:=Zkd (Zkc xok q6N q5p q5 12 137) fun xs _ h=>((q6Q xs.1 xs.2.1 xs.u2).trans (X40 xs.1 xs.2.1 xs.u2).symm).trans h
theorem q6X (x0:List Int) (x1 x2:Int):Zkg X q6k [(.sl (.int .i64)),(.int .i64),(.int .i64)] [(.int .i64),(.int .i64)] q5o q4 12 138 (x0,x1,x2,())=XU x0 x1 x2:=by kernel_rfl
def q6Y:F7 S:=⟨[(.sl (.int .i64)),(.int .i64),(.int .i64)],[(.int .i64),(.int .i64)],fun xs=>X2D xs.1 xs.2.1 xs.u2⟩
theorem q6Z:Zav X 138 q6Y:=Zkd (Zkc xok q6l q5p q5 12 138) fun xs _ h=>((q6X xs.1 xs.2.1 xs.u2).trans (X4k xs.1 xs.2.1 xs.u2).symm).trans h
theorem q74 (x0:List Int) (x1 x2:Int):Zkg X q2 [(.sl (.int .i64)),(.int .i64),(.int .i64)] [] q5o q4 12 139 (x0,x1,x2,())=XJ x0 x1 x2:=by kernel_rfl
def q75:F7 S:=⟨[(.sl (.int .i64)),(.int .i64),(.int .i64)],[],fun xs=>X2v xs.1 xs.2.1 xs.u2⟩
theorem q76:Zav X 139 q75:=Zkd (Zkc xok q3 q5p q5 12 139) fun xs _ h=>((q74 xs.1 xs.2.1 xs.u2).trans (X4e xs.1 xs.2.1 xs.u2).symm).trans h
theorem q7b (x0:List Int) (x1 x2:Int):Zkg X q6k [(.sl (.int .i64)),(.int .i64),(.int .i64)] [.bool] q5o q4 12 140 (x0,x1,x2,())=Xd x0 x1 x2:=by kernel_rfl
def q7c:F7 S:=⟨[(.sl (.int .i64)),(.int .i64),(.int .i64)],[.bool],fun xs=>X16 xs.1 xs.2.1 xs.u2⟩
theorem q7d:Zav X 140 q7c:=Zkd (Zkc xok q6l q5p q5 12 140) fun xs _ h=>((q7b xs.1 xs.2.1 xs.u2).trans (X36 xs.1 xs.2.1 xs.u2).symm).trans h
theorem q7i (x0:List Int) (x1 x2 x3:Int):Zkg X q6k [(.sl (.int .i64)),(.int .i64),(.int .i64),(.int .i64)] [(.int .i64)] q5o q4 12 142 (x0,x1,x2,x3,())=Xr x0 x1 x2 x3:=by kernel_rfl
def q7j:F7 S:=⟨[(.sl (.int .i64)),(.int .i64),(.int .i64),(.int .i64)],[(.int .i64)],fun xs=>X2b xs.1 xs.2.1 xs.u2 xs.u3⟩
theorem q7k:Zav X 142 q7j:=Zkd (Zkc xok q6l q5p q5 12 142) fun xs _ h=>((q7i xs.1 xs.2.1 xs.u2 xs.u3).trans (X3O xs.1 xs.2.1 xs.u2 xs.u3).symm).trans h
theorem q7p (x0:List Int) (x1 x2 x3:Int):Zkg X q6k [(.sl (.int .i64)),(.int .i64),(.int .i64),(.int .i64)] [(.int .i64),.bool] q5o q4 12 143 (x0,x1,x2,x3,())=W1 x0 x1 x2 x3:=by kernel_rfl
def q7q:F7 S:=⟨[(.sl (.int .i64)),(.int .i64),(.int .i64),(.int .i64)],[(.int .i64),.bool],fun xs=>X3d xs.1 xs.2.1 xs.u2 xs.u3⟩
theorem q7r:Zav X 143 q7q:=Zkd (Zkc xok q6l q5p q5 12 143) fun xs _ h=>((q7p xs.1 xs.2.1 xs.u2 xs.u3).trans (X4w xs.1 xs.2.1 xs.u2 xs.u3).symm).trans h
def q7s (ih:tqE->Option (Unit)):List (Nat×F7 S):=[(135,q6p),(136,q6D),(137,q6R),(138,q6Y),(139,q75),(140,q7c),(141,q6i),(142,q7j),(143,q7q),(117,⟨[(.sl (.int .i64)),(.int .i64),(.int .i64),(.int .i64)],[],ih⟩)]
theorem q7t (ih:tqE->Option (Unit)) (hih:Zav X 117 ⟨[(.sl (.int .i64)),(.int .i64),(.int .i64),(.int .i64)],[],ih⟩):Z95 X (q7s ih):=⟨q6q,q6E,q6S,q6Z,q76,q7d,q6j,q7k,q7r,hih,trivial⟩
abbrev q7u (ih:tqE->Option (Unit)) {R:Type}:Z21 S R:=Zj1
theorem q7v (ih:tqE->Option (Unit)) (hih:Zav X 117 ⟨[(.sl (.int .i64)),(.int .i64),(.int .i64),(.int .i64)],[],ih⟩) {R:Type}:Z2e X (q7u ih (R:=R)):=ZjC X
theorem q7w (ih:tqE->Option (Unit)) (x0:List Int) (x1 x2 x3:Int):Zkg X (q7s ih) [(.sl (.int .i64)),(.int .i64),(.int .i64),(.int .i64)] [] q5o (q7u ih) 12 117 (x0,x1,x2,x3,())=X2F ih x0 x1 x2 x3:=by kernel_rfl
def q7x:F7 S:=⟨[(.sl (.int .i64)),(.int .i64),(.int .i64),(.int .i64)],[],fun xs=>X5d xs.1 xs.2.1 xs.u2 xs.u3⟩
theorem q7y:Zav X 117 q7x:=ZkS (X:=X) (g:=117) (pts:=[(.sl (.int .i64)),(.int .i64),(.int .i64),(.int .i64)]) (rts:=[]) (t:=X2G) fun ih hih=>Zkd (Zkc xok (q7t ih hih) q5p (q7v ih hih) 12 117) fun xs _ h=>(q7w ih xs.1 xs.2.1 xs.u2 xs.u3).trans h
def q7z:List (Nat×F7 S):=[(79,q5J),(39,q5v),(118,q64),(117,q7x)]
theorem q7A:Z95 X (q7z):=⟨q5K,q5w,q65,q7y,trivial⟩
def q7D:Key:=⟨[52],52,none,[0,0,1,0,1,1],0,12⟩
def q7E:StT S:=⟨(N (N (N (N L (some (.map 2)) L) (some (.ptr 0 0)) L) vA v1v) none (N L vA (N (N (N L vA L) none L) (some .nils) L))),o1i,12⟩
def q7F:Way S:=⟨(.exit 0),⟨(N (N (N (N L (some (.map 2)) L) none L) none L) none (N L none (N L (some .nils) L))),o1i,13⟩,[(.st 25),(.mp (.int .i64) (.int .i64))]⟩
def q7G:LE S:=⟨q7D,q7E,[.int,.int,.int,.int,(.st 25),(.mp (.int .i64) (.int .i64))],[q7F]⟩
def q7H {T:Type} (x:tqo) (k:(Zc×(List (Int×Int)))->T):(List (Int×Int))->T:=fun y0=>k (x.u4,y0)
def q7I (x:tqo) (v:(Int×(List (Int×Int)))):tqo:=(x.1,x.2.1,x.u2,v.1,x.u4,v.2)
theorem q7J (x:tqo):LE.step X q7G q7z q5o q4 12 x=XO x.1 x.2.1 x.u2 x.u4 x.u3 x.v5 (fun w=>Sum.inl (q7I x w)) (fun o=>Sum.inr (q7H x id o)):=by kernel_rfl
def q7K {R:Type}:Z21 S R:=LE.ls X q7G (fun x k=>(X1D x.1 x.2.1 x.u2 x.u4 (x.u3,x.v5)).bind (q7H x k)) q4
theorem q7L {R:Type}:Z2e X (q7K (R:=R)):=Zke xok q7A (e:=q7G) q5p q5 (st:=fun(x:tqo)=>Xz x.1 x.2.1 x.u2 x.u4) (prj:=fun(x:tqo)=>(x.u3,x.v5)) (emb:=q7I) q7H (fun x=>(q7J x).trans (by unfold Xz XO;simp only[Zk2,ZjT,Zk3,Option.map_some,Option.map_none];rfl)) q5
theorem q7M (x0:Zc) (x1 x2:Int):Zkg X q7z [(.st 25),(.int .i64),(.int .i64)] [(.sl (.int .i64))] q5o q7K 12 52 (x0,x1,x2,())=Wd x0 x1 x2:=by kernel_rfl
def q7N:F7 S:=⟨[(.st 25),(.int .i64),(.int .i64)],[(.sl (.int .i64))],fun xs=>X22 xs.1 xs.2.1 xs.u2⟩
theorem q7O:Zav X 52 q7N:=Zkd (Zkc xok q7A q5p q7L 12 52) fun xs _ h=>((q7M xs.1 xs.2.1 xs.u2).trans (X47 xs.1 xs.2.1 xs.u2).symm).trans h
def q7T:Key:=⟨[88],88,none,[0,0,1,0,1],0,4⟩
def q7U:StT S:=⟨(N (N (N (N L vA L) none L) vA L) vv v1v),L,4⟩
def q7V:Way S:=⟨.ret,⟨v1w,L,15⟩,[.int]⟩
def q7W:Way S:=⟨(.exit 0),⟨L,L,5⟩,[]⟩
def q7X:LE S:=⟨q7T,q7U,[.int,.int,(.lst (.int .i64)),.int],[q7V,q7W]⟩
def q7Y {T:Type} (x:tqP) (k:(Int⊕Unit)->T):(Int⊕Unit)->T:=Sum.elim (fun y0=>k (.inl y0)) (fun y1=>k (.inr ()))
def q7Z (x:tqP) (v:Int):tqP:=(x.1,x.2.1,x.u2,v)
theorem q80 (x:tqP):LE.step X q7X q2 q5o q4 12 x=XS x.1 x.2.1 x.u2 x.v3 (fun w=>Sum.inl (q7Z x w)) (fun o=>Sum.inr (q7Y x id o)):=by kernel_rfl
def q81 {R:Type}:Z21 S R:=LE.ls X q7X (fun x k=>(X1H x.1 x.2.1 x.u2 x.v3).bind (q7Y x k)) q4
theorem q82 {R:Type}:Z2e X (q81 (R:=R)):=Zke xok q3 (e:=q7X) q5p q5 (st:=fun(x:tqP)=>XC x.1 x.2.1 x.u2) (prj:=fun(x:tqP)=>x.v3) (emb:=q7Z) q7Y (fun x=>(q80 x).trans (by unfold XC XS;simp only[Zk2,ZjT,Zk3,Option.map_some,Option.map_none];rfl)) q5
theorem q83 (x0:List Int) (x1:Int):Zkg X q2 [(.sl (.int .i64)),(.int .i64)] [(.int .i64)] q5o q81 12 88 (x0,x1,())=Wg x0 x1:=by kernel_rfl
def q84:F7 S:=⟨[(.sl (.int .i64)),(.int .i64)],[(.int .i64)],fun xs=>X29 xs.1 xs.2.1⟩
theorem q85:Zav X 88 q84:=Zkd (Zkc xok q3 q5p q82 12 88) fun xs _ h=>((q83 xs.1 xs.2.1).trans (X4a xs.1 xs.2.1).symm).trans h
def q86:List (Nat×F7 S):=[(88,q84)]
theorem q87:Z95 X (q86):=⟨q85,trivial⟩
theorem q8a (x0:List Int) (x1:Int):Zkg X q86 [(.sl (.int .i64)),(.int .i64)] [.bool] q5o q4 12 58 (x0,x1,())=XZ x0 x1:=by kernel_rfl
def q8b:F7 S:=⟨[(.sl (.int .i64)),(.int .i64)],[.bool],fun xs=>X1g xs.1 xs.2.1⟩
theorem q8c:Zav X 58 q8b:=Zkd (Zkc xok q87 q5p q5 12 58) fun xs _ h=>((q8a xs.1 xs.2.1).trans (X3p xs.1 xs.2.1).symm).trans h
def q8d:List (Nat×F7 S):=[(52,q7N),(58,q8b)]
theorem q8e:Z95 X (q8d):=⟨q7O,q8c,trivial⟩
theorem q8h (x0:Zc) (x1:Zr):Zkg X q8d [(.st 25),(.st 21)] [(.int .i64)] q5o q4 12 32 (x0,x1,())=Wb x0 x1:=by kernel_rfl
def q8i:F7 S:=⟨[(.st 25),(.st 21)],[(.int .i64)],fun xs=>W4 xs.1 xs.2.1⟩
theorem q8j:Zav X 32 q8i:=Zkd (Zkc xok q8e q5p q5 12 32) fun xs _ h=>((q8h xs.1 xs.2.1).trans (X43 xs.1 xs.2.1).symm).trans h
def q8k:List (Nat×F7 S):=[(31,q5C),(32,q8i)]
theorem q8l:Z95 X (q8k):=⟨q5D,q8j,trivial⟩
theorem q8o (x0:CoRecord) (x1:List Zr) (x2:Zr):Zkg X q8k [(.st 20),(.sl (.st 21)),(.st 21)] [(.int .i64),(.int .i64)] q5o q4 12 8 (x0,x1,x2,())=X2l x0 x1 x2:=by kernel_rfl
def q8p:F7 S:=⟨[(.st 20),(.sl (.st 21)),(.st 21)],[(.int .i64),(.int .i64)],fun xs=>X4K xs.1 xs.2.1 xs.u2⟩
theorem q8q:Zav X 8 q8p:=Zkd (Zkc xok q8l q5p q5 12 8) fun xs _ h=>((q8o xs.1 xs.2.1 xs.u2).trans (X5M xs.1 xs.2.1 xs.u2).symm).trans h
theorem q8v (x0 x1 x2:Int):Zkg X q2 [(.int .i64),(.int .i64),(.int .i64)] [.bool] q5o q4 12 86 (x0,x1,x2,())=X4j x0 x1 x2:=by kernel_rfl
def q8w:F7 S:=⟨[(.int .i64),(.int .i64),(.int .i64)],[.bool],fun xs=>X4C xs.1 xs.2.1 xs.u2⟩
theorem q8x:Zav X 86 q8w:=Zkd (Zkc xok q3 q5p q5 12 86) fun xs _ h=>((q8v xs.1 xs.2.1 xs.u2).trans (X7G xs.1 xs.2.1 xs.u2).symm).trans h
theorem q8C (x0 x1 x2:Int):Zkg X q2 [(.int .i64),(.int .i64),(.int .i64)] [.bool] q5o q4 12 147 (x0,x1,x2,())=X55 x0 x1 x2:=by kernel_rfl
def q8D:F7 S:=⟨[(.int .i64),(.int .i64),(.int .i64)],[.bool],fun xs=>X55 xs.1 xs.2.1 xs.u2⟩
theorem q8E:Zav X 147 q8D:=Zkd (Zkc xok q3 q5p q5 12 147) fun xs _ h=>(q8C xs.1 xs.2.1 xs.u2).trans h
def q8F:List (Nat×F7 S):=[(147,q8D)]
theorem q8G:Z95 X (q8F):=⟨q8E,trivial⟩
def q8J:Key:=⟨[122],122,none,[0,0,1,0,1,1],0,6⟩
def q8K:StT S:=⟨(N (N (N L vA L) none L) vu L),L,6⟩
def q8L:Way S:=⟨.ret,⟨(N L none (N L vB L)),L,43⟩,[.bool]⟩
def q8M:Way S:=⟨(.exit 0),⟨L,L,10⟩,[]⟩
def q8N:LE S:=⟨q8J,q8K,[.int,.str],[q8L,q8M]⟩
def q8O {T:Type} (x:(Int×ByteArray)) (k:(Bool⊕Unit)->T):(Bool⊕Unit)->T:=Sum.elim (fun y0=>k (.inl y0)) (fun y1=>k (.inr ()))
def q8P (x:(Int×ByteArray)) (v:Int):(Int×ByteArray):=(v,x.2)
theorem q8Q (x:(Int×ByteArray)):LE.step X q8N q8F q5o q4 12 x=X1U x.2 x.1 (fun w=>Sum.inl (q8P x w)) (fun o=>Sum.inr (q8O x id o)):=by kernel_rfl
def q8R {R:Type}:Z21 S R:=LE.ls X q8N (fun x k=>(X5j x.2 x.1).bind (q8O x k)) q4
theorem q8S {R:Type}:Z2e X (q8R (R:=R)):=Zke xok q8G (e:=q8N) q5p q5 (st:=fun(x:(Int×ByteArray))=>X1L x.2) (prj:=fun(x:(Int×ByteArray))=>x.1) (emb:=q8P) q8O (fun x=>(q8Q x).trans (by unfold X1L X1U;simp only[Zk2,ZjT,Zk3,Option.map_some,Option.map_none];rfl)) q5
theorem q8T (x0:ByteArray):Zkg X q8F [.str] [.bool] q5o q8R 12 122 (x0,())=X54 x0:=by kernel_rfl
def q8U:F7 S:=⟨[.str],[.bool],fun xs=>X54 xs.1⟩
theorem q8V:Zav X 122 q8U:=Zkd (Zkc xok q8G q5p q8S 12 122) fun xs _ h=>(q8T xs.1).trans h
def q90:Key:=⟨[123],123,none,[0,0,1,0,1],0,2⟩
def q91:StT S:=⟨(N (N L vu (N L vA L)) (some (.sl .str [])) L),L,2⟩
def q92:Way S:=⟨.ret,⟨v1w,L,14⟩,[.int]⟩
def q93:Way S:=⟨(.exit 0),⟨L,L,6⟩,[]⟩
def q94:LE S:=⟨q90,q91,[.str,.int,(.lst .str)],[q92,q93]⟩
def q95 {T:Type} (x:tqI) (k:(Int⊕Unit)->T):(Int⊕Unit)->T:=Sum.elim (fun y0=>k (.inl y0)) (fun y1=>k (.inr ()))
def q96 (x:tqI) (v:Int):tqI:=(x.1,v,x.v2)
theorem q97 (x:tqI):LE.step X q94 q2 q5o q4 12 x=X1q x.1 x.v2 x.2.1 (fun w=>Sum.inl (q96 x w)) (fun o=>Sum.inr (q95 x id o)):=by kernel_rfl
def q98 {R:Type}:Z21 S R:=LE.ls X q94 (fun x k=>(X3W x.1 x.v2 x.2.1).bind (q95 x k)) q4
theorem q99 {R:Type}:Z2e X (q98 (R:=R)):=Zke xok q3 (e:=q94) q5p q5 (st:=fun(x:tqI)=>WC x.1 x.v2) (prj:=fun(x:tqI)=>x.2.1) (emb:=q96) q95 (fun x=>(q97 x).trans (by unfold WC X1q;simp only[Zk2,ZjT,Zk3,Option.map_some,Option.map_none];rfl)) q5
theorem q9a (x0:List ByteArray) (x1:ByteArray):Zkg X q2 [(.sl .str),.str] [(.int .i64)] q5o q98 12 123 (x0,x1,())=X5k x0 x1:=by kernel_rfl
def q9b:F7 S:=⟨[(.sl .str),.str],[(.int .i64)],fun xs=>X5k xs.1 xs.2.1⟩
theorem q9c:Zav X 123 q9b:=Zkd (Zkc xok q3 q5p q99 12 123) fun xs _ h=>(q9a xs.1 xs.2.1).trans h
def q9d:List (Nat×F7 S):=[(122,q8U),(123,q9b)]
theorem q9e:Z95 X (q9d):=⟨q8V,q9c,trivial⟩
theorem q9h (x0:ByteArray) (x1:List ByteArray):Zkg X q9d [.str,(.sl .str)] [(.int .i64)] q5o q4 12 87 (x0,x1,())=X4A x0 x1:=by kernel_rfl
def q9i:F7 S:=⟨[.str,(.sl .str)],[(.int .i64)],fun xs=>X4A xs.1 xs.2.1⟩
theorem q9j:Zav X 87 q9i:=Zkd (Zkc xok q9e q5p q5 12 87) fun xs _ h=>(q9h xs.1 xs.2.1).trans h
def q9o:Key:=⟨[124],124,none,[0,0,1,0,1,1],0,3⟩
def q9p:StT S:=⟨(N (N (N (N L vA L) none L) vA L) (some (.sl (.st 5) [])) (N (N (N L vA L) none L) vA L)),L,3⟩
def q9q:Way S:=⟨.ret,⟨(N L none (N L none (N L vA L))),L,28⟩,[.int]⟩
def q9r:Way S:=⟨(.exit 0),⟨(N v1v none L),L,7⟩,[.int]⟩
def q9s:LE S:=⟨q9o,q9p,[.int,.int,(.lst (.st 5)),.int,.int],[q9q,q9r]⟩
def q9t {T:Type} (x:tqF) (k:(Int⊕Int)->T):(Int⊕Int)->T:=Sum.elim (fun y0=>k (.inl y0)) (fun y1=>k (.inr y1))
def q9u (x:tqF) (v:(Int×Int)):tqF:=(v.1,x.2.1,x.u2,v.2,x.v4)
theorem q9v (x:tqF):LE.step X q9s q8F q5o q4 12 x=WY x.2.1 x.u2 x.v4 x.1 x.u3 (fun w=>Sum.inl (q9u x w)) (fun o=>Sum.inr (q9t x id o)):=by kernel_rfl
def q9w {R:Type}:Z21 S R:=LE.ls X q9s (fun x k=>(X4H x.2.1 x.u2 x.v4 (x.1,x.u3)).bind (q9t x k)) q4
theorem q9x {R:Type}:Z2e X (q9w (R:=R)):=Zke xok q8G (e:=q9s) q5p q5 (st:=fun(x:tqF)=>WR x.2.1 x.u2 x.v4) (prj:=fun(x:tqF)=>(x.1,x.u3)) (emb:=q9u) q9t (fun x=>(q9v x).trans (by unfold WR WY;simp only[Zk2,ZjT,Zk3,Option.map_some,Option.map_none];rfl)) q5
theorem q9y (x0:List Y2) (x1 x2:Int):Zkg X q8F [(.sl (.st 5)),(.int .i64),(.int .i64)] [(.int .i64)] q5o q9w 12 124 (x0,x1,x2,())=X4i x0 x1 x2:=by kernel_rfl
def q9z:F7 S:=⟨[(.sl (.st 5)),(.int .i64),(.int .i64)],[(.int .i64)],fun xs=>X4i xs.1 xs.2.1 xs.u2⟩
theorem q9A:Zav X 124 q9z:=Zkd (Zkc xok q8G q5p q9x 12 124) fun xs _ h=>(q9y xs.1 xs.2.1 xs.u2).trans h
def q9B:List (Nat×F7 S):=[(124,q9z)]
theorem q9C:Z95 X (q9B):=⟨q9A,trivial⟩
theorem q9F (x0:Y2) (x1 x2:Int):Zkg X q9B [(.st 5),(.int .i64),(.int .i64)] [(.int .i64)] q5o q4 12 92 (x0,x1,x2,())=X5l x0 x1 x2:=by kernel_rfl
def q9G:F7 S:=⟨[(.st 5),(.int .i64),(.int .i64)],[(.int .i64)],fun xs=>X5l xs.1 xs.2.1 xs.u2⟩
theorem q9H:Zav X 92 q9G:=Zkd (Zkc xok q9C q5p q5 12 92) fun xs _ h=>(q9F xs.1 xs.2.1 xs.u2).trans h
def q9I:List (Nat×F7 S):=[(86,q8w),(92,q9G)]
theorem q9J:Z95 X (q9I):=⟨q8x,q9H,trivial⟩
theorem q9M (x0:CoRecord) (x1 x2:Int) (x3:Y2):Zkg X q9I [(.st 20),(.int .i64),(.int .i64),(.st 5)] [(.int .i64)] q5o q4 12 62 (x0,x1,x2,x3,())=X3o x0 x1 x2 x3:=by kernel_rfl
def q9N:F7 S:=⟨[(.st 20),(.int .i64),(.int .i64),(.st 5)],[(.int .i64)],fun xs=>X58 xs.1 xs.2.1 xs.u2 xs.u3⟩
theorem q9O:Zav X 62 q9N:=Zkd (Zkc xok q9J q5p q5 12 62) fun xs _ h=>((q9M xs.1 xs.2.1 xs.u2 xs.u3).trans (X6Y xs.1 xs.2.1 xs.u2 xs.u3).symm).trans h
def q9P:List (Nat×F7 S):=[(86,q8w),(87,q9i),(62,q9N)]
theorem q9Q:Z95 X (q9P):=⟨q8x,q9j,q9O,trivial⟩
def q9T:Key:=⟨[55],55,none,[0,0,1,0,1,1,1],0,17⟩
def q9U:StT S:=⟨(N (N L (some (.ptr 0 0)) (N L (some (.rs 17 0)) L)) none (N L none (N L vA L))),o1r,18⟩
def q9V:Way S:=⟨.ret,⟨v1s,oX,66⟩,[.int,.int,.int,(.lst .str),(.st 20),(.st 18),(.lst .str)]⟩
def q9W:Way S:=⟨.ret,⟨v1s,oX,65⟩,[.int,.int,.int,(.lst .str),(.st 20),(.st 18),(.lst .str)]⟩
def q9X:Way S:=⟨(.exit 0),⟨(N (N L (some (.ptr 0 0)) L) none L),o1r,23⟩,[(.lst .str),(.st 20)]⟩
def q9Y:LE S:=⟨q9T,q9U,[.int,(.lst .str),(.st 20)],[q9V,q9W,q9X]⟩
def q9Z {T:Type} (x:tqK) (k:((Int×Int×Int×(List ByteArray)×CoRecord×Zm×(List ByteArray))⊕(Int×Int×Int×(List ByteArray)×CoRecord×Zm×(List ByteArray))⊕((List ByteArray)×CoRecord))->T):((Int×Int×Int×(List ByteArray)×Zm×(List ByteArray))⊕(Int×Int×Int×(List ByteArray)×Zm×(List ByteArray))⊕(List ByteArray))->T:=Sum.elim (fun y0=>k (.inl (y0.1,y0.2.1,y0.u2,y0.u3,x.v2,y0.u4,y0.v5))) (Sum.elim (fun y1=>k (.inr (.inl (y1.1,y1.2.1,y1.u2,y1.u3,x.v2,y1.u4,y1.v5)))) (fun y2=>k (.inr (.inr (y2,x.v2)))))
def qa0 (x:tqK) (v:(Int×(List ByteArray))):tqK:=(v.1,v.2,x.v2)
theorem qa1 (x:tqK):LE.step X q9Y q9P q5o q4 12 x=X1s x.v2 x.1 x.2.1 (fun w=>Sum.inl (qa0 x w)) (fun o=>Sum.inr (q9Z x id o)):=by kernel_rfl
def qa2 {R:Type}:Z21 S R:=LE.ls X q9Y (fun x k=>(X3X x.v2 (x.1,x.2.1)).bind (q9Z x k)) q4
theorem qa3 {R:Type}:Z2e X (qa2 (R:=R)):=Zke xok q9Q (e:=q9Y) q5p q5 (st:=fun(x:tqK)=>X24 x.v2) (prj:=fun(x:tqK)=>(x.1,x.2.1)) (emb:=qa0) q9Z (fun x=>(qa1 x).trans (by unfold X24 X1s;simp only[Zk2,ZjT,Zk3,Option.map_some,Option.map_none];rfl)) q5
def qa4:Key:=⟨[55],55,none,[0,0,1,0,1,1,1,1],2,24⟩
def qa5:StT S:=⟨(N (N L (some (.ptr 0 0)) (N (N L vA L) none L)) none L),o1r,24⟩
def qa6:Way S:=⟨.ret,⟨v1s,(N (N L none (N (N (N L ow L) none L) none L)) oc (N L none (N (N (N (N L oe L) none L) none L) none L))),52⟩,[.int,.int,.int,(.lst .str),(.st 20),(.st 19)]⟩
def qa7:Way S:=⟨(.exit 2),⟨(N (N L (some (.ptr 0 0)) L) none L),o1r,29⟩,[(.lst .str),(.st 20)]⟩
def qa8:LE S:=⟨qa4,qa5,[.int,(.lst .str),(.st 20)],[qa6,qa7]⟩
def qa9 {T:Type} (x:tqK) (k:((Int×Int×Int×(List ByteArray)×CoRecord×Zq)⊕((List ByteArray)×CoRecord))->T):((Int×Int×Int×Zq)⊕Unit)->T:=Sum.elim (fun y0=>k (.inl (y0.1,y0.2.1,y0.u2,x.2.1,x.v2,y0.v3))) (fun y1=>k (.inr (x.2.1,x.v2)))
def qaa (x:tqK) (v:Int):tqK:=(v,x.2.1,x.v2)
theorem qab (x:tqK):LE.step X qa8 q9P q5o qa2 12 x=X1t x.v2 x.1 (fun w=>Sum.inl (qaa x w)) (fun o=>Sum.inr (qa9 x id o)):=by kernel_rfl
def qac {R:Type}:Z21 S R:=LE.ls X qa8 (fun x k=>(X2L x.v2 x.1).bind (qa9 x k)) qa2
theorem qad {R:Type}:Z2e X (qac (R:=R)):=Zke xok q9Q (e:=qa8) q5p qa3 (st:=fun(x:tqK)=>X25 x.v2) (prj:=fun(x:tqK)=>x.1) (emb:=qaa) qa9 (fun x=>(qab x).trans (by unfold X25 X1t;simp only[Zk2,ZjT,Zk3,Option.map_some,Option.map_none];rfl)) qa3
def qae:Key:=⟨[55],55,none,[0,0,1,0,1,1,1,1,1,1],4,31⟩
def qaf:StT S:=⟨(N (N L (some (.ptr 0 0)) (N L none (N L vA L))) none v1z),o1r,31⟩
def qag:Way S:=⟨.ret,⟨v1s,o1r,59⟩,[.int,.int,.int,(.lst .str),(.st 20)]⟩
def qah:Way S:=⟨(.exit 4),⟨L,o1r,36⟩,[(.lst .str),(.st 20)]⟩
def qai:LE S:=⟨qae,qaf,[.int,.int,(.lst .str),(.st 20)],[qag,qah]⟩
def qaj {T:Type} (x:tqy) (k:((Int×Int×Int×(List ByteArray)×CoRecord)⊕((List ByteArray)×CoRecord))->T):((Int×Int×Int)⊕Unit)->T:=Sum.elim (fun y0=>k (.inl (y0.1,y0.2.1,y0.v2,x.u2,x.v3))) (fun y1=>k (.inr (x.u2,x.v3)))
def qak (x:tqy) (v:(Int×Int)):tqy:=(v.1,v.2,x.u2,x.v3)
theorem qal (x:tqy):LE.step X qai q9P q5o qac 12 x=X1u x.v3 x.1 x.2.1 (fun w=>Sum.inl (qak x w)) (fun o=>Sum.inr (qaj x id o)):=by kernel_rfl
def qam {R:Type}:Z21 S R:=LE.ls X qai (fun x k=>(X2M x.v3 (x.1,x.2.1)).bind (qaj x k)) qac
theorem qan {R:Type}:Z2e X (qam (R:=R)):=Zke xok q9Q (e:=qai) q5p qad (st:=fun(x:tqy)=>X26 x.v3) (prj:=fun(x:tqy)=>(x.1,x.2.1)) (emb:=qak) qaj (fun x=>(qal x).trans (by unfold X26 X1u;simp only[Zk2,ZjT,Zk3,Option.map_some,Option.map_none];rfl)) qad
theorem qao (x0:CoRecord):Zkg X q9P [(.st 20)] [(.int .i64),(.int .i64),(.int .i64)] q5o qam 12 55 (x0,())=X30 x0:=by kernel_rfl
def qap:F7 S:=⟨[(.st 20)],[(.int .i64),(.int .i64),(.int .i64)],fun xs=>X5m xs.1⟩
theorem qaq:Zav X 55 qap:=Zkd (Zkc xok q9Q q5p qan 12 55) fun xs _ h=>((qao xs.1).trans (X6k xs.1).symm).trans h
def qar:List (Nat×F7 S):=[(55,qap),(62,q9N)]
theorem qas:Z95 X (qar):=⟨qaq,q9O,trivial⟩
def qav:Key:=⟨[40],40,none,[0,0,1,0,1,1,1,1],0,22⟩
def qaw:StT S:=⟨(N (N L vy (N (N L vA L) none L)) none (N L (some (.ptr 0 0)) L)),(N L oc L),22⟩
def qax:Way S:=⟨.ret,⟨v1q,(N L oc L),50⟩,[.int,.int,(.st 20)]⟩
def qay:Way S:=⟨(.exit 0),⟨L,(N L oc L),26⟩,[(.st 20)]⟩
def qaz:LE S:=⟨qav,qaw,[(.lst (.st 21)),.int,(.st 20)],[qax,qay]⟩
def qaA {T:Type} (x:tqM) (k:((Int×Int×CoRecord)⊕CoRecord)->T):((Int×Int)⊕Unit)->T:=Sum.elim (fun y0=>k (.inl (y0.1,y0.2,x.v2))) (fun y1=>k (.inr x.v2))
def qaB (x:tqM) (v:Int):tqM:=(x.1,v,x.v2)
theorem qaC (x:tqM):LE.step X qaz qar q5o q4 12 x=Wn x.1 x.v2 x.2.1 (fun w=>Sum.inl (qaB x w)) (fun o=>Sum.inr (qaA x id o)):=by kernel_rfl
def qaD {R:Type}:Z21 S R:=LE.ls X qaz (fun x k=>(X1G x.1 x.v2 x.2.1).bind (qaA x k)) q4
theorem qaE {R:Type}:Z2e X (qaD (R:=R)):=Zke xok qas (e:=qaz) q5p q5 (st:=fun(x:tqM)=>WP x.1 x.v2) (prj:=fun(x:tqM)=>x.2.1) (emb:=qaB) qaA (fun x=>(qaC x).trans (by unfold WP Wn;simp only[Zk2,ZjT,Zk3,Option.map_some,Option.map_none];rfl)) q5
theorem qaF (x0:CoRecord) (x1:List Zr):Zkg X qar [(.st 20),(.sl (.st 21))] [(.int .i64),(.int .i64)] q5o qaD 12 40 (x0,x1,())=X1r x0 x1:=by kernel_rfl
def qaG:F7 S:=⟨[(.st 20),(.sl (.st 21))],[(.int .i64),(.int .i64)],fun xs=>X21 xs.1 xs.2.1⟩
theorem qaH:Zav X 40 qaG:=Zkd (Zkc xok qas q5p qaE 12 40) fun xs _ h=>((qaF xs.1 xs.2.1).trans (X56 xs.1 xs.2.1).symm).trans h
def qaM:Key:=⟨[64],64,none,[0,0,1,0,1,1],0,4⟩
def qaN:StT S:=⟨(N (N (N L (some (.ptr 2 0)) L) (some (.ptr 0 0)) L) none v1u),o1a,6⟩
def qaO:Way S:=⟨(.exit 0),⟨(N (N (N L (some (.ptr 2 0)) L) none L) none (N L (some (.ptr 1 0)) L)),o1a,11⟩,[(.lst (.int .i64)),(.st 20),(.lst (.int .i64))]⟩
def qaP:LE S:=⟨qaM,qaN,[.int,(.lst (.int .i64)),(.st 20),(.lst (.int .i64))],[qaO]⟩
def qaQ {T:Type} (x:tqx) (k:((List Int)×CoRecord×(List Int))->T):((List Int)×(List Int))->T:=fun y0=>k (y0.1,x.u2,y0.2)
def qaR (x:tqx) (v:(Int×(List Int)×(List Int))):tqx:=(v.1,v.2.1,x.u2,v.v2)
theorem qaS (x:tqx):LE.step X qaP q2 q5o q4 12 x=X1y x.u2 x.1 x.2.1 x.v3 (fun w=>Sum.inl (qaR x w)) (fun o=>Sum.inr (qaQ x id o)):=by kernel_rfl
def qaT {R:Type}:Z21 S R:=LE.ls X qaP (fun x k=>(X3Z x.u2 (x.1,x.2.1,x.v3)).bind (qaQ x k)) q4
theorem qaU {R:Type}:Z2e X (qaT (R:=R)):=Zke xok q3 (e:=qaP) q5p q5 (st:=fun(x:tqx)=>X1f x.u2) (prj:=fun(x:tqx)=>(x.1,x.2.1,x.v3)) (emb:=qaR) qaQ (fun x=>(qaS x).trans (by unfold X1f X1y;simp only[Zk2,ZjT,Zk3,Option.map_some,Option.map_none];rfl)) q5
theorem qaV (x0:CoRecord):Zkg X q2 [(.st 20)] [(.st 27)] q5o qaT 12 64 (x0,())=X34 x0:=by kernel_rfl
def qaW:F7 S:=⟨[(.st 20)],[(.st 27)],fun xs=>X5r xs.1⟩
theorem qaX:Zav X 64 qaW:=Zkd (Zkc xok q3 q5p qaU 12 64) fun xs _ h=>((qaV xs.1).trans (X6t xs.1).symm).trans h
def qb2:Key:=⟨[93],93,none,[0,0,1,0,1,0,1,0,0,1,0,1,1],2,21⟩
def qb3:StT S:=⟨(N (N L (some (.ptr 0 0)) (N L vA L)) none (N (N L vB L) (some (.ptr 1 0)) L)),o13,23⟩
def qb4:Way S:=⟨(.exit 2),⟨v1e,o13,29⟩,[.bool,(.lst (.int .i64)),(.lst (.st 26)),(.lst (.int .i64))]⟩
def qb5:LE S:=⟨qb2,qb3,[.int,.bool,(.lst (.int .i64)),(.lst (.st 26)),(.lst (.int .i64))],[qb4]⟩
def qb6 {T:Type} (x:tql) (k:tqp->T):tqN->T:=fun y0=>k (y0.1,y0.2.1,x.u3,y0.v2)
def qb7 (x:tql) (v:(Int×Bool×(List Int)×(List Int))):tql:=(v.1,v.2.1,v.u2,x.u3,v.v3)
theorem qb8 (x:tql):LE.step X qb5 q2 q5o q4 12 x=X11 x.1 x.2.1 x.u2 x.v4 (fun w=>Sum.inl (qb7 x w)) (fun o=>Sum.inr (qb6 x id o)):=by kernel_rfl
def qb9 {R:Type}:Z21 S R:=LE.ls X qb5 (fun x k=>(X3G (x.1,x.2.1,x.u2,x.v4)).bind (qb6 x k)) q4
theorem qba {R:Type}:Z2e X (qb9 (R:=R)):=Zke xok q3 (e:=qb5) q5p q5 (st:=fun(x:tql)=>WT) (prj:=fun(x:tql)=>(x.1,x.2.1,x.u2,x.v4)) (emb:=qb7) qb6 (fun x=>(qb8 x).trans (by unfold WT X11;simp only[Zk2,ZjT,Zk3,Option.map_some,Option.map_none];rfl)) q5
def qbb:Key:=⟨[93],93,none,[0,0,1,0,1,1,0,1,0,0,1,0,1,1],4,30⟩
def qbc:StT S:=⟨(N (N L (some (.ptr 0 0)) L) none (N (N L vB L) (some (.ptr 1 0)) (N L vA L))),o12,32⟩
def qbd:Way S:=⟨(.exit 4),⟨v1e,o12,37⟩,[.bool,(.lst (.int .i64)),(.lst (.st 26)),(.lst (.int .i64))]⟩
def qbe:LE S:=⟨qbb,qbc,[.bool,.int,(.lst (.int .i64)),(.lst (.st 26)),(.lst (.int .i64))],[qbd]⟩
def qbf {T:Type} (x:tqm) (k:tqp->T):tqN->T:=fun y0=>k (y0.1,y0.2.1,x.u3,y0.v2)
def qbg (x:tqm) (v:(Bool×Int×(List Int)×(List Int))):tqm:=(v.1,v.2.1,v.u2,x.u3,v.v3)
theorem qbh (x:tqm):LE.step X qbe q2 q5o qb9 12 x=X12 x.u3 x.1 x.2.1 x.u2 x.v4 (fun w=>Sum.inl (qbg x w)) (fun o=>Sum.inr (qbf x id o)):=by kernel_rfl
def qbi {R:Type}:Z21 S R:=LE.ls X qbe (fun x k=>(X3H x.u3 (x.1,x.2.1,x.u2,x.v4)).bind (qbf x k)) qb9
theorem qbj {R:Type}:Z2e X (qbi (R:=R)):=Zke xok q3 (e:=qbe) q5p qba (st:=fun(x:tqm)=>WU x.u3) (prj:=fun(x:tqm)=>(x.1,x.2.1,x.u2,x.v4)) (emb:=qbg) qbf (fun x=>(qbh x).trans (by unfold WU X12;simp only[Zk2,ZjT,Zk3,Option.map_some,Option.map_none];rfl)) qba
def qbk:Key:=⟨[93],93,none,[0,0,1,1,1,1,0,1,0,0,1,0,1,1],6,38⟩
def qbl:StT S:=⟨(N (N L (some (.ptr 0 0)) L) none (N (N (N L vA L) vB L) (some (.ptr 1 0)) L)),o18,40⟩
def qbm:Way S:=⟨.ret,⟨v1j,o19,59⟩,[.bool,(.lst (.int .i64)),(.lst (.st 26)),(.lst (.st 26)),(.lst (.int .i64))]⟩
def qbn:Way S:=⟨(.exit 6),⟨v1e,o18,45⟩,[.bool,(.lst (.int .i64)),(.lst (.st 26)),(.lst (.int .i64))]⟩
def qbo:LE S:=⟨qbk,qbl,[.int,.bool,(.lst (.int .i64)),(.lst (.st 26)),(.lst (.int .i64))],[qbm,qbn]⟩
def qbp {T:Type} (x:tql) (k:((Bool×(List Int)×(List Z6)×(List Z6)×(List Int))⊕tqp)->T):(Bool⊕Unit)->T:=Sum.elim (fun y0=>k (.inl (y0,x.u2,x.u3,x.u3,x.v4))) (fun y1=>k (.inr (x.2.1,x.u2,x.u3,x.v4)))
def qbq (x:tql) (v:Int):tql:=(v,x.2.1,x.u2,x.u3,x.v4)
theorem qbr (x:tql):LE.step X qbo q2 q5o qbi 12 x=X13 x.u2 x.v4 x.1 (fun w=>Sum.inl (qbq x w)) (fun o=>Sum.inr (qbp x id o)):=by kernel_rfl
def qbs {R:Type}:Z21 S R:=LE.ls X qbo (fun x k=>(X3I x.u2 x.v4 x.1).bind (qbp x k)) qbi
theorem qbt {R:Type}:Z2e X (qbs (R:=R)):=Zke xok q3 (e:=qbo) q5p qbj (st:=fun(x:tql)=>WV x.u2 x.v4) (prj:=fun(x:tql)=>x.1) (emb:=qbq) qbp (fun x=>(qbr x).trans (by unfold WV X13;simp only[Zk2,ZjT,Zk3,Option.map_some,Option.map_none];rfl)) qbj
def qbu:Key:=⟨[93],93,none,[0,0,1,0,1,1],0,16⟩
def qbv:StT S:=⟨v1e,o14,18⟩
def qbx:Way S:=⟨(.exit 0),⟨(N (N L (some (.ptr 0 0)) L) none (N L (some (.ptr 1 0)) L)),o14,19⟩,[(.lst (.int .i64)),(.lst (.st 26)),(.lst (.int .i64))]⟩
def qby:LE S:=⟨qbu,qbv,[.bool,(.lst (.int .i64)),(.lst (.st 26)),(.lst (.int .i64))],[qbm,qbx]⟩
def qbz {T:Type} (x:tqp) (k:((Bool×(List Int)×(List Z6)×(List Z6)×(List Int))⊕((List Int)×(List Z6)×(List Int)))->T):(tqN⊕((List Int)×(List Int)))->T:=Sum.elim (fun y0=>k (.inl (y0.1,y0.2.1,x.u2,x.u2,y0.v2))) (fun y1=>k (.inr (y1.1,x.u2,y1.2)))
def qbA (x:tqp) (v:tqN):tqp:=(v.1,v.2.1,x.u2,v.v2)
theorem qbB (x:tqp):LE.step X qby q2 q5o qbs 12 x=X10 x.u2 x.1 x.2.1 x.v3 (fun w=>Sum.inl (qbA x w)) (fun o=>Sum.inr (qbz x id o)):=by kernel_rfl
def qbC {R:Type}:Z21 S R:=LE.ls X qby (fun x k=>(X3F x.u2 (x.1,x.2.1,x.v3)).bind (qbz x k)) qbs
theorem qbD {R:Type}:Z2e X (qbC (R:=R)):=Zke xok q3 (e:=qby) q5p qbt (st:=fun(x:tqp)=>Wj x.u2) (prj:=fun(x:tqp)=>(x.1,x.2.1,x.v3)) (emb:=qbA) qbz (fun x=>(qbB x).trans (by unfold Wj X10;simp only[Zk2,ZjT,Zk3,Option.map_some,Option.map_none];rfl)) qbt
theorem qbE (x0:Z8):Zkg X q2 [(.st 27)] [(.st 27),.bool] q5o qbC 12 93 (x0,())=X2s x0:=by kernel_rfl
def qbF:F7 S:=⟨[(.st 27)],[(.st 27),.bool],fun xs=>X4P xs.1⟩
theorem qbG:Zav X 93 qbF:=Zkd (Zkc xok q3 q5p qbD 12 93) fun xs _ h=>((qbE xs.1).trans (X5W xs.1).symm).trans h
def qbL:Key:=⟨[94],94,none,[0,0,1,0,1,1,1],0,12⟩
def qbM:StT S:=⟨(N (N (N (N L (some (.rs 12 0)) L) (some (.ptr 0 0)) L) vA (N (N L vA L) none L)) none (N (N (N L vA L) none L) vA (N (N L vA L) none L))),o1d,13⟩
def qbN:Way S:=⟨(.exit 0),⟨(N (N (N (N L (some (.rs 12 0)) L) none L) none L) none L),o1d,18⟩,[(.st 20),(.lst (.st 26))]⟩
def qbO:LE S:=⟨qbL,qbM,[.int,.int,.int,.int,.int,(.st 20),(.lst (.st 26))],[qbN]⟩
def qbP {T:Type} (x:tqk) (k:(CoRecord×(List Z6))->T):(List Z6)->T:=fun y0=>k (x.u5,y0)
def qbQ (x:tqk) (v:(Int×Int×Int×(List Z6))):tqk:=(x.1,v.1,v.2.1,x.u3,v.u2,x.u5,v.v3)
theorem qbR (x:tqk):LE.step X qbO q2 q5o q4 12 x=Wo x.1 x.u3 x.u5 x.2.1 x.u2 x.u4 x.v6 (fun w=>Sum.inl (qbQ x w)) (fun o=>Sum.inr (qbP x id o)):=by kernel_rfl
def qbS {R:Type}:Z21 S R:=LE.ls X qbO (fun x k=>(X2S x.1 x.u3 x.u5 (x.2.1,x.u2,x.u4,x.v6)).bind (qbP x k)) q4
theorem qbT {R:Type}:Z2e X (qbS (R:=R)):=Zke xok q3 (e:=qbO) q5p q5 (st:=fun(x:tqk)=>Wa x.1 x.u3 x.u5) (prj:=fun(x:tqk)=>(x.2.1,x.u2,x.u4,x.v6)) (emb:=qbQ) qbP (fun x=>(qbR x).trans (by unfold Wa Wo;simp only[Zk2,ZjT,Zk3,Option.map_some,Option.map_none];rfl)) q5
theorem qbU (x0:CoRecord) (x1 x2:Int):Zkg X q2 [(.st 20),(.int .i64),(.int .i64)] [(.sl (.st 26))] q5o qbS 12 94 (x0,x1,x2,())=X1z x0 x1 x2:=by kernel_rfl
def qbV:F7 S:=⟨[(.st 20),(.int .i64),(.int .i64)],[(.sl (.st 26))],fun xs=>X35 xs.1 xs.2.1 xs.u2⟩
theorem qbW:Zav X 94 qbV:=Zkd (Zkc xok q3 q5p qbT 12 94) fun xs _ h=>((qbU xs.1 xs.2.1 xs.u2).trans (X5a xs.1 xs.2.1 xs.u2).symm).trans h
theorem qc1 (x0:Z8) (x1:Z6) (x2:Y2):Zkg X q2 [(.st 27),(.st 26),(.st 5)] [(.st 27)] q5o q4 12 95 (x0,x1,x2,())=X3M x0 x1 x2:=by kernel_rfl
def qc2:F7 S:=⟨[(.st 27),(.st 26),(.st 5)],[(.st 27)],fun xs=>X6F xs.1 xs.2.1 xs.u2⟩
theorem qc3:Zav X 95 qc2:=Zkd (Zkc xok q3 q5p q5 12 95) fun xs _ h=>((qc1 xs.1 xs.2.1 xs.u2).trans (X7h xs.1 xs.2.1 xs.u2).symm).trans h
def qc4 (ih:tqv->Option (List Z8)):List (Nat×F7 S):=[(93,qbF),(94,qbV),(95,qc2),(63,⟨[(.st 20),(.sl (.st 21)),(.st 27)],[(.sl (.st 27))],ih⟩)]
theorem qc5 (ih:tqv->Option (List Z8)) (hih:Zav X 63 ⟨[(.st 20),(.sl (.st 21)),(.st 27)],[(.sl (.st 27))],ih⟩):Z95 X (qc4 ih):=⟨qbG,qbW,qc3,hih,trivial⟩
abbrev qc6 (ih:tqv->Option (List Z8)) {R:Type}:Z21 S R:=Zj1
theorem qc7 (ih:tqv->Option (List Z8)) (hih:Zav X 63 ⟨[(.st 20),(.sl (.st 21)),(.st 27)],[(.sl (.st 27))],ih⟩) {R:Type}:Z2e X (qc6 ih (R:=R)):=ZjC X
def qc8:Key:=⟨[63],63,none,[0,0,1,0,1,1,1,1,1,1],0,28⟩
def qc9:StT S:=⟨(N (N (N L (some (.ptr 0 0)) L) vy (N (N L (some (.sl (.st 26) [])) L) (some (.ptr 1 0)) L)) none (N (N (N L (some (.rs 28 0)) L) none L) none (N (N L vA L) none L))),o16,29⟩
def qca:Way S:=⟨(.exit 0),⟨(N L none (N (N (N L (some (.rs 28 0)) L) none L) none L)),o16,33⟩,[(.st 27),(.st 20),(.lst (.st 27))]⟩
def qcb:LE S:=⟨qc8,qc9,[(.lst (.st 21)),(.lst (.st 26)),.int,(.st 27),(.st 20),(.lst (.st 27))],[qca]⟩
def qcc {T:Type} (x:tqd) (k:(Z8×CoRecord×(List Z8))->T):(List Z8)->T:=fun y0=>k (x.u3,x.u4,y0)
def qcd (x:tqd) (v:(Int×(List Z8))):tqd:=(x.1,x.2.1,v.1,x.u3,x.u4,v.2)
theorem qce (ih:tqv->Option (List Z8)) (x:tqd):LE.step X qcb (qc4 ih) q5o (qc6 ih) 12 x=X1d ih x.1 x.2.1 x.u3 x.u4 x.u2 x.v5 (fun w=>Sum.inl (qcd x w)) (fun o=>Sum.inr (qcc x id o)):=by kernel_rfl
def qcf (ih:tqv->Option (List Z8)) {R:Type}:Z21 S R:=LE.ls X qcb (fun x k=>(X3w ih x.1 x.2.1 x.u3 x.u4 (x.u2,x.v5)).bind (qcc x k)) (qc6 ih)
theorem qcg (ih:tqv->Option (List Z8)) (hih:Zav X 63 ⟨[(.st 20),(.sl (.st 21)),(.st 27)],[(.sl (.st 27))],ih⟩) {R:Type}:Z2e X (qcf ih (R:=R)):=Zke xok (qc5 ih hih) (e:=qcb) q5p (qc7 ih hih) (st:=fun(x:tqd)=>X1k ih x.1 x.2.1 x.u3 x.u4) (prj:=fun(x:tqd)=>(x.u2,x.v5)) (emb:=qcd) qcc (fun x=>(qce ih x).trans (by unfold X1k X1d;simp only[Zk2,ZjT,Zk3,Option.map_some,Option.map_none];rfl)) (qc7 ih hih)
theorem qch (ih:tqv->Option (List Z8)) (x0:CoRecord) (x1:List Zr) (x2:Z8):Zkg X (qc4 ih) [(.st 20),(.sl (.st 21)),(.st 27)] [(.sl (.st 27))] q5o (qcf ih) 12 63 (x0,x1,x2,())=X2d ih x0 x1 x2:=by kernel_rfl
def qci:F7 S:=⟨[(.st 20),(.sl (.st 21)),(.st 27)],[(.sl (.st 27))],fun xs=>X7w xs.1 xs.2.1 xs.u2⟩
theorem qcj:Zav X 63 qci:=ZkS (X:=X) (g:=63) (pts:=[(.st 20),(.sl (.st 21)),(.st 27)]) (rts:=[(.sl (.st 27))]) (t:=Wy) fun ih hih=>Zkd (Zkc xok (qc5 ih hih) q5p (qcg ih hih) 12 63) fun xs _ h=>(qch ih xs.1 xs.2.1 xs.u2).trans h
def qck:List (Nat×F7 S):=[(64,qaW),(63,qci)]
theorem qcl:Z95 X (qck):=⟨qaX,qcj,trivial⟩
theorem qco (x0:CoRecord) (x1:List Zr):Zkg X qck [(.st 20),(.sl (.st 21))] [.bool] q5o q4 12 42 (x0,x1,())=X3l x0 x1:=by kernel_rfl
def qcp:F7 S:=⟨[(.st 20),(.sl (.st 21))],[.bool],fun xs=>X1j xs.1 xs.2.1⟩
theorem qcq:Zav X 42 qcp:=Zkd (Zkc xok qcl q5p q5 12 42) fun xs _ h=>((qco xs.1 xs.2.1).trans (X6U xs.1 xs.2.1).symm).trans h
def qcr:List (Nat×F7 S):=[(40,qaG),(42,qcp)]
theorem qcs:Z95 X (qcr):=⟨qaH,qcq,trivial⟩
theorem qcv (x0:CoRecord) (x1:List Zr) (x2:Zr):Zkg X qcr [(.st 20),(.sl (.st 21)),(.st 21)] [(.int .i64)] q5o q4 12 33 (x0,x1,x2,())=X33 x0 x1 x2:=by kernel_rfl
def qcw:F7 S:=⟨[(.st 20),(.sl (.st 21)),(.st 21)],[(.int .i64)],fun xs=>X4B xs.1 xs.2.1 xs.u2⟩
theorem qcx:Zav X 33 qcw:=Zkd (Zkc xok qcs q5p q5 12 33) fun xs _ h=>((qcv xs.1 xs.2.1 xs.u2).trans (X6q xs.1 xs.2.1 xs.u2).symm).trans h
theorem qcC (x0:List Zr) (x1 x2 x3:Int):Zkg X q2 [(.sl (.st 21)),(.int .i64),(.int .i64),(.int .i64)] [(.sl (.st 21))] q5o q4 12 30 (x0,x1,x2,x3,())=X3m x0 x1 x2 x3:=by kernel_rfl
def qcD:F7 S:=⟨[(.sl (.st 21)),(.int .i64),(.int .i64),(.int .i64)],[(.sl (.st 21))],fun xs=>X5I xs.1 xs.2.1 xs.u2 xs.u3⟩
theorem qcE:Zav X 30 qcD:=Zkd (Zkc xok q3 q5p q5 12 30) fun xs _ h=>((qcC xs.1 xs.2.1 xs.u2 xs.u3).trans (X6W xs.1 xs.2.1 xs.u2 xs.u3).symm).trans h
def qcF:List (Nat×F7 S):=[(30,qcD),(42,qcp)]
theorem qcG:Z95 X (qcF):=⟨qcE,qcq,trivial⟩
def qcJ:Key:=⟨[59],59,none,[0,0,1,0,1,1],0,4⟩
def qcK:StT S:=⟨(N (N (N L vA L) vy (N (N L (some (.rs 4 0)) L) none L)) none (N (N L (some (.ptr 0 0)) L) vA (N (N L vA L) none L))),(N L oc (N (N L ok L) none L)),5⟩
def qcL:Way S:=⟨(.exit 0),⟨(N (N L none (N (N L (some (.rs 4 0)) L) none L)) none L),(N L oc (N (N L ok L) none L)),13⟩,[(.st 20),(.lst (.int .i64))]⟩
def qcM:LE S:=⟨qcJ,qcK,[.int,(.lst (.st 21)),.int,.int,(.st 20),(.lst (.int .i64))],[qcL]⟩
def qcN {T:Type} (x:tqs) (k:(CoRecord×(List Int))->T):(List Int)->T:=fun y0=>k (x.u4,y0)
def qcO (x:tqs) (v:(Int×(List Int))):tqs:=(x.1,x.2.1,x.u2,v.1,x.u4,v.2)
theorem qcP (x:tqs):LE.step X qcM qcF q5o q4 12 x=X14 x.1 x.2.1 x.u2 x.u4 x.u3 x.v5 (fun w=>Sum.inl (qcO x w)) (fun o=>Sum.inr (qcN x id o)):=by kernel_rfl
def qcQ {R:Type}:Z21 S R:=LE.ls X qcM (fun x k=>(X3J x.1 x.2.1 x.u2 x.u4 (x.u3,x.v5)).bind (qcN x k)) q4
theorem qcR {R:Type}:Z2e X (qcQ (R:=R)):=Zke xok qcG (e:=qcM) q5p q5 (st:=fun(x:tqs)=>WW x.1 x.2.1 x.u2 x.u4) (prj:=fun(x:tqs)=>(x.u3,x.v5)) (emb:=qcO) qcN (fun x=>(qcP x).trans (by unfold WW X14;simp only[Zk2,ZjT,Zk3,Option.map_some,Option.map_none];rfl)) q5
theorem qcS (x0:CoRecord) (x1:List Zr) (x2 x3:Int):Zkg X qcF [(.st 20),(.sl (.st 21)),(.int .i64),(.int .i64)] [(.sl (.int .i64))] q5o qcQ 12 59 (x0,x1,x2,x3,())=X2t x0 x1 x2 x3:=by kernel_rfl
def qcT:F7 S:=⟨[(.st 20),(.sl (.st 21)),(.int .i64),(.int .i64)],[(.sl (.int .i64))],fun xs=>X4Q xs.1 xs.2.1 xs.u2 xs.u3⟩
theorem qcU:Zav X 59 qcT:=Zkd (Zkc xok qcG q5p qcR 12 59) fun xs _ h=>((qcS xs.1 xs.2.1 xs.u2 xs.u3).trans (X5Y xs.1 xs.2.1 xs.u2 xs.u3).symm).trans h
def qcV:List (Nat×F7 S):=[(59,qcT)]
theorem qcW:Z95 X (qcV):=⟨qcU,trivial⟩
def qcZ:Key:=⟨[34],34,none,[0,0,1,0,1,1],0,13⟩
def qd0:StT S:=⟨(N (N (N (N L vv L) none L) none (N L (some (.ptr 1 0)) L)) none v1v),(N (N L of L) oc L),13⟩
def qd1:Way S:=⟨.ret,⟨(N L none (N L none (N L vA L))),(N (N L of L) oc L),28⟩,[.int,(.st 21),(.st 20)]⟩
def qd2:Way S:=⟨(.exit 0),⟨L,(N (N L of L) oc L),17⟩,[(.st 21),(.st 20)]⟩
def qd3:LE S:=⟨qcZ,qd0,[(.lst (.int .i64)),.int,(.st 21),(.st 20)],[qd1,qd2]⟩
def qd4 {T:Type} (x:tqD) (k:((Int×Zr×CoRecord)⊕(Zr×CoRecord))->T):(Int⊕Unit)->T:=Sum.elim (fun y0=>k (.inl (y0,x.u2,x.v3))) (fun y1=>k (.inr (x.u2,x.v3)))
def qd5 (x:tqD) (v:Int):tqD:=(x.1,v,x.u2,x.v3)
theorem qd6 (x:tqD):LE.step X qd3 qcV q5o q4 12 x=WZ x.1 x.u2 x.2.1 (fun w=>Sum.inl (qd5 x w)) (fun o=>Sum.inr (qd4 x id o)):=by kernel_rfl
def qd7 {R:Type}:Z21 S R:=LE.ls X qd3 (fun x k=>(X3E x.1 x.u2 x.2.1).bind (qd4 x k)) q4
theorem qd8 {R:Type}:Z2e X (qd7 (R:=R)):=Zke xok qcW (e:=qd3) q5p q5 (st:=fun(x:tqD)=>WS x.1 x.u2) (prj:=fun(x:tqD)=>x.2.1) (emb:=qd5) qd4 (fun x=>(qd6 x).trans (by unfold WS WZ;simp only[Zk2,ZjT,Zk3,Option.map_some,Option.map_none];rfl)) q5
theorem qd9 (x0:CoRecord) (x1:List Zr) (x2:Zr):Zkg X qcV [(.st 20),(.sl (.st 21)),(.st 21)] [(.int .i64)] q5o qd7 12 34 (x0,x1,x2,())=X2r x0 x1 x2:=by kernel_rfl
def qda:F7 S:=⟨[(.st 20),(.sl (.st 21)),(.st 21)],[(.int .i64)],fun xs=>X2P xs.1 xs.2.1 xs.u2⟩
theorem qdb:Zav X 34 qda:=Zkd (Zkc xok qcW q5p qd8 12 34) fun xs _ h=>((qd9 xs.1 xs.2.1 xs.u2).trans (X5T xs.1 xs.2.1 xs.u2).symm).trans h
def qdc:List (Nat×F7 S):=[(33,qcw),(34,qda)]
theorem qdd:Z95 X (qdc):=⟨qcx,qdb,trivial⟩
theorem qdg (x0:CoRecord) (x1:List Zr) (x2:Zr):Zkg X qdc [(.st 20),(.sl (.st 21)),(.st 21)] [(.int .i64),(.int .i64)] q5o q4 12 9 (x0,x1,x2,())=X2q x0 x1 x2:=by kernel_rfl
def qdh:F7 S:=⟨[(.st 20),(.sl (.st 21)),(.st 21)],[(.int .i64),(.int .i64)],fun xs=>X4N xs.1 xs.2.1 xs.u2⟩
theorem qdi:Zav X 9 qdh:=Zkd (Zkc xok qdd q5p q5 12 9) fun xs _ h=>((qdg xs.1 xs.2.1 xs.u2).trans (X5R xs.1 xs.2.1 xs.u2).symm).trans h
def qdn:Key:=⟨[10],10,none,[0,0,1,0,1,1,1],1,26⟩
def qdo:StT S:=⟨(N (N (N L (some (.ptr 0 0)) L) vy (N L (some (.ptr 1 0)) (N L none (N L vA L)))) none (N L none (N L (some (.rs 26 0)) (N L none (N L vA L))))),o1c,27⟩
def qdp:Way S:=⟨(.exit 1),⟨(N L none (N L none (N L (some (.rs 26 0)) L))),o1c,28⟩,[(.st 25),(.st 21),(.st 20),(.lst (.int .i64))]⟩
def qdq:LE S:=⟨qdn,qdo,[(.lst (.st 21)),.int,.int,(.st 25),(.st 21),(.st 20),(.lst (.int .i64))],[qdp]⟩
def qdr {T:Type} (x:tqj) (k:(Zc×Zr×CoRecord×(List Int))->T):(List Int)->T:=fun y0=>k (x.u3,x.u4,x.u5,y0)
def qds (x:tqj) (v:(Int×(List Int))):tqj:=(x.1,x.2.1,v.1,x.u3,x.u4,x.u5,v.2)
theorem qdt (x:tqj):LE.step X qdq q8k q5o q4 12 x=X1n x.1 x.2.1 x.u4 x.u5 x.u2 x.v6 (fun w=>Sum.inl (qds x w)) (fun o=>Sum.inr (qdr x id o)):=by kernel_rfl
def qdu {R:Type}:Z21 S R:=LE.ls X qdq (fun x k=>(X3T x.1 x.2.1 x.u4 x.u5 (x.u2,x.v6)).bind (qdr x k)) q4
theorem qdv {R:Type}:Z2e X (qdu (R:=R)):=Zke xok q8l (e:=qdq) q5p q5 (st:=fun(x:tqj)=>X17 x.1 x.2.1 x.u4 x.u5) (prj:=fun(x:tqj)=>(x.u2,x.v6)) (emb:=qds) qdr (fun x=>(qdt x).trans (by unfold X17 X1n;simp only[Zk2,ZjT,Zk3,Option.map_some,Option.map_none];rfl)) q5
theorem qdw (x0:CoRecord) (x1:List Zr) (x2:Zr):Zkg X q8k [(.st 20),(.sl (.st 21)),(.st 21)] [(.sl (.int .i64)),(.int .i64)] q5o qdu 12 10 (x0,x1,x2,())=X2U x0 x1 x2:=by kernel_rfl
def qdx:F7 S:=⟨[(.st 20),(.sl (.st 21)),(.st 21)],[(.sl (.int .i64)),(.int .i64)],fun xs=>X5g xs.1 xs.2.1 xs.u2⟩
theorem qdy:Zav X 10 qdx:=Zkd (Zkc xok q8l q5p qdv 12 10) fun xs _ h=>((qdw xs.1 xs.2.1 xs.u2).trans (X67 xs.1 xs.2.1 xs.u2).symm).trans h
theorem qdD (x0:CoRecord) (x1:Int):Zkg X q2 [(.st 20),(.int .i64)] [(.st 20)] q5o q4 12 36 (x0,x1,())=X3k x0 x1:=by kernel_rfl
def qdE:F7 S:=⟨[(.st 20),(.int .i64)],[(.st 20)],fun xs=>X5H xs.1 xs.2.1⟩
theorem qdF:Zav X 36 qdE:=Zkd (Zkc xok q3 q5p q5 12 36) fun xs _ h=>((qdD xs.1 xs.2.1).trans (X6S xs.1 xs.2.1).symm).trans h
def qdG:List (Nat×F7 S):=[(33,qcw),(34,qda),(36,qdE)]
theorem qdH:Z95 X (qdG):=⟨qcx,qdb,qdF,trivial⟩
def qdK:Key:=⟨[11],11,none,[0,0,1,0,1,1,1,1,1],0,22⟩
def qdL:StT S:=⟨(N (N (N L (some (.ptr 0 0)) L) vy (N (N L (some (.rs 22 0)) L) (some (.ptr 1 0)) L)) none v1w),o1g,23⟩
def qdM:Way S:=⟨(.exit 0),⟨(N (N L none (N (N L (some (.rs 22 0)) L) none L)) none L),o1g,28⟩,[(.st 21),(.st 20),(.lst (.int .i64))]⟩
def qdN:LE S:=⟨qdK,qdL,[(.lst (.st 21)),.int,(.st 21),(.st 20),(.lst (.int .i64))],[qdM]⟩
def qdO {T:Type} (x:tqu) (k:(Zr×CoRecord×(List Int))->T):(List Int)->T:=fun y0=>k (x.u2,x.u3,y0)
def qdP (x:tqu) (v:(Int×(List Int))):tqu:=(x.1,v.1,x.u2,x.u3,v.2)
theorem qdQ (x:tqu):LE.step X qdN qdG q5o q4 12 x=X1v x.1 x.u2 x.u3 x.2.1 x.v4 (fun w=>Sum.inl (qdP x w)) (fun o=>Sum.inr (qdO x id o)):=by kernel_rfl
def qdR {R:Type}:Z21 S R:=LE.ls X qdN (fun x k=>(X2N x.1 x.u2 x.u3 (x.2.1,x.v4)).bind (qdO x k)) q4
theorem qdS {R:Type}:Z2e X (qdR (R:=R)):=Zke xok qdH (e:=qdN) q5p q5 (st:=fun(x:tqu)=>X1b x.1 x.u2 x.u3) (prj:=fun(x:tqu)=>(x.2.1,x.v4)) (emb:=qdP) qdO (fun x=>(qdQ x).trans (by unfold X1b X1v;simp only[Zk2,ZjT,Zk3,Option.map_some,Option.map_none];rfl)) q5
theorem qdT (x0:CoRecord) (x1:List Zr) (x2:Zr):Zkg X qdG [(.st 20),(.sl (.st 21)),(.st 21)] [(.sl (.int .i64)),(.int .i64)] q5o qdR 12 11 (x0,x1,x2,())=X31 x0 x1 x2:=by kernel_rfl
def qdU:F7 S:=⟨[(.st 20),(.sl (.st 21)),(.st 21)],[(.sl (.int .i64)),(.int .i64)],fun xs=>X5n xs.1 xs.2.1 xs.u2⟩
theorem qdV:Zav X 11 qdU:=Zkd (Zkc xok qdH q5p qdS 12 11) fun xs _ h=>((qdT xs.1 xs.2.1 xs.u2).trans (X6m xs.1 xs.2.1 xs.u2).symm).trans h
def qe0:Key:=⟨[12],12,none,[0,0,1,0,1,1],0,7⟩
def qe1:StT S:=⟨(N (N L vv (N L vA L)) vv L),L,7⟩
def qe2:Way S:=⟨.ret,⟨(N L none (N (N L vB L) none L)),L,21⟩,[.bool]⟩
def qe3:Way S:=⟨(.exit 0),⟨L,L,11⟩,[]⟩
def qe4:LE S:=⟨qe0,qe1,[(.lst (.int .i64)),.int,(.lst (.int .i64))],[qe2,qe3]⟩
def qe5 {T:Type} (x:tqO) (k:(Bool⊕Unit)->T):(Bool⊕Unit)->T:=Sum.elim (fun y0=>k (.inl y0)) (fun y1=>k (.inr ()))
def qe6 (x:tqO) (v:Int):tqO:=(x.1,v,x.v2)
theorem qe7 (x:tqO):LE.step X qe4 q2 q5o q4 12 x=X1T x.1 x.v2 x.2.1 (fun w=>Sum.inl (qe6 x w)) (fun o=>Sum.inr (qe5 x id o)):=by kernel_rfl
def qe8 {R:Type}:Z21 S R:=LE.ls X qe4 (fun x k=>(X5i x.1 x.v2 x.2.1).bind (qe5 x k)) q4
theorem qe9 {R:Type}:Z2e X (qe8 (R:=R)):=Zke xok q3 (e:=qe4) q5p q5 (st:=fun(x:tqO)=>X1K x.1 x.v2) (prj:=fun(x:tqO)=>x.2.1) (emb:=qe6) qe5 (fun x=>(qe7 x).trans (by unfold X1K X1T;simp only[Zk2,ZjT,Zk3,Option.map_some,Option.map_none];rfl)) q5
theorem qea (x0 x1:List Int):Zkg X q2 [(.sl (.int .i64)),(.sl (.int .i64))] [.bool] q5o qe8 12 12 (x0,x1,())=X4u x0 x1:=by kernel_rfl
def qeb:F7 S:=⟨[(.sl (.int .i64)),(.sl (.int .i64))],[.bool],fun xs=>X4u xs.1 xs.2.1⟩
theorem qec:Zav X 12 qeb:=Zkd (Zkc xok q3 q5p qe9 12 12) fun xs _ h=>(qea xs.1 xs.2.1).trans h
theorem qeh (x0 x1:Int):Zkg X q6d [(.int .i64),(.int .i64)] [(.int .i64)] q5o q4 12 61 (x0,x1,())=X3Q x0 x1:=by kernel_rfl
def qei:F7 S:=⟨[(.int .i64),(.int .i64)],[(.int .i64)],fun xs=>X3Q xs.1 xs.2.1⟩
theorem qej:Zav X 61 qei:=Zkd (Zkc xok q6e q5p q5 12 61) fun xs _ h=>(qeh xs.1 xs.2.1).trans h
def qek:List (Nat×F7 S):=[(61,qei)]
theorem qel:Z95 X (qek):=⟨qej,trivial⟩
def qeo:Key:=⟨[38],38,none,[0,0,1,0,1],0,4⟩
def qep:StT S:=⟨(N (N (N L none (N L vA L)) vv (N (N L vv L) none L)) vv v1w),L,4⟩
def qer:Way S:=⟨.ret,⟨v1w,L,27⟩,[.int]⟩
def qes:Way S:=⟨(.exit 0),⟨(N (N L vv L) vv L),L,5⟩,[(.lst (.int .i64)),(.lst (.int .i64))]⟩
def qet:LE S:=⟨qeo,qep,[.int,(.lst (.int .i64)),(.lst (.int .i64)),(.lst (.int .i64)),.int],[q7V,qer,qes]⟩
def qeu {T:Type} (x:tqw) (k:(Int⊕Int⊕((List Int)×(List Int)))->T):(Int⊕Int⊕Unit)->T:=Sum.elim (fun y0=>k (.inl y0)) (Sum.elim (fun y1=>k (.inr (.inl y1))) (fun y2=>k (.inr (.inr (x.2.1,x.u3)))))
def qev (x:tqw) (v:Int):tqw:=(v,x.2.1,x.u2,x.u3,x.v4)
theorem qew (x:tqw):LE.step X qet qek q5o q4 12 x=XB x.2.1 x.u2 x.u3 x.v4 x.1 (fun w=>Sum.inl (qev x w)) (fun o=>Sum.inr (qeu x id o)):=by kernel_rfl
def qex {R:Type}:Z21 S R:=LE.ls X qet (fun x k=>(X15 x.2.1 x.u2 x.u3 x.v4 x.1).bind (qeu x k)) q4
theorem qey {R:Type}:Z2e X (qex (R:=R)):=Zke xok qel (e:=qet) q5p q5 (st:=fun(x:tqw)=>XR x.2.1 x.u2 x.u3 x.v4) (prj:=fun(x:tqw)=>x.1) (emb:=qev) qeu (fun x=>(qew x).trans (by unfold XR XB;simp only[Zk2,ZjT,Zk3,Option.map_some,Option.map_none];rfl)) q5
theorem qez (x0 x1:List Int):Zkg X qek [(.sl (.int .i64)),(.sl (.int .i64))] [(.int .i64)] q5o qex 12 38 (x0,x1,())=WF x0 x1:=by kernel_rfl
def qeA:F7 S:=⟨[(.sl (.int .i64)),(.sl (.int .i64))],[(.int .i64)],fun xs=>WF xs.1 xs.2.1⟩
theorem qeB:Zav X 38 qeA:=Zkd (Zkc xok qel q5p qey 12 38) fun xs _ h=>(qez xs.1 xs.2.1).trans h
def qeC:List (Nat×F7 S):=[(37,q2B),(38,qeA),(39,q5v)]
theorem qeD:Z95 X (qeC):=⟨q2C,qeB,q5w,trivial⟩
def qeG:Key:=⟨[13],13,none,[0,0,1,0,1,1,1,0,0,1,1,0,0,1,0,1,1,1,0,1],2,26⟩
def qeH:StT S:=⟨(N (N (N (N L vA (N L vA L)) none (N L none (N L vy L))) vy (N (N L (some (.rs 27 0)) L) none (N L none (N L vA L)))) none (N (N (N L (some (.rs 28 0)) (N L vA L)) (some (.rs 26 0)) (N L none (N L vA L))) (some (.ptr 0 0)) (N L vB L))),o17,29⟩
def qeI:Way S:=⟨(.exit 1),⟨(N (N v1z vy L) none (N (N (N L none (N L vA L)) (some (.rs 26 0)) L) (some (.ptr 0 0)) (N L vB L))),(N (N (N L none (N L none (N (N L ol L) os L))) none (N (N (N (N L of L) none L) none L) none L)) oc (N (N L none (N L none (N L (some (.row 3 (.int .i64) [] 1 1)) L))) none (N (N L none (N L ok L)) none L))),54⟩,[.int,(.lst (.st 21)),.int,.bool,(.lst (.int .i64)),(.lst (.st 21)),(.st 21),(.st 20),(.lst (.int .i64)),(.lst (.int .i64))]⟩
def qeJ:Way S:=⟨(.exit 2),⟨(N (N v1z vy (N (N L (some (.rs 27 0)) L) none L)) none (N (N (N L (some (.rs 28 0)) (N L vA L)) (some (.rs 26 0)) L) (some (.ptr 0 0)) (N L vB L))),o17,30⟩,[.int,(.lst (.st 21)),.int,.bool,(.lst (.st 21)),(.st 20),(.lst (.int .i64)),(.lst (.int .i64))]⟩
def qeK:LE S:=⟨qeG,qeH,[.int,.int,(.lst (.st 21)),(.lst (.st 21)),.int,.int,.int,.bool,(.lst (.st 21)),(.st 20),(.lst (.int .i64)),(.lst (.int .i64))],[qeI,qeJ]⟩
def qeL {T:Type} (x:tqa) (k:((Int×(List Zr)×Int×Bool×(List Int)×(List Zr)×Zr×CoRecord×(List Int)×(List Int))⊕(Int×(List Zr)×Int×Bool×(List Zr)×CoRecord×(List Int)×(List Int)))->T):(((List Int)×(List Zr)×Zr×(List Int))⊕((List Zr)×(List Int)))->T:=Sum.elim (fun y0=>k (.inl (x.2.1,x.u3,x.u5,x.u7,y0.1,y0.2.1,y0.u2,x.u9,y0.v3,x.v11))) (fun y1=>k (.inr (x.2.1,x.u3,x.u5,x.u7,y1.1,x.u9,y1.2,x.v11)))
def qeM (x:tqa) (v:(Int×(List Zr)×(List Int))):tqa:=(x.1,x.2.1,x.u2,x.u3,v.1,x.u5,x.u6,x.u7,v.2.1,x.u9,v.v2,x.v11)
theorem qeN (x:tqa):LE.step X qeK qeC q5o q4 12 x=X1p x.1 x.u2 x.u6 x.u7 x.v11 x.u4 x.u8 x.u10 (fun w=>Sum.inl (qeM x w)) (fun o=>Sum.inr (qeL x id o)):=by kernel_rfl
def qeO {R:Type}:Z21 S R:=LE.ls X qeK (fun x k=>(X1O x.1 x.u2 x.u6 x.u7 x.v11 (x.u4,x.u8,x.u10)).bind (qeL x k)) q4
theorem qeP {R:Type}:Z2e X (qeO (R:=R)):=Zke xok qeD (e:=qeK) q5p q5 (st:=fun(x:tqa)=>X19 x.1 x.u2 x.u6 x.u7 x.v11) (prj:=fun(x:tqa)=>(x.u4,x.u8,x.u10)) (emb:=qeM) qeL (fun x=>(qeN x).trans (by unfold X19 X1p;simp only[Zk2,ZjT,Zk3,Option.map_some,Option.map_none];rfl)) q5
def qeQ:Key:=⟨[13],13,none,[0,0,1,0,1,1,1,0,1],0,17⟩
def qeR:StT S:=⟨(N (N v1z vy L) none (N (N (N L none (N L vA L)) (some (.rs 17 0)) L) (some (.ptr 0 0)) (N L vB L))),(N (N L none o1y) oc L),18⟩
def qeS:Way S:=⟨(.exit 0),⟨(N L none (N (N L (some (.rs 17 0)) L) none L)),(N (N L none o1y) oc L),19⟩,[(.lst (.int .i64)),(.st 20)]⟩
def qeT:LE S:=⟨qeQ,qeR,[.int,(.lst (.st 21)),.int,.bool,(.lst (.int .i64)),(.st 20)],[qeS]⟩
def qeU {T:Type} (x:tqq) (k:((List Int)×CoRecord)->T):(List Int)->T:=fun y0=>k (y0,x.v5)
def qeV (x:tqq) (v:(Int×Bool×(List Int))):tqq:=(x.1,x.2.1,v.1,v.2.1,v.v2,x.v5)
theorem qeW (x:tqq):LE.step X qeT qeC q5o qeO 12 x=X1o x.1 x.2.1 x.v5 x.u2 x.u3 x.u4 (fun w=>Sum.inl (qeV x w)) (fun o=>Sum.inr (qeU x id o)):=by kernel_rfl
def qeX {R:Type}:Z21 S R:=LE.ls X qeT (fun x k=>(X3U x.1 x.2.1 x.v5 (x.u2,x.u3,x.u4)).bind (qeU x k)) qeO
theorem qeY {R:Type}:Z2e X (qeX (R:=R)):=Zke xok qeD (e:=qeT) q5p qeP (st:=fun(x:tqq)=>X18 x.1 x.2.1 x.v5) (prj:=fun(x:tqq)=>(x.u2,x.u3,x.u4)) (emb:=qeV) qeU (fun x=>(qeW x).trans (by unfold X18 X1o;simp only[Zk2,ZjT,Zk3,Option.map_some,Option.map_none];rfl)) qeP
theorem qeZ (x0:CoRecord) (x1:List Zr):Zkg X qeC [(.st 20),(.sl (.st 21))] [(.sl (.int .i64)),(.int .i64)] q5o qeX 12 13 (x0,x1,())=X20 x0 x1:=by kernel_rfl
def qf0:F7 S:=⟨[(.st 20),(.sl (.st 21))],[(.sl (.int .i64)),(.int .i64)],fun xs=>X3h xs.1 xs.2.1⟩
theorem qf1:Zav X 13 qf0:=Zkd (Zkc xok qeD q5p qeY 12 13) fun xs _ h=>((qeZ xs.1 xs.2.1).trans (X4X xs.1 xs.2.1).symm).trans h
def qf2 (ih:tqR->Option (List (List Int))):List (Nat×F7 S):=[(41,⟨[(.int .i64),(.int .i64),(.int .i64)],[(.sl (.sl (.int .i64)))],ih⟩)]
theorem qf3 (ih:tqR->Option (List (List Int))) (hih:Zav X 41 ⟨[(.int .i64),(.int .i64),(.int .i64)],[(.sl (.sl (.int .i64)))],ih⟩):Z95 X (qf2 ih):=⟨hih,trivial⟩
abbrev qf4 (ih:tqR->Option (List (List Int))) {R:Type}:Z21 S R:=Zj1
theorem qf5 (ih:tqR->Option (List (List Int))) (hih:Zav X 41 ⟨[(.int .i64),(.int .i64),(.int .i64)],[(.sl (.sl (.int .i64)))],ih⟩) {R:Type}:Z2e X (qf4 ih (R:=R)):=ZjC X
def qf6:Key:=⟨[41],41,none,[0,0,1,1,0,0,1,0,0,1,0,1,1,1],2,18⟩
def qf7:StT S:=⟨(N (N (N (N L (some (.rs 18 0)) L) none L) vA (N (N L (some (.sl (.sl (.int .i64)) [])) L) none L)) none (N (N (N L vA L) none L) vA (N (N L vA L) none L))),o1p,19⟩
def qf8:Way S:=⟨(.exit 2),⟨(N (N (N (N L (some (.rs 18 0)) L) none L) vA L) none (N (N (N L vA L) none L) vA L)),o1p,23⟩,[.int,.int,.int,(.lst (.sl (.int .i64)))]⟩
def qf9:LE S:=⟨qf6,qf7,[.int,(.lst (.sl (.int .i64))),.int,.int,.int,(.lst (.sl (.int .i64)))],[qf8]⟩
def qfa {T:Type} (x:tqn) (k:tqG->T):(List (List Int))->T:=fun y0=>k (x.1,x.u2,x.u3,y0)
def qfb (x:tqn) (v:(Int×(List (List Int)))):tqn:=(x.1,x.2.1,x.u2,x.u3,v.1,v.2)
theorem qfc (ih:tqR->Option (List (List Int))) (x:tqn):LE.step X qf9 (qf2 ih) q5o (qf4 ih) 12 x=X1x ih x.2.1 x.u2 x.u4 x.v5 (fun w=>Sum.inl (qfb x w)) (fun o=>Sum.inr (qfa x id o)):=by kernel_rfl
def qfd (ih:tqR->Option (List (List Int))) {R:Type}:Z21 S R:=LE.ls X qf9 (fun x k=>(X2R ih x.2.1 x.u2 (x.u4,x.v5)).bind (qfa x k)) (qf4 ih)
theorem qfe (ih:tqR->Option (List (List Int))) (hih:Zav X 41 ⟨[(.int .i64),(.int .i64),(.int .i64)],[(.sl (.sl (.int .i64)))],ih⟩) {R:Type}:Z2e X (qfd ih (R:=R)):=Zke xok (qf3 ih hih) (e:=qf9) q5p (qf5 ih hih) (st:=fun(x:tqn)=>X1e ih x.2.1 x.u2) (prj:=fun(x:tqn)=>(x.u4,x.v5)) (emb:=qfb) qfa (fun x=>(qfc ih x).trans (by unfold X1e X1x;simp only[Zk2,ZjT,Zk3,Option.map_some,Option.map_none];rfl)) (qf5 ih hih)
def qff:Key:=⟨[41],41,none,[0,0,1,0,1,1,1],0,6⟩
def qfg:StT S:=⟨(N (N (N (N L (some (.rs 6 0)) L) none L) vA L) none (N (N (N L vA L) none L) vA L)),(N L none (N L none (N L oi L))),7⟩
def qfh:Way S:=⟨(.exit 0),⟨(N (N (N (N L (some (.rs 6 0)) L) none L) none L) none L),(N L none (N L none (N L oi L))),10⟩,[(.lst (.sl (.int .i64)))]⟩
def qfi:LE S:=⟨qff,qfg,[.int,.int,.int,(.lst (.sl (.int .i64)))],[qfh]⟩
def qfj {T:Type} (x:tqG) (k:(List (List Int))->T):(List (List Int))->T:=fun y0=>k y0
def qfk (x:tqG) (v:(Int×(List (List Int)))):tqG:=(x.1,v.1,x.u2,v.2)
theorem qfl (ih:tqR->Option (List (List Int))) (x:tqG):LE.step X qfi (qf2 ih) q5o (qfd ih) 12 x=WI ih x.1 x.u2 x.2.1 x.v3 (fun w=>Sum.inl (qfk x w)) (fun o=>Sum.inr (qfj x id o)):=by kernel_rfl
def qfm (ih:tqR->Option (List (List Int))) {R:Type}:Z21 S R:=LE.ls X qfi (fun x k=>(X2Q ih x.1 x.u2 (x.2.1,x.v3)).bind (qfj x k)) (qfd ih)
theorem qfn (ih:tqR->Option (List (List Int))) (hih:Zav X 41 ⟨[(.int .i64),(.int .i64),(.int .i64)],[(.sl (.sl (.int .i64)))],ih⟩) {R:Type}:Z2e X (qfm ih (R:=R)):=Zke xok (qf3 ih hih) (e:=qfi) q5p (qfe ih hih) (st:=fun(x:tqG)=>WD ih x.1 x.u2) (prj:=fun(x:tqG)=>(x.2.1,x.v3)) (emb:=qfk) qfj (fun x=>(qfl ih x).trans (by unfold WD WI;simp only[Zk2,ZjT,Zk3,Option.map_some,Option.map_none];rfl)) (qfe ih hih)
theorem qfo (ih:tqR->Option (List (List Int))) (x0 x1 x2:Int):Zkg X (qf2 ih) [(.int .i64),(.int .i64),(.int .i64)] [(.sl (.sl (.int .i64)))] q5o (qfm ih) 12 41 (x0,x1,x2,())=X1l ih x0 x1 x2:=by kernel_rfl
def qfp:F7 S:=⟨[(.int .i64),(.int .i64),(.int .i64)],[(.sl (.sl (.int .i64)))],fun xs=>X5q xs.1 xs.2.1 xs.u2⟩
theorem qfq:Zav X 41 qfp:=ZkS (X:=X) (g:=41) (pts:=[(.int .i64),(.int .i64),(.int .i64)]) (rts:=[(.sl (.sl (.int .i64)))]) (t:=W6) fun ih hih=>Zkd (Zkc xok (qf3 ih hih) q5p (qfn ih hih) 12 41) fun xs _ h=>(qfo ih xs.1 xs.2.1 xs.u2).trans h
def qfv:Key:=⟨[43],43,none,[0,0,1,0,1,1,1],0,4⟩
def qfw:StT S:=⟨(N (N (N (N L vA L) none L) vv (N L (some (.rs 4 0)) L)) vy (N L none (N L vA L))),(N L none (N (N L os L) none L)),5⟩
def qfx:Way S:=⟨(.exit 0),⟨(N (N L none (N L (some (.rs 4 0)) L)) none L),(N L none (N (N L os L) none L)),9⟩,[(.lst (.st 21))]⟩
def qfy:LE S:=⟨qfv,qfw,[.int,(.lst (.int .i64)),(.lst (.st 21)),.int,(.lst (.st 21))],[qfx]⟩
def qfz {T:Type} (x:tqt) (k:(List Zr)->T):(List Zr)->T:=fun y0=>k y0
def qfA (x:tqt) (v:(Int×Int×(List Zr))):tqt:=(v.1,x.2.1,x.u2,v.2.1,v.v2)
theorem qfB (x:tqt):LE.step X qfy q2 q5o q4 12 x=WQ x.2.1 x.u2 x.1 x.u3 x.v4 (fun w=>Sum.inl (qfA x w)) (fun o=>Sum.inr (qfz x id o)):=by kernel_rfl
def qfC {R:Type}:Z21 S R:=LE.ls X qfy (fun x k=>(X3n x.2.1 x.u2 (x.1,x.u3,x.v4)).bind (qfz x k)) q4
theorem qfD {R:Type}:Z2e X (qfC (R:=R)):=Zke xok q3 (e:=qfy) q5p q5 (st:=fun(x:tqt)=>WH x.2.1 x.u2) (prj:=fun(x:tqt)=>(x.1,x.u3,x.v4)) (emb:=qfA) qfz (fun x=>(qfB x).trans (by unfold WH WQ;simp only[Zk2,ZjT,Zk3,Option.map_some,Option.map_none];rfl)) q5
theorem qfE (x0:List Zr) (x1:List Int):Zkg X q2 [(.sl (.st 21)),(.sl (.int .i64))] [(.sl (.st 21))] q5o qfC 12 43 (x0,x1,())=X27 x0 x1:=by kernel_rfl
def qfF:F7 S:=⟨[(.sl (.st 21)),(.sl (.int .i64))],[(.sl (.st 21))],fun xs=>X3L xs.1 xs.2.1⟩
theorem qfG:Zav X 43 qfF:=Zkd (Zkc xok q3 q5p qfD 12 43) fun xs _ h=>((qfE xs.1 xs.2.1).trans (X5C xs.1 xs.2.1).symm).trans h
def qfH:List (Nat×F7 S):=[(40,qaG),(41,qfp),(43,qfF),(42,qcp)]
theorem qfI:Z95 X (qfH):=⟨qaH,qfq,qfG,qcq,trivial⟩
def qfL:Key:=⟨[14],14,none,[0,0,1,1,0,0,1,0,0,1,0,1,1,1],2,24⟩
def qfM:StT S:=⟨(N (N L vy (N (N L (some (.sl (.sl (.int .i64)) [])) L) none L)) none (N (N (N L vA L) none L) (some (.ptr 0 0)) (N (N L vA L) none L))),(N L oc L),24⟩
def qfN:Way S:=⟨.ret,⟨(N (N L none (N L vA L)) none (N (N L vv L) none L)),(N L oc L),42⟩,[.int,(.lst (.int .i64)),(.st 20)]⟩
def qfO:Way S:=⟨(.exit 2),⟨v1f,(N L oc L),28⟩,[(.lst (.st 21)),.int,(.st 20)]⟩
def qfP:LE S:=⟨qfL,qfM,[(.lst (.st 21)),(.lst (.sl (.int .i64))),.int,.int,(.st 20)],[qfN,qfO]⟩
def qfQ {T:Type} (x:tqr) (k:((Int×(List Int)×CoRecord)⊕tqM)->T):((Int×(List Int))⊕Unit)->T:=Sum.elim (fun y0=>k (.inl (y0.1,y0.2,x.v4))) (fun y1=>k (.inr (x.1,x.u2,x.v4)))
def qfR (x:tqr) (v:Int):tqr:=(x.1,x.2.1,x.u2,v,x.v4)
theorem qfS (x:tqr):LE.step X qfP qfH q5o q4 12 x=X1w x.1 x.2.1 x.v4 x.u3 (fun w=>Sum.inl (qfR x w)) (fun o=>Sum.inr (qfQ x id o)):=by kernel_rfl
def qfT {R:Type}:Z21 S R:=LE.ls X qfP (fun x k=>(X2O x.1 x.2.1 x.v4 x.u3).bind (qfQ x k)) q4
theorem qfU {R:Type}:Z2e X (qfT (R:=R)):=Zke xok qfI (e:=qfP) q5p q5 (st:=fun(x:tqr)=>X1c x.1 x.2.1 x.v4) (prj:=fun(x:tqr)=>x.u3) (emb:=qfR) qfQ (fun x=>(qfS x).trans (by unfold X1c X1w;simp only[Zk2,ZjT,Zk3,Option.map_some,Option.map_none];rfl)) q5
def qfV:Key:=⟨[14],14,none,[0,0,1,0,1,1,1],0,14⟩
def qfW:StT S:=⟨v1f,(N L oc L),14⟩
def qfY:Way S:=⟨(.exit 0),⟨L,(N L oc L),18⟩,[(.st 20)]⟩
def qfZ:LE S:=⟨qfV,qfW,[(.lst (.st 21)),.int,(.st 20)],[qfN,qfY]⟩
def qg0 {T:Type} (x:tqM) (k:((Int×(List Int)×CoRecord)⊕CoRecord)->T):((Int×(List Int))⊕Unit)->T:=Sum.elim (fun y0=>k (.inl (y0.1,y0.2,x.v2))) (fun y1=>k (.inr x.v2))
theorem qg2 (x:tqM):LE.step X qfZ qfH q5o qfT 12 x=X2k x.1 x.v2 x.2.1 (fun w=>Sum.inl (qaB x w)) (fun o=>Sum.inr (qg0 x id o)):=by kernel_rfl
def qg3 {R:Type}:Z21 S R:=LE.ls X qfZ (fun x k=>(X3Y x.1 x.v2 x.2.1).bind (qg0 x k)) qfT
theorem qg4 {R:Type}:Z2e X (qg3 (R:=R)):=Zke xok qfI (e:=qfZ) q5p qfU (st:=fun(x:tqM)=>X28 x.1 x.v2) (prj:=fun(x:tqM)=>x.2.1) (emb:=qaB) qg0 (fun x=>(qg2 x).trans (by unfold X28 X2k;simp only[Zk2,ZjT,Zk3,Option.map_some,Option.map_none];rfl)) qfU
theorem qg5 (x0:CoRecord) (x1:List Zr):Zkg X qfH [(.st 20),(.sl (.st 21))] [(.sl (.int .i64)),(.int .i64)] q5o qg3 12 14 (x0,x1,())=X32 x0 x1:=by kernel_rfl
def qg6:F7 S:=⟨[(.st 20),(.sl (.st 21))],[(.sl (.int .i64)),(.int .i64)],fun xs=>X5p xs.1 xs.2.1⟩
theorem qg7:Zav X 14 qg6:=Zkd (Zkc xok qfI q5p qg4 12 14) fun xs _ h=>((qg5 xs.1 xs.2.1).trans (X6o xs.1 xs.2.1).symm).trans h
end
end Nore
