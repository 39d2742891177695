/- The code comes to the plain functions. -/
import Derived.Test.YtlgmncmjacjgmaaGreatDoorY
import Derived.Test.YtlgmncmjacjgmaaGreatDoorD
set_option linter.unusedSectionVars false
set_option linter.unusedVariables false
set_option linter.unusedSimpArgs false
set_option maxRecDepth 100000
open Go Go.Ab Go.Proofs Go.Proofs.YtlgmncmjacjgmaaGreatDoor
open Go.Ab.Tr renaming node->N,leaf->L
namespace Prod
abbrev v2 {a b s:Type} (x:a×b×s):=x.2.2
abbrev u2 {a b r s:Type} (x:a×b×r×s):=x.2.2.1
abbrev v3 {a b c s:Type} (x:a×b×c×s):=x.2.2.2
abbrev u3 {a b c r s:Type} (x:a×b×c×r×s):=x.2.2.2.1
abbrev v4 {a b c d s:Type} (x:a×b×c×d×s):=x.2.2.2.2
abbrev u4 {a b c d r s:Type} (x:a×b×c×d×r×s):=x.2.2.2.2.1
abbrev v5 {a b c d e s:Type} (x:a×b×c×d×e×s):=x.2.2.2.2.2
abbrev u5 {a b c d e r s:Type} (x:a×b×c×d×e×r×s):=x.2.2.2.2.2.1
abbrev v6 {a b c d e f s:Type} (x:a×b×c×d×e×f×s):=x.2.2.2.2.2.2
abbrev u6 {a b c d e f r s:Type} (x:a×b×c×d×e×f×r×s):=x.2.2.2.2.2.2.1
abbrev v7 {a b c d e f g s:Type} (x:a×b×c×d×e×f×g×s):=x.2.2.2.2.2.2.2
abbrev u7 {a b c d e f g r s:Type} (x:a×b×c×d×e×f×g×r×s):=x.2.2.2.2.2.2.2.1
abbrev v8 {a b c d e f g h s:Type} (x:a×b×c×d×e×f×g×h×s):=x.2.2.2.2.2.2.2.2
abbrev u8 {a b c d e f g h r s:Type} (x:a×b×c×d×e×f×g×h×r×s):=x.2.2.2.2.2.2.2.2.1
abbrev v9 {a b c d e f g h i s:Type} (x:a×b×c×d×e×f×g×h×i×s):=x.2.2.2.2.2.2.2.2.2
abbrev u9 {a b c d e f g h i r s:Type} (x:a×b×c×d×e×f×g×h×i×r×s):=x.2.2.2.2.2.2.2.2.2.1
abbrev v10 {a b c d e f g h i j s:Type} (x:a×b×c×d×e×f×g×h×i×j×s):=x.2.2.2.2.2.2.2.2.2.2
abbrev u10 {a b c d e f g h i j r s:Type} (x:a×b×c×d×e×f×g×h×i×j×r×s):=x.2.2.2.2.2.2.2.2.2.2.1
abbrev v11 {a b c d e f g h i j k s:Type} (x:a×b×c×d×e×f×g×h×i×j×k×s):=x.2.2.2.2.2.2.2.2.2.2.2
abbrev u11 {a b c d e f g h i j k r s:Type} (x:a×b×c×d×e×f×g×h×i×j×k×r×s):=x.2.2.2.2.2.2.2.2.2.2.2.1
abbrev v12 {a b c d e f g h i j k l s:Type} (x:a×b×c×d×e×f×g×h×i×j×k×l×s):=x.2.2.2.2.2.2.2.2.2.2.2.2
abbrev u12 {a b c d e f g h i j k l r s:Type} (x:a×b×c×d×e×f×g×h×i×j×k×l×r×s):=x.2.2.2.2.2.2.2.2.2.2.2.2.1
abbrev v13 {a b c d e f g h i j k l m s:Type} (x:a×b×c×d×e×f×g×h×i×j×k×l×m×s):=x.2.2.2.2.2.2.2.2.2.2.2.2.2
abbrev u13 {a b c d e f g h i j k l m r s:Type} (x:a×b×c×d×e×f×g×h×i×j×k×l×m×r×s):=x.2.2.2.2.2.2.2.2.2.2.2.2.2.1
abbrev v14 {a b c d e f g h i j k l m n s:Type} (x:a×b×c×d×e×f×g×h×i×j×k×l×m×n×s):=x.2.2.2.2.2.2.2.2.2.2.2.2.2.2
abbrev u14 {a b c d e f g h i j k l m n r s:Type} (x:a×b×c×d×e×f×g×h×i×j×k×l×m×n×r×s):=x.2.2.2.2.2.2.2.2.2.2.2.2.2.2.1
abbrev v15 {a b c d e f g h i j k l m n o s:Type} (x:a×b×c×d×e×f×g×h×i×j×k×l×m×n×o×s):=x.2.2.2.2.2.2.2.2.2.2.2.2.2.2.2
abbrev u15 {a b c d e f g h i j k l m n o r s:Type} (x:a×b×c×d×e×f×g×h×i×j×k×l×m×n×o×r×s):=x.2.2.2.2.2.2.2.2.2.2.2.2.2.2.2.1
abbrev v16 {a b c d e f g h i j k l m n o p s:Type} (x:a×b×c×d×e×f×g×h×i×j×k×l×m×n×o×p×s):=x.2.2.2.2.2.2.2.2.2.2.2.2.2.2.2.2
abbrev u16 {a b c d e f g h i j k l m n o p r s:Type} (x:a×b×c×d×e×f×g×h×i×j×k×l×m×n×o×p×r×s):=x.2.2.2.2.2.2.2.2.2.2.2.2.2.2.2.2.1
abbrev u17 {a b c d e f g h i j k l m n o p q r s:Type} (x:a×b×c×d×e×f×g×h×i×j×k×l×m×n×o×p×q×r×s):=x.2.2.2.2.2.2.2.2.2.2.2.2.2.2.2.2.2.1
abbrev u18 {a b c d e f g h i j k l m n o p q t r s:Type} (x:a×b×c×d×e×f×g×h×i×j×k×l×m×n×o×p×q×t×r×s):=x.2.2.2.2.2.2.2.2.2.2.2.2.2.2.2.2.2.2.1
abbrev u19 {a b c d e f g h i j k l m n o p q t u r s:Type} (x:a×b×c×d×e×f×g×h×i×j×k×l×m×n×o×p×q×t×u×r×s):=x.2.2.2.2.2.2.2.2.2.2.2.2.2.2.2.2.2.2.2.1
abbrev u20 {a b c d e f g h i j k l m n o p q t u v r s:Type} (x:a×b×c×d×e×f×g×h×i×j×k×l×m×n×o×p×q×t×u×v×r×s):=x.2.2.2.2.2.2.2.2.2.2.2.2.2.2.2.2.2.2.2.2.1
abbrev u21 {a b c d e f g h i j k l m n o p q t u v w r s:Type} (x:a×b×c×d×e×f×g×h×i×j×k×l×m×n×o×p×q×t×u×v×w×r×s):=x.2.2.2.2.2.2.2.2.2.2.2.2.2.2.2.2.2.2.2.2.2.1
abbrev u22 {a b c d e f g h i j k l m n o p q t u v w x r s:Type} (x:a×b×c×d×e×f×g×h×i×j×k×l×m×n×o×p×q×t×u×v×w×x×r×s):=x.2.2.2.2.2.2.2.2.2.2.2.2.2.2.2.2.2.2.2.2.2.2.1
abbrev v23 {a b c d e f g h i j k l m n o p q t u v w x y s:Type} (x:a×b×c×d×e×f×g×h×i×j×k×l×m×n×o×p×q×t×u×v×w×x×y×s):=x.2.2.2.2.2.2.2.2.2.2.2.2.2.2.2.2.2.2.2.2.2.2.2
abbrev u23 {a b c d e f g h i j k l m n o p q t u v w x y r s:Type} (x:a×b×c×d×e×f×g×h×i×j×k×l×m×n×o×p×q×t×u×v×w×x×y×r×s):=x.2.2.2.2.2.2.2.2.2.2.2.2.2.2.2.2.2.2.2.2.2.2.2.1
abbrev v24 {a b c d e f g h i j k l m n o p q t u v w x y z s:Type} (x:a×b×c×d×e×f×g×h×i×j×k×l×m×n×o×p×q×t×u×v×w×x×y×z×s):=x.2.2.2.2.2.2.2.2.2.2.2.2.2.2.2.2.2.2.2.2.2.2.2.2
abbrev u24 {a b c d e f g h i j k l m n o p q t u v w x y z r s:Type} (x:a×b×c×d×e×f×g×h×i×j×k×l×m×n×o×p×q×t×u×v×w×x×y×z×r×s):=x.2.2.2.2.2.2.2.2.2.2.2.2.2.2.2.2.2.2.2.2.2.2.2.2.1
abbrev u25 {a b c d e f g h i j k l m n o p q t u v w x y z a0 r s:Type} (x:a×b×c×d×e×f×g×h×i×j×k×l×m×n×o×p×q×t×u×v×w×x×y×z×a0×r×s):=x.2.2.2.2.2.2.2.2.2.2.2.2.2.2.2.2.2.2.2.2.2.2.2.2.2.1
abbrev u26 {a b c d e f g h i j k l m n o p q t u v w x y z a0 a1 r s:Type} (x:a×b×c×d×e×f×g×h×i×j×k×l×m×n×o×p×q×t×u×v×w×x×y×z×a0×a1×r×s):=x.2.2.2.2.2.2.2.2.2.2.2.2.2.2.2.2.2.2.2.2.2.2.2.2.2.2.1
abbrev u27 {a b c d e f g h i j k l m n o p q t u v w x y z a0 a1 a2 r s:Type} (x:a×b×c×d×e×f×g×h×i×j×k×l×m×n×o×p×q×t×u×v×w×x×y×z×a0×a1×a2×r×s):=x.2.2.2.2.2.2.2.2.2.2.2.2.2.2.2.2.2.2.2.2.2.2.2.2.2.2.2.1
abbrev u28 {a b c d e f g h i j k l m n o p q t u v w x y z a0 a1 a2 a3 r s:Type} (x:a×b×c×d×e×f×g×h×i×j×k×l×m×n×o×p×q×t×u×v×w×x×y×z×a0×a1×a2×a3×r×s):=x.2.2.2.2.2.2.2.2.2.2.2.2.2.2.2.2.2.2.2.2.2.2.2.2.2.2.2.2.1
abbrev v29 {a b c d e f g h i j k l m n o p q t u v w x y z a0 a1 a2 a3 a4 s:Type} (x:a×b×c×d×e×f×g×h×i×j×k×l×m×n×o×p×q×t×u×v×w×x×y×z×a0×a1×a2×a3×a4×s):=x.2.2.2.2.2.2.2.2.2.2.2.2.2.2.2.2.2.2.2.2.2.2.2.2.2.2.2.2.2
abbrev u29 {a b c d e f g h i j k l m n o p q t u v w x y z a0 a1 a2 a3 a4 r s:Type} (x:a×b×c×d×e×f×g×h×i×j×k×l×m×n×o×p×q×t×u×v×w×x×y×z×a0×a1×a2×a3×a4×r×s):=x.2.2.2.2.2.2.2.2.2.2.2.2.2.2.2.2.2.2.2.2.2.2.2.2.2.2.2.2.2.1
abbrev v30 {a b c d e f g h i j k l m n o p q t u v w x y z a0 a1 a2 a3 a4 a5 s:Type} (x:a×b×c×d×e×f×g×h×i×j×k×l×m×n×o×p×q×t×u×v×w×x×y×z×a0×a1×a2×a3×a4×a5×s):=x.2.2.2.2.2.2.2.2.2.2.2.2.2.2.2.2.2.2.2.2.2.2.2.2.2.2.2.2.2.2
end Prod
namespace Nore
noncomputable section
abbrev tqI:Type:=Int×(List Y2)×Int
abbrev tqH:Type:=Int×Int×(List Int)×Int
abbrev tqG:Type:=(List Zr)×Int×CoRecord
abbrev tqF:Type:=(List Y2)×Int×(List Y2)
abbrev tqE:Type:=Int×(List Zq)×Int×Int
abbrev tqD:Type:=Int×(List ByteArray)×CoRecord
abbrev tqC:Type:=Int×ByteArray×ByteArray×Nat
abbrev tqB:Type:=ByteArray×Int×(List ByteArray)
abbrev tqA:Type:=Int×(List Int)×Int×Int×Int
abbrev tqz:Type:=Int×Int×(List Y2)×Int×Int
abbrev tqy:Type:=(List Int)×Int×Int×Int×Unit
abbrev tqx:Type:=Int×(List Zr)×Int×CoRecord
abbrev tqw:Type:=Int×(List Zq)×Int×CoRecord
abbrev tqv:Type:=Int×(List Zm)×Int×CoRecord
abbrev tqu:Type:=Int×(List Zm)×Int×Zm
abbrev tqt:Type:=Int×Int×(List ByteArray)×CoRecord
abbrev tqs:Type:=Int×Int×Int×Int×Zc×(List (Int×Int))
abbrev tqr:Type:=Int×Int×(List Zb)×(Nat->Y2)×Zc×(Nat->Y2)
abbrev tqq:Type:=(List Zr)×Int×(List Int)×Z7×CoRecord×(List Zr)
abbrev tqp:Type:=Int×Int×Int×(List Zb)×(Nat->Y2)×Zc×(Nat->Y2)
abbrev tqo:Type:=Int×(List Zq)×Int×Zc×Zc×(Nat->Y2)×Bool×Zc
abbrev tqn:Type:=((Nat->Y2)×Int×(List Zb)×Zc×Bool×Zc×Zc)
abbrev tqm:Type:=Zb×Zc×Bool×Bool×Zc×Zb×Zc×Zq
abbrev tql:Type:=(List Zb)×Int×Int×Int×Int×(List Zb)×(Nat->Y2)×Zc×(Nat->Y2)
abbrev tqk:Type:=Zb×Zc×Bool×(Nat->Y2)×Bool×Zc×Zb×Zc×Zq
abbrev tqj:Type:=(Bool×Zc×(Nat->Y2)×Zc×Int×Bool×(List Zr)×Int×CoRecord×Bool×CoRecord)
abbrev tqi:Type:=Zc×(Nat->Y2)×Zc×(Nat->Y2)×Int×Bool×(List Zr)×Int×CoRecord×Bool×CoRecord
abbrev tqh:Type:=Int×Int×Int×Int×Int×Int×(List Zb)×(List Zb)×(Nat->Y2)×Zc×(Nat->Y2)
abbrev tqg:Type:=((Bool×Zc×Bool×Zc×Zc)⊕(Bool×Zc×Bool×Zc×Zc))
abbrev tqf:Type:=Int×Int×Zc×(Nat->Y2)×Zc×(Nat->Y2)×Int×Bool×(List Zr)×Int×CoRecord×Bool×CoRecord
abbrev tqe:Type:=Zb×Zc×Bool×Bool×Zc×Zb×(List Zb)×(List Zb)×Zc×Zq
abbrev tqd:Type:=Int×(List Zq)×Int×(Nat->Y2)×(Nat->Y2)×Zc×Int×Bool×(List Zr)×Int×CoRecord×Zc×Bool×CoRecord
abbrev tqc:Type:=((Nat->Y2)×Int×(List Zb)×Zc×(Nat->Y2)×Zc×Int×Bool×(List Zr)×Int×CoRecord×Bool×CoRecord)
abbrev tqb:Type:=(List Zb)×Zb×Zc×Bool×(Nat->Y2)×Bool×Zc×Zb×(List Zb)×Zc×Zq
abbrev tqa:Type:=Zb×Zc×(List Zb)×Bool×(Nat->Y2)×Bool×Zc×Zb×Zc×Zq×(List Zb)
abbrev tq9:Type:=Zb×Zc×Bool×(Nat->Y2)×Bool×Zc×(List Zb)×Zb×Zc×Zq×(List Zb)
abbrev tq8:Type:=Zb×Zc×(Nat->Y2)×(Nat->Y2)×Bool×Zc×Zb×Int×Bool×(List Zr)×Int×CoRecord×Bool×Zq×CoRecord
abbrev tq7:Type:=Int×Int×Int×(Nat->Y2)×Zb×Zc×Bool×(Nat->Y2)×Bool×Int×Zc×(List Zq)×(List Zq)×Zr×(List Zb)×Zc×Zc×Int×Int×Bool×(Nat->Y2)×Bool×Int×Bool
abbrev tq6:Type:=(Nat->Y2)×Zb×Zc×Bool×(Nat->Y2)×(Nat->Y2)×Bool×Int×Zc×(List Zq)×Zb×(List Zq)×Zr×(List Zb)×Zc×Zc×Zq×Int×Int×Bool×(Nat->Y2)×Bool×Int×Bool
abbrev tq5:Type:=Int×Int×Int×(Nat->Y2)×Zb×Zc×Bool×(Nat->Y2)×Bool×Int×Zc×(List Zq)×(List Zq)×Zr×(List Zb)×Zc×Zc×Int×Int×Bool×(Nat->Y2)×Bool×Int×Bool×(List Zb)
abbrev tq4:Type:=(Nat->Y2)×Zb×Zc×Bool×(Nat->Y2)×(Nat->Y2)×Bool×Int×Zc×(List Zq)×Zb×(List Zq)×Zr×(List Zb)×Zc×Zc×Zq×Int×Int×Bool×(Nat->Y2)×Bool×Int×Bool×(List Zb)
abbrev tq3:Type:=Int×Int×Int×Zc×(List Zq)×(Nat->Y2)×(Nat->Y2)×Bool×Int×Zc×(Nat->Y2)×Zb×Int×Bool×(List Zr)×Int×CoRecord×Bool×(Nat->Y2)×Bool×Int×Bool×Int×Bool×Int×CoRecord×(List Zq)×Zr×(List Zb)×Zc
abbrev tq2:Type:=Zb×Zc×(List Zq)×(Nat->Y2)×(Nat->Y2)×(Nat->Y2)×Bool×Int×Zc×(Nat->Y2)×Zb×Int×Bool×(List Zr)×Int×CoRecord×Bool×(Nat->Y2)×Bool×Int×Bool×Int×Bool×Zq×Int×CoRecord×(List Zq)×Zr×(List Zb)×Zc
abbrev tq1:Type:=Int×Int×Int×Zc×(List Zq)×(Nat->Y2)×(Nat->Y2)×Bool×Int×Zc×(Nat->Y2)×Zb×Int×Bool×(List Zr)×Int×CoRecord×Bool×(Nat->Y2)×Bool×Int×Bool×(List Zb)×Int×Bool×Int×CoRecord×(List Zq)×Zr×(List Zb)×Zc
abbrev tq0:Type:=Zb×Zc×(List Zq)×(Nat->Y2)×(Nat->Y2)×(Nat->Y2)×Bool×Int×Zc×(Nat->Y2)×Zb×Int×Bool×(List Zr)×Int×CoRecord×Bool×(Nat->Y2)×Bool×Int×Bool×(List Zb)×Int×Bool×Zq×Int×CoRecord×(List Zq)×Zr×(List Zb)×Zc
abbrev vE:Option (TV S):=some (.bool false)
abbrev vD:Option (TV S):=some (.int .i64 0)
abbrev vC:Option (TV S):=some (.sl (.st 5) [])
abbrev vB:Option (TV S):=some (.sl (.st 28) [])
abbrev vA:Option (TV S):=some (.sl (.st 21) [])
abbrev vz:Option (TV S):=some (.sl (.st 19) [])
abbrev oy:Option (Zo S):=some (.row 9 .str [] 1 0)
abbrev vx:Option (TV S):=some (.str ByteArray.empty)
abbrev ow:Option (Zo S):=some (.cells 141 [(.yld 5)])
abbrev ov:Option (Zo S):=some (.cells 141 [(.yld 3)])
abbrev ou:Option (Zo S):=some (.row 49 (.st 19) [] 1 0)
abbrev ot:Option (Zo S):=some (.row 150 (.st 28) [] 0 0)
abbrev os:Option (Zo S):=some (.row 150 (.st 28) [] 1 1)
abbrev or:Option (Zo S):=some (.cells 4 [(.bool false)])
abbrev oq:Option (Zo S):=some (.siter ByteArray.empty 0)
abbrev op:Option (Zo S):=some (.cells 3 [(.int .i64 0)])
abbrev oo:Option (Zo S):=some (.row 3 (.int .i64) [] 1 0)
abbrev on:Option (Zo S):=some (.cells 143 [(.sl (.st 28) [])])
abbrev om:Option (Zo S):=some (.cells 78 [(.stc 25 (T.dflt 25))])
abbrev ol:Option (Zo S):=some (.cells 30 [(.stc 21 (T.dflt 21))])
abbrev ok:Option (Zo S):=some (.cells 49 [(.stc 19 (T.dflt 19))])
abbrev oj:Option (Zo S):=some (.cells 69 [(.stc 18 (T.dflt 18))])
abbrev oi:Option (Zo S):=some (.cells 25 [(.stc 20 (T.dflt 20))])
abbrev oh:Option (Zo S):=some (.cells 150 [(.stc 28 (T.dflt 28))])
abbrev vg:Option (TV S):=some (.tup [(.int .i64 0),(.int .i64 0)])
abbrev vf:Option (TV S):=some (.agg [(.arr (.st 5) 10 (fun _=>tdf T (.st 5)))])
abbrev oe:Option (Zo S):=some (.cells 104 [(.arr (.st 5) 10 (fun _=>tdf T (.st 5)))])
abbrev vd:Option (TV S):=some (.fn (.func 121) [] [(.ptr 42 0),(.ptr 43 0),(.ptr 44 0)])
abbrev vc:Option (TV S):=some (.fn (.func 121) [] [(.ptr 40 0),(.ptr 41 0),(.ptr 42 0)])
abbrev ob:Option (Zo S):=some (.cells 142 [(.fn (.func 82) [] [(.ptr 7 0),(.ptr 6 0),(.ptr 0 0)])])
abbrev oa:Option (Zo S):=some (.cells 142 [(.fn (.func 82) [] [(.ptr 5 0),(.ptr 4 0),(.ptr 0 0)])])
abbrev o9:Option (Zo S):=some (.loop 39 (N (N L (some (.ptr 2 0)) L) (some (.agg [(.stc 25 (T.dflt 25))])) (N (N L (some (.fn (.func 81) [] [(.ptr 5 0)])) L) (some (.ptr 1 0)) L)) (5::[]) .skip .skip 0 .ret (0::(39::[])) (0::(1::(0::(1::[])))))
abbrev o8:Option (Zo S):=some (.loop 39 (N (N L (some (.ptr 2 0)) L) (some (.agg [(.stc 25 (T.dflt 25))])) (N (N L (some (.fn (.func 81) [] [(.ptr 1 0)])) L) (some (.ptr 0 0)) L)) (5::[]) .skip .skip 0 .normal (0::(39::[])) (0::(1::(0::(1::[])))))
abbrev o7:Option (Zo S):=some (.loop 39 (N (N L (some (.ptr 2 0)) L) (some (.agg [(.stc 25 (T.dflt 25))])) (N (N L (some (.fn (.func 81) [] [(.ptr 5 0)])) L) (some (.ptr 1 0)) L)) (5::[]) .skip .skip 0 .normal (0::(39::[])) (0::(1::(0::(1::[])))))
abbrev o6:Option (Zo S):=some (.loop 21 (N (N (N (N L vD L) none (N (N L vE L) none L)) vA (N (N L (some (.ptr 4 0)) L) vD L)) (some (.agg [(.stc 20 (T.dflt 20))])) (N (N (N L (some (.ptr 3 0)) L) (some .nils) L) (some (.ptr 2 0)) (N L (some (.ptr 1 0)) (N (N L (some (.fn (.func 81) [] [(.ptr 7 0)])) L) none L)))) (23::[]) .skip .skip 0 .busy (0::(21::[])) (0::(1::(0::(1::(1::(1::(1::(1::[])))))))))
abbrev o5:Option (Zo S):=some (.loop 21 (N (N (N (N L vD L) none (N (N L vE L) none L)) vA (N (N L (some (.ptr 4 0)) L) vD L)) (some (.agg [(.stc 20 (T.dflt 20))])) (N (N (N L (some (.ptr 3 0)) L) (some .nils) L) (some (.ptr 2 0)) (N L (some (.ptr 1 0)) (N (N L (some (.fn (.func 81) [] [(.ptr 0 0)])) L) none L)))) (23::[]) .skip .skip 0 .normal (0::(21::[])) (0::(1::(0::(1::(1::(1::(1::(1::[])))))))))
abbrev o4:Option (Zo S):=some (.loop 21 (N (N (N (N L vD L) none (N (N L vE L) none L)) vA (N (N L (some (.ptr 4 0)) L) vD L)) (some (.agg [(.stc 20 (T.dflt 20))])) (N (N (N L (some (.ptr 3 0)) L) (some .nils) L) (some (.ptr 2 0)) (N L (some (.ptr 1 0)) (N (N L (some (.fn (.func 81) [] [(.ptr 7 0)])) L) none L)))) (23::[]) .skip .skip 0 .normal (0::(21::[])) (0::(1::(0::(1::(1::(1::(1::(1::[])))))))))
abbrev o3:Option (Zo S):=some (.loop 82 (N (N (N (N L (some (.ptr 7 0)) L) (some (.ptr 5 0)) (N L vE (N (N L vc L) none L))) vf (N (N L (some (.ptr 9 0)) L) (some (.ptr 0 0)) (N L none (N L vE L)))) vD (N (N (N L (some (.ptr 8 0)) (N L vE L)) (some (.ptr 4 0)) (N L (some (.ptr 32 0)) L)) (some .sl0) (N (N L (some (.ptr 17 0)) L) (some (.ptr 6 0)) L))) (44::[]) .skip .skip 0 .ret (0::(82::[])) (0::(1::(0::(1::(1::(1::(1::(1::[])))))))))
abbrev o2:Option (Zo S):=some (.loop 82 (N (N (N (N L (some (.ptr 9 0)) L) (some (.ptr 7 0)) (N L vE (N (N L vd L) none L))) vf (N (N L (some (.ptr 11 0)) L) (some (.ptr 0 0)) (N L none (N L vE L)))) vD (N (N (N L (some (.ptr 10 0)) (N L vE L)) (some (.ptr 6 0)) (N L (some (.ptr 34 0)) L)) (some .sl0) (N (N L (some (.ptr 19 0)) L) (some (.ptr 8 0)) L))) (44::[]) .skip .skip 0 .ret (0::(82::[])) (0::(1::(0::(1::(1::(1::(1::(1::[])))))))))
abbrev o1:Option (Zo S):=some (.loop 82 (N (N (N (N L (some (.ptr 7 0)) L) (some (.ptr 5 0)) (N L vE (N (N L vc L) none L))) vf (N (N L (some (.ptr 9 0)) L) (some (.ptr 0 0)) (N L none (N L vE L)))) vD (N (N (N L (some (.ptr 8 0)) (N L vE L)) (some (.ptr 4 0)) (N L (some (.ptr 32 0)) L)) vB (N (N L (some (.ptr 17 0)) L) (some (.ptr 6 0)) L))) (44::[]) .skip .skip 0 .ret (0::(82::[])) (0::(1::(0::(1::(1::(1::(1::(1::[])))))))))
abbrev o0:Option (Zo S):=some (.loop 82 (N (N (N (N L (some (.ptr 9 0)) L) (some (.ptr 7 0)) (N L vE (N (N L vd L) none L))) vf (N (N L (some (.ptr 11 0)) L) (some (.ptr 0 0)) (N L none (N L vE L)))) vD (N (N (N L (some (.ptr 10 0)) (N L vE L)) (some (.ptr 6 0)) (N L (some (.ptr 34 0)) L)) vB (N (N L (some (.ptr 19 0)) L) (some (.ptr 8 0)) L))) (44::[]) .skip .skip 0 .ret (0::(82::[])) (0::(1::(0::(1::(1::(1::(1::(1::[])))))))))
abbrev o1I:Tr (Zo S):=N (N (N L oo L) none L) none L
abbrev o1H:Tr (Zo S):=N (N (N L oq L) none L) none L
abbrev v1G:Tr (TV S):=N L none (N (N L vD L) none L)
abbrev v1F:Tr (TV S):=N (N (N L vD L) none L) none L
abbrev o1E:Tr (Zo S):=N L none (N (N (N L oj L) oj L) none L)
abbrev v1D:Tr (TV S):=N (N (N L vD L) none L) none (N (N L vD L) vD L)
abbrev o1C:Tr (Zo S):=N (N L none (N (N (N L oy L) none L) none L)) oi L
abbrev v1B:Tr (TV S):=N (N L none (N L vD L)) none (N (N L vD L) none L)
abbrev o1A:Tr (Zo S):=N (N L none (N (N L none (N L oj L)) none L)) none L
abbrev o1z:Tr (Zo S):=N L none (N L none (N (N (N L oj L) none L) none L))
abbrev o1y:Tr (Zo S):=N (N (N L oe L) om (N L o5 L)) om (N (N L or L) oi L)
abbrev o1x:Tr (Zo S):=N (N (N L o8 L) om (N L oe L)) or (N (N L ov L) om L)
abbrev o1w:Tr (Zo S):=N (N (N L o9 L) or (N L om L)) oa (N (N L ov L) om L)
abbrev o1v:Tr (Zo S):=N (N (N L o7 L) or (N L om L)) oa (N (N L ov L) om L)
abbrev o1u:Tr (Zo S):=N L om (N L (some (.map (.int .i64) (.int .i64) [])) L)
abbrev v1t:Tr (TV S):=N (N L (some (.ptr 7 0)) L) vf (N L (some (.ptr 0 0)) L)
abbrev v1s:Tr (TV S):=N (N L (some (.ptr 5 0)) L) vf (N L (some (.ptr 0 0)) L)
abbrev o1r:Tr (Zo S):=N (N (N (N (N L ou L) ol L) none L) on (N (N L om L) none L)) ow L
abbrev o1q:Tr (Zo S):=N L none (N (N (N L ok L) op L) none (N (N (N L ot L) none L) none L))
abbrev o1p:Tr (Zo S):=N (N (N (N L oe L) oe L) om (N L o5 L)) om (N (N L or L) oi (N L ow L))
abbrev o1o:Tr (Zo S):=N (N (N (N L om L) oe L) om (N L o4 L)) ob (N (N L or L) oi (N L ow L))
abbrev o1n:Tr (Zo S):=N (N (N (N (N (N L os L) ou L) ol L) none L) on (N (N L om L) none L)) ow L
abbrev o1m:Tr (Zo S):=N (N (N L none (N L o2 L)) op L) or (N L none (N (N (N L ok L) op L) none L))
abbrev o1l:Tr (Zo S):=N (N (N L none (N L o0 L)) op L) or (N L none (N (N (N L ok L) op L) none L))
abbrev v1k:Tr (TV S):=N (N (N L (some (.rs 12 0)) L) (some (.ptr 1 0)) L) (some (.sl (.int .u16) [])) L
abbrev v1j:Tr (TV S):=N L none (N (N (N L vD L) (some (.ptr 1 0)) (N L vD L)) vB (N L (some (.ptr 2 0)) L))
abbrev o1i:Tr (Zo S):=N (N (N (N L om L) oe L) om (N (N (N (N L oe L) none L) none L) o6 L)) none (N (N L or L) oi L)
abbrev o1h:Tr (Zo S):=N (N L (some (.cells 42 [(.stc 22 (T.dflt 22))])) L) oi (N (N L none (N L (some (.row 30 (.st 21) [] 1 0)) L)) none L)
abbrev o1g:Tr (Zo S):=N (N (N (N (N L ou L) ol L) none L) on (N (N L om L) none L)) ow (N L none (N (N (N (N L ot L) none L) none L) none L))
abbrev v1f:Tr (TV S):=N (N v1G none L) none (N (N (N L vD L) (some (.ptr 1 0)) (N (N L vD L) none L)) vB (N L (some (.ptr 2 0)) L))
abbrev v1e:Tr (TV S):=N (N L none (N L none (N L none (N L vD L)))) none (N (N (N L (some (.ptr 3 0)) L) none L) none (N (N L (some (.ptr 33 0)) L) none (N L none (N L vD L))))
abbrev o1d:Tr (Zo S):=N (N (N (N (N (N (N L os L) ou L) ol L) none L) on (N (N L om L) none L)) ov L) om (N (N L none (N (N (N L ok L) op L) none L)) op (N L none (N (N L o3 L) none L)))
abbrev o1c:Tr (Zo S):=N (N (N (N (N (N (N L os L) ou L) ol L) none L) on (N (N L om L) none L)) ov L) om (N (N L none (N (N (N L ok L) op L) none L)) op (N L none (N (N L o1 L) none L)))
abbrev o1b:Tr (Zo S):=N (N (N (N (N (N L ou L) ol L) none L) on (N (N L om L) none L)) ov L) om (N (N L none (N (N (N L ok L) op L) none L)) op (N L none (N (N (N (N L os L) none L) o3 L) none L)))
abbrev o1a:Tr (Zo S):=N (N (N (N (N (N L ou L) ol L) none L) on (N (N L om L) none L)) ov L) om (N (N L none (N (N (N L ok L) op L) none L)) op (N L none (N (N (N (N L os L) none L) o1 L) none L)))
abbrev o19:Tr (Zo S):=N (N L none (N (N (N L (some (.row 9 .str [] 1 1)) L) none L) none L)) oi (N (N L none (N L none (N L oj L))) none (N L none (N (N (N L (some (.row 9 .str [] 0 0)) L) none L) none L)))
abbrev o18:Tr (Zo S):=N (N (N (N (N (N L ou L) ol L) none L) on (N (N L om L) none L)) ov L) om (N o1q op (N L none (N (N L o3 L) none L)))
abbrev o17:Tr (Zo S):=N (N (N (N (N (N L ou L) ol L) none L) on (N (N L om L) none L)) ov L) om (N o1q op (N L none (N (N L o1 L) none L)))
abbrev o16:Tr (Zo S):=N (N (N (N (N L none (N (N L os L) oh L)) none L) om (N (N (N L ou L) none L) none L)) oe (N (N (N L none (N L oe L)) oe L) or (N (N L op L) none L))) om (N (N L oe (N L none (N L oh L))) o4 L)
abbrev o15:Tr (Zo S):=N (N (N L oe (N L none (N L oh L))) o9 L) or (N (N (N (N L none (N L oe L)) oe L) or (N (N L op L) none L)) om (N (N (N (N L ou L) none L) none L) none (N L none (N (N L oh L) none (N L ot L)))))
abbrev o14:Tr (Zo S):=N (N (N L oe (N L none (N L oh L))) o7 L) or (N (N (N (N L none (N L oe L)) oe L) or (N (N L op L) none L)) om (N (N (N (N L ou L) none L) none L) none (N L none (N (N L oh L) none (N L ot L)))))
abbrev o13:Tr (Zo S):=N (N (N L oe (N L none (N L oh L))) o9 L) or (N (N (N (N L none (N L oe L)) oe L) or (N (N L op L) none L)) om (N (N (N (N L ou L) none L) none L) none (N L none (N (N (N L os L) oh L) none L))))
abbrev o12:Tr (Zo S):=N (N (N L oe (N L none (N L oh L))) o7 L) or (N (N (N (N L none (N L oe L)) oe L) or (N (N L op L) none L)) om (N (N (N (N L ou L) none L) none L) none (N L none (N (N (N L os L) oh L) none L))))
abbrev v11:Tr (TV S):=N (N (N L (some (.ptr 44 0)) L) none (N (N L none (N L vD L)) (some (.ptr 57 0)) L)) (some (.yld 48)) (N (N (N L none (N L (some (.rs 71 0)) L)) none L) (some (.ptr 43 0)) (N (N L none (N L vD L)) vD L))
abbrev v10:Tr (TV S):=N (N (N L (some (.ptr 42 0)) L) none (N (N L none (N L vD L)) (some (.ptr 55 0)) L)) (some (.yld 46)) (N (N (N L none (N L (some (.rs 69 0)) L)) none L) (some (.ptr 41 0)) (N (N L none (N L vD L)) vD L))
abbrev oZ:Tr (Zo S):=N (N (N (N (N (N (N L ot L) none L) none (N L oh L)) none L) om (N (N (N L ou L) none L) none L)) oe (N (N (N L none (N L oe L)) oe L) or (N (N L op L) none L))) om (N (N L oe (N L none (N L oh L))) o4 L)
abbrev oY:Tr (Zo S):=N (N (N (N (N (N L ou L) ol L) none L) on (N (N L om L) none L)) ov (N L none (N (N (N (N L ot L) none L) none L) none L))) om (N (N L none (N (N (N L ok L) op L) none L)) op (N L none (N (N L o3 L) none L)))
abbrev oX:Tr (Zo S):=N (N (N (N (N (N L ou L) ol L) none L) on (N (N L om L) none L)) ov (N L none (N (N (N (N L ot L) none L) none L) none L))) om (N (N L none (N (N (N L ok L) op L) none L)) op (N L none (N (N L o1 L) none L)))
abbrev oW:Tr (Zo S):=N (N (N (N (N L none (N L oh L)) none L) om (N (N (N L ou L) none L) none L)) oe (N (N (N L none (N L oe L)) oe L) or (N (N L op L) none L))) om (N (N (N L none (N (N (N L os L) none L) none L)) oe (N L none (N L oh L))) o4 L)
abbrev oV:Tr (Zo S):=N (N (N (N L none (N (N (N L os L) none L) none L)) oe (N L none (N L oh L))) o9 L) or (N (N (N (N L none (N L oe L)) oe L) or (N (N L op L) none L)) om (N (N (N (N L ou L) none L) none L) none (N L none (N (N L oh L) none L))))
abbrev oU:Tr (Zo S):=N (N (N (N L none (N (N (N L os L) none L) none L)) oe (N L none (N L oh L))) o7 L) or (N (N (N (N L none (N L oe L)) oe L) or (N (N L op L) none L)) om (N (N (N (N L ou L) none L) none L) none (N L none (N (N L oh L) none L))))
abbrev vT:Tr (TV S):=N (N (N (N L none (N L none (N (N L vB L) none L))) none L) none (N (N L none v1G) none L)) none (N (N (N L vD v1G) (some (.ptr 1 0)) (N L vD L)) vB (N L (some (.ptr 2 0)) L))
abbrev oS:Tr (Zo S):=N (N (N (N (N L none (N L oh L)) none L) om (N (N (N L ou L) none L) none L)) oe (N (N (N L none (N L oe L)) oe L) or (N (N L op L) none L))) om (N (N L oe (N L none (N L oh L))) o4 (N L none (N (N (N (N L ot L) none L) none L) none L)))
abbrev oR:Tr (Zo S):=N (N (N L oe (N L none (N L oh L))) o9 (N L none (N (N (N (N L ot L) none L) none L) none L))) or (N (N (N (N L none (N L oe L)) oe L) or (N (N L op L) none L)) om (N (N (N (N L ou L) none L) none L) none (N L none (N (N L oh L) none L))))
abbrev oQ:Tr (Zo S):=N (N (N L oe (N L none (N L oh L))) o7 (N L none (N (N (N (N L ot L) none L) none L) none L))) or (N (N (N (N L none (N L oe L)) oe L) or (N (N L op L) none L)) om (N (N (N (N L ou L) none L) none L) none (N L none (N (N L oh L) none L))))
abbrev vP:Tr (TV S):=N (N (N v1G none (N (N L vD L) none L)) none (N (N L vD L) none L)) none (N (N (N L vD (N (N L vD L) none L)) (some (.ptr 1 0)) (N (N L vD L) none L)) vB (N L (some (.ptr 2 0)) (N (N (N L vB L) none L) none L)))
abbrev oO:Tr (Zo S):=N (N (N (N (N (N L none (N L oh L)) none L) om (N (N (N L ou L) none L) none L)) oe (N (N (N L none (N L oe L)) oe L) or (N (N L op L) none L))) om (N (N L oe (N L none (N L oh L))) o4 L)) ob (N o1m oi o1r)
abbrev oN:Tr (Zo S):=N (N (N (N (N (N L none (N L oh L)) none L) om (N (N (N L ou L) none L) none L)) oe (N (N (N L none (N L oe L)) oe L) or (N (N L op L) none L))) om (N (N L oe (N L none (N L oh L))) o4 L)) ob (N o1l oi o1r)
abbrev oM:Tr (Zo S):=N (N (N (N L oe (N L none (N L oh L))) o9 L) or (N (N (N (N L none (N L oe L)) oe L) or (N (N L op L) none L)) om (N (N (N (N L ou L) none L) none L) none (N L none (N (N L oh L) none L))))) oa (N (N (N (N (N (N L ou L) ol L) none L) on (N (N L om L) none L)) ov L) om (N (N L none (N (N (N L ok L) op L) none L)) op (N L none (N (N L o3 L) none L))))
abbrev oL:Tr (Zo S):=N (N (N (N L oe (N L none (N L oh L))) o7 L) or (N (N (N (N L none (N L oe L)) oe L) or (N (N L op L) none L)) om (N (N (N (N L ou L) none L) none L) none (N L none (N (N L oh L) none L))))) oa (N (N (N (N (N (N L ou L) ol L) none L) on (N (N L om L) none L)) ov L) om (N (N L none (N (N (N L ok L) op L) none L)) op (N L none (N (N L o3 L) none L))))
abbrev oK:Tr (Zo S):=N (N (N (N L oe (N L none (N L oh L))) o9 L) or (N (N (N (N L none (N L oe L)) oe L) or (N (N L op L) none L)) om (N (N (N (N L ou L) none L) none L) none (N L none (N (N L oh L) none L))))) oa (N (N (N (N (N (N L ou L) ol L) none L) on (N (N L om L) none L)) ov L) om (N (N L none (N (N (N L ok L) op L) none L)) op (N L none (N (N L o1 L) none L))))
abbrev oJ:Tr (Zo S):=N (N (N (N L oe (N L none (N L oh L))) o7 L) or (N (N (N (N L none (N L oe L)) oe L) or (N (N L op L) none L)) om (N (N (N (N L ou L) none L) none L) none (N L none (N (N L oh L) none L))))) oa (N (N (N (N (N (N L ou L) ol L) none L) on (N (N L om L) none L)) ov L) om (N (N L none (N (N (N L ok L) op L) none L)) op (N L none (N (N L o1 L) none L))))
abbrev oI:Tr (Zo S):=N (N (N (N L om (N (N (N L ou L) none L) none L)) oe (N (N L oe L) or (N (N L op L) none L))) om (N (N L oe (N L none (N L oh L))) o4 L)) ob (N (N (N (N L none (N L (some (.loop 82 (N (N (N (N L (some (.ptr 9 0)) L) (some (.ptr 7 0)) (N L vE (N (N L vd L) none L))) vf (N (N L (some (.ptr 11 0)) L) (some (.ptr 0 0)) (N L none (N L vE L)))) vD (N (N (N L (some (.ptr 10 0)) (N L vE L)) (some (.ptr 6 0)) (N L (some (.ptr 34 0)) L)) vB (N (N L (some (.ptr 19 0)) L) (some (.ptr 8 0)) L))) (44::[]) .skip .skip 0 .normal (0::(82::[])) (0::(1::(0::(1::(1::(1::(1::(1::[])))))))))) L)) op L) or (N L none (N (N L op L) none L))) oi o1r)
abbrev oH:Tr (Zo S):=N (N (N (N L oe (N L none (N L oh L))) o7 L) or (N (N (N L oe L) or (N (N L op L) none L)) om (N (N (N (N L ou L) none L) none L) none L))) oa (N (N (N (N (N (N L ou L) ol L) none L) on (N (N L om L) none L)) ov L) om (N (N L none (N (N L op L) none L)) op (N L none (N (N L (some (.loop 82 (N (N (N (N L (some (.ptr 7 0)) L) (some (.ptr 5 0)) (N L vE (N (N L vc L) none L))) vf (N (N L (some (.ptr 9 0)) L) (some (.ptr 0 0)) (N L none (N L vE L)))) vD (N (N (N L (some (.ptr 8 0)) (N L vE L)) (some (.ptr 4 0)) (N L (some (.ptr 32 0)) L)) vB (N (N L (some (.ptr 17 0)) L) (some (.ptr 6 0)) L))) (44::[]) .skip .skip 0 .normal (0::(82::[])) (0::(1::(0::(1::(1::(1::(1::(1::[])))))))))) L) none L))))
abbrev oG:Tr (Zo S):=N (N (N (N L om (N (N (N L ou L) none L) none L)) oe (N (N L oe L) or (N (N L op L) none L))) om (N (N L oe (N L none (N L oh L))) o4 L)) ob (N (N (N (N L none (N L (some (.loop 82 (N (N (N (N L (some (.ptr 9 0)) L) (some (.ptr 7 0)) (N L vE (N (N L vd L) none L))) vf (N (N L (some (.ptr 11 0)) L) (some (.ptr 0 0)) (N L none (N L vE L)))) vD (N (N (N L (some (.ptr 10 0)) (N L vE L)) (some (.ptr 6 0)) (N L (some (.ptr 34 0)) L)) (some .sl0) (N (N L (some (.ptr 19 0)) L) (some (.ptr 8 0)) L))) (44::[]) .skip .skip 0 .normal (0::(82::[])) (0::(1::(0::(1::(1::(1::(1::(1::[])))))))))) L)) op L) or (N L none (N (N L op L) none L))) oi o1r)
abbrev oF:Tr (Zo S):=N (N (N (N L oe (N L none (N L oh L))) o7 L) or (N (N (N L oe L) or (N (N L op L) none L)) om (N (N (N (N L ou L) none L) none L) none L))) oa (N (N (N (N (N (N L ou L) ol L) none L) on (N (N L om L) none L)) ov L) om (N (N L none (N (N L op L) none L)) op (N L none (N (N L (some (.loop 82 (N (N (N (N L (some (.ptr 7 0)) L) (some (.ptr 5 0)) (N L vE (N (N L vc L) none L))) vf (N (N L (some (.ptr 9 0)) L) (some (.ptr 0 0)) (N L none (N L vE L)))) vD (N (N (N L (some (.ptr 8 0)) (N L vE L)) (some (.ptr 4 0)) (N L (some (.ptr 32 0)) L)) (some .sl0) (N (N L (some (.ptr 17 0)) L) (some (.ptr 6 0)) L))) (44::[]) .skip .skip 0 .normal (0::(82::[])) (0::(1::(0::(1::(1::(1::(1::(1::[])))))))))) L) none L))))
def q0 {R:Type}:Prs S R:=Zk4
theorem q1 {R:Type}:Z8k X (q0 (R:=R)):=Zk5 X
def q2:List (Nat×F7 S):=[]
theorem q3:Z95 X (q2):=trivial
abbrev q4 {R:Type}:Z21 S R:=Zj1
theorem q5 {R:Type}:Z2e X (q4 (R:=R)):=ZjC X
def q6:Key:=⟨[115,2,1,77,2,1,51],115,none,[0,0,1,0,1],0,17⟩
def q7:StT S:=⟨(N (N (N (N L vD L) none L) (some (.fn (.func 78) [] [(.ptr 0 0),(.ptr 1 0)])) L) (some (.sl (.int .i64) [])) v1F),(N (N L op L) op L),17⟩
def q8:Way S:=⟨.ret,⟨v1G,(N (N L op L) op L),38⟩,[.int,.int,.int]⟩
def q9:Way S:=⟨(.exit 0),⟨L,(N (N L op L) op L),18⟩,[.int,.int]⟩
def qa:LE S:=⟨q6,q7,[.int,(.lst (.int .i64)),.int,.int,.int],[q8,q9]⟩
def qb {T:Type} (x:tqA) (k:((Int×Int×Int)⊕(Int×Int))->T):(Int⊕Unit)->T:=Sum.elim (fun y0=>k (.inl (y0,x.u3,x.v4))) (fun y1=>k (.inr (x.u3,x.v4)))
def qc (x:tqA) (v:Int):tqA:=(x.1,x.2.1,v,x.u3,x.v4)
theorem qd (x:tqA):LE.step X qa q2 q0 q4 12 x=WT x.1 x.2.1 x.u3 x.v4 x.u2 (fun w=>Sum.inl (qc x w)) (fun o=>Sum.inr (qb x id o)):=by kernel_rfl
def qe {R:Type}:Z21 S R:=LE.ls X qa (fun x k=>(X3s x.1 x.2.1 x.u3 x.v4 x.u2).bind (qb x k)) q4
theorem qf {R:Type}:Z2e X (qe (R:=R)):=Zke xok q3 (e:=qa) q1 q5 (st:=fun(x:tqA)=>WM x.1 x.2.1 x.u3 x.v4) (prj:=fun(x:tqA)=>x.u2) (emb:=qc) qb (fun x=>(qd x).trans (by unfold WM WT;simp only[Zk2,ZjT,Zk3,Option.map_some,Option.map_none];rfl)) q5
theorem qg (x0 x1:Int) (x2:List Int):Zkg X q2 [(.int .i64),(.int .i64),(.sl (.int .i64))] [.bool] q0 qe 12 51 (x0,x1,x2,())=X1D x0 x1 x2:=by kernel_rfl
def qh:F7 S:=⟨[(.int .i64),(.int .i64),(.sl (.int .i64))],[.bool],fun xs=>Wn xs.1 xs.2.1 xs.u2⟩
theorem qi:Zav X 51 qh:=Zkd (Zkc xok q3 q1 qf 12 51) fun xs _ h=>((qg xs.1 xs.2.1 xs.u2).trans (X41 xs.1 xs.2.1 xs.u2).symm).trans h
def qn:Key:=⟨[98],98,none,[0,0,1,0,1,1],0,4⟩
def qo:StT S:=⟨(N (N (N (N L (some (.iter 3)) L) (some (.int .i32 0)) L) none L) vx L),o1H,4⟩
def qp:Way S:=⟨.ret,⟨(N L none (N L vE L)),o1H,23⟩,[.bool,.str,.nat]⟩
def qq:Way S:=⟨(.exit 0),⟨(N (N (N L (some (.int .i32 0)) L) none L) vx L),o1H,6⟩,[.int,.str,.str,.nat]⟩
def qr:LE S:=⟨qn,qo,[.int,.str,.str,.nat],[qp,qq]⟩
def qs {T:Type} (x:tqC) (k:((Bool×ByteArray×Nat)⊕tqC)->T):((Bool×Nat)⊕(Int×Nat))->T:=Sum.elim (fun y0=>k (.inl (y0.1,x.u2,y0.2))) (fun y1=>k (.inr (y1.1,x.2.1,x.u2,y1.2)))
def qt (x:tqC) (v:(Int×Nat)):tqC:=(v.1,x.2.1,x.u2,v.2)
theorem qu (x:tqC):LE.step X qr q2 q0 q4 12 x=X1o x.2.1 x.u2 x.1 x.v3 (fun w=>Sum.inl (qt x w)) (fun o=>Sum.inr (qs x id o)):=by kernel_rfl
def qv {R:Type}:Z21 S R:=LE.ls X qr (fun x k=>(X3P x.2.1 x.u2 (x.1,x.v3)).bind (qs x k)) q4
theorem qw {R:Type}:Z2e X (qv (R:=R)):=Zke xok q3 (e:=qr) q1 q5 (st:=fun(x:tqC)=>X1m x.2.1 x.u2) (prj:=fun(x:tqC)=>(x.1,x.v3)) (emb:=qt) qs (fun x=>(qu x).trans (by unfold X1m X1o;simp only[Zk2,ZjT,Zk3,Option.map_some,Option.map_none];rfl)) q5
theorem qx (x0:ByteArray):Zkg X q2 [.str] [.bool] q0 qv 12 98 (x0,())=X46 x0:=by kernel_rfl
def qy:F7 S:=⟨[.str],[.bool],fun xs=>X46 xs.1⟩
theorem qz:Zav X 98 qy:=Zkd (Zkc xok q3 q1 qw 12 98) fun xs _ h=>(qx xs.1).trans h
def qA:List (Nat×F7 S):=[(51,qh)]
theorem qB:Z95 X (qA):=⟨qi,trivial⟩
theorem qE (x0:CoRecord) (x1:Zr):Zkg X qA [(.st 20),(.st 21)] [(.int .i64)] q0 q4 12 57 (x0,x1,())=X2y x0 x1:=by kernel_rfl
def qF:F7 S:=⟨[(.st 20),(.st 21)],[(.int .i64)],fun xs=>X3n xs.1 xs.2.1⟩
theorem qG:Zav X 57 qF:=Zkd (Zkc xok qB q1 q5 12 57) fun xs _ h=>((qE xs.1 xs.2.1).trans (X4O xs.1 xs.2.1).symm).trans h
def qH:StT S:=⟨(N (N L (some (.fn (.func 97) [] [(.ptr 0 0)])) L) (some (.sl (.st 18) [])) L),(N L oi L),1⟩
def qI:Way S:=⟨.ret,⟨(N L vg L),(N L oi L),1⟩,[.int,.int,(.st 20)]⟩
def qJ:PE S:=⟨96,2,qH,[(.lst (.st 18)),(.st 20)],[qI]⟩
def qK:List (Nat×F7 S):=[(51,qh),(98,qy),(57,qF)]
theorem qL:Z95 X qK:=⟨qi,qz,qG,trivial⟩
def qO:Key:=⟨[125,2,1,99,5,3,97,3,4,96],125,none,[0,0,1,0,1],0,42⟩
def qP:StT S:=⟨(N (N (N (N L vD L) none L) (some (.fn (.func 100) [] [(.ptr 18 0)])) L) (some (.sl (.st 18) [])) v1F),o1z,42⟩
def qQ:Way S:=⟨.ret,⟨v1G,(N o1A none (N L none (N (N (N L oj L) none L) none L))),61⟩,[.int,(.st 18),(.st 18)]⟩
def qR:Way S:=⟨(.exit 0),⟨L,o1z,43⟩,[(.st 18)]⟩
def qS:LE S:=⟨qO,qP,[.int,(.lst (.st 18)),.int,(.st 18)],[qQ,qR]⟩
def qT {T:Type} (x:tqu) (k:((Int×Zm×Zm)⊕Zm)->T):((Int×Zm)⊕Unit)->T:=Sum.elim (fun y0=>k (.inl (y0.1,y0.2,x.v3))) (fun y1=>k (.inr x.v3))
def qU (x:tqu) (v:Int):tqu:=(x.1,x.2.1,v,x.v3)
theorem qV (x:tqu):LE.step X qS qK q0 q4 12 x=Xk x.1 x.2.1 x.v3 x.u2 (fun w=>Sum.inl (qU x w)) (fun o=>Sum.inr (qT x id o)):=by kernel_rfl
def qW {R:Type}:Z21 S R:=LE.ls X qS (fun x k=>(Xl x.1 x.2.1 x.v3 x.u2).bind (qT x k)) q4
theorem qX {R:Type}:Z2e X (qW (R:=R)):=Zke xok qL (e:=qS) q1 q5 (st:=fun(x:tqu)=>X9 x.1 x.2.1 x.v3) (prj:=fun(x:tqu)=>x.u2) (emb:=qU) qT (fun x=>(qV x).trans (by unfold X9 Xk;simp only[Zk2,ZjT,Zk3,Option.map_some,Option.map_none];rfl)) q5
def qY:Key:=⟨[96],96,none,[0,0,1,0,1],0,6⟩
def qZ:StT S:=⟨(N (N (N L none (N L vD L)) (some (.fn (.func 97) [] [(.ptr 0 0)])) (N (N L (some (.sl (.st 18) [])) L) none L)) none v1G),(N L oi L),6⟩
def q10:Way S:=⟨.ret,⟨v1B,(N L oi o1E),32⟩,[.int,.int,(.st 20),(.st 18),(.st 18)]⟩
def q11:Way S:=⟨.ret,⟨v1B,(N o1A oi o1E),68⟩,[.int,.int,(.st 18),(.st 20),(.st 18),(.st 18)]⟩
def q12:Way S:=⟨.ret,⟨v1B,(N (N (N (N o1I none L) none (N (N L none (N L oj L)) none L)) none L) oi o1E),82⟩,[.int,.int,(.lst (.int .i64)),(.st 18),(.st 20),(.st 18),(.st 18)]⟩
def q13:Way S:=⟨.ret,⟨v1B,(N (N (N (N o1I none o1I) none (N (N L none (N L oj L)) none L)) none L) oi o1E),82⟩,[.int,.int,(.lst (.int .i64)),(.lst (.int .i64)),(.st 18),(.st 20),(.st 18),(.st 18)]⟩
def q14:Way S:=⟨.ret,⟨v1B,(N L oi (N L none (N (N (N L oj L) oj L) none (N L none (N (N L oo L) none L))))),65⟩,[.int,.int,(.st 20),(.st 18),(.st 18),(.lst (.int .i64))]⟩
def q15:Way S:=⟨.ret,⟨v1B,(N L oi (N L none (N (N (N L oj L) oj L) none (N (N L none (N L oo L)) none (N (N L oo L) none L))))),65⟩,[.int,.int,(.st 20),(.st 18),(.st 18),(.lst (.int .i64)),(.lst (.int .i64))]⟩
def q16:Way S:=⟨(.exit 0),⟨L,(N L oi L),7⟩,[(.st 20)]⟩
def q17:LE S:=⟨qY,qZ,[.int,(.lst (.st 18)),.int,(.st 20)],[q10,q11,q12,q13,q14,q15,q16]⟩
def q18 {T:Type} (x:tqv) (k:((Int×Int×CoRecord×Zm×Zm)⊕(Int×Int×Zm×CoRecord×Zm×Zm)⊕(Int×Int×(List Int)×Zm×CoRecord×Zm×Zm)⊕(Int×Int×(List Int)×(List Int)×Zm×CoRecord×Zm×Zm)⊕(Int×Int×CoRecord×Zm×Zm×(List Int))⊕(Int×Int×CoRecord×Zm×Zm×(List Int)×(List Int))⊕CoRecord)->T):((Int×Int×Zm×Zm)⊕(Int×Int×Zm×Zm×Zm)⊕(Int×Int×(List Int)×Zm×Zm×Zm)⊕(Int×Int×(List Int)×(List Int)×Zm×Zm×Zm)⊕(Int×Int×Zm×Zm×(List Int))⊕(Int×Int×Zm×Zm×(List Int)×(List Int))⊕Unit)->T:=Sum.elim (fun y0=>k (.inl (y0.1,y0.2.1,x.v3,y0.u2,y0.v3))) (Sum.elim (fun y1=>k (.inr (.inl (y1.1,y1.2.1,y1.u2,x.v3,y1.u3,y1.v4)))) (Sum.elim (fun y2=>k (.inr (.inr (.inl (y2.1,y2.2.1,y2.u2,y2.u3,x.v3,y2.u4,y2.v5))))) (Sum.elim (fun y3=>k (.inr (.inr (.inr (.inl (y3.1,y3.2.1,y3.u2,y3.u3,y3.u4,x.v3,y3.u5,y3.v6)))))) (Sum.elim (fun y4=>k (.inr (.inr (.inr (.inr (.inl (y4.1,y4.2.1,x.v3,y4.u2,y4.u3,y4.v4))))))) (Sum.elim (fun y5=>k (.inr (.inr (.inr (.inr (.inr (.inl (y5.1,y5.2.1,x.v3,y5.u2,y5.u3,y5.u4,y5.v5)))))))) (fun y6=>k (.inr (.inr (.inr (.inr (.inr (.inr x.v3))))))))))))
def q19 (x:tqv) (v:Int):tqv:=(v,x.2.1,x.u2,x.v3)
theorem q1a (x:tqv):LE.step X q17 qK q0 qW 12 x=Xj x.2.1 x.u2 x.v3 x.1 (fun w=>Sum.inl (q19 x w)) (fun o=>Sum.inr (q18 x id o)):=by kernel_rfl
def q1b {R:Type}:Z21 S R:=LE.ls X q17 (fun x k=>(Wq x.2.1 x.u2 x.v3 x.1).bind (q18 x k)) qW
theorem q1c {R:Type}:Z2e X (q1b (R:=R)):=Zke xok qL (e:=q17) q1 qX (st:=fun(x:tqv)=>Xo x.2.1 x.u2 x.v3) (prj:=fun(x:tqv)=>x.1) (emb:=q19) q18 (fun x=>(q1a x).trans (by unfold Xo Xj;simp only[Zk2,ZjT,Zk3,Option.map_some,Option.map_none];rfl)) qX
theorem q1d (x:((List Zm)×CoRecord)):PE.step X qJ qK q0 q1b 12 x=Xr x.1 x.2:=by kernel_rfl
theorem q1e:ZcD X qJ XW:=Zkf (ZjG xok qL q1 q1c 12) fun x _ h=>((q1d x).trans (X1Q x).symm).trans h
def q1f {R:Type}:Prs S R:=PE.ps X qJ (fun x q=>(XW x).bind q) q0
theorem q1g {R:Type}:Z8k X (q1f (R:=R)):=Zk8 (e:=qJ) q1e q1
def q1h:StT S:=⟨(N (N L (some (.fn (.func 102) [] [(.ptr 0 0)])) L) vz L),(N L oi L),1⟩
def q1j:PE S:=⟨101,2,q1h,[(.lst (.st 19)),(.st 20)],[qI]⟩
def q1o:Key:=⟨[101],101,none,[0,0,1,0,1],0,6⟩
def q1p:StT S:=⟨(N (N (N L none (N L vD L)) (some (.fn (.func 102) [] [(.ptr 0 0)])) (N (N L vz L) none L)) none v1G),(N L oi L),6⟩
def q1q:Way S:=⟨.ret,⟨v1B,(N L oi (N L none (N (N (N L ok L) ok L) none L))),30⟩,[.int,.int,(.st 20),(.st 19),(.st 19)]⟩
def q1s:LE S:=⟨q1o,q1p,[.int,(.lst (.st 19)),.int,(.st 20)],[q1q,q16]⟩
def q1t {T:Type} (x:tqw) (k:((Int×Int×CoRecord×Zq×Zq)⊕CoRecord)->T):((Int×Int×Zq×Zq)⊕Unit)->T:=Sum.elim (fun y0=>k (.inl (y0.1,y0.2.1,x.v3,y0.u2,y0.v3))) (fun y1=>k (.inr x.v3))
def q1u (x:tqw) (v:Int):tqw:=(v,x.2.1,x.u2,x.v3)
theorem q1v (x:tqw):LE.step X q1s qK q1f q4 12 x=Xm x.2.1 x.u2 x.v3 x.1 (fun w=>Sum.inl (q1u x w)) (fun o=>Sum.inr (q1t x id o)):=by kernel_rfl
def q1w {R:Type}:Z21 S R:=LE.ls X q1s (fun x k=>(WA x.2.1 x.u2 x.v3 x.1).bind (q1t x k)) q4
theorem q1x {R:Type}:Z2e X (q1w (R:=R)):=Zke xok qL (e:=q1s) q1g q5 (st:=fun(x:tqw)=>Xq x.2.1 x.u2 x.v3) (prj:=fun(x:tqw)=>x.1) (emb:=q1u) q1t (fun x=>(q1v x).trans (by unfold Xq Xm;simp only[Zk2,ZjT,Zk3,Option.map_some,Option.map_none];rfl)) q5
theorem q1y (x:((List Zq)×CoRecord)):PE.step X q1j qK q1f q1w 12 x=Xu x.1 x.2:=by kernel_rfl
theorem q1z:ZcD X q1j W6:=Zkf (ZjG xok qL q1g q1x 12) fun x _ h=>((q1y x).trans (X24 x).symm).trans h
def q1A {R:Type}:Prs S R:=PE.ps X q1j (fun x q=>(W6 x).bind q) q1f
theorem q1B {R:Type}:Z8k X (q1A (R:=R)):=Zk8 (e:=q1j) q1z q1g
def q1C:StT S:=⟨(N (N L (some (.fn (.func 103) [] [(.ptr 0 0)])) L) vz L),(N L op L),1⟩
def q1D:Way S:=⟨.ret,⟨(N L vg L),(N L op L),1⟩,[.int,.int,.int]⟩
def q1E:PE S:=⟨101,2,q1C,[(.lst (.st 19)),.int],[q1D]⟩
def q1K:StT S:=⟨(N (N (N L none (N L vD L)) (some (.fn (.func 103) [] [(.ptr 0 0)])) (N (N L vz L) none L)) none v1G),(N L op L),6⟩
def q1L:Way S:=⟨.ret,⟨v1B,(N L op (N L none (N (N (N L ok L) ok L) none L))),38⟩,[.int,.int,.int,(.st 19),(.st 19)]⟩
def q1M:Way S:=⟨(.exit 0),⟨L,(N L op L),7⟩,[.int]⟩
def q1N:LE S:=⟨q1o,q1K,[.int,(.lst (.st 19)),.int,.int],[q1L,q1M]⟩
def q1O {T:Type} (x:tqE) (k:((Int×Int×Int×Zq×Zq)⊕Int)->T):((Int×Int×Int×Zq×Zq)⊕Int)->T:=Sum.elim (fun y0=>k (.inl (y0.1,y0.2.1,y0.u2,y0.u3,y0.v4))) (fun y1=>k (.inr y1))
def q1P (x:tqE) (v:(Int×Int)):tqE:=(v.1,x.2.1,x.u2,v.2)
theorem q1Q (x:tqE):LE.step X q1N qK q1A q4 12 x=Xn x.2.1 x.u2 x.1 x.v3 (fun w=>Sum.inl (q1P x w)) (fun o=>Sum.inr (q1O x id o)):=by kernel_rfl
def q1R {R:Type}:Z21 S R:=LE.ls X q1N (fun x k=>(WB x.2.1 x.u2 (x.1,x.v3)).bind (q1O x k)) q4
theorem q1S {R:Type}:Z2e X (q1R (R:=R)):=Zke xok qL (e:=q1N) q1B q5 (st:=fun(x:tqE)=>X7 x.2.1 x.u2) (prj:=fun(x:tqE)=>(x.1,x.v3)) (emb:=q1P) q1O (fun x=>(q1Q x).trans (by unfold X7 Xn;simp only[Zk2,ZjT,Zk3,Option.map_some,Option.map_none];rfl)) q5
theorem q1T (x:((List Zq)×Int)):PE.step X q1E qK q1A q1R 12 x=Xv x.1 x.2:=by kernel_rfl
theorem q1U:ZcD X q1E W7:=Zkf (ZjG xok qL q1B q1S 12) fun x _ h=>((q1T x).trans (X26 x).symm).trans h
def q1V {R:Type}:Prs S R:=PE.ps X q1E (fun x q=>(W7 x).bind q) q1A
theorem q1W {R:Type}:Z8k X (q1V (R:=R)):=Zk8 (e:=q1E) q1U q1B
theorem q1Y:Z95 X (qK):=⟨qi,qz,qG,trivial⟩
theorem q21 (x0:CoRecord):Zkg X qK [(.st 20)] [(.int .i64),(.int .i64),(.int .i64)] q1V q4 12 65 (x0,())=X2k x0:=by kernel_rfl
def q22:F7 S:=⟨[(.st 20)],[(.int .i64),(.int .i64),(.int .i64)],fun xs=>X3Q xs.1⟩
theorem q23:Zav X 65 q22:=Zkd (Zkc xok q1Y q1W q5 12 65) fun xs _ h=>((q21 xs.1).trans (X4m xs.1).symm).trans h
def q24:StT S:=⟨(N (N L (some (.fn (.func 90) [] [(.ptr 0 0)])) L) vA L),(N L oi L),1⟩
def q26:PE S:=⟨89,2,q24,[(.lst (.st 21)),(.st 20)],[qI]⟩
def q27:List (Nat×F7 S):=[(65,q22),(57,qF)]
theorem q28:Z95 X q27:=⟨q23,qG,trivial⟩
def q2b:Key:=⟨[89],89,none,[0,0,1,0,1],0,6⟩
def q2c:StT S:=⟨(N (N (N L none (N L vD L)) (some (.fn (.func 90) [] [(.ptr 0 0)])) (N (N L vA L) none L)) none v1G),(N L oi L),6⟩
def q2d:Way S:=⟨.ret,⟨v1B,(N L oi (N L none (N (N (N L ol L) ol L) none L))),30⟩,[.int,.int,(.st 20),(.st 21),(.st 21)]⟩
def q2f:LE S:=⟨q2b,q2c,[.int,(.lst (.st 21)),.int,(.st 20)],[q2d,q16]⟩
def q2g {T:Type} (x:tqx) (k:((Int×Int×CoRecord×Zr×Zr)⊕CoRecord)->T):((Int×Int×Zr×Zr)⊕Unit)->T:=Sum.elim (fun y0=>k (.inl (y0.1,y0.2.1,x.v3,y0.u2,y0.v3))) (fun y1=>k (.inr x.v3))
def q2h (x:tqx) (v:Int):tqx:=(v,x.2.1,x.u2,x.v3)
theorem q2i (x:tqx):LE.step X q2f q27 q1V q4 12 x=Xp x.2.1 x.u2 x.v3 x.1 (fun w=>Sum.inl (q2h x w)) (fun o=>Sum.inr (q2g x id o)):=by kernel_rfl
def q2j {R:Type}:Z21 S R:=LE.ls X q2f (fun x k=>(WI x.2.1 x.u2 x.v3 x.1).bind (q2g x k)) q4
theorem q2k {R:Type}:Z2e X (q2j (R:=R)):=Zke xok q28 (e:=q2f) q1W q5 (st:=fun(x:tqx)=>Xs x.2.1 x.u2 x.v3) (prj:=fun(x:tqx)=>x.1) (emb:=q2h) q2g (fun x=>(q2i x).trans (by unfold Xs Xp;simp only[Zk2,ZjT,Zk3,Option.map_some,Option.map_none];rfl)) q5
theorem q2l (x:((List Zr)×CoRecord)):PE.step X q26 q27 q1V q2j 12 x=XG x.1 x.2:=by kernel_rfl
theorem q2m:ZcD X q26 Wc:=Zkf (ZjG xok q28 q1W q2k 12) fun x _ h=>((q2l x).trans (X2m x).symm).trans h
def q2n {R:Type}:Prs S R:=PE.ps X q26 (fun x q=>(Wc x).bind q) q1V
theorem q2o {R:Type}:Z8k X (q2n (R:=R)):=Zk8 (e:=q26) q2m q1W
theorem q2q:Z95 X (q27):=⟨q23,qG,trivial⟩
theorem q2t (x0:CoRecord) (x1:List Zr):Zkg X q27 [(.st 20),(.sl (.st 21))] [(.int .i64),(.int .i64)] q2n q4 12 60 (x0,x1,())=X16 x0 x1:=by kernel_rfl
def q2u:F7 S:=⟨[(.st 20),(.sl (.st 21))],[(.int .i64),(.int .i64)],fun xs=>X2S xs.1 xs.2.1⟩
theorem q2v:Zav X 60 q2u:=Zkd (Zkc xok q2q q2o q5 12 60) fun xs _ h=>((q2t xs.1 xs.2.1).trans (X3D xs.1 xs.2.1).symm).trans h
def q2w:List (Nat×F7 S):=[(60,q2u)]
theorem q2x:Z95 X (q2w):=⟨q2v,trivial⟩
theorem q2A (x0:CoRecord) (x1:List Zr):Zkg X q2w [(.st 20),(.sl (.st 21))] [(.st 25),(.int .i64)] q2n q4 12 37 (x0,x1,())=X2l x0 x1:=by kernel_rfl
def q2B:F7 S:=⟨[(.st 20),(.sl (.st 21))],[(.st 25),(.int .i64)],fun xs=>X31 xs.1 xs.2.1⟩
theorem q2C:Zav X 37 q2B:=Zkd (Zkc xok q2x q2o q5 12 37) fun xs _ h=>((q2A xs.1 xs.2.1).trans (X4p xs.1 xs.2.1).symm).trans h
theorem q2H (x0:Y2):Zkg X q2 [(.st 5)] [.bool] q2n q4 12 120 (x0,())=W8 x0:=by kernel_rfl
def q2I:F7 S:=⟨[(.st 5)],[.bool],fun xs=>X2g xs.1⟩
theorem q2J:Zav X 120 q2I:=Zkd (Zkc xok q3 q2o q5 12 120) fun xs _ h=>((q2H xs.1).trans (X2J xs.1).symm).trans h
def q2K:List (Nat×F7 S):=[(120,q2I)]
theorem q2L:Z95 X (q2K):=⟨q2J,trivial⟩
def q2O:Key:=⟨[83],83,none,[0,0,1,1,1,0,0,1,1,0,0,1,0,1,1],2,33⟩
def q2P:StT S:=⟨vP,(N (N L oe L) om (N L oe L)),33⟩
def q2Q:Way S:=⟨(.exit 2),⟨v1f,(N (N L oe L) om (N L oe L)),34⟩,[.int,.int,.int,(.lst (.st 28)),(.arr (.st 5)),(.st 25),(.arr (.st 5))]⟩
def q2R:LE S:=⟨q2O,q2P,[.int,.int,.int,.int,.int,.int,(.lst (.st 28)),(.lst (.st 28)),(.arr (.st 5)),(.st 25),(.arr (.st 5))],[q2Q]⟩
def q2S {T:Type} (x:tqh) (k:tqp->T):(Nat->Y2)->T:=fun y0=>k (x.2.1,x.u3,x.u5,x.u6,y0,x.u9,x.v10)
def q2T (x:tqh) (v:(Int×(Nat->Y2))):tqh:=(x.1,x.2.1,x.u2,x.u3,v.1,x.u5,x.u6,x.u7,v.2,x.u9,x.v10)
theorem q2U (x:tqh):LE.step X q2R q2K q2n q4 12 x=Xd x.1 x.2.1 x.u2 x.u3 x.u5 x.u6 x.u7 x.u9 x.v10 x.u4 x.u8 (fun w=>Sum.inl (q2T x w)) (fun o=>Sum.inr (q2S x id o)):=by kernel_rfl
def q2V {R:Type}:Z21 S R:=LE.ls X q2R (fun x k=>(Wx x.1 x.2.1 x.u2 x.u3 x.u5 x.u6 x.u7 x.u9 x.v10 (x.u4,x.u8)).bind (q2S x k)) q4
theorem q2W {R:Type}:Z2e X (q2V (R:=R)):=Zke xok q2L (e:=q2R) q2o q5 (st:=fun(x:tqh)=>Xx x.1 x.2.1 x.u2 x.u3 x.u5 x.u6 x.u7 x.u9 x.v10) (prj:=fun(x:tqh)=>(x.u4,x.u8)) (emb:=q2T) q2S (fun x=>(q2U x).trans (by unfold Xx Xd;simp only[Zk2,ZjT,Zk3,Option.map_some,Option.map_none];rfl)) q5
def q2X:Key:=⟨[83],83,none,[0,0,1,1,1,0,0,1,1,0,0,1,0,1,1],2,19⟩
def q2Y:StT S:=⟨vP,(N (N L oe L) om (N L oe L)),19⟩
def q2Z:Way S:=⟨(.exit 2),⟨v1f,(N (N L oe L) om (N L oe L)),20⟩,[.int,.int,.int,(.lst (.st 28)),(.arr (.st 5)),(.st 25),(.arr (.st 5))]⟩
def q30:LE S:=⟨q2X,q2Y,[.int,.int,.int,.int,.int,.int,(.lst (.st 28)),(.lst (.st 28)),(.arr (.st 5)),(.st 25),(.arr (.st 5))],[q2Z]⟩
theorem q33 (x:tqh):LE.step X q30 q2K q2n q2V 12 x=X14 x.1 x.2.1 x.u2 x.u3 x.u5 x.u6 x.u7 x.u9 x.v10 x.u4 x.u8 (fun w=>Sum.inl (q2T x w)) (fun o=>Sum.inr (q2S x id o)):=by kernel_rfl
def q34 {R:Type}:Z21 S R:=LE.ls X q30 (fun x k=>(X1e x.1 x.2.1 x.u2 x.u3 x.u5 x.u6 x.u7 x.u9 x.v10 (x.u4,x.u8)).bind (q2S x k)) q2V
theorem q35 {R:Type}:Z2e X (q34 (R:=R)):=Zke xok q2L (e:=q30) q2o q2W (st:=fun(x:tqh)=>X1p x.1 x.2.1 x.u2 x.u3 x.u5 x.u6 x.u7 x.u9 x.v10) (prj:=fun(x:tqh)=>(x.u4,x.u8)) (emb:=q2T) q2S (fun x=>(q33 x).trans (by unfold X1p X14 Xd;simp only[Zk2,ZjT,Zk3,Option.map_some,Option.map_none];rfl)) q2W
def q36:Key:=⟨[83],83,none,[0,0,1,0,1,1],0,11⟩
def q37:StT S:=⟨v1f,(N (N L oe L) om (N L oe L)),11⟩
def q38:Way S:=⟨(.exit 0),⟨(N L none (N (N (N L vD L) (some (.ptr 1 0)) L) vB (N L (some (.ptr 2 0)) L))),(N (N L oe L) om (N L oe L)),12⟩,[.int,(.lst (.st 28)),(.arr (.st 5)),(.st 25),(.arr (.st 5))]⟩
def q39:LE S:=⟨q36,q37,[.int,.int,.int,(.lst (.st 28)),(.arr (.st 5)),(.st 25),(.arr (.st 5))],[q38]⟩
def q3a {T:Type} (x:tqp) (k:(Int×(List Zb)×(Nat->Y2)×Zc×(Nat->Y2))->T):(Nat->Y2)->T:=fun y0=>k (x.2.1,x.u3,y0,x.u5,x.v6)
def q3b (x:tqp) (v:(Int×(Nat->Y2))):tqp:=(x.1,x.2.1,v.1,x.u3,v.2,x.u5,x.v6)
theorem q3c (x:tqp):LE.step X q39 q2K q2n q34 12 x=XP x.1 x.2.1 x.u3 x.u5 x.v6 x.u2 x.u4 (fun w=>Sum.inl (q3b x w)) (fun o=>Sum.inr (q3a x id o)):=by kernel_rfl
def q3d {R:Type}:Z21 S R:=LE.ls X q39 (fun x k=>(Ww x.1 x.2.1 x.u3 x.u5 x.v6 (x.u2,x.u4)).bind (q3a x k)) q34
theorem q3e {R:Type}:Z2e X (q3d (R:=R)):=Zke xok q2L (e:=q39) q2o q35 (st:=fun(x:tqp)=>Xw x.1 x.2.1 x.u3 x.u5 x.v6) (prj:=fun(x:tqp)=>(x.u2,x.u4)) (emb:=q3b) q3a (fun x=>(q3c x).trans (by unfold Xw XP;simp only[Zk2,ZjT,Zk3,Option.map_some,Option.map_none];rfl)) q35
def q3f:Key:=⟨[83],83,none,[0,0,1,1,0,0,1,0,0,1,0,1,1,1],6,38⟩
def q3g:StT S:=⟨vT,(N (N L oe L) om (N L oe L)),38⟩
def q3h:Way S:=⟨(.exit 6),⟨v1j,(N (N L oe L) om (N L oe L)),39⟩,[.int,.int,(.lst (.st 28)),(.arr (.st 5)),(.st 25),(.arr (.st 5))]⟩
def q3i:LE S:=⟨q3f,q3g,[(.lst (.st 28)),.int,.int,.int,.int,(.lst (.st 28)),(.arr (.st 5)),(.st 25),(.arr (.st 5))],[q3h]⟩
def q3j {T:Type} (x:tql) (k:tqr->T):(Nat->Y2)->T:=fun y0=>k (x.u2,x.u4,x.u5,y0,x.u7,x.v8)
def q3k (x:tql) (v:(Int×(Nat->Y2))):tql:=(x.1,v.1,x.u2,x.u3,x.u4,x.u5,v.2,x.u7,x.v8)
theorem q3l (x:tql):LE.step X q3i q2K q2n q3d 12 x=Xe x.1 x.u2 x.u3 x.u4 x.u5 x.u7 x.v8 x.2.1 x.u6 (fun w=>Sum.inl (q3k x w)) (fun o=>Sum.inr (q3j x id o)):=by kernel_rfl
def q3m {R:Type}:Z21 S R:=LE.ls X q3i (fun x k=>(Wz x.1 x.u2 x.u3 x.u4 x.u5 x.u7 x.v8 (x.2.1,x.u6)).bind (q3j x k)) q3d
theorem q3n {R:Type}:Z2e X (q3m (R:=R)):=Zke xok q2L (e:=q3i) q2o q3e (st:=fun(x:tql)=>Xz x.1 x.u2 x.u3 x.u4 x.u5 x.u7 x.v8) (prj:=fun(x:tql)=>(x.2.1,x.u6)) (emb:=q3k) q3j (fun x=>(q3l x).trans (by unfold Xz Xe;simp only[Zk2,ZjT,Zk3,Option.map_some,Option.map_none];rfl)) q3e
def q3o:Key:=⟨[83],83,none,[0,0,1,1,0,0,1,0,0,1,0,1,1,1],6,24⟩
def q3p:StT S:=⟨vT,(N (N L oe L) om (N L oe L)),24⟩
def q3q:Way S:=⟨(.exit 6),⟨v1j,(N (N L oe L) om (N L oe L)),25⟩,[.int,.int,(.lst (.st 28)),(.arr (.st 5)),(.st 25),(.arr (.st 5))]⟩
def q3r:LE S:=⟨q3o,q3p,[(.lst (.st 28)),.int,.int,.int,.int,(.lst (.st 28)),(.arr (.st 5)),(.st 25),(.arr (.st 5))],[q3q]⟩
theorem q3u (x:tql):LE.step X q3r q2K q2n q3m 12 x=X15 x.1 x.u2 x.u3 x.u4 x.u5 x.u7 x.v8 x.2.1 x.u6 (fun w=>Sum.inl (q3k x w)) (fun o=>Sum.inr (q3j x id o)):=by kernel_rfl
def q3v {R:Type}:Z21 S R:=LE.ls X q3r (fun x k=>(X1f x.1 x.u2 x.u3 x.u4 x.u5 x.u7 x.v8 (x.2.1,x.u6)).bind (q3j x k)) q3m
theorem q3w {R:Type}:Z2e X (q3v (R:=R)):=Zke xok q2L (e:=q3r) q2o q3n (st:=fun(x:tql)=>X1q x.1 x.u2 x.u3 x.u4 x.u5 x.u7 x.v8) (prj:=fun(x:tql)=>(x.2.1,x.u6)) (emb:=q3k) q3j (fun x=>(q3u x).trans (by unfold X1q X15 Xe;simp only[Zk2,ZjT,Zk3,Option.map_some,Option.map_none];rfl)) q3n
def q3x:Key:=⟨[83],83,none,[0,0,1,0,1,1,1],4,15⟩
def q3y:StT S:=⟨v1j,(N (N L oe L) om (N L oe L)),15⟩
def q3z:Way S:=⟨(.exit 4),⟨(N L none (N (N (N L vD L) (some (.ptr 1 0)) L) none (N L (some (.ptr 2 0)) L))),(N (N L oe L) om (N L oe L)),17⟩,[.int,(.arr (.st 5)),(.st 25),(.arr (.st 5))]⟩
def q3A:LE S:=⟨q3x,q3y,[.int,.int,(.lst (.st 28)),(.arr (.st 5)),(.st 25),(.arr (.st 5))],[q3z]⟩
def q3B {T:Type} (x:tqr) (k:(Int×(Nat->Y2)×Zc×(Nat->Y2))->T):(Nat->Y2)->T:=fun y0=>k (x.1,y0,x.u4,x.v5)
def q3C (x:tqr) (v:(Int×(Nat->Y2))):tqr:=(x.1,v.1,x.u2,v.2,x.u4,x.v5)
theorem q3D (x:tqr):LE.step X q3A q2K q2n q3v 12 x=XQ x.1 x.u2 x.u4 x.v5 x.2.1 x.u3 (fun w=>Sum.inl (q3C x w)) (fun o=>Sum.inr (q3B x id o)):=by kernel_rfl
def q3E {R:Type}:Z21 S R:=LE.ls X q3A (fun x k=>(Wy x.1 x.u2 x.u4 x.v5 (x.2.1,x.u3)).bind (q3B x k)) q3v
theorem q3F {R:Type}:Z2e X (q3E (R:=R)):=Zke xok q2L (e:=q3A) q2o q3w (st:=fun(x:tqr)=>Xy x.1 x.u2 x.u4 x.v5) (prj:=fun(x:tqr)=>(x.2.1,x.u3)) (emb:=q3C) q3B (fun x=>(q3D x).trans (by unfold Xy XQ;simp only[Zk2,ZjT,Zk3,Option.map_some,Option.map_none];rfl)) q3w
def q3G:Key:=⟨[146,2,1,119,3,25,83],146,none,[0,0,1,0,1],0,34⟩
def q3H:StT S:=⟨(N (N (N (N L vD L) none L) (some (.fn (.func 120) [] [])) L) vC v1F),L,34⟩
def q3I:Way S:=⟨.ret,⟨v1G,L,45⟩,[.int]⟩
def q3J:Way S:=⟨(.exit 0),⟨L,L,35⟩,[]⟩
def q3K:LE S:=⟨q3G,q3H,[.int,(.lst (.st 5)),.int],[q3I,q3J]⟩
def q3L {T:Type} (x:tqI) (k:(Int⊕Unit)->T):(Int⊕Unit)->T:=Sum.elim (fun y0=>k (.inl y0)) (fun y1=>k (.inr ()))
def q3M (x:tqI) (v:Int):tqI:=(x.1,x.2.1,v)
theorem q3N (x:tqI):LE.step X q3K q2K q2n q3E 12 x=XR x.1 x.2.1 x.v2 (fun w=>Sum.inl (q3M x w)) (fun o=>Sum.inr (q3L x id o)):=by kernel_rfl
def q3O {R:Type}:Z21 S R:=LE.ls X q3K (fun x k=>(X1g x.1 x.2.1 x.v2).bind (q3L x k)) q3E
theorem q3P {R:Type}:Z2e X (q3O (R:=R)):=Zke xok q2L (e:=q3K) q2o q3F (st:=fun(x:tqI)=>XA x.1 x.2.1) (prj:=fun(x:tqI)=>x.v2) (emb:=q3M) q3L (fun x=>(q3N x).trans (by unfold XA XR;simp only[Zk2,ZjT,Zk3,Option.map_some,Option.map_none];rfl)) q3F
theorem q3Q (x0:Zc) (x1:Nat->Y2) (x2:List Zb):Zkg X q2K [(.st 25),(.arr 10 (.st 5)),(.sl (.st 28))] [(.arr 10 (.st 5)),.bool] q2n q3O 12 83 (x0,x1,x2,())=Wg x0 x1 x2:=by kernel_rfl
def q3R:F7 S:=⟨[(.st 25),(.arr 10 (.st 5)),(.sl (.st 28))],[(.arr 10 (.st 5)),.bool],fun xs=>XH xs.1 xs.2.1 xs.u2⟩
theorem q3S:Zav X 83 q3R:=Zkd (Zkc xok q2L q2o q3P 12 83) fun xs _ h=>((q3Q xs.1 xs.2.1 xs.u2).trans (X34 xs.1 xs.2.1 xs.u2).symm).trans h
def q3T:StT S:=⟨(N v1s vD (N (N L (some (.ptr 4 0)) L) vB L)),o1v,6⟩
def q3U:Way S:=⟨.ret,⟨(N L vE L),o1v,6⟩,[.bool,(.st 25),.bool,(.st 25),(.st 25)]⟩
def q3V:Way S:=⟨.ret,⟨(N L vE L),o1w,6⟩,[.bool,(.st 25),.bool,(.st 25),(.st 25)]⟩
def q3W:PE S:=⟨82,6,q3T,[(.arr (.st 5)),.int,(.lst (.st 28)),(.st 25),.bool,(.st 25),(.st 25)],[q3U,q3V]⟩
def q3X:List (Nat×F7 S):=[(83,q3R)]
theorem q3Y:Z95 X q3X:=⟨q3S,trivial⟩
abbrev q3Z (ih:tqn->Option tqg) {R:Type}:Z21 S R:=Zj1
theorem q40 (ih:tqn->Option tqg) (hih:ZcD X q3W ih) {R:Type}:Z2e X (q3Z ih (R:=R)):=ZjC X
def q41:Key:=⟨[121,0,82],121,none,[0,0,1,1],0,69⟩
def q42:StT S:=⟨v10,oH,70⟩
def q43:Way S:=⟨.ret,⟨L,(N o12 oa o17),166⟩,[(.arr (.st 5)),(.st 28),(.st 25),.bool,(.arr (.st 5)),(.arr (.st 5)),.bool,.int,(.st 25),(.lst (.st 19)),(.lst (.st 28)),(.st 28),(.lst (.st 19)),(.st 21),(.lst (.st 28)),(.st 25),(.st 25),(.st 19),.int,(.lst (.st 28)),.int,.bool,(.arr (.st 5)),.bool,.int,.bool,(.lst (.st 28))]⟩
def q44:Way S:=⟨.ret,⟨L,(N o13 oa o17),166⟩,[(.arr (.st 5)),(.st 28),(.st 25),.bool,(.arr (.st 5)),(.arr (.st 5)),.bool,.int,(.st 25),(.lst (.st 19)),(.lst (.st 28)),(.st 28),(.lst (.st 19)),(.st 21),(.lst (.st 28)),(.st 25),(.st 25),(.st 19),.int,(.lst (.st 28)),.int,.bool,(.arr (.st 5)),.bool,.int,.bool,(.lst (.st 28))]⟩
def q45:Way S:=⟨.ret,⟨L,oJ,159⟩,[(.arr (.st 5)),(.st 28),(.st 25),.bool,(.arr (.st 5)),(.arr (.st 5)),.bool,.int,(.st 25),(.lst (.st 19)),(.st 28),(.lst (.st 19)),(.st 21),(.lst (.st 28)),(.st 25),(.st 25),(.st 19),.int,.int,.bool,(.arr (.st 5)),.bool,.int,.bool,(.lst (.st 28))]⟩
def q46:Way S:=⟨.ret,⟨L,oK,159⟩,[(.arr (.st 5)),(.st 28),(.st 25),.bool,(.arr (.st 5)),(.arr (.st 5)),.bool,.int,(.st 25),(.lst (.st 19)),(.st 28),(.lst (.st 19)),(.st 21),(.lst (.st 28)),(.st 25),(.st 25),(.st 19),.int,.int,.bool,(.arr (.st 5)),.bool,.int,.bool,(.lst (.st 28))]⟩
def q47:Way S:=⟨.ret,⟨L,(N oQ oa o1a),151⟩,[(.arr (.st 5)),(.st 28),(.st 25),(.lst (.st 28)),.bool,(.arr (.st 5)),(.arr (.st 5)),.bool,.int,(.st 25),(.lst (.st 19)),(.st 28),(.lst (.st 19)),(.st 21),(.lst (.st 28)),(.st 25),(.st 25),(.st 19),.int,.int,(.lst (.st 28)),.bool,(.arr (.st 5)),.bool,.int,.bool,(.lst (.st 28))]⟩
def q48:Way S:=⟨.ret,⟨L,(N oR oa o1a),151⟩,[(.arr (.st 5)),(.st 28),(.st 25),(.lst (.st 28)),.bool,(.arr (.st 5)),(.arr (.st 5)),.bool,.int,(.st 25),(.lst (.st 19)),(.st 28),(.lst (.st 19)),(.st 21),(.lst (.st 28)),(.st 25),(.st 25),(.st 19),.int,.int,(.lst (.st 28)),.bool,(.arr (.st 5)),.bool,.int,.bool,(.lst (.st 28))]⟩
def q49:Way S:=⟨.ret,⟨L,oJ,144⟩,[(.arr (.st 5)),(.st 28),(.st 25),.bool,(.arr (.st 5)),(.arr (.st 5)),.bool,.int,(.st 25),(.lst (.st 19)),(.st 28),(.lst (.st 19)),(.st 21),(.lst (.st 28)),(.st 25),(.st 25),(.st 19),.int,.int,.bool,(.arr (.st 5)),.bool,.int,.bool,(.lst (.st 28))]⟩
def q4a:Way S:=⟨.ret,⟨L,oK,144⟩,[(.arr (.st 5)),(.st 28),(.st 25),.bool,(.arr (.st 5)),(.arr (.st 5)),.bool,.int,(.st 25),(.lst (.st 19)),(.st 28),(.lst (.st 19)),(.st 21),(.lst (.st 28)),(.st 25),(.st 25),(.st 19),.int,.int,.bool,(.arr (.st 5)),.bool,.int,.bool,(.lst (.st 28))]⟩
def q4b:Way S:=⟨.ret,⟨L,(N oU oa oX),152⟩,[(.lst (.st 28)),(.arr (.st 5)),(.st 28),(.st 25),.bool,(.arr (.st 5)),(.arr (.st 5)),.bool,.int,(.st 25),(.lst (.st 19)),(.st 28),(.lst (.st 19)),(.st 21),(.lst (.st 28)),(.st 25),(.lst (.st 28)),(.st 25),(.st 19),.int,.int,.bool,(.arr (.st 5)),.bool,.int,.bool,(.lst (.st 28))]⟩
def q4c:Way S:=⟨.ret,⟨L,(N oV oa oX),152⟩,[(.lst (.st 28)),(.arr (.st 5)),(.st 28),(.st 25),.bool,(.arr (.st 5)),(.arr (.st 5)),.bool,.int,(.st 25),(.lst (.st 19)),(.st 28),(.lst (.st 19)),(.st 21),(.lst (.st 28)),(.st 25),(.lst (.st 28)),(.st 25),(.st 19),.int,.int,.bool,(.arr (.st 5)),.bool,.int,.bool,(.lst (.st 28))]⟩
def q4d:Way S:=⟨.ret,⟨L,oJ,145⟩,[(.arr (.st 5)),(.st 28),(.st 25),.bool,(.arr (.st 5)),(.arr (.st 5)),.bool,.int,(.st 25),(.lst (.st 19)),(.st 28),(.lst (.st 19)),(.st 21),(.lst (.st 28)),(.st 25),(.st 25),(.st 19),.int,.int,.bool,(.arr (.st 5)),.bool,.int,.bool,(.lst (.st 28))]⟩
def q4e:Way S:=⟨.ret,⟨L,oK,145⟩,[(.arr (.st 5)),(.st 28),(.st 25),.bool,(.arr (.st 5)),(.arr (.st 5)),.bool,.int,(.st 25),(.lst (.st 19)),(.st 28),(.lst (.st 19)),(.st 21),(.lst (.st 28)),(.st 25),(.st 25),(.st 19),.int,.int,.bool,(.arr (.st 5)),.bool,.int,.bool,(.lst (.st 28))]⟩
def q4f:Way S:=⟨.ret,⟨L,(N o14 oa o1c),137⟩,[(.arr (.st 5)),(.st 28),(.st 25),.bool,(.arr (.st 5)),(.arr (.st 5)),.bool,.int,(.st 25),(.lst (.st 19)),(.st 28),(.lst (.st 28)),(.lst (.st 28)),(.lst (.st 19)),(.st 21),(.lst (.st 28)),(.st 25),(.st 25),(.st 19),.int,.int,.bool,(.arr (.st 5)),.bool,.int,.bool,(.lst (.st 28))]⟩
def q4g:Way S:=⟨.ret,⟨L,(N o15 oa o1c),137⟩,[(.arr (.st 5)),(.st 28),(.st 25),.bool,(.arr (.st 5)),(.arr (.st 5)),.bool,.int,(.st 25),(.lst (.st 19)),(.st 28),(.lst (.st 28)),(.lst (.st 28)),(.lst (.st 19)),(.st 21),(.lst (.st 28)),(.st 25),(.st 25),(.st 19),.int,.int,.bool,(.arr (.st 5)),.bool,.int,.bool,(.lst (.st 28))]⟩
def q4h:Way S:=⟨.ret,⟨L,oJ,130⟩,[(.arr (.st 5)),(.st 28),(.st 25),.bool,(.arr (.st 5)),(.arr (.st 5)),.bool,.int,(.st 25),(.lst (.st 19)),(.st 28),(.lst (.st 19)),(.st 21),(.lst (.st 28)),(.st 25),(.st 25),(.st 19),.int,.int,.bool,(.arr (.st 5)),.bool,.int,.bool,(.lst (.st 28))]⟩
def q4i:Way S:=⟨.ret,⟨L,oK,130⟩,[(.arr (.st 5)),(.st 28),(.st 25),.bool,(.arr (.st 5)),(.arr (.st 5)),.bool,.int,(.st 25),(.lst (.st 19)),(.st 28),(.lst (.st 19)),(.st 21),(.lst (.st 28)),(.st 25),(.st 25),(.st 19),.int,.int,.bool,(.arr (.st 5)),.bool,.int,.bool,(.lst (.st 28))]⟩
def q4j:Way S:=⟨(.exit 0),⟨L,oH,71⟩,[(.arr (.st 5)),(.st 28),(.st 25),.bool,(.arr (.st 5)),.bool,.int,(.st 25),(.lst (.st 19)),(.lst (.st 19)),(.st 21),(.lst (.st 28)),(.st 25),(.st 25),.int,.int,.bool,(.arr (.st 5)),.bool,.int,.bool,(.lst (.st 28))]⟩
def q4k:LE S:=⟨q41,q42,[.int,.int,.int,(.arr (.st 5)),(.st 28),(.st 25),.bool,(.arr (.st 5)),.bool,.int,(.st 25),(.lst (.st 19)),(.lst (.st 19)),(.st 21),(.lst (.st 28)),(.st 25),(.st 25),.int,.int,.bool,(.arr (.st 5)),.bool,.int,.bool,(.lst (.st 28))],[q43,q44,q45,q46,q47,q48,q49,q4a,q4b,q4c,q4d,q4e,q4f,q4g,q4h,q4i,q4j]⟩
def q4l {T:Type} (x:tq5) (k:(((Nat->Y2)×Zb×Zc×Bool×(Nat->Y2)×(Nat->Y2)×Bool×Int×Zc×(List Zq)×(List Zb)×Zb×(List Zq)×Zr×(List Zb)×Zc×Zc×Zq×Int×(List Zb)×Int×Bool×(Nat->Y2)×Bool×Int×Bool×(List Zb))⊕((Nat->Y2)×Zb×Zc×Bool×(Nat->Y2)×(Nat->Y2)×Bool×Int×Zc×(List Zq)×(List Zb)×Zb×(List Zq)×Zr×(List Zb)×Zc×Zc×Zq×Int×(List Zb)×Int×Bool×(Nat->Y2)×Bool×Int×Bool×(List Zb))⊕tq4⊕tq4⊕((Nat->Y2)×Zb×Zc×(List Zb)×Bool×(Nat->Y2)×(Nat->Y2)×Bool×Int×Zc×(List Zq)×Zb×(List Zq)×Zr×(List Zb)×Zc×Zc×Zq×Int×Int×(List Zb)×Bool×(Nat->Y2)×Bool×Int×Bool×(List Zb))⊕((Nat->Y2)×Zb×Zc×(List Zb)×Bool×(Nat->Y2)×(Nat->Y2)×Bool×Int×Zc×(List Zq)×Zb×(List Zq)×Zr×(List Zb)×Zc×Zc×Zq×Int×Int×(List Zb)×Bool×(Nat->Y2)×Bool×Int×Bool×(List Zb))⊕tq4⊕tq4⊕((List Zb)×(Nat->Y2)×Zb×Zc×Bool×(Nat->Y2)×(Nat->Y2)×Bool×Int×Zc×(List Zq)×Zb×(List Zq)×Zr×(List Zb)×Zc×(List Zb)×Zc×Zq×Int×Int×Bool×(Nat->Y2)×Bool×Int×Bool×(List Zb))⊕((List Zb)×(Nat->Y2)×Zb×Zc×Bool×(Nat->Y2)×(Nat->Y2)×Bool×Int×Zc×(List Zq)×Zb×(List Zq)×Zr×(List Zb)×Zc×(List Zb)×Zc×Zq×Int×Int×Bool×(Nat->Y2)×Bool×Int×Bool×(List Zb))⊕tq4⊕tq4⊕((Nat->Y2)×Zb×Zc×Bool×(Nat->Y2)×(Nat->Y2)×Bool×Int×Zc×(List Zq)×Zb×(List Zb)×(List Zb)×(List Zq)×Zr×(List Zb)×Zc×Zc×Zq×Int×Int×Bool×(Nat->Y2)×Bool×Int×Bool×(List Zb))⊕((Nat->Y2)×Zb×Zc×Bool×(Nat->Y2)×(Nat->Y2)×Bool×Int×Zc×(List Zq)×Zb×(List Zb)×(List Zb)×(List Zq)×Zr×(List Zb)×Zc×Zc×Zq×Int×Int×Bool×(Nat->Y2)×Bool×Int×Bool×(List Zb))⊕tq4⊕tq4⊕((Nat->Y2)×Zb×Zc×Bool×(Nat->Y2)×Bool×Int×Zc×(List Zq)×(List Zq)×Zr×(List Zb)×Zc×Zc×Int×Int×Bool×(Nat->Y2)×Bool×Int×Bool×(List Zb)))->T):(tq9⊕tq9⊕tqk⊕tqk⊕tqa⊕tqa⊕tqk⊕tqk⊕tqb⊕tqb⊕tqk⊕tqk⊕tqe⊕tqe⊕tqm⊕tqm⊕(Zb×Zc×Bool×Zc×Zc))->T:=Sum.elim (fun y0=>k (.inl (x.u3,y0.1,y0.2.1,y0.u2,y0.u3,x.u7,y0.u4,x.u9,y0.u5,x.u11,y0.u6,y0.u7,x.u12,x.u13,x.u14,x.u15,y0.u8,y0.u9,x.u17,y0.v10,x.u18,x.u19,x.u20,x.u21,x.u22,x.u23,x.v24))) (Sum.elim (fun y1=>k (.inr (.inl (x.u3,y1.1,y1.2.1,y1.u2,y1.u3,x.u7,y1.u4,x.u9,y1.u5,x.u11,y1.u6,y1.u7,x.u12,x.u13,x.u14,x.u15,y1.u8,y1.u9,x.u17,y1.v10,x.u18,x.u19,x.u20,x.u21,x.u22,x.u23,x.v24)))) (Sum.elim (fun y2=>k (.inr (.inr (.inl (x.u3,y2.1,y2.2.1,y2.u2,y2.u3,x.u7,y2.u4,x.u9,y2.u5,x.u11,y2.u6,x.u12,x.u13,x.u14,x.u15,y2.u7,y2.v8,x.u17,x.u18,x.u19,x.u20,x.u21,x.u22,x.u23,x.v24))))) (Sum.elim (fun y3=>k (.inr (.inr (.inr (.inl (x.u3,y3.1,y3.2.1,y3.u2,y3.u3,x.u7,y3.u4,x.u9,y3.u5,x.u11,y3.u6,x.u12,x.u13,x.u14,x.u15,y3.u7,y3.v8,x.u17,x.u18,x.u19,x.u20,x.u21,x.u22,x.u23,x.v24)))))) (Sum.elim (fun y4=>k (.inr (.inr (.inr (.inr (.inl (x.u3,y4.1,y4.2.1,y4.u2,y4.u3,y4.u4,x.u7,y4.u5,x.u9,y4.u6,x.u11,y4.u7,x.u12,x.u13,x.u14,x.u15,y4.u8,y4.u9,x.u17,x.u18,y4.v10,x.u19,x.u20,x.u21,x.u22,x.u23,x.v24))))))) (Sum.elim (fun y5=>k (.inr (.inr (.inr (.inr (.inr (.inl (x.u3,y5.1,y5.2.1,y5.u2,y5.u3,y5.u4,x.u7,y5.u5,x.u9,y5.u6,x.u11,y5.u7,x.u12,x.u13,x.u14,x.u15,y5.u8,y5.u9,x.u17,x.u18,y5.v10,x.u19,x.u20,x.u21,x.u22,x.u23,x.v24)))))))) (Sum.elim (fun y6=>k (.inr (.inr (.inr (.inr (.inr (.inr (.inl (x.u3,y6.1,y6.2.1,y6.u2,y6.u3,x.u7,y6.u4,x.u9,y6.u5,x.u11,y6.u6,x.u12,x.u13,x.u14,x.u15,y6.u7,y6.v8,x.u17,x.u18,x.u19,x.u20,x.u21,x.u22,x.u23,x.v24))))))))) (Sum.elim (fun y7=>k (.inr (.inr (.inr (.inr (.inr (.inr (.inr (.inl (x.u3,y7.1,y7.2.1,y7.u2,y7.u3,x.u7,y7.u4,x.u9,y7.u5,x.u11,y7.u6,x.u12,x.u13,x.u14,x.u15,y7.u7,y7.v8,x.u17,x.u18,x.u19,x.u20,x.u21,x.u22,x.u23,x.v24)))))))))) (Sum.elim (fun y8=>k (.inr (.inr (.inr (.inr (.inr (.inr (.inr (.inr (.inl (y8.1,x.u3,y8.2.1,y8.u2,y8.u3,y8.u4,x.u7,y8.u5,x.u9,y8.u6,x.u11,y8.u7,x.u12,x.u13,x.u14,x.u15,y8.u8,y8.u9,y8.v10,x.u17,x.u18,x.u19,x.u20,x.u21,x.u22,x.u23,x.v24))))))))))) (Sum.elim (fun y9=>k (.inr (.inr (.inr (.inr (.inr (.inr (.inr (.inr (.inr (.inl (y9.1,x.u3,y9.2.1,y9.u2,y9.u3,y9.u4,x.u7,y9.u5,x.u9,y9.u6,x.u11,y9.u7,x.u12,x.u13,x.u14,x.u15,y9.u8,y9.u9,y9.v10,x.u17,x.u18,x.u19,x.u20,x.u21,x.u22,x.u23,x.v24)))))))))))) (Sum.elim (fun y10=>k (.inr (.inr (.inr (.inr (.inr (.inr (.inr (.inr (.inr (.inr (.inl (x.u3,y10.1,y10.2.1,y10.u2,y10.u3,x.u7,y10.u4,x.u9,y10.u5,x.u11,y10.u6,x.u12,x.u13,x.u14,x.u15,y10.u7,y10.v8,x.u17,x.u18,x.u19,x.u20,x.u21,x.u22,x.u23,x.v24))))))))))))) (Sum.elim (fun y11=>k (.inr (.inr (.inr (.inr (.inr (.inr (.inr (.inr (.inr (.inr (.inr (.inl (x.u3,y11.1,y11.2.1,y11.u2,y11.u3,x.u7,y11.u4,x.u9,y11.u5,x.u11,y11.u6,x.u12,x.u13,x.u14,x.u15,y11.u7,y11.v8,x.u17,x.u18,x.u19,x.u20,x.u21,x.u22,x.u23,x.v24)))))))))))))) (Sum.elim (fun y12=>k (.inr (.inr (.inr (.inr (.inr (.inr (.inr (.inr (.inr (.inr (.inr (.inr (.inl (x.u3,y12.1,y12.2.1,y12.u2,x.u3,x.u7,y12.u3,x.u9,y12.u4,x.u11,y12.u5,y12.u6,y12.u7,x.u12,x.u13,x.u14,x.u15,y12.u8,y12.v9,x.u17,x.u18,x.u19,x.u20,x.u21,x.u22,x.u23,x.v24))))))))))))))) (Sum.elim (fun y13=>k (.inr (.inr (.inr (.inr (.inr (.inr (.inr (.inr (.inr (.inr (.inr (.inr (.inr (.inl (x.u3,y13.1,y13.2.1,y13.u2,x.u3,x.u7,y13.u3,x.u9,y13.u4,x.u11,y13.u5,y13.u6,y13.u7,x.u12,x.u13,x.u14,x.u15,y13.u8,y13.v9,x.u17,x.u18,x.u19,x.u20,x.u21,x.u22,x.u23,x.v24)))))))))))))))) (Sum.elim (fun y14=>k (.inr (.inr (.inr (.inr (.inr (.inr (.inr (.inr (.inr (.inr (.inr (.inr (.inr (.inr (.inl (x.u3,y14.1,y14.2.1,y14.u2,x.u3,x.u7,y14.u3,x.u9,y14.u4,x.u11,y14.u5,x.u12,x.u13,x.u14,x.u15,y14.u6,y14.v7,x.u17,x.u18,x.u19,x.u20,x.u21,x.u22,x.u23,x.v24))))))))))))))))) (Sum.elim (fun y15=>k (.inr (.inr (.inr (.inr (.inr (.inr (.inr (.inr (.inr (.inr (.inr (.inr (.inr (.inr (.inr (.inl (x.u3,y15.1,y15.2.1,y15.u2,x.u3,x.u7,y15.u3,x.u9,y15.u4,x.u11,y15.u5,x.u12,x.u13,x.u14,x.u15,y15.u6,y15.v7,x.u17,x.u18,x.u19,x.u20,x.u21,x.u22,x.u23,x.v24)))))))))))))))))) (fun y16=>k (.inr (.inr (.inr (.inr (.inr (.inr (.inr (.inr (.inr (.inr (.inr (.inr (.inr (.inr (.inr (.inr (x.u3,y16.1,y16.2.1,y16.u2,x.u7,x.u8,x.u9,y16.u3,x.u11,x.u12,x.u13,x.u14,x.u15,y16.v4,x.u17,x.u18,x.u19,x.u20,x.u21,x.u22,x.u23,x.v24)))))))))))))))))))))))))))))))))
def q4m (x:tq5) (v:(Int×Int×Zb×Zc×Bool×Zc×Zc)):tq5:=(x.1,v.1,v.2.1,x.u3,v.u2,v.u3,v.u4,x.u7,x.u8,x.u9,v.u5,x.u11,x.u12,x.u13,x.u14,x.u15,v.v6,x.u17,x.u18,x.u19,x.u20,x.u21,x.u22,x.u23,x.v24)
theorem q4n (ih:tqn->Option tqg) (x:tq5):LE.step X q4k q3X (PE.ps X q3W (fun x q=>(ih x).bind q) q2n) (q3Z ih) 12 x=X1 ih x.1 x.u3 x.u7 x.u8 x.u9 x.u11 x.u12 x.u13 x.u14 x.u15 x.u17 x.u18 x.u19 x.u20 x.u21 x.u22 x.u23 x.v24 x.2.1 x.u2 x.u4 x.u5 x.u6 x.u10 x.u16 (fun w=>Sum.inl (q4m x w)) (fun o=>Sum.inr (q4l x id o)):=by kernel_rfl
def q4o (ih:tqn->Option tqg) {R:Type}:Z21 S R:=LE.ls X q4k (fun x k=>(XK ih x.1 x.u3 x.u7 x.u8 x.u9 x.u11 x.u12 x.u13 x.u14 x.u15 x.u17 x.u18 x.u19 x.u20 x.u21 x.u22 x.u23 x.v24 (x.2.1,x.u2,x.u4,x.u5,x.u6,x.u10,x.u16)).bind (q4l x k)) (q3Z ih)
theorem q4p (ih:tqn->Option tqg) (hih:ZcD X q3W ih) {R:Type}:Z2e X (q4o ih (R:=R)):=Zke xok q3Y (e:=q4k) (Zk8 (e:=q3W) hih q2o) (q40 ih hih) (st:=fun(x:tq5)=>Xa ih x.1 x.u3 x.u7 x.u8 x.u9 x.u11 x.u12 x.u13 x.u14 x.u15 x.u17 x.u18 x.u19 x.u20 x.u21 x.u22 x.u23 x.v24) (prj:=fun(x:tq5)=>(x.2.1,x.u2,x.u4,x.u5,x.u6,x.u10,x.u16)) (emb:=q4m) q4l (fun x=>(q4n ih x).trans (by unfold Xa X1;simp only[Zk2,ZjT,Zk3,Option.map_some,Option.map_none];rfl)) (q40 ih hih)
theorem q4q (ih:tqn->Option tqg) (x:((Nat->Y2)×Int×(List Zb)×Zc×Bool×Zc×Zc)):PE.step X q3W q3X (PE.ps X q3W (fun x q=>(ih x).bind q) q2n) (q4o ih) 12 x=Xf ih x.1 x.2.1 x.u2 x.u3 x.u4 x.u5 x.v6:=by kernel_rfl
theorem q4r:ZcD X q3W XY:=Zk9 (X:=X) (e:=q3W) (t:=X4) fun ih hih=>Zkf (ZjG xok q3Y (Zk8 (e:=q3W) hih q2o) (q4p ih hih) 12) fun x _ h=>(q4q ih x).trans h
def q4s {R:Type}:Prs S R:=PE.ps X q3W (fun x q=>(XY x).bind q) q2n
theorem q4t {R:Type}:Z8k X (q4s (R:=R)):=Zk8 (e:=q3W) q4r q2o
def q4u:StT S:=⟨(N v1s vD (N (N L (some (.ptr 4 0)) L) (some .sl0) L)),o1v,6⟩
def q4x:PE S:=⟨82,6,q4u,[(.arr (.st 5)),.int,(.st 25),.bool,(.st 25),(.st 25)],[q3U,q3V]⟩
def q4D:StT S:=⟨v10,oF,70⟩
def q4E:Way S:=⟨.ret,⟨L,(N o12 oa o18),166⟩,[(.arr (.st 5)),(.st 28),(.st 25),.bool,(.arr (.st 5)),(.arr (.st 5)),.bool,.int,(.st 25),(.lst (.st 19)),(.lst (.st 28)),(.st 28),(.lst (.st 19)),(.st 21),(.lst (.st 28)),(.st 25),(.st 25),(.st 19),.int,(.lst (.st 28)),.int,.bool,(.arr (.st 5)),.bool,.int,.bool]⟩
def q4F:Way S:=⟨.ret,⟨L,(N o13 oa o18),166⟩,[(.arr (.st 5)),(.st 28),(.st 25),.bool,(.arr (.st 5)),(.arr (.st 5)),.bool,.int,(.st 25),(.lst (.st 19)),(.lst (.st 28)),(.st 28),(.lst (.st 19)),(.st 21),(.lst (.st 28)),(.st 25),(.st 25),(.st 19),.int,(.lst (.st 28)),.int,.bool,(.arr (.st 5)),.bool,.int,.bool]⟩
def q4G:Way S:=⟨.ret,⟨L,oL,159⟩,[(.arr (.st 5)),(.st 28),(.st 25),.bool,(.arr (.st 5)),(.arr (.st 5)),.bool,.int,(.st 25),(.lst (.st 19)),(.st 28),(.lst (.st 19)),(.st 21),(.lst (.st 28)),(.st 25),(.st 25),(.st 19),.int,.int,.bool,(.arr (.st 5)),.bool,.int,.bool]⟩
def q4H:Way S:=⟨.ret,⟨L,oM,159⟩,[(.arr (.st 5)),(.st 28),(.st 25),.bool,(.arr (.st 5)),(.arr (.st 5)),.bool,.int,(.st 25),(.lst (.st 19)),(.st 28),(.lst (.st 19)),(.st 21),(.lst (.st 28)),(.st 25),(.st 25),(.st 19),.int,.int,.bool,(.arr (.st 5)),.bool,.int,.bool]⟩
def q4I:Way S:=⟨.ret,⟨L,(N oQ oa o1b),151⟩,[(.arr (.st 5)),(.st 28),(.st 25),(.lst (.st 28)),.bool,(.arr (.st 5)),(.arr (.st 5)),.bool,.int,(.st 25),(.lst (.st 19)),(.st 28),(.lst (.st 19)),(.st 21),(.lst (.st 28)),(.st 25),(.st 25),(.st 19),.int,.int,(.lst (.st 28)),.bool,(.arr (.st 5)),.bool,.int,.bool]⟩
def q4J:Way S:=⟨.ret,⟨L,(N oR oa o1b),151⟩,[(.arr (.st 5)),(.st 28),(.st 25),(.lst (.st 28)),.bool,(.arr (.st 5)),(.arr (.st 5)),.bool,.int,(.st 25),(.lst (.st 19)),(.st 28),(.lst (.st 19)),(.st 21),(.lst (.st 28)),(.st 25),(.st 25),(.st 19),.int,.int,(.lst (.st 28)),.bool,(.arr (.st 5)),.bool,.int,.bool]⟩
def q4K:Way S:=⟨.ret,⟨L,oL,144⟩,[(.arr (.st 5)),(.st 28),(.st 25),.bool,(.arr (.st 5)),(.arr (.st 5)),.bool,.int,(.st 25),(.lst (.st 19)),(.st 28),(.lst (.st 19)),(.st 21),(.lst (.st 28)),(.st 25),(.st 25),(.st 19),.int,.int,.bool,(.arr (.st 5)),.bool,.int,.bool]⟩
def q4L:Way S:=⟨.ret,⟨L,oM,144⟩,[(.arr (.st 5)),(.st 28),(.st 25),.bool,(.arr (.st 5)),(.arr (.st 5)),.bool,.int,(.st 25),(.lst (.st 19)),(.st 28),(.lst (.st 19)),(.st 21),(.lst (.st 28)),(.st 25),(.st 25),(.st 19),.int,.int,.bool,(.arr (.st 5)),.bool,.int,.bool]⟩
def q4M:Way S:=⟨.ret,⟨L,(N oU oa oY),152⟩,[(.lst (.st 28)),(.arr (.st 5)),(.st 28),(.st 25),.bool,(.arr (.st 5)),(.arr (.st 5)),.bool,.int,(.st 25),(.lst (.st 19)),(.st 28),(.lst (.st 19)),(.st 21),(.lst (.st 28)),(.st 25),(.lst (.st 28)),(.st 25),(.st 19),.int,.int,.bool,(.arr (.st 5)),.bool,.int,.bool]⟩
def q4N:Way S:=⟨.ret,⟨L,(N oV oa oY),152⟩,[(.lst (.st 28)),(.arr (.st 5)),(.st 28),(.st 25),.bool,(.arr (.st 5)),(.arr (.st 5)),.bool,.int,(.st 25),(.lst (.st 19)),(.st 28),(.lst (.st 19)),(.st 21),(.lst (.st 28)),(.st 25),(.lst (.st 28)),(.st 25),(.st 19),.int,.int,.bool,(.arr (.st 5)),.bool,.int,.bool]⟩
def q4O:Way S:=⟨.ret,⟨L,oL,145⟩,[(.arr (.st 5)),(.st 28),(.st 25),.bool,(.arr (.st 5)),(.arr (.st 5)),.bool,.int,(.st 25),(.lst (.st 19)),(.st 28),(.lst (.st 19)),(.st 21),(.lst (.st 28)),(.st 25),(.st 25),(.st 19),.int,.int,.bool,(.arr (.st 5)),.bool,.int,.bool]⟩
def q4P:Way S:=⟨.ret,⟨L,oM,145⟩,[(.arr (.st 5)),(.st 28),(.st 25),.bool,(.arr (.st 5)),(.arr (.st 5)),.bool,.int,(.st 25),(.lst (.st 19)),(.st 28),(.lst (.st 19)),(.st 21),(.lst (.st 28)),(.st 25),(.st 25),(.st 19),.int,.int,.bool,(.arr (.st 5)),.bool,.int,.bool]⟩
def q4Q:Way S:=⟨.ret,⟨L,(N o14 oa o1d),137⟩,[(.arr (.st 5)),(.st 28),(.st 25),.bool,(.arr (.st 5)),(.arr (.st 5)),.bool,.int,(.st 25),(.lst (.st 19)),(.st 28),(.lst (.st 28)),(.lst (.st 28)),(.lst (.st 19)),(.st 21),(.lst (.st 28)),(.st 25),(.st 25),(.st 19),.int,.int,.bool,(.arr (.st 5)),.bool,.int,.bool]⟩
def q4R:Way S:=⟨.ret,⟨L,(N o15 oa o1d),137⟩,[(.arr (.st 5)),(.st 28),(.st 25),.bool,(.arr (.st 5)),(.arr (.st 5)),.bool,.int,(.st 25),(.lst (.st 19)),(.st 28),(.lst (.st 28)),(.lst (.st 28)),(.lst (.st 19)),(.st 21),(.lst (.st 28)),(.st 25),(.st 25),(.st 19),.int,.int,.bool,(.arr (.st 5)),.bool,.int,.bool]⟩
def q4S:Way S:=⟨.ret,⟨L,oL,130⟩,[(.arr (.st 5)),(.st 28),(.st 25),.bool,(.arr (.st 5)),(.arr (.st 5)),.bool,.int,(.st 25),(.lst (.st 19)),(.st 28),(.lst (.st 19)),(.st 21),(.lst (.st 28)),(.st 25),(.st 25),(.st 19),.int,.int,.bool,(.arr (.st 5)),.bool,.int,.bool]⟩
def q4T:Way S:=⟨.ret,⟨L,oM,130⟩,[(.arr (.st 5)),(.st 28),(.st 25),.bool,(.arr (.st 5)),(.arr (.st 5)),.bool,.int,(.st 25),(.lst (.st 19)),(.st 28),(.lst (.st 19)),(.st 21),(.lst (.st 28)),(.st 25),(.st 25),(.st 19),.int,.int,.bool,(.arr (.st 5)),.bool,.int,.bool]⟩
def q4U:Way S:=⟨(.exit 0),⟨L,oF,71⟩,[(.arr (.st 5)),(.st 28),(.st 25),.bool,(.arr (.st 5)),.bool,.int,(.st 25),(.lst (.st 19)),(.lst (.st 19)),(.st 21),(.lst (.st 28)),(.st 25),(.st 25),.int,.int,.bool,(.arr (.st 5)),.bool,.int,.bool]⟩
def q4V:LE S:=⟨q41,q4D,[.int,.int,.int,(.arr (.st 5)),(.st 28),(.st 25),.bool,(.arr (.st 5)),.bool,.int,(.st 25),(.lst (.st 19)),(.lst (.st 19)),(.st 21),(.lst (.st 28)),(.st 25),(.st 25),.int,.int,.bool,(.arr (.st 5)),.bool,.int,.bool],[q4E,q4F,q4G,q4H,q4I,q4J,q4K,q4L,q4M,q4N,q4O,q4P,q4Q,q4R,q4S,q4T,q4U]⟩
def q4W {T:Type} (x:tq7) (k:(((Nat->Y2)×Zb×Zc×Bool×(Nat->Y2)×(Nat->Y2)×Bool×Int×Zc×(List Zq)×(List Zb)×Zb×(List Zq)×Zr×(List Zb)×Zc×Zc×Zq×Int×(List Zb)×Int×Bool×(Nat->Y2)×Bool×Int×Bool)⊕((Nat->Y2)×Zb×Zc×Bool×(Nat->Y2)×(Nat->Y2)×Bool×Int×Zc×(List Zq)×(List Zb)×Zb×(List Zq)×Zr×(List Zb)×Zc×Zc×Zq×Int×(List Zb)×Int×Bool×(Nat->Y2)×Bool×Int×Bool)⊕tq6⊕tq6⊕((Nat->Y2)×Zb×Zc×(List Zb)×Bool×(Nat->Y2)×(Nat->Y2)×Bool×Int×Zc×(List Zq)×Zb×(List Zq)×Zr×(List Zb)×Zc×Zc×Zq×Int×Int×(List Zb)×Bool×(Nat->Y2)×Bool×Int×Bool)⊕((Nat->Y2)×Zb×Zc×(List Zb)×Bool×(Nat->Y2)×(Nat->Y2)×Bool×Int×Zc×(List Zq)×Zb×(List Zq)×Zr×(List Zb)×Zc×Zc×Zq×Int×Int×(List Zb)×Bool×(Nat->Y2)×Bool×Int×Bool)⊕tq6⊕tq6⊕((List Zb)×(Nat->Y2)×Zb×Zc×Bool×(Nat->Y2)×(Nat->Y2)×Bool×Int×Zc×(List Zq)×Zb×(List Zq)×Zr×(List Zb)×Zc×(List Zb)×Zc×Zq×Int×Int×Bool×(Nat->Y2)×Bool×Int×Bool)⊕((List Zb)×(Nat->Y2)×Zb×Zc×Bool×(Nat->Y2)×(Nat->Y2)×Bool×Int×Zc×(List Zq)×Zb×(List Zq)×Zr×(List Zb)×Zc×(List Zb)×Zc×Zq×Int×Int×Bool×(Nat->Y2)×Bool×Int×Bool)⊕tq6⊕tq6⊕((Nat->Y2)×Zb×Zc×Bool×(Nat->Y2)×(Nat->Y2)×Bool×Int×Zc×(List Zq)×Zb×(List Zb)×(List Zb)×(List Zq)×Zr×(List Zb)×Zc×Zc×Zq×Int×Int×Bool×(Nat->Y2)×Bool×Int×Bool)⊕((Nat->Y2)×Zb×Zc×Bool×(Nat->Y2)×(Nat->Y2)×Bool×Int×Zc×(List Zq)×Zb×(List Zb)×(List Zb)×(List Zq)×Zr×(List Zb)×Zc×Zc×Zq×Int×Int×Bool×(Nat->Y2)×Bool×Int×Bool)⊕tq6⊕tq6⊕((Nat->Y2)×Zb×Zc×Bool×(Nat->Y2)×Bool×Int×Zc×(List Zq)×(List Zq)×Zr×(List Zb)×Zc×Zc×Int×Int×Bool×(Nat->Y2)×Bool×Int×Bool))->T):(tq9⊕tq9⊕tqk⊕tqk⊕tqa⊕tqa⊕tqk⊕tqk⊕tqb⊕tqb⊕tqk⊕tqk⊕tqe⊕tqe⊕tqm⊕tqm⊕(Zb×Zc×Bool×Zc×Zc))->T:=Sum.elim (fun y0=>k (.inl (x.u3,y0.1,y0.2.1,y0.u2,y0.u3,x.u7,y0.u4,x.u9,y0.u5,x.u11,y0.u6,y0.u7,x.u12,x.u13,x.u14,x.u15,y0.u8,y0.u9,x.u17,y0.v10,x.u18,x.u19,x.u20,x.u21,x.u22,x.v23))) (Sum.elim (fun y1=>k (.inr (.inl (x.u3,y1.1,y1.2.1,y1.u2,y1.u3,x.u7,y1.u4,x.u9,y1.u5,x.u11,y1.u6,y1.u7,x.u12,x.u13,x.u14,x.u15,y1.u8,y1.u9,x.u17,y1.v10,x.u18,x.u19,x.u20,x.u21,x.u22,x.v23)))) (Sum.elim (fun y2=>k (.inr (.inr (.inl (x.u3,y2.1,y2.2.1,y2.u2,y2.u3,x.u7,y2.u4,x.u9,y2.u5,x.u11,y2.u6,x.u12,x.u13,x.u14,x.u15,y2.u7,y2.v8,x.u17,x.u18,x.u19,x.u20,x.u21,x.u22,x.v23))))) (Sum.elim (fun y3=>k (.inr (.inr (.inr (.inl (x.u3,y3.1,y3.2.1,y3.u2,y3.u3,x.u7,y3.u4,x.u9,y3.u5,x.u11,y3.u6,x.u12,x.u13,x.u14,x.u15,y3.u7,y3.v8,x.u17,x.u18,x.u19,x.u20,x.u21,x.u22,x.v23)))))) (Sum.elim (fun y4=>k (.inr (.inr (.inr (.inr (.inl (x.u3,y4.1,y4.2.1,y4.u2,y4.u3,y4.u4,x.u7,y4.u5,x.u9,y4.u6,x.u11,y4.u7,x.u12,x.u13,x.u14,x.u15,y4.u8,y4.u9,x.u17,x.u18,y4.v10,x.u19,x.u20,x.u21,x.u22,x.v23))))))) (Sum.elim (fun y5=>k (.inr (.inr (.inr (.inr (.inr (.inl (x.u3,y5.1,y5.2.1,y5.u2,y5.u3,y5.u4,x.u7,y5.u5,x.u9,y5.u6,x.u11,y5.u7,x.u12,x.u13,x.u14,x.u15,y5.u8,y5.u9,x.u17,x.u18,y5.v10,x.u19,x.u20,x.u21,x.u22,x.v23)))))))) (Sum.elim (fun y6=>k (.inr (.inr (.inr (.inr (.inr (.inr (.inl (x.u3,y6.1,y6.2.1,y6.u2,y6.u3,x.u7,y6.u4,x.u9,y6.u5,x.u11,y6.u6,x.u12,x.u13,x.u14,x.u15,y6.u7,y6.v8,x.u17,x.u18,x.u19,x.u20,x.u21,x.u22,x.v23))))))))) (Sum.elim (fun y7=>k (.inr (.inr (.inr (.inr (.inr (.inr (.inr (.inl (x.u3,y7.1,y7.2.1,y7.u2,y7.u3,x.u7,y7.u4,x.u9,y7.u5,x.u11,y7.u6,x.u12,x.u13,x.u14,x.u15,y7.u7,y7.v8,x.u17,x.u18,x.u19,x.u20,x.u21,x.u22,x.v23)))))))))) (Sum.elim (fun y8=>k (.inr (.inr (.inr (.inr (.inr (.inr (.inr (.inr (.inl (y8.1,x.u3,y8.2.1,y8.u2,y8.u3,y8.u4,x.u7,y8.u5,x.u9,y8.u6,x.u11,y8.u7,x.u12,x.u13,x.u14,x.u15,y8.u8,y8.u9,y8.v10,x.u17,x.u18,x.u19,x.u20,x.u21,x.u22,x.v23))))))))))) (Sum.elim (fun y9=>k (.inr (.inr (.inr (.inr (.inr (.inr (.inr (.inr (.inr (.inl (y9.1,x.u3,y9.2.1,y9.u2,y9.u3,y9.u4,x.u7,y9.u5,x.u9,y9.u6,x.u11,y9.u7,x.u12,x.u13,x.u14,x.u15,y9.u8,y9.u9,y9.v10,x.u17,x.u18,x.u19,x.u20,x.u21,x.u22,x.v23)))))))))))) (Sum.elim (fun y10=>k (.inr (.inr (.inr (.inr (.inr (.inr (.inr (.inr (.inr (.inr (.inl (x.u3,y10.1,y10.2.1,y10.u2,y10.u3,x.u7,y10.u4,x.u9,y10.u5,x.u11,y10.u6,x.u12,x.u13,x.u14,x.u15,y10.u7,y10.v8,x.u17,x.u18,x.u19,x.u20,x.u21,x.u22,x.v23))))))))))))) (Sum.elim (fun y11=>k (.inr (.inr (.inr (.inr (.inr (.inr (.inr (.inr (.inr (.inr (.inr (.inl (x.u3,y11.1,y11.2.1,y11.u2,y11.u3,x.u7,y11.u4,x.u9,y11.u5,x.u11,y11.u6,x.u12,x.u13,x.u14,x.u15,y11.u7,y11.v8,x.u17,x.u18,x.u19,x.u20,x.u21,x.u22,x.v23)))))))))))))) (Sum.elim (fun y12=>k (.inr (.inr (.inr (.inr (.inr (.inr (.inr (.inr (.inr (.inr (.inr (.inr (.inl (x.u3,y12.1,y12.2.1,y12.u2,x.u3,x.u7,y12.u3,x.u9,y12.u4,x.u11,y12.u5,y12.u6,y12.u7,x.u12,x.u13,x.u14,x.u15,y12.u8,y12.v9,x.u17,x.u18,x.u19,x.u20,x.u21,x.u22,x.v23))))))))))))))) (Sum.elim (fun y13=>k (.inr (.inr (.inr (.inr (.inr (.inr (.inr (.inr (.inr (.inr (.inr (.inr (.inr (.inl (x.u3,y13.1,y13.2.1,y13.u2,x.u3,x.u7,y13.u3,x.u9,y13.u4,x.u11,y13.u5,y13.u6,y13.u7,x.u12,x.u13,x.u14,x.u15,y13.u8,y13.v9,x.u17,x.u18,x.u19,x.u20,x.u21,x.u22,x.v23)))))))))))))))) (Sum.elim (fun y14=>k (.inr (.inr (.inr (.inr (.inr (.inr (.inr (.inr (.inr (.inr (.inr (.inr (.inr (.inr (.inl (x.u3,y14.1,y14.2.1,y14.u2,x.u3,x.u7,y14.u3,x.u9,y14.u4,x.u11,y14.u5,x.u12,x.u13,x.u14,x.u15,y14.u6,y14.v7,x.u17,x.u18,x.u19,x.u20,x.u21,x.u22,x.v23))))))))))))))))) (Sum.elim (fun y15=>k (.inr (.inr (.inr (.inr (.inr (.inr (.inr (.inr (.inr (.inr (.inr (.inr (.inr (.inr (.inr (.inl (x.u3,y15.1,y15.2.1,y15.u2,x.u3,x.u7,y15.u3,x.u9,y15.u4,x.u11,y15.u5,x.u12,x.u13,x.u14,x.u15,y15.u6,y15.v7,x.u17,x.u18,x.u19,x.u20,x.u21,x.u22,x.v23)))))))))))))))))) (fun y16=>k (.inr (.inr (.inr (.inr (.inr (.inr (.inr (.inr (.inr (.inr (.inr (.inr (.inr (.inr (.inr (.inr (x.u3,y16.1,y16.2.1,y16.u2,x.u7,x.u8,x.u9,y16.u3,x.u11,x.u12,x.u13,x.u14,x.u15,y16.v4,x.u17,x.u18,x.u19,x.u20,x.u21,x.u22,x.v23)))))))))))))))))))))))))))))))))
def q4X (x:tq7) (v:(Int×Int×Zb×Zc×Bool×Zc×Zc)):tq7:=(x.1,v.1,v.2.1,x.u3,v.u2,v.u3,v.u4,x.u7,x.u8,x.u9,v.u5,x.u11,x.u12,x.u13,x.u14,x.u15,v.v6,x.u17,x.u18,x.u19,x.u20,x.u21,x.u22,x.v23)
theorem q4Y (x:tq7):LE.step X q4V q3X q4s q4 12 x=Wi x.1 x.u3 x.u7 x.u8 x.u9 x.u11 x.u12 x.u13 x.u14 x.u15 x.u17 x.u18 x.u19 x.u20 x.u21 x.u22 x.v23 x.2.1 x.u2 x.u4 x.u5 x.u6 x.u10 x.u16 (fun w=>Sum.inl (q4X x w)) (fun o=>Sum.inr (q4W x id o)):=by kernel_rfl
def q4Z {R:Type}:Z21 S R:=LE.ls X q4V (fun x k=>(X1r x.1 x.u3 x.u7 x.u8 x.u9 x.u11 x.u12 x.u13 x.u14 x.u15 x.u17 x.u18 x.u19 x.u20 x.u21 x.u22 x.v23 (x.2.1,x.u2,x.u4,x.u5,x.u6,x.u10,x.u16)).bind (q4W x k)) q4
theorem q50 {R:Type}:Z2e X (q4Z (R:=R)):=Zke xok q3Y (e:=q4V) q4t q5 (st:=fun(x:tq7)=>WC x.1 x.u3 x.u7 x.u8 x.u9 x.u11 x.u12 x.u13 x.u14 x.u15 x.u17 x.u18 x.u19 x.u20 x.u21 x.u22 x.v23) (prj:=fun(x:tq7)=>(x.2.1,x.u2,x.u4,x.u5,x.u6,x.u10,x.u16)) (emb:=q4X) q4W (fun x=>(q4Y x).trans (by unfold WC Wi X1;simp only[Zk2,ZjT,Zk3,Option.map_some,Option.map_none];rfl)) q5
theorem q51 (x:((Nat->Y2)×Int×Zc×Bool×Zc×Zc)):PE.step X q4x q3X q4s q4Z 12 x=W3 x.1 x.2.1 x.u2 x.u3 x.u4 x.v5:=by kernel_rfl
theorem q52:ZcD X q4x XX:=Zkf (ZjG xok q3Y q4t q50 12) fun x _ h=>((q51 x).trans (X1S x).symm).trans h
def q53 {R:Type}:Prs S R:=PE.ps X q4x (fun x q=>(XX x).bind q) q4s
theorem q54 {R:Type}:Z8k X (q53 (R:=R)):=Zk8 (e:=q4x) q52 q4t
def q55:StT S:=⟨(N (N L (some (.ptr 1 0)) L) (some (.yld 3)) L),(N (N (N L o8 L) om L) or (N L om L)),4⟩
def q56:Way S:=⟨.ret,⟨(N L (some (.tup [])) L),(N (N (N L o8 L) om L) or (N L om L)),4⟩,[(.st 25),(.st 25),.bool,(.st 25)]⟩
def q57:Way S:=⟨.ret,⟨(N L (some (.tup [])) L),(N (N (N L (some (.loop 39 (N (N L (some (.ptr 2 0)) L) (some (.agg [(.stc 25 (T.dflt 25))])) (N (N L (some (.fn (.func 81) [] [(.ptr 1 0)])) L) (some (.ptr 0 0)) L)) (5::[]) .skip .skip 0 .ret (0::(39::[])) (0::(1::(0::(1::[])))))) L) om L) or (N L om L)),4⟩,[(.st 25),(.st 25),.bool,(.st 25)]⟩
def q58:PE S:=⟨81,2,q55,[(.st 25),(.st 25),.bool,(.st 25)],[q56,q57]⟩
def q5d:Key:=⟨[81],81,none,[0,0,1,0,1,1],0,11⟩
def q5e:StT S:=⟨(N (N (N L (some (.ptr 5 0)) (N L vD L)) (some (.ptr 1 0)) (N (N L vz L) none L)) none (N L (some (.ptr 4 0)) (N (N L vD L) none L))),o1x,11⟩
def q5f:Way S:=⟨(.exit 0),⟨(N (N (N L (some (.ptr 5 0)) L) (some (.ptr 1 0)) L) none (N L (some (.ptr 4 0)) L)),o1x,12⟩,[(.st 25),(.st 25),(.arr (.st 5)),.bool,(.st 25)]⟩
def q5g:LE S:=⟨q5d,q5e,[.int,(.lst (.st 19)),.int,(.st 25),(.st 25),(.arr (.st 5)),.bool,(.st 25)],[q5f]⟩
def q5h {T:Type} (x:tqo) (k:(Zc×Zc×(Nat->Y2)×Bool×Zc)->T):(Nat->Y2)->T:=fun y0=>k (x.u3,x.u4,y0,x.u6,x.v7)
def q5i (x:tqo) (v:(Int×(Nat->Y2))):tqo:=(v.1,x.2.1,x.u2,x.u3,x.u4,v.2,x.u6,x.v7)
theorem q5j (x:tqo):LE.step X q5g q3X q2n q4 12 x=X6 x.2.1 x.u2 x.u3 x.u4 x.u6 x.v7 x.1 x.u5 (fun w=>Sum.inl (q5i x w)) (fun o=>Sum.inr (q5h x id o)):=by kernel_rfl
def q5k {R:Type}:Z21 S R:=LE.ls X q5g (fun x k=>(W1 x.2.1 x.u2 x.u3 x.u4 x.u6 x.v7 (x.1,x.u5)).bind (q5h x k)) q4
theorem q5l {R:Type}:Z2e X (q5k (R:=R)):=Zke xok q3Y (e:=q5g) q2o q5 (st:=fun(x:tqo)=>Xh x.2.1 x.u2 x.u3 x.u4 x.u6 x.v7) (prj:=fun(x:tqo)=>(x.1,x.u5)) (emb:=q5i) q5h (fun x=>(q5j x).trans (by unfold Xh X6;simp only[Zk2,ZjT,Zk3,Option.map_some,Option.map_none];rfl)) q5
theorem q5m (x:(Zc×Zc×Bool×Zc)):PE.step X q58 q3X q53 q5k 12 x=XI x.1 x.2.1 x.u2 x.v3:=by kernel_rfl
theorem q5n:ZcD X q58 WR:=Zkf (ZjG xok q3Y q54 q5l 12) fun x _ h=>((q5m x).trans (X2o x).symm).trans h
def q5o {R:Type}:Prs S R:=PE.ps X q58 (fun x q=>(WR x).bind q) q53
theorem q5p {R:Type}:Z8k X (q5o (R:=R)):=Zk8 (e:=q58) q5n q54
theorem q5r:Z95 X (q3X):=⟨q3S,trivial⟩
theorem q5u (x0:Zc):Zkg X q3X [(.st 25)] [.bool] q5o q4 12 39 (x0,())=Wt x0:=by kernel_rfl
def q5v:F7 S:=⟨[(.st 25)],[.bool],fun xs=>XV xs.1⟩
theorem q5w:Zav X 39 q5v:=Zkd (Zkc xok q5r q5p q5 12 39) fun xs _ h=>((q5u xs.1).trans (X3d xs.1).symm).trans h
def q5x:List (Nat×F7 S):=[(37,q2B),(57,qF),(39,q5v)]
theorem q5y:Z95 X (q5x):=⟨q2C,qG,q5w,trivial⟩
theorem q5B (x0:CoRecord) (x1:List Zr) (x2:Zr):Zkg X q5x [(.st 20),(.sl (.st 21)),(.st 21)] [(.st 25),(.int .i64)] q5o q4 12 31 (x0,x1,x2,())=X2x x0 x1 x2:=by kernel_rfl
def q5C:F7 S:=⟨[(.st 20),(.sl (.st 21)),(.st 21)],[(.st 25),(.int .i64)],fun xs=>X47 xs.1 xs.2.1 xs.u2⟩
theorem q5D:Zav X 31 q5C:=Zkd (Zkc xok q5y q5p q5 12 31) fun xs _ h=>((q5B xs.1 xs.2.1 xs.u2).trans (X4M xs.1 xs.2.1 xs.u2).symm).trans h
theorem q5I (x0:Zc) (x1:List Zr):Zkg X q2 [(.st 25),(.sl (.st 21))] [(.st 25)] q5o q4 12 79 (x0,x1,())=WK x0 x1:=by kernel_rfl
def q5J:F7 S:=⟨[(.st 25),(.sl (.st 21))],[(.st 25)],fun xs=>X2h xs.1 xs.2.1⟩
theorem q5K:Zav X 79 q5J:=Zkd (Zkc xok q3 q5p q5 12 79) fun xs _ h=>((q5I xs.1 xs.2.1).trans (X3k xs.1 xs.2.1).symm).trans h
theorem q5P (x0:Int):Zkg X q2 [(.int .u32)] [(.int .i64)] q5o q4 12 144 (x0,())=X1N x0:=by kernel_rfl
def q5Q:F7 S:=⟨[(.int .u32)],[(.int .i64)],fun xs=>X4h xs.1⟩
theorem q5R:Zav X 144 q5Q:=Zkd (Zkc xok q3 q5p q5 12 144) fun xs _ h=>((q5P xs.1).trans (X4Z xs.1).symm).trans h
theorem q5W (x0:Int):Zkg X q2 [(.int .u64)] [(.int .i64)] q5o q4 12 145 (x0,())=X1O x0:=by kernel_rfl
def q5X:F7 S:=⟨[(.int .u64)],[(.int .i64)],fun xs=>X4i xs.1⟩
theorem q5Y:Zav X 145 q5X:=Zkd (Zkc xok q3 q5p q5 12 145) fun xs _ h=>((q5W xs.1).trans (X50 xs.1).symm).trans h
def q5Z:List (Nat×F7 S):=[(144,q5Q),(145,q5X)]
theorem q60:Z95 X (q5Z):=⟨q5R,q5Y,trivial⟩
theorem q63 (x0:Int):Zkg X q5Z [(.int .u64)] [(.int .i64)] q5o q4 12 118 (x0,())=X2v x0:=by kernel_rfl
def q64:F7 S:=⟨[(.int .u64)],[(.int .i64)],fun xs=>X4U xs.1⟩
theorem q65:Zav X 118 q64:=Zkd (Zkc xok q60 q5p q5 12 118) fun xs _ h=>((q63 xs.1).trans (X5s xs.1).symm).trans h
theorem q6a (x0:Int):Zkg X q2 [(.int .i64)] [.bool] q5o q4 12 91 (x0,())=X4L x0:=by kernel_rfl
def q6b:F7 S:=⟨[(.int .i64)],[.bool],fun xs=>X4L xs.1⟩
theorem q6c:Zav X 91 q6b:=Zkd (Zkc xok q3 q5p q5 12 91) fun xs _ h=>(q6a xs.1).trans h
def q6d:List (Nat×F7 S):=[(91,q6b)]
theorem q6e:Z95 X (q6d):=⟨q6c,trivial⟩
theorem q6h (x0 x1:Int):Zkg X q6d [(.int .i64),(.int .i64)] [.bool] q5o q4 12 141 (x0,x1,())=X2I x0 x1:=by kernel_rfl
def q6i:F7 S:=⟨[(.int .i64),(.int .i64)],[.bool],fun xs=>X54 xs.1 xs.2.1⟩
theorem q6j:Zav X 141 q6i:=Zkd (Zkc xok q6e q5p q5 12 141) fun xs _ h=>((q6h xs.1 xs.2.1).trans (X5G xs.1 xs.2.1).symm).trans h
def q6k:List (Nat×F7 S):=[(141,q6i)]
theorem q6l:Z95 X (q6k):=⟨q6j,trivial⟩
theorem q6o (x0:List Int) (x1 x2:Int):Zkg X q6k [(.sl (.int .i64)),(.int .i64),(.int .i64)] [] q5o q4 12 135 (x0,x1,x2,())=XF x0 x1 x2:=by kernel_rfl
def q6p:F7 S:=⟨[(.sl (.int .i64)),(.int .i64),(.int .i64)],[],fun xs=>X1M xs.1 xs.2.1 xs.u2⟩
theorem q6q:Zav X 135 q6p:=Zkd (Zkc xok q6l q5p q5 12 135) fun xs _ h=>((q6o xs.1 xs.2.1 xs.u2).trans (X2Z xs.1 xs.2.1 xs.u2).symm).trans h
theorem q6v (x0:List Int) (x1 x2 x3:Int):Zkg X q6k [(.sl (.int .i64)),(.int .i64),(.int .i64),(.int .i64)] [] q5o q4 12 163 (x0,x1,x2,x3,())=Wb x0 x1 x2 x3:=by kernel_rfl
def q6w:F7 S:=⟨[(.sl (.int .i64)),(.int .i64),(.int .i64),(.int .i64)],[],fun xs=>X2G xs.1 xs.2.1 xs.u2 xs.u3⟩
theorem q6x:Zav X 163 q6w:=Zkd (Zkc xok q6l q5p q5 12 163) fun xs _ h=>((q6v xs.1 xs.2.1 xs.u2 xs.u3).trans (X3x xs.1 xs.2.1 xs.u2 xs.u3).symm).trans h
def q6y:List (Nat×F7 S):=[(163,q6w)]
theorem q6z:Z95 X (q6y):=⟨q6x,trivial⟩
theorem q6C (x0:List Int) (x1 x2:Int):Zkg X q6y [(.sl (.int .i64)),(.int .i64),(.int .i64)] [] q5o q4 12 136 (x0,x1,x2,())=Wa x0 x1 x2:=by kernel_rfl
def q6D:F7 S:=⟨[(.sl (.int .i64)),(.int .i64),(.int .i64)],[],fun xs=>X2F xs.1 xs.2.1 xs.u2⟩
theorem q6E:Zav X 136 q6D:=Zkd (Zkc xok q6z q5p q5 12 136) fun xs _ h=>((q6C xs.1 xs.2.1 xs.u2).trans (X3w xs.1 xs.2.1 xs.u2).symm).trans h
def q6F:List (Nat×F7 S):=[(118,q64)]
theorem q6G:Z95 X (q6F):=⟨q65,trivial⟩
theorem q6J (x0:Int):Zkg X q6F [(.int .i64)] [(.int .u64)] q5o q4 12 164 (x0,())=WS x0:=by kernel_rfl
def q6K:F7 S:=⟨[(.int .i64)],[(.int .u64)],fun xs=>X3m xs.1⟩
theorem q6L:Zav X 164 q6K:=Zkd (Zkc xok q6G q5p q5 12 164) fun xs _ h=>((q6J xs.1).trans (X3X xs.1).symm).trans h
def q6M:List (Nat×F7 S):=[(164,q6K)]
theorem q6N:Z95 X (q6M):=⟨q6L,trivial⟩
theorem q6Q (x0:List Int) (x1 x2:Int):Zkg X q6M [(.sl (.int .i64)),(.int .i64),(.int .i64)] [] q5o q4 12 137 (x0,x1,x2,())=XE x0 x1 x2:=by kernel_rfl
def q6R:F7 S:=⟨[(.sl (.int .i64)),(.int .i64),(.int .i64)],[],fun xs=>X1L xs.1 xs.2.1 xs.u2⟩
theorem q6S:Zav X 137 q6R:=Zkd (Zkc xok q6N q5p q5 12 137) fun xs _ h=>((q6Q xs.1 xs.2.1 xs.u2).trans (X2Y xs.1 xs.2.1 xs.u2).symm).trans h
theorem q6X (x0:List Int) (x1 x2:Int):Zkg X q6k [(.sl (.int .i64)),(.int .i64),(.int .i64)] [(.int .i64),(.int .i64)] q5o q4 12 138 (x0,x1,x2,())=XU x0 x1 x2:=by kernel_rfl
def q6Y:F7 S:=⟨[(.sl (.int .i64)),(.int .i64),(.int .i64)],[(.int .i64),(.int .i64)],fun xs=>X2a xs.1 xs.2.1 xs.u2⟩
theorem q6Z:Zav X 138 q6Y:=Zkd (Zkc xok q6l q5p q5 12 138) fun xs _ h=>((q6X xs.1 xs.2.1 xs.u2).trans (X3h xs.1 xs.2.1 xs.u2).symm).trans h
theorem q74 (x0:List Int) (x1 x2:Int):Zkg X q2 [(.sl (.int .i64)),(.int .i64),(.int .i64)] [] q5o q4 12 139 (x0,x1,x2,())=XO x0 x1 x2:=by kernel_rfl
def q75:F7 S:=⟨[(.sl (.int .i64)),(.int .i64),(.int .i64)],[],fun xs=>X21 xs.1 xs.2.1 xs.u2⟩
theorem q76:Zav X 139 q75:=Zkd (Zkc xok q3 q5p q5 12 139) fun xs _ h=>((q74 xs.1 xs.2.1 xs.u2).trans (X3b xs.1 xs.2.1 xs.u2).symm).trans h
theorem q7b (x0:List Int) (x1 x2:Int):Zkg X q6k [(.sl (.int .i64)),(.int .i64),(.int .i64)] [.bool] q5o q4 12 140 (x0,x1,x2,())=Xi x0 x1 x2:=by kernel_rfl
def q7c:F7 S:=⟨[(.sl (.int .i64)),(.int .i64),(.int .i64)],[.bool],fun xs=>WY xs.1 xs.2.1 xs.u2⟩
theorem q7d:Zav X 140 q7c:=Zkd (Zkc xok q6l q5p q5 12 140) fun xs _ h=>((q7b xs.1 xs.2.1 xs.u2).trans (X2u xs.1 xs.2.1 xs.u2).symm).trans h
theorem q7i (x0:List Int) (x1 x2 x3:Int):Zkg X q6k [(.sl (.int .i64)),(.int .i64),(.int .i64),(.int .i64)] [(.int .i64)] q5o q4 12 142 (x0,x1,x2,x3,())=Xt x0 x1 x2 x3:=by kernel_rfl
def q7j:F7 S:=⟨[(.sl (.int .i64)),(.int .i64),(.int .i64),(.int .i64)],[(.int .i64)],fun xs=>X1K xs.1 xs.2.1 xs.u2 xs.u3⟩
theorem q7k:Zav X 142 q7j:=Zkd (Zkc xok q6l q5p q5 12 142) fun xs _ h=>((q7i xs.1 xs.2.1 xs.u2 xs.u3).trans (X2R xs.1 xs.2.1 xs.u2 xs.u3).symm).trans h
theorem q7p (x0:List Int) (x1 x2 x3:Int):Zkg X q6k [(.sl (.int .i64)),(.int .i64),(.int .i64),(.int .i64)] [(.int .i64),.bool] q5o q4 12 143 (x0,x1,x2,x3,())=W5 x0 x1 x2 x3:=by kernel_rfl
def q7q:F7 S:=⟨[(.sl (.int .i64)),(.int .i64),(.int .i64),(.int .i64)],[(.int .i64),.bool],fun xs=>X2w xs.1 xs.2.1 xs.u2 xs.u3⟩
theorem q7r:Zav X 143 q7q:=Zkd (Zkc xok q6l q5p q5 12 143) fun xs _ h=>((q7p xs.1 xs.2.1 xs.u2 xs.u3).trans (X3p xs.1 xs.2.1 xs.u2 xs.u3).symm).trans h
def q7s (ih:tqy->Option (Unit)):List (Nat×F7 S):=[(135,q6p),(136,q6D),(137,q6R),(138,q6Y),(139,q75),(140,q7c),(141,q6i),(142,q7j),(143,q7q),(117,⟨[(.sl (.int .i64)),(.int .i64),(.int .i64),(.int .i64)],[],ih⟩)]
theorem q7t (ih:tqy->Option (Unit)) (hih:Zav X 117 ⟨[(.sl (.int .i64)),(.int .i64),(.int .i64),(.int .i64)],[],ih⟩):Z95 X (q7s ih):=⟨q6q,q6E,q6S,q6Z,q76,q7d,q6j,q7k,q7r,hih,trivial⟩
abbrev q7u (ih:tqy->Option (Unit)) {R:Type}:Z21 S R:=Zj1
theorem q7v (ih:tqy->Option (Unit)) (hih:Zav X 117 ⟨[(.sl (.int .i64)),(.int .i64),(.int .i64),(.int .i64)],[],ih⟩) {R:Type}:Z2e X (q7u ih (R:=R)):=ZjC X
theorem q7w (ih:tqy->Option (Unit)) (x0:List Int) (x1 x2 x3:Int):Zkg X (q7s ih) [(.sl (.int .i64)),(.int .i64),(.int .i64),(.int .i64)] [] q5o (q7u ih) 12 117 (x0,x1,x2,x3,())=X2c ih x0 x1 x2 x3:=by kernel_rfl
def q7x:F7 S:=⟨[(.sl (.int .i64)),(.int .i64),(.int .i64),(.int .i64)],[],fun xs=>X3O xs.1 xs.2.1 xs.u2 xs.u3⟩
theorem q7y:Zav X 117 q7x:=ZkS (X:=X) (g:=117) (pts:=[(.sl (.int .i64)),(.int .i64),(.int .i64),(.int .i64)]) (rts:=[]) (t:=X2d) fun ih hih=>Zkd (Zkc xok (q7t ih hih) q5p (q7v ih hih) 12 117) fun xs _ h=>(q7w ih xs.1 xs.2.1 xs.u2 xs.u3).trans h
def q7z:List (Nat×F7 S):=[(79,q5J),(39,q5v),(118,q64),(117,q7x)]
theorem q7A:Z95 X (q7z):=⟨q5K,q5w,q65,q7y,trivial⟩
def q7D:Key:=⟨[52],52,none,[0,0,1,0,1,1],0,12⟩
def q7E:StT S:=⟨(N (N (N (N L (some (.map 2)) L) (some (.ptr 0 0)) L) vD v1F) none (N L vD (N (N (N L vD L) none L) (some .nils) L))),o1u,12⟩
def q7F:Way S:=⟨(.exit 0),⟨(N (N (N (N L (some (.map 2)) L) none L) none L) none (N L none (N L (some .nils) L))),o1u,13⟩,[(.st 25),(.mp (.int .i64) (.int .i64))]⟩
def q7G:LE S:=⟨q7D,q7E,[.int,.int,.int,.int,(.st 25),(.mp (.int .i64) (.int .i64))],[q7F]⟩
def q7H {T:Type} (x:tqs) (k:(Zc×(List (Int×Int)))->T):(List (Int×Int))->T:=fun y0=>k (x.u4,y0)
def q7I (x:tqs) (v:(Int×(List (Int×Int)))):tqs:=(x.1,x.2.1,x.u2,v.1,x.u4,v.2)
theorem q7J (x:tqs):LE.step X q7G q7z q5o q4 12 x=XS x.1 x.2.1 x.u2 x.u4 x.u3 x.v5 (fun w=>Sum.inl (q7I x w)) (fun o=>Sum.inr (q7H x id o)):=by kernel_rfl
def q7K {R:Type}:Z21 S R:=LE.ls X q7G (fun x k=>(X1h x.1 x.2.1 x.u2 x.u4 (x.u3,x.v5)).bind (q7H x k)) q4
theorem q7L {R:Type}:Z2e X (q7K (R:=R)):=Zke xok q7A (e:=q7G) q5p q5 (st:=fun(x:tqs)=>XB x.1 x.2.1 x.u2 x.u4) (prj:=fun(x:tqs)=>(x.u3,x.v5)) (emb:=q7I) q7H (fun x=>(q7J x).trans (by unfold XB XS;simp only[Zk2,ZjT,Zk3,Option.map_some,Option.map_none];rfl)) q5
theorem q7M (x0:Zc) (x1 x2:Int):Zkg X q7z [(.st 25),(.int .i64),(.int .i64)] [(.sl (.int .i64))] q5o q7K 12 52 (x0,x1,x2,())=Wh x0 x1 x2:=by kernel_rfl
def q7N:F7 S:=⟨[(.st 25),(.int .i64),(.int .i64)],[(.sl (.int .i64))],fun xs=>X1C xs.1 xs.2.1 xs.u2⟩
theorem q7O:Zav X 52 q7N:=Zkd (Zkc xok q7A q5p q7L 12 52) fun xs _ h=>((q7M xs.1 xs.2.1 xs.u2).trans (X36 xs.1 xs.2.1 xs.u2).symm).trans h
def q7T:Key:=⟨[88],88,none,[0,0,1,0,1],0,4⟩
def q7U:StT S:=⟨(N (N (N (N L vD L) none L) vD L) (some (.sl (.int .i64) [])) v1F),L,4⟩
def q7V:Way S:=⟨.ret,⟨v1G,L,15⟩,[.int]⟩
def q7W:Way S:=⟨(.exit 0),⟨L,L,5⟩,[]⟩
def q7X:LE S:=⟨q7T,q7U,[.int,.int,(.lst (.int .i64)),.int],[q7V,q7W]⟩
def q7Y {T:Type} (x:tqH) (k:(Int⊕Unit)->T):(Int⊕Unit)->T:=Sum.elim (fun y0=>k (.inl y0)) (fun y1=>k (.inr ()))
def q7Z (x:tqH) (v:Int):tqH:=(x.1,x.2.1,x.u2,v)
theorem q80 (x:tqH):LE.step X q7X q2 q5o q4 12 x=XT x.1 x.2.1 x.u2 x.v3 (fun w=>Sum.inl (q7Z x w)) (fun o=>Sum.inr (q7Y x id o)):=by kernel_rfl
def q81 {R:Type}:Z21 S R:=LE.ls X q7X (fun x k=>(X1j x.1 x.2.1 x.u2 x.v3).bind (q7Y x k)) q4
theorem q82 {R:Type}:Z2e X (q81 (R:=R)):=Zke xok q3 (e:=q7X) q5p q5 (st:=fun(x:tqH)=>XD x.1 x.2.1 x.u2) (prj:=fun(x:tqH)=>x.v3) (emb:=q7Z) q7Y (fun x=>(q80 x).trans (by unfold XD XT;simp only[Zk2,ZjT,Zk3,Option.map_some,Option.map_none];rfl)) q5
theorem q83 (x0:List Int) (x1:Int):Zkg X q2 [(.sl (.int .i64)),(.int .i64)] [(.int .i64)] q5o q81 12 88 (x0,x1,())=Wp x0 x1:=by kernel_rfl
def q84:F7 S:=⟨[(.sl (.int .i64)),(.int .i64)],[(.int .i64)],fun xs=>X1I xs.1 xs.2.1⟩
theorem q85:Zav X 88 q84:=Zkd (Zkc xok q3 q5p q82 12 88) fun xs _ h=>((q83 xs.1 xs.2.1).trans (X39 xs.1 xs.2.1).symm).trans h
def q86:List (Nat×F7 S):=[(88,q84)]
theorem q87:Z95 X (q86):=⟨q85,trivial⟩
theorem q8a (x0:List Int) (x1:Int):Zkg X q86 [(.sl (.int .i64)),(.int .i64)] [.bool] q5o q4 12 58 (x0,x1,())=W2 x0 x1:=by kernel_rfl
def q8b:F7 S:=⟨[(.sl (.int .i64)),(.int .i64)],[.bool],fun xs=>X13 xs.1 xs.2.1⟩
theorem q8c:Zav X 58 q8b:=Zkd (Zkc xok q87 q5p q5 12 58) fun xs _ h=>((q8a xs.1 xs.2.1).trans (X2D xs.1 xs.2.1).symm).trans h
def q8d:List (Nat×F7 S):=[(52,q7N),(58,q8b)]
theorem q8e:Z95 X (q8d):=⟨q7O,q8c,trivial⟩
theorem q8h (x0:Zc) (x1:Zr):Zkg X q8d [(.st 25),(.st 21)] [(.int .i64)] q5o q4 12 32 (x0,x1,())=Wf x0 x1:=by kernel_rfl
def q8i:F7 S:=⟨[(.st 25),(.st 21)],[(.int .i64)],fun xs=>X1B xs.1 xs.2.1⟩
theorem q8j:Zav X 32 q8i:=Zkd (Zkc xok q8e q5p q5 12 32) fun xs _ h=>((q8h xs.1 xs.2.1).trans (X32 xs.1 xs.2.1).symm).trans h
def q8k:List (Nat×F7 S):=[(31,q5C),(32,q8i)]
theorem q8l:Z95 X (q8k):=⟨q5D,q8j,trivial⟩
theorem q8o (x0:CoRecord) (x1:List Zr) (x2:Zr):Zkg X q8k [(.st 20),(.sl (.st 21)),(.st 21)] [(.int .i64),(.int .i64)] q5o q4 12 8 (x0,x1,x2,())=X1P x0 x1 x2:=by kernel_rfl
def q8p:F7 S:=⟨[(.st 20),(.sl (.st 21)),(.st 21)],[(.int .i64),(.int .i64)],fun xs=>X1d xs.1 xs.2.1 xs.u2⟩
theorem q8q:Zav X 8 q8p:=Zkd (Zkc xok q8l q5p q5 12 8) fun xs _ h=>((q8o xs.1 xs.2.1 xs.u2).trans (X4f xs.1 xs.2.1 xs.u2).symm).trans h
theorem q8v (x0 x1 x2:Int):Zkg X q2 [(.int .i64),(.int .i64),(.int .i64)] [.bool] q5o q4 12 86 (x0,x1,x2,())=X3g x0 x1 x2:=by kernel_rfl
def q8w:F7 S:=⟨[(.int .i64),(.int .i64),(.int .i64)],[.bool],fun xs=>X3v xs.1 xs.2.1 xs.u2⟩
theorem q8x:Zav X 86 q8w:=Zkd (Zkc xok q3 q5p q5 12 86) fun xs _ h=>((q8v xs.1 xs.2.1 xs.u2).trans (X5x xs.1 xs.2.1 xs.u2).symm).trans h
theorem q8C (x0 x1 x2:Int):Zkg X q2 [(.int .i64),(.int .i64),(.int .i64)] [.bool] q5o q4 12 147 (x0,x1,x2,())=X3K x0 x1 x2:=by kernel_rfl
def q8D:F7 S:=⟨[(.int .i64),(.int .i64),(.int .i64)],[.bool],fun xs=>X3K xs.1 xs.2.1 xs.u2⟩
theorem q8E:Zav X 147 q8D:=Zkd (Zkc xok q3 q5p q5 12 147) fun xs _ h=>(q8C xs.1 xs.2.1 xs.u2).trans h
def q8F:List (Nat×F7 S):=[(147,q8D)]
theorem q8G:Z95 X (q8F):=⟨q8E,trivial⟩
def q8J:Key:=⟨[122],122,none,[0,0,1,0,1,1],0,6⟩
def q8K:StT S:=⟨(N (N (N L vD L) none L) vx L),L,6⟩
def q8L:Way S:=⟨.ret,⟨(N L none (N L vE L)),L,43⟩,[.bool]⟩
def q8M:Way S:=⟨(.exit 0),⟨L,L,10⟩,[]⟩
def q8N:LE S:=⟨q8J,q8K,[.int,.str],[q8L,q8M]⟩
def q8O {T:Type} (x:(Int×ByteArray)) (k:(Bool⊕Unit)->T):(Bool⊕Unit)->T:=Sum.elim (fun y0=>k (.inl y0)) (fun y1=>k (.inr ()))
def q8P (x:(Int×ByteArray)) (v:Int):(Int×ByteArray):=(v,x.2)
theorem q8Q (x:(Int×ByteArray)):LE.step X q8N q8F q5o q4 12 x=X1v x.2 x.1 (fun w=>Sum.inl (q8P x w)) (fun o=>Sum.inr (q8O x id o)):=by kernel_rfl
def q8R {R:Type}:Z21 S R:=LE.ls X q8N (fun x k=>(X3S x.2 x.1).bind (q8O x k)) q4
theorem q8S {R:Type}:Z2e X (q8R (R:=R)):=Zke xok q8G (e:=q8N) q5p q5 (st:=fun(x:(Int×ByteArray))=>X1n x.2) (prj:=fun(x:(Int×ByteArray))=>x.1) (emb:=q8P) q8O (fun x=>(q8Q x).trans (by unfold X1n X1v;simp only[Zk2,ZjT,Zk3,Option.map_some,Option.map_none];rfl)) q5
theorem q8T (x0:ByteArray):Zkg X q8F [.str] [.bool] q5o q8R 12 122 (x0,())=X3J x0:=by kernel_rfl
def q8U:F7 S:=⟨[.str],[.bool],fun xs=>X3J xs.1⟩
theorem q8V:Zav X 122 q8U:=Zkd (Zkc xok q8G q5p q8S 12 122) fun xs _ h=>(q8T xs.1).trans h
def q90:Key:=⟨[123],123,none,[0,0,1,0,1],0,2⟩
def q91:StT S:=⟨(N (N L vx (N L vD L)) (some (.sl .str [])) L),L,2⟩
def q92:Way S:=⟨.ret,⟨v1G,L,14⟩,[.int]⟩
def q93:Way S:=⟨(.exit 0),⟨L,L,6⟩,[]⟩
def q94:LE S:=⟨q90,q91,[.str,.int,(.lst .str)],[q92,q93]⟩
def q95 {T:Type} (x:tqB) (k:(Int⊕Unit)->T):(Int⊕Unit)->T:=Sum.elim (fun y0=>k (.inl y0)) (fun y1=>k (.inr ()))
def q96 (x:tqB) (v:Int):tqB:=(x.1,v,x.v2)
theorem q97 (x:tqB):LE.step X q94 q2 q5o q4 12 x=X17 x.1 x.v2 x.2.1 (fun w=>Sum.inl (q96 x w)) (fun o=>Sum.inr (q95 x id o)):=by kernel_rfl
def q98 {R:Type}:Z21 S R:=LE.ls X q94 (fun x k=>(X2V x.1 x.v2 x.2.1).bind (q95 x k)) q4
theorem q99 {R:Type}:Z2e X (q98 (R:=R)):=Zke xok q3 (e:=q94) q5p q5 (st:=fun(x:tqB)=>WL x.1 x.v2) (prj:=fun(x:tqB)=>x.2.1) (emb:=q96) q95 (fun x=>(q97 x).trans (by unfold WL X17;simp only[Zk2,ZjT,Zk3,Option.map_some,Option.map_none];rfl)) q5
theorem q9a (x0:List ByteArray) (x1:ByteArray):Zkg X q2 [(.sl .str),.str] [(.int .i64)] q5o q98 12 123 (x0,x1,())=X3T x0 x1:=by kernel_rfl
def q9b:F7 S:=⟨[(.sl .str),.str],[(.int .i64)],fun xs=>X3T xs.1 xs.2.1⟩
theorem q9c:Zav X 123 q9b:=Zkd (Zkc xok q3 q5p q99 12 123) fun xs _ h=>(q9a xs.1 xs.2.1).trans h
def q9d:List (Nat×F7 S):=[(122,q8U),(123,q9b)]
theorem q9e:Z95 X (q9d):=⟨q8V,q9c,trivial⟩
theorem q9h (x0:ByteArray) (x1:List ByteArray):Zkg X q9d [.str,(.sl .str)] [(.int .i64)] q5o q4 12 87 (x0,x1,())=X3u x0 x1:=by kernel_rfl
def q9i:F7 S:=⟨[.str,(.sl .str)],[(.int .i64)],fun xs=>X3u xs.1 xs.2.1⟩
theorem q9j:Zav X 87 q9i:=Zkd (Zkc xok q9e q5p q5 12 87) fun xs _ h=>(q9h xs.1 xs.2.1).trans h
def q9o:Key:=⟨[124],124,none,[0,0,1,0,1,1],0,3⟩
def q9p:StT S:=⟨(N (N (N (N L vD L) none L) vD L) vC (N (N (N L vD L) none L) vD L)),L,3⟩
def q9q:Way S:=⟨.ret,⟨(N L none (N L none (N L vD L))),L,28⟩,[.int]⟩
def q9r:Way S:=⟨(.exit 0),⟨(N v1F none L),L,7⟩,[.int]⟩
def q9s:LE S:=⟨q9o,q9p,[.int,.int,(.lst (.st 5)),.int,.int],[q9q,q9r]⟩
def q9t {T:Type} (x:tqz) (k:(Int⊕Int)->T):(Int⊕Int)->T:=Sum.elim (fun y0=>k (.inl y0)) (fun y1=>k (.inr y1))
def q9u (x:tqz) (v:(Int×Int)):tqz:=(v.1,x.2.1,x.u2,v.2,x.v4)
theorem q9v (x:tqz):LE.step X q9s q8F q5o q4 12 x=WX x.2.1 x.u2 x.v4 x.1 x.u3 (fun w=>Sum.inl (q9u x w)) (fun o=>Sum.inr (q9t x id o)):=by kernel_rfl
def q9w {R:Type}:Z21 S R:=LE.ls X q9s (fun x k=>(X3B x.2.1 x.u2 x.v4 (x.1,x.u3)).bind (q9t x k)) q4
theorem q9x {R:Type}:Z2e X (q9w (R:=R)):=Zke xok q8G (e:=q9s) q5p q5 (st:=fun(x:tqz)=>WV x.2.1 x.u2 x.v4) (prj:=fun(x:tqz)=>(x.1,x.u3)) (emb:=q9u) q9t (fun x=>(q9v x).trans (by unfold WV WX;simp only[Zk2,ZjT,Zk3,Option.map_some,Option.map_none];rfl)) q5
theorem q9y (x0:List Y2) (x1 x2:Int):Zkg X q8F [(.sl (.st 5)),(.int .i64),(.int .i64)] [(.int .i64)] q5o q9w 12 124 (x0,x1,x2,())=X3f x0 x1 x2:=by kernel_rfl
def q9z:F7 S:=⟨[(.sl (.st 5)),(.int .i64),(.int .i64)],[(.int .i64)],fun xs=>X3f xs.1 xs.2.1 xs.u2⟩
theorem q9A:Zav X 124 q9z:=Zkd (Zkc xok q8G q5p q9x 12 124) fun xs _ h=>(q9y xs.1 xs.2.1 xs.u2).trans h
def q9B:List (Nat×F7 S):=[(124,q9z)]
theorem q9C:Z95 X (q9B):=⟨q9A,trivial⟩
theorem q9F (x0:Y2) (x1 x2:Int):Zkg X q9B [(.st 5),(.int .i64),(.int .i64)] [(.int .i64)] q5o q4 12 92 (x0,x1,x2,())=X3U x0 x1 x2:=by kernel_rfl
def q9G:F7 S:=⟨[(.st 5),(.int .i64),(.int .i64)],[(.int .i64)],fun xs=>X3U xs.1 xs.2.1 xs.u2⟩
theorem q9H:Zav X 92 q9G:=Zkd (Zkc xok q9C q5p q5 12 92) fun xs _ h=>(q9F xs.1 xs.2.1 xs.u2).trans h
def q9I:List (Nat×F7 S):=[(86,q8w),(92,q9G)]
theorem q9J:Z95 X (q9I):=⟨q8x,q9H,trivial⟩
theorem q9M (x0:CoRecord) (x1 x2:Int) (x3:Y2):Zkg X q9I [(.st 20),(.int .i64),(.int .i64),(.st 5)] [(.int .i64)] q5o q4 12 62 (x0,x1,x2,x3,())=X2C x0 x1 x2 x3:=by kernel_rfl
def q9N:F7 S:=⟨[(.st 20),(.int .i64),(.int .i64),(.st 5)],[(.int .i64)],fun xs=>X3N xs.1 xs.2.1 xs.u2 xs.u3⟩
theorem q9O:Zav X 62 q9N:=Zkd (Zkc xok q9J q5p q5 12 62) fun xs _ h=>((q9M xs.1 xs.2.1 xs.u2 xs.u3).trans (X4W xs.1 xs.2.1 xs.u2 xs.u3).symm).trans h
def q9P:List (Nat×F7 S):=[(86,q8w),(87,q9i),(62,q9N)]
theorem q9Q:Z95 X (q9P):=⟨q8x,q9j,q9O,trivial⟩
def q9T:Key:=⟨[55],55,none,[0,0,1,0,1,1,1],0,17⟩
def q9U:StT S:=⟨(N (N L (some (.ptr 0 0)) (N L (some (.rs 17 0)) L)) none (N L none (N L vD L))),o1C,18⟩
def q9V:Way S:=⟨.ret,⟨v1D,o19,66⟩,[.int,.int,.int,(.lst .str),(.st 20),(.st 18),(.lst .str)]⟩
def q9W:Way S:=⟨.ret,⟨v1D,o19,65⟩,[.int,.int,.int,(.lst .str),(.st 20),(.st 18),(.lst .str)]⟩
def q9X:Way S:=⟨(.exit 0),⟨(N (N L (some (.ptr 0 0)) L) none L),o1C,23⟩,[(.lst .str),(.st 20)]⟩
def q9Y:LE S:=⟨q9T,q9U,[.int,(.lst .str),(.st 20)],[q9V,q9W,q9X]⟩
def q9Z {T:Type} (x:tqD) (k:((Int×Int×Int×(List ByteArray)×CoRecord×Zm×(List ByteArray))⊕(Int×Int×Int×(List ByteArray)×CoRecord×Zm×(List ByteArray))⊕((List ByteArray)×CoRecord))->T):((Int×Int×Int×(List ByteArray)×Zm×(List ByteArray))⊕(Int×Int×Int×(List ByteArray)×Zm×(List ByteArray))⊕(List ByteArray))->T:=Sum.elim (fun y0=>k (.inl (y0.1,y0.2.1,y0.u2,y0.u3,x.v2,y0.u4,y0.v5))) (Sum.elim (fun y1=>k (.inr (.inl (y1.1,y1.2.1,y1.u2,y1.u3,x.v2,y1.u4,y1.v5)))) (fun y2=>k (.inr (.inr (y2,x.v2)))))
def qa0 (x:tqD) (v:(Int×(List ByteArray))):tqD:=(v.1,v.2,x.v2)
theorem qa1 (x:tqD):LE.step X q9Y q9P q5o q4 12 x=X1a x.v2 x.1 x.2.1 (fun w=>Sum.inl (qa0 x w)) (fun o=>Sum.inr (q9Z x id o)):=by kernel_rfl
def qa2 {R:Type}:Z21 S R:=LE.ls X q9Y (fun x k=>(X2X x.v2 (x.1,x.2.1)).bind (q9Z x k)) q4
theorem qa3 {R:Type}:Z2e X (qa2 (R:=R)):=Zke xok q9Q (e:=q9Y) q5p q5 (st:=fun(x:tqD)=>X1E x.v2) (prj:=fun(x:tqD)=>(x.1,x.2.1)) (emb:=qa0) q9Z (fun x=>(qa1 x).trans (by unfold X1E X1a;simp only[Zk2,ZjT,Zk3,Option.map_some,Option.map_none];rfl)) q5
def qa4:Key:=⟨[55],55,none,[0,0,1,0,1,1,1,1],2,24⟩
def qa5:StT S:=⟨(N (N L (some (.ptr 0 0)) (N (N L vD L) none L)) none L),o1C,24⟩
def qa6:Way S:=⟨.ret,⟨v1D,(N (N L none (N (N (N L oy L) none L) none L)) oi (N L none (N (N (N (N L ok L) none L) none L) none L))),52⟩,[.int,.int,.int,(.lst .str),(.st 20),(.st 19)]⟩
def qa7:Way S:=⟨(.exit 2),⟨(N (N L (some (.ptr 0 0)) L) none L),o1C,29⟩,[(.lst .str),(.st 20)]⟩
def qa8:LE S:=⟨qa4,qa5,[.int,(.lst .str),(.st 20)],[qa6,qa7]⟩
def qa9 {T:Type} (x:tqD) (k:((Int×Int×Int×(List ByteArray)×CoRecord×Zq)⊕((List ByteArray)×CoRecord))->T):((Int×Int×Int×Zq)⊕Unit)->T:=Sum.elim (fun y0=>k (.inl (y0.1,y0.2.1,y0.u2,x.2.1,x.v2,y0.v3))) (fun y1=>k (.inr (x.2.1,x.v2)))
def qaa (x:tqD) (v:Int):tqD:=(v,x.2.1,x.v2)
theorem qab (x:tqD):LE.step X qa8 q9P q5o qa2 12 x=X1b x.v2 x.1 (fun w=>Sum.inl (qaa x w)) (fun o=>Sum.inr (qa9 x id o)):=by kernel_rfl
def qac {R:Type}:Z21 S R:=LE.ls X qa8 (fun x k=>(X2i x.v2 x.1).bind (qa9 x k)) qa2
theorem qad {R:Type}:Z2e X (qac (R:=R)):=Zke xok q9Q (e:=qa8) q5p qa3 (st:=fun(x:tqD)=>X1F x.v2) (prj:=fun(x:tqD)=>x.1) (emb:=qaa) qa9 (fun x=>(qab x).trans (by unfold X1F X1b;simp only[Zk2,ZjT,Zk3,Option.map_some,Option.map_none];rfl)) qa3
def qae:Key:=⟨[55],55,none,[0,0,1,0,1,1,1,1,1,1],4,31⟩
def qaf:StT S:=⟨(N (N L (some (.ptr 0 0)) (N L none (N L vD L))) none (N (N L none (N L vD L)) none L)),o1C,31⟩
def qag:Way S:=⟨.ret,⟨v1D,o1C,59⟩,[.int,.int,.int,(.lst .str),(.st 20)]⟩
def qah:Way S:=⟨(.exit 4),⟨L,o1C,36⟩,[(.lst .str),(.st 20)]⟩
def qai:LE S:=⟨qae,qaf,[.int,.int,(.lst .str),(.st 20)],[qag,qah]⟩
def qaj {T:Type} (x:tqt) (k:((Int×Int×Int×(List ByteArray)×CoRecord)⊕((List ByteArray)×CoRecord))->T):((Int×Int×Int)⊕Unit)->T:=Sum.elim (fun y0=>k (.inl (y0.1,y0.2.1,y0.v2,x.u2,x.v3))) (fun y1=>k (.inr (x.u2,x.v3)))
def qak (x:tqt) (v:(Int×Int)):tqt:=(v.1,v.2,x.u2,x.v3)
theorem qal (x:tqt):LE.step X qai q9P q5o qac 12 x=X1c x.v3 x.1 x.2.1 (fun w=>Sum.inl (qak x w)) (fun o=>Sum.inr (qaj x id o)):=by kernel_rfl
def qam {R:Type}:Z21 S R:=LE.ls X qai (fun x k=>(X2j x.v3 (x.1,x.2.1)).bind (qaj x k)) qac
theorem qan {R:Type}:Z2e X (qam (R:=R)):=Zke xok q9Q (e:=qai) q5p qad (st:=fun(x:tqt)=>X1G x.v3) (prj:=fun(x:tqt)=>(x.1,x.2.1)) (emb:=qak) qaj (fun x=>(qal x).trans (by unfold X1G X1c;simp only[Zk2,ZjT,Zk3,Option.map_some,Option.map_none];rfl)) qad
theorem qao (x0:CoRecord):Zkg X q9P [(.st 20)] [(.int .i64),(.int .i64),(.int .i64)] q5o qam 12 55 (x0,())=X2t x0:=by kernel_rfl
def qap:F7 S:=⟨[(.st 20)],[(.int .i64),(.int .i64),(.int .i64)],fun xs=>X3V xs.1⟩
theorem qaq:Zav X 55 qap:=Zkd (Zkc xok q9Q q5p qan 12 55) fun xs _ h=>((qao xs.1).trans (X4z xs.1).symm).trans h
def qar:List (Nat×F7 S):=[(55,qap),(62,q9N)]
theorem qas:Z95 X (qar):=⟨qaq,q9O,trivial⟩
def qav:Key:=⟨[40],40,none,[0,0,1,0,1,1,1,1],0,22⟩
def qaw:StT S:=⟨(N (N L vA (N (N L vD L) none L)) none (N L (some (.ptr 0 0)) L)),(N L oi L),22⟩
def qax:Way S:=⟨.ret,⟨v1B,(N L oi L),50⟩,[.int,.int,(.st 20)]⟩
def qay:Way S:=⟨(.exit 0),⟨L,(N L oi L),26⟩,[(.st 20)]⟩
def qaz:LE S:=⟨qav,qaw,[(.lst (.st 21)),.int,(.st 20)],[qax,qay]⟩
def qaA {T:Type} (x:tqG) (k:((Int×Int×CoRecord)⊕CoRecord)->T):((Int×Int)⊕Unit)->T:=Sum.elim (fun y0=>k (.inl (y0.1,y0.2,x.v2))) (fun y1=>k (.inr x.v2))
def qaB (x:tqG) (v:Int):tqG:=(x.1,v,x.v2)
theorem qaC (x:tqG):LE.step X qaz qar q5o q4 12 x=Wu x.1 x.v2 x.2.1 (fun w=>Sum.inl (qaB x w)) (fun o=>Sum.inr (qaA x id o)):=by kernel_rfl
def qaD {R:Type}:Z21 S R:=LE.ls X qaz (fun x k=>(X1i x.1 x.v2 x.2.1).bind (qaA x k)) q4
theorem qaE {R:Type}:Z2e X (qaD (R:=R)):=Zke xok qas (e:=qaz) q5p q5 (st:=fun(x:tqG)=>WU x.1 x.v2) (prj:=fun(x:tqG)=>x.2.1) (emb:=qaB) qaA (fun x=>(qaC x).trans (by unfold WU Wu;simp only[Zk2,ZjT,Zk3,Option.map_some,Option.map_none];rfl)) q5
theorem qaF (x0:CoRecord) (x1:List Zr):Zkg X qar [(.st 20),(.sl (.st 21))] [(.int .i64),(.int .i64)] q5o qaD 12 40 (x0,x1,())=X19 x0 x1:=by kernel_rfl
def qaG:F7 S:=⟨[(.st 20),(.sl (.st 21))],[(.int .i64),(.int .i64)],fun xs=>X2T xs.1 xs.2.1⟩
theorem qaH:Zav X 40 qaG:=Zkd (Zkc xok qas q5p qaE 12 40) fun xs _ h=>((qaF xs.1 xs.2.1).trans (X3L xs.1 xs.2.1).symm).trans h
def qaI:List (Nat×F7 S):=[(40,qaG)]
theorem qaJ:Z95 X (qaI):=⟨qaH,trivial⟩
theorem qaM (x0:CoRecord) (x1:List Zr):Zkg X qaI [(.st 20),(.sl (.st 21))] [.bool] q5o q4 12 16 (x0,x1,())=X2z x0 x1:=by kernel_rfl
def qaN:F7 S:=⟨[(.st 20),(.sl (.st 21))],[.bool],fun xs=>X48 xs.1 xs.2.1⟩
theorem qaO:Zav X 16 qaN:=Zkd (Zkc xok qaJ q5p q5 12 16) fun xs _ h=>((qaM xs.1 xs.2.1).trans (X4Q xs.1 xs.2.1).symm).trans h
theorem qaT (x0:List Int) (x1:Int):Zkg X q2 [(.sl (.int .u16)),(.int .i64)] [(.int .i64)] q5o q4 12 20 (x0,x1,())=X2A x0 x1:=by kernel_rfl
def qaU:F7 S:=⟨[(.sl (.int .u16)),(.int .i64)],[(.int .i64)],fun xs=>X3o xs.1 xs.2.1⟩
theorem qaV:Zav X 20 qaU:=Zkd (Zkc xok q3 q5p q5 12 20) fun xs _ h=>((qaT xs.1 xs.2.1).trans (X4S xs.1 xs.2.1).symm).trans h
def qaW:StT S:=⟨(N v1t vD (N (N L (some (.ptr 6 0)) L) vB L)),o1o,8⟩
def qaX:Way S:=⟨.ret,⟨(N L vE L),o1o,8⟩,[.bool,(.st 25),(.arr (.st 5)),(.st 25),.int,.bool,(.lst (.st 21)),.int,(.st 20),.bool,(.st 20)]⟩
def qaY:PE S:=⟨82,6,qaW,[(.arr (.st 5)),.int,(.lst (.st 28)),(.st 25),(.arr (.st 5)),(.st 25),.int,.bool,(.lst (.st 21)),.int,(.st 20),.bool,(.st 20)],[qaX]⟩
abbrev qb1 (ih:tqc->Option tqj) {R:Type}:Z21 S R:=Zj1
theorem qb2 (ih:tqc->Option tqj) (hih:ZcD X qaY ih) {R:Type}:Z2e X (qb1 ih (R:=R)):=ZjC X
def qb3:Key:=⟨[5,2,5,82],21,(some 5),[0,0,1,1,0,1,0,1,0,1,1,1,1,1],2,44⟩
def qb4:StT S:=⟨v1e,o1i,44⟩
def qb5:Way S:=⟨(.exit 2),⟨L,o1i,45⟩,[(.st 25),(.arr (.st 5)),(.st 25),(.arr (.st 5)),.int,.bool,(.lst (.st 21)),.int,(.st 20),.bool,(.st 20)]⟩
def qb6:LE S:=⟨qb3,qb4,[.int,.int,(.st 25),(.arr (.st 5)),(.st 25),(.arr (.st 5)),.int,.bool,(.lst (.st 21)),.int,(.st 20),.bool,(.st 20)],[qb5]⟩
def qb7 {T:Type} (x:tqf) (k:tqi->T):(Nat->Y2)->T:=fun y0=>k (x.u2,y0,x.u4,x.u5,x.u6,x.u7,x.u8,x.u9,x.u10,x.u11,x.v12)
def qb8 (x:tqf) (v:(Int×(Nat->Y2))):tqf:=(x.1,v.1,x.u2,v.2,x.u4,x.u5,x.u6,x.u7,x.u8,x.u9,x.u10,x.u11,x.v12)
theorem qb9 (ih:tqc->Option tqj) (x:tqf):LE.step X qb6 q3X (PE.ps X qaY (fun x q=>(ih x).bind q) q5o) (qb1 ih) 12 x=Wl ih x.1 x.u2 x.u4 x.u5 x.u6 x.u7 x.u8 x.u9 x.u10 x.u11 x.v12 x.2.1 x.u3 (fun w=>Sum.inl (qb8 x w)) (fun o=>Sum.inr (qb7 x id o)):=by kernel_rfl
def qba (ih:tqc->Option tqj) {R:Type}:Z21 S R:=LE.ls X qb6 (fun x k=>(Wr ih x.1 x.u2 x.u4 x.u5 x.u6 x.u7 x.u8 x.u9 x.u10 x.u11 x.v12 (x.2.1,x.u3)).bind (qb7 x k)) (qb1 ih)
theorem qbb (ih:tqc->Option tqj) (hih:ZcD X qaY ih) {R:Type}:Z2e X (qba ih (R:=R)):=Zke xok q3Y (e:=qb6) (Zk8 (e:=qaY) hih q5p) (qb2 ih hih) (st:=fun(x:tqf)=>WF ih x.1 x.u2 x.u4 x.u5 x.u6 x.u7 x.u8 x.u9 x.u10 x.u11 x.v12) (prj:=fun(x:tqf)=>(x.2.1,x.u3)) (emb:=qb8) qb7 (fun x=>(qb9 ih x).trans (by unfold WF Wl X0;simp only[Zk2,ZjT,Zk3,Option.map_some,Option.map_none];rfl)) (qb2 ih hih)
def qbc:Key:=⟨[5,2,5,82],21,(some 5),[0,0,1,1,0,1,0,1,0,1,1,1,1,1],2,41⟩
def qbd:StT S:=⟨v1e,o1i,41⟩
def qbe:Way S:=⟨(.exit 2),⟨L,o1i,42⟩,[(.st 25),(.arr (.st 5)),(.st 25),(.arr (.st 5)),.int,.bool,(.lst (.st 21)),.int,(.st 20),.bool,(.st 20)]⟩
def qbf:LE S:=⟨qbc,qbd,[.int,.int,(.st 25),(.arr (.st 5)),(.st 25),(.arr (.st 5)),.int,.bool,(.lst (.st 21)),.int,(.st 20),.bool,(.st 20)],[qbe]⟩
theorem qbi (ih:tqc->Option tqj) (x:tqf):LE.step X qbf q3X (PE.ps X qaY (fun x q=>(ih x).bind q) q5o) (qba ih) 12 x=Wm ih x.1 x.u2 x.u4 x.u5 x.u6 x.u7 x.u8 x.u9 x.u10 x.u11 x.v12 x.2.1 x.u3 (fun w=>Sum.inl (qb8 x w)) (fun o=>Sum.inr (qb7 x id o)):=by kernel_rfl
def qbj (ih:tqc->Option tqj) {R:Type}:Z21 S R:=LE.ls X qbf (fun x k=>(Ws ih x.1 x.u2 x.u4 x.u5 x.u6 x.u7 x.u8 x.u9 x.u10 x.u11 x.v12 (x.2.1,x.u3)).bind (qb7 x k)) (qba ih)
theorem qbk (ih:tqc->Option tqj) (hih:ZcD X qaY ih) {R:Type}:Z2e X (qbj ih (R:=R)):=Zke xok q3Y (e:=qbf) (Zk8 (e:=qaY) hih q5p) (qbb ih hih) (st:=fun(x:tqf)=>WG ih x.1 x.u2 x.u4 x.u5 x.u6 x.u7 x.u8 x.u9 x.u10 x.u11 x.v12) (prj:=fun(x:tqf)=>(x.2.1,x.u3)) (emb:=qb8) qb7 (fun x=>(qbi ih x).trans (by unfold WG Wm X0;simp only[Zk2,ZjT,Zk3,Option.map_some,Option.map_none];rfl)) (qbb ih hih)
def qbl:Key:=⟨[121,0,82],121,none,[0,0,1,1],0,71⟩
def qbm:StT S:=⟨v11,oI,72⟩
def qbn:Way S:=⟨.ret,⟨L,(N o16 ob (N (N (N (N L none (N L o0 L)) op L) or o1q) oi o1r)),168⟩,[(.lst (.st 28)),(.st 28),(.st 25),(.lst (.st 19)),(.arr (.st 5)),(.arr (.st 5)),(.arr (.st 5)),.bool,.int,(.st 25),(.arr (.st 5)),(.st 28),.int,.bool,(.lst (.st 21)),.int,(.st 20),.bool,(.arr (.st 5)),.bool,.int,.bool,(.lst (.st 28)),.int,.bool,(.st 19),.int,(.lst (.st 28)),(.st 20),(.lst (.st 19)),(.st 21),(.lst (.st 28)),(.st 25)]⟩
def qbo:Way S:=⟨.ret,⟨L,oN,161⟩,[(.st 28),(.st 25),(.lst (.st 19)),(.arr (.st 5)),(.arr (.st 5)),(.arr (.st 5)),.bool,.int,(.st 25),(.arr (.st 5)),(.st 28),.int,.bool,(.lst (.st 21)),.int,(.st 20),.bool,(.arr (.st 5)),.bool,.int,.bool,(.lst (.st 28)),.int,.bool,(.st 19),.int,(.st 20),(.lst (.st 19)),(.st 21),(.lst (.st 28)),(.st 25)]⟩
def qbp:Way S:=⟨.ret,⟨L,(N oS ob (N (N (N (N L none (N (N (N L os L) none L) o0 L)) op L) or (N L none (N (N (N L ok L) op L) none L))) oi o1r)),153⟩,[(.st 28),(.st 25),(.lst (.st 19)),(.arr (.st 5)),(.arr (.st 5)),(.arr (.st 5)),.bool,.int,(.st 25),(.arr (.st 5)),(.st 28),.int,.bool,(.lst (.st 21)),.int,(.st 20),(.lst (.st 28)),(.lst (.st 28)),.bool,(.arr (.st 5)),.bool,.int,.bool,(.lst (.st 28)),.int,.bool,(.st 19),.int,(.st 20),(.lst (.st 19)),(.st 21),(.lst (.st 28)),(.st 25)]⟩
def qbq:Way S:=⟨.ret,⟨L,oN,146⟩,[(.st 28),(.st 25),(.lst (.st 19)),(.arr (.st 5)),(.arr (.st 5)),(.arr (.st 5)),.bool,.int,(.st 25),(.arr (.st 5)),(.st 28),.int,.bool,(.lst (.st 21)),.int,(.st 20),.bool,(.arr (.st 5)),.bool,.int,.bool,(.lst (.st 28)),.int,.bool,(.st 19),.int,(.st 20),(.lst (.st 19)),(.st 21),(.lst (.st 28)),(.st 25)]⟩
def qbr:Way S:=⟨.ret,⟨L,(N oW ob (N o1l oi o1g)),154⟩,[(.st 28),(.st 25),(.lst (.st 19)),(.arr (.st 5)),(.arr (.st 5)),(.arr (.st 5)),.bool,.int,(.st 25),(.lst (.st 28)),(.arr (.st 5)),(.st 28),.int,.bool,(.lst (.st 21)),.int,(.st 20),.bool,(.arr (.st 5)),.bool,.int,.bool,(.lst (.st 28)),.int,.bool,(.st 19),.int,(.st 20),(.lst (.st 19)),(.st 21),(.lst (.st 28)),(.st 25),(.lst (.st 28))]⟩
def qbs:Way S:=⟨.ret,⟨L,oN,147⟩,[(.st 28),(.st 25),(.lst (.st 19)),(.arr (.st 5)),(.arr (.st 5)),(.arr (.st 5)),.bool,.int,(.st 25),(.arr (.st 5)),(.st 28),.int,.bool,(.lst (.st 21)),.int,(.st 20),.bool,(.arr (.st 5)),.bool,.int,.bool,(.lst (.st 28)),.int,.bool,(.st 19),.int,(.st 20),(.lst (.st 19)),(.st 21),(.lst (.st 28)),(.st 25)]⟩
def qbt:Way S:=⟨.ret,⟨L,(N oZ ob (N o1l oi o1n)),139⟩,[(.lst (.st 28)),(.st 28),(.st 25),(.lst (.st 19)),(.arr (.st 5)),(.arr (.st 5)),(.arr (.st 5)),.bool,.int,(.st 25),(.arr (.st 5)),(.st 28),.int,.bool,(.lst (.st 21)),.int,(.st 20),.bool,(.arr (.st 5)),.bool,.int,.bool,(.lst (.st 28)),.int,.bool,(.st 19),.int,(.st 20),(.lst (.st 28)),(.lst (.st 19)),(.st 21),(.lst (.st 28)),(.st 25)]⟩
def qbu:Way S:=⟨.ret,⟨L,oN,132⟩,[(.st 28),(.st 25),(.lst (.st 19)),(.arr (.st 5)),(.arr (.st 5)),(.arr (.st 5)),.bool,.int,(.st 25),(.arr (.st 5)),(.st 28),.int,.bool,(.lst (.st 21)),.int,(.st 20),.bool,(.arr (.st 5)),.bool,.int,.bool,(.lst (.st 28)),.int,.bool,(.st 19),.int,(.st 20),(.lst (.st 19)),(.st 21),(.lst (.st 28)),(.st 25)]⟩
def qbv:Way S:=⟨(.exit 0),⟨L,oI,73⟩,[(.st 25),(.lst (.st 19)),(.arr (.st 5)),(.arr (.st 5)),.bool,.int,(.st 25),(.arr (.st 5)),(.st 28),.int,.bool,(.lst (.st 21)),.int,(.st 20),.bool,(.arr (.st 5)),.bool,.int,.bool,(.lst (.st 28)),.int,.bool,.int,(.st 20),(.lst (.st 19)),(.st 21),(.lst (.st 28)),(.st 25)]⟩
def qbw:LE S:=⟨qbl,qbm,[.int,.int,.int,(.st 25),(.lst (.st 19)),(.arr (.st 5)),(.arr (.st 5)),.bool,.int,(.st 25),(.arr (.st 5)),(.st 28),.int,.bool,(.lst (.st 21)),.int,(.st 20),.bool,(.arr (.st 5)),.bool,.int,.bool,(.lst (.st 28)),.int,.bool,.int,(.st 20),(.lst (.st 19)),(.st 21),(.lst (.st 28)),(.st 25)],[qbn,qbo,qbp,qbq,qbr,qbs,qbt,qbu,qbv]⟩
def qbx {T:Type} (x:tq1) (k:(((List Zb)×Zb×Zc×(List Zq)×(Nat->Y2)×(Nat->Y2)×(Nat->Y2)×Bool×Int×Zc×(Nat->Y2)×Zb×Int×Bool×(List Zr)×Int×CoRecord×Bool×(Nat->Y2)×Bool×Int×Bool×(List Zb)×Int×Bool×Zq×Int×(List Zb)×CoRecord×(List Zq)×Zr×(List Zb)×Zc)⊕tq0⊕(Zb×Zc×(List Zq)×(Nat->Y2)×(Nat->Y2)×(Nat->Y2)×Bool×Int×Zc×(Nat->Y2)×Zb×Int×Bool×(List Zr)×Int×CoRecord×(List Zb)×(List Zb)×Bool×(Nat->Y2)×Bool×Int×Bool×(List Zb)×Int×Bool×Zq×Int×CoRecord×(List Zq)×Zr×(List Zb)×Zc)⊕tq0⊕(Zb×Zc×(List Zq)×(Nat->Y2)×(Nat->Y2)×(Nat->Y2)×Bool×Int×Zc×(List Zb)×(Nat->Y2)×Zb×Int×Bool×(List Zr)×Int×CoRecord×Bool×(Nat->Y2)×Bool×Int×Bool×(List Zb)×Int×Bool×Zq×Int×CoRecord×(List Zq)×Zr×(List Zb)×Zc×(List Zb))⊕tq0⊕((List Zb)×Zb×Zc×(List Zq)×(Nat->Y2)×(Nat->Y2)×(Nat->Y2)×Bool×Int×Zc×(Nat->Y2)×Zb×Int×Bool×(List Zr)×Int×CoRecord×Bool×(Nat->Y2)×Bool×Int×Bool×(List Zb)×Int×Bool×Zq×Int×CoRecord×(List Zb)×(List Zq)×Zr×(List Zb)×Zc)⊕tq0⊕(Zc×(List Zq)×(Nat->Y2)×(Nat->Y2)×Bool×Int×Zc×(Nat->Y2)×Zb×Int×Bool×(List Zr)×Int×CoRecord×Bool×(Nat->Y2)×Bool×Int×Bool×(List Zb)×Int×Bool×Int×CoRecord×(List Zq)×Zr×(List Zb)×Zc))->T):(((List Zb)×Zb×Zc×(Nat->Y2)×(Nat->Y2)×Bool×Zc×Zb×Int×Bool×(List Zr)×Int×CoRecord×Bool×Zq×(List Zb)×CoRecord)⊕tq8⊕(Zb×Zc×(Nat->Y2)×(Nat->Y2)×Bool×Zc×Zb×Int×Bool×(List Zr)×Int×CoRecord×(List Zb)×(List Zb)×Bool×Zq×CoRecord)⊕tq8⊕(Zb×Zc×(Nat->Y2)×(Nat->Y2)×Bool×Zc×(List Zb)×Zb×Int×Bool×(List Zr)×Int×CoRecord×Bool×Zq×CoRecord×(List Zb))⊕tq8⊕((List Zb)×Zb×Zc×(Nat->Y2)×Bool×Zc×Zb×Int×Bool×(List Zr)×Int×CoRecord×Bool×Zq×CoRecord×(List Zb))⊕(Zb×Zc×(Nat->Y2)×Bool×Zc×Zb×Int×Bool×(List Zr)×Int×CoRecord×Bool×Zq×CoRecord)⊕(Zc×(Nat->Y2)×Zc×Zb×Int×Bool×(List Zr)×Int×CoRecord×Bool×CoRecord))->T:=Sum.elim (fun y0=>k (.inl (y0.1,y0.2.1,y0.u2,x.u4,y0.u3,y0.u4,x.u6,y0.u5,x.u8,y0.u6,x.u10,y0.u7,y0.u8,y0.u9,y0.u10,y0.u11,y0.u12,x.u17,x.u18,x.u19,x.u20,x.u21,x.u22,x.u23,y0.u13,y0.u14,x.u25,y0.u15,y0.v16,x.u27,x.u28,x.u29,x.v30))) (Sum.elim (fun y1=>k (.inr (.inl (y1.1,y1.2.1,x.u4,y1.u2,y1.u3,x.u6,y1.u4,x.u8,y1.u5,x.u10,y1.u6,y1.u7,y1.u8,y1.u9,y1.u10,y1.u11,x.u17,x.u18,x.u19,x.u20,x.u21,x.u22,x.u23,y1.u12,y1.u13,x.u25,y1.v14,x.u27,x.u28,x.u29,x.v30)))) (Sum.elim (fun y2=>k (.inr (.inr (.inl (y2.1,y2.2.1,x.u4,y2.u2,y2.u3,x.u6,y2.u4,x.u8,y2.u5,x.u10,y2.u6,y2.u7,y2.u8,y2.u9,y2.u10,y2.u11,y2.u12,y2.u13,x.u17,x.u18,x.u19,x.u20,x.u21,x.u22,x.u23,y2.u14,y2.u15,x.u25,y2.v16,x.u27,x.u28,x.u29,x.v30))))) (Sum.elim (fun y3=>k (.inr (.inr (.inr (.inl (y3.1,y3.2.1,x.u4,y3.u2,y3.u3,x.u6,y3.u4,x.u8,y3.u5,x.u10,y3.u6,y3.u7,y3.u8,y3.u9,y3.u10,y3.u11,x.u17,x.u18,x.u19,x.u20,x.u21,x.u22,x.u23,y3.u12,y3.u13,x.u25,y3.v14,x.u27,x.u28,x.u29,x.v30)))))) (Sum.elim (fun y4=>k (.inr (.inr (.inr (.inr (.inl (y4.1,y4.2.1,x.u4,y4.u2,y4.u3,x.u6,y4.u4,x.u8,y4.u5,y4.u6,x.u10,y4.u7,y4.u8,y4.u9,y4.u10,y4.u11,y4.u12,x.u17,x.u18,x.u19,x.u20,x.u21,x.u22,x.u23,y4.u13,y4.u14,x.u25,y4.u15,x.u27,x.u28,x.u29,x.v30,y4.v16))))))) (Sum.elim (fun y5=>k (.inr (.inr (.inr (.inr (.inr (.inl (y5.1,y5.2.1,x.u4,y5.u2,y5.u3,x.u6,y5.u4,x.u8,y5.u5,x.u10,y5.u6,y5.u7,y5.u8,y5.u9,y5.u10,y5.u11,x.u17,x.u18,x.u19,x.u20,x.u21,x.u22,x.u23,y5.u12,y5.u13,x.u25,y5.v14,x.u27,x.u28,x.u29,x.v30)))))))) (Sum.elim (fun y6=>k (.inr (.inr (.inr (.inr (.inr (.inr (.inl (y6.1,y6.2.1,y6.u2,x.u4,y6.u3,x.u10,x.u6,y6.u4,x.u8,y6.u5,x.u10,y6.u6,y6.u7,y6.u8,y6.u9,y6.u10,y6.u11,x.u17,x.u18,x.u19,x.u20,x.u21,x.u22,x.u23,y6.u12,y6.u13,x.u25,y6.u14,y6.v15,x.u27,x.u28,x.u29,x.v30))))))))) (Sum.elim (fun y7=>k (.inr (.inr (.inr (.inr (.inr (.inr (.inr (.inl (y7.1,y7.2.1,x.u4,y7.u2,x.u10,x.u6,y7.u3,x.u8,y7.u4,x.u10,y7.u5,y7.u6,y7.u7,y7.u8,y7.u9,y7.u10,x.u17,x.u18,x.u19,x.u20,x.u21,x.u22,x.u23,y7.u11,y7.u12,x.u25,y7.v13,x.u27,x.u28,x.u29,x.v30)))))))))) (fun y8=>k (.inr (.inr (.inr (.inr (.inr (.inr (.inr (.inr (y8.1,x.u4,y8.2.1,x.u6,x.u7,x.u8,y8.u2,x.u10,y8.u3,y8.u4,y8.u5,y8.u6,y8.u7,y8.u8,x.u17,x.u18,x.u19,x.u20,x.u21,x.u22,x.u23,y8.u9,x.u25,y8.v10,x.u27,x.u28,x.u29,x.v30)))))))))))))))))
def qby (x:tq1) (v:(Int×Int×Zc×(Nat->Y2)×Zc×Zb×Int×Bool×(List Zr)×Int×CoRecord×Bool×CoRecord)):tq1:=(x.1,v.1,v.2.1,v.u2,x.u4,v.u3,x.u6,x.u7,x.u8,v.u4,x.u10,v.u5,v.u6,v.u7,v.u8,v.u9,v.u10,x.u17,x.u18,x.u19,x.u20,x.u21,x.u22,x.u23,v.u11,x.u25,v.v12,x.u27,x.u28,x.u29,x.v30)
theorem qbz (ih:tqc->Option tqj) (x:tq1):LE.step X qbw q3X (PE.ps X qaY (fun x q=>(ih x).bind q) q5o) (qbj ih) 12 x=X2 ih x.1 x.u4 x.u6 x.u7 x.u8 x.u10 x.u17 x.u18 x.u19 x.u20 x.u21 x.u22 x.u23 x.u25 x.u27 x.u28 x.u29 x.v30 x.2.1 x.u2 x.u3 x.u5 x.u9 x.u11 x.u12 x.u13 x.u14 x.u15 x.u16 x.u24 x.u26 (fun w=>Sum.inl (qby x w)) (fun o=>Sum.inr (qbx x id o)):=by kernel_rfl
def qbA (ih:tqc->Option tqj) {R:Type}:Z21 S R:=LE.ls X qbw (fun x k=>(XN ih x.1 x.u4 x.u6 x.u7 x.u8 x.u10 x.u17 x.u18 x.u19 x.u20 x.u21 x.u22 x.u23 x.u25 x.u27 x.u28 x.u29 x.v30 (x.2.1,x.u2,x.u3,x.u5,x.u9,x.u11,x.u12,x.u13,x.u14,x.u15,x.u16,x.u24,x.u26)).bind (qbx x k)) (qbj ih)
theorem qbB (ih:tqc->Option tqj) (hih:ZcD X qaY ih) {R:Type}:Z2e X (qbA ih (R:=R)):=Zke xok q3Y (e:=qbw) (Zk8 (e:=qaY) hih q5p) (qbk ih hih) (st:=fun(x:tq1)=>Xc ih x.1 x.u4 x.u6 x.u7 x.u8 x.u10 x.u17 x.u18 x.u19 x.u20 x.u21 x.u22 x.u23 x.u25 x.u27 x.u28 x.u29 x.v30) (prj:=fun(x:tq1)=>(x.2.1,x.u2,x.u3,x.u5,x.u9,x.u11,x.u12,x.u13,x.u14,x.u15,x.u16,x.u24,x.u26)) (emb:=qby) qbx (fun x=>(qbz ih x).trans (by unfold Xc X2;simp only[Zk2,ZjT,Zk3,Option.map_some,Option.map_none];rfl)) (qbk ih hih)
theorem qbC (ih:tqc->Option tqj) (x:((Nat->Y2)×Int×(List Zb)×Zc×(Nat->Y2)×Zc×Int×Bool×(List Zr)×Int×CoRecord×Bool×CoRecord)):PE.step X qaY q3X (PE.ps X qaY (fun x q=>(ih x).bind q) q5o) (qbA ih) 12 x=Xg ih x.1 x.2.1 x.u2 x.u3 x.u4 x.u5 x.u6 x.u7 x.u8 x.u9 x.u10 x.u11 x.v12:=by kernel_rfl
theorem qbD:ZcD X qaY W0:=Zk9 (X:=X) (e:=qaY) (t:=X5) fun ih hih=>Zkf (ZjG xok q3Y (Zk8 (e:=qaY) hih q5p) (qbB ih hih) 12) fun x _ h=>(qbC ih x).trans h
def qbE {R:Type}:Prs S R:=PE.ps X qaY (fun x q=>(W0 x).bind q) q5o
theorem qbF {R:Type}:Z8k X (qbE (R:=R)):=Zk8 (e:=qaY) qbD q5p
def qbG:StT S:=⟨(N v1t vD (N (N L (some (.ptr 6 0)) L) (some .sl0) L)),o1o,8⟩
def qbI:PE S:=⟨82,6,qbG,[(.arr (.st 5)),.int,(.st 25),(.arr (.st 5)),(.st 25),.int,.bool,(.lst (.st 21)),.int,(.st 20),.bool,(.st 20)],[qaX]⟩
theorem qbT (x:tqf):LE.step X qb6 q3X q5o q4 12 x=X0 x.1 x.u2 x.u4 x.u5 x.u6 x.u7 x.u8 x.u9 x.u10 x.u11 x.v12 x.2.1 x.u3 (fun w=>Sum.inl (qb8 x w)) (fun o=>Sum.inr (qb7 x id o)):=by kernel_rfl
def qbU {R:Type}:Z21 S R:=LE.ls X qb6 (fun x k=>(XM x.1 x.u2 x.u4 x.u5 x.u6 x.u7 x.u8 x.u9 x.u10 x.u11 x.v12 (x.2.1,x.u3)).bind (qb7 x k)) q4
theorem qbV {R:Type}:Z2e X (qbU (R:=R)):=Zke xok q3Y (e:=qb6) q5p q5 (st:=fun(x:tqf)=>Xb x.1 x.u2 x.u4 x.u5 x.u6 x.u7 x.u8 x.u9 x.u10 x.u11 x.v12) (prj:=fun(x:tqf)=>(x.2.1,x.u3)) (emb:=qb8) qb7 (fun x=>(qbT x).trans (by unfold Xb X0;simp only[Zk2,ZjT,Zk3,Option.map_some,Option.map_none];rfl)) q5
theorem qc2 (x:tqf):LE.step X qbf q3X q5o qbU 12 x=Wj x.1 x.u2 x.u4 x.u5 x.u6 x.u7 x.u8 x.u9 x.u10 x.u11 x.v12 x.2.1 x.u3 (fun w=>Sum.inl (qb8 x w)) (fun o=>Sum.inr (qb7 x id o)):=by kernel_rfl
def qc3 {R:Type}:Z21 S R:=LE.ls X qbf (fun x k=>(X1s x.1 x.u2 x.u4 x.u5 x.u6 x.u7 x.u8 x.u9 x.u10 x.u11 x.v12 (x.2.1,x.u3)).bind (qb7 x k)) qbU
theorem qc4 {R:Type}:Z2e X (qc3 (R:=R)):=Zke xok q3Y (e:=qbf) q5p qbV (st:=fun(x:tqf)=>WD x.1 x.u2 x.u4 x.u5 x.u6 x.u7 x.u8 x.u9 x.u10 x.u11 x.v12) (prj:=fun(x:tqf)=>(x.2.1,x.u3)) (emb:=qb8) qb7 (fun x=>(qc2 x).trans (by unfold WD Wj X0;simp only[Zk2,ZjT,Zk3,Option.map_some,Option.map_none];rfl)) qbV
def qc6:StT S:=⟨v11,oG,72⟩
def qc7:Way S:=⟨.ret,⟨L,(N o16 ob (N (N (N (N L none (N L o2 L)) op L) or o1q) oi o1r)),168⟩,[(.lst (.st 28)),(.st 28),(.st 25),(.lst (.st 19)),(.arr (.st 5)),(.arr (.st 5)),(.arr (.st 5)),.bool,.int,(.st 25),(.arr (.st 5)),(.st 28),.int,.bool,(.lst (.st 21)),.int,(.st 20),.bool,(.arr (.st 5)),.bool,.int,.bool,.int,.bool,(.st 19),.int,(.lst (.st 28)),(.st 20),(.lst (.st 19)),(.st 21),(.lst (.st 28)),(.st 25)]⟩
def qc8:Way S:=⟨.ret,⟨L,oO,161⟩,[(.st 28),(.st 25),(.lst (.st 19)),(.arr (.st 5)),(.arr (.st 5)),(.arr (.st 5)),.bool,.int,(.st 25),(.arr (.st 5)),(.st 28),.int,.bool,(.lst (.st 21)),.int,(.st 20),.bool,(.arr (.st 5)),.bool,.int,.bool,.int,.bool,(.st 19),.int,(.st 20),(.lst (.st 19)),(.st 21),(.lst (.st 28)),(.st 25)]⟩
def qc9:Way S:=⟨.ret,⟨L,(N oS ob (N (N (N (N L none (N (N (N L os L) none L) o2 L)) op L) or (N L none (N (N (N L ok L) op L) none L))) oi o1r)),153⟩,[(.st 28),(.st 25),(.lst (.st 19)),(.arr (.st 5)),(.arr (.st 5)),(.arr (.st 5)),.bool,.int,(.st 25),(.arr (.st 5)),(.st 28),.int,.bool,(.lst (.st 21)),.int,(.st 20),(.lst (.st 28)),(.lst (.st 28)),.bool,(.arr (.st 5)),.bool,.int,.bool,.int,.bool,(.st 19),.int,(.st 20),(.lst (.st 19)),(.st 21),(.lst (.st 28)),(.st 25)]⟩
def qca:Way S:=⟨.ret,⟨L,oO,146⟩,[(.st 28),(.st 25),(.lst (.st 19)),(.arr (.st 5)),(.arr (.st 5)),(.arr (.st 5)),.bool,.int,(.st 25),(.arr (.st 5)),(.st 28),.int,.bool,(.lst (.st 21)),.int,(.st 20),.bool,(.arr (.st 5)),.bool,.int,.bool,.int,.bool,(.st 19),.int,(.st 20),(.lst (.st 19)),(.st 21),(.lst (.st 28)),(.st 25)]⟩
def qcb:Way S:=⟨.ret,⟨L,(N oW ob (N o1m oi o1g)),154⟩,[(.st 28),(.st 25),(.lst (.st 19)),(.arr (.st 5)),(.arr (.st 5)),(.arr (.st 5)),.bool,.int,(.st 25),(.lst (.st 28)),(.arr (.st 5)),(.st 28),.int,.bool,(.lst (.st 21)),.int,(.st 20),.bool,(.arr (.st 5)),.bool,.int,.bool,.int,.bool,(.st 19),.int,(.st 20),(.lst (.st 19)),(.st 21),(.lst (.st 28)),(.st 25),(.lst (.st 28))]⟩
def qcc:Way S:=⟨.ret,⟨L,oO,147⟩,[(.st 28),(.st 25),(.lst (.st 19)),(.arr (.st 5)),(.arr (.st 5)),(.arr (.st 5)),.bool,.int,(.st 25),(.arr (.st 5)),(.st 28),.int,.bool,(.lst (.st 21)),.int,(.st 20),.bool,(.arr (.st 5)),.bool,.int,.bool,.int,.bool,(.st 19),.int,(.st 20),(.lst (.st 19)),(.st 21),(.lst (.st 28)),(.st 25)]⟩
def qcd:Way S:=⟨.ret,⟨L,(N oZ ob (N o1m oi o1n)),139⟩,[(.lst (.st 28)),(.st 28),(.st 25),(.lst (.st 19)),(.arr (.st 5)),(.arr (.st 5)),(.arr (.st 5)),.bool,.int,(.st 25),(.arr (.st 5)),(.st 28),.int,.bool,(.lst (.st 21)),.int,(.st 20),.bool,(.arr (.st 5)),.bool,.int,.bool,.int,.bool,(.st 19),.int,(.st 20),(.lst (.st 28)),(.lst (.st 19)),(.st 21),(.lst (.st 28)),(.st 25)]⟩
def qce:Way S:=⟨.ret,⟨L,oO,132⟩,[(.st 28),(.st 25),(.lst (.st 19)),(.arr (.st 5)),(.arr (.st 5)),(.arr (.st 5)),.bool,.int,(.st 25),(.arr (.st 5)),(.st 28),.int,.bool,(.lst (.st 21)),.int,(.st 20),.bool,(.arr (.st 5)),.bool,.int,.bool,.int,.bool,(.st 19),.int,(.st 20),(.lst (.st 19)),(.st 21),(.lst (.st 28)),(.st 25)]⟩
def qcf:Way S:=⟨(.exit 0),⟨L,oG,73⟩,[(.st 25),(.lst (.st 19)),(.arr (.st 5)),(.arr (.st 5)),.bool,.int,(.st 25),(.arr (.st 5)),(.st 28),.int,.bool,(.lst (.st 21)),.int,(.st 20),.bool,(.arr (.st 5)),.bool,.int,.bool,.int,.bool,.int,(.st 20),(.lst (.st 19)),(.st 21),(.lst (.st 28)),(.st 25)]⟩
def qcg:LE S:=⟨qbl,qc6,[.int,.int,.int,(.st 25),(.lst (.st 19)),(.arr (.st 5)),(.arr (.st 5)),.bool,.int,(.st 25),(.arr (.st 5)),(.st 28),.int,.bool,(.lst (.st 21)),.int,(.st 20),.bool,(.arr (.st 5)),.bool,.int,.bool,.int,.bool,.int,(.st 20),(.lst (.st 19)),(.st 21),(.lst (.st 28)),(.st 25)],[qc7,qc8,qc9,qca,qcb,qcc,qcd,qce,qcf]⟩
def qch {T:Type} (x:tq3) (k:(((List Zb)×Zb×Zc×(List Zq)×(Nat->Y2)×(Nat->Y2)×(Nat->Y2)×Bool×Int×Zc×(Nat->Y2)×Zb×Int×Bool×(List Zr)×Int×CoRecord×Bool×(Nat->Y2)×Bool×Int×Bool×Int×Bool×Zq×Int×(List Zb)×CoRecord×(List Zq)×Zr×(List Zb)×Zc)⊕tq2⊕(Zb×Zc×(List Zq)×(Nat->Y2)×(Nat->Y2)×(Nat->Y2)×Bool×Int×Zc×(Nat->Y2)×Zb×Int×Bool×(List Zr)×Int×CoRecord×(List Zb)×(List Zb)×Bool×(Nat->Y2)×Bool×Int×Bool×Int×Bool×Zq×Int×CoRecord×(List Zq)×Zr×(List Zb)×Zc)⊕tq2⊕(Zb×Zc×(List Zq)×(Nat->Y2)×(Nat->Y2)×(Nat->Y2)×Bool×Int×Zc×(List Zb)×(Nat->Y2)×Zb×Int×Bool×(List Zr)×Int×CoRecord×Bool×(Nat->Y2)×Bool×Int×Bool×Int×Bool×Zq×Int×CoRecord×(List Zq)×Zr×(List Zb)×Zc×(List Zb))⊕tq2⊕((List Zb)×Zb×Zc×(List Zq)×(Nat->Y2)×(Nat->Y2)×(Nat->Y2)×Bool×Int×Zc×(Nat->Y2)×Zb×Int×Bool×(List Zr)×Int×CoRecord×Bool×(Nat->Y2)×Bool×Int×Bool×Int×Bool×Zq×Int×CoRecord×(List Zb)×(List Zq)×Zr×(List Zb)×Zc)⊕tq2⊕(Zc×(List Zq)×(Nat->Y2)×(Nat->Y2)×Bool×Int×Zc×(Nat->Y2)×Zb×Int×Bool×(List Zr)×Int×CoRecord×Bool×(Nat->Y2)×Bool×Int×Bool×Int×Bool×Int×CoRecord×(List Zq)×Zr×(List Zb)×Zc))->T):(((List Zb)×Zb×Zc×(Nat->Y2)×(Nat->Y2)×Bool×Zc×Zb×Int×Bool×(List Zr)×Int×CoRecord×Bool×Zq×(List Zb)×CoRecord)⊕tq8⊕(Zb×Zc×(Nat->Y2)×(Nat->Y2)×Bool×Zc×Zb×Int×Bool×(List Zr)×Int×CoRecord×(List Zb)×(List Zb)×Bool×Zq×CoRecord)⊕tq8⊕(Zb×Zc×(Nat->Y2)×(Nat->Y2)×Bool×Zc×(List Zb)×Zb×Int×Bool×(List Zr)×Int×CoRecord×Bool×Zq×CoRecord×(List Zb))⊕tq8⊕((List Zb)×Zb×Zc×(Nat->Y2)×Bool×Zc×Zb×Int×Bool×(List Zr)×Int×CoRecord×Bool×Zq×CoRecord×(List Zb))⊕(Zb×Zc×(Nat->Y2)×Bool×Zc×Zb×Int×Bool×(List Zr)×Int×CoRecord×Bool×Zq×CoRecord)⊕(Zc×(Nat->Y2)×Zc×Zb×Int×Bool×(List Zr)×Int×CoRecord×Bool×CoRecord))->T:=Sum.elim (fun y0=>k (.inl (y0.1,y0.2.1,y0.u2,x.u4,y0.u3,y0.u4,x.u6,y0.u5,x.u8,y0.u6,x.u10,y0.u7,y0.u8,y0.u9,y0.u10,y0.u11,y0.u12,x.u17,x.u18,x.u19,x.u20,x.u21,x.u22,y0.u13,y0.u14,x.u24,y0.u15,y0.v16,x.u26,x.u27,x.u28,x.v29))) (Sum.elim (fun y1=>k (.inr (.inl (y1.1,y1.2.1,x.u4,y1.u2,y1.u3,x.u6,y1.u4,x.u8,y1.u5,x.u10,y1.u6,y1.u7,y1.u8,y1.u9,y1.u10,y1.u11,x.u17,x.u18,x.u19,x.u20,x.u21,x.u22,y1.u12,y1.u13,x.u24,y1.v14,x.u26,x.u27,x.u28,x.v29)))) (Sum.elim (fun y2=>k (.inr (.inr (.inl (y2.1,y2.2.1,x.u4,y2.u2,y2.u3,x.u6,y2.u4,x.u8,y2.u5,x.u10,y2.u6,y2.u7,y2.u8,y2.u9,y2.u10,y2.u11,y2.u12,y2.u13,x.u17,x.u18,x.u19,x.u20,x.u21,x.u22,y2.u14,y2.u15,x.u24,y2.v16,x.u26,x.u27,x.u28,x.v29))))) (Sum.elim (fun y3=>k (.inr (.inr (.inr (.inl (y3.1,y3.2.1,x.u4,y3.u2,y3.u3,x.u6,y3.u4,x.u8,y3.u5,x.u10,y3.u6,y3.u7,y3.u8,y3.u9,y3.u10,y3.u11,x.u17,x.u18,x.u19,x.u20,x.u21,x.u22,y3.u12,y3.u13,x.u24,y3.v14,x.u26,x.u27,x.u28,x.v29)))))) (Sum.elim (fun y4=>k (.inr (.inr (.inr (.inr (.inl (y4.1,y4.2.1,x.u4,y4.u2,y4.u3,x.u6,y4.u4,x.u8,y4.u5,y4.u6,x.u10,y4.u7,y4.u8,y4.u9,y4.u10,y4.u11,y4.u12,x.u17,x.u18,x.u19,x.u20,x.u21,x.u22,y4.u13,y4.u14,x.u24,y4.u15,x.u26,x.u27,x.u28,x.v29,y4.v16))))))) (Sum.elim (fun y5=>k (.inr (.inr (.inr (.inr (.inr (.inl (y5.1,y5.2.1,x.u4,y5.u2,y5.u3,x.u6,y5.u4,x.u8,y5.u5,x.u10,y5.u6,y5.u7,y5.u8,y5.u9,y5.u10,y5.u11,x.u17,x.u18,x.u19,x.u20,x.u21,x.u22,y5.u12,y5.u13,x.u24,y5.v14,x.u26,x.u27,x.u28,x.v29)))))))) (Sum.elim (fun y6=>k (.inr (.inr (.inr (.inr (.inr (.inr (.inl (y6.1,y6.2.1,y6.u2,x.u4,y6.u3,x.u10,x.u6,y6.u4,x.u8,y6.u5,x.u10,y6.u6,y6.u7,y6.u8,y6.u9,y6.u10,y6.u11,x.u17,x.u18,x.u19,x.u20,x.u21,x.u22,y6.u12,y6.u13,x.u24,y6.u14,y6.v15,x.u26,x.u27,x.u28,x.v29))))))))) (Sum.elim (fun y7=>k (.inr (.inr (.inr (.inr (.inr (.inr (.inr (.inl (y7.1,y7.2.1,x.u4,y7.u2,x.u10,x.u6,y7.u3,x.u8,y7.u4,x.u10,y7.u5,y7.u6,y7.u7,y7.u8,y7.u9,y7.u10,x.u17,x.u18,x.u19,x.u20,x.u21,x.u22,y7.u11,y7.u12,x.u24,y7.v13,x.u26,x.u27,x.u28,x.v29)))))))))) (fun y8=>k (.inr (.inr (.inr (.inr (.inr (.inr (.inr (.inr (y8.1,x.u4,y8.2.1,x.u6,x.u7,x.u8,y8.u2,x.u10,y8.u3,y8.u4,y8.u5,y8.u6,y8.u7,y8.u8,x.u17,x.u18,x.u19,x.u20,x.u21,x.u22,y8.u9,x.u24,y8.v10,x.u26,x.u27,x.u28,x.v29)))))))))))))))))
def qci (x:tq3) (v:(Int×Int×Zc×(Nat->Y2)×Zc×Zb×Int×Bool×(List Zr)×Int×CoRecord×Bool×CoRecord)):tq3:=(x.1,v.1,v.2.1,v.u2,x.u4,v.u3,x.u6,x.u7,x.u8,v.u4,x.u10,v.u5,v.u6,v.u7,v.u8,v.u9,v.u10,x.u17,x.u18,x.u19,x.u20,x.u21,x.u22,v.u11,x.u24,v.v12,x.u26,x.u27,x.u28,x.v29)
theorem qcj (x:tq3):LE.step X qcg q3X qbE qc3 12 x=Wk x.1 x.u4 x.u6 x.u7 x.u8 x.u10 x.u17 x.u18 x.u19 x.u20 x.u21 x.u22 x.u24 x.u26 x.u27 x.u28 x.v29 x.2.1 x.u2 x.u3 x.u5 x.u9 x.u11 x.u12 x.u13 x.u14 x.u15 x.u16 x.u23 x.u25 (fun w=>Sum.inl (qci x w)) (fun o=>Sum.inr (qch x id o)):=by kernel_rfl
def qck {R:Type}:Z21 S R:=LE.ls X qcg (fun x k=>(X1t x.1 x.u4 x.u6 x.u7 x.u8 x.u10 x.u17 x.u18 x.u19 x.u20 x.u21 x.u22 x.u24 x.u26 x.u27 x.u28 x.v29 (x.2.1,x.u2,x.u3,x.u5,x.u9,x.u11,x.u12,x.u13,x.u14,x.u15,x.u16,x.u23,x.u25)).bind (qch x k)) qc3
theorem qcl {R:Type}:Z2e X (qck (R:=R)):=Zke xok q3Y (e:=qcg) qbF qc4 (st:=fun(x:tq3)=>WE x.1 x.u4 x.u6 x.u7 x.u8 x.u10 x.u17 x.u18 x.u19 x.u20 x.u21 x.u22 x.u24 x.u26 x.u27 x.u28 x.v29) (prj:=fun(x:tq3)=>(x.2.1,x.u2,x.u3,x.u5,x.u9,x.u11,x.u12,x.u13,x.u14,x.u15,x.u16,x.u23,x.u25)) (emb:=qci) qch (fun x=>(qcj x).trans (by unfold WE Wk X2;simp only[Zk2,ZjT,Zk3,Option.map_some,Option.map_none];rfl)) qc4
theorem qcm (x:((Nat->Y2)×Int×Zc×(Nat->Y2)×Zc×Int×Bool×(List Zr)×Int×CoRecord×Bool×CoRecord)):PE.step X qbI q3X qbE qck 12 x=W4 x.1 x.2.1 x.u2 x.u3 x.u4 x.u5 x.u6 x.u7 x.u8 x.u9 x.u10 x.v11:=by kernel_rfl
theorem qcn:ZcD X qbI XZ:=Zkf (ZjG xok q3Y qbF qcl 12) fun x _ h=>((qcm x).trans (X1U x).symm).trans h
def qco {R:Type}:Prs S R:=PE.ps X qbI (fun x q=>(XZ x).bind q) qbE
theorem qcp {R:Type}:Z8k X (qco (R:=R)):=Zk8 (e:=qbI) qcn qbF
def qcq:StT S:=⟨(N (N L (some (.ptr 0 0)) L) (some (.yld 5)) L),o1y,6⟩
def qcr:Way S:=⟨.ret,⟨(N L (some (.tup [])) L),o1y,6⟩,[(.arr (.st 5)),(.st 25),.int,.bool,(.lst (.st 21)),.int,(.st 20),(.st 25),.bool,(.st 20)]⟩
def qcs:PE S:=⟨81,2,qcq,[(.arr (.st 5)),(.st 25),.int,.bool,(.lst (.st 21)),.int,(.st 20),(.st 25),.bool,(.st 20)],[qcr]⟩
def qct:List (Nat×F7 S):=[(83,q3R),(37,q2B)]
theorem qcu:Z95 X qct:=⟨q3S,q2C,trivial⟩
def qcx:Key:=⟨[81],81,none,[0,0,1,0,1,1],0,13⟩
def qcy:StT S:=⟨(N (N (N L (some (.ptr 7 0)) (N L vD L)) (some (.ptr 0 0)) (N (N L vz L) none L)) none (N L (some (.ptr 6 0)) (N (N L vD L) none L))),o1p,13⟩
def qcz:Way S:=⟨(.exit 0),⟨(N (N (N L (some (.ptr 7 0)) L) (some (.ptr 0 0)) L) none (N L (some (.ptr 6 0)) L)),o1p,14⟩,[(.arr (.st 5)),(.arr (.st 5)),(.st 25),.int,.bool,(.lst (.st 21)),.int,(.st 20),(.st 25),.bool,(.st 20)]⟩
def qcA:LE S:=⟨qcx,qcy,[.int,(.lst (.st 19)),.int,(.arr (.st 5)),(.arr (.st 5)),(.st 25),.int,.bool,(.lst (.st 21)),.int,(.st 20),(.st 25),.bool,(.st 20)],[qcz]⟩
def qcB {T:Type} (x:tqd) (k:((Nat->Y2)×(Nat->Y2)×Zc×Int×Bool×(List Zr)×Int×CoRecord×Zc×Bool×CoRecord)->T):(Nat->Y2)->T:=fun y0=>k (y0,x.u4,x.u5,x.u6,x.u7,x.u8,x.u9,x.u10,x.u11,x.u12,x.v13)
def qcC (x:tqd) (v:(Int×(Nat->Y2))):tqd:=(v.1,x.2.1,x.u2,v.2,x.u4,x.u5,x.u6,x.u7,x.u8,x.u9,x.u10,x.u11,x.u12,x.v13)
theorem qcD (x:tqd):LE.step X qcA qct q5o q4 12 x=WH x.2.1 x.u2 x.u4 x.u5 x.u6 x.u7 x.u8 x.u9 x.u10 x.u11 x.u12 x.v13 x.1 x.u3 (fun w=>Sum.inl (qcC x w)) (fun o=>Sum.inr (qcB x id o)):=by kernel_rfl
def qcE {R:Type}:Z21 S R:=LE.ls X qcA (fun x k=>(WJ x.2.1 x.u2 x.u4 x.u5 x.u6 x.u7 x.u8 x.u9 x.u10 x.u11 x.u12 x.v13 (x.1,x.u3)).bind (qcB x k)) q4
theorem qcF {R:Type}:Z2e X (qcE (R:=R)):=Zke xok qcu (e:=qcA) q5p q5 (st:=fun(x:tqd)=>WQ x.2.1 x.u2 x.u4 x.u5 x.u6 x.u7 x.u8 x.u9 x.u10 x.u11 x.u12 x.v13) (prj:=fun(x:tqd)=>(x.1,x.u3)) (emb:=qcC) qcB (fun x=>(qcD x).trans (by unfold WQ WH X6;simp only[Zk2,ZjT,Zk3,Option.map_some,Option.map_none];rfl)) q5
theorem qcG (x:((Nat->Y2)×Zc×Int×Bool×(List Zr)×Int×CoRecord×Zc×Bool×CoRecord)):PE.step X qcs qct qco qcE 12 x=XJ x.1 x.2.1 x.u2 x.u3 x.u4 x.u5 x.u6 x.u7 x.u8 x.v9:=by kernel_rfl
theorem qcH:ZcD X qcs Wd:=Zkf (ZjG xok qcu qcp qcF 12) fun x _ h=>((qcG x).trans (X2q x).symm).trans h
def qcI {R:Type}:Prs S R:=PE.ps X qcs (fun x q=>(Wd x).bind q) qco
theorem qcJ {R:Type}:Z8k X (qcI (R:=R)):=Zk8 (e:=qcs) qcH qcp
def qcK:List (Nat×F7 S):=[(37,q2B),(83,q3R)]
theorem qcL:Z95 X (qcK):=⟨q2C,q3S,trivial⟩
theorem qcO (x0:CoRecord) (x1:List Zr):Zkg X qcK [(.st 20),(.sl (.st 21))] [(.sl (.st 5)),(.int .i64)] qcI q4 12 21 (x0,x1,())=X1A x0 x1:=by kernel_rfl
def qcP:F7 S:=⟨[(.st 20),(.sl (.st 21))],[(.sl (.st 5)),(.int .i64)],fun xs=>X1k xs.1 xs.2.1⟩
theorem qcQ:Zav X 21 qcP:=Zkd (Zkc xok qcL qcJ q5 12 21) fun xs _ h=>((qcO xs.1 xs.2.1).trans (X3F xs.1 xs.2.1).symm).trans h
def qcV:Key:=⟨[22],22,none,[0,0,1,0,1,1],0,7⟩
def qcW:StT S:=⟨(N (N L vC (N L vD L)) vC L),L,7⟩
def qcX:Way S:=⟨.ret,⟨(N L none (N (N L vE L) none L)),L,21⟩,[.bool]⟩
def qcY:Way S:=⟨(.exit 0),⟨L,L,11⟩,[]⟩
def qcZ:LE S:=⟨qcV,qcW,[(.lst (.st 5)),.int,(.lst (.st 5))],[qcX,qcY]⟩
def qd0 {T:Type} (x:tqF) (k:(Bool⊕Unit)->T):(Bool⊕Unit)->T:=Sum.elim (fun y0=>k (.inl y0)) (fun y1=>k (.inr ()))
def qd1 (x:tqF) (v:Int):tqF:=(x.1,v,x.v2)
theorem qd2 (x:tqF):LE.step X qcZ q2 qcI q4 12 x=X18 x.1 x.v2 x.2.1 (fun w=>Sum.inl (qd1 x w)) (fun o=>Sum.inr (qd0 x id o)):=by kernel_rfl
def qd3 {R:Type}:Z21 S R:=LE.ls X qcZ (fun x k=>(X2W x.1 x.v2 x.2.1).bind (qd0 x k)) q4
theorem qd4 {R:Type}:Z2e X (qd3 (R:=R)):=Zke xok q3 (e:=qcZ) qcJ q5 (st:=fun(x:tqF)=>X10 x.1 x.v2) (prj:=fun(x:tqF)=>x.2.1) (emb:=qd1) qd0 (fun x=>(qd2 x).trans (by unfold X10 X18;simp only[Zk2,ZjT,Zk3,Option.map_some,Option.map_none];rfl)) q5
theorem qd5 (x0 x1:List Y2):Zkg X q2 [(.sl (.st 5)),(.sl (.st 5))] [.bool] qcI qd3 12 22 (x0,x1,())=X2s x0 x1:=by kernel_rfl
def qd6:F7 S:=⟨[(.sl (.st 5)),(.sl (.st 5))],[.bool],fun xs=>X2B xs.1 xs.2.1⟩
theorem qd7:Zav X 22 qd6:=Zkd (Zkc xok q3 qcJ qd4 12 22) fun xs _ h=>((qd5 xs.1 xs.2.1).trans (X4w xs.1 xs.2.1).symm).trans h
end
end Nore
