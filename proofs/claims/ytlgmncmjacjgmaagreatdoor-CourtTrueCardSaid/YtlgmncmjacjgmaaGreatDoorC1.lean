/- The code comes to the plain functions. -/
import Derived.Test.YtlgmncmjacjgmaaGreatDoorY
import Derived.Test.YtlgmncmjacjgmaaGreatDoorD
set_option linter.unusedSectionVars false
set_option linter.unusedVariables false
set_option linter.unusedSimpArgs false
set_option maxRecDepth 100000
open Go Go.Ab Go.Proofs Go.Proofs.YtlgmncmjacjgmaaGreatDoor
open Go.Ab.Tr renaming node->N,leaf->L
namespace Prod
abbrev v2 {a b s:Type} (x:a×b×s):=x.2.2
abbrev u2 {a b r s:Type} (x:a×b×r×s):=x.2.2.1
abbrev v3 {a b c s:Type} (x:a×b×c×s):=x.2.2.2
abbrev u3 {a b c r s:Type} (x:a×b×c×r×s):=x.2.2.2.1
abbrev v4 {a b c d s:Type} (x:a×b×c×d×s):=x.2.2.2.2
abbrev u4 {a b c d r s:Type} (x:a×b×c×d×r×s):=x.2.2.2.2.1
abbrev v5 {a b c d e s:Type} (x:a×b×c×d×e×s):=x.2.2.2.2.2
abbrev u5 {a b c d e r s:Type} (x:a×b×c×d×e×r×s):=x.2.2.2.2.2.1
abbrev v6 {a b c d e f s:Type} (x:a×b×c×d×e×f×s):=x.2.2.2.2.2.2
abbrev u6 {a b c d e f r s:Type} (x:a×b×c×d×e×f×r×s):=x.2.2.2.2.2.2.1
abbrev v7 {a b c d e f g s:Type} (x:a×b×c×d×e×f×g×s):=x.2.2.2.2.2.2.2
abbrev u7 {a b c d e f g r s:Type} (x:a×b×c×d×e×f×g×r×s):=x.2.2.2.2.2.2.2.1
abbrev v8 {a b c d e f g h s:Type} (x:a×b×c×d×e×f×g×h×s):=x.2.2.2.2.2.2.2.2
abbrev u8 {a b c d e f g h r s:Type} (x:a×b×c×d×e×f×g×h×r×s):=x.2.2.2.2.2.2.2.2.1
abbrev v9 {a b c d e f g h i s:Type} (x:a×b×c×d×e×f×g×h×i×s):=x.2.2.2.2.2.2.2.2.2
abbrev u9 {a b c d e f g h i r s:Type} (x:a×b×c×d×e×f×g×h×i×r×s):=x.2.2.2.2.2.2.2.2.2.1
abbrev v10 {a b c d e f g h i j s:Type} (x:a×b×c×d×e×f×g×h×i×j×s):=x.2.2.2.2.2.2.2.2.2.2
abbrev u10 {a b c d e f g h i j r s:Type} (x:a×b×c×d×e×f×g×h×i×j×r×s):=x.2.2.2.2.2.2.2.2.2.2.1
abbrev v11 {a b c d e f g h i j k s:Type} (x:a×b×c×d×e×f×g×h×i×j×k×s):=x.2.2.2.2.2.2.2.2.2.2.2
abbrev u11 {a b c d e f g h i j k r s:Type} (x:a×b×c×d×e×f×g×h×i×j×k×r×s):=x.2.2.2.2.2.2.2.2.2.2.2.1
abbrev v12 {a b c d e f g h i j k l s:Type} (x:a×b×c×d×e×f×g×h×i×j×k×l×s):=x.2.2.2.2.2.2.2.2.2.2.2.2
abbrev u12 {a b c d e f g h i j k l r s:Type} (x:a×b×c×d×e×f×g×h×i×j×k×l×r×s):=x.2.2.2.2.2.2.2.2.2.2.2.2.1
abbrev v13 {a b c d e f g h i j k l m s:Type} (x:a×b×c×d×e×f×g×h×i×j×k×l×m×s):=x.2.2.2.2.2.2.2.2.2.2.2.2.2
abbrev u13 {a b c d e f g h i j k l m r s:Type} (x:a×b×c×d×e×f×g×h×i×j×k×l×m×r×s):=x.2.2.2.2.2.2.2.2.2.2.2.2.2.1
abbrev v14 {a b c d e f g h i j k l m n s:Type} (x:a×b×c×d×e×f×g×h×i×j×k×l×m×n×s):=x.2.2.2.2.2.2.2.2.2.2.2.2.2.2
abbrev u14 {a b c d e f g h i j k l m n r s:Type} (x:a×b×c×d×e×f×g×h×i×j×k×l×m×n×r×s):=x.2.2.2.2.2.2.2.2.2.2.2.2.2.2.1
abbrev v15 {a b c d e f g h i j k l m n o s:Type} (x:a×b×c×d×e×f×g×h×i×j×k×l×m×n×o×s):=x.2.2.2.2.2.2.2.2.2.2.2.2.2.2.2
abbrev u15 {a b c d e f g h i j k l m n o r s:Type} (x:a×b×c×d×e×f×g×h×i×j×k×l×m×n×o×r×s):=x.2.2.2.2.2.2.2.2.2.2.2.2.2.2.2.1
abbrev v16 {a b c d e f g h i j k l m n o p s:Type} (x:a×b×c×d×e×f×g×h×i×j×k×l×m×n×o×p×s):=x.2.2.2.2.2.2.2.2.2.2.2.2.2.2.2.2
abbrev u16 {a b c d e f g h i j k l m n o p r s:Type} (x:a×b×c×d×e×f×g×h×i×j×k×l×m×n×o×p×r×s):=x.2.2.2.2.2.2.2.2.2.2.2.2.2.2.2.2.1
abbrev u17 {a b c d e f g h i j k l m n o p q r s:Type} (x:a×b×c×d×e×f×g×h×i×j×k×l×m×n×o×p×q×r×s):=x.2.2.2.2.2.2.2.2.2.2.2.2.2.2.2.2.2.1
abbrev u18 {a b c d e f g h i j k l m n o p q t r s:Type} (x:a×b×c×d×e×f×g×h×i×j×k×l×m×n×o×p×q×t×r×s):=x.2.2.2.2.2.2.2.2.2.2.2.2.2.2.2.2.2.2.1
abbrev u19 {a b c d e f g h i j k l m n o p q t u r s:Type} (x:a×b×c×d×e×f×g×h×i×j×k×l×m×n×o×p×q×t×u×r×s):=x.2.2.2.2.2.2.2.2.2.2.2.2.2.2.2.2.2.2.2.1
abbrev u20 {a b c d e f g h i j k l m n o p q t u v r s:Type} (x:a×b×c×d×e×f×g×h×i×j×k×l×m×n×o×p×q×t×u×v×r×s):=x.2.2.2.2.2.2.2.2.2.2.2.2.2.2.2.2.2.2.2.2.1
abbrev u21 {a b c d e f g h i j k l m n o p q t u v w r s:Type} (x:a×b×c×d×e×f×g×h×i×j×k×l×m×n×o×p×q×t×u×v×w×r×s):=x.2.2.2.2.2.2.2.2.2.2.2.2.2.2.2.2.2.2.2.2.2.1
abbrev u22 {a b c d e f g h i j k l m n o p q t u v w x r s:Type} (x:a×b×c×d×e×f×g×h×i×j×k×l×m×n×o×p×q×t×u×v×w×x×r×s):=x.2.2.2.2.2.2.2.2.2.2.2.2.2.2.2.2.2.2.2.2.2.2.1
abbrev v23 {a b c d e f g h i j k l m n o p q t u v w x y s:Type} (x:a×b×c×d×e×f×g×h×i×j×k×l×m×n×o×p×q×t×u×v×w×x×y×s):=x.2.2.2.2.2.2.2.2.2.2.2.2.2.2.2.2.2.2.2.2.2.2.2
abbrev u23 {a b c d e f g h i j k l m n o p q t u v w x y r s:Type} (x:a×b×c×d×e×f×g×h×i×j×k×l×m×n×o×p×q×t×u×v×w×x×y×r×s):=x.2.2.2.2.2.2.2.2.2.2.2.2.2.2.2.2.2.2.2.2.2.2.2.1
abbrev v24 {a b c d e f g h i j k l m n o p q t u v w x y z s:Type} (x:a×b×c×d×e×f×g×h×i×j×k×l×m×n×o×p×q×t×u×v×w×x×y×z×s):=x.2.2.2.2.2.2.2.2.2.2.2.2.2.2.2.2.2.2.2.2.2.2.2.2
abbrev u24 {a b c d e f g h i j k l m n o p q t u v w x y z r s:Type} (x:a×b×c×d×e×f×g×h×i×j×k×l×m×n×o×p×q×t×u×v×w×x×y×z×r×s):=x.2.2.2.2.2.2.2.2.2.2.2.2.2.2.2.2.2.2.2.2.2.2.2.2.1
abbrev u25 {a b c d e f g h i j k l m n o p q t u v w x y z a0 r s:Type} (x:a×b×c×d×e×f×g×h×i×j×k×l×m×n×o×p×q×t×u×v×w×x×y×z×a0×r×s):=x.2.2.2.2.2.2.2.2.2.2.2.2.2.2.2.2.2.2.2.2.2.2.2.2.2.1
abbrev u26 {a b c d e f g h i j k l m n o p q t u v w x y z a0 a1 r s:Type} (x:a×b×c×d×e×f×g×h×i×j×k×l×m×n×o×p×q×t×u×v×w×x×y×z×a0×a1×r×s):=x.2.2.2.2.2.2.2.2.2.2.2.2.2.2.2.2.2.2.2.2.2.2.2.2.2.2.1
abbrev u27 {a b c d e f g h i j k l m n o p q t u v w x y z a0 a1 a2 r s:Type} (x:a×b×c×d×e×f×g×h×i×j×k×l×m×n×o×p×q×t×u×v×w×x×y×z×a0×a1×a2×r×s):=x.2.2.2.2.2.2.2.2.2.2.2.2.2.2.2.2.2.2.2.2.2.2.2.2.2.2.2.1
abbrev u28 {a b c d e f g h i j k l m n o p q t u v w x y z a0 a1 a2 a3 r s:Type} (x:a×b×c×d×e×f×g×h×i×j×k×l×m×n×o×p×q×t×u×v×w×x×y×z×a0×a1×a2×a3×r×s):=x.2.2.2.2.2.2.2.2.2.2.2.2.2.2.2.2.2.2.2.2.2.2.2.2.2.2.2.2.1
abbrev v29 {a b c d e f g h i j k l m n o p q t u v w x y z a0 a1 a2 a3 a4 s:Type} (x:a×b×c×d×e×f×g×h×i×j×k×l×m×n×o×p×q×t×u×v×w×x×y×z×a0×a1×a2×a3×a4×s):=x.2.2.2.2.2.2.2.2.2.2.2.2.2.2.2.2.2.2.2.2.2.2.2.2.2.2.2.2.2
abbrev u29 {a b c d e f g h i j k l m n o p q t u v w x y z a0 a1 a2 a3 a4 r s:Type} (x:a×b×c×d×e×f×g×h×i×j×k×l×m×n×o×p×q×t×u×v×w×x×y×z×a0×a1×a2×a3×a4×r×s):=x.2.2.2.2.2.2.2.2.2.2.2.2.2.2.2.2.2.2.2.2.2.2.2.2.2.2.2.2.2.1
abbrev v30 {a b c d e f g h i j k l m n o p q t u v w x y z a0 a1 a2 a3 a4 a5 s:Type} (x:a×b×c×d×e×f×g×h×i×j×k×l×m×n×o×p×q×t×u×v×w×x×y×z×a0×a1×a2×a3×a4×a5×s):=x.2.2.2.2.2.2.2.2.2.2.2.2.2.2.2.2.2.2.2.2.2.2.2.2.2.2.2.2.2.2
end Prod
namespace Nore
noncomputable section
abbrev tqO:Type:=Int×Int×(List Int)
abbrev tqN:Type:=Int×(List Y2)×Int
abbrev tqM:Type:=Int×Int×(List Int)×Int
abbrev tqL:Type:=Int×(List Zq)×Int×Int
abbrev tqK:Type:=Int×(List ByteArray)×CoRecord
abbrev tqJ:Type:=Int×ByteArray×ByteArray×Nat
abbrev tqI:Type:=ByteArray×Int×(List ByteArray)
abbrev tqH:Type:=Int×(List Int)×Int×Int×Int
abbrev tqG:Type:=Int×Int×(List Y2)×Int×Int
abbrev tqF:Type:=(List Int)×Int×Int×Int×Unit
abbrev tqE:Type:=Int×(List Zr)×Int×CoRecord
abbrev tqD:Type:=Int×(List Zq)×Int×CoRecord
abbrev tqC:Type:=Int×(List Zm)×Int×CoRecord
abbrev tqB:Type:=Int×(List Zm)×Int×Zm
abbrev tqA:Type:=Int×Int×(List ByteArray)×CoRecord
abbrev tqz:Type:=Int×(List Int)×Int×Int×Int×CoRecord
abbrev tqy:Type:=Int×(List Int)×(List Int)×(List Int)×Int
abbrev tqx:Type:=Int×Int×Za×CoRecord×(List Int)
abbrev tqw:Type:=Int×(List Zr)×Int×Bool×(List Int)×CoRecord
abbrev tqv:Type:=Int×Int×Int×Int×Zc×(List (Int×Int))
abbrev tqu:Type:=Int×(List Int)×Za×(List Zr)×CoRecord
abbrev tqt:Type:=Int×Int×Int×Int×(List Int)×Za×CoRecord
abbrev tqs:Type:=Int×Int×(List Zb)×(Nat->Y2)×Zc×(Nat->Y2)
abbrev tqr:Type:=Int×Int×Int×(List Zb)×(Nat->Y2)×Zc×(Nat->Y2)
abbrev tqq:Type:=Int×(List Y2)×(List Int)×(List Zr)×Za×CoRecord×(Nat->Int)
abbrev tqp:Type:=Int×(List Zq)×Int×Zc×Zc×(Nat->Y2)×Bool×Zc
abbrev tqo:Type:=((Nat->Y2)×Int×(List Zb)×Zc×Bool×Zc×Zc)
abbrev tqn:Type:=Zb×Zc×Bool×Bool×Zc×Zb×Zc×Zq
abbrev tqm:Type:=(List Zb)×Int×Int×Int×Int×(List Zb)×(Nat->Y2)×Zc×(Nat->Y2)
abbrev tql:Type:=Zb×Zc×Bool×(Nat->Y2)×Bool×Zc×Zb×Zc×Zq
abbrev tqk:Type:=(Bool×Zc×(Nat->Y2)×Zc×Int×Bool×(List Zr)×Int×CoRecord×Bool×CoRecord)
abbrev tqj:Type:=Int×Int×(List Zr)×(List Zr)×Int×Int×Int×Bool×(List Zr)×CoRecord×(List Int)×(List Int)
abbrev tqi:Type:=Zc×(Nat->Y2)×Zc×(Nat->Y2)×Int×Bool×(List Zr)×Int×CoRecord×Bool×CoRecord
abbrev tqh:Type:=Int×Int×Int×Int×Int×Int×(List Zb)×(List Zb)×(Nat->Y2)×Zc×(Nat->Y2)
abbrev tqg:Type:=((Bool×Zc×Bool×Zc×Zc)⊕(Bool×Zc×Bool×Zc×Zc))
abbrev tqf:Type:=Int×Int×Zc×(Nat->Y2)×Zc×(Nat->Y2)×Int×Bool×(List Zr)×Int×CoRecord×Bool×CoRecord
abbrev tqe:Type:=Zb×Zc×Bool×Bool×Zc×Zb×(List Zb)×(List Zb)×Zc×Zq
abbrev tqd:Type:=Int×(List Zq)×Int×(Nat->Y2)×(Nat->Y2)×Zc×Int×Bool×(List Zr)×Int×CoRecord×Zc×Bool×CoRecord
abbrev tqc:Type:=((Nat->Y2)×Int×(List Zb)×Zc×(Nat->Y2)×Zc×Int×Bool×(List Zr)×Int×CoRecord×Bool×CoRecord)
abbrev tqb:Type:=(List Zb)×Zb×Zc×Bool×(Nat->Y2)×Bool×Zc×Zb×(List Zb)×Zc×Zq
abbrev tqa:Type:=Zb×Zc×(List Zb)×Bool×(Nat->Y2)×Bool×Zc×Zb×Zc×Zq×(List Zb)
abbrev tq9:Type:=Zb×Zc×Bool×(Nat->Y2)×Bool×Zc×(List Zb)×Zb×Zc×Zq×(List Zb)
abbrev tq8:Type:=Zb×Zc×(Nat->Y2)×(Nat->Y2)×Bool×Zc×Zb×Int×Bool×(List Zr)×Int×CoRecord×Bool×Zq×CoRecord
abbrev tq7:Type:=Int×Int×Int×(Nat->Y2)×Zb×Zc×Bool×(Nat->Y2)×Bool×Int×Zc×(List Zq)×(List Zq)×Zr×(List Zb)×Zc×Zc×Int×Int×Bool×(Nat->Y2)×Bool×Int×Bool
abbrev tq6:Type:=(Nat->Y2)×Zb×Zc×Bool×(Nat->Y2)×(Nat->Y2)×Bool×Int×Zc×(List Zq)×Zb×(List Zq)×Zr×(List Zb)×Zc×Zc×Zq×Int×Int×Bool×(Nat->Y2)×Bool×Int×Bool
abbrev tq5:Type:=Int×Int×Int×(Nat->Y2)×Zb×Zc×Bool×(Nat->Y2)×Bool×Int×Zc×(List Zq)×(List Zq)×Zr×(List Zb)×Zc×Zc×Int×Int×Bool×(Nat->Y2)×Bool×Int×Bool×(List Zb)
abbrev tq4:Type:=(Nat->Y2)×Zb×Zc×Bool×(Nat->Y2)×(Nat->Y2)×Bool×Int×Zc×(List Zq)×Zb×(List Zq)×Zr×(List Zb)×Zc×Zc×Zq×Int×Int×Bool×(Nat->Y2)×Bool×Int×Bool×(List Zb)
abbrev tq3:Type:=Int×Int×Int×Zc×(List Zq)×(Nat->Y2)×(Nat->Y2)×Bool×Int×Zc×(Nat->Y2)×Zb×Int×Bool×(List Zr)×Int×CoRecord×Bool×(Nat->Y2)×Bool×Int×Bool×Int×Bool×Int×CoRecord×(List Zq)×Zr×(List Zb)×Zc
abbrev tq2:Type:=Zb×Zc×(List Zq)×(Nat->Y2)×(Nat->Y2)×(Nat->Y2)×Bool×Int×Zc×(Nat->Y2)×Zb×Int×Bool×(List Zr)×Int×CoRecord×Bool×(Nat->Y2)×Bool×Int×Bool×Int×Bool×Zq×Int×CoRecord×(List Zq)×Zr×(List Zb)×Zc
abbrev tq1:Type:=Int×Int×Int×Zc×(List Zq)×(Nat->Y2)×(Nat->Y2)×Bool×Int×Zc×(Nat->Y2)×Zb×Int×Bool×(List Zr)×Int×CoRecord×Bool×(Nat->Y2)×Bool×Int×Bool×(List Zb)×Int×Bool×Int×CoRecord×(List Zq)×Zr×(List Zb)×Zc
abbrev tq0:Type:=Zb×Zc×(List Zq)×(Nat->Y2)×(Nat->Y2)×(Nat->Y2)×Bool×Int×Zc×(Nat->Y2)×Zb×Int×Bool×(List Zr)×Int×CoRecord×Bool×(Nat->Y2)×Bool×Int×Bool×(List Zb)×Int×Bool×Zq×Int×CoRecord×(List Zq)×Zr×(List Zb)×Zc
abbrev vI:Option (TV S):=some (.bool false)
abbrev vH:Option (TV S):=some (.int .i64 0)
abbrev vG:Option (TV S):=some (.sl (.st 28) [])
abbrev vF:Option (TV S):=some (.sl (.st 21) [])
abbrev vE:Option (TV S):=some (.sl (.st 19) [])
abbrev oD:Option (Zo S):=some (.row 9 .str [] 1 0)
abbrev vC:Option (TV S):=some (.sl (.int .i64) [])
abbrev vB:Option (TV S):=some (.str ByteArray.empty)
abbrev oA:Option (Zo S):=some (.cells 141 [(.yld 5)])
abbrev oz:Option (Zo S):=some (.cells 141 [(.yld 3)])
abbrev oy:Option (Zo S):=some (.row 30 (.st 21) [] 0 0)
abbrev ox:Option (Zo S):=some (.row 30 (.st 21) [] 1 0)
abbrev ow:Option (Zo S):=some (.row 49 (.st 19) [] 1 0)
abbrev ov:Option (Zo S):=some (.row 150 (.st 28) [] 0 0)
abbrev ou:Option (Zo S):=some (.row 150 (.st 28) [] 1 1)
abbrev ot:Option (Zo S):=some (.cells 4 [(.bool false)])
abbrev os:Option (Zo S):=some (.siter ByteArray.empty 0)
abbrev or:Option (Zo S):=some (.cells 3 [(.int .i64 0)])
abbrev oq:Option (Zo S):=some (.row 3 (.int .i64) [] 1 0)
abbrev op:Option (Zo S):=some (.cells 143 [(.sl (.st 28) [])])
abbrev oo:Option (Zo S):=some (.cells 60 [(.stc 24 (T.dflt 24))])
abbrev on:Option (Zo S):=some (.cells 78 [(.stc 25 (T.dflt 25))])
abbrev om:Option (Zo S):=some (.cells 30 [(.stc 21 (T.dflt 21))])
abbrev ol:Option (Zo S):=some (.cells 49 [(.stc 19 (T.dflt 19))])
abbrev ok:Option (Zo S):=some (.cells 69 [(.stc 18 (T.dflt 18))])
abbrev oj:Option (Zo S):=some (.cells 25 [(.stc 20 (T.dflt 20))])
abbrev oi:Option (Zo S):=some (.cells 150 [(.stc 28 (T.dflt 28))])
abbrev vh:Option (TV S):=some (.tup [(.int .i64 0),(.int .i64 0)])
abbrev vg:Option (TV S):=some (.agg [(.arr (.st 5) 10 (fun _=>tdf T (.st 5)))])
abbrev of:Option (Zo S):=some (.cells 104 [(.arr (.st 5) 10 (fun _=>tdf T (.st 5)))])
abbrev ve:Option (TV S):=some (.fn (.func 121) [] [(.ptr 42 0),(.ptr 43 0),(.ptr 44 0)])
abbrev vd:Option (TV S):=some (.fn (.func 121) [] [(.ptr 40 0),(.ptr 41 0),(.ptr 42 0)])
abbrev oc:Option (Zo S):=some (.cells 62 [(.arr (.int .u16) 3 (fun _=>tdf T (.int .u16)))])
abbrev ob:Option (Zo S):=some (.cells 142 [(.fn (.func 82) [] [(.ptr 7 0),(.ptr 6 0),(.ptr 0 0)])])
abbrev oa:Option (Zo S):=some (.cells 142 [(.fn (.func 82) [] [(.ptr 5 0),(.ptr 4 0),(.ptr 0 0)])])
abbrev o9:Option (Zo S):=some (.loop 39 (N (N L (some (.ptr 2 0)) L) (some (.agg [(.stc 25 (T.dflt 25))])) (N (N L (some (.fn (.func 81) [] [(.ptr 5 0)])) L) (some (.ptr 1 0)) L)) (5::[]) .skip .skip 0 .ret (0::(39::[])) (0::(1::(0::(1::[])))))
abbrev o8:Option (Zo S):=some (.loop 39 (N (N L (some (.ptr 2 0)) L) (some (.agg [(.stc 25 (T.dflt 25))])) (N (N L (some (.fn (.func 81) [] [(.ptr 1 0)])) L) (some (.ptr 0 0)) L)) (5::[]) .skip .skip 0 .normal (0::(39::[])) (0::(1::(0::(1::[])))))
abbrev o7:Option (Zo S):=some (.loop 39 (N (N L (some (.ptr 2 0)) L) (some (.agg [(.stc 25 (T.dflt 25))])) (N (N L (some (.fn (.func 81) [] [(.ptr 5 0)])) L) (some (.ptr 1 0)) L)) (5::[]) .skip .skip 0 .normal (0::(39::[])) (0::(1::(0::(1::[])))))
abbrev o6:Option (Zo S):=some (.loop 21 (N (N (N (N L vH L) none (N (N L vI L) none L)) vF (N (N L (some (.ptr 4 0)) L) vH L)) (some (.agg [(.stc 20 (T.dflt 20))])) (N (N (N L (some (.ptr 3 0)) L) (some .nils) L) (some (.ptr 2 0)) (N L (some (.ptr 1 0)) (N (N L (some (.fn (.func 81) [] [(.ptr 7 0)])) L) none L)))) (23::[]) .skip .skip 0 .busy (0::(21::[])) (0::(1::(0::(1::(1::(1::(1::(1::[])))))))))
abbrev o5:Option (Zo S):=some (.loop 21 (N (N (N (N L vH L) none (N (N L vI L) none L)) vF (N (N L (some (.ptr 4 0)) L) vH L)) (some (.agg [(.stc 20 (T.dflt 20))])) (N (N (N L (some (.ptr 3 0)) L) (some .nils) L) (some (.ptr 2 0)) (N L (some (.ptr 1 0)) (N (N L (some (.fn (.func 81) [] [(.ptr 0 0)])) L) none L)))) (23::[]) .skip .skip 0 .normal (0::(21::[])) (0::(1::(0::(1::(1::(1::(1::(1::[])))))))))
abbrev o4:Option (Zo S):=some (.loop 21 (N (N (N (N L vH L) none (N (N L vI L) none L)) vF (N (N L (some (.ptr 4 0)) L) vH L)) (some (.agg [(.stc 20 (T.dflt 20))])) (N (N (N L (some (.ptr 3 0)) L) (some .nils) L) (some (.ptr 2 0)) (N L (some (.ptr 1 0)) (N (N L (some (.fn (.func 81) [] [(.ptr 7 0)])) L) none L)))) (23::[]) .skip .skip 0 .normal (0::(21::[])) (0::(1::(0::(1::(1::(1::(1::(1::[])))))))))
abbrev o3:Option (Zo S):=some (.loop 82 (N (N (N (N L (some (.ptr 7 0)) L) (some (.ptr 5 0)) (N L vI (N (N L vd L) none L))) vg (N (N L (some (.ptr 9 0)) L) (some (.ptr 0 0)) (N L none (N L vI L)))) vH (N (N (N L (some (.ptr 8 0)) (N L vI L)) (some (.ptr 4 0)) (N L (some (.ptr 32 0)) L)) (some .sl0) (N (N L (some (.ptr 17 0)) L) (some (.ptr 6 0)) L))) (44::[]) .skip .skip 0 .ret (0::(82::[])) (0::(1::(0::(1::(1::(1::(1::(1::[])))))))))
abbrev o2:Option (Zo S):=some (.loop 82 (N (N (N (N L (some (.ptr 9 0)) L) (some (.ptr 7 0)) (N L vI (N (N L ve L) none L))) vg (N (N L (some (.ptr 11 0)) L) (some (.ptr 0 0)) (N L none (N L vI L)))) vH (N (N (N L (some (.ptr 10 0)) (N L vI L)) (some (.ptr 6 0)) (N L (some (.ptr 34 0)) L)) (some .sl0) (N (N L (some (.ptr 19 0)) L) (some (.ptr 8 0)) L))) (44::[]) .skip .skip 0 .ret (0::(82::[])) (0::(1::(0::(1::(1::(1::(1::(1::[])))))))))
abbrev o1:Option (Zo S):=some (.loop 82 (N (N (N (N L (some (.ptr 7 0)) L) (some (.ptr 5 0)) (N L vI (N (N L vd L) none L))) vg (N (N L (some (.ptr 9 0)) L) (some (.ptr 0 0)) (N L none (N L vI L)))) vH (N (N (N L (some (.ptr 8 0)) (N L vI L)) (some (.ptr 4 0)) (N L (some (.ptr 32 0)) L)) vG (N (N L (some (.ptr 17 0)) L) (some (.ptr 6 0)) L))) (44::[]) .skip .skip 0 .ret (0::(82::[])) (0::(1::(0::(1::(1::(1::(1::(1::[])))))))))
abbrev o0:Option (Zo S):=some (.loop 82 (N (N (N (N L (some (.ptr 9 0)) L) (some (.ptr 7 0)) (N L vI (N (N L ve L) none L))) vg (N (N L (some (.ptr 11 0)) L) (some (.ptr 0 0)) (N L none (N L vI L)))) vH (N (N (N L (some (.ptr 10 0)) (N L vI L)) (some (.ptr 6 0)) (N L (some (.ptr 34 0)) L)) vG (N (N L (some (.ptr 19 0)) L) (some (.ptr 8 0)) L))) (44::[]) .skip .skip 0 .ret (0::(82::[])) (0::(1::(0::(1::(1::(1::(1::(1::[])))))))))
abbrev o1Q:Tr (Zo S):=N (N L none (N L oq L)) none L
abbrev v1P:Tr (TV S):=N (N L none (N L vH L)) none L
abbrev o1O:Tr (Zo S):=N (N (N L oq L) none L) none L
abbrev o1N:Tr (Zo S):=N (N (N L os L) none L) none L
abbrev v1M:Tr (TV S):=N L none (N (N L vH L) none L)
abbrev v1L:Tr (TV S):=N (N (N L vH L) none L) none L
abbrev v1K:Tr (TV S):=N (N L vH L) (some (.ptr 1 0)) L
abbrev o1J:Tr (Zo S):=N L none (N (N (N L ok L) ok L) none L)
abbrev v1I:Tr (TV S):=N (N (N L vH L) none L) none (N (N L vH L) vH L)
abbrev o1H:Tr (Zo S):=N (N L none (N (N (N L oD L) none L) none L)) oj L
abbrev v1G:Tr (TV S):=N (N L none (N L vH L)) none (N (N L vH L) none L)
abbrev v1F:Tr (TV S):=N (N (N L vH L) none L) (some (.ptr 0 0)) (N L vH L)
abbrev o1E:Tr (Zo S):=N (N L none (N (N L none (N L ok L)) none L)) none L
abbrev o1D:Tr (Zo S):=N L none (N L none (N (N (N L ok L) none L) none L))
abbrev o1C:Tr (Zo S):=N (N (N L of L) on (N L o5 L)) on (N (N L ot L) oj L)
abbrev o1B:Tr (Zo S):=N (N (N L o8 L) on (N L of L)) ot (N (N L oz L) on L)
abbrev o1A:Tr (Zo S):=N (N (N L o9 L) ot (N L on L)) oa (N (N L oz L) on L)
abbrev o1z:Tr (Zo S):=N (N (N L o7 L) ot (N L on L)) oa (N (N L oz L) on L)
abbrev o1y:Tr (Zo S):=N L on (N L (some (.map (.int .i64) (.int .i64) [])) L)
abbrev v1x:Tr (TV S):=N (N L (some (.ptr 7 0)) L) vg (N L (some (.ptr 0 0)) L)
abbrev v1w:Tr (TV S):=N (N L (some (.ptr 5 0)) L) vg (N L (some (.ptr 0 0)) L)
abbrev o1v:Tr (Zo S):=N (N (N (N (N L ow L) om L) none L) op (N (N L on L) none L)) oA L
abbrev o1u:Tr (Zo S):=N L none (N (N (N L ol L) or L) none (N (N (N L ov L) none L) none L))
abbrev o1t:Tr (Zo S):=N (N (N (N L of L) of L) on (N L o5 L)) on (N (N L ot L) oj (N L oA L))
abbrev o1s:Tr (Zo S):=N (N (N (N L on L) of L) on (N L o4 L)) ob (N (N L ot L) oj (N L oA L))
abbrev o1r:Tr (Zo S):=N (N (N (N (N (N L ou L) ow L) om L) none L) op (N (N L on L) none L)) oA L
abbrev o1q:Tr (Zo S):=N (N (N L none (N L o2 L)) or L) ot (N L none (N (N (N L ol L) or L) none L))
abbrev o1p:Tr (Zo S):=N (N (N L none (N L o0 L)) or L) ot (N L none (N (N (N L ol L) or L) none L))
abbrev o1o:Tr (Zo S):=N (N (N L none (N (N (N (N L ox L) none L) none L) none L)) oo L) oj (N L oc L)
abbrev v1n:Tr (TV S):=N L none (N (N (N L vH L) (some (.ptr 1 0)) (N L vH L)) vG (N L (some (.ptr 2 0)) L))
abbrev o1m:Tr (Zo S):=N (N (N (N L on L) of L) on (N (N (N (N L of L) none L) none L) o6 L)) none (N (N L ot L) oj L)
abbrev o1l:Tr (Zo S):=N (N (N (N (N L ow L) om L) none L) op (N (N L on L) none L)) oA (N L none (N (N (N (N L ov L) none L) none L) none L))
abbrev o1k:Tr (Zo S):=N (N (N L none (N L none (N L ox L))) none L) oj (N (N L none (N L none (N L oq L))) none o1Q)
abbrev v1j:Tr (TV S):=N (N v1M none L) none (N (N (N L vH L) (some (.ptr 1 0)) (N (N L vH L) none L)) vG (N L (some (.ptr 2 0)) L))
abbrev v1i:Tr (TV S):=N (N L none (N L none (N L none (N L vH L)))) none (N (N (N L (some (.ptr 3 0)) L) none L) none (N (N L (some (.ptr 33 0)) L) none (N L none (N L vH L))))
abbrev o1h:Tr (Zo S):=N (N (N (N (N (N (N L ou L) ow L) om L) none L) op (N (N L on L) none L)) oz L) on (N (N L none (N (N (N L ol L) or L) none L)) or (N L none (N (N L o3 L) none L)))
abbrev o1g:Tr (Zo S):=N (N (N (N (N (N (N L ou L) ow L) om L) none L) op (N (N L on L) none L)) oz L) on (N (N L none (N (N (N L ol L) or L) none L)) or (N L none (N (N L o1 L) none L)))
abbrev o1f:Tr (Zo S):=N (N (N (N (N (N L ow L) om L) none L) op (N (N L on L) none L)) oz L) on (N (N L none (N (N (N L ol L) or L) none L)) or (N L none (N (N (N (N L ou L) none L) o3 L) none L)))
abbrev o1e:Tr (Zo S):=N (N (N (N (N (N L ow L) om L) none L) op (N (N L on L) none L)) oz L) on (N (N L none (N (N (N L ol L) or L) none L)) or (N L none (N (N (N (N L ou L) none L) o1 L) none L)))
abbrev o1d:Tr (Zo S):=N (N L none (N (N (N L (some (.row 9 .str [] 1 1)) L) none L) none L)) oj (N (N L none (N L none (N L ok L))) none (N L none (N (N (N L (some (.row 9 .str [] 0 0)) L) none L) none L)))
abbrev o1c:Tr (Zo S):=N (N (N (N (N (N L ow L) om L) none L) op (N (N L on L) none L)) oz L) on (N o1u or (N L none (N (N L o3 L) none L)))
abbrev o1b:Tr (Zo S):=N (N (N (N (N (N L ow L) om L) none L) op (N (N L on L) none L)) oz L) on (N o1u or (N L none (N (N L o1 L) none L)))
abbrev o1a:Tr (Zo S):=N (N (N (N (N L none (N (N L ou L) oi L)) none L) on (N (N (N L ow L) none L) none L)) of (N (N (N L none (N L of L)) of L) ot (N (N L or L) none L))) on (N (N L of (N L none (N L oi L))) o4 L)
abbrev o19:Tr (Zo S):=N (N (N L of (N L none (N L oi L))) o9 L) ot (N (N (N (N L none (N L of L)) of L) ot (N (N L or L) none L)) on (N (N (N (N L ow L) none L) none L) none (N L none (N (N L oi L) none (N L ov L)))))
abbrev o18:Tr (Zo S):=N (N (N L of (N L none (N L oi L))) o7 L) ot (N (N (N (N L none (N L of L)) of L) ot (N (N L or L) none L)) on (N (N (N (N L ow L) none L) none L) none (N L none (N (N L oi L) none (N L ov L)))))
abbrev o17:Tr (Zo S):=N (N (N L of (N L none (N L oi L))) o9 L) ot (N (N (N (N L none (N L of L)) of L) ot (N (N L or L) none L)) on (N (N (N (N L ow L) none L) none L) none (N L none (N (N (N L ou L) oi L) none L))))
abbrev o16:Tr (Zo S):=N (N (N L of (N L none (N L oi L))) o7 L) ot (N (N (N (N L none (N L of L)) of L) ot (N (N L or L) none L)) on (N (N (N (N L ow L) none L) none L) none (N L none (N (N (N L ou L) oi L) none L))))
abbrev v15:Tr (TV S):=N (N (N L (some (.ptr 44 0)) L) none (N (N L none (N L vH L)) (some (.ptr 57 0)) L)) (some (.yld 48)) (N (N (N L none (N L (some (.rs 71 0)) L)) none L) (some (.ptr 43 0)) (N (N L none (N L vH L)) vH L))
abbrev v14:Tr (TV S):=N (N (N L (some (.ptr 42 0)) L) none (N (N L none (N L vH L)) (some (.ptr 55 0)) L)) (some (.yld 46)) (N (N (N L none (N L (some (.rs 69 0)) L)) none L) (some (.ptr 41 0)) (N (N L none (N L vH L)) vH L))
abbrev o13:Tr (Zo S):=N (N (N (N (N (N (N L ov L) none L) none (N L oi L)) none L) on (N (N (N L ow L) none L) none L)) of (N (N (N L none (N L of L)) of L) ot (N (N L or L) none L))) on (N (N L of (N L none (N L oi L))) o4 L)
abbrev o12:Tr (Zo S):=N (N (N (N (N (N L ow L) om L) none L) op (N (N L on L) none L)) oz (N L none (N (N (N (N L ov L) none L) none L) none L))) on (N (N L none (N (N (N L ol L) or L) none L)) or (N L none (N (N L o3 L) none L)))
abbrev o11:Tr (Zo S):=N (N (N (N (N (N L ow L) om L) none L) op (N (N L on L) none L)) oz (N L none (N (N (N (N L ov L) none L) none L) none L))) on (N (N L none (N (N (N L ol L) or L) none L)) or (N L none (N (N L o1 L) none L)))
abbrev o10:Tr (Zo S):=N (N (N (N (N L none (N L oi L)) none L) on (N (N (N L ow L) none L) none L)) of (N (N (N L none (N L of L)) of L) ot (N (N L or L) none L))) on (N (N (N L none (N (N (N L ou L) none L) none L)) of (N L none (N L oi L))) o4 L)
abbrev oZ:Tr (Zo S):=N (N (N (N L none (N (N (N L ou L) none L) none L)) of (N L none (N L oi L))) o9 L) ot (N (N (N (N L none (N L of L)) of L) ot (N (N L or L) none L)) on (N (N (N (N L ow L) none L) none L) none (N L none (N (N L oi L) none L))))
abbrev oY:Tr (Zo S):=N (N (N (N L none (N (N (N L ou L) none L) none L)) of (N L none (N L oi L))) o7 L) ot (N (N (N (N L none (N L of L)) of L) ot (N (N L or L) none L)) on (N (N (N (N L ow L) none L) none L) none (N L none (N (N L oi L) none L))))
abbrev vX:Tr (TV S):=N (N (N (N L none (N L none (N (N L vG L) none L))) none L) none (N (N L none v1M) none L)) none (N (N (N L vH v1M) (some (.ptr 1 0)) (N L vH L)) vG (N L (some (.ptr 2 0)) L))
abbrev oW:Tr (Zo S):=N (N (N (N (N L none (N L oi L)) none L) on (N (N (N L ow L) none L) none L)) of (N (N (N L none (N L of L)) of L) ot (N (N L or L) none L))) on (N (N L of (N L none (N L oi L))) o4 (N L none (N (N (N (N L ov L) none L) none L) none L)))
abbrev oV:Tr (Zo S):=N (N (N L of (N L none (N L oi L))) o9 (N L none (N (N (N (N L ov L) none L) none L) none L))) ot (N (N (N (N L none (N L of L)) of L) ot (N (N L or L) none L)) on (N (N (N (N L ow L) none L) none L) none (N L none (N (N L oi L) none L))))
abbrev oU:Tr (Zo S):=N (N (N L of (N L none (N L oi L))) o7 (N L none (N (N (N (N L ov L) none L) none L) none L))) ot (N (N (N (N L none (N L of L)) of L) ot (N (N L or L) none L)) on (N (N (N (N L ow L) none L) none L) none (N L none (N (N L oi L) none L))))
abbrev vT:Tr (TV S):=N (N (N v1M none (N (N L vH L) none L)) none (N (N L vH L) none L)) none (N (N (N L vH (N (N L vH L) none L)) (some (.ptr 1 0)) (N (N L vH L) none L)) vG (N L (some (.ptr 2 0)) (N (N (N L vG L) none L) none L)))
abbrev oS:Tr (Zo S):=N (N (N (N (N (N L none (N L oi L)) none L) on (N (N (N L ow L) none L) none L)) of (N (N (N L none (N L of L)) of L) ot (N (N L or L) none L))) on (N (N L of (N L none (N L oi L))) o4 L)) ob (N o1q oj o1v)
abbrev oR:Tr (Zo S):=N (N (N (N (N (N L none (N L oi L)) none L) on (N (N (N L ow L) none L) none L)) of (N (N (N L none (N L of L)) of L) ot (N (N L or L) none L))) on (N (N L of (N L none (N L oi L))) o4 L)) ob (N o1p oj o1v)
abbrev oQ:Tr (Zo S):=N (N (N (N L of (N L none (N L oi L))) o9 L) ot (N (N (N (N L none (N L of L)) of L) ot (N (N L or L) none L)) on (N (N (N (N L ow L) none L) none L) none (N L none (N (N L oi L) none L))))) oa (N (N (N (N (N (N L ow L) om L) none L) op (N (N L on L) none L)) oz L) on (N (N L none (N (N (N L ol L) or L) none L)) or (N L none (N (N L o3 L) none L))))
abbrev oP:Tr (Zo S):=N (N (N (N L of (N L none (N L oi L))) o7 L) ot (N (N (N (N L none (N L of L)) of L) ot (N (N L or L) none L)) on (N (N (N (N L ow L) none L) none L) none (N L none (N (N L oi L) none L))))) oa (N (N (N (N (N (N L ow L) om L) none L) op (N (N L on L) none L)) oz L) on (N (N L none (N (N (N L ol L) or L) none L)) or (N L none (N (N L o3 L) none L))))
abbrev oO:Tr (Zo S):=N (N (N (N L of (N L none (N L oi L))) o9 L) ot (N (N (N (N L none (N L of L)) of L) ot (N (N L or L) none L)) on (N (N (N (N L ow L) none L) none L) none (N L none (N (N L oi L) none L))))) oa (N (N (N (N (N (N L ow L) om L) none L) op (N (N L on L) none L)) oz L) on (N (N L none (N (N (N L ol L) or L) none L)) or (N L none (N (N L o1 L) none L))))
abbrev oN:Tr (Zo S):=N (N (N (N L of (N L none (N L oi L))) o7 L) ot (N (N (N (N L none (N L of L)) of L) ot (N (N L or L) none L)) on (N (N (N (N L ow L) none L) none L) none (N L none (N (N L oi L) none L))))) oa (N (N (N (N (N (N L ow L) om L) none L) op (N (N L on L) none L)) oz L) on (N (N L none (N (N (N L ol L) or L) none L)) or (N L none (N (N L o1 L) none L))))
abbrev oM:Tr (Zo S):=N (N (N (N L on (N (N (N L ow L) none L) none L)) of (N (N L of L) ot (N (N L or L) none L))) on (N (N L of (N L none (N L oi L))) o4 L)) ob (N (N (N (N L none (N L (some (.loop 82 (N (N (N (N L (some (.ptr 9 0)) L) (some (.ptr 7 0)) (N L vI (N (N L ve L) none L))) vg (N (N L (some (.ptr 11 0)) L) (some (.ptr 0 0)) (N L none (N L vI L)))) vH (N (N (N L (some (.ptr 10 0)) (N L vI L)) (some (.ptr 6 0)) (N L (some (.ptr 34 0)) L)) vG (N (N L (some (.ptr 19 0)) L) (some (.ptr 8 0)) L))) (44::[]) .skip .skip 0 .normal (0::(82::[])) (0::(1::(0::(1::(1::(1::(1::(1::[])))))))))) L)) or L) ot (N L none (N (N L or L) none L))) oj o1v)
abbrev oL:Tr (Zo S):=N (N (N (N L of (N L none (N L oi L))) o7 L) ot (N (N (N L of L) ot (N (N L or L) none L)) on (N (N (N (N L ow L) none L) none L) none L))) oa (N (N (N (N (N (N L ow L) om L) none L) op (N (N L on L) none L)) oz L) on (N (N L none (N (N L or L) none L)) or (N L none (N (N L (some (.loop 82 (N (N (N (N L (some (.ptr 7 0)) L) (some (.ptr 5 0)) (N L vI (N (N L vd L) none L))) vg (N (N L (some (.ptr 9 0)) L) (some (.ptr 0 0)) (N L none (N L vI L)))) vH (N (N (N L (some (.ptr 8 0)) (N L vI L)) (some (.ptr 4 0)) (N L (some (.ptr 32 0)) L)) vG (N (N L (some (.ptr 17 0)) L) (some (.ptr 6 0)) L))) (44::[]) .skip .skip 0 .normal (0::(82::[])) (0::(1::(0::(1::(1::(1::(1::(1::[])))))))))) L) none L))))
abbrev oK:Tr (Zo S):=N (N (N (N L on (N (N (N L ow L) none L) none L)) of (N (N L of L) ot (N (N L or L) none L))) on (N (N L of (N L none (N L oi L))) o4 L)) ob (N (N (N (N L none (N L (some (.loop 82 (N (N (N (N L (some (.ptr 9 0)) L) (some (.ptr 7 0)) (N L vI (N (N L ve L) none L))) vg (N (N L (some (.ptr 11 0)) L) (some (.ptr 0 0)) (N L none (N L vI L)))) vH (N (N (N L (some (.ptr 10 0)) (N L vI L)) (some (.ptr 6 0)) (N L (some (.ptr 34 0)) L)) (some .sl0) (N (N L (some (.ptr 19 0)) L) (some (.ptr 8 0)) L))) (44::[]) .skip .skip 0 .normal (0::(82::[])) (0::(1::(0::(1::(1::(1::(1::(1::[])))))))))) L)) or L) ot (N L none (N (N L or L) none L))) oj o1v)
abbrev oJ:Tr (Zo S):=N (N (N (N L of (N L none (N L oi L))) o7 L) ot (N (N (N L of L) ot (N (N L or L) none L)) on (N (N (N (N L ow L) none L) none L) none L))) oa (N (N (N (N (N (N L ow L) om L) none L) op (N (N L on L) none L)) oz L) on (N (N L none (N (N L or L) none L)) or (N L none (N (N L (some (.loop 82 (N (N (N (N L (some (.ptr 7 0)) L) (some (.ptr 5 0)) (N L vI (N (N L vd L) none L))) vg (N (N L (some (.ptr 9 0)) L) (some (.ptr 0 0)) (N L none (N L vI L)))) vH (N (N (N L (some (.ptr 8 0)) (N L vI L)) (some (.ptr 4 0)) (N L (some (.ptr 32 0)) L)) (some .sl0) (N (N L (some (.ptr 17 0)) L) (some (.ptr 6 0)) L))) (44::[]) .skip .skip 0 .normal (0::(82::[])) (0::(1::(0::(1::(1::(1::(1::(1::[])))))))))) L) none L))))
def q0 {R:Type}:Prs S R:=Zk4
theorem q1 {R:Type}:Z8k X (q0 (R:=R)):=Zk5 X
def q2:List (Nat×F7 S):=[]
theorem q3:Z95 X (q2):=trivial
abbrev q4 {R:Type}:Z21 S R:=Zj1
theorem q5 {R:Type}:Z2e X (q4 (R:=R)):=ZjC X
def q6:Key:=⟨[115,2,1,77,2,1,51],115,none,[0,0,1,0,1],0,17⟩
def q7:StT S:=⟨(N (N (N (N L vH L) none L) (some (.fn (.func 78) [] [(.ptr 0 0),(.ptr 1 0)])) L) vC v1L),(N (N L or L) or L),17⟩
def q8:Way S:=⟨.ret,⟨v1M,(N (N L or L) or L),38⟩,[.int,.int,.int]⟩
def q9:Way S:=⟨(.exit 0),⟨L,(N (N L or L) or L),18⟩,[.int,.int]⟩
def qa:LE S:=⟨q6,q7,[.int,(.lst (.int .i64)),.int,.int,.int],[q8,q9]⟩
def qb {T:Type} (x:tqH) (k:((Int×Int×Int)⊕(Int×Int))->T):(Int⊕Unit)->T:=Sum.elim (fun y0=>k (.inl (y0,x.u3,x.v4))) (fun y1=>k (.inr (x.u3,x.v4)))
def qc (x:tqH) (v:Int):tqH:=(x.1,x.2.1,v,x.u3,x.v4)
theorem qd (x:tqH):LE.step X qa q2 q0 q4 12 x=X16 x.1 x.2.1 x.u3 x.v4 x.u2 (fun w=>Sum.inl (qc x w)) (fun o=>Sum.inr (qb x id o)):=by kernel_rfl
def qe {R:Type}:Z21 S R:=LE.ls X qa (fun x k=>(X46 x.1 x.2.1 x.u3 x.v4 x.u2).bind (qb x k)) q4
theorem qf {R:Type}:Z2e X (qe (R:=R)):=Zke xok q3 (e:=qa) q1 q5 (st:=fun(x:tqH)=>WX x.1 x.2.1 x.u3 x.v4) (prj:=fun(x:tqH)=>x.u2) (emb:=qc) qb (fun x=>(qd x).trans (by unfold WX X16;simp only[Zk2,ZjT,Zk3,Option.map_some,Option.map_none];rfl)) q5
theorem qg (x0 x1:Int) (x2:List Int):Zkg X q2 [(.int .i64),(.int .i64),(.sl (.int .i64))] [.bool] q0 qe 12 51 (x0,x1,x2,())=X1V x0 x1 x2:=by kernel_rfl
def qh:F7 S:=⟨[(.int .i64),(.int .i64),(.sl (.int .i64))],[.bool],fun xs=>XZ xs.1 xs.2.1 xs.u2⟩
theorem qi:Zav X 51 qh:=Zkd (Zkc xok q3 q1 qf 12 51) fun xs _ h=>((qg xs.1 xs.2.1 xs.u2).trans (X4M xs.1 xs.2.1 xs.u2).symm).trans h
def qn:Key:=⟨[98],98,none,[0,0,1,0,1,1],0,4⟩
def qo:StT S:=⟨(N (N (N (N L (some (.iter 3)) L) (some (.int .i32 0)) L) none L) vB L),o1N,4⟩
def qp:Way S:=⟨.ret,⟨(N L none (N L vI L)),o1N,23⟩,[.bool,.str,.nat]⟩
def qq:Way S:=⟨(.exit 0),⟨(N (N (N L (some (.int .i32 0)) L) none L) vB L),o1N,6⟩,[.int,.str,.str,.nat]⟩
def qr:LE S:=⟨qn,qo,[.int,.str,.str,.nat],[qp,qq]⟩
def qs {T:Type} (x:tqJ) (k:((Bool×ByteArray×Nat)⊕tqJ)->T):((Bool×Nat)⊕(Int×Nat))->T:=Sum.elim (fun y0=>k (.inl (y0.1,x.u2,y0.2))) (fun y1=>k (.inr (y1.1,x.2.1,x.u2,y1.2)))
def qt (x:tqJ) (v:(Int×Nat)):tqJ:=(v.1,x.2.1,x.u2,v.2)
theorem qu (x:tqJ):LE.step X qr q2 q0 q4 12 x=X1E x.2.1 x.u2 x.1 x.v3 (fun w=>Sum.inl (qt x w)) (fun o=>Sum.inr (qs x id o)):=by kernel_rfl
def qv {R:Type}:Z21 S R:=LE.ls X qr (fun x k=>(X4x x.2.1 x.u2 (x.1,x.v3)).bind (qs x k)) q4
theorem qw {R:Type}:Z2e X (qv (R:=R)):=Zke xok q3 (e:=qr) q1 q5 (st:=fun(x:tqJ)=>X1C x.2.1 x.u2) (prj:=fun(x:tqJ)=>(x.1,x.v3)) (emb:=qt) qs (fun x=>(qu x).trans (by unfold X1C X1E;simp only[Zk2,ZjT,Zk3,Option.map_some,Option.map_none];rfl)) q5
theorem qx (x0:ByteArray):Zkg X q2 [.str] [.bool] q0 qv 12 98 (x0,())=X4V x0:=by kernel_rfl
def qy:F7 S:=⟨[.str],[.bool],fun xs=>X4V xs.1⟩
theorem qz:Zav X 98 qy:=Zkd (Zkc xok q3 q1 qw 12 98) fun xs _ h=>(qx xs.1).trans h
def qA:List (Nat×F7 S):=[(51,qh)]
theorem qB:Z95 X (qA):=⟨qi,trivial⟩
theorem qE (x0:CoRecord) (x1:Zr):Zkg X qA [(.st 20),(.st 21)] [(.int .i64)] q0 q4 12 57 (x0,x1,())=X2Z x0 x1:=by kernel_rfl
def qF:F7 S:=⟨[(.st 20),(.st 21)],[(.int .i64)],fun xs=>X3Z xs.1 xs.2.1⟩
theorem qG:Zav X 57 qF:=Zkd (Zkc xok qB q1 q5 12 57) fun xs _ h=>((qE xs.1 xs.2.1).trans (X5R xs.1 xs.2.1).symm).trans h
def qH:StT S:=⟨(N (N L (some (.fn (.func 97) [] [(.ptr 0 0)])) L) (some (.sl (.st 18) [])) L),(N L oj L),1⟩
def qI:Way S:=⟨.ret,⟨(N L vh L),(N L oj L),1⟩,[.int,.int,(.st 20)]⟩
def qJ:PE S:=⟨96,2,qH,[(.lst (.st 18)),(.st 20)],[qI]⟩
def qK:List (Nat×F7 S):=[(51,qh),(98,qy),(57,qF)]
theorem qL:Z95 X qK:=⟨qi,qz,qG,trivial⟩
def qO:Key:=⟨[125,2,1,99,5,3,97,3,4,96],125,none,[0,0,1,0,1],0,42⟩
def qP:StT S:=⟨(N (N (N (N L vH L) none L) (some (.fn (.func 100) [] [(.ptr 18 0)])) L) (some (.sl (.st 18) [])) v1L),o1D,42⟩
def qQ:Way S:=⟨.ret,⟨v1M,(N o1E none (N L none (N (N (N L ok L) none L) none L))),61⟩,[.int,(.st 18),(.st 18)]⟩
def qR:Way S:=⟨(.exit 0),⟨L,o1D,43⟩,[(.st 18)]⟩
def qS:LE S:=⟨qO,qP,[.int,(.lst (.st 18)),.int,(.st 18)],[qQ,qR]⟩
def qT {T:Type} (x:tqB) (k:((Int×Zm×Zm)⊕Zm)->T):((Int×Zm)⊕Unit)->T:=Sum.elim (fun y0=>k (.inl (y0.1,y0.2,x.v3))) (fun y1=>k (.inr x.v3))
def qU (x:tqB) (v:Int):tqB:=(x.1,x.2.1,v,x.v3)
theorem qV (x:tqB):LE.step X qS qK q0 q4 12 x=Xm x.1 x.2.1 x.v3 x.u2 (fun w=>Sum.inl (qU x w)) (fun o=>Sum.inr (qT x id o)):=by kernel_rfl
def qW {R:Type}:Z21 S R:=LE.ls X qS (fun x k=>(Xn x.1 x.2.1 x.v3 x.u2).bind (qT x k)) q4
theorem qX {R:Type}:Z2e X (qW (R:=R)):=Zke xok qL (e:=qS) q1 q5 (st:=fun(x:tqB)=>Xa x.1 x.2.1 x.v3) (prj:=fun(x:tqB)=>x.u2) (emb:=qU) qT (fun x=>(qV x).trans (by unfold Xa Xm;simp only[Zk2,ZjT,Zk3,Option.map_some,Option.map_none];rfl)) q5
def qY:Key:=⟨[96],96,none,[0,0,1,0,1],0,6⟩
def qZ:StT S:=⟨(N (N (N L none (N L vH L)) (some (.fn (.func 97) [] [(.ptr 0 0)])) (N (N L (some (.sl (.st 18) [])) L) none L)) none v1M),(N L oj L),6⟩
def q10:Way S:=⟨.ret,⟨v1G,(N L oj o1J),32⟩,[.int,.int,(.st 20),(.st 18),(.st 18)]⟩
def q11:Way S:=⟨.ret,⟨v1G,(N o1E oj o1J),68⟩,[.int,.int,(.st 18),(.st 20),(.st 18),(.st 18)]⟩
def q12:Way S:=⟨.ret,⟨v1G,(N (N (N (N o1O none L) none (N (N L none (N L ok L)) none L)) none L) oj o1J),82⟩,[.int,.int,(.lst (.int .i64)),(.st 18),(.st 20),(.st 18),(.st 18)]⟩
def q13:Way S:=⟨.ret,⟨v1G,(N (N (N (N o1O none o1O) none (N (N L none (N L ok L)) none L)) none L) oj o1J),82⟩,[.int,.int,(.lst (.int .i64)),(.lst (.int .i64)),(.st 18),(.st 20),(.st 18),(.st 18)]⟩
def q14:Way S:=⟨.ret,⟨v1G,(N L oj (N L none (N (N (N L ok L) ok L) none (N L none (N (N L oq L) none L))))),65⟩,[.int,.int,(.st 20),(.st 18),(.st 18),(.lst (.int .i64))]⟩
def q15:Way S:=⟨.ret,⟨v1G,(N L oj (N L none (N (N (N L ok L) ok L) none (N (N L none (N L oq L)) none (N (N L oq L) none L))))),65⟩,[.int,.int,(.st 20),(.st 18),(.st 18),(.lst (.int .i64)),(.lst (.int .i64))]⟩
def q16:Way S:=⟨(.exit 0),⟨L,(N L oj L),7⟩,[(.st 20)]⟩
def q17:LE S:=⟨qY,qZ,[.int,(.lst (.st 18)),.int,(.st 20)],[q10,q11,q12,q13,q14,q15,q16]⟩
def q18 {T:Type} (x:tqC) (k:((Int×Int×CoRecord×Zm×Zm)⊕(Int×Int×Zm×CoRecord×Zm×Zm)⊕(Int×Int×(List Int)×Zm×CoRecord×Zm×Zm)⊕(Int×Int×(List Int)×(List Int)×Zm×CoRecord×Zm×Zm)⊕(Int×Int×CoRecord×Zm×Zm×(List Int))⊕(Int×Int×CoRecord×Zm×Zm×(List Int)×(List Int))⊕CoRecord)->T):((Int×Int×Zm×Zm)⊕(Int×Int×Zm×Zm×Zm)⊕(Int×Int×(List Int)×Zm×Zm×Zm)⊕(Int×Int×(List Int)×(List Int)×Zm×Zm×Zm)⊕(Int×Int×Zm×Zm×(List Int))⊕(Int×Int×Zm×Zm×(List Int)×(List Int))⊕Unit)->T:=Sum.elim (fun y0=>k (.inl (y0.1,y0.2.1,x.v3,y0.u2,y0.v3))) (Sum.elim (fun y1=>k (.inr (.inl (y1.1,y1.2.1,y1.u2,x.v3,y1.u3,y1.v4)))) (Sum.elim (fun y2=>k (.inr (.inr (.inl (y2.1,y2.2.1,y2.u2,y2.u3,x.v3,y2.u4,y2.v5))))) (Sum.elim (fun y3=>k (.inr (.inr (.inr (.inl (y3.1,y3.2.1,y3.u2,y3.u3,y3.u4,x.v3,y3.u5,y3.v6)))))) (Sum.elim (fun y4=>k (.inr (.inr (.inr (.inr (.inl (y4.1,y4.2.1,x.v3,y4.u2,y4.u3,y4.v4))))))) (Sum.elim (fun y5=>k (.inr (.inr (.inr (.inr (.inr (.inl (y5.1,y5.2.1,x.v3,y5.u2,y5.u3,y5.u4,y5.v5)))))))) (fun y6=>k (.inr (.inr (.inr (.inr (.inr (.inr x.v3))))))))))))
def q19 (x:tqC) (v:Int):tqC:=(v,x.2.1,x.u2,x.v3)
theorem q1a (x:tqC):LE.step X q17 qK q0 qW 12 x=Xl x.2.1 x.u2 x.v3 x.1 (fun w=>Sum.inl (q19 x w)) (fun o=>Sum.inr (q18 x id o)):=by kernel_rfl
def q1b {R:Type}:Z21 S R:=LE.ls X q17 (fun x k=>(Ww x.2.1 x.u2 x.v3 x.1).bind (q18 x k)) qW
theorem q1c {R:Type}:Z2e X (q1b (R:=R)):=Zke xok qL (e:=q17) q1 qX (st:=fun(x:tqC)=>Xq x.2.1 x.u2 x.v3) (prj:=fun(x:tqC)=>x.1) (emb:=q19) q18 (fun x=>(q1a x).trans (by unfold Xq Xl;simp only[Zk2,ZjT,Zk3,Option.map_some,Option.map_none];rfl)) qX
theorem q1d (x:((List Zm)×CoRecord)):PE.step X qJ qK q0 q1b 12 x=Xt x.1 x.2:=by kernel_rfl
theorem q1e:ZcD X qJ W0:=Zkf (ZjG xok qL q1 q1c 12) fun x _ h=>((q1d x).trans (X2f x).symm).trans h
def q1f {R:Type}:Prs S R:=PE.ps X qJ (fun x q=>(W0 x).bind q) q0
theorem q1g {R:Type}:Z8k X (q1f (R:=R)):=Zk8 (e:=qJ) q1e q1
def q1h:StT S:=⟨(N (N L (some (.fn (.func 102) [] [(.ptr 0 0)])) L) vE L),(N L oj L),1⟩
def q1j:PE S:=⟨101,2,q1h,[(.lst (.st 19)),(.st 20)],[qI]⟩
def q1o:Key:=⟨[101],101,none,[0,0,1,0,1],0,6⟩
def q1p:StT S:=⟨(N (N (N L none (N L vH L)) (some (.fn (.func 102) [] [(.ptr 0 0)])) (N (N L vE L) none L)) none v1M),(N L oj L),6⟩
def q1q:Way S:=⟨.ret,⟨v1G,(N L oj (N L none (N (N (N L ol L) ol L) none L))),30⟩,[.int,.int,(.st 20),(.st 19),(.st 19)]⟩
def q1s:LE S:=⟨q1o,q1p,[.int,(.lst (.st 19)),.int,(.st 20)],[q1q,q16]⟩
def q1t {T:Type} (x:tqD) (k:((Int×Int×CoRecord×Zq×Zq)⊕CoRecord)->T):((Int×Int×Zq×Zq)⊕Unit)->T:=Sum.elim (fun y0=>k (.inl (y0.1,y0.2.1,x.v3,y0.u2,y0.v3))) (fun y1=>k (.inr x.v3))
def q1u (x:tqD) (v:Int):tqD:=(v,x.2.1,x.u2,x.v3)
theorem q1v (x:tqD):LE.step X q1s qK q1f q4 12 x=Xo x.2.1 x.u2 x.v3 x.1 (fun w=>Sum.inl (q1u x w)) (fun o=>Sum.inr (q1t x id o)):=by kernel_rfl
def q1w {R:Type}:Z21 S R:=LE.ls X q1s (fun x k=>(WG x.2.1 x.u2 x.v3 x.1).bind (q1t x k)) q4
theorem q1x {R:Type}:Z2e X (q1w (R:=R)):=Zke xok qL (e:=q1s) q1g q5 (st:=fun(x:tqD)=>Xs x.2.1 x.u2 x.v3) (prj:=fun(x:tqD)=>x.1) (emb:=q1u) q1t (fun x=>(q1v x).trans (by unfold Xs Xo;simp only[Zk2,ZjT,Zk3,Option.map_some,Option.map_none];rfl)) q5
theorem q1y (x:((List Zq)×CoRecord)):PE.step X q1j qK q1f q1w 12 x=Xx x.1 x.2:=by kernel_rfl
theorem q1z:ZcD X q1j Wa:=Zkf (ZjG xok qL q1g q1x 12) fun x _ h=>((q1y x).trans (X2p x).symm).trans h
def q1A {R:Type}:Prs S R:=PE.ps X q1j (fun x q=>(Wa x).bind q) q1f
theorem q1B {R:Type}:Z8k X (q1A (R:=R)):=Zk8 (e:=q1j) q1z q1g
def q1C:StT S:=⟨(N (N L (some (.fn (.func 103) [] [(.ptr 0 0)])) L) vE L),(N L or L),1⟩
def q1D:Way S:=⟨.ret,⟨(N L vh L),(N L or L),1⟩,[.int,.int,.int]⟩
def q1E:PE S:=⟨101,2,q1C,[(.lst (.st 19)),.int],[q1D]⟩
def q1K:StT S:=⟨(N (N (N L none (N L vH L)) (some (.fn (.func 103) [] [(.ptr 0 0)])) (N (N L vE L) none L)) none v1M),(N L or L),6⟩
def q1L:Way S:=⟨.ret,⟨v1G,(N L or (N L none (N (N (N L ol L) ol L) none L))),38⟩,[.int,.int,.int,(.st 19),(.st 19)]⟩
def q1M:Way S:=⟨(.exit 0),⟨L,(N L or L),7⟩,[.int]⟩
def q1N:LE S:=⟨q1o,q1K,[.int,(.lst (.st 19)),.int,.int],[q1L,q1M]⟩
def q1O {T:Type} (x:tqL) (k:((Int×Int×Int×Zq×Zq)⊕Int)->T):((Int×Int×Int×Zq×Zq)⊕Int)->T:=Sum.elim (fun y0=>k (.inl (y0.1,y0.2.1,y0.u2,y0.u3,y0.v4))) (fun y1=>k (.inr y1))
def q1P (x:tqL) (v:(Int×Int)):tqL:=(v.1,x.2.1,x.u2,v.2)
theorem q1Q (x:tqL):LE.step X q1N qK q1A q4 12 x=Xp x.2.1 x.u2 x.1 x.v3 (fun w=>Sum.inl (q1P x w)) (fun o=>Sum.inr (q1O x id o)):=by kernel_rfl
def q1R {R:Type}:Z21 S R:=LE.ls X q1N (fun x k=>(WH x.2.1 x.u2 (x.1,x.v3)).bind (q1O x k)) q4
theorem q1S {R:Type}:Z2e X (q1R (R:=R)):=Zke xok qL (e:=q1N) q1B q5 (st:=fun(x:tqL)=>X9 x.2.1 x.u2) (prj:=fun(x:tqL)=>(x.1,x.v3)) (emb:=q1P) q1O (fun x=>(q1Q x).trans (by unfold X9 Xp;simp only[Zk2,ZjT,Zk3,Option.map_some,Option.map_none];rfl)) q5
theorem q1T (x:((List Zq)×Int)):PE.step X q1E qK q1A q1R 12 x=Xy x.1 x.2:=by kernel_rfl
theorem q1U:ZcD X q1E Wb:=Zkf (ZjG xok qL q1B q1S 12) fun x _ h=>((q1T x).trans (X2r x).symm).trans h
def q1V {R:Type}:Prs S R:=PE.ps X q1E (fun x q=>(Wb x).bind q) q1A
theorem q1W {R:Type}:Z8k X (q1V (R:=R)):=Zk8 (e:=q1E) q1U q1B
theorem q1Y:Z95 X (qK):=⟨qi,qz,qG,trivial⟩
theorem q21 (x0:CoRecord):Zkg X qK [(.st 20)] [(.int .i64),(.int .i64),(.int .i64)] q1V q4 12 65 (x0,())=X2G x0:=by kernel_rfl
def q22:F7 S:=⟨[(.st 20)],[(.int .i64),(.int .i64),(.int .i64)],fun xs=>X4y xs.1⟩
theorem q23:Zav X 65 q22:=Zkd (Zkc xok q1Y q1W q5 12 65) fun xs _ h=>((q21 xs.1).trans (X5g xs.1).symm).trans h
def q24:StT S:=⟨(N (N L (some (.fn (.func 90) [] [(.ptr 0 0)])) L) vF L),(N L oj L),1⟩
def q26:PE S:=⟨89,2,q24,[(.lst (.st 21)),(.st 20)],[qI]⟩
def q27:List (Nat×F7 S):=[(65,q22),(57,qF)]
theorem q28:Z95 X q27:=⟨q23,qG,trivial⟩
def q2b:Key:=⟨[89],89,none,[0,0,1,0,1],0,6⟩
def q2c:StT S:=⟨(N (N (N L none (N L vH L)) (some (.fn (.func 90) [] [(.ptr 0 0)])) (N (N L vF L) none L)) none v1M),(N L oj L),6⟩
def q2d:Way S:=⟨.ret,⟨v1G,(N L oj (N L none (N (N (N L om L) om L) none L))),30⟩,[.int,.int,(.st 20),(.st 21),(.st 21)]⟩
def q2f:LE S:=⟨q2b,q2c,[.int,(.lst (.st 21)),.int,(.st 20)],[q2d,q16]⟩
def q2g {T:Type} (x:tqE) (k:((Int×Int×CoRecord×Zr×Zr)⊕CoRecord)->T):((Int×Int×Zr×Zr)⊕Unit)->T:=Sum.elim (fun y0=>k (.inl (y0.1,y0.2.1,x.v3,y0.u2,y0.v3))) (fun y1=>k (.inr x.v3))
def q2h (x:tqE) (v:Int):tqE:=(v,x.2.1,x.u2,x.v3)
theorem q2i (x:tqE):LE.step X q2f q27 q1V q4 12 x=Xr x.2.1 x.u2 x.v3 x.1 (fun w=>Sum.inl (q2h x w)) (fun o=>Sum.inr (q2g x id o)):=by kernel_rfl
def q2j {R:Type}:Z21 S R:=LE.ls X q2f (fun x k=>(WP x.2.1 x.u2 x.v3 x.1).bind (q2g x k)) q4
theorem q2k {R:Type}:Z2e X (q2j (R:=R)):=Zke xok q28 (e:=q2f) q1W q5 (st:=fun(x:tqE)=>Xu x.2.1 x.u2 x.v3) (prj:=fun(x:tqE)=>x.1) (emb:=q2h) q2g (fun x=>(q2i x).trans (by unfold Xu Xr;simp only[Zk2,ZjT,Zk3,Option.map_some,Option.map_none];rfl)) q5
theorem q2l (x:((List Zr)×CoRecord)):PE.step X q26 q27 q1V q2j 12 x=XJ x.1 x.2:=by kernel_rfl
theorem q2m:ZcD X q26 Wf:=Zkf (ZjG xok q28 q1W q2k 12) fun x _ h=>((q2l x).trans (X2J x).symm).trans h
def q2n {R:Type}:Prs S R:=PE.ps X q26 (fun x q=>(Wf x).bind q) q1V
theorem q2o {R:Type}:Z8k X (q2n (R:=R)):=Zk8 (e:=q26) q2m q1W
theorem q2q:Z95 X (q27):=⟨q23,qG,trivial⟩
theorem q2t (x0:CoRecord) (x1:List Zr):Zkg X q27 [(.st 20),(.sl (.st 21))] [(.int .i64),(.int .i64)] q2n q4 12 60 (x0,x1,())=X1m x0 x1:=by kernel_rfl
def q2u:F7 S:=⟨[(.st 20),(.sl (.st 21))],[(.int .i64),(.int .i64)],fun xs=>X3r xs.1 xs.2.1⟩
theorem q2v:Zav X 60 q2u:=Zkd (Zkc xok q2q q2o q5 12 60) fun xs _ h=>((q2t xs.1 xs.2.1).trans (X4l xs.1 xs.2.1).symm).trans h
def q2w:List (Nat×F7 S):=[(60,q2u)]
theorem q2x:Z95 X (q2w):=⟨q2v,trivial⟩
theorem q2A (x0:CoRecord) (x1:List Zr):Zkg X q2w [(.st 20),(.sl (.st 21))] [(.st 25),(.int .i64)] q2n q4 12 37 (x0,x1,())=X2I x0 x1:=by kernel_rfl
def q2B:F7 S:=⟨[(.st 20),(.sl (.st 21))],[(.st 25),(.int .i64)],fun xs=>X1T xs.1 xs.2.1⟩
theorem q2C:Zav X 37 q2B:=Zkd (Zkc xok q2x q2o q5 12 37) fun xs _ h=>((q2A xs.1 xs.2.1).trans (X5l xs.1 xs.2.1).symm).trans h
theorem q2H (x0:Y2):Zkg X q2 [(.st 5)] [.bool] q2n q4 12 120 (x0,())=Wc x0:=by kernel_rfl
def q2I:F7 S:=⟨[(.st 5)],[.bool],fun xs=>X2A xs.1⟩
theorem q2J:Zav X 120 q2I:=Zkd (Zkc xok q3 q2o q5 12 120) fun xs _ h=>((q2H xs.1).trans (X3e xs.1).symm).trans h
def q2K:List (Nat×F7 S):=[(120,q2I)]
theorem q2L:Z95 X (q2K):=⟨q2J,trivial⟩
def q2O:Key:=⟨[83],83,none,[0,0,1,1,1,0,0,1,1,0,0,1,0,1,1],2,33⟩
def q2P:StT S:=⟨vT,(N (N L of L) on (N L of L)),33⟩
def q2Q:Way S:=⟨(.exit 2),⟨v1j,(N (N L of L) on (N L of L)),34⟩,[.int,.int,.int,(.lst (.st 28)),(.arr (.st 5)),(.st 25),(.arr (.st 5))]⟩
def q2R:LE S:=⟨q2O,q2P,[.int,.int,.int,.int,.int,.int,(.lst (.st 28)),(.lst (.st 28)),(.arr (.st 5)),(.st 25),(.arr (.st 5))],[q2Q]⟩
def q2S {T:Type} (x:tqh) (k:tqr->T):(Nat->Y2)->T:=fun y0=>k (x.2.1,x.u3,x.u5,x.u6,y0,x.u9,x.v10)
def q2T (x:tqh) (v:(Int×(Nat->Y2))):tqh:=(x.1,x.2.1,x.u2,x.u3,v.1,x.u5,x.u6,x.u7,v.2,x.u9,x.v10)
theorem q2U (x:tqh):LE.step X q2R q2K q2n q4 12 x=Xe x.1 x.2.1 x.u2 x.u3 x.u5 x.u6 x.u7 x.u9 x.v10 x.u4 x.u8 (fun w=>Sum.inl (q2T x w)) (fun o=>Sum.inr (q2S x id o)):=by kernel_rfl
def q2V {R:Type}:Z21 S R:=LE.ls X q2R (fun x k=>(WD x.1 x.2.1 x.u2 x.u3 x.u5 x.u6 x.u7 x.u9 x.v10 (x.u4,x.u8)).bind (q2S x k)) q4
theorem q2W {R:Type}:Z2e X (q2V (R:=R)):=Zke xok q2L (e:=q2R) q2o q5 (st:=fun(x:tqh)=>XA x.1 x.2.1 x.u2 x.u3 x.u5 x.u6 x.u7 x.u9 x.v10) (prj:=fun(x:tqh)=>(x.u4,x.u8)) (emb:=q2T) q2S (fun x=>(q2U x).trans (by unfold XA Xe;simp only[Zk2,ZjT,Zk3,Option.map_some,Option.map_none];rfl)) q5
def q2X:Key:=⟨[83],83,none,[0,0,1,1,1,0,0,1,1,0,0,1,0,1,1],2,19⟩
def q2Y:StT S:=⟨vT,(N (N L of L) on (N L of L)),19⟩
def q2Z:Way S:=⟨(.exit 2),⟨v1j,(N (N L of L) on (N L of L)),20⟩,[.int,.int,.int,(.lst (.st 28)),(.arr (.st 5)),(.st 25),(.arr (.st 5))]⟩
def q30:LE S:=⟨q2X,q2Y,[.int,.int,.int,.int,.int,.int,(.lst (.st 28)),(.lst (.st 28)),(.arr (.st 5)),(.st 25),(.arr (.st 5))],[q2Z]⟩
theorem q33 (x:tqh):LE.step X q30 q2K q2n q2V 12 x=X1k x.1 x.2.1 x.u2 x.u3 x.u5 x.u6 x.u7 x.u9 x.v10 x.u4 x.u8 (fun w=>Sum.inl (q2T x w)) (fun o=>Sum.inr (q2S x id o)):=by kernel_rfl
def q34 {R:Type}:Z21 S R:=LE.ls X q30 (fun x k=>(X1v x.1 x.2.1 x.u2 x.u3 x.u5 x.u6 x.u7 x.u9 x.v10 (x.u4,x.u8)).bind (q2S x k)) q2V
theorem q35 {R:Type}:Z2e X (q34 (R:=R)):=Zke xok q2L (e:=q30) q2o q2W (st:=fun(x:tqh)=>X1G x.1 x.2.1 x.u2 x.u3 x.u5 x.u6 x.u7 x.u9 x.v10) (prj:=fun(x:tqh)=>(x.u4,x.u8)) (emb:=q2T) q2S (fun x=>(q33 x).trans (by unfold X1G X1k Xe;simp only[Zk2,ZjT,Zk3,Option.map_some,Option.map_none];rfl)) q2W
def q36:Key:=⟨[83],83,none,[0,0,1,0,1,1],0,11⟩
def q37:StT S:=⟨v1j,(N (N L of L) on (N L of L)),11⟩
def q38:Way S:=⟨(.exit 0),⟨(N L none (N v1K vG (N L (some (.ptr 2 0)) L))),(N (N L of L) on (N L of L)),12⟩,[.int,(.lst (.st 28)),(.arr (.st 5)),(.st 25),(.arr (.st 5))]⟩
def q39:LE S:=⟨q36,q37,[.int,.int,.int,(.lst (.st 28)),(.arr (.st 5)),(.st 25),(.arr (.st 5))],[q38]⟩
def q3a {T:Type} (x:tqr) (k:(Int×(List Zb)×(Nat->Y2)×Zc×(Nat->Y2))->T):(Nat->Y2)->T:=fun y0=>k (x.2.1,x.u3,y0,x.u5,x.v6)
def q3b (x:tqr) (v:(Int×(Nat->Y2))):tqr:=(x.1,x.2.1,v.1,x.u3,v.2,x.u5,x.v6)
theorem q3c (x:tqr):LE.step X q39 q2K q2n q34 12 x=XS x.1 x.2.1 x.u3 x.u5 x.v6 x.u2 x.u4 (fun w=>Sum.inl (q3b x w)) (fun o=>Sum.inr (q3a x id o)):=by kernel_rfl
def q3d {R:Type}:Z21 S R:=LE.ls X q39 (fun x k=>(WC x.1 x.2.1 x.u3 x.u5 x.v6 (x.u2,x.u4)).bind (q3a x k)) q34
theorem q3e {R:Type}:Z2e X (q3d (R:=R)):=Zke xok q2L (e:=q39) q2o q35 (st:=fun(x:tqr)=>Xz x.1 x.2.1 x.u3 x.u5 x.v6) (prj:=fun(x:tqr)=>(x.u2,x.u4)) (emb:=q3b) q3a (fun x=>(q3c x).trans (by unfold Xz XS;simp only[Zk2,ZjT,Zk3,Option.map_some,Option.map_none];rfl)) q35
def q3f:Key:=⟨[83],83,none,[0,0,1,1,0,0,1,0,0,1,0,1,1,1],6,38⟩
def q3g:StT S:=⟨vX,(N (N L of L) on (N L of L)),38⟩
def q3h:Way S:=⟨(.exit 6),⟨v1n,(N (N L of L) on (N L of L)),39⟩,[.int,.int,(.lst (.st 28)),(.arr (.st 5)),(.st 25),(.arr (.st 5))]⟩
def q3i:LE S:=⟨q3f,q3g,[(.lst (.st 28)),.int,.int,.int,.int,(.lst (.st 28)),(.arr (.st 5)),(.st 25),(.arr (.st 5))],[q3h]⟩
def q3j {T:Type} (x:tqm) (k:tqs->T):(Nat->Y2)->T:=fun y0=>k (x.u2,x.u4,x.u5,y0,x.u7,x.v8)
def q3k (x:tqm) (v:(Int×(Nat->Y2))):tqm:=(x.1,v.1,x.u2,x.u3,x.u4,x.u5,v.2,x.u7,x.v8)
theorem q3l (x:tqm):LE.step X q3i q2K q2n q3d 12 x=Xf x.1 x.u2 x.u3 x.u4 x.u5 x.u7 x.v8 x.2.1 x.u6 (fun w=>Sum.inl (q3k x w)) (fun o=>Sum.inr (q3j x id o)):=by kernel_rfl
def q3m {R:Type}:Z21 S R:=LE.ls X q3i (fun x k=>(WF x.1 x.u2 x.u3 x.u4 x.u5 x.u7 x.v8 (x.2.1,x.u6)).bind (q3j x k)) q3d
theorem q3n {R:Type}:Z2e X (q3m (R:=R)):=Zke xok q2L (e:=q3i) q2o q3e (st:=fun(x:tqm)=>XC x.1 x.u2 x.u3 x.u4 x.u5 x.u7 x.v8) (prj:=fun(x:tqm)=>(x.2.1,x.u6)) (emb:=q3k) q3j (fun x=>(q3l x).trans (by unfold XC Xf;simp only[Zk2,ZjT,Zk3,Option.map_some,Option.map_none];rfl)) q3e
def q3o:Key:=⟨[83],83,none,[0,0,1,1,0,0,1,0,0,1,0,1,1,1],6,24⟩
def q3p:StT S:=⟨vX,(N (N L of L) on (N L of L)),24⟩
def q3q:Way S:=⟨(.exit 6),⟨v1n,(N (N L of L) on (N L of L)),25⟩,[.int,.int,(.lst (.st 28)),(.arr (.st 5)),(.st 25),(.arr (.st 5))]⟩
def q3r:LE S:=⟨q3o,q3p,[(.lst (.st 28)),.int,.int,.int,.int,(.lst (.st 28)),(.arr (.st 5)),(.st 25),(.arr (.st 5))],[q3q]⟩
theorem q3u (x:tqm):LE.step X q3r q2K q2n q3m 12 x=X1l x.1 x.u2 x.u3 x.u4 x.u5 x.u7 x.v8 x.2.1 x.u6 (fun w=>Sum.inl (q3k x w)) (fun o=>Sum.inr (q3j x id o)):=by kernel_rfl
def q3v {R:Type}:Z21 S R:=LE.ls X q3r (fun x k=>(X1w x.1 x.u2 x.u3 x.u4 x.u5 x.u7 x.v8 (x.2.1,x.u6)).bind (q3j x k)) q3m
theorem q3w {R:Type}:Z2e X (q3v (R:=R)):=Zke xok q2L (e:=q3r) q2o q3n (st:=fun(x:tqm)=>X1H x.1 x.u2 x.u3 x.u4 x.u5 x.u7 x.v8) (prj:=fun(x:tqm)=>(x.2.1,x.u6)) (emb:=q3k) q3j (fun x=>(q3u x).trans (by unfold X1H X1l Xf;simp only[Zk2,ZjT,Zk3,Option.map_some,Option.map_none];rfl)) q3n
def q3x:Key:=⟨[83],83,none,[0,0,1,0,1,1,1],4,15⟩
def q3y:StT S:=⟨v1n,(N (N L of L) on (N L of L)),15⟩
def q3z:Way S:=⟨(.exit 4),⟨(N L none (N v1K none (N L (some (.ptr 2 0)) L))),(N (N L of L) on (N L of L)),17⟩,[.int,(.arr (.st 5)),(.st 25),(.arr (.st 5))]⟩
def q3A:LE S:=⟨q3x,q3y,[.int,.int,(.lst (.st 28)),(.arr (.st 5)),(.st 25),(.arr (.st 5))],[q3z]⟩
def q3B {T:Type} (x:tqs) (k:(Int×(Nat->Y2)×Zc×(Nat->Y2))->T):(Nat->Y2)->T:=fun y0=>k (x.1,y0,x.u4,x.v5)
def q3C (x:tqs) (v:(Int×(Nat->Y2))):tqs:=(x.1,v.1,x.u2,v.2,x.u4,x.v5)
theorem q3D (x:tqs):LE.step X q3A q2K q2n q3v 12 x=XT x.1 x.u2 x.u4 x.v5 x.2.1 x.u3 (fun w=>Sum.inl (q3C x w)) (fun o=>Sum.inr (q3B x id o)):=by kernel_rfl
def q3E {R:Type}:Z21 S R:=LE.ls X q3A (fun x k=>(WE x.1 x.u2 x.u4 x.v5 (x.2.1,x.u3)).bind (q3B x k)) q3v
theorem q3F {R:Type}:Z2e X (q3E (R:=R)):=Zke xok q2L (e:=q3A) q2o q3w (st:=fun(x:tqs)=>XB x.1 x.u2 x.u4 x.v5) (prj:=fun(x:tqs)=>(x.2.1,x.u3)) (emb:=q3C) q3B (fun x=>(q3D x).trans (by unfold XB XT;simp only[Zk2,ZjT,Zk3,Option.map_some,Option.map_none];rfl)) q3w
def q3G:Key:=⟨[146,2,1,119,3,25,83],146,none,[0,0,1,0,1],0,34⟩
def q3H:StT S:=⟨(N (N (N (N L vH L) none L) (some (.fn (.func 120) [] [])) L) (some (.sl (.st 5) [])) v1L),L,34⟩
def q3I:Way S:=⟨.ret,⟨v1M,L,45⟩,[.int]⟩
def q3J:Way S:=⟨(.exit 0),⟨L,L,35⟩,[]⟩
def q3K:LE S:=⟨q3G,q3H,[.int,(.lst (.st 5)),.int],[q3I,q3J]⟩
def q3L {T:Type} (x:tqN) (k:(Int⊕Unit)->T):(Int⊕Unit)->T:=Sum.elim (fun y0=>k (.inl y0)) (fun y1=>k (.inr ()))
def q3M (x:tqN) (v:Int):tqN:=(x.1,x.2.1,v)
theorem q3N (x:tqN):LE.step X q3K q2K q2n q3E 12 x=XU x.1 x.2.1 x.v2 (fun w=>Sum.inl (q3M x w)) (fun o=>Sum.inr (q3L x id o)):=by kernel_rfl
def q3O {R:Type}:Z21 S R:=LE.ls X q3K (fun x k=>(X1x x.1 x.2.1 x.v2).bind (q3L x k)) q3E
theorem q3P {R:Type}:Z2e X (q3O (R:=R)):=Zke xok q2L (e:=q3K) q2o q3F (st:=fun(x:tqN)=>XD x.1 x.2.1) (prj:=fun(x:tqN)=>x.v2) (emb:=q3M) q3L (fun x=>(q3N x).trans (by unfold XD XU;simp only[Zk2,ZjT,Zk3,Option.map_some,Option.map_none];rfl)) q3F
theorem q3Q (x0:Zc) (x1:Nat->Y2) (x2:List Zb):Zkg X q2K [(.st 25),(.arr 10 (.st 5)),(.sl (.st 28))] [(.arr 10 (.st 5)),.bool] q2n q3O 12 83 (x0,x1,x2,())=Wn x0 x1 x2:=by kernel_rfl
def q3R:F7 S:=⟨[(.st 25),(.arr 10 (.st 5)),(.sl (.st 28))],[(.arr 10 (.st 5)),.bool],fun xs=>XK xs.1 xs.2.1 xs.u2⟩
theorem q3S:Zav X 83 q3R:=Zkd (Zkc xok q2L q2o q3P 12 83) fun xs _ h=>((q3Q xs.1 xs.2.1 xs.u2).trans (X3E xs.1 xs.2.1 xs.u2).symm).trans h
def q3T:StT S:=⟨(N v1w vH (N (N L (some (.ptr 4 0)) L) vG L)),o1z,6⟩
def q3U:Way S:=⟨.ret,⟨(N L vI L),o1z,6⟩,[.bool,(.st 25),.bool,(.st 25),(.st 25)]⟩
def q3V:Way S:=⟨.ret,⟨(N L vI L),o1A,6⟩,[.bool,(.st 25),.bool,(.st 25),(.st 25)]⟩
def q3W:PE S:=⟨82,6,q3T,[(.arr (.st 5)),.int,(.lst (.st 28)),(.st 25),.bool,(.st 25),(.st 25)],[q3U,q3V]⟩
def q3X:List (Nat×F7 S):=[(83,q3R)]
theorem q3Y:Z95 X q3X:=⟨q3S,trivial⟩
abbrev q3Z (ih:tqo->Option tqg) {R:Type}:Z21 S R:=Zj1
theorem q40 (ih:tqo->Option tqg) (hih:ZcD X q3W ih) {R:Type}:Z2e X (q3Z ih (R:=R)):=ZjC X
def q41:Key:=⟨[121,0,82],121,none,[0,0,1,1],0,69⟩
def q42:StT S:=⟨v14,oL,70⟩
def q43:Way S:=⟨.ret,⟨L,(N o16 oa o1b),166⟩,[(.arr (.st 5)),(.st 28),(.st 25),.bool,(.arr (.st 5)),(.arr (.st 5)),.bool,.int,(.st 25),(.lst (.st 19)),(.lst (.st 28)),(.st 28),(.lst (.st 19)),(.st 21),(.lst (.st 28)),(.st 25),(.st 25),(.st 19),.int,(.lst (.st 28)),.int,.bool,(.arr (.st 5)),.bool,.int,.bool,(.lst (.st 28))]⟩
def q44:Way S:=⟨.ret,⟨L,(N o17 oa o1b),166⟩,[(.arr (.st 5)),(.st 28),(.st 25),.bool,(.arr (.st 5)),(.arr (.st 5)),.bool,.int,(.st 25),(.lst (.st 19)),(.lst (.st 28)),(.st 28),(.lst (.st 19)),(.st 21),(.lst (.st 28)),(.st 25),(.st 25),(.st 19),.int,(.lst (.st 28)),.int,.bool,(.arr (.st 5)),.bool,.int,.bool,(.lst (.st 28))]⟩
def q45:Way S:=⟨.ret,⟨L,oN,159⟩,[(.arr (.st 5)),(.st 28),(.st 25),.bool,(.arr (.st 5)),(.arr (.st 5)),.bool,.int,(.st 25),(.lst (.st 19)),(.st 28),(.lst (.st 19)),(.st 21),(.lst (.st 28)),(.st 25),(.st 25),(.st 19),.int,.int,.bool,(.arr (.st 5)),.bool,.int,.bool,(.lst (.st 28))]⟩
def q46:Way S:=⟨.ret,⟨L,oO,159⟩,[(.arr (.st 5)),(.st 28),(.st 25),.bool,(.arr (.st 5)),(.arr (.st 5)),.bool,.int,(.st 25),(.lst (.st 19)),(.st 28),(.lst (.st 19)),(.st 21),(.lst (.st 28)),(.st 25),(.st 25),(.st 19),.int,.int,.bool,(.arr (.st 5)),.bool,.int,.bool,(.lst (.st 28))]⟩
def q47:Way S:=⟨.ret,⟨L,(N oU oa o1e),151⟩,[(.arr (.st 5)),(.st 28),(.st 25),(.lst (.st 28)),.bool,(.arr (.st 5)),(.arr (.st 5)),.bool,.int,(.st 25),(.lst (.st 19)),(.st 28),(.lst (.st 19)),(.st 21),(.lst (.st 28)),(.st 25),(.st 25),(.st 19),.int,.int,(.lst (.st 28)),.bool,(.arr (.st 5)),.bool,.int,.bool,(.lst (.st 28))]⟩
def q48:Way S:=⟨.ret,⟨L,(N oV oa o1e),151⟩,[(.arr (.st 5)),(.st 28),(.st 25),(.lst (.st 28)),.bool,(.arr (.st 5)),(.arr (.st 5)),.bool,.int,(.st 25),(.lst (.st 19)),(.st 28),(.lst (.st 19)),(.st 21),(.lst (.st 28)),(.st 25),(.st 25),(.st 19),.int,.int,(.lst (.st 28)),.bool,(.arr (.st 5)),.bool,.int,.bool,(.lst (.st 28))]⟩
def q49:Way S:=⟨.ret,⟨L,oN,144⟩,[(.arr (.st 5)),(.st 28),(.st 25),.bool,(.arr (.st 5)),(.arr (.st 5)),.bool,.int,(.st 25),(.lst (.st 19)),(.st 28),(.lst (.st 19)),(.st 21),(.lst (.st 28)),(.st 25),(.st 25),(.st 19),.int,.int,.bool,(.arr (.st 5)),.bool,.int,.bool,(.lst (.st 28))]⟩
def q4a:Way S:=⟨.ret,⟨L,oO,144⟩,[(.arr (.st 5)),(.st 28),(.st 25),.bool,(.arr (.st 5)),(.arr (.st 5)),.bool,.int,(.st 25),(.lst (.st 19)),(.st 28),(.lst (.st 19)),(.st 21),(.lst (.st 28)),(.st 25),(.st 25),(.st 19),.int,.int,.bool,(.arr (.st 5)),.bool,.int,.bool,(.lst (.st 28))]⟩
def q4b:Way S:=⟨.ret,⟨L,(N oY oa o11),152⟩,[(.lst (.st 28)),(.arr (.st 5)),(.st 28),(.st 25),.bool,(.arr (.st 5)),(.arr (.st 5)),.bool,.int,(.st 25),(.lst (.st 19)),(.st 28),(.lst (.st 19)),(.st 21),(.lst (.st 28)),(.st 25),(.lst (.st 28)),(.st 25),(.st 19),.int,.int,.bool,(.arr (.st 5)),.bool,.int,.bool,(.lst (.st 28))]⟩
def q4c:Way S:=⟨.ret,⟨L,(N oZ oa o11),152⟩,[(.lst (.st 28)),(.arr (.st 5)),(.st 28),(.st 25),.bool,(.arr (.st 5)),(.arr (.st 5)),.bool,.int,(.st 25),(.lst (.st 19)),(.st 28),(.lst (.st 19)),(.st 21),(.lst (.st 28)),(.st 25),(.lst (.st 28)),(.st 25),(.st 19),.int,.int,.bool,(.arr (.st 5)),.bool,.int,.bool,(.lst (.st 28))]⟩
def q4d:Way S:=⟨.ret,⟨L,oN,145⟩,[(.arr (.st 5)),(.st 28),(.st 25),.bool,(.arr (.st 5)),(.arr (.st 5)),.bool,.int,(.st 25),(.lst (.st 19)),(.st 28),(.lst (.st 19)),(.st 21),(.lst (.st 28)),(.st 25),(.st 25),(.st 19),.int,.int,.bool,(.arr (.st 5)),.bool,.int,.bool,(.lst (.st 28))]⟩
def q4e:Way S:=⟨.ret,⟨L,oO,145⟩,[(.arr (.st 5)),(.st 28),(.st 25),.bool,(.arr (.st 5)),(.arr (.st 5)),.bool,.int,(.st 25),(.lst (.st 19)),(.st 28),(.lst (.st 19)),(.st 21),(.lst (.st 28)),(.st 25),(.st 25),(.st 19),.int,.int,.bool,(.arr (.st 5)),.bool,.int,.bool,(.lst (.st 28))]⟩
def q4f:Way S:=⟨.ret,⟨L,(N o18 oa o1g),137⟩,[(.arr (.st 5)),(.st 28),(.st 25),.bool,(.arr (.st 5)),(.arr (.st 5)),.bool,.int,(.st 25),(.lst (.st 19)),(.st 28),(.lst (.st 28)),(.lst (.st 28)),(.lst (.st 19)),(.st 21),(.lst (.st 28)),(.st 25),(.st 25),(.st 19),.int,.int,.bool,(.arr (.st 5)),.bool,.int,.bool,(.lst (.st 28))]⟩
def q4g:Way S:=⟨.ret,⟨L,(N o19 oa o1g),137⟩,[(.arr (.st 5)),(.st 28),(.st 25),.bool,(.arr (.st 5)),(.arr (.st 5)),.bool,.int,(.st 25),(.lst (.st 19)),(.st 28),(.lst (.st 28)),(.lst (.st 28)),(.lst (.st 19)),(.st 21),(.lst (.st 28)),(.st 25),(.st 25),(.st 19),.int,.int,.bool,(.arr (.st 5)),.bool,.int,.bool,(.lst (.st 28))]⟩
def q4h:Way S:=⟨.ret,⟨L,oN,130⟩,[(.arr (.st 5)),(.st 28),(.st 25),.bool,(.arr (.st 5)),(.arr (.st 5)),.bool,.int,(.st 25),(.lst (.st 19)),(.st 28),(.lst (.st 19)),(.st 21),(.lst (.st 28)),(.st 25),(.st 25),(.st 19),.int,.int,.bool,(.arr (.st 5)),.bool,.int,.bool,(.lst (.st 28))]⟩
def q4i:Way S:=⟨.ret,⟨L,oO,130⟩,[(.arr (.st 5)),(.st 28),(.st 25),.bool,(.arr (.st 5)),(.arr (.st 5)),.bool,.int,(.st 25),(.lst (.st 19)),(.st 28),(.lst (.st 19)),(.st 21),(.lst (.st 28)),(.st 25),(.st 25),(.st 19),.int,.int,.bool,(.arr (.st 5)),.bool,.int,.bool,(.lst (.st 28))]⟩
def q4j:Way S:=⟨(.exit 0),⟨L,oL,71⟩,[(.arr (.st 5)),(.st 28),(.st 25),.bool,(.arr (.st 5)),.bool,.int,(.st 25),(.lst (.st 19)),(.lst (.st 19)),(.st 21),(.lst (.st 28)),(.st 25),(.st 25),.int,.int,.bool,(.arr (.st 5)),.bool,.int,.bool,(.lst (.st 28))]⟩
def q4k:LE S:=⟨q41,q42,[.int,.int,.int,(.arr (.st 5)),(.st 28),(.st 25),.bool,(.arr (.st 5)),.bool,.int,(.st 25),(.lst (.st 19)),(.lst (.st 19)),(.st 21),(.lst (.st 28)),(.st 25),(.st 25),.int,.int,.bool,(.arr (.st 5)),.bool,.int,.bool,(.lst (.st 28))],[q43,q44,q45,q46,q47,q48,q49,q4a,q4b,q4c,q4d,q4e,q4f,q4g,q4h,q4i,q4j]⟩
def q4l {T:Type} (x:tq5) (k:(((Nat->Y2)×Zb×Zc×Bool×(Nat->Y2)×(Nat->Y2)×Bool×Int×Zc×(List Zq)×(List Zb)×Zb×(List Zq)×Zr×(List Zb)×Zc×Zc×Zq×Int×(List Zb)×Int×Bool×(Nat->Y2)×Bool×Int×Bool×(List Zb))⊕((Nat->Y2)×Zb×Zc×Bool×(Nat->Y2)×(Nat->Y2)×Bool×Int×Zc×(List Zq)×(List Zb)×Zb×(List Zq)×Zr×(List Zb)×Zc×Zc×Zq×Int×(List Zb)×Int×Bool×(Nat->Y2)×Bool×Int×Bool×(List Zb))⊕tq4⊕tq4⊕((Nat->Y2)×Zb×Zc×(List Zb)×Bool×(Nat->Y2)×(Nat->Y2)×Bool×Int×Zc×(List Zq)×Zb×(List Zq)×Zr×(List Zb)×Zc×Zc×Zq×Int×Int×(List Zb)×Bool×(Nat->Y2)×Bool×Int×Bool×(List Zb))⊕((Nat->Y2)×Zb×Zc×(List Zb)×Bool×(Nat->Y2)×(Nat->Y2)×Bool×Int×Zc×(List Zq)×Zb×(List Zq)×Zr×(List Zb)×Zc×Zc×Zq×Int×Int×(List Zb)×Bool×(Nat->Y2)×Bool×Int×Bool×(List Zb))⊕tq4⊕tq4⊕((List Zb)×(Nat->Y2)×Zb×Zc×Bool×(Nat->Y2)×(Nat->Y2)×Bool×Int×Zc×(List Zq)×Zb×(List Zq)×Zr×(List Zb)×Zc×(List Zb)×Zc×Zq×Int×Int×Bool×(Nat->Y2)×Bool×Int×Bool×(List Zb))⊕((List Zb)×(Nat->Y2)×Zb×Zc×Bool×(Nat->Y2)×(Nat->Y2)×Bool×Int×Zc×(List Zq)×Zb×(List Zq)×Zr×(List Zb)×Zc×(List Zb)×Zc×Zq×Int×Int×Bool×(Nat->Y2)×Bool×Int×Bool×(List Zb))⊕tq4⊕tq4⊕((Nat->Y2)×Zb×Zc×Bool×(Nat->Y2)×(Nat->Y2)×Bool×Int×Zc×(List Zq)×Zb×(List Zb)×(List Zb)×(List Zq)×Zr×(List Zb)×Zc×Zc×Zq×Int×Int×Bool×(Nat->Y2)×Bool×Int×Bool×(List Zb))⊕((Nat->Y2)×Zb×Zc×Bool×(Nat->Y2)×(Nat->Y2)×Bool×Int×Zc×(List Zq)×Zb×(List Zb)×(List Zb)×(List Zq)×Zr×(List Zb)×Zc×Zc×Zq×Int×Int×Bool×(Nat->Y2)×Bool×Int×Bool×(List Zb))⊕tq4⊕tq4⊕((Nat->Y2)×Zb×Zc×Bool×(Nat->Y2)×Bool×Int×Zc×(List Zq)×(List Zq)×Zr×(List Zb)×Zc×Zc×Int×Int×Bool×(Nat->Y2)×Bool×Int×Bool×(List Zb)))->T):(tq9⊕tq9⊕tql⊕tql⊕tqa⊕tqa⊕tql⊕tql⊕tqb⊕tqb⊕tql⊕tql⊕tqe⊕tqe⊕tqn⊕tqn⊕(Zb×Zc×Bool×Zc×Zc))->T:=Sum.elim (fun y0=>k (.inl (x.u3,y0.1,y0.2.1,y0.u2,y0.u3,x.u7,y0.u4,x.u9,y0.u5,x.u11,y0.u6,y0.u7,x.u12,x.u13,x.u14,x.u15,y0.u8,y0.u9,x.u17,y0.v10,x.u18,x.u19,x.u20,x.u21,x.u22,x.u23,x.v24))) (Sum.elim (fun y1=>k (.inr (.inl (x.u3,y1.1,y1.2.1,y1.u2,y1.u3,x.u7,y1.u4,x.u9,y1.u5,x.u11,y1.u6,y1.u7,x.u12,x.u13,x.u14,x.u15,y1.u8,y1.u9,x.u17,y1.v10,x.u18,x.u19,x.u20,x.u21,x.u22,x.u23,x.v24)))) (Sum.elim (fun y2=>k (.inr (.inr (.inl (x.u3,y2.1,y2.2.1,y2.u2,y2.u3,x.u7,y2.u4,x.u9,y2.u5,x.u11,y2.u6,x.u12,x.u13,x.u14,x.u15,y2.u7,y2.v8,x.u17,x.u18,x.u19,x.u20,x.u21,x.u22,x.u23,x.v24))))) (Sum.elim (fun y3=>k (.inr (.inr (.inr (.inl (x.u3,y3.1,y3.2.1,y3.u2,y3.u3,x.u7,y3.u4,x.u9,y3.u5,x.u11,y3.u6,x.u12,x.u13,x.u14,x.u15,y3.u7,y3.v8,x.u17,x.u18,x.u19,x.u20,x.u21,x.u22,x.u23,x.v24)))))) (Sum.elim (fun y4=>k (.inr (.inr (.inr (.inr (.inl (x.u3,y4.1,y4.2.1,y4.u2,y4.u3,y4.u4,x.u7,y4.u5,x.u9,y4.u6,x.u11,y4.u7,x.u12,x.u13,x.u14,x.u15,y4.u8,y4.u9,x.u17,x.u18,y4.v10,x.u19,x.u20,x.u21,x.u22,x.u23,x.v24))))))) (Sum.elim (fun y5=>k (.inr (.inr (.inr (.inr (.inr (.inl (x.u3,y5.1,y5.2.1,y5.u2,y5.u3,y5.u4,x.u7,y5.u5,x.u9,y5.u6,x.u11,y5.u7,x.u12,x.u13,x.u14,x.u15,y5.u8,y5.u9,x.u17,x.u18,y5.v10,x.u19,x.u20,x.u21,x.u22,x.u23,x.v24)))))))) (Sum.elim (fun y6=>k (.inr (.inr (.inr (.inr (.inr (.inr (.inl (x.u3,y6.1,y6.2.1,y6.u2,y6.u3,x.u7,y6.u4,x.u9,y6.u5,x.u11,y6.u6,x.u12,x.u13,x.u14,x.u15,y6.u7,y6.v8,x.u17,x.u18,x.u19,x.u20,x.u21,x.u22,x.u23,x.v24))))))))) (Sum.elim (fun y7=>k (.inr (.inr (.inr (.inr (.inr (.inr (.inr (.inl (x.u3,y7.1,y7.2.1,y7.u2,y7.u3,x.u7,y7.u4,x.u9,y7.u5,x.u11,y7.u6,x.u12,x.u13,x.u14,x.u15,y7.u7,y7.v8,x.u17,x.u18,x.u19,x.u20,x.u21,x.u22,x.u23,x.v24)))))))))) (Sum.elim (fun y8=>k (.inr (.inr (.inr (.inr (.inr (.inr (.inr (.inr (.inl (y8.1,x.u3,y8.2.1,y8.u2,y8.u3,y8.u4,x.u7,y8.u5,x.u9,y8.u6,x.u11,y8.u7,x.u12,x.u13,x.u14,x.u15,y8.u8,y8.u9,y8.v10,x.u17,x.u18,x.u19,x.u20,x.u21,x.u22,x.u23,x.v24))))))))))) (Sum.elim (fun y9=>k (.inr (.inr (.inr (.inr (.inr (.inr (.inr (.inr (.inr (.inl (y9.1,x.u3,y9.2.1,y9.u2,y9.u3,y9.u4,x.u7,y9.u5,x.u9,y9.u6,x.u11,y9.u7,x.u12,x.u13,x.u14,x.u15,y9.u8,y9.u9,y9.v10,x.u17,x.u18,x.u19,x.u20,x.u21,x.u22,x.u23,x.v24)))))))))))) (Sum.elim (fun y10=>k (.inr (.inr (.inr (.inr (.inr (.inr (.inr (.inr (.inr (.inr (.inl (x.u3,y10.1,y10.2.1,y10.u2,y10.u3,x.u7,y10.u4,x.u9,y10.u5,x.u11,y10.u6,x.u12,x.u13,x.u14,x.u15,y10.u7,y10.v8,x.u17,x.u18,x.u19,x.u20,x.u21,x.u22,x.u23,x.v24))))))))))))) (Sum.elim (fun y11=>k (.inr (.inr (.inr (.inr (.inr (.inr (.inr (.inr (.inr (.inr (.inr (.inl (x.u3,y11.1,y11.2.1,y11.u2,y11.u3,x.u7,y11.u4,x.u9,y11.u5,x.u11,y11.u6,x.u12,x.u13,x.u14,x.u15,y11.u7,y11.v8,x.u17,x.u18,x.u19,x.u20,x.u21,x.u22,x.u23,x.v24)))))))))))))) (Sum.elim (fun y12=>k (.inr (.inr (.inr (.inr (.inr (.inr (.inr (.inr (.inr (.inr (.inr (.inr (.inl (x.u3,y12.1,y12.2.1,y12.u2,x.u3,x.u7,y12.u3,x.u9,y12.u4,x.u11,y12.u5,y12.u6,y12.u7,x.u12,x.u13,x.u14,x.u15,y12.u8,y12.v9,x.u17,x.u18,x.u19,x.u20,x.u21,x.u22,x.u23,x.v24))))))))))))))) (Sum.elim (fun y13=>k (.inr (.inr (.inr (.inr (.inr (.inr (.inr (.inr (.inr (.inr (.inr (.inr (.inr (.inl (x.u3,y13.1,y13.2.1,y13.u2,x.u3,x.u7,y13.u3,x.u9,y13.u4,x.u11,y13.u5,y13.u6,y13.u7,x.u12,x.u13,x.u14,x.u15,y13.u8,y13.v9,x.u17,x.u18,x.u19,x.u20,x.u21,x.u22,x.u23,x.v24)))))))))))))))) (Sum.elim (fun y14=>k (.inr (.inr (.inr (.inr (.inr (.inr (.inr (.inr (.inr (.inr (.inr (.inr (.inr (.inr (.inl (x.u3,y14.1,y14.2.1,y14.u2,x.u3,x.u7,y14.u3,x.u9,y14.u4,x.u11,y14.u5,x.u12,x.u13,x.u14,x.u15,y14.u6,y14.v7,x.u17,x.u18,x.u19,x.u20,x.u21,x.u22,x.u23,x.v24))))))))))))))))) (Sum.elim (fun y15=>k (.inr (.inr (.inr (.inr (.inr (.inr (.inr (.inr (.inr (.inr (.inr (.inr (.inr (.inr (.inr (.inl (x.u3,y15.1,y15.2.1,y15.u2,x.u3,x.u7,y15.u3,x.u9,y15.u4,x.u11,y15.u5,x.u12,x.u13,x.u14,x.u15,y15.u6,y15.v7,x.u17,x.u18,x.u19,x.u20,x.u21,x.u22,x.u23,x.v24)))))))))))))))))) (fun y16=>k (.inr (.inr (.inr (.inr (.inr (.inr (.inr (.inr (.inr (.inr (.inr (.inr (.inr (.inr (.inr (.inr (x.u3,y16.1,y16.2.1,y16.u2,x.u7,x.u8,x.u9,y16.u3,x.u11,x.u12,x.u13,x.u14,x.u15,y16.v4,x.u17,x.u18,x.u19,x.u20,x.u21,x.u22,x.u23,x.v24)))))))))))))))))))))))))))))))))
def q4m (x:tq5) (v:(Int×Int×Zb×Zc×Bool×Zc×Zc)):tq5:=(x.1,v.1,v.2.1,x.u3,v.u2,v.u3,v.u4,x.u7,x.u8,x.u9,v.u5,x.u11,x.u12,x.u13,x.u14,x.u15,v.v6,x.u17,x.u18,x.u19,x.u20,x.u21,x.u22,x.u23,x.v24)
theorem q4n (ih:tqo->Option tqg) (x:tq5):LE.step X q4k q3X (PE.ps X q3W (fun x q=>(ih x).bind q) q2n) (q3Z ih) 12 x=X1 ih x.1 x.u3 x.u7 x.u8 x.u9 x.u11 x.u12 x.u13 x.u14 x.u15 x.u17 x.u18 x.u19 x.u20 x.u21 x.u22 x.u23 x.v24 x.2.1 x.u2 x.u4 x.u5 x.u6 x.u10 x.u16 (fun w=>Sum.inl (q4m x w)) (fun o=>Sum.inr (q4l x id o)):=by kernel_rfl
def q4o (ih:tqo->Option tqg) {R:Type}:Z21 S R:=LE.ls X q4k (fun x k=>(XO ih x.1 x.u3 x.u7 x.u8 x.u9 x.u11 x.u12 x.u13 x.u14 x.u15 x.u17 x.u18 x.u19 x.u20 x.u21 x.u22 x.u23 x.v24 (x.2.1,x.u2,x.u4,x.u5,x.u6,x.u10,x.u16)).bind (q4l x k)) (q3Z ih)
theorem q4p (ih:tqo->Option tqg) (hih:ZcD X q3W ih) {R:Type}:Z2e X (q4o ih (R:=R)):=Zke xok q3Y (e:=q4k) (Zk8 (e:=q3W) hih q2o) (q40 ih hih) (st:=fun(x:tq5)=>Xb ih x.1 x.u3 x.u7 x.u8 x.u9 x.u11 x.u12 x.u13 x.u14 x.u15 x.u17 x.u18 x.u19 x.u20 x.u21 x.u22 x.u23 x.v24) (prj:=fun(x:tq5)=>(x.2.1,x.u2,x.u4,x.u5,x.u6,x.u10,x.u16)) (emb:=q4m) q4l (fun x=>(q4n ih x).trans (by unfold Xb X1;simp only[Zk2,ZjT,Zk3,Option.map_some,Option.map_none];rfl)) (q40 ih hih)
theorem q4q (ih:tqo->Option tqg) (x:((Nat->Y2)×Int×(List Zb)×Zc×Bool×Zc×Zc)):PE.step X q3W q3X (PE.ps X q3W (fun x q=>(ih x).bind q) q2n) (q4o ih) 12 x=Xh ih x.1 x.2.1 x.u2 x.u3 x.u4 x.u5 x.v6:=by kernel_rfl
theorem q4r:ZcD X q3W W2:=Zk9 (X:=X) (e:=q3W) (t:=X4) fun ih hih=>Zkf (ZjG xok q3Y (Zk8 (e:=q3W) hih q2o) (q4p ih hih) 12) fun x _ h=>(q4q ih x).trans h
def q4s {R:Type}:Prs S R:=PE.ps X q3W (fun x q=>(W2 x).bind q) q2n
theorem q4t {R:Type}:Z8k X (q4s (R:=R)):=Zk8 (e:=q3W) q4r q2o
def q4u:StT S:=⟨(N v1w vH (N (N L (some (.ptr 4 0)) L) (some .sl0) L)),o1z,6⟩
def q4x:PE S:=⟨82,6,q4u,[(.arr (.st 5)),.int,(.st 25),.bool,(.st 25),(.st 25)],[q3U,q3V]⟩
def q4D:StT S:=⟨v14,oJ,70⟩
def q4E:Way S:=⟨.ret,⟨L,(N o16 oa o1c),166⟩,[(.arr (.st 5)),(.st 28),(.st 25),.bool,(.arr (.st 5)),(.arr (.st 5)),.bool,.int,(.st 25),(.lst (.st 19)),(.lst (.st 28)),(.st 28),(.lst (.st 19)),(.st 21),(.lst (.st 28)),(.st 25),(.st 25),(.st 19),.int,(.lst (.st 28)),.int,.bool,(.arr (.st 5)),.bool,.int,.bool]⟩
def q4F:Way S:=⟨.ret,⟨L,(N o17 oa o1c),166⟩,[(.arr (.st 5)),(.st 28),(.st 25),.bool,(.arr (.st 5)),(.arr (.st 5)),.bool,.int,(.st 25),(.lst (.st 19)),(.lst (.st 28)),(.st 28),(.lst (.st 19)),(.st 21),(.lst (.st 28)),(.st 25),(.st 25),(.st 19),.int,(.lst (.st 28)),.int,.bool,(.arr (.st 5)),.bool,.int,.bool]⟩
def q4G:Way S:=⟨.ret,⟨L,oP,159⟩,[(.arr (.st 5)),(.st 28),(.st 25),.bool,(.arr (.st 5)),(.arr (.st 5)),.bool,.int,(.st 25),(.lst (.st 19)),(.st 28),(.lst (.st 19)),(.st 21),(.lst (.st 28)),(.st 25),(.st 25),(.st 19),.int,.int,.bool,(.arr (.st 5)),.bool,.int,.bool]⟩
def q4H:Way S:=⟨.ret,⟨L,oQ,159⟩,[(.arr (.st 5)),(.st 28),(.st 25),.bool,(.arr (.st 5)),(.arr (.st 5)),.bool,.int,(.st 25),(.lst (.st 19)),(.st 28),(.lst (.st 19)),(.st 21),(.lst (.st 28)),(.st 25),(.st 25),(.st 19),.int,.int,.bool,(.arr (.st 5)),.bool,.int,.bool]⟩
def q4I:Way S:=⟨.ret,⟨L,(N oU oa o1f),151⟩,[(.arr (.st 5)),(.st 28),(.st 25),(.lst (.st 28)),.bool,(.arr (.st 5)),(.arr (.st 5)),.bool,.int,(.st 25),(.lst (.st 19)),(.st 28),(.lst (.st 19)),(.st 21),(.lst (.st 28)),(.st 25),(.st 25),(.st 19),.int,.int,(.lst (.st 28)),.bool,(.arr (.st 5)),.bool,.int,.bool]⟩
def q4J:Way S:=⟨.ret,⟨L,(N oV oa o1f),151⟩,[(.arr (.st 5)),(.st 28),(.st 25),(.lst (.st 28)),.bool,(.arr (.st 5)),(.arr (.st 5)),.bool,.int,(.st 25),(.lst (.st 19)),(.st 28),(.lst (.st 19)),(.st 21),(.lst (.st 28)),(.st 25),(.st 25),(.st 19),.int,.int,(.lst (.st 28)),.bool,(.arr (.st 5)),.bool,.int,.bool]⟩
def q4K:Way S:=⟨.ret,⟨L,oP,144⟩,[(.arr (.st 5)),(.st 28),(.st 25),.bool,(.arr (.st 5)),(.arr (.st 5)),.bool,.int,(.st 25),(.lst (.st 19)),(.st 28),(.lst (.st 19)),(.st 21),(.lst (.st 28)),(.st 25),(.st 25),(.st 19),.int,.int,.bool,(.arr (.st 5)),.bool,.int,.bool]⟩
def q4L:Way S:=⟨.ret,⟨L,oQ,144⟩,[(.arr (.st 5)),(.st 28),(.st 25),.bool,(.arr (.st 5)),(.arr (.st 5)),.bool,.int,(.st 25),(.lst (.st 19)),(.st 28),(.lst (.st 19)),(.st 21),(.lst (.st 28)),(.st 25),(.st 25),(.st 19),.int,.int,.bool,(.arr (.st 5)),.bool,.int,.bool]⟩
def q4M:Way S:=⟨.ret,⟨L,(N oY oa o12),152⟩,[(.lst (.st 28)),(.arr (.st 5)),(.st 28),(.st 25),.bool,(.arr (.st 5)),(.arr (.st 5)),.bool,.int,(.st 25),(.lst (.st 19)),(.st 28),(.lst (.st 19)),(.st 21),(.lst (.st 28)),(.st 25),(.lst (.st 28)),(.st 25),(.st 19),.int,.int,.bool,(.arr (.st 5)),.bool,.int,.bool]⟩
def q4N:Way S:=⟨.ret,⟨L,(N oZ oa o12),152⟩,[(.lst (.st 28)),(.arr (.st 5)),(.st 28),(.st 25),.bool,(.arr (.st 5)),(.arr (.st 5)),.bool,.int,(.st 25),(.lst (.st 19)),(.st 28),(.lst (.st 19)),(.st 21),(.lst (.st 28)),(.st 25),(.lst (.st 28)),(.st 25),(.st 19),.int,.int,.bool,(.arr (.st 5)),.bool,.int,.bool]⟩
def q4O:Way S:=⟨.ret,⟨L,oP,145⟩,[(.arr (.st 5)),(.st 28),(.st 25),.bool,(.arr (.st 5)),(.arr (.st 5)),.bool,.int,(.st 25),(.lst (.st 19)),(.st 28),(.lst (.st 19)),(.st 21),(.lst (.st 28)),(.st 25),(.st 25),(.st 19),.int,.int,.bool,(.arr (.st 5)),.bool,.int,.bool]⟩
def q4P:Way S:=⟨.ret,⟨L,oQ,145⟩,[(.arr (.st 5)),(.st 28),(.st 25),.bool,(.arr (.st 5)),(.arr (.st 5)),.bool,.int,(.st 25),(.lst (.st 19)),(.st 28),(.lst (.st 19)),(.st 21),(.lst (.st 28)),(.st 25),(.st 25),(.st 19),.int,.int,.bool,(.arr (.st 5)),.bool,.int,.bool]⟩
def q4Q:Way S:=⟨.ret,⟨L,(N o18 oa o1h),137⟩,[(.arr (.st 5)),(.st 28),(.st 25),.bool,(.arr (.st 5)),(.arr (.st 5)),.bool,.int,(.st 25),(.lst (.st 19)),(.st 28),(.lst (.st 28)),(.lst (.st 28)),(.lst (.st 19)),(.st 21),(.lst (.st 28)),(.st 25),(.st 25),(.st 19),.int,.int,.bool,(.arr (.st 5)),.bool,.int,.bool]⟩
def q4R:Way S:=⟨.ret,⟨L,(N o19 oa o1h),137⟩,[(.arr (.st 5)),(.st 28),(.st 25),.bool,(.arr (.st 5)),(.arr (.st 5)),.bool,.int,(.st 25),(.lst (.st 19)),(.st 28),(.lst (.st 28)),(.lst (.st 28)),(.lst (.st 19)),(.st 21),(.lst (.st 28)),(.st 25),(.st 25),(.st 19),.int,.int,.bool,(.arr (.st 5)),.bool,.int,.bool]⟩
def q4S:Way S:=⟨.ret,⟨L,oP,130⟩,[(.arr (.st 5)),(.st 28),(.st 25),.bool,(.arr (.st 5)),(.arr (.st 5)),.bool,.int,(.st 25),(.lst (.st 19)),(.st 28),(.lst (.st 19)),(.st 21),(.lst (.st 28)),(.st 25),(.st 25),(.st 19),.int,.int,.bool,(.arr (.st 5)),.bool,.int,.bool]⟩
def q4T:Way S:=⟨.ret,⟨L,oQ,130⟩,[(.arr (.st 5)),(.st 28),(.st 25),.bool,(.arr (.st 5)),(.arr (.st 5)),.bool,.int,(.st 25),(.lst (.st 19)),(.st 28),(.lst (.st 19)),(.st 21),(.lst (.st 28)),(.st 25),(.st 25),(.st 19),.int,.int,.bool,(.arr (.st 5)),.bool,.int,.bool]⟩
def q4U:Way S:=⟨(.exit 0),⟨L,oJ,71⟩,[(.arr (.st 5)),(.st 28),(.st 25),.bool,(.arr (.st 5)),.bool,.int,(.st 25),(.lst (.st 19)),(.lst (.st 19)),(.st 21),(.lst (.st 28)),(.st 25),(.st 25),.int,.int,.bool,(.arr (.st 5)),.bool,.int,.bool]⟩
def q4V:LE S:=⟨q41,q4D,[.int,.int,.int,(.arr (.st 5)),(.st 28),(.st 25),.bool,(.arr (.st 5)),.bool,.int,(.st 25),(.lst (.st 19)),(.lst (.st 19)),(.st 21),(.lst (.st 28)),(.st 25),(.st 25),.int,.int,.bool,(.arr (.st 5)),.bool,.int,.bool],[q4E,q4F,q4G,q4H,q4I,q4J,q4K,q4L,q4M,q4N,q4O,q4P,q4Q,q4R,q4S,q4T,q4U]⟩
def q4W {T:Type} (x:tq7) (k:(((Nat->Y2)×Zb×Zc×Bool×(Nat->Y2)×(Nat->Y2)×Bool×Int×Zc×(List Zq)×(List Zb)×Zb×(List Zq)×Zr×(List Zb)×Zc×Zc×Zq×Int×(List Zb)×Int×Bool×(Nat->Y2)×Bool×Int×Bool)⊕((Nat->Y2)×Zb×Zc×Bool×(Nat->Y2)×(Nat->Y2)×Bool×Int×Zc×(List Zq)×(List Zb)×Zb×(List Zq)×Zr×(List Zb)×Zc×Zc×Zq×Int×(List Zb)×Int×Bool×(Nat->Y2)×Bool×Int×Bool)⊕tq6⊕tq6⊕((Nat->Y2)×Zb×Zc×(List Zb)×Bool×(Nat->Y2)×(Nat->Y2)×Bool×Int×Zc×(List Zq)×Zb×(List Zq)×Zr×(List Zb)×Zc×Zc×Zq×Int×Int×(List Zb)×Bool×(Nat->Y2)×Bool×Int×Bool)⊕((Nat->Y2)×Zb×Zc×(List Zb)×Bool×(Nat->Y2)×(Nat->Y2)×Bool×Int×Zc×(List Zq)×Zb×(List Zq)×Zr×(List Zb)×Zc×Zc×Zq×Int×Int×(List Zb)×Bool×(Nat->Y2)×Bool×Int×Bool)⊕tq6⊕tq6⊕((List Zb)×(Nat->Y2)×Zb×Zc×Bool×(Nat->Y2)×(Nat->Y2)×Bool×Int×Zc×(List Zq)×Zb×(List Zq)×Zr×(List Zb)×Zc×(List Zb)×Zc×Zq×Int×Int×Bool×(Nat->Y2)×Bool×Int×Bool)⊕((List Zb)×(Nat->Y2)×Zb×Zc×Bool×(Nat->Y2)×(Nat->Y2)×Bool×Int×Zc×(List Zq)×Zb×(List Zq)×Zr×(List Zb)×Zc×(List Zb)×Zc×Zq×Int×Int×Bool×(Nat->Y2)×Bool×Int×Bool)⊕tq6⊕tq6⊕((Nat->Y2)×Zb×Zc×Bool×(Nat->Y2)×(Nat->Y2)×Bool×Int×Zc×(List Zq)×Zb×(List Zb)×(List Zb)×(List Zq)×Zr×(List Zb)×Zc×Zc×Zq×Int×Int×Bool×(Nat->Y2)×Bool×Int×Bool)⊕((Nat->Y2)×Zb×Zc×Bool×(Nat->Y2)×(Nat->Y2)×Bool×Int×Zc×(List Zq)×Zb×(List Zb)×(List Zb)×(List Zq)×Zr×(List Zb)×Zc×Zc×Zq×Int×Int×Bool×(Nat->Y2)×Bool×Int×Bool)⊕tq6⊕tq6⊕((Nat->Y2)×Zb×Zc×Bool×(Nat->Y2)×Bool×Int×Zc×(List Zq)×(List Zq)×Zr×(List Zb)×Zc×Zc×Int×Int×Bool×(Nat->Y2)×Bool×Int×Bool))->T):(tq9⊕tq9⊕tql⊕tql⊕tqa⊕tqa⊕tql⊕tql⊕tqb⊕tqb⊕tql⊕tql⊕tqe⊕tqe⊕tqn⊕tqn⊕(Zb×Zc×Bool×Zc×Zc))->T:=Sum.elim (fun y0=>k (.inl (x.u3,y0.1,y0.2.1,y0.u2,y0.u3,x.u7,y0.u4,x.u9,y0.u5,x.u11,y0.u6,y0.u7,x.u12,x.u13,x.u14,x.u15,y0.u8,y0.u9,x.u17,y0.v10,x.u18,x.u19,x.u20,x.u21,x.u22,x.v23))) (Sum.elim (fun y1=>k (.inr (.inl (x.u3,y1.1,y1.2.1,y1.u2,y1.u3,x.u7,y1.u4,x.u9,y1.u5,x.u11,y1.u6,y1.u7,x.u12,x.u13,x.u14,x.u15,y1.u8,y1.u9,x.u17,y1.v10,x.u18,x.u19,x.u20,x.u21,x.u22,x.v23)))) (Sum.elim (fun y2=>k (.inr (.inr (.inl (x.u3,y2.1,y2.2.1,y2.u2,y2.u3,x.u7,y2.u4,x.u9,y2.u5,x.u11,y2.u6,x.u12,x.u13,x.u14,x.u15,y2.u7,y2.v8,x.u17,x.u18,x.u19,x.u20,x.u21,x.u22,x.v23))))) (Sum.elim (fun y3=>k (.inr (.inr (.inr (.inl (x.u3,y3.1,y3.2.1,y3.u2,y3.u3,x.u7,y3.u4,x.u9,y3.u5,x.u11,y3.u6,x.u12,x.u13,x.u14,x.u15,y3.u7,y3.v8,x.u17,x.u18,x.u19,x.u20,x.u21,x.u22,x.v23)))))) (Sum.elim (fun y4=>k (.inr (.inr (.inr (.inr (.inl (x.u3,y4.1,y4.2.1,y4.u2,y4.u3,y4.u4,x.u7,y4.u5,x.u9,y4.u6,x.u11,y4.u7,x.u12,x.u13,x.u14,x.u15,y4.u8,y4.u9,x.u17,x.u18,y4.v10,x.u19,x.u20,x.u21,x.u22,x.v23))))))) (Sum.elim (fun y5=>k (.inr (.inr (.inr (.inr (.inr (.inl (x.u3,y5.1,y5.2.1,y5.u2,y5.u3,y5.u4,x.u7,y5.u5,x.u9,y5.u6,x.u11,y5.u7,x.u12,x.u13,x.u14,x.u15,y5.u8,y5.u9,x.u17,x.u18,y5.v10,x.u19,x.u20,x.u21,x.u22,x.v23)))))))) (Sum.elim (fun y6=>k (.inr (.inr (.inr (.inr (.inr (.inr (.inl (x.u3,y6.1,y6.2.1,y6.u2,y6.u3,x.u7,y6.u4,x.u9,y6.u5,x.u11,y6.u6,x.u12,x.u13,x.u14,x.u15,y6.u7,y6.v8,x.u17,x.u18,x.u19,x.u20,x.u21,x.u22,x.v23))))))))) (Sum.elim (fun y7=>k (.inr (.inr (.inr (.inr (.inr (.inr (.inr (.inl (x.u3,y7.1,y7.2.1,y7.u2,y7.u3,x.u7,y7.u4,x.u9,y7.u5,x.u11,y7.u6,x.u12,x.u13,x.u14,x.u15,y7.u7,y7.v8,x.u17,x.u18,x.u19,x.u20,x.u21,x.u22,x.v23)))))))))) (Sum.elim (fun y8=>k (.inr (.inr (.inr (.inr (.inr (.inr (.inr (.inr (.inl (y8.1,x.u3,y8.2.1,y8.u2,y8.u3,y8.u4,x.u7,y8.u5,x.u9,y8.u6,x.u11,y8.u7,x.u12,x.u13,x.u14,x.u15,y8.u8,y8.u9,y8.v10,x.u17,x.u18,x.u19,x.u20,x.u21,x.u22,x.v23))))))))))) (Sum.elim (fun y9=>k (.inr (.inr (.inr (.inr (.inr (.inr (.inr (.inr (.inr (.inl (y9.1,x.u3,y9.2.1,y9.u2,y9.u3,y9.u4,x.u7,y9.u5,x.u9,y9.u6,x.u11,y9.u7,x.u12,x.u13,x.u14,x.u15,y9.u8,y9.u9,y9.v10,x.u17,x.u18,x.u19,x.u20,x.u21,x.u22,x.v23)))))))))))) (Sum.elim (fun y10=>k (.inr (.inr (.inr (.inr (.inr (.inr (.inr (.inr (.inr (.inr (.inl (x.u3,y10.1,y10.2.1,y10.u2,y10.u3,x.u7,y10.u4,x.u9,y10.u5,x.u11,y10.u6,x.u12,x.u13,x.u14,x.u15,y10.u7,y10.v8,x.u17,x.u18,x.u19,x.u20,x.u21,x.u22,x.v23))))))))))))) (Sum.elim (fun y11=>k (.inr (.inr (.inr (.inr (.inr (.inr (.inr (.inr (.inr (.inr (.inr (.inl (x.u3,y11.1,y11.2.1,y11.u2,y11.u3,x.u7,y11.u4,x.u9,y11.u5,x.u11,y11.u6,x.u12,x.u13,x.u14,x.u15,y11.u7,y11.v8,x.u17,x.u18,x.u19,x.u20,x.u21,x.u22,x.v23)))))))))))))) (Sum.elim (fun y12=>k (.inr (.inr (.inr (.inr (.inr (.inr (.inr (.inr (.inr (.inr (.inr (.inr (.inl (x.u3,y12.1,y12.2.1,y12.u2,x.u3,x.u7,y12.u3,x.u9,y12.u4,x.u11,y12.u5,y12.u6,y12.u7,x.u12,x.u13,x.u14,x.u15,y12.u8,y12.v9,x.u17,x.u18,x.u19,x.u20,x.u21,x.u22,x.v23))))))))))))))) (Sum.elim (fun y13=>k (.inr (.inr (.inr (.inr (.inr (.inr (.inr (.inr (.inr (.inr (.inr (.inr (.inr (.inl (x.u3,y13.1,y13.2.1,y13.u2,x.u3,x.u7,y13.u3,x.u9,y13.u4,x.u11,y13.u5,y13.u6,y13.u7,x.u12,x.u13,x.u14,x.u15,y13.u8,y13.v9,x.u17,x.u18,x.u19,x.u20,x.u21,x.u22,x.v23)))))))))))))))) (Sum.elim (fun y14=>k (.inr (.inr (.inr (.inr (.inr (.inr (.inr (.inr (.inr (.inr (.inr (.inr (.inr (.inr (.inl (x.u3,y14.1,y14.2.1,y14.u2,x.u3,x.u7,y14.u3,x.u9,y14.u4,x.u11,y14.u5,x.u12,x.u13,x.u14,x.u15,y14.u6,y14.v7,x.u17,x.u18,x.u19,x.u20,x.u21,x.u22,x.v23))))))))))))))))) (Sum.elim (fun y15=>k (.inr (.inr (.inr (.inr (.inr (.inr (.inr (.inr (.inr (.inr (.inr (.inr (.inr (.inr (.inr (.inl (x.u3,y15.1,y15.2.1,y15.u2,x.u3,x.u7,y15.u3,x.u9,y15.u4,x.u11,y15.u5,x.u12,x.u13,x.u14,x.u15,y15.u6,y15.v7,x.u17,x.u18,x.u19,x.u20,x.u21,x.u22,x.v23)))))))))))))))))) (fun y16=>k (.inr (.inr (.inr (.inr (.inr (.inr (.inr (.inr (.inr (.inr (.inr (.inr (.inr (.inr (.inr (.inr (x.u3,y16.1,y16.2.1,y16.u2,x.u7,x.u8,x.u9,y16.u3,x.u11,x.u12,x.u13,x.u14,x.u15,y16.v4,x.u17,x.u18,x.u19,x.u20,x.u21,x.u22,x.v23)))))))))))))))))))))))))))))))))
def q4X (x:tq7) (v:(Int×Int×Zb×Zc×Bool×Zc×Zc)):tq7:=(x.1,v.1,v.2.1,x.u3,v.u2,v.u3,v.u4,x.u7,x.u8,x.u9,v.u5,x.u11,x.u12,x.u13,x.u14,x.u15,v.v6,x.u17,x.u18,x.u19,x.u20,x.u21,x.u22,x.v23)
theorem q4Y (x:tq7):LE.step X q4V q3X q4s q4 12 x=Wp x.1 x.u3 x.u7 x.u8 x.u9 x.u11 x.u12 x.u13 x.u14 x.u15 x.u17 x.u18 x.u19 x.u20 x.u21 x.u22 x.v23 x.2.1 x.u2 x.u4 x.u5 x.u6 x.u10 x.u16 (fun w=>Sum.inl (q4X x w)) (fun o=>Sum.inr (q4W x id o)):=by kernel_rfl
def q4Z {R:Type}:Z21 S R:=LE.ls X q4V (fun x k=>(X1I x.1 x.u3 x.u7 x.u8 x.u9 x.u11 x.u12 x.u13 x.u14 x.u15 x.u17 x.u18 x.u19 x.u20 x.u21 x.u22 x.v23 (x.2.1,x.u2,x.u4,x.u5,x.u6,x.u10,x.u16)).bind (q4W x k)) q4
theorem q50 {R:Type}:Z2e X (q4Z (R:=R)):=Zke xok q3Y (e:=q4V) q4t q5 (st:=fun(x:tq7)=>WI x.1 x.u3 x.u7 x.u8 x.u9 x.u11 x.u12 x.u13 x.u14 x.u15 x.u17 x.u18 x.u19 x.u20 x.u21 x.u22 x.v23) (prj:=fun(x:tq7)=>(x.2.1,x.u2,x.u4,x.u5,x.u6,x.u10,x.u16)) (emb:=q4X) q4W (fun x=>(q4Y x).trans (by unfold WI Wp X1;simp only[Zk2,ZjT,Zk3,Option.map_some,Option.map_none];rfl)) q5
theorem q51 (x:((Nat->Y2)×Int×Zc×Bool×Zc×Zc)):PE.step X q4x q3X q4s q4Z 12 x=W7 x.1 x.2.1 x.u2 x.u3 x.u4 x.v5:=by kernel_rfl
theorem q52:ZcD X q4x W1:=Zkf (ZjG xok q3Y q4t q50 12) fun x _ h=>((q51 x).trans (X2h x).symm).trans h
def q53 {R:Type}:Prs S R:=PE.ps X q4x (fun x q=>(W1 x).bind q) q4s
theorem q54 {R:Type}:Z8k X (q53 (R:=R)):=Zk8 (e:=q4x) q52 q4t
def q55:StT S:=⟨(N (N L (some (.ptr 1 0)) L) (some (.yld 3)) L),(N (N (N L o8 L) on L) ot (N L on L)),4⟩
def q56:Way S:=⟨.ret,⟨(N L (some (.tup [])) L),(N (N (N L o8 L) on L) ot (N L on L)),4⟩,[(.st 25),(.st 25),.bool,(.st 25)]⟩
def q57:Way S:=⟨.ret,⟨(N L (some (.tup [])) L),(N (N (N L (some (.loop 39 (N (N L (some (.ptr 2 0)) L) (some (.agg [(.stc 25 (T.dflt 25))])) (N (N L (some (.fn (.func 81) [] [(.ptr 1 0)])) L) (some (.ptr 0 0)) L)) (5::[]) .skip .skip 0 .ret (0::(39::[])) (0::(1::(0::(1::[])))))) L) on L) ot (N L on L)),4⟩,[(.st 25),(.st 25),.bool,(.st 25)]⟩
def q58:PE S:=⟨81,2,q55,[(.st 25),(.st 25),.bool,(.st 25)],[q56,q57]⟩
def q5d:Key:=⟨[81],81,none,[0,0,1,0,1,1],0,11⟩
def q5e:StT S:=⟨(N (N (N L (some (.ptr 5 0)) (N L vH L)) (some (.ptr 1 0)) (N (N L vE L) none L)) none (N L (some (.ptr 4 0)) (N (N L vH L) none L))),o1B,11⟩
def q5f:Way S:=⟨(.exit 0),⟨(N (N (N L (some (.ptr 5 0)) L) (some (.ptr 1 0)) L) none (N L (some (.ptr 4 0)) L)),o1B,12⟩,[(.st 25),(.st 25),(.arr (.st 5)),.bool,(.st 25)]⟩
def q5g:LE S:=⟨q5d,q5e,[.int,(.lst (.st 19)),.int,(.st 25),(.st 25),(.arr (.st 5)),.bool,(.st 25)],[q5f]⟩
def q5h {T:Type} (x:tqp) (k:(Zc×Zc×(Nat->Y2)×Bool×Zc)->T):(Nat->Y2)->T:=fun y0=>k (x.u3,x.u4,y0,x.u6,x.v7)
def q5i (x:tqp) (v:(Int×(Nat->Y2))):tqp:=(v.1,x.2.1,x.u2,x.u3,x.u4,v.2,x.u6,x.v7)
theorem q5j (x:tqp):LE.step X q5g q3X q2n q4 12 x=X7 x.2.1 x.u2 x.u3 x.u4 x.u6 x.v7 x.1 x.u5 (fun w=>Sum.inl (q5i x w)) (fun o=>Sum.inr (q5h x id o)):=by kernel_rfl
def q5k {R:Type}:Z21 S R:=LE.ls X q5g (fun x k=>(W5 x.2.1 x.u2 x.u3 x.u4 x.u6 x.v7 (x.1,x.u5)).bind (q5h x k)) q4
theorem q5l {R:Type}:Z2e X (q5k (R:=R)):=Zke xok q3Y (e:=q5g) q2o q5 (st:=fun(x:tqp)=>Xj x.2.1 x.u2 x.u3 x.u4 x.u6 x.v7) (prj:=fun(x:tqp)=>(x.1,x.u5)) (emb:=q5i) q5h (fun x=>(q5j x).trans (by unfold Xj X7;simp only[Zk2,ZjT,Zk3,Option.map_some,Option.map_none];rfl)) q5
theorem q5m (x:(Zc×Zc×Bool×Zc)):PE.step X q58 q3X q53 q5k 12 x=XM x.1 x.2.1 x.u2 x.v3:=by kernel_rfl
theorem q5n:ZcD X q58 X14:=Zkf (ZjG xok q3Y q54 q5l 12) fun x _ h=>((q5m x).trans (X2L x).symm).trans h
def q5o {R:Type}:Prs S R:=PE.ps X q58 (fun x q=>(X14 x).bind q) q53
theorem q5p {R:Type}:Z8k X (q5o (R:=R)):=Zk8 (e:=q58) q5n q54
theorem q5r:Z95 X (q3X):=⟨q3S,trivial⟩
theorem q5u (x0:Zc):Zkg X q3X [(.st 25)] [.bool] q5o q4 12 39 (x0,())=Wz x0:=by kernel_rfl
def q5v:F7 S:=⟨[(.st 25)],[.bool],fun xs=>X6 xs.1⟩
theorem q5w:Zav X 39 q5v:=Zkd (Zkc xok q5r q5p q5 12 39) fun xs _ h=>((q5u xs.1).trans (X3N xs.1).symm).trans h
def q5x:List (Nat×F7 S):=[(37,q2B),(57,qF),(39,q5v)]
theorem q5y:Z95 X (q5x):=⟨q2C,qG,q5w,trivial⟩
theorem q5B (x0:CoRecord) (x1:List Zr) (x2:Zr):Zkg X q5x [(.st 20),(.sl (.st 21)),(.st 21)] [(.st 25),(.int .i64)] q5o q4 12 31 (x0,x1,x2,())=X2Y x0 x1 x2:=by kernel_rfl
def q5C:F7 S:=⟨[(.st 20),(.sl (.st 21)),(.st 21)],[(.st 25),(.int .i64)],fun xs=>X4W xs.1 xs.2.1 xs.u2⟩
theorem q5D:Zav X 31 q5C:=Zkd (Zkc xok q5y q5p q5 12 31) fun xs _ h=>((q5B xs.1 xs.2.1 xs.u2).trans (X5P xs.1 xs.2.1 xs.u2).symm).trans h
theorem q5I (x0:Zc) (x1:List Zr):Zkg X q2 [(.st 25),(.sl (.st 21))] [(.st 25)] q5o q4 12 79 (x0,x1,())=WR x0 x1:=by kernel_rfl
def q5J:F7 S:=⟨[(.st 25),(.sl (.st 21))],[(.st 25)],fun xs=>X2B xs.1 xs.2.1⟩
theorem q5K:Zav X 79 q5J:=Zkd (Zkc xok q3 q5p q5 12 79) fun xs _ h=>((q5I xs.1 xs.2.1).trans (X3W xs.1 xs.2.1).symm).trans h
theorem q5P (x0:Int):Zkg X q2 [(.int .u32)] [(.int .i64)] q5o q4 12 144 (x0,())=X2a x0:=by kernel_rfl
def q5Q:F7 S:=⟨[(.int .u32)],[(.int .i64)],fun xs=>X5a xs.1⟩
theorem q5R:Zav X 144 q5Q:=Zkd (Zkc xok q3 q5p q5 12 144) fun xs _ h=>((q5P xs.1).trans (X63 xs.1).symm).trans h
theorem q5W (x0:Int):Zkg X q2 [(.int .u64)] [(.int .i64)] q5o q4 12 145 (x0,())=X2b x0:=by kernel_rfl
def q5X:F7 S:=⟨[(.int .u64)],[(.int .i64)],fun xs=>X5b xs.1⟩
theorem q5Y:Zav X 145 q5X:=Zkd (Zkc xok q3 q5p q5 12 145) fun xs _ h=>((q5W xs.1).trans (X64 xs.1).symm).trans h
def q5Z:List (Nat×F7 S):=[(144,q5Q),(145,q5X)]
theorem q60:Z95 X (q5Z):=⟨q5R,q5Y,trivial⟩
theorem q63 (x0:Int):Zkg X q5Z [(.int .u64)] [(.int .i64)] q5o q4 12 118 (x0,())=X2W x0:=by kernel_rfl
def q64:F7 S:=⟨[(.int .u64)],[(.int .i64)],fun xs=>X5W xs.1⟩
theorem q65:Zav X 118 q64:=Zkd (Zkc xok q60 q5p q5 12 118) fun xs _ h=>((q63 xs.1).trans (X6G xs.1).symm).trans h
theorem q6a (x0:Int):Zkg X q2 [(.int .i64)] [.bool] q5o q4 12 91 (x0,())=X5O x0:=by kernel_rfl
def q6b:F7 S:=⟨[(.int .i64)],[.bool],fun xs=>X5O xs.1⟩
theorem q6c:Zav X 91 q6b:=Zkd (Zkc xok q3 q5p q5 12 91) fun xs _ h=>(q6a xs.1).trans h
def q6d:List (Nat×F7 S):=[(91,q6b)]
theorem q6e:Z95 X (q6d):=⟨q6c,trivial⟩
theorem q6h (x0 x1:Int):Zkg X q6d [(.int .i64),(.int .i64)] [.bool] q5o q4 12 141 (x0,x1,())=X3b x0 x1:=by kernel_rfl
def q6i:F7 S:=⟨[(.int .i64),(.int .i64)],[.bool],fun xs=>X6a xs.1 xs.2.1⟩
theorem q6j:Zav X 141 q6i:=Zkd (Zkc xok q6e q5p q5 12 141) fun xs _ h=>((q6h xs.1 xs.2.1).trans (X6X xs.1 xs.2.1).symm).trans h
def q6k:List (Nat×F7 S):=[(141,q6i)]
theorem q6l:Z95 X (q6k):=⟨q6j,trivial⟩
theorem q6o (x0:List Int) (x1 x2:Int):Zkg X q6k [(.sl (.int .i64)),(.int .i64),(.int .i64)] [] q5o q4 12 135 (x0,x1,x2,())=XI x0 x1 x2:=by kernel_rfl
def q6p:F7 S:=⟨[(.sl (.int .i64)),(.int .i64),(.int .i64)],[],fun xs=>X29 xs.1 xs.2.1 xs.u2⟩
theorem q6q:Zav X 135 q6p:=Zkd (Zkc xok q6l q5p q5 12 135) fun xs _ h=>((q6o xs.1 xs.2.1 xs.u2).trans (X3A xs.1 xs.2.1 xs.u2).symm).trans h
theorem q6v (x0:List Int) (x1 x2 x3:Int):Zkg X q6k [(.sl (.int .i64)),(.int .i64),(.int .i64),(.int .i64)] [] q5o q4 12 163 (x0,x1,x2,x3,())=We x0 x1 x2 x3:=by kernel_rfl
def q6w:F7 S:=⟨[(.sl (.int .i64)),(.int .i64),(.int .i64),(.int .i64)],[],fun xs=>X3a xs.1 xs.2.1 xs.u2 xs.u3⟩
theorem q6x:Zav X 163 q6w:=Zkd (Zkc xok q6l q5p q5 12 163) fun xs _ h=>((q6v xs.1 xs.2.1 xs.u2 xs.u3).trans (X4c xs.1 xs.2.1 xs.u2 xs.u3).symm).trans h
def q6y:List (Nat×F7 S):=[(163,q6w)]
theorem q6z:Z95 X (q6y):=⟨q6x,trivial⟩
theorem q6C (x0:List Int) (x1 x2:Int):Zkg X q6y [(.sl (.int .i64)),(.int .i64),(.int .i64)] [] q5o q4 12 136 (x0,x1,x2,())=Wd x0 x1 x2:=by kernel_rfl
def q6D:F7 S:=⟨[(.sl (.int .i64)),(.int .i64),(.int .i64)],[],fun xs=>X39 xs.1 xs.2.1 xs.u2⟩
theorem q6E:Zav X 136 q6D:=Zkd (Zkc xok q6z q5p q5 12 136) fun xs _ h=>((q6C xs.1 xs.2.1 xs.u2).trans (X4b xs.1 xs.2.1 xs.u2).symm).trans h
def q6F:List (Nat×F7 S):=[(118,q64)]
theorem q6G:Z95 X (q6F):=⟨q65,trivial⟩
theorem q6J (x0:Int):Zkg X q6F [(.int .i64)] [(.int .u64)] q5o q4 12 164 (x0,())=X15 x0:=by kernel_rfl
def q6K:F7 S:=⟨[(.int .i64)],[(.int .u64)],fun xs=>X3Y xs.1⟩
theorem q6L:Zav X 164 q6K:=Zkd (Zkc xok q6G q5p q5 12 164) fun xs _ h=>((q6J xs.1).trans (X4H xs.1).symm).trans h
def q6M:List (Nat×F7 S):=[(164,q6K)]
theorem q6N:Z95 X (q6M):=⟨q6L,trivial⟩
theorem q6Q (x0:List Int) (x1 x2:Int):Zkg X q6M [(.sl (.int .i64)),(.int .i64),(.int .i64)] [] q5o q4 12 137 (x0,x1,x2,())=XH x0 x1 x2:=by kernel_rfl
def q6R:F7 S:=⟨[(.sl (.int .i64)),(.int .i64),(.int .i64)],[],fun xs=>X28 xs.1 xs.2.1 xs.u2⟩
theorem q6S:Zav X 137 q6R:=Zkd (Zkc xok q6N q5p q5 12 137) fun xs _ h=>((q6Q xs.1 xs.2.1 xs.u2).trans (X3z xs.1 xs.2.1 xs.u2).symm).trans h
theorem q6X (x0:List Int) (x1 x2:Int):Zkg X q6k [(.sl (.int .i64)),(.int .i64),(.int .i64)] [(.int .i64),(.int .i64)] q5o q4 12 138 (x0,x1,x2,())=XY x0 x1 x2:=by kernel_rfl
def q6Y:F7 S:=⟨[(.sl (.int .i64)),(.int .i64),(.int .i64)],[(.int .i64),(.int .i64)],fun xs=>X2u xs.1 xs.2.1 xs.u2⟩
theorem q6Z:Zav X 138 q6Y:=Zkd (Zkc xok q6l q5p q5 12 138) fun xs _ h=>((q6X xs.1 xs.2.1 xs.u2).trans (X3T xs.1 xs.2.1 xs.u2).symm).trans h
theorem q74 (x0:List Int) (x1 x2:Int):Zkg X q2 [(.sl (.int .i64)),(.int .i64),(.int .i64)] [] q5o q4 12 139 (x0,x1,x2,())=XR x0 x1 x2:=by kernel_rfl
def q75:F7 S:=⟨[(.sl (.int .i64)),(.int .i64),(.int .i64)],[],fun xs=>X2n xs.1 xs.2.1 xs.u2⟩
theorem q76:Zav X 139 q75:=Zkd (Zkc xok q3 q5p q5 12 139) fun xs _ h=>((q74 xs.1 xs.2.1 xs.u2).trans (X3K xs.1 xs.2.1 xs.u2).symm).trans h
theorem q7b (x0:List Int) (x1 x2:Int):Zkg X q6k [(.sl (.int .i64)),(.int .i64),(.int .i64)] [.bool] q5o q4 12 140 (x0,x1,x2,())=Xk x0 x1 x2:=by kernel_rfl
def q7c:F7 S:=⟨[(.sl (.int .i64)),(.int .i64),(.int .i64)],[.bool],fun xs=>X1f xs.1 xs.2.1 xs.u2⟩
theorem q7d:Zav X 140 q7c:=Zkd (Zkc xok q6l q5p q5 12 140) fun xs _ h=>((q7b xs.1 xs.2.1 xs.u2).trans (X2U xs.1 xs.2.1 xs.u2).symm).trans h
theorem q7i (x0:List Int) (x1 x2 x3:Int):Zkg X q6k [(.sl (.int .i64)),(.int .i64),(.int .i64),(.int .i64)] [(.int .i64)] q5o q4 12 142 (x0,x1,x2,x3,())=Xw x0 x1 x2 x3:=by kernel_rfl
def q7j:F7 S:=⟨[(.sl (.int .i64)),(.int .i64),(.int .i64),(.int .i64)],[(.int .i64)],fun xs=>X26 xs.1 xs.2.1 xs.u2 xs.u3⟩
theorem q7k:Zav X 142 q7j:=Zkd (Zkc xok q6l q5p q5 12 142) fun xs _ h=>((q7i xs.1 xs.2.1 xs.u2 xs.u3).trans (X3p xs.1 xs.2.1 xs.u2 xs.u3).symm).trans h
theorem q7p (x0:List Int) (x1 x2 x3:Int):Zkg X q6k [(.sl (.int .i64)),(.int .i64),(.int .i64),(.int .i64)] [(.int .i64),.bool] q5o q4 12 143 (x0,x1,x2,x3,())=W9 x0 x1 x2 x3:=by kernel_rfl
def q7q:F7 S:=⟨[(.sl (.int .i64)),(.int .i64),(.int .i64),(.int .i64)],[(.int .i64),.bool],fun xs=>X2X xs.1 xs.2.1 xs.u2 xs.u3⟩
theorem q7r:Zav X 143 q7q:=Zkd (Zkc xok q6l q5p q5 12 143) fun xs _ h=>((q7p xs.1 xs.2.1 xs.u2 xs.u3).trans (X41 xs.1 xs.2.1 xs.u2 xs.u3).symm).trans h
def q7s (ih:tqF->Option (Unit)):List (Nat×F7 S):=[(135,q6p),(136,q6D),(137,q6R),(138,q6Y),(139,q75),(140,q7c),(141,q6i),(142,q7j),(143,q7q),(117,⟨[(.sl (.int .i64)),(.int .i64),(.int .i64),(.int .i64)],[],ih⟩)]
theorem q7t (ih:tqF->Option (Unit)) (hih:Zav X 117 ⟨[(.sl (.int .i64)),(.int .i64),(.int .i64),(.int .i64)],[],ih⟩):Z95 X (q7s ih):=⟨q6q,q6E,q6S,q6Z,q76,q7d,q6j,q7k,q7r,hih,trivial⟩
abbrev q7u (ih:tqF->Option (Unit)) {R:Type}:Z21 S R:=Zj1
theorem q7v (ih:tqF->Option (Unit)) (hih:Zav X 117 ⟨[(.sl (.int .i64)),(.int .i64),(.int .i64),(.int .i64)],[],ih⟩) {R:Type}:Z2e X (q7u ih (R:=R)):=ZjC X
theorem q7w (ih:tqF->Option (Unit)) (x0:List Int) (x1 x2 x3:Int):Zkg X (q7s ih) [(.sl (.int .i64)),(.int .i64),(.int .i64),(.int .i64)] [] q5o (q7u ih) 12 117 (x0,x1,x2,x3,())=X2w ih x0 x1 x2 x3:=by kernel_rfl
def q7x:F7 S:=⟨[(.sl (.int .i64)),(.int .i64),(.int .i64),(.int .i64)],[],fun xs=>X4v xs.1 xs.2.1 xs.u2 xs.u3⟩
theorem q7y:Zav X 117 q7x:=ZkS (X:=X) (g:=117) (pts:=[(.sl (.int .i64)),(.int .i64),(.int .i64),(.int .i64)]) (rts:=[]) (t:=X2x) fun ih hih=>Zkd (Zkc xok (q7t ih hih) q5p (q7v ih hih) 12 117) fun xs _ h=>(q7w ih xs.1 xs.2.1 xs.u2 xs.u3).trans h
def q7z:List (Nat×F7 S):=[(79,q5J),(39,q5v),(118,q64),(117,q7x)]
theorem q7A:Z95 X (q7z):=⟨q5K,q5w,q65,q7y,trivial⟩
def q7D:Key:=⟨[52],52,none,[0,0,1,0,1,1],0,12⟩
def q7E:StT S:=⟨(N (N (N (N L (some (.map 2)) L) (some (.ptr 0 0)) L) vH v1L) none (N L vH (N (N (N L vH L) none L) (some .nils) L))),o1y,12⟩
def q7F:Way S:=⟨(.exit 0),⟨(N (N (N (N L (some (.map 2)) L) none L) none L) none (N L none (N L (some .nils) L))),o1y,13⟩,[(.st 25),(.mp (.int .i64) (.int .i64))]⟩
def q7G:LE S:=⟨q7D,q7E,[.int,.int,.int,.int,(.st 25),(.mp (.int .i64) (.int .i64))],[q7F]⟩
def q7H {T:Type} (x:tqv) (k:(Zc×(List (Int×Int)))->T):(List (Int×Int))->T:=fun y0=>k (x.u4,y0)
def q7I (x:tqv) (v:(Int×(List (Int×Int)))):tqv:=(x.1,x.2.1,x.u2,v.1,x.u4,v.2)
theorem q7J (x:tqv):LE.step X q7G q7z q5o q4 12 x=XV x.1 x.2.1 x.u2 x.u4 x.u3 x.v5 (fun w=>Sum.inl (q7I x w)) (fun o=>Sum.inr (q7H x id o)):=by kernel_rfl
def q7K {R:Type}:Z21 S R:=LE.ls X q7G (fun x k=>(X1y x.1 x.2.1 x.u2 x.u4 (x.u3,x.v5)).bind (q7H x k)) q4
theorem q7L {R:Type}:Z2e X (q7K (R:=R)):=Zke xok q7A (e:=q7G) q5p q5 (st:=fun(x:tqv)=>XE x.1 x.2.1 x.u2 x.u4) (prj:=fun(x:tqv)=>(x.u3,x.v5)) (emb:=q7I) q7H (fun x=>(q7J x).trans (by unfold XE XV;simp only[Zk2,ZjT,Zk3,Option.map_some,Option.map_none];rfl)) q5
theorem q7M (x0:Zc) (x1 x2:Int):Zkg X q7z [(.st 25),(.int .i64),(.int .i64)] [(.sl (.int .i64))] q5o q7K 12 52 (x0,x1,x2,())=Wo x0 x1 x2:=by kernel_rfl
def q7N:F7 S:=⟨[(.st 25),(.int .i64),(.int .i64)],[(.sl (.int .i64))],fun xs=>X1c xs.1 xs.2.1 xs.u2⟩
theorem q7O:Zav X 52 q7N:=Zkd (Zkc xok q7A q5p q7L 12 52) fun xs _ h=>((q7M xs.1 xs.2.1 xs.u2).trans (X3G xs.1 xs.2.1 xs.u2).symm).trans h
def q7T:Key:=⟨[88],88,none,[0,0,1,0,1],0,4⟩
def q7U:StT S:=⟨(N (N (N (N L vH L) none L) vH L) vC v1L),L,4⟩
def q7V:Way S:=⟨.ret,⟨v1M,L,15⟩,[.int]⟩
def q7W:Way S:=⟨(.exit 0),⟨L,L,5⟩,[]⟩
def q7X:LE S:=⟨q7T,q7U,[.int,.int,(.lst (.int .i64)),.int],[q7V,q7W]⟩
def q7Y {T:Type} (x:tqM) (k:(Int⊕Unit)->T):(Int⊕Unit)->T:=Sum.elim (fun y0=>k (.inl y0)) (fun y1=>k (.inr ()))
def q7Z (x:tqM) (v:Int):tqM:=(x.1,x.2.1,x.u2,v)
theorem q80 (x:tqM):LE.step X q7X q2 q5o q4 12 x=XX x.1 x.2.1 x.u2 x.v3 (fun w=>Sum.inl (q7Z x w)) (fun o=>Sum.inr (q7Y x id o)):=by kernel_rfl
def q81 {R:Type}:Z21 S R:=LE.ls X q7X (fun x k=>(X1A x.1 x.2.1 x.u2 x.v3).bind (q7Y x k)) q4
theorem q82 {R:Type}:Z2e X (q81 (R:=R)):=Zke xok q3 (e:=q7X) q5p q5 (st:=fun(x:tqM)=>XG x.1 x.2.1 x.u2) (prj:=fun(x:tqM)=>x.v3) (emb:=q7Z) q7Y (fun x=>(q80 x).trans (by unfold XG XX;simp only[Zk2,ZjT,Zk3,Option.map_some,Option.map_none];rfl)) q5
theorem q83 (x0:List Int) (x1:Int):Zkg X q2 [(.sl (.int .i64)),(.int .i64)] [(.int .i64)] q5o q81 12 88 (x0,x1,())=Wu x0 x1:=by kernel_rfl
def q84:F7 S:=⟨[(.sl (.int .i64)),(.int .i64)],[(.int .i64)],fun xs=>X24 xs.1 xs.2.1⟩
theorem q85:Zav X 88 q84:=Zkd (Zkc xok q3 q5p q82 12 88) fun xs _ h=>((q83 xs.1 xs.2.1).trans (X3I xs.1 xs.2.1).symm).trans h
def q86:List (Nat×F7 S):=[(88,q84)]
theorem q87:Z95 X (q86):=⟨q85,trivial⟩
theorem q8a (x0:List Int) (x1:Int):Zkg X q86 [(.sl (.int .i64)),(.int .i64)] [.bool] q5o q4 12 58 (x0,x1,())=W6 x0 x1:=by kernel_rfl
def q8b:F7 S:=⟨[(.sl (.int .i64)),(.int .i64)],[.bool],fun xs=>X1j xs.1 xs.2.1⟩
theorem q8c:Zav X 58 q8b:=Zkd (Zkc xok q87 q5p q5 12 58) fun xs _ h=>((q8a xs.1 xs.2.1).trans (X37 xs.1 xs.2.1).symm).trans h
def q8d:List (Nat×F7 S):=[(52,q7N),(58,q8b)]
theorem q8e:Z95 X (q8d):=⟨q7O,q8c,trivial⟩
theorem q8h (x0:Zc) (x1:Zr):Zkg X q8d [(.st 25),(.st 21)] [(.int .i64)] q5o q4 12 32 (x0,x1,())=Wm x0 x1:=by kernel_rfl
def q8i:F7 S:=⟨[(.st 25),(.st 21)],[(.int .i64)],fun xs=>X1U xs.1 xs.2.1⟩
theorem q8j:Zav X 32 q8i:=Zkd (Zkc xok q8e q5p q5 12 32) fun xs _ h=>((q8h xs.1 xs.2.1).trans (X3C xs.1 xs.2.1).symm).trans h
def q8k:List (Nat×F7 S):=[(31,q5C),(32,q8i)]
theorem q8l:Z95 X (q8k):=⟨q5D,q8j,trivial⟩
theorem q8o (x0:CoRecord) (x1:List Zr) (x2:Zr):Zkg X q8k [(.st 20),(.sl (.st 21)),(.st 21)] [(.int .i64),(.int .i64)] q5o q4 12 8 (x0,x1,x2,())=X2d x0 x1 x2:=by kernel_rfl
def q8p:F7 S:=⟨[(.st 20),(.sl (.st 21)),(.st 21)],[(.int .i64),(.int .i64)],fun xs=>X4g xs.1 xs.2.1 xs.u2⟩
theorem q8q:Zav X 8 q8p:=Zkd (Zkc xok q8l q5p q5 12 8) fun xs _ h=>((q8o xs.1 xs.2.1 xs.u2).trans (X56 xs.1 xs.2.1 xs.u2).symm).trans h
theorem q8v (x0 x1 x2:Int):Zkg X q2 [(.int .i64),(.int .i64),(.int .i64)] [.bool] q5o q4 12 86 (x0,x1,x2,())=X3S x0 x1 x2:=by kernel_rfl
def q8w:F7 S:=⟨[(.int .i64),(.int .i64),(.int .i64)],[.bool],fun xs=>X4a xs.1 xs.2.1 xs.u2⟩
theorem q8x:Zav X 86 q8w:=Zkd (Zkc xok q3 q5p q5 12 86) fun xs _ h=>((q8v xs.1 xs.2.1 xs.u2).trans (X6O xs.1 xs.2.1 xs.u2).symm).trans h
theorem q8C (x0 x1 x2:Int):Zkg X q2 [(.int .i64),(.int .i64),(.int .i64)] [.bool] q5o q4 12 147 (x0,x1,x2,())=X4u x0 x1 x2:=by kernel_rfl
def q8D:F7 S:=⟨[(.int .i64),(.int .i64),(.int .i64)],[.bool],fun xs=>X4u xs.1 xs.2.1 xs.u2⟩
theorem q8E:Zav X 147 q8D:=Zkd (Zkc xok q3 q5p q5 12 147) fun xs _ h=>(q8C xs.1 xs.2.1 xs.u2).trans h
def q8F:List (Nat×F7 S):=[(147,q8D)]
theorem q8G:Z95 X (q8F):=⟨q8E,trivial⟩
def q8J:Key:=⟨[122],122,none,[0,0,1,0,1,1],0,6⟩
def q8K:StT S:=⟨(N (N (N L vH L) none L) vB L),L,6⟩
def q8L:Way S:=⟨.ret,⟨(N L none (N L vI L)),L,43⟩,[.bool]⟩
def q8M:Way S:=⟨(.exit 0),⟨L,L,10⟩,[]⟩
def q8N:LE S:=⟨q8J,q8K,[.int,.str],[q8L,q8M]⟩
def q8O {T:Type} (x:(Int×ByteArray)) (k:(Bool⊕Unit)->T):(Bool⊕Unit)->T:=Sum.elim (fun y0=>k (.inl y0)) (fun y1=>k (.inr ()))
def q8P (x:(Int×ByteArray)) (v:Int):(Int×ByteArray):=(v,x.2)
theorem q8Q (x:(Int×ByteArray)):LE.step X q8N q8F q5o q4 12 x=X1L x.2 x.1 (fun w=>Sum.inl (q8P x w)) (fun o=>Sum.inr (q8O x id o)):=by kernel_rfl
def q8R {R:Type}:Z21 S R:=LE.ls X q8N (fun x k=>(X4D x.2 x.1).bind (q8O x k)) q4
theorem q8S {R:Type}:Z2e X (q8R (R:=R)):=Zke xok q8G (e:=q8N) q5p q5 (st:=fun(x:(Int×ByteArray))=>X1D x.2) (prj:=fun(x:(Int×ByteArray))=>x.1) (emb:=q8P) q8O (fun x=>(q8Q x).trans (by unfold X1D X1L;simp only[Zk2,ZjT,Zk3,Option.map_some,Option.map_none];rfl)) q5
theorem q8T (x0:ByteArray):Zkg X q8F [.str] [.bool] q5o q8R 12 122 (x0,())=X4t x0:=by kernel_rfl
def q8U:F7 S:=⟨[.str],[.bool],fun xs=>X4t xs.1⟩
theorem q8V:Zav X 122 q8U:=Zkd (Zkc xok q8G q5p q8S 12 122) fun xs _ h=>(q8T xs.1).trans h
def q90:Key:=⟨[123],123,none,[0,0,1,0,1],0,2⟩
def q91:StT S:=⟨(N (N L vB (N L vH L)) (some (.sl .str [])) L),L,2⟩
def q92:Way S:=⟨.ret,⟨v1M,L,14⟩,[.int]⟩
def q93:Way S:=⟨(.exit 0),⟨L,L,6⟩,[]⟩
def q94:LE S:=⟨q90,q91,[.str,.int,(.lst .str)],[q92,q93]⟩
def q95 {T:Type} (x:tqI) (k:(Int⊕Unit)->T):(Int⊕Unit)->T:=Sum.elim (fun y0=>k (.inl y0)) (fun y1=>k (.inr ()))
def q96 (x:tqI) (v:Int):tqI:=(x.1,v,x.v2)
theorem q97 (x:tqI):LE.step X q94 q2 q5o q4 12 x=X1r x.1 x.v2 x.2.1 (fun w=>Sum.inl (q96 x w)) (fun o=>Sum.inr (q95 x id o)):=by kernel_rfl
def q98 {R:Type}:Z21 S R:=LE.ls X q94 (fun x k=>(X3x x.1 x.v2 x.2.1).bind (q95 x k)) q4
theorem q99 {R:Type}:Z2e X (q98 (R:=R)):=Zke xok q3 (e:=q94) q5p q5 (st:=fun(x:tqI)=>WS x.1 x.v2) (prj:=fun(x:tqI)=>x.2.1) (emb:=q96) q95 (fun x=>(q97 x).trans (by unfold WS X1r;simp only[Zk2,ZjT,Zk3,Option.map_some,Option.map_none];rfl)) q5
theorem q9a (x0:List ByteArray) (x1:ByteArray):Zkg X q2 [(.sl .str),.str] [(.int .i64)] q5o q98 12 123 (x0,x1,())=X4E x0 x1:=by kernel_rfl
def q9b:F7 S:=⟨[(.sl .str),.str],[(.int .i64)],fun xs=>X4E xs.1 xs.2.1⟩
theorem q9c:Zav X 123 q9b:=Zkd (Zkc xok q3 q5p q99 12 123) fun xs _ h=>(q9a xs.1 xs.2.1).trans h
def q9d:List (Nat×F7 S):=[(122,q8U),(123,q9b)]
theorem q9e:Z95 X (q9d):=⟨q8V,q9c,trivial⟩
theorem q9h (x0:ByteArray) (x1:List ByteArray):Zkg X q9d [.str,(.sl .str)] [(.int .i64)] q5o q4 12 87 (x0,x1,())=X49 x0 x1:=by kernel_rfl
def q9i:F7 S:=⟨[.str,(.sl .str)],[(.int .i64)],fun xs=>X49 xs.1 xs.2.1⟩
theorem q9j:Zav X 87 q9i:=Zkd (Zkc xok q9e q5p q5 12 87) fun xs _ h=>(q9h xs.1 xs.2.1).trans h
def q9o:Key:=⟨[124],124,none,[0,0,1,0,1,1],0,3⟩
def q9p:StT S:=⟨(N (N (N (N L vH L) none L) vH L) (some (.sl (.st 5) [])) (N (N (N L vH L) none L) vH L)),L,3⟩
def q9q:Way S:=⟨.ret,⟨(N L none (N L none (N L vH L))),L,28⟩,[.int]⟩
def q9r:Way S:=⟨(.exit 0),⟨(N v1L none L),L,7⟩,[.int]⟩
def q9s:LE S:=⟨q9o,q9p,[.int,.int,(.lst (.st 5)),.int,.int],[q9q,q9r]⟩
def q9t {T:Type} (x:tqG) (k:(Int⊕Int)->T):(Int⊕Int)->T:=Sum.elim (fun y0=>k (.inl y0)) (fun y1=>k (.inr y1))
def q9u (x:tqG) (v:(Int×Int)):tqG:=(v.1,x.2.1,x.u2,v.2,x.v4)
theorem q9v (x:tqG):LE.step X q9s q8F q5o q4 12 x=X1d x.2.1 x.u2 x.v4 x.1 x.u3 (fun w=>Sum.inl (q9u x w)) (fun o=>Sum.inr (q9t x id o)):=by kernel_rfl
def q9w {R:Type}:Z21 S R:=LE.ls X q9s (fun x k=>(X4f x.2.1 x.u2 x.v4 (x.1,x.u3)).bind (q9t x k)) q4
theorem q9x {R:Type}:Z2e X (q9w (R:=R)):=Zke xok q8G (e:=q9s) q5p q5 (st:=fun(x:tqG)=>X1a x.2.1 x.u2 x.v4) (prj:=fun(x:tqG)=>(x.1,x.u3)) (emb:=q9u) q9t (fun x=>(q9v x).trans (by unfold X1a X1d;simp only[Zk2,ZjT,Zk3,Option.map_some,Option.map_none];rfl)) q5
theorem q9y (x0:List Y2) (x1 x2:Int):Zkg X q8F [(.sl (.st 5)),(.int .i64),(.int .i64)] [(.int .i64)] q5o q9w 12 124 (x0,x1,x2,())=X3R x0 x1 x2:=by kernel_rfl
def q9z:F7 S:=⟨[(.sl (.st 5)),(.int .i64),(.int .i64)],[(.int .i64)],fun xs=>X3R xs.1 xs.2.1 xs.u2⟩
theorem q9A:Zav X 124 q9z:=Zkd (Zkc xok q8G q5p q9x 12 124) fun xs _ h=>(q9y xs.1 xs.2.1 xs.u2).trans h
def q9B:List (Nat×F7 S):=[(124,q9z)]
theorem q9C:Z95 X (q9B):=⟨q9A,trivial⟩
theorem q9F (x0:Y2) (x1 x2:Int):Zkg X q9B [(.st 5),(.int .i64),(.int .i64)] [(.int .i64)] q5o q4 12 92 (x0,x1,x2,())=X4F x0 x1 x2:=by kernel_rfl
def q9G:F7 S:=⟨[(.st 5),(.int .i64),(.int .i64)],[(.int .i64)],fun xs=>X4F xs.1 xs.2.1 xs.u2⟩
theorem q9H:Zav X 92 q9G:=Zkd (Zkc xok q9C q5p q5 12 92) fun xs _ h=>(q9F xs.1 xs.2.1 xs.u2).trans h
def q9I:List (Nat×F7 S):=[(86,q8w),(92,q9G)]
theorem q9J:Z95 X (q9I):=⟨q8x,q9H,trivial⟩
theorem q9M (x0:CoRecord) (x1 x2:Int) (x3:Y2):Zkg X q9I [(.st 20),(.int .i64),(.int .i64),(.st 5)] [(.int .i64)] q5o q4 12 62 (x0,x1,x2,x3,())=X36 x0 x1 x2 x3:=by kernel_rfl
def q9N:F7 S:=⟨[(.st 20),(.int .i64),(.int .i64),(.st 5)],[(.int .i64)],fun xs=>X51 xs.1 xs.2.1 xs.u2 xs.u3⟩
theorem q9O:Zav X 62 q9N:=Zkd (Zkc xok q9J q5p q5 12 62) fun xs _ h=>((q9M xs.1 xs.2.1 xs.u2 xs.u3).trans (X5Y xs.1 xs.2.1 xs.u2 xs.u3).symm).trans h
def q9P:List (Nat×F7 S):=[(86,q8w),(87,q9i),(62,q9N)]
theorem q9Q:Z95 X (q9P):=⟨q8x,q9j,q9O,trivial⟩
def q9T:Key:=⟨[55],55,none,[0,0,1,0,1,1,1],0,17⟩
def q9U:StT S:=⟨(N (N L (some (.ptr 0 0)) (N L (some (.rs 17 0)) L)) none (N L none (N L vH L))),o1H,18⟩
def q9V:Way S:=⟨.ret,⟨v1I,o1d,66⟩,[.int,.int,.int,(.lst .str),(.st 20),(.st 18),(.lst .str)]⟩
def q9W:Way S:=⟨.ret,⟨v1I,o1d,65⟩,[.int,.int,.int,(.lst .str),(.st 20),(.st 18),(.lst .str)]⟩
def q9X:Way S:=⟨(.exit 0),⟨(N (N L (some (.ptr 0 0)) L) none L),o1H,23⟩,[(.lst .str),(.st 20)]⟩
def q9Y:LE S:=⟨q9T,q9U,[.int,(.lst .str),(.st 20)],[q9V,q9W,q9X]⟩
def q9Z {T:Type} (x:tqK) (k:((Int×Int×Int×(List ByteArray)×CoRecord×Zm×(List ByteArray))⊕(Int×Int×Int×(List ByteArray)×CoRecord×Zm×(List ByteArray))⊕((List ByteArray)×CoRecord))->T):((Int×Int×Int×(List ByteArray)×Zm×(List ByteArray))⊕(Int×Int×Int×(List ByteArray)×Zm×(List ByteArray))⊕(List ByteArray))->T:=Sum.elim (fun y0=>k (.inl (y0.1,y0.2.1,y0.u2,y0.u3,x.v2,y0.u4,y0.v5))) (Sum.elim (fun y1=>k (.inr (.inl (y1.1,y1.2.1,y1.u2,y1.u3,x.v2,y1.u4,y1.v5)))) (fun y2=>k (.inr (.inr (y2,x.v2)))))
def qa0 (x:tqK) (v:(Int×(List ByteArray))):tqK:=(v.1,v.2,x.v2)
theorem qa1 (x:tqK):LE.step X q9Y q9P q5o q4 12 x=X1s x.v2 x.1 x.2.1 (fun w=>Sum.inl (qa0 x w)) (fun o=>Sum.inr (q9Z x id o)):=by kernel_rfl
def qa2 {R:Type}:Z21 S R:=LE.ls X q9Y (fun x k=>(X3y x.v2 (x.1,x.2.1)).bind (q9Z x k)) q4
theorem qa3 {R:Type}:Z2e X (qa2 (R:=R)):=Zke xok q9Q (e:=q9Y) q5p q5 (st:=fun(x:tqK)=>X1Z x.v2) (prj:=fun(x:tqK)=>(x.1,x.2.1)) (emb:=qa0) q9Z (fun x=>(qa1 x).trans (by unfold X1Z X1s;simp only[Zk2,ZjT,Zk3,Option.map_some,Option.map_none];rfl)) q5
def qa4:Key:=⟨[55],55,none,[0,0,1,0,1,1,1,1],2,24⟩
def qa5:StT S:=⟨(N (N L (some (.ptr 0 0)) (N (N L vH L) none L)) none L),o1H,24⟩
def qa6:Way S:=⟨.ret,⟨v1I,(N (N L none (N (N (N L oD L) none L) none L)) oj (N L none (N (N (N (N L ol L) none L) none L) none L))),52⟩,[.int,.int,.int,(.lst .str),(.st 20),(.st 19)]⟩
def qa7:Way S:=⟨(.exit 2),⟨(N (N L (some (.ptr 0 0)) L) none L),o1H,29⟩,[(.lst .str),(.st 20)]⟩
def qa8:LE S:=⟨qa4,qa5,[.int,(.lst .str),(.st 20)],[qa6,qa7]⟩
def qa9 {T:Type} (x:tqK) (k:((Int×Int×Int×(List ByteArray)×CoRecord×Zq)⊕((List ByteArray)×CoRecord))->T):((Int×Int×Int×Zq)⊕Unit)->T:=Sum.elim (fun y0=>k (.inl (y0.1,y0.2.1,y0.u2,x.2.1,x.v2,y0.v3))) (fun y1=>k (.inr (x.2.1,x.v2)))
def qaa (x:tqK) (v:Int):tqK:=(v,x.2.1,x.v2)
theorem qab (x:tqK):LE.step X qa8 q9P q5o qa2 12 x=X1t x.v2 x.1 (fun w=>Sum.inl (qaa x w)) (fun o=>Sum.inr (qa9 x id o)):=by kernel_rfl
def qac {R:Type}:Z21 S R:=LE.ls X qa8 (fun x k=>(X2C x.v2 x.1).bind (qa9 x k)) qa2
theorem qad {R:Type}:Z2e X (qac (R:=R)):=Zke xok q9Q (e:=qa8) q5p qa3 (st:=fun(x:tqK)=>X20 x.v2) (prj:=fun(x:tqK)=>x.1) (emb:=qaa) qa9 (fun x=>(qab x).trans (by unfold X20 X1t;simp only[Zk2,ZjT,Zk3,Option.map_some,Option.map_none];rfl)) qa3
def qae:Key:=⟨[55],55,none,[0,0,1,0,1,1,1,1,1,1],4,31⟩
def qaf:StT S:=⟨(N (N L (some (.ptr 0 0)) (N L none (N L vH L))) none v1P),o1H,31⟩
def qag:Way S:=⟨.ret,⟨v1I,o1H,59⟩,[.int,.int,.int,(.lst .str),(.st 20)]⟩
def qah:Way S:=⟨(.exit 4),⟨L,o1H,36⟩,[(.lst .str),(.st 20)]⟩
def qai:LE S:=⟨qae,qaf,[.int,.int,(.lst .str),(.st 20)],[qag,qah]⟩
def qaj {T:Type} (x:tqA) (k:((Int×Int×Int×(List ByteArray)×CoRecord)⊕((List ByteArray)×CoRecord))->T):((Int×Int×Int)⊕Unit)->T:=Sum.elim (fun y0=>k (.inl (y0.1,y0.2.1,y0.v2,x.u2,x.v3))) (fun y1=>k (.inr (x.u2,x.v3)))
def qak (x:tqA) (v:(Int×Int)):tqA:=(v.1,v.2,x.u2,x.v3)
theorem qal (x:tqA):LE.step X qai q9P q5o qac 12 x=X1u x.v3 x.1 x.2.1 (fun w=>Sum.inl (qak x w)) (fun o=>Sum.inr (qaj x id o)):=by kernel_rfl
def qam {R:Type}:Z21 S R:=LE.ls X qai (fun x k=>(X2D x.v3 (x.1,x.2.1)).bind (qaj x k)) qac
theorem qan {R:Type}:Z2e X (qam (R:=R)):=Zke xok q9Q (e:=qai) q5p qad (st:=fun(x:tqA)=>X21 x.v3) (prj:=fun(x:tqA)=>(x.1,x.2.1)) (emb:=qak) qaj (fun x=>(qal x).trans (by unfold X21 X1u;simp only[Zk2,ZjT,Zk3,Option.map_some,Option.map_none];rfl)) qad
theorem qao (x0:CoRecord):Zkg X q9P [(.st 20)] [(.int .i64),(.int .i64),(.int .i64)] q5o qam 12 55 (x0,())=X2T x0:=by kernel_rfl
def qap:F7 S:=⟨[(.st 20)],[(.int .i64),(.int .i64),(.int .i64)],fun xs=>X4G xs.1⟩
theorem qaq:Zav X 55 qap:=Zkd (Zkc xok q9Q q5p qan 12 55) fun xs _ h=>((qao xs.1).trans (X5z xs.1).symm).trans h
theorem qav (x0 x1:Int):Zkg X q6d [(.int .i64),(.int .i64)] [(.int .i64)] q5o q4 12 61 (x0,x1,())=X3q x0 x1:=by kernel_rfl
def qaw:F7 S:=⟨[(.int .i64),(.int .i64)],[(.int .i64)],fun xs=>X3q xs.1 xs.2.1⟩
theorem qax:Zav X 61 qaw:=Zkd (Zkc xok q6e q5p q5 12 61) fun xs _ h=>(qav xs.1 xs.2.1).trans h
def qay:List (Nat×F7 S):=[(61,qaw)]
theorem qaz:Z95 X (qay):=⟨qax,trivial⟩
def qaC:Key:=⟨[38],38,none,[0,0,1,0,1],0,4⟩
def qaD:StT S:=⟨(N (N (N L none (N L vH L)) vC (N (N L vC L) none L)) vC v1M),L,4⟩
def qaF:Way S:=⟨.ret,⟨v1M,L,27⟩,[.int]⟩
def qaG:Way S:=⟨(.exit 0),⟨(N (N L vC L) vC L),L,5⟩,[(.lst (.int .i64)),(.lst (.int .i64))]⟩
def qaH:LE S:=⟨qaC,qaD,[.int,(.lst (.int .i64)),(.lst (.int .i64)),(.lst (.int .i64)),.int],[q7V,qaF,qaG]⟩
def qaI {T:Type} (x:tqy) (k:(Int⊕Int⊕((List Int)×(List Int)))->T):(Int⊕Int⊕Unit)->T:=Sum.elim (fun y0=>k (.inl y0)) (Sum.elim (fun y1=>k (.inr (.inl y1))) (fun y2=>k (.inr (.inr (x.2.1,x.u3)))))
def qaJ (x:tqy) (v:Int):tqy:=(v,x.2.1,x.u2,x.u3,x.v4)
theorem qaK (x:tqy):LE.step X qaH qay q5o q4 12 x=XF x.2.1 x.u2 x.u3 x.v4 x.1 (fun w=>Sum.inl (qaJ x w)) (fun o=>Sum.inr (qaI x id o)):=by kernel_rfl
def qaL {R:Type}:Z21 S R:=LE.ls X qaH (fun x k=>(X1e x.2.1 x.u2 x.u3 x.v4 x.1).bind (qaI x k)) q4
theorem qaM {R:Type}:Z2e X (qaL (R:=R)):=Zke xok qaz (e:=qaH) q5p q5 (st:=fun(x:tqy)=>XW x.2.1 x.u2 x.u3 x.v4) (prj:=fun(x:tqy)=>x.1) (emb:=qaJ) qaI (fun x=>(qaK x).trans (by unfold XW XF;simp only[Zk2,ZjT,Zk3,Option.map_some,Option.map_none];rfl)) q5
theorem qaN (x0 x1:List Int):Zkg X qay [(.sl (.int .i64)),(.sl (.int .i64))] [(.int .i64)] q5o qaL 12 38 (x0,x1,())=WW x0 x1:=by kernel_rfl
def qaO:F7 S:=⟨[(.sl (.int .i64)),(.sl (.int .i64))],[(.int .i64)],fun xs=>WW xs.1 xs.2.1⟩
theorem qaP:Zav X 38 qaO:=Zkd (Zkc xok qaz q5p qaM 12 38) fun xs _ h=>(qaN xs.1 xs.2.1).trans h
def qaQ:List (Nat×F7 S):=[(37,q2B),(38,qaO),(39,q5v)]
theorem qaR:Z95 X (qaQ):=⟨q2C,qaP,q5w,trivial⟩
def qaU:Key:=⟨[13],13,none,[0,0,1,0,1,1,1,0,0,1,1,0,0,1,0,1,1,1,0,1],2,26⟩
def qaV:StT S:=⟨(N (N (N (N L vH (N L vH L)) none (N L none (N L vF L))) vF (N (N L (some (.rs 27 0)) L) none (N L none (N L vH L)))) none (N (N (N L (some (.rs 28 0)) (N L vH L)) (some (.rs 26 0)) (N L none (N L vH L))) (some (.ptr 0 0)) (N L vI L))),o1k,29⟩
def qaW:Way S:=⟨(.exit 1),⟨(N (N v1P vF L) none (N (N (N L none (N L vH L)) (some (.rs 26 0)) L) (some (.ptr 0 0)) (N L vI L))),(N (N (N L none (N L none (N (N L (some (.row 3 (.int .i64) [] 0 0)) L) ox L))) none (N (N (N (N L om L) none L) none L) none L)) oj (N (N L none (N L none (N L (some (.row 3 (.int .i64) [] 1 1)) L))) none o1Q)),54⟩,[.int,(.lst (.st 21)),.int,.bool,(.lst (.int .i64)),(.lst (.st 21)),(.st 21),(.st 20),(.lst (.int .i64)),(.lst (.int .i64))]⟩
def qaX:Way S:=⟨(.exit 2),⟨(N (N v1P vF (N (N L (some (.rs 27 0)) L) none L)) none (N (N (N L (some (.rs 28 0)) (N L vH L)) (some (.rs 26 0)) L) (some (.ptr 0 0)) (N L vI L))),o1k,30⟩,[.int,(.lst (.st 21)),.int,.bool,(.lst (.st 21)),(.st 20),(.lst (.int .i64)),(.lst (.int .i64))]⟩
def qaY:LE S:=⟨qaU,qaV,[.int,.int,(.lst (.st 21)),(.lst (.st 21)),.int,.int,.int,.bool,(.lst (.st 21)),(.st 20),(.lst (.int .i64)),(.lst (.int .i64))],[qaW,qaX]⟩
def qaZ {T:Type} (x:tqj) (k:((Int×(List Zr)×Int×Bool×(List Int)×(List Zr)×Zr×CoRecord×(List Int)×(List Int))⊕(Int×(List Zr)×Int×Bool×(List Zr)×CoRecord×(List Int)×(List Int)))->T):(((List Int)×(List Zr)×Zr×(List Int))⊕((List Zr)×(List Int)))->T:=Sum.elim (fun y0=>k (.inl (x.2.1,x.u3,x.u5,x.u7,y0.1,y0.2.1,y0.u2,x.u9,y0.v3,x.v11))) (fun y1=>k (.inr (x.2.1,x.u3,x.u5,x.u7,y1.1,x.u9,y1.2,x.v11)))
def qb0 (x:tqj) (v:(Int×(List Zr)×(List Int))):tqj:=(x.1,x.2.1,x.u2,x.u3,v.1,x.u5,x.u6,x.u7,v.2.1,x.u9,v.v2,x.v11)
theorem qb1 (x:tqj):LE.step X qaY qaQ q5o q4 12 x=X1o x.1 x.u2 x.u6 x.u7 x.v11 x.u4 x.u8 x.u10 (fun w=>Sum.inl (qb0 x w)) (fun o=>Sum.inr (qaZ x id o)):=by kernel_rfl
def qb2 {R:Type}:Z21 S R:=LE.ls X qaY (fun x k=>(X1F x.1 x.u2 x.u6 x.u7 x.v11 (x.u4,x.u8,x.u10)).bind (qaZ x k)) q4
theorem qb3 {R:Type}:Z2e X (qb2 (R:=R)):=Zke xok qaR (e:=qaY) q5p q5 (st:=fun(x:tqj)=>X1h x.1 x.u2 x.u6 x.u7 x.v11) (prj:=fun(x:tqj)=>(x.u4,x.u8,x.u10)) (emb:=qb0) qaZ (fun x=>(qb1 x).trans (by unfold X1h X1o;simp only[Zk2,ZjT,Zk3,Option.map_some,Option.map_none];rfl)) q5
def qb4:Key:=⟨[13],13,none,[0,0,1,0,1,1,1,0,1],0,17⟩
def qb5:StT S:=⟨(N (N v1P vF L) none (N (N (N L none (N L vH L)) (some (.rs 17 0)) L) (some (.ptr 0 0)) (N L vI L))),(N (N L none o1O) oj L),18⟩
def qb6:Way S:=⟨(.exit 0),⟨(N L none (N (N L (some (.rs 17 0)) L) none L)),(N (N L none o1O) oj L),19⟩,[(.lst (.int .i64)),(.st 20)]⟩
def qb7:LE S:=⟨qb4,qb5,[.int,(.lst (.st 21)),.int,.bool,(.lst (.int .i64)),(.st 20)],[qb6]⟩
def qb8 {T:Type} (x:tqw) (k:((List Int)×CoRecord)->T):(List Int)->T:=fun y0=>k (y0,x.v5)
def qb9 (x:tqw) (v:(Int×Bool×(List Int))):tqw:=(x.1,x.2.1,v.1,v.2.1,v.v2,x.v5)
theorem qba (x:tqw):LE.step X qb7 qaQ q5o qb2 12 x=X1n x.1 x.2.1 x.v5 x.u2 x.u3 x.u4 (fun w=>Sum.inl (qb9 x w)) (fun o=>Sum.inr (qb8 x id o)):=by kernel_rfl
def qbb {R:Type}:Z21 S R:=LE.ls X qb7 (fun x k=>(X3s x.1 x.2.1 x.v5 (x.u2,x.u3,x.u4)).bind (qb8 x k)) qb2
theorem qbc {R:Type}:Z2e X (qbb (R:=R)):=Zke xok qaR (e:=qb7) q5p qb3 (st:=fun(x:tqw)=>X1g x.1 x.2.1 x.v5) (prj:=fun(x:tqw)=>(x.u2,x.u3,x.u4)) (emb:=qb9) qb8 (fun x=>(qba x).trans (by unfold X1g X1n;simp only[Zk2,ZjT,Zk3,Option.map_some,Option.map_none];rfl)) qb3
theorem qbd (x0:CoRecord) (x1:List Zr):Zkg X qaQ [(.st 20),(.sl (.st 21))] [(.sl (.int .i64)),(.int .i64)] q5o qbb 12 13 (x0,x1,())=X2H x0 x1:=by kernel_rfl
def qbe:F7 S:=⟨[(.st 20),(.sl (.st 21))],[(.sl (.int .i64)),(.int .i64)],fun xs=>X45 xs.1 xs.2.1⟩
theorem qbf:Zav X 13 qbe:=Zkd (Zkc xok qaR q5p qbc 12 13) fun xs _ h=>((qbd xs.1 xs.2.1).trans (X5j xs.1 xs.2.1).symm).trans h
def qbg:List (Nat×F7 S):=[(37,q2B),(51,qh),(39,q5v),(52,q7N)]
theorem qbh:Z95 X (qbg):=⟨q2C,qi,q5w,q7O,trivial⟩
theorem qbk (x0:CoRecord) (x1:List Zr) (x2 x3:Int):Zkg X qbg [(.st 20),(.sl (.st 21)),(.int .i64),(.int .i64)] [(.sl (.int .i64)),(.int .i64)] q5o q4 12 17 (x0,x1,x2,x3,())=X2e x0 x1 x2 x3:=by kernel_rfl
def qbl:F7 S:=⟨[(.st 20),(.sl (.st 21)),(.int .i64),(.int .i64)],[(.sl (.int .i64)),(.int .i64)],fun xs=>X4h xs.1 xs.2.1 xs.u2 xs.u3⟩
theorem qbm:Zav X 17 qbl:=Zkd (Zkc xok qbh q5p q5 12 17) fun xs _ h=>((qbk xs.1 xs.2.1 xs.u2 xs.u3).trans (X58 xs.1 xs.2.1 xs.u2 xs.u3).symm).trans h
def qbr:Key:=⟨[18],18,none,[0,0,1,0,1],0,2⟩
def qbs:StT S:=⟨(N (N L vH (N L vH L)) vC L),L,2⟩
def qbt:Way S:=⟨.ret,⟨(N L none (N (N L vI L) none L)),L,13⟩,[.bool]⟩
def qbv:LE S:=⟨qbr,qbs,[.int,.int,(.lst (.int .i64))],[qbt,q93]⟩
def qbw {T:Type} (x:tqO) (k:(Bool⊕Unit)->T):(Bool⊕Unit)->T:=Sum.elim (fun y0=>k (.inl y0)) (fun y1=>k (.inr ()))
def qbx (x:tqO) (v:Int):tqO:=(x.1,v,x.v2)
theorem qby (x:tqO):LE.step X qbv q2 q5o q4 12 x=X1Y x.1 x.v2 x.2.1 (fun w=>Sum.inl (qbx x w)) (fun o=>Sum.inr (qbw x id o)):=by kernel_rfl
def qbz {R:Type}:Z21 S R:=LE.ls X qbv (fun x k=>(X40 x.1 x.v2 x.2.1).bind (qbw x k)) q4
theorem qbA {R:Type}:Z2e X (qbz (R:=R)):=Zke xok q3 (e:=qbv) q5p q5 (st:=fun(x:tqO)=>X1S x.1 x.v2) (prj:=fun(x:tqO)=>x.2.1) (emb:=qbx) qbw (fun x=>(qby x).trans (by unfold X1S X1Y;simp only[Zk2,ZjT,Zk3,Option.map_some,Option.map_none];rfl)) q5
theorem qbB (x0:List Int) (x1:Int):Zkg X q2 [(.sl (.int .i64)),(.int .i64)] [.bool] q5o qbz 12 18 (x0,x1,())=X3n x0 x1:=by kernel_rfl
def qbC:F7 S:=⟨[(.sl (.int .i64)),(.int .i64)],[.bool],fun xs=>X5K xs.1 xs.2.1⟩
theorem qbD:Zav X 18 qbC:=Zkd (Zkc xok q3 q5p qbA 12 18) fun xs _ h=>((qbB xs.1 xs.2.1).trans (X6e xs.1 xs.2.1).symm).trans h
theorem qbI (x0 x1:Int):Zkg X q2 [(.int .i64),(.int .i64)] [(.st 5)] q5o q4 12 19 (x0,x1,())=X3P x0 x1:=by kernel_rfl
def qbJ:F7 S:=⟨[(.int .i64),(.int .i64)],[(.st 5)],fun xs=>X3w xs.1 xs.2.1⟩
theorem qbK:Zav X 19 qbJ:=Zkd (Zkc xok q3 q5p q5 12 19) fun xs _ h=>((qbI xs.1 xs.2.1).trans (X42 xs.1 xs.2.1).symm).trans h
theorem qbP (x0:List Int) (x1:Int):Zkg X q2 [(.sl (.int .u16)),(.int .i64)] [(.int .i64)] q5o q4 12 20 (x0,x1,())=X35 x0 x1:=by kernel_rfl
def qbQ:F7 S:=⟨[(.sl (.int .u16)),(.int .i64)],[(.int .i64)],fun xs=>X4X xs.1 xs.2.1⟩
theorem qbR:Zav X 20 qbQ:=Zkd (Zkc xok q3 q5p q5 12 20) fun xs _ h=>((qbP xs.1 xs.2.1).trans (X5U xs.1 xs.2.1).symm).trans h
def qbS:StT S:=⟨(N v1x vH (N (N L (some (.ptr 6 0)) L) vG L)),o1s,8⟩
def qbT:Way S:=⟨.ret,⟨(N L vI L),o1s,8⟩,[.bool,(.st 25),(.arr (.st 5)),(.st 25),.int,.bool,(.lst (.st 21)),.int,(.st 20),.bool,(.st 20)]⟩
def qbU:PE S:=⟨82,6,qbS,[(.arr (.st 5)),.int,(.lst (.st 28)),(.st 25),(.arr (.st 5)),(.st 25),.int,.bool,(.lst (.st 21)),.int,(.st 20),.bool,(.st 20)],[qbT]⟩
abbrev qbX (ih:tqc->Option tqk) {R:Type}:Z21 S R:=Zj1
theorem qbY (ih:tqc->Option tqk) (hih:ZcD X qbU ih) {R:Type}:Z2e X (qbX ih (R:=R)):=ZjC X
def qbZ:Key:=⟨[5,2,5,82],21,(some 5),[0,0,1,1,0,1,0,1,0,1,1,1,1,1],2,44⟩
def qc0:StT S:=⟨v1i,o1m,44⟩
def qc1:Way S:=⟨(.exit 2),⟨L,o1m,45⟩,[(.st 25),(.arr (.st 5)),(.st 25),(.arr (.st 5)),.int,.bool,(.lst (.st 21)),.int,(.st 20),.bool,(.st 20)]⟩
def qc2:LE S:=⟨qbZ,qc0,[.int,.int,(.st 25),(.arr (.st 5)),(.st 25),(.arr (.st 5)),.int,.bool,(.lst (.st 21)),.int,(.st 20),.bool,(.st 20)],[qc1]⟩
def qc3 {T:Type} (x:tqf) (k:tqi->T):(Nat->Y2)->T:=fun y0=>k (x.u2,y0,x.u4,x.u5,x.u6,x.u7,x.u8,x.u9,x.u10,x.u11,x.v12)
def qc4 (x:tqf) (v:(Int×(Nat->Y2))):tqf:=(x.1,v.1,x.u2,v.2,x.u4,x.u5,x.u6,x.u7,x.u8,x.u9,x.u10,x.u11,x.v12)
theorem qc5 (ih:tqc->Option tqk) (x:tqf):LE.step X qc2 q3X (PE.ps X qbU (fun x q=>(ih x).bind q) q5o) (qbX ih) 12 x=Ws ih x.1 x.u2 x.u4 x.u5 x.u6 x.u7 x.u8 x.u9 x.u10 x.u11 x.v12 x.2.1 x.u3 (fun w=>Sum.inl (qc4 x w)) (fun o=>Sum.inr (qc3 x id o)):=by kernel_rfl
def qc6 (ih:tqc->Option tqk) {R:Type}:Z21 S R:=LE.ls X qc2 (fun x k=>(Wx ih x.1 x.u2 x.u4 x.u5 x.u6 x.u7 x.u8 x.u9 x.u10 x.u11 x.v12 (x.2.1,x.u3)).bind (qc3 x k)) (qbX ih)
theorem qc7 (ih:tqc->Option tqk) (hih:ZcD X qbU ih) {R:Type}:Z2e X (qc6 ih (R:=R)):=Zke xok q3Y (e:=qc2) (Zk8 (e:=qbU) hih q5p) (qbY ih hih) (st:=fun(x:tqf)=>WL ih x.1 x.u2 x.u4 x.u5 x.u6 x.u7 x.u8 x.u9 x.u10 x.u11 x.v12) (prj:=fun(x:tqf)=>(x.2.1,x.u3)) (emb:=qc4) qc3 (fun x=>(qc5 ih x).trans (by unfold WL Ws X0;simp only[Zk2,ZjT,Zk3,Option.map_some,Option.map_none];rfl)) (qbY ih hih)
def qc8:Key:=⟨[5,2,5,82],21,(some 5),[0,0,1,1,0,1,0,1,0,1,1,1,1,1],2,41⟩
def qc9:StT S:=⟨v1i,o1m,41⟩
def qca:Way S:=⟨(.exit 2),⟨L,o1m,42⟩,[(.st 25),(.arr (.st 5)),(.st 25),(.arr (.st 5)),.int,.bool,(.lst (.st 21)),.int,(.st 20),.bool,(.st 20)]⟩
def qcb:LE S:=⟨qc8,qc9,[.int,.int,(.st 25),(.arr (.st 5)),(.st 25),(.arr (.st 5)),.int,.bool,(.lst (.st 21)),.int,(.st 20),.bool,(.st 20)],[qca]⟩
theorem qce (ih:tqc->Option tqk) (x:tqf):LE.step X qcb q3X (PE.ps X qbU (fun x q=>(ih x).bind q) q5o) (qc6 ih) 12 x=Wt ih x.1 x.u2 x.u4 x.u5 x.u6 x.u7 x.u8 x.u9 x.u10 x.u11 x.v12 x.2.1 x.u3 (fun w=>Sum.inl (qc4 x w)) (fun o=>Sum.inr (qc3 x id o)):=by kernel_rfl
def qcf (ih:tqc->Option tqk) {R:Type}:Z21 S R:=LE.ls X qcb (fun x k=>(Wy ih x.1 x.u2 x.u4 x.u5 x.u6 x.u7 x.u8 x.u9 x.u10 x.u11 x.v12 (x.2.1,x.u3)).bind (qc3 x k)) (qc6 ih)
theorem qcg (ih:tqc->Option tqk) (hih:ZcD X qbU ih) {R:Type}:Z2e X (qcf ih (R:=R)):=Zke xok q3Y (e:=qcb) (Zk8 (e:=qbU) hih q5p) (qc7 ih hih) (st:=fun(x:tqf)=>WM ih x.1 x.u2 x.u4 x.u5 x.u6 x.u7 x.u8 x.u9 x.u10 x.u11 x.v12) (prj:=fun(x:tqf)=>(x.2.1,x.u3)) (emb:=qc4) qc3 (fun x=>(qce ih x).trans (by unfold WM Wt X0;simp only[Zk2,ZjT,Zk3,Option.map_some,Option.map_none];rfl)) (qc7 ih hih)
def qch:Key:=⟨[121,0,82],121,none,[0,0,1,1],0,71⟩
def qci:StT S:=⟨v15,oM,72⟩
def qcj:Way S:=⟨.ret,⟨L,(N o1a ob (N (N (N (N L none (N L o0 L)) or L) ot o1u) oj o1v)),168⟩,[(.lst (.st 28)),(.st 28),(.st 25),(.lst (.st 19)),(.arr (.st 5)),(.arr (.st 5)),(.arr (.st 5)),.bool,.int,(.st 25),(.arr (.st 5)),(.st 28),.int,.bool,(.lst (.st 21)),.int,(.st 20),.bool,(.arr (.st 5)),.bool,.int,.bool,(.lst (.st 28)),.int,.bool,(.st 19),.int,(.lst (.st 28)),(.st 20),(.lst (.st 19)),(.st 21),(.lst (.st 28)),(.st 25)]⟩
def qck:Way S:=⟨.ret,⟨L,oR,161⟩,[(.st 28),(.st 25),(.lst (.st 19)),(.arr (.st 5)),(.arr (.st 5)),(.arr (.st 5)),.bool,.int,(.st 25),(.arr (.st 5)),(.st 28),.int,.bool,(.lst (.st 21)),.int,(.st 20),.bool,(.arr (.st 5)),.bool,.int,.bool,(.lst (.st 28)),.int,.bool,(.st 19),.int,(.st 20),(.lst (.st 19)),(.st 21),(.lst (.st 28)),(.st 25)]⟩
def qcl:Way S:=⟨.ret,⟨L,(N oW ob (N (N (N (N L none (N (N (N L ou L) none L) o0 L)) or L) ot (N L none (N (N (N L ol L) or L) none L))) oj o1v)),153⟩,[(.st 28),(.st 25),(.lst (.st 19)),(.arr (.st 5)),(.arr (.st 5)),(.arr (.st 5)),.bool,.int,(.st 25),(.arr (.st 5)),(.st 28),.int,.bool,(.lst (.st 21)),.int,(.st 20),(.lst (.st 28)),(.lst (.st 28)),.bool,(.arr (.st 5)),.bool,.int,.bool,(.lst (.st 28)),.int,.bool,(.st 19),.int,(.st 20),(.lst (.st 19)),(.st 21),(.lst (.st 28)),(.st 25)]⟩
def qcm:Way S:=⟨.ret,⟨L,oR,146⟩,[(.st 28),(.st 25),(.lst (.st 19)),(.arr (.st 5)),(.arr (.st 5)),(.arr (.st 5)),.bool,.int,(.st 25),(.arr (.st 5)),(.st 28),.int,.bool,(.lst (.st 21)),.int,(.st 20),.bool,(.arr (.st 5)),.bool,.int,.bool,(.lst (.st 28)),.int,.bool,(.st 19),.int,(.st 20),(.lst (.st 19)),(.st 21),(.lst (.st 28)),(.st 25)]⟩
def qcn:Way S:=⟨.ret,⟨L,(N o10 ob (N o1p oj o1l)),154⟩,[(.st 28),(.st 25),(.lst (.st 19)),(.arr (.st 5)),(.arr (.st 5)),(.arr (.st 5)),.bool,.int,(.st 25),(.lst (.st 28)),(.arr (.st 5)),(.st 28),.int,.bool,(.lst (.st 21)),.int,(.st 20),.bool,(.arr (.st 5)),.bool,.int,.bool,(.lst (.st 28)),.int,.bool,(.st 19),.int,(.st 20),(.lst (.st 19)),(.st 21),(.lst (.st 28)),(.st 25),(.lst (.st 28))]⟩
def qco:Way S:=⟨.ret,⟨L,oR,147⟩,[(.st 28),(.st 25),(.lst (.st 19)),(.arr (.st 5)),(.arr (.st 5)),(.arr (.st 5)),.bool,.int,(.st 25),(.arr (.st 5)),(.st 28),.int,.bool,(.lst (.st 21)),.int,(.st 20),.bool,(.arr (.st 5)),.bool,.int,.bool,(.lst (.st 28)),.int,.bool,(.st 19),.int,(.st 20),(.lst (.st 19)),(.st 21),(.lst (.st 28)),(.st 25)]⟩
def qcp:Way S:=⟨.ret,⟨L,(N o13 ob (N o1p oj o1r)),139⟩,[(.lst (.st 28)),(.st 28),(.st 25),(.lst (.st 19)),(.arr (.st 5)),(.arr (.st 5)),(.arr (.st 5)),.bool,.int,(.st 25),(.arr (.st 5)),(.st 28),.int,.bool,(.lst (.st 21)),.int,(.st 20),.bool,(.arr (.st 5)),.bool,.int,.bool,(.lst (.st 28)),.int,.bool,(.st 19),.int,(.st 20),(.lst (.st 28)),(.lst (.st 19)),(.st 21),(.lst (.st 28)),(.st 25)]⟩
def qcq:Way S:=⟨.ret,⟨L,oR,132⟩,[(.st 28),(.st 25),(.lst (.st 19)),(.arr (.st 5)),(.arr (.st 5)),(.arr (.st 5)),.bool,.int,(.st 25),(.arr (.st 5)),(.st 28),.int,.bool,(.lst (.st 21)),.int,(.st 20),.bool,(.arr (.st 5)),.bool,.int,.bool,(.lst (.st 28)),.int,.bool,(.st 19),.int,(.st 20),(.lst (.st 19)),(.st 21),(.lst (.st 28)),(.st 25)]⟩
def qcr:Way S:=⟨(.exit 0),⟨L,oM,73⟩,[(.st 25),(.lst (.st 19)),(.arr (.st 5)),(.arr (.st 5)),.bool,.int,(.st 25),(.arr (.st 5)),(.st 28),.int,.bool,(.lst (.st 21)),.int,(.st 20),.bool,(.arr (.st 5)),.bool,.int,.bool,(.lst (.st 28)),.int,.bool,.int,(.st 20),(.lst (.st 19)),(.st 21),(.lst (.st 28)),(.st 25)]⟩
def qcs:LE S:=⟨qch,qci,[.int,.int,.int,(.st 25),(.lst (.st 19)),(.arr (.st 5)),(.arr (.st 5)),.bool,.int,(.st 25),(.arr (.st 5)),(.st 28),.int,.bool,(.lst (.st 21)),.int,(.st 20),.bool,(.arr (.st 5)),.bool,.int,.bool,(.lst (.st 28)),.int,.bool,.int,(.st 20),(.lst (.st 19)),(.st 21),(.lst (.st 28)),(.st 25)],[qcj,qck,qcl,qcm,qcn,qco,qcp,qcq,qcr]⟩
def qct {T:Type} (x:tq1) (k:(((List Zb)×Zb×Zc×(List Zq)×(Nat->Y2)×(Nat->Y2)×(Nat->Y2)×Bool×Int×Zc×(Nat->Y2)×Zb×Int×Bool×(List Zr)×Int×CoRecord×Bool×(Nat->Y2)×Bool×Int×Bool×(List Zb)×Int×Bool×Zq×Int×(List Zb)×CoRecord×(List Zq)×Zr×(List Zb)×Zc)⊕tq0⊕(Zb×Zc×(List Zq)×(Nat->Y2)×(Nat->Y2)×(Nat->Y2)×Bool×Int×Zc×(Nat->Y2)×Zb×Int×Bool×(List Zr)×Int×CoRecord×(List Zb)×(List Zb)×Bool×(Nat->Y2)×Bool×Int×Bool×(List Zb)×Int×Bool×Zq×Int×CoRecord×(List Zq)×Zr×(List Zb)×Zc)⊕tq0⊕(Zb×Zc×(List Zq)×(Nat->Y2)×(Nat->Y2)×(Nat->Y2)×Bool×Int×Zc×(List Zb)×(Nat->Y2)×Zb×Int×Bool×(List Zr)×Int×CoRecord×Bool×(Nat->Y2)×Bool×Int×Bool×(List Zb)×Int×Bool×Zq×Int×CoRecord×(List Zq)×Zr×(List Zb)×Zc×(List Zb))⊕tq0⊕((List Zb)×Zb×Zc×(List Zq)×(Nat->Y2)×(Nat->Y2)×(Nat->Y2)×Bool×Int×Zc×(Nat->Y2)×Zb×Int×Bool×(List Zr)×Int×CoRecord×Bool×(Nat->Y2)×Bool×Int×Bool×(List Zb)×Int×Bool×Zq×Int×CoRecord×(List Zb)×(List Zq)×Zr×(List Zb)×Zc)⊕tq0⊕(Zc×(List Zq)×(Nat->Y2)×(Nat->Y2)×Bool×Int×Zc×(Nat->Y2)×Zb×Int×Bool×(List Zr)×Int×CoRecord×Bool×(Nat->Y2)×Bool×Int×Bool×(List Zb)×Int×Bool×Int×CoRecord×(List Zq)×Zr×(List Zb)×Zc))->T):(((List Zb)×Zb×Zc×(Nat->Y2)×(Nat->Y2)×Bool×Zc×Zb×Int×Bool×(List Zr)×Int×CoRecord×Bool×Zq×(List Zb)×CoRecord)⊕tq8⊕(Zb×Zc×(Nat->Y2)×(Nat->Y2)×Bool×Zc×Zb×Int×Bool×(List Zr)×Int×CoRecord×(List Zb)×(List Zb)×Bool×Zq×CoRecord)⊕tq8⊕(Zb×Zc×(Nat->Y2)×(Nat->Y2)×Bool×Zc×(List Zb)×Zb×Int×Bool×(List Zr)×Int×CoRecord×Bool×Zq×CoRecord×(List Zb))⊕tq8⊕((List Zb)×Zb×Zc×(Nat->Y2)×Bool×Zc×Zb×Int×Bool×(List Zr)×Int×CoRecord×Bool×Zq×CoRecord×(List Zb))⊕(Zb×Zc×(Nat->Y2)×Bool×Zc×Zb×Int×Bool×(List Zr)×Int×CoRecord×Bool×Zq×CoRecord)⊕(Zc×(Nat->Y2)×Zc×Zb×Int×Bool×(List Zr)×Int×CoRecord×Bool×CoRecord))->T:=Sum.elim (fun y0=>k (.inl (y0.1,y0.2.1,y0.u2,x.u4,y0.u3,y0.u4,x.u6,y0.u5,x.u8,y0.u6,x.u10,y0.u7,y0.u8,y0.u9,y0.u10,y0.u11,y0.u12,x.u17,x.u18,x.u19,x.u20,x.u21,x.u22,x.u23,y0.u13,y0.u14,x.u25,y0.u15,y0.v16,x.u27,x.u28,x.u29,x.v30))) (Sum.elim (fun y1=>k (.inr (.inl (y1.1,y1.2.1,x.u4,y1.u2,y1.u3,x.u6,y1.u4,x.u8,y1.u5,x.u10,y1.u6,y1.u7,y1.u8,y1.u9,y1.u10,y1.u11,x.u17,x.u18,x.u19,x.u20,x.u21,x.u22,x.u23,y1.u12,y1.u13,x.u25,y1.v14,x.u27,x.u28,x.u29,x.v30)))) (Sum.elim (fun y2=>k (.inr (.inr (.inl (y2.1,y2.2.1,x.u4,y2.u2,y2.u3,x.u6,y2.u4,x.u8,y2.u5,x.u10,y2.u6,y2.u7,y2.u8,y2.u9,y2.u10,y2.u11,y2.u12,y2.u13,x.u17,x.u18,x.u19,x.u20,x.u21,x.u22,x.u23,y2.u14,y2.u15,x.u25,y2.v16,x.u27,x.u28,x.u29,x.v30))))) (Sum.elim (fun y3=>k (.inr (.inr (.inr (.inl (y3.1,y3.2.1,x.u4,y3.u2,y3.u3,x.u6,y3.u4,x.u8,y3.u5,x.u10,y3.u6,y3.u7,y3.u8,y3.u9,y3.u10,y3.u11,x.u17,x.u18,x.u19,x.u20,x.u21,x.u22,x.u23,y3.u12,y3.u13,x.u25,y3.v14,x.u27,x.u28,x.u29,x.v30)))))) (Sum.elim (fun y4=>k (.inr (.inr (.inr (.inr (.inl (y4.1,y4.2.1,x.u4,y4.u2,y4.u3,x.u6,y4.u4,x.u8,y4.u5,y4.u6,x.u10,y4.u7,y4.u8,y4.u9,y4.u10,y4.u11,y4.u12,x.u17,x.u18,x.u19,x.u20,x.u21,x.u22,x.u23,y4.u13,y4.u14,x.u25,y4.u15,x.u27,x.u28,x.u29,x.v30,y4.v16))))))) (Sum.elim (fun y5=>k (.inr (.inr (.inr (.inr (.inr (.inl (y5.1,y5.2.1,x.u4,y5.u2,y5.u3,x.u6,y5.u4,x.u8,y5.u5,x.u10,y5.u6,y5.u7,y5.u8,y5.u9,y5.u10,y5.u11,x.u17,x.u18,x.u19,x.u20,x.u21,x.u22,x.u23,y5.u12,y5.u13,x.u25,y5.v14,x.u27,x.u28,x.u29,x.v30)))))))) (Sum.elim (fun y6=>k (.inr (.inr (.inr (.inr (.inr (.inr (.inl (y6.1,y6.2.1,y6.u2,x.u4,y6.u3,x.u10,x.u6,y6.u4,x.u8,y6.u5,x.u10,y6.u6,y6.u7,y6.u8,y6.u9,y6.u10,y6.u11,x.u17,x.u18,x.u19,x.u20,x.u21,x.u22,x.u23,y6.u12,y6.u13,x.u25,y6.u14,y6.v15,x.u27,x.u28,x.u29,x.v30))))))))) (Sum.elim (fun y7=>k (.inr (.inr (.inr (.inr (.inr (.inr (.inr (.inl (y7.1,y7.2.1,x.u4,y7.u2,x.u10,x.u6,y7.u3,x.u8,y7.u4,x.u10,y7.u5,y7.u6,y7.u7,y7.u8,y7.u9,y7.u10,x.u17,x.u18,x.u19,x.u20,x.u21,x.u22,x.u23,y7.u11,y7.u12,x.u25,y7.v13,x.u27,x.u28,x.u29,x.v30)))))))))) (fun y8=>k (.inr (.inr (.inr (.inr (.inr (.inr (.inr (.inr (y8.1,x.u4,y8.2.1,x.u6,x.u7,x.u8,y8.u2,x.u10,y8.u3,y8.u4,y8.u5,y8.u6,y8.u7,y8.u8,x.u17,x.u18,x.u19,x.u20,x.u21,x.u22,x.u23,y8.u9,x.u25,y8.v10,x.u27,x.u28,x.u29,x.v30)))))))))))))))))
def qcu (x:tq1) (v:(Int×Int×Zc×(Nat->Y2)×Zc×Zb×Int×Bool×(List Zr)×Int×CoRecord×Bool×CoRecord)):tq1:=(x.1,v.1,v.2.1,v.u2,x.u4,v.u3,x.u6,x.u7,x.u8,v.u4,x.u10,v.u5,v.u6,v.u7,v.u8,v.u9,v.u10,x.u17,x.u18,x.u19,x.u20,x.u21,x.u22,x.u23,v.u11,x.u25,v.v12,x.u27,x.u28,x.u29,x.v30)
theorem qcv (ih:tqc->Option tqk) (x:tq1):LE.step X qcs q3X (PE.ps X qbU (fun x q=>(ih x).bind q) q5o) (qcf ih) 12 x=X2 ih x.1 x.u4 x.u6 x.u7 x.u8 x.u10 x.u17 x.u18 x.u19 x.u20 x.u21 x.u22 x.u23 x.u25 x.u27 x.u28 x.u29 x.v30 x.2.1 x.u2 x.u3 x.u5 x.u9 x.u11 x.u12 x.u13 x.u14 x.u15 x.u16 x.u24 x.u26 (fun w=>Sum.inl (qcu x w)) (fun o=>Sum.inr (qct x id o)):=by kernel_rfl
def qcw (ih:tqc->Option tqk) {R:Type}:Z21 S R:=LE.ls X qcs (fun x k=>(XQ ih x.1 x.u4 x.u6 x.u7 x.u8 x.u10 x.u17 x.u18 x.u19 x.u20 x.u21 x.u22 x.u23 x.u25 x.u27 x.u28 x.u29 x.v30 (x.2.1,x.u2,x.u3,x.u5,x.u9,x.u11,x.u12,x.u13,x.u14,x.u15,x.u16,x.u24,x.u26)).bind (qct x k)) (qcf ih)
theorem qcx (ih:tqc->Option tqk) (hih:ZcD X qbU ih) {R:Type}:Z2e X (qcw ih (R:=R)):=Zke xok q3Y (e:=qcs) (Zk8 (e:=qbU) hih q5p) (qcg ih hih) (st:=fun(x:tq1)=>Xd ih x.1 x.u4 x.u6 x.u7 x.u8 x.u10 x.u17 x.u18 x.u19 x.u20 x.u21 x.u22 x.u23 x.u25 x.u27 x.u28 x.u29 x.v30) (prj:=fun(x:tq1)=>(x.2.1,x.u2,x.u3,x.u5,x.u9,x.u11,x.u12,x.u13,x.u14,x.u15,x.u16,x.u24,x.u26)) (emb:=qcu) qct (fun x=>(qcv ih x).trans (by unfold Xd X2;simp only[Zk2,ZjT,Zk3,Option.map_some,Option.map_none];rfl)) (qcg ih hih)
theorem qcy (ih:tqc->Option tqk) (x:((Nat->Y2)×Int×(List Zb)×Zc×(Nat->Y2)×Zc×Int×Bool×(List Zr)×Int×CoRecord×Bool×CoRecord)):PE.step X qbU q3X (PE.ps X qbU (fun x q=>(ih x).bind q) q5o) (qcw ih) 12 x=Xi ih x.1 x.2.1 x.u2 x.u3 x.u4 x.u5 x.u6 x.u7 x.u8 x.u9 x.u10 x.u11 x.v12:=by kernel_rfl
theorem qcz:ZcD X qbU W4:=Zk9 (X:=X) (e:=qbU) (t:=X5) fun ih hih=>Zkf (ZjG xok q3Y (Zk8 (e:=qbU) hih q5p) (qcx ih hih) 12) fun x _ h=>(qcy ih x).trans h
def qcA {R:Type}:Prs S R:=PE.ps X qbU (fun x q=>(W4 x).bind q) q5o
theorem qcB {R:Type}:Z8k X (qcA (R:=R)):=Zk8 (e:=qbU) qcz q5p
def qcC:StT S:=⟨(N v1x vH (N (N L (some (.ptr 6 0)) L) (some .sl0) L)),o1s,8⟩
def qcE:PE S:=⟨82,6,qcC,[(.arr (.st 5)),.int,(.st 25),(.arr (.st 5)),(.st 25),.int,.bool,(.lst (.st 21)),.int,(.st 20),.bool,(.st 20)],[qbT]⟩
theorem qcP (x:tqf):LE.step X qc2 q3X q5o q4 12 x=X0 x.1 x.u2 x.u4 x.u5 x.u6 x.u7 x.u8 x.u9 x.u10 x.u11 x.v12 x.2.1 x.u3 (fun w=>Sum.inl (qc4 x w)) (fun o=>Sum.inr (qc3 x id o)):=by kernel_rfl
def qcQ {R:Type}:Z21 S R:=LE.ls X qc2 (fun x k=>(XP x.1 x.u2 x.u4 x.u5 x.u6 x.u7 x.u8 x.u9 x.u10 x.u11 x.v12 (x.2.1,x.u3)).bind (qc3 x k)) q4
theorem qcR {R:Type}:Z2e X (qcQ (R:=R)):=Zke xok q3Y (e:=qc2) q5p q5 (st:=fun(x:tqf)=>Xc x.1 x.u2 x.u4 x.u5 x.u6 x.u7 x.u8 x.u9 x.u10 x.u11 x.v12) (prj:=fun(x:tqf)=>(x.2.1,x.u3)) (emb:=qc4) qc3 (fun x=>(qcP x).trans (by unfold Xc X0;simp only[Zk2,ZjT,Zk3,Option.map_some,Option.map_none];rfl)) q5
theorem qcY (x:tqf):LE.step X qcb q3X q5o qcQ 12 x=Wq x.1 x.u2 x.u4 x.u5 x.u6 x.u7 x.u8 x.u9 x.u10 x.u11 x.v12 x.2.1 x.u3 (fun w=>Sum.inl (qc4 x w)) (fun o=>Sum.inr (qc3 x id o)):=by kernel_rfl
def qcZ {R:Type}:Z21 S R:=LE.ls X qcb (fun x k=>(X1J x.1 x.u2 x.u4 x.u5 x.u6 x.u7 x.u8 x.u9 x.u10 x.u11 x.v12 (x.2.1,x.u3)).bind (qc3 x k)) qcQ
theorem qd0 {R:Type}:Z2e X (qcZ (R:=R)):=Zke xok q3Y (e:=qcb) q5p qcR (st:=fun(x:tqf)=>WJ x.1 x.u2 x.u4 x.u5 x.u6 x.u7 x.u8 x.u9 x.u10 x.u11 x.v12) (prj:=fun(x:tqf)=>(x.2.1,x.u3)) (emb:=qc4) qc3 (fun x=>(qcY x).trans (by unfold WJ Wq X0;simp only[Zk2,ZjT,Zk3,Option.map_some,Option.map_none];rfl)) qcR
def qd2:StT S:=⟨v15,oK,72⟩
def qd3:Way S:=⟨.ret,⟨L,(N o1a ob (N (N (N (N L none (N L o2 L)) or L) ot o1u) oj o1v)),168⟩,[(.lst (.st 28)),(.st 28),(.st 25),(.lst (.st 19)),(.arr (.st 5)),(.arr (.st 5)),(.arr (.st 5)),.bool,.int,(.st 25),(.arr (.st 5)),(.st 28),.int,.bool,(.lst (.st 21)),.int,(.st 20),.bool,(.arr (.st 5)),.bool,.int,.bool,.int,.bool,(.st 19),.int,(.lst (.st 28)),(.st 20),(.lst (.st 19)),(.st 21),(.lst (.st 28)),(.st 25)]⟩
def qd4:Way S:=⟨.ret,⟨L,oS,161⟩,[(.st 28),(.st 25),(.lst (.st 19)),(.arr (.st 5)),(.arr (.st 5)),(.arr (.st 5)),.bool,.int,(.st 25),(.arr (.st 5)),(.st 28),.int,.bool,(.lst (.st 21)),.int,(.st 20),.bool,(.arr (.st 5)),.bool,.int,.bool,.int,.bool,(.st 19),.int,(.st 20),(.lst (.st 19)),(.st 21),(.lst (.st 28)),(.st 25)]⟩
def qd5:Way S:=⟨.ret,⟨L,(N oW ob (N (N (N (N L none (N (N (N L ou L) none L) o2 L)) or L) ot (N L none (N (N (N L ol L) or L) none L))) oj o1v)),153⟩,[(.st 28),(.st 25),(.lst (.st 19)),(.arr (.st 5)),(.arr (.st 5)),(.arr (.st 5)),.bool,.int,(.st 25),(.arr (.st 5)),(.st 28),.int,.bool,(.lst (.st 21)),.int,(.st 20),(.lst (.st 28)),(.lst (.st 28)),.bool,(.arr (.st 5)),.bool,.int,.bool,.int,.bool,(.st 19),.int,(.st 20),(.lst (.st 19)),(.st 21),(.lst (.st 28)),(.st 25)]⟩
def qd6:Way S:=⟨.ret,⟨L,oS,146⟩,[(.st 28),(.st 25),(.lst (.st 19)),(.arr (.st 5)),(.arr (.st 5)),(.arr (.st 5)),.bool,.int,(.st 25),(.arr (.st 5)),(.st 28),.int,.bool,(.lst (.st 21)),.int,(.st 20),.bool,(.arr (.st 5)),.bool,.int,.bool,.int,.bool,(.st 19),.int,(.st 20),(.lst (.st 19)),(.st 21),(.lst (.st 28)),(.st 25)]⟩
def qd7:Way S:=⟨.ret,⟨L,(N o10 ob (N o1q oj o1l)),154⟩,[(.st 28),(.st 25),(.lst (.st 19)),(.arr (.st 5)),(.arr (.st 5)),(.arr (.st 5)),.bool,.int,(.st 25),(.lst (.st 28)),(.arr (.st 5)),(.st 28),.int,.bool,(.lst (.st 21)),.int,(.st 20),.bool,(.arr (.st 5)),.bool,.int,.bool,.int,.bool,(.st 19),.int,(.st 20),(.lst (.st 19)),(.st 21),(.lst (.st 28)),(.st 25),(.lst (.st 28))]⟩
def qd8:Way S:=⟨.ret,⟨L,oS,147⟩,[(.st 28),(.st 25),(.lst (.st 19)),(.arr (.st 5)),(.arr (.st 5)),(.arr (.st 5)),.bool,.int,(.st 25),(.arr (.st 5)),(.st 28),.int,.bool,(.lst (.st 21)),.int,(.st 20),.bool,(.arr (.st 5)),.bool,.int,.bool,.int,.bool,(.st 19),.int,(.st 20),(.lst (.st 19)),(.st 21),(.lst (.st 28)),(.st 25)]⟩
def qd9:Way S:=⟨.ret,⟨L,(N o13 ob (N o1q oj o1r)),139⟩,[(.lst (.st 28)),(.st 28),(.st 25),(.lst (.st 19)),(.arr (.st 5)),(.arr (.st 5)),(.arr (.st 5)),.bool,.int,(.st 25),(.arr (.st 5)),(.st 28),.int,.bool,(.lst (.st 21)),.int,(.st 20),.bool,(.arr (.st 5)),.bool,.int,.bool,.int,.bool,(.st 19),.int,(.st 20),(.lst (.st 28)),(.lst (.st 19)),(.st 21),(.lst (.st 28)),(.st 25)]⟩
def qda:Way S:=⟨.ret,⟨L,oS,132⟩,[(.st 28),(.st 25),(.lst (.st 19)),(.arr (.st 5)),(.arr (.st 5)),(.arr (.st 5)),.bool,.int,(.st 25),(.arr (.st 5)),(.st 28),.int,.bool,(.lst (.st 21)),.int,(.st 20),.bool,(.arr (.st 5)),.bool,.int,.bool,.int,.bool,(.st 19),.int,(.st 20),(.lst (.st 19)),(.st 21),(.lst (.st 28)),(.st 25)]⟩
def qdb:Way S:=⟨(.exit 0),⟨L,oK,73⟩,[(.st 25),(.lst (.st 19)),(.arr (.st 5)),(.arr (.st 5)),.bool,.int,(.st 25),(.arr (.st 5)),(.st 28),.int,.bool,(.lst (.st 21)),.int,(.st 20),.bool,(.arr (.st 5)),.bool,.int,.bool,.int,.bool,.int,(.st 20),(.lst (.st 19)),(.st 21),(.lst (.st 28)),(.st 25)]⟩
def qdc:LE S:=⟨qch,qd2,[.int,.int,.int,(.st 25),(.lst (.st 19)),(.arr (.st 5)),(.arr (.st 5)),.bool,.int,(.st 25),(.arr (.st 5)),(.st 28),.int,.bool,(.lst (.st 21)),.int,(.st 20),.bool,(.arr (.st 5)),.bool,.int,.bool,.int,.bool,.int,(.st 20),(.lst (.st 19)),(.st 21),(.lst (.st 28)),(.st 25)],[qd3,qd4,qd5,qd6,qd7,qd8,qd9,qda,qdb]⟩
def qdd {T:Type} (x:tq3) (k:(((List Zb)×Zb×Zc×(List Zq)×(Nat->Y2)×(Nat->Y2)×(Nat->Y2)×Bool×Int×Zc×(Nat->Y2)×Zb×Int×Bool×(List Zr)×Int×CoRecord×Bool×(Nat->Y2)×Bool×Int×Bool×Int×Bool×Zq×Int×(List Zb)×CoRecord×(List Zq)×Zr×(List Zb)×Zc)⊕tq2⊕(Zb×Zc×(List Zq)×(Nat->Y2)×(Nat->Y2)×(Nat->Y2)×Bool×Int×Zc×(Nat->Y2)×Zb×Int×Bool×(List Zr)×Int×CoRecord×(List Zb)×(List Zb)×Bool×(Nat->Y2)×Bool×Int×Bool×Int×Bool×Zq×Int×CoRecord×(List Zq)×Zr×(List Zb)×Zc)⊕tq2⊕(Zb×Zc×(List Zq)×(Nat->Y2)×(Nat->Y2)×(Nat->Y2)×Bool×Int×Zc×(List Zb)×(Nat->Y2)×Zb×Int×Bool×(List Zr)×Int×CoRecord×Bool×(Nat->Y2)×Bool×Int×Bool×Int×Bool×Zq×Int×CoRecord×(List Zq)×Zr×(List Zb)×Zc×(List Zb))⊕tq2⊕((List Zb)×Zb×Zc×(List Zq)×(Nat->Y2)×(Nat->Y2)×(Nat->Y2)×Bool×Int×Zc×(Nat->Y2)×Zb×Int×Bool×(List Zr)×Int×CoRecord×Bool×(Nat->Y2)×Bool×Int×Bool×Int×Bool×Zq×Int×CoRecord×(List Zb)×(List Zq)×Zr×(List Zb)×Zc)⊕tq2⊕(Zc×(List Zq)×(Nat->Y2)×(Nat->Y2)×Bool×Int×Zc×(Nat->Y2)×Zb×Int×Bool×(List Zr)×Int×CoRecord×Bool×(Nat->Y2)×Bool×Int×Bool×Int×Bool×Int×CoRecord×(List Zq)×Zr×(List Zb)×Zc))->T):(((List Zb)×Zb×Zc×(Nat->Y2)×(Nat->Y2)×Bool×Zc×Zb×Int×Bool×(List Zr)×Int×CoRecord×Bool×Zq×(List Zb)×CoRecord)⊕tq8⊕(Zb×Zc×(Nat->Y2)×(Nat->Y2)×Bool×Zc×Zb×Int×Bool×(List Zr)×Int×CoRecord×(List Zb)×(List Zb)×Bool×Zq×CoRecord)⊕tq8⊕(Zb×Zc×(Nat->Y2)×(Nat->Y2)×Bool×Zc×(List Zb)×Zb×Int×Bool×(List Zr)×Int×CoRecord×Bool×Zq×CoRecord×(List Zb))⊕tq8⊕((List Zb)×Zb×Zc×(Nat->Y2)×Bool×Zc×Zb×Int×Bool×(List Zr)×Int×CoRecord×Bool×Zq×CoRecord×(List Zb))⊕(Zb×Zc×(Nat->Y2)×Bool×Zc×Zb×Int×Bool×(List Zr)×Int×CoRecord×Bool×Zq×CoRecord)⊕(Zc×(Nat->Y2)×Zc×Zb×Int×Bool×(List Zr)×Int×CoRecord×Bool×CoRecord))->T:=Sum.elim (fun y0=>k (.inl (y0.1,y0.2.1,y0.u2,x.u4,y0.u3,y0.u4,x.u6,y0.u5,x.u8,y0.u6,x.u10,y0.u7,y0.u8,y0.u9,y0.u10,y0.u11,y0.u12,x.u17,x.u18,x.u19,x.u20,x.u21,x.u22,y0.u13,y0.u14,x.u24,y0.u15,y0.v16,x.u26,x.u27,x.u28,x.v29))) (Sum.elim (fun y1=>k (.inr (.inl (y1.1,y1.2.1,x.u4,y1.u2,y1.u3,x.u6,y1.u4,x.u8,y1.u5,x.u10,y1.u6,y1.u7,y1.u8,y1.u9,y1.u10,y1.u11,x.u17,x.u18,x.u19,x.u20,x.u21,x.u22,y1.u12,y1.u13,x.u24,y1.v14,x.u26,x.u27,x.u28,x.v29)))) (Sum.elim (fun y2=>k (.inr (.inr (.inl (y2.1,y2.2.1,x.u4,y2.u2,y2.u3,x.u6,y2.u4,x.u8,y2.u5,x.u10,y2.u6,y2.u7,y2.u8,y2.u9,y2.u10,y2.u11,y2.u12,y2.u13,x.u17,x.u18,x.u19,x.u20,x.u21,x.u22,y2.u14,y2.u15,x.u24,y2.v16,x.u26,x.u27,x.u28,x.v29))))) (Sum.elim (fun y3=>k (.inr (.inr (.inr (.inl (y3.1,y3.2.1,x.u4,y3.u2,y3.u3,x.u6,y3.u4,x.u8,y3.u5,x.u10,y3.u6,y3.u7,y3.u8,y3.u9,y3.u10,y3.u11,x.u17,x.u18,x.u19,x.u20,x.u21,x.u22,y3.u12,y3.u13,x.u24,y3.v14,x.u26,x.u27,x.u28,x.v29)))))) (Sum.elim (fun y4=>k (.inr (.inr (.inr (.inr (.inl (y4.1,y4.2.1,x.u4,y4.u2,y4.u3,x.u6,y4.u4,x.u8,y4.u5,y4.u6,x.u10,y4.u7,y4.u8,y4.u9,y4.u10,y4.u11,y4.u12,x.u17,x.u18,x.u19,x.u20,x.u21,x.u22,y4.u13,y4.u14,x.u24,y4.u15,x.u26,x.u27,x.u28,x.v29,y4.v16))))))) (Sum.elim (fun y5=>k (.inr (.inr (.inr (.inr (.inr (.inl (y5.1,y5.2.1,x.u4,y5.u2,y5.u3,x.u6,y5.u4,x.u8,y5.u5,x.u10,y5.u6,y5.u7,y5.u8,y5.u9,y5.u10,y5.u11,x.u17,x.u18,x.u19,x.u20,x.u21,x.u22,y5.u12,y5.u13,x.u24,y5.v14,x.u26,x.u27,x.u28,x.v29)))))))) (Sum.elim (fun y6=>k (.inr (.inr (.inr (.inr (.inr (.inr (.inl (y6.1,y6.2.1,y6.u2,x.u4,y6.u3,x.u10,x.u6,y6.u4,x.u8,y6.u5,x.u10,y6.u6,y6.u7,y6.u8,y6.u9,y6.u10,y6.u11,x.u17,x.u18,x.u19,x.u20,x.u21,x.u22,y6.u12,y6.u13,x.u24,y6.u14,y6.v15,x.u26,x.u27,x.u28,x.v29))))))))) (Sum.elim (fun y7=>k (.inr (.inr (.inr (.inr (.inr (.inr (.inr (.inl (y7.1,y7.2.1,x.u4,y7.u2,x.u10,x.u6,y7.u3,x.u8,y7.u4,x.u10,y7.u5,y7.u6,y7.u7,y7.u8,y7.u9,y7.u10,x.u17,x.u18,x.u19,x.u20,x.u21,x.u22,y7.u11,y7.u12,x.u24,y7.v13,x.u26,x.u27,x.u28,x.v29)))))))))) (fun y8=>k (.inr (.inr (.inr (.inr (.inr (.inr (.inr (.inr (y8.1,x.u4,y8.2.1,x.u6,x.u7,x.u8,y8.u2,x.u10,y8.u3,y8.u4,y8.u5,y8.u6,y8.u7,y8.u8,x.u17,x.u18,x.u19,x.u20,x.u21,x.u22,y8.u9,x.u24,y8.v10,x.u26,x.u27,x.u28,x.v29)))))))))))))))))
def qde (x:tq3) (v:(Int×Int×Zc×(Nat->Y2)×Zc×Zb×Int×Bool×(List Zr)×Int×CoRecord×Bool×CoRecord)):tq3:=(x.1,v.1,v.2.1,v.u2,x.u4,v.u3,x.u6,x.u7,x.u8,v.u4,x.u10,v.u5,v.u6,v.u7,v.u8,v.u9,v.u10,x.u17,x.u18,x.u19,x.u20,x.u21,x.u22,v.u11,x.u24,v.v12,x.u26,x.u27,x.u28,x.v29)
theorem qdf (x:tq3):LE.step X qdc q3X qcA qcZ 12 x=Wr x.1 x.u4 x.u6 x.u7 x.u8 x.u10 x.u17 x.u18 x.u19 x.u20 x.u21 x.u22 x.u24 x.u26 x.u27 x.u28 x.v29 x.2.1 x.u2 x.u3 x.u5 x.u9 x.u11 x.u12 x.u13 x.u14 x.u15 x.u16 x.u23 x.u25 (fun w=>Sum.inl (qde x w)) (fun o=>Sum.inr (qdd x id o)):=by kernel_rfl
def qdg {R:Type}:Z21 S R:=LE.ls X qdc (fun x k=>(X1K x.1 x.u4 x.u6 x.u7 x.u8 x.u10 x.u17 x.u18 x.u19 x.u20 x.u21 x.u22 x.u24 x.u26 x.u27 x.u28 x.v29 (x.2.1,x.u2,x.u3,x.u5,x.u9,x.u11,x.u12,x.u13,x.u14,x.u15,x.u16,x.u23,x.u25)).bind (qdd x k)) qcZ
theorem qdh {R:Type}:Z2e X (qdg (R:=R)):=Zke xok q3Y (e:=qdc) qcB qd0 (st:=fun(x:tq3)=>WK x.1 x.u4 x.u6 x.u7 x.u8 x.u10 x.u17 x.u18 x.u19 x.u20 x.u21 x.u22 x.u24 x.u26 x.u27 x.u28 x.v29) (prj:=fun(x:tq3)=>(x.2.1,x.u2,x.u3,x.u5,x.u9,x.u11,x.u12,x.u13,x.u14,x.u15,x.u16,x.u23,x.u25)) (emb:=qde) qdd (fun x=>(qdf x).trans (by unfold WK Wr X2;simp only[Zk2,ZjT,Zk3,Option.map_some,Option.map_none];rfl)) qd0
theorem qdi (x:((Nat->Y2)×Int×Zc×(Nat->Y2)×Zc×Int×Bool×(List Zr)×Int×CoRecord×Bool×CoRecord)):PE.step X qcE q3X qcA qdg 12 x=W8 x.1 x.2.1 x.u2 x.u3 x.u4 x.u5 x.u6 x.u7 x.u8 x.u9 x.u10 x.v11:=by kernel_rfl
theorem qdj:ZcD X qcE W3:=Zkf (ZjG xok q3Y qcB qdh 12) fun x _ h=>((qdi x).trans (X2j x).symm).trans h
def qdk {R:Type}:Prs S R:=PE.ps X qcE (fun x q=>(W3 x).bind q) qcA
theorem qdl {R:Type}:Z8k X (qdk (R:=R)):=Zk8 (e:=qcE) qdj qcB
def qdm:StT S:=⟨(N (N L (some (.ptr 0 0)) L) (some (.yld 5)) L),o1C,6⟩
def qdn:Way S:=⟨.ret,⟨(N L (some (.tup [])) L),o1C,6⟩,[(.arr (.st 5)),(.st 25),.int,.bool,(.lst (.st 21)),.int,(.st 20),(.st 25),.bool,(.st 20)]⟩
def qdo:PE S:=⟨81,2,qdm,[(.arr (.st 5)),(.st 25),.int,.bool,(.lst (.st 21)),.int,(.st 20),(.st 25),.bool,(.st 20)],[qdn]⟩
def qdp:List (Nat×F7 S):=[(83,q3R),(37,q2B)]
theorem qdq:Z95 X qdp:=⟨q3S,q2C,trivial⟩
def qdt:Key:=⟨[81],81,none,[0,0,1,0,1,1],0,13⟩
def qdu:StT S:=⟨(N (N (N L (some (.ptr 7 0)) (N L vH L)) (some (.ptr 0 0)) (N (N L vE L) none L)) none (N L (some (.ptr 6 0)) (N (N L vH L) none L))),o1t,13⟩
def qdv:Way S:=⟨(.exit 0),⟨(N (N (N L (some (.ptr 7 0)) L) (some (.ptr 0 0)) L) none (N L (some (.ptr 6 0)) L)),o1t,14⟩,[(.arr (.st 5)),(.arr (.st 5)),(.st 25),.int,.bool,(.lst (.st 21)),.int,(.st 20),(.st 25),.bool,(.st 20)]⟩
def qdw:LE S:=⟨qdt,qdu,[.int,(.lst (.st 19)),.int,(.arr (.st 5)),(.arr (.st 5)),(.st 25),.int,.bool,(.lst (.st 21)),.int,(.st 20),(.st 25),.bool,(.st 20)],[qdv]⟩
def qdx {T:Type} (x:tqd) (k:((Nat->Y2)×(Nat->Y2)×Zc×Int×Bool×(List Zr)×Int×CoRecord×Zc×Bool×CoRecord)->T):(Nat->Y2)->T:=fun y0=>k (y0,x.u4,x.u5,x.u6,x.u7,x.u8,x.u9,x.u10,x.u11,x.u12,x.v13)
def qdy (x:tqd) (v:(Int×(Nat->Y2))):tqd:=(v.1,x.2.1,x.u2,v.2,x.u4,x.u5,x.u6,x.u7,x.u8,x.u9,x.u10,x.u11,x.u12,x.v13)
theorem qdz (x:tqd):LE.step X qdw qdp q5o q4 12 x=WN x.2.1 x.u2 x.u4 x.u5 x.u6 x.u7 x.u8 x.u9 x.u10 x.u11 x.u12 x.v13 x.1 x.u3 (fun w=>Sum.inl (qdy x w)) (fun o=>Sum.inr (qdx x id o)):=by kernel_rfl
def qdA {R:Type}:Z21 S R:=LE.ls X qdw (fun x k=>(WQ x.2.1 x.u2 x.u4 x.u5 x.u6 x.u7 x.u8 x.u9 x.u10 x.u11 x.u12 x.v13 (x.1,x.u3)).bind (qdx x k)) q4
theorem qdB {R:Type}:Z2e X (qdA (R:=R)):=Zke xok qdq (e:=qdw) q5p q5 (st:=fun(x:tqd)=>X13 x.2.1 x.u2 x.u4 x.u5 x.u6 x.u7 x.u8 x.u9 x.u10 x.u11 x.u12 x.v13) (prj:=fun(x:tqd)=>(x.1,x.u3)) (emb:=qdy) qdx (fun x=>(qdz x).trans (by unfold X13 WN X7;simp only[Zk2,ZjT,Zk3,Option.map_some,Option.map_none];rfl)) q5
theorem qdC (x:((Nat->Y2)×Zc×Int×Bool×(List Zr)×Int×CoRecord×Zc×Bool×CoRecord)):PE.step X qdo qdp qdk qdA 12 x=XN x.1 x.2.1 x.u2 x.u3 x.u4 x.u5 x.u6 x.u7 x.u8 x.v9:=by kernel_rfl
theorem qdD:ZcD X qdo Wg:=Zkf (ZjG xok qdq qdl qdB 12) fun x _ h=>((qdC x).trans (X2N x).symm).trans h
def qdE {R:Type}:Prs S R:=PE.ps X qdo (fun x q=>(Wg x).bind q) qdk
theorem qdF {R:Type}:Z8k X (qdE (R:=R)):=Zk8 (e:=qdo) qdD qdl
def qdG:List (Nat×F7 S):=[(37,q2B),(83,q3R)]
theorem qdH:Z95 X (qdG):=⟨q2C,q3S,trivial⟩
theorem qdK (x0:CoRecord) (x1:List Zr):Zkg X qdG [(.st 20),(.sl (.st 21))] [(.sl (.st 5)),(.int .i64)] qdE q4 12 21 (x0,x1,())=X1Q x0 x1:=by kernel_rfl
def qdL:F7 S:=⟨[(.st 20),(.sl (.st 21))],[(.sl (.st 5)),(.int .i64)],fun xs=>X44 xs.1 xs.2.1⟩
theorem qdM:Zav X 21 qdL:=Zkd (Zkc xok qdH qdF q5 12 21) fun xs _ h=>((qdK xs.1 xs.2.1).trans (X4n xs.1 xs.2.1).symm).trans h
def qdN:List (Nat×F7 S):=[(55,qap)]
theorem qdO:Z95 X (qdN):=⟨qaq,trivial⟩
theorem qdR (x0:CoRecord):Zkg X qdN [(.st 20)] [.bool] qdE q4 12 23 (x0,())=X2S x0:=by kernel_rfl
def qdS:F7 S:=⟨[(.st 20)],[.bool],fun xs=>X4A xs.1⟩
theorem qdT:Zav X 23 qdS:=Zkd (Zkc xok qdO qdF q5 12 23) fun xs _ h=>((qdR xs.1).trans (X5t xs.1).symm).trans h
def qdU:List (Nat×F7 S):=[(37,q2B),(39,q5v)]
theorem qdV:Z95 X (qdU):=⟨q2C,q5w,trivial⟩
theorem qdY (x0:CoRecord) (x1:List Zr):Zkg X qdU [(.st 20),(.sl (.st 21))] [.bool,(.int .i64)] qdE q4 12 24 (x0,x1,())=X2F x0 x1:=by kernel_rfl
def qdZ:F7 S:=⟨[(.st 20),(.sl (.st 21))],[.bool,(.int .i64)],fun xs=>X43 xs.1 xs.2.1⟩
theorem qe0:Zav X 24 qdZ:=Zkd (Zkc xok qdV qdF q5 12 24) fun xs _ h=>((qdY xs.1 xs.2.1).trans (X5e xs.1 xs.2.1).symm).trans h
theorem qe5 (x0:Y2) (x1:Int):Zkg X q2 [(.st 5),(.int .i64)] [(.int .i64)] qdE q4 12 56 (x0,x1,())=X2R x0 x1:=by kernel_rfl
def qe6:F7 S:=⟨[(.st 5),(.int .i64)],[(.int .i64)],fun xs=>X4z xs.1 xs.2.1⟩
theorem qe7:Zav X 56 qe6:=Zkd (Zkc xok q3 qdF q5 12 56) fun xs _ h=>((qe5 xs.1 xs.2.1).trans (X5r xs.1 xs.2.1).symm).trans h
def qe8:List (Nat×F7 S):=[(19,qbJ),(20,qbQ),(56,qe6)]
theorem qe9:Z95 X (qe8):=⟨qbK,qbR,qe7,trivial⟩
def qec:Key:=⟨[26],26,none,[0,0,1,0,1,0,0,1,0,0,1,0,1,1,1],2,23⟩
def qed:StT S:=⟨(N (N v1K none (N (N L vH L) (some (.rs 23 0)) L)) none v1F),(N (N o1Q oo L) oj L),24⟩
def qee:Way S:=⟨(.exit 2),⟨(N (N v1K none (N L (some (.rs 23 0)) L)) none v1F),(N (N o1Q oo L) oj L),29⟩,[.int,.int,.int,(.lst (.int .i64)),(.st 24),(.st 20)]⟩
def qef:LE S:=⟨qec,qed,[.int,.int,.int,.int,(.lst (.int .i64)),(.st 24),(.st 20)],[qee]⟩
def qeg {T:Type} (x:tqt) (k:(Int×Int×Int×(List Int)×Za×CoRecord)->T):Int->T:=fun y0=>k (x.1,y0,x.u3,x.u4,x.u5,x.v6)
def qeh (x:tqt) (v:(Int×Int)):tqt:=(x.1,v.1,v.2,x.u3,x.u4,x.u5,x.v6)
theorem qei (x:tqt):LE.step X qef qe8 qdE q4 12 x=X18 x.v6 x.2.1 x.u2 (fun w=>Sum.inl (qeh x w)) (fun o=>Sum.inr (qeg x id o)):=by kernel_rfl
def qej {R:Type}:Z21 S R:=LE.ls X qef (fun x k=>(X33 x.v6 (x.2.1,x.u2)).bind (qeg x k)) q4
theorem qek {R:Type}:Z2e X (qej (R:=R)):=Zke xok qe9 (e:=qef) qdF q5 (st:=fun(x:tqt)=>WZ x.v6) (prj:=fun(x:tqt)=>(x.2.1,x.u2)) (emb:=qeh) qeg (fun x=>(qei x).trans (by unfold WZ X18;simp only[Zk2,ZjT,Zk3,Option.map_some,Option.map_none];rfl)) q5
def qel:Key:=⟨[26],26,none,[0,0,1,0,1,1,1],0,6⟩
def qem:StT S:=⟨(N (N v1K none (N L (some (.rs 6 0)) L)) none (N L (some (.ptr 0 0)) (N L vH L))),(N (N L oo L) oj (N L none (N L oq L))),7⟩
def qen:Way S:=⟨(.exit 0),⟨(N (N L none (N L (some (.rs 6 0)) L)) none L),(N (N L oo L) oj (N L none (N L oq L))),12⟩,[(.st 24),(.st 20),(.lst (.int .i64))]⟩
def qeo:LE S:=⟨qel,qem,[.int,.int,(.st 24),(.st 20),(.lst (.int .i64))],[qen]⟩
def qep {T:Type} (x:tqx) (k:(Za×CoRecord×(List Int))->T):(List Int)->T:=fun y0=>k (x.u2,x.u3,y0)
def qeq (x:tqx) (v:tqO):tqx:=(v.1,v.2.1,x.u2,x.u3,v.v2)
theorem qer (x:tqx):LE.step X qeo qe8 qdE qej 12 x=X17 x.u2 x.u3 x.1 x.2.1 x.v4 (fun w=>Sum.inl (qeq x w)) (fun o=>Sum.inr (qep x id o)):=by kernel_rfl
def qes {R:Type}:Z21 S R:=LE.ls X qeo (fun x k=>(X32 x.u2 x.u3 (x.1,x.2.1,x.v4)).bind (qep x k)) qej
theorem qet {R:Type}:Z2e X (qes (R:=R)):=Zke xok qe9 (e:=qeo) qdF qek (st:=fun(x:tqx)=>WY x.u2 x.u3) (prj:=fun(x:tqx)=>(x.1,x.2.1,x.v4)) (emb:=qeq) qep (fun x=>(qer x).trans (by unfold WY X17;simp only[Zk2,ZjT,Zk3,Option.map_some,Option.map_none];rfl)) qek
theorem qeu (x0:CoRecord) (x1:Za):Zkg X qe8 [(.st 20),(.st 24)] [(.sl (.int .i64))] qdE qes 12 26 (x0,x1,())=X1W x0 x1:=by kernel_rfl
def qev:F7 S:=⟨[(.st 20),(.st 24)],[(.sl (.int .i64))],fun xs=>X2V xs.1 xs.2.1⟩
theorem qew:Zav X 26 qev:=Zkd (Zkc xok qe9 qdF qet 12 26) fun xs _ h=>((qeu xs.1 xs.2.1).trans (X4P xs.1 xs.2.1).symm).trans h
def qeB:Key:=⟨[27],27,none,[0,0,1,0,1,1],0,10⟩
def qeC:StT S:=⟨(N (N (N L vH L) vC (N (N L vH L) none L)) none (N (N L (some (.ptr 0 0)) L) vH (N (N L vH L) none L))),(N L oj L),10⟩
def qeD:Way S:=⟨(.exit 0),⟨(N v1M none L),(N L oj L),14⟩,[.int,(.st 20)]⟩
def qeE:LE S:=⟨qeB,qeC,[.int,(.lst (.int .i64)),.int,.int,.int,(.st 20)],[qeD]⟩
def qeF {T:Type} (x:tqz) (k:(Int×CoRecord)->T):Int->T:=fun y0=>k (y0,x.v5)
def qeG (x:tqz) (v:(Int×Int)):tqz:=(x.1,x.2.1,v.1,x.u3,v.2,x.v5)
theorem qeH (x:tqz):LE.step X qeE q2 qdE q4 12 x=X1q x.1 x.2.1 x.u3 x.v5 x.u2 x.u4 (fun w=>Sum.inl (qeG x w)) (fun o=>Sum.inr (qeF x id o)):=by kernel_rfl
def qeI {R:Type}:Z21 S R:=LE.ls X qeE (fun x k=>(X3v x.1 x.2.1 x.u3 x.v5 (x.u2,x.u4)).bind (qeF x k)) q4
theorem qeJ {R:Type}:Z2e X (qeI (R:=R)):=Zke xok q3 (e:=qeE) qdF q5 (st:=fun(x:tqz)=>X1i x.1 x.2.1 x.u3 x.v5) (prj:=fun(x:tqz)=>(x.u2,x.u4)) (emb:=qeG) qeF (fun x=>(qeH x).trans (by unfold X1i X1q;simp only[Zk2,ZjT,Zk3,Option.map_some,Option.map_none];rfl)) q5
theorem qeK (x0:CoRecord) (x1:List Int) (x2 x3:Int):Zkg X q2 [(.st 20),(.sl (.int .i64)),(.int .i64),(.int .i64)] [(.int .i64)] qdE qeI 12 27 (x0,x1,x2,x3,())=X2Q x0 x1 x2 x3:=by kernel_rfl
def qeL:F7 S:=⟨[(.st 20),(.sl (.int .i64)),(.int .i64),(.int .i64)],[(.int .i64)],fun xs=>X48 xs.1 xs.2.1 xs.u2 xs.u3⟩
theorem qeM:Zav X 27 qeL:=Zkd (Zkc xok q3 qdF qeJ 12 27) fun xs _ h=>((qeK xs.1 xs.2.1 xs.u2 xs.u3).trans (X5p xs.1 xs.2.1 xs.u2 xs.u3).symm).trans h
def qeN:List (Nat×F7 S):=[(19,qbJ)]
theorem qeO:Z95 X (qeN):=⟨qbK,trivial⟩
theorem qeR (x0 x1 x2:Int):Zkg X qeN [(.int .i64),(.int .i64),(.int .i64)] [(.st 21)] qdE q4 12 28 (x0,x1,x2,())=X3l x0 x1 x2:=by kernel_rfl
def qeS:F7 S:=⟨[(.int .i64),(.int .i64),(.int .i64)],[(.st 21)],fun xs=>X5J xs.1 xs.2.1 xs.u2⟩
theorem qeT:Zav X 28 qeS:=Zkd (Zkc xok qeO qdF q5 12 28) fun xs _ h=>((qeR xs.1 xs.2.1 xs.u2).trans (X6c xs.1 xs.2.1 xs.u2).symm).trans h
def qeU:StT S:=⟨(N (N L (some (.agg [(.stc 24 (T.dflt 24))])) L) (some (.agg [(.stc 20 (T.dflt 20))])) L),L,0⟩
def qeV:Way S:=⟨.ret,⟨(N L (some (.rs 0 0)) L),(N L oy L),1⟩,[(.lst (.st 21))]⟩
def qeW:PE S:=⟨25,2,qeU,[(.st 24),(.st 20)],[qeV]⟩
def qeX:List (Nat×F7 S):=[(26,qev),(27,qeL),(19,qbJ),(23,qdS),(24,qdZ),(21,qdL),(13,qbe),(17,qbl),(28,qeS),(8,q8p),(18,qbC)]
theorem qeY:Z95 X qeX:=⟨qew,qeM,qbK,qdT,qe0,qdM,qbf,qbm,qeT,q8q,qbD,trivial⟩
def qf1:Key:=⟨[25],25,none,[0,0,1,0,1,1,1],0,9⟩
def qf2:StT S:=⟨(N (N v1K none (N L (some (.rs 9 0)) L)) none (N L (some (.ptr 0 0)) (N L vC L))),(N (N L oo (N (N L oy L) none L)) oj L),10⟩
def qf3:Way S:=⟨(.exit 0),⟨(N (N L none (N L (some (.rs 9 0)) L)) none L),(N (N L oo (N (N L oy L) none L)) oj L),21⟩,[(.st 24),(.lst (.st 21)),(.st 20)]⟩
def qf4:LE S:=⟨qf1,qf2,[.int,(.lst (.int .i64)),(.st 24),(.lst (.st 21)),(.st 20)],[qf3]⟩
def qf5 {T:Type} (x:tqu) (k:(Za×(List Zr)×CoRecord)->T):(List Zr)->T:=fun y0=>k (x.u2,y0,x.v4)
def qf6 (x:tqu) (v:(Int×(List Zr))):tqu:=(v.1,x.2.1,x.u2,v.2,x.v4)
theorem qf7 (x:tqu):LE.step X qf4 qeX qdE q4 12 x=Wl x.2.1 x.u2 x.v4 x.1 x.u3 (fun w=>Sum.inl (qf6 x w)) (fun o=>Sum.inr (qf5 x id o)):=by kernel_rfl
def qf8 {R:Type}:Z21 S R:=LE.ls X qf4 (fun x k=>(X34 x.2.1 x.u2 x.v4 (x.1,x.u3)).bind (qf5 x k)) q4
theorem qf9 {R:Type}:Z2e X (qf8 (R:=R)):=Zke xok qeY (e:=qf4) qdF q5 (st:=fun(x:tqu)=>Wi x.2.1 x.u2 x.v4) (prj:=fun(x:tqu)=>(x.1,x.u3)) (emb:=qf6) qf5 (fun x=>(qf7 x).trans (by unfold Wi Wl;simp only[Zk2,ZjT,Zk3,Option.map_some,Option.map_none];rfl)) q5
theorem qfa (x:(Za×CoRecord)):PE.step X qeW qeX qdE qf8 12 x=X1X x.1 x.2:=by kernel_rfl
theorem qfb:ZcD X qeW X3m:=Zkf (ZjG xok qeY qdF qf9 12) fun x _ h=>((qfa x).trans (X4R x).symm).trans h
def qfc {R:Type}:Prs S R:=PE.ps X qeW (fun x q=>(X3m x).bind q) qdE
theorem qfd {R:Type}:Z8k X (qfc (R:=R)):=Zk8 (e:=qeW) qfb qdF
end
end Nore
