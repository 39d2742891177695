/- The code comes to the plain functions. -/
import Derived.Test.YtlgmncmjacjgmaaGreatDoorY
import Derived.Test.YtlgmncmjacjgmaaGreatDoorD
set_option linter.unusedSectionVars false
set_option linter.unusedVariables false
set_option linter.unusedSimpArgs false
set_option maxRecDepth 100000
open Go Go.Ab Go.Proofs Go.Proofs.YtlgmncmjacjgmaaGreatDoor
open Go.Ab.Tr renaming node->N,leaf->L
namespace Prod
abbrev v2 {a b s:Type} (x:a×b×s):=x.2.2
abbrev u2 {a b r s:Type} (x:a×b×r×s):=x.2.2.1
abbrev v3 {a b c s:Type} (x:a×b×c×s):=x.2.2.2
abbrev u3 {a b c r s:Type} (x:a×b×c×r×s):=x.2.2.2.1
abbrev v4 {a b c d s:Type} (x:a×b×c×d×s):=x.2.2.2.2
abbrev u4 {a b c d r s:Type} (x:a×b×c×d×r×s):=x.2.2.2.2.1
abbrev v5 {a b c d e s:Type} (x:a×b×c×d×e×s):=x.2.2.2.2.2
abbrev u5 {a b c d e r s:Type} (x:a×b×c×d×e×r×s):=x.2.2.2.2.2.1
abbrev v6 {a b c d e f s:Type} (x:a×b×c×d×e×f×s):=x.2.2.2.2.2.2
abbrev u6 {a b c d e f r s:Type} (x:a×b×c×d×e×f×r×s):=x.2.2.2.2.2.2.1
abbrev v7 {a b c d e f g s:Type} (x:a×b×c×d×e×f×g×s):=x.2.2.2.2.2.2.2
abbrev u7 {a b c d e f g r s:Type} (x:a×b×c×d×e×f×g×r×s):=x.2.2.2.2.2.2.2.1
abbrev v8 {a b c d e f g h s:Type} (x:a×b×c×d×e×f×g×h×s):=x.2.2.2.2.2.2.2.2
abbrev u8 {a b c d e f g h r s:Type} (x:a×b×c×d×e×f×g×h×r×s):=x.2.2.2.2.2.2.2.2.1
abbrev v9 {a b c d e f g h i s:Type} (x:a×b×c×d×e×f×g×h×i×s):=x.2.2.2.2.2.2.2.2.2
abbrev u9 {a b c d e f g h i r s:Type} (x:a×b×c×d×e×f×g×h×i×r×s):=x.2.2.2.2.2.2.2.2.2.1
abbrev v10 {a b c d e f g h i j s:Type} (x:a×b×c×d×e×f×g×h×i×j×s):=x.2.2.2.2.2.2.2.2.2.2
abbrev u10 {a b c d e f g h i j r s:Type} (x:a×b×c×d×e×f×g×h×i×j×r×s):=x.2.2.2.2.2.2.2.2.2.2.1
abbrev v11 {a b c d e f g h i j k s:Type} (x:a×b×c×d×e×f×g×h×i×j×k×s):=x.2.2.2.2.2.2.2.2.2.2.2
abbrev u11 {a b c d e f g h i j k r s:Type} (x:a×b×c×d×e×f×g×h×i×j×k×r×s):=x.2.2.2.2.2.2.2.2.2.2.2.1
abbrev v12 {a b c d e f g h i j k l s:Type} (x:a×b×c×d×e×f×g×h×i×j×k×l×s):=x.2.2.2.2.2.2.2.2.2.2.2.2
abbrev u12 {a b c d e f g h i j k l r s:Type} (x:a×b×c×d×e×f×g×h×i×j×k×l×r×s):=x.2.2.2.2.2.2.2.2.2.2.2.2.1
abbrev v13 {a b c d e f g h i j k l m s:Type} (x:a×b×c×d×e×f×g×h×i×j×k×l×m×s):=x.2.2.2.2.2.2.2.2.2.2.2.2.2
abbrev u13 {a b c d e f g h i j k l m r s:Type} (x:a×b×c×d×e×f×g×h×i×j×k×l×m×r×s):=x.2.2.2.2.2.2.2.2.2.2.2.2.2.1
abbrev v14 {a b c d e f g h i j k l m n s:Type} (x:a×b×c×d×e×f×g×h×i×j×k×l×m×n×s):=x.2.2.2.2.2.2.2.2.2.2.2.2.2.2
abbrev u14 {a b c d e f g h i j k l m n r s:Type} (x:a×b×c×d×e×f×g×h×i×j×k×l×m×n×r×s):=x.2.2.2.2.2.2.2.2.2.2.2.2.2.2.1
abbrev v15 {a b c d e f g h i j k l m n o s:Type} (x:a×b×c×d×e×f×g×h×i×j×k×l×m×n×o×s):=x.2.2.2.2.2.2.2.2.2.2.2.2.2.2.2
abbrev u15 {a b c d e f g h i j k l m n o r s:Type} (x:a×b×c×d×e×f×g×h×i×j×k×l×m×n×o×r×s):=x.2.2.2.2.2.2.2.2.2.2.2.2.2.2.2.1
abbrev v16 {a b c d e f g h i j k l m n o p s:Type} (x:a×b×c×d×e×f×g×h×i×j×k×l×m×n×o×p×s):=x.2.2.2.2.2.2.2.2.2.2.2.2.2.2.2.2
abbrev u16 {a b c d e f g h i j k l m n o p r s:Type} (x:a×b×c×d×e×f×g×h×i×j×k×l×m×n×o×p×r×s):=x.2.2.2.2.2.2.2.2.2.2.2.2.2.2.2.2.1
abbrev u17 {a b c d e f g h i j k l m n o p q r s:Type} (x:a×b×c×d×e×f×g×h×i×j×k×l×m×n×o×p×q×r×s):=x.2.2.2.2.2.2.2.2.2.2.2.2.2.2.2.2.2.1
abbrev u18 {a b c d e f g h i j k l m n o p q t r s:Type} (x:a×b×c×d×e×f×g×h×i×j×k×l×m×n×o×p×q×t×r×s):=x.2.2.2.2.2.2.2.2.2.2.2.2.2.2.2.2.2.2.1
abbrev u19 {a b c d e f g h i j k l m n o p q t u r s:Type} (x:a×b×c×d×e×f×g×h×i×j×k×l×m×n×o×p×q×t×u×r×s):=x.2.2.2.2.2.2.2.2.2.2.2.2.2.2.2.2.2.2.2.1
abbrev u20 {a b c d e f g h i j k l m n o p q t u v r s:Type} (x:a×b×c×d×e×f×g×h×i×j×k×l×m×n×o×p×q×t×u×v×r×s):=x.2.2.2.2.2.2.2.2.2.2.2.2.2.2.2.2.2.2.2.2.1
abbrev u21 {a b c d e f g h i j k l m n o p q t u v w r s:Type} (x:a×b×c×d×e×f×g×h×i×j×k×l×m×n×o×p×q×t×u×v×w×r×s):=x.2.2.2.2.2.2.2.2.2.2.2.2.2.2.2.2.2.2.2.2.2.1
abbrev u22 {a b c d e f g h i j k l m n o p q t u v w x r s:Type} (x:a×b×c×d×e×f×g×h×i×j×k×l×m×n×o×p×q×t×u×v×w×x×r×s):=x.2.2.2.2.2.2.2.2.2.2.2.2.2.2.2.2.2.2.2.2.2.2.1
abbrev v23 {a b c d e f g h i j k l m n o p q t u v w x y s:Type} (x:a×b×c×d×e×f×g×h×i×j×k×l×m×n×o×p×q×t×u×v×w×x×y×s):=x.2.2.2.2.2.2.2.2.2.2.2.2.2.2.2.2.2.2.2.2.2.2.2
abbrev u23 {a b c d e f g h i j k l m n o p q t u v w x y r s:Type} (x:a×b×c×d×e×f×g×h×i×j×k×l×m×n×o×p×q×t×u×v×w×x×y×r×s):=x.2.2.2.2.2.2.2.2.2.2.2.2.2.2.2.2.2.2.2.2.2.2.2.1
abbrev v24 {a b c d e f g h i j k l m n o p q t u v w x y z s:Type} (x:a×b×c×d×e×f×g×h×i×j×k×l×m×n×o×p×q×t×u×v×w×x×y×z×s):=x.2.2.2.2.2.2.2.2.2.2.2.2.2.2.2.2.2.2.2.2.2.2.2.2
abbrev u24 {a b c d e f g h i j k l m n o p q t u v w x y z r s:Type} (x:a×b×c×d×e×f×g×h×i×j×k×l×m×n×o×p×q×t×u×v×w×x×y×z×r×s):=x.2.2.2.2.2.2.2.2.2.2.2.2.2.2.2.2.2.2.2.2.2.2.2.2.1
abbrev u25 {a b c d e f g h i j k l m n o p q t u v w x y z a0 r s:Type} (x:a×b×c×d×e×f×g×h×i×j×k×l×m×n×o×p×q×t×u×v×w×x×y×z×a0×r×s):=x.2.2.2.2.2.2.2.2.2.2.2.2.2.2.2.2.2.2.2.2.2.2.2.2.2.1
abbrev u26 {a b c d e f g h i j k l m n o p q t u v w x y z a0 a1 r s:Type} (x:a×b×c×d×e×f×g×h×i×j×k×l×m×n×o×p×q×t×u×v×w×x×y×z×a0×a1×r×s):=x.2.2.2.2.2.2.2.2.2.2.2.2.2.2.2.2.2.2.2.2.2.2.2.2.2.2.1
abbrev u27 {a b c d e f g h i j k l m n o p q t u v w x y z a0 a1 a2 r s:Type} (x:a×b×c×d×e×f×g×h×i×j×k×l×m×n×o×p×q×t×u×v×w×x×y×z×a0×a1×a2×r×s):=x.2.2.2.2.2.2.2.2.2.2.2.2.2.2.2.2.2.2.2.2.2.2.2.2.2.2.2.1
abbrev u28 {a b c d e f g h i j k l m n o p q t u v w x y z a0 a1 a2 a3 r s:Type} (x:a×b×c×d×e×f×g×h×i×j×k×l×m×n×o×p×q×t×u×v×w×x×y×z×a0×a1×a2×a3×r×s):=x.2.2.2.2.2.2.2.2.2.2.2.2.2.2.2.2.2.2.2.2.2.2.2.2.2.2.2.2.1
abbrev v29 {a b c d e f g h i j k l m n o p q t u v w x y z a0 a1 a2 a3 a4 s:Type} (x:a×b×c×d×e×f×g×h×i×j×k×l×m×n×o×p×q×t×u×v×w×x×y×z×a0×a1×a2×a3×a4×s):=x.2.2.2.2.2.2.2.2.2.2.2.2.2.2.2.2.2.2.2.2.2.2.2.2.2.2.2.2.2
abbrev u29 {a b c d e f g h i j k l m n o p q t u v w x y z a0 a1 a2 a3 a4 r s:Type} (x:a×b×c×d×e×f×g×h×i×j×k×l×m×n×o×p×q×t×u×v×w×x×y×z×a0×a1×a2×a3×a4×r×s):=x.2.2.2.2.2.2.2.2.2.2.2.2.2.2.2.2.2.2.2.2.2.2.2.2.2.2.2.2.2.1
abbrev v30 {a b c d e f g h i j k l m n o p q t u v w x y z a0 a1 a2 a3 a4 a5 s:Type} (x:a×b×c×d×e×f×g×h×i×j×k×l×m×n×o×p×q×t×u×v×w×x×y×z×a0×a1×a2×a3×a4×a5×s):=x.2.2.2.2.2.2.2.2.2.2.2.2.2.2.2.2.2.2.2.2.2.2.2.2.2.2.2.2.2.2
end Prod
namespace Nore
noncomputable section
abbrev tqR:Type:=Int×Int×(List Int)
abbrev tqQ:Type:=Int×(List Y2)×Int
abbrev tqP:Type:=Int×Int×(List Int)×Int
abbrev tqO:Type:=(List Zr)×Int×CoRecord
abbrev tqN:Type:=Int×(List Zq)×Int×Int
abbrev tqM:Type:=Int×(List ByteArray)×CoRecord
abbrev tqL:Type:=Int×ByteArray×ByteArray×Nat
abbrev tqK:Type:=ByteArray×Int×(List ByteArray)
abbrev tqJ:Type:=Int×(List Int)×Int×Int×Int
abbrev tqI:Type:=Int×Int×(List Y2)×Int×Int
abbrev tqH:Type:=(List Int)×Int×Int×Int×Unit
abbrev tqG:Type:=Int×(List Zr)×Int×CoRecord
abbrev tqF:Type:=Int×(List Zq)×Int×CoRecord
abbrev tqE:Type:=Int×(List Zm)×Int×CoRecord
abbrev tqD:Type:=Int×(List Zm)×Int×Zm
abbrev tqC:Type:=Int×Int×(List ByteArray)×CoRecord
abbrev tqB:Type:=Int×(List Int)×Int×Int×Int×CoRecord
abbrev tqA:Type:=Int×(List Int)×(List Int)×(List Int)×Int
abbrev tqz:Type:=Int×Int×Za×CoRecord×(List Int)
abbrev tqy:Type:=Int×(List Zr)×Int×Bool×(List Int)×CoRecord
abbrev tqx:Type:=Int×Int×Int×Int×Zc×(List (Int×Int))
abbrev tqw:Type:=Int×(List Int)×Za×(List Zr)×CoRecord
abbrev tqv:Type:=Int×Int×Int×Int×(List Int)×Za×CoRecord
abbrev tqu:Type:=(List Y2)×Int×(List Zr)×Int×(Nat->Int)×CoRecord×Y2
abbrev tqt:Type:=Int×Int×Int×Int×Int×(List Int)×Bool×(Nat->Int)×CoRecord
abbrev tqs:Type:=Int×Int×(List Zb)×(Nat->Y2)×Zc×(Nat->Y2)
abbrev tqr:Type:=Int×Int×Int×Int×Int×(List Int)×Bool×(Nat->Int)×CoRecord×Y2
abbrev tqq:Type:=Int×Int×Int×(List Zb)×(Nat->Y2)×Zc×(Nat->Y2)
abbrev tqp:Type:=Int×(List Zq)×Int×Zc×Zc×(Nat->Y2)×Bool×Zc
abbrev tqo:Type:=((Nat->Y2)×Int×(List Zb)×Zc×Bool×Zc×Zc)
abbrev tqn:Type:=Zb×Zc×Bool×Bool×Zc×Zb×Zc×Zq
abbrev tqm:Type:=(List Zb)×Int×Int×Int×Int×(List Zb)×(Nat->Y2)×Zc×(Nat->Y2)
abbrev tql:Type:=Zb×Zc×Bool×(Nat->Y2)×Bool×Zc×Zb×Zc×Zq
abbrev tqk:Type:=(Bool×Zc×(Nat->Y2)×Zc×Int×Bool×(List Zr)×Int×CoRecord×Bool×CoRecord)
abbrev tqj:Type:=Int×Int×(List Zr)×(List Zr)×Int×Int×Int×Bool×(List Zr)×CoRecord×(List Int)×(List Int)
abbrev tqi:Type:=Zc×(Nat->Y2)×Zc×(Nat->Y2)×Int×Bool×(List Zr)×Int×CoRecord×Bool×CoRecord
abbrev tqh:Type:=Int×Int×Int×Int×Int×Int×(List Zb)×(List Zb)×(Nat->Y2)×Zc×(Nat->Y2)
abbrev tqg:Type:=((Bool×Zc×Bool×Zc×Zc)⊕(Bool×Zc×Bool×Zc×Zc))
abbrev tqf:Type:=Int×Int×Zc×(Nat->Y2)×Zc×(Nat->Y2)×Int×Bool×(List Zr)×Int×CoRecord×Bool×CoRecord
abbrev tqe:Type:=Zb×Zc×Bool×Bool×Zc×Zb×(List Zb)×(List Zb)×Zc×Zq
abbrev tqd:Type:=Int×(List Zq)×Int×(Nat->Y2)×(Nat->Y2)×Zc×Int×Bool×(List Zr)×Int×CoRecord×Zc×Bool×CoRecord
abbrev tqc:Type:=((Nat->Y2)×Int×(List Zb)×Zc×(Nat->Y2)×Zc×Int×Bool×(List Zr)×Int×CoRecord×Bool×CoRecord)
abbrev tqb:Type:=(List Zb)×Zb×Zc×Bool×(Nat->Y2)×Bool×Zc×Zb×(List Zb)×Zc×Zq
abbrev tqa:Type:=Zb×Zc×(List Zb)×Bool×(Nat->Y2)×Bool×Zc×Zb×Zc×Zq×(List Zb)
abbrev tq9:Type:=Zb×Zc×Bool×(Nat->Y2)×Bool×Zc×(List Zb)×Zb×Zc×Zq×(List Zb)
abbrev tq8:Type:=Zb×Zc×(Nat->Y2)×(Nat->Y2)×Bool×Zc×Zb×Int×Bool×(List Zr)×Int×CoRecord×Bool×Zq×CoRecord
abbrev tq7:Type:=Int×Int×Int×(Nat->Y2)×Zb×Zc×Bool×(Nat->Y2)×Bool×Int×Zc×(List Zq)×(List Zq)×Zr×(List Zb)×Zc×Zc×Int×Int×Bool×(Nat->Y2)×Bool×Int×Bool
abbrev tq6:Type:=(Nat->Y2)×Zb×Zc×Bool×(Nat->Y2)×(Nat->Y2)×Bool×Int×Zc×(List Zq)×Zb×(List Zq)×Zr×(List Zb)×Zc×Zc×Zq×Int×Int×Bool×(Nat->Y2)×Bool×Int×Bool
abbrev tq5:Type:=Int×Int×Int×(Nat->Y2)×Zb×Zc×Bool×(Nat->Y2)×Bool×Int×Zc×(List Zq)×(List Zq)×Zr×(List Zb)×Zc×Zc×Int×Int×Bool×(Nat->Y2)×Bool×Int×Bool×(List Zb)
abbrev tq4:Type:=(Nat->Y2)×Zb×Zc×Bool×(Nat->Y2)×(Nat->Y2)×Bool×Int×Zc×(List Zq)×Zb×(List Zq)×Zr×(List Zb)×Zc×Zc×Zq×Int×Int×Bool×(Nat->Y2)×Bool×Int×Bool×(List Zb)
abbrev tq3:Type:=Int×Int×Int×Zc×(List Zq)×(Nat->Y2)×(Nat->Y2)×Bool×Int×Zc×(Nat->Y2)×Zb×Int×Bool×(List Zr)×Int×CoRecord×Bool×(Nat->Y2)×Bool×Int×Bool×Int×Bool×Int×CoRecord×(List Zq)×Zr×(List Zb)×Zc
abbrev tq2:Type:=Zb×Zc×(List Zq)×(Nat->Y2)×(Nat->Y2)×(Nat->Y2)×Bool×Int×Zc×(Nat->Y2)×Zb×Int×Bool×(List Zr)×Int×CoRecord×Bool×(Nat->Y2)×Bool×Int×Bool×Int×Bool×Zq×Int×CoRecord×(List Zq)×Zr×(List Zb)×Zc
abbrev tq1:Type:=Int×Int×Int×Zc×(List Zq)×(Nat->Y2)×(Nat->Y2)×Bool×Int×Zc×(Nat->Y2)×Zb×Int×Bool×(List Zr)×Int×CoRecord×Bool×(Nat->Y2)×Bool×Int×Bool×(List Zb)×Int×Bool×Int×CoRecord×(List Zq)×Zr×(List Zb)×Zc
abbrev tq0:Type:=Zb×Zc×(List Zq)×(Nat->Y2)×(Nat->Y2)×(Nat->Y2)×Bool×Int×Zc×(Nat->Y2)×Zb×Int×Bool×(List Zr)×Int×CoRecord×Bool×(Nat->Y2)×Bool×Int×Bool×(List Zb)×Int×Bool×Zq×Int×CoRecord×(List Zq)×Zr×(List Zb)×Zc
abbrev vJ:Option (TV S):=some (.bool false)
abbrev vI:Option (TV S):=some (.int .i64 0)
abbrev vH:Option (TV S):=some (.sl (.st 28) [])
abbrev vG:Option (TV S):=some (.sl (.st 21) [])
abbrev vF:Option (TV S):=some (.sl (.st 19) [])
abbrev oE:Option (Zo S):=some (.row 9 .str [] 1 0)
abbrev vD:Option (TV S):=some (.sl (.int .i64) [])
abbrev vC:Option (TV S):=some (.str ByteArray.empty)
abbrev oB:Option (Zo S):=some (.cells 141 [(.yld 5)])
abbrev oA:Option (Zo S):=some (.cells 141 [(.yld 3)])
abbrev oz:Option (Zo S):=some (.row 30 (.st 21) [] 0 0)
abbrev oy:Option (Zo S):=some (.row 30 (.st 21) [] 1 0)
abbrev ox:Option (Zo S):=some (.row 49 (.st 19) [] 1 0)
abbrev ow:Option (Zo S):=some (.row 150 (.st 28) [] 0 0)
abbrev ov:Option (Zo S):=some (.row 150 (.st 28) [] 1 1)
abbrev ou:Option (Zo S):=some (.cells 4 [(.bool false)])
abbrev ot:Option (Zo S):=some (.siter ByteArray.empty 0)
abbrev os:Option (Zo S):=some (.cells 3 [(.int .i64 0)])
abbrev or:Option (Zo S):=some (.row 3 (.int .i64) [] 1 0)
abbrev oq:Option (Zo S):=some (.cells 143 [(.sl (.st 28) [])])
abbrev op:Option (Zo S):=some (.cells 28 [(.stc 5 (T.dflt 5))])
abbrev oo:Option (Zo S):=some (.cells 60 [(.stc 24 (T.dflt 24))])
abbrev on:Option (Zo S):=some (.cells 78 [(.stc 25 (T.dflt 25))])
abbrev om:Option (Zo S):=some (.cells 30 [(.stc 21 (T.dflt 21))])
abbrev ol:Option (Zo S):=some (.cells 49 [(.stc 19 (T.dflt 19))])
abbrev ok:Option (Zo S):=some (.cells 69 [(.stc 18 (T.dflt 18))])
abbrev oj:Option (Zo S):=some (.cells 25 [(.stc 20 (T.dflt 20))])
abbrev oi:Option (Zo S):=some (.cells 150 [(.stc 28 (T.dflt 28))])
abbrev vh:Option (TV S):=some (.tup [(.int .i64 0),(.int .i64 0)])
abbrev vg:Option (TV S):=some (.agg [(.arr (.st 5) 10 (fun _=>tdf T (.st 5)))])
abbrev of:Option (Zo S):=some (.cells 104 [(.arr (.st 5) 10 (fun _=>tdf T (.st 5)))])
abbrev ve:Option (TV S):=some (.fn (.func 121) [] [(.ptr 42 0),(.ptr 43 0),(.ptr 44 0)])
abbrev vd:Option (TV S):=some (.fn (.func 121) [] [(.ptr 40 0),(.ptr 41 0),(.ptr 42 0)])
abbrev oc:Option (Zo S):=some (.cells 73 [(.arr (.int .u16) 4 (fun _=>tdf T (.int .u16)))])
abbrev ob:Option (Zo S):=some (.cells 142 [(.fn (.func 82) [] [(.ptr 7 0),(.ptr 6 0),(.ptr 0 0)])])
abbrev oa:Option (Zo S):=some (.cells 142 [(.fn (.func 82) [] [(.ptr 5 0),(.ptr 4 0),(.ptr 0 0)])])
abbrev o9:Option (Zo S):=some (.loop 39 (N (N L (some (.ptr 2 0)) L) (some (.agg [(.stc 25 (T.dflt 25))])) (N (N L (some (.fn (.func 81) [] [(.ptr 5 0)])) L) (some (.ptr 1 0)) L)) (5::[]) .skip .skip 0 .ret (0::(39::[])) (0::(1::(0::(1::[])))))
abbrev o8:Option (Zo S):=some (.loop 39 (N (N L (some (.ptr 2 0)) L) (some (.agg [(.stc 25 (T.dflt 25))])) (N (N L (some (.fn (.func 81) [] [(.ptr 1 0)])) L) (some (.ptr 0 0)) L)) (5::[]) .skip .skip 0 .normal (0::(39::[])) (0::(1::(0::(1::[])))))
abbrev o7:Option (Zo S):=some (.loop 39 (N (N L (some (.ptr 2 0)) L) (some (.agg [(.stc 25 (T.dflt 25))])) (N (N L (some (.fn (.func 81) [] [(.ptr 5 0)])) L) (some (.ptr 1 0)) L)) (5::[]) .skip .skip 0 .normal (0::(39::[])) (0::(1::(0::(1::[])))))
abbrev o6:Option (Zo S):=some (.loop 21 (N (N (N (N L vI L) none (N (N L vJ L) none L)) vG (N (N L (some (.ptr 4 0)) L) vI L)) (some (.agg [(.stc 20 (T.dflt 20))])) (N (N (N L (some (.ptr 3 0)) L) (some .nils) L) (some (.ptr 2 0)) (N L (some (.ptr 1 0)) (N (N L (some (.fn (.func 81) [] [(.ptr 7 0)])) L) none L)))) (23::[]) .skip .skip 0 .busy (0::(21::[])) (0::(1::(0::(1::(1::(1::(1::(1::[])))))))))
abbrev o5:Option (Zo S):=some (.loop 21 (N (N (N (N L vI L) none (N (N L vJ L) none L)) vG (N (N L (some (.ptr 4 0)) L) vI L)) (some (.agg [(.stc 20 (T.dflt 20))])) (N (N (N L (some (.ptr 3 0)) L) (some .nils) L) (some (.ptr 2 0)) (N L (some (.ptr 1 0)) (N (N L (some (.fn (.func 81) [] [(.ptr 0 0)])) L) none L)))) (23::[]) .skip .skip 0 .normal (0::(21::[])) (0::(1::(0::(1::(1::(1::(1::(1::[])))))))))
abbrev o4:Option (Zo S):=some (.loop 21 (N (N (N (N L vI L) none (N (N L vJ L) none L)) vG (N (N L (some (.ptr 4 0)) L) vI L)) (some (.agg [(.stc 20 (T.dflt 20))])) (N (N (N L (some (.ptr 3 0)) L) (some .nils) L) (some (.ptr 2 0)) (N L (some (.ptr 1 0)) (N (N L (some (.fn (.func 81) [] [(.ptr 7 0)])) L) none L)))) (23::[]) .skip .skip 0 .normal (0::(21::[])) (0::(1::(0::(1::(1::(1::(1::(1::[])))))))))
abbrev o3:Option (Zo S):=some (.loop 82 (N (N (N (N L (some (.ptr 7 0)) L) (some (.ptr 5 0)) (N L vJ (N (N L vd L) none L))) vg (N (N L (some (.ptr 9 0)) L) (some (.ptr 0 0)) (N L none (N L vJ L)))) vI (N (N (N L (some (.ptr 8 0)) (N L vJ L)) (some (.ptr 4 0)) (N L (some (.ptr 32 0)) L)) (some .sl0) (N (N L (some (.ptr 17 0)) L) (some (.ptr 6 0)) L))) (44::[]) .skip .skip 0 .ret (0::(82::[])) (0::(1::(0::(1::(1::(1::(1::(1::[])))))))))
abbrev o2:Option (Zo S):=some (.loop 82 (N (N (N (N L (some (.ptr 9 0)) L) (some (.ptr 7 0)) (N L vJ (N (N L ve L) none L))) vg (N (N L (some (.ptr 11 0)) L) (some (.ptr 0 0)) (N L none (N L vJ L)))) vI (N (N (N L (some (.ptr 10 0)) (N L vJ L)) (some (.ptr 6 0)) (N L (some (.ptr 34 0)) L)) (some .sl0) (N (N L (some (.ptr 19 0)) L) (some (.ptr 8 0)) L))) (44::[]) .skip .skip 0 .ret (0::(82::[])) (0::(1::(0::(1::(1::(1::(1::(1::[])))))))))
abbrev o1:Option (Zo S):=some (.loop 82 (N (N (N (N L (some (.ptr 7 0)) L) (some (.ptr 5 0)) (N L vJ (N (N L vd L) none L))) vg (N (N L (some (.ptr 9 0)) L) (some (.ptr 0 0)) (N L none (N L vJ L)))) vI (N (N (N L (some (.ptr 8 0)) (N L vJ L)) (some (.ptr 4 0)) (N L (some (.ptr 32 0)) L)) vH (N (N L (some (.ptr 17 0)) L) (some (.ptr 6 0)) L))) (44::[]) .skip .skip 0 .ret (0::(82::[])) (0::(1::(0::(1::(1::(1::(1::(1::[])))))))))
abbrev o0:Option (Zo S):=some (.loop 82 (N (N (N (N L (some (.ptr 9 0)) L) (some (.ptr 7 0)) (N L vJ (N (N L ve L) none L))) vg (N (N L (some (.ptr 11 0)) L) (some (.ptr 0 0)) (N L none (N L vJ L)))) vI (N (N (N L (some (.ptr 10 0)) (N L vJ L)) (some (.ptr 6 0)) (N L (some (.ptr 34 0)) L)) vH (N (N L (some (.ptr 19 0)) L) (some (.ptr 8 0)) L))) (44::[]) .skip .skip 0 .ret (0::(82::[])) (0::(1::(0::(1::(1::(1::(1::(1::[])))))))))
abbrev v1U:Tr (TV S):=N L none (N L none (N L vJ L))
abbrev o1T:Tr (Zo S):=N (N L none (N L or L)) none L
abbrev v1S:Tr (TV S):=N (N L none (N L vI L)) none L
abbrev o1R:Tr (Zo S):=N (N (N L or L) none L) none L
abbrev o1Q:Tr (Zo S):=N (N (N L ot L) none L) none L
abbrev v1P:Tr (TV S):=N L none (N (N L vI L) none L)
abbrev v1O:Tr (TV S):=N (N (N L vI L) none L) none L
abbrev v1N:Tr (TV S):=N (N L vI L) (some (.ptr 1 0)) L
abbrev o1M:Tr (Zo S):=N L none (N (N (N L ok L) ok L) none L)
abbrev v1L:Tr (TV S):=N (N (N L vI L) none L) none (N (N L vI L) vI L)
abbrev o1K:Tr (Zo S):=N (N L none (N (N (N L oE L) none L) none L)) oj L
abbrev v1J:Tr (TV S):=N (N L none (N L vI L)) none (N (N L vI L) none L)
abbrev v1I:Tr (TV S):=N (N (N L vI L) none L) (some (.ptr 0 0)) (N L vI L)
abbrev o1H:Tr (Zo S):=N (N L none (N (N L none (N L ok L)) none L)) none L
abbrev o1G:Tr (Zo S):=N L none (N L none (N (N (N L ok L) none L) none L))
abbrev o1F:Tr (Zo S):=N (N (N L of L) on (N L o5 L)) on (N (N L ou L) oj L)
abbrev o1E:Tr (Zo S):=N (N (N L o8 L) on (N L of L)) ou (N (N L oA L) on L)
abbrev o1D:Tr (Zo S):=N (N (N L o9 L) ou (N L on L)) oa (N (N L oA L) on L)
abbrev o1C:Tr (Zo S):=N (N (N L o7 L) ou (N L on L)) oa (N (N L oA L) on L)
abbrev o1B:Tr (Zo S):=N L on (N L (some (.map (.int .i64) (.int .i64) [])) L)
abbrev v1A:Tr (TV S):=N (N L (some (.ptr 7 0)) L) vg (N L (some (.ptr 0 0)) L)
abbrev v1z:Tr (TV S):=N (N L (some (.ptr 5 0)) L) vg (N L (some (.ptr 0 0)) L)
abbrev o1y:Tr (Zo S):=N (N (N (N (N L ox L) om L) none L) oq (N (N L on L) none L)) oB L
abbrev o1x:Tr (Zo S):=N (N L oc L) oj (N (N L none (N L none (N (N L op L) none L))) none L)
abbrev o1w:Tr (Zo S):=N L none (N (N (N L ol L) os L) none (N (N (N L ow L) none L) none L))
abbrev o1v:Tr (Zo S):=N (N (N (N L of L) of L) on (N L o5 L)) on (N (N L ou L) oj (N L oB L))
abbrev o1u:Tr (Zo S):=N (N (N (N L on L) of L) on (N L o4 L)) ob (N (N L ou L) oj (N L oB L))
abbrev o1t:Tr (Zo S):=N (N (N (N (N (N L ov L) ox L) om L) none L) oq (N (N L on L) none L)) oB L
abbrev o1s:Tr (Zo S):=N (N (N L none (N L o2 L)) os L) ou (N L none (N (N (N L ol L) os L) none L))
abbrev o1r:Tr (Zo S):=N (N (N L none (N L o0 L)) os L) ou (N L none (N (N (N L ol L) os L) none L))
abbrev v1q:Tr (TV S):=N L none (N (N (N L vI L) (some (.ptr 1 0)) (N L vI L)) vH (N L (some (.ptr 2 0)) L))
abbrev o1p:Tr (Zo S):=N (N (N (N L on L) of L) on (N (N (N (N L of L) none L) none L) o6 L)) none (N (N L ou L) oj L)
abbrev o1o:Tr (Zo S):=N (N (N (N (N L ox L) om L) none L) oq (N (N L on L) none L)) oB (N L none (N (N (N (N L ow L) none L) none L) none L))
abbrev o1n:Tr (Zo S):=N (N (N L none (N L none (N L oy L))) none L) oj (N (N L none (N L none (N L or L))) none o1T)
abbrev v1m:Tr (TV S):=N (N v1P none L) none (N (N (N L vI L) (some (.ptr 1 0)) (N (N L vI L) none L)) vH (N L (some (.ptr 2 0)) L))
abbrev v1l:Tr (TV S):=N (N L none (N L none (N L none (N L vI L)))) none (N (N (N L (some (.ptr 3 0)) L) none L) none (N (N L (some (.ptr 33 0)) L) none (N L none (N L vI L))))
abbrev o1k:Tr (Zo S):=N (N (N (N (N (N (N L ov L) ox L) om L) none L) oq (N (N L on L) none L)) oA L) on (N (N L none (N (N (N L ol L) os L) none L)) os (N L none (N (N L o3 L) none L)))
abbrev o1j:Tr (Zo S):=N (N (N (N (N (N (N L ov L) ox L) om L) none L) oq (N (N L on L) none L)) oA L) on (N (N L none (N (N (N L ol L) os L) none L)) os (N L none (N (N L o1 L) none L)))
abbrev o1i:Tr (Zo S):=N (N (N (N (N (N L ox L) om L) none L) oq (N (N L on L) none L)) oA L) on (N (N L none (N (N (N L ol L) os L) none L)) os (N L none (N (N (N (N L ov L) none L) o3 L) none L)))
abbrev o1h:Tr (Zo S):=N (N (N (N (N (N L ox L) om L) none L) oq (N (N L on L) none L)) oA L) on (N (N L none (N (N (N L ol L) os L) none L)) os (N L none (N (N (N (N L ov L) none L) o1 L) none L)))
abbrev v1g:Tr (TV S):=N (N v1J none v1P) none (N (N L none (N (N L vD L) none L)) none (N L none (N (N L vJ L) none L)))
abbrev o1f:Tr (Zo S):=N (N L none (N (N (N L (some (.row 9 .str [] 1 1)) L) none L) none L)) oj (N (N L none (N L none (N L ok L))) none (N L none (N (N (N L (some (.row 9 .str [] 0 0)) L) none L) none L)))
abbrev o1e:Tr (Zo S):=N (N (N (N (N (N L ox L) om L) none L) oq (N (N L on L) none L)) oA L) on (N o1w os (N L none (N (N L o3 L) none L)))
abbrev o1d:Tr (Zo S):=N (N (N (N (N (N L ox L) om L) none L) oq (N (N L on L) none L)) oA L) on (N o1w os (N L none (N (N L o1 L) none L)))
abbrev o1c:Tr (Zo S):=N (N (N (N (N L none (N (N L ov L) oi L)) none L) on (N (N (N L ox L) none L) none L)) of (N (N (N L none (N L of L)) of L) ou (N (N L os L) none L))) on (N (N L of (N L none (N L oi L))) o4 L)
abbrev o1b:Tr (Zo S):=N (N (N L of (N L none (N L oi L))) o9 L) ou (N (N (N (N L none (N L of L)) of L) ou (N (N L os L) none L)) on (N (N (N (N L ox L) none L) none L) none (N L none (N (N L oi L) none (N L ow L)))))
abbrev o1a:Tr (Zo S):=N (N (N L of (N L none (N L oi L))) o7 L) ou (N (N (N (N L none (N L of L)) of L) ou (N (N L os L) none L)) on (N (N (N (N L ox L) none L) none L) none (N L none (N (N L oi L) none (N L ow L)))))
abbrev o19:Tr (Zo S):=N (N (N L of (N L none (N L oi L))) o9 L) ou (N (N (N (N L none (N L of L)) of L) ou (N (N L os L) none L)) on (N (N (N (N L ox L) none L) none L) none (N L none (N (N (N L ov L) oi L) none L))))
abbrev o18:Tr (Zo S):=N (N (N L of (N L none (N L oi L))) o7 L) ou (N (N (N (N L none (N L of L)) of L) ou (N (N L os L) none L)) on (N (N (N (N L ox L) none L) none L) none (N L none (N (N (N L ov L) oi L) none L))))
abbrev v17:Tr (TV S):=N (N (N L (some (.ptr 44 0)) L) none (N (N L none (N L vI L)) (some (.ptr 57 0)) L)) (some (.yld 48)) (N (N (N L none (N L (some (.rs 71 0)) L)) none L) (some (.ptr 43 0)) (N (N L none (N L vI L)) vI L))
abbrev v16:Tr (TV S):=N (N (N L (some (.ptr 42 0)) L) none (N (N L none (N L vI L)) (some (.ptr 55 0)) L)) (some (.yld 46)) (N (N (N L none (N L (some (.rs 69 0)) L)) none L) (some (.ptr 41 0)) (N (N L none (N L vI L)) vI L))
abbrev o15:Tr (Zo S):=N (N (N (N (N (N (N L ow L) none L) none (N L oi L)) none L) on (N (N (N L ox L) none L) none L)) of (N (N (N L none (N L of L)) of L) ou (N (N L os L) none L))) on (N (N L of (N L none (N L oi L))) o4 L)
abbrev o14:Tr (Zo S):=N (N (N (N (N (N L ox L) om L) none L) oq (N (N L on L) none L)) oA (N L none (N (N (N (N L ow L) none L) none L) none L))) on (N (N L none (N (N (N L ol L) os L) none L)) os (N L none (N (N L o3 L) none L)))
abbrev o13:Tr (Zo S):=N (N (N (N (N (N L ox L) om L) none L) oq (N (N L on L) none L)) oA (N L none (N (N (N (N L ow L) none L) none L) none L))) on (N (N L none (N (N (N L ol L) os L) none L)) os (N L none (N (N L o1 L) none L)))
abbrev o12:Tr (Zo S):=N (N (N (N (N L none (N L oi L)) none L) on (N (N (N L ox L) none L) none L)) of (N (N (N L none (N L of L)) of L) ou (N (N L os L) none L))) on (N (N (N L none (N (N (N L ov L) none L) none L)) of (N L none (N L oi L))) o4 L)
abbrev o11:Tr (Zo S):=N (N (N (N L none (N (N (N L ov L) none L) none L)) of (N L none (N L oi L))) o9 L) ou (N (N (N (N L none (N L of L)) of L) ou (N (N L os L) none L)) on (N (N (N (N L ox L) none L) none L) none (N L none (N (N L oi L) none L))))
abbrev o10:Tr (Zo S):=N (N (N (N L none (N (N (N L ov L) none L) none L)) of (N L none (N L oi L))) o7 L) ou (N (N (N (N L none (N L of L)) of L) ou (N (N L os L) none L)) on (N (N (N (N L ox L) none L) none L) none (N L none (N (N L oi L) none L))))
abbrev vZ:Tr (TV S):=N (N (N (N L none (N L vI L)) (some (.ptr 0 0)) (N (N L vI L) none L)) none (N (N (N L vI L) none L) none (N (N L vI L) none L))) none (N (N (N L none (N L vI L)) none (N (N L vD L) none L)) none (N L none (N (N L vJ L) none L)))
abbrev vY:Tr (TV S):=N (N (N (N L none (N L none (N (N L vH L) none L))) none L) none (N (N L none v1P) none L)) none (N (N (N L vI v1P) (some (.ptr 1 0)) (N L vI L)) vH (N L (some (.ptr 2 0)) L))
abbrev oX:Tr (Zo S):=N (N (N (N (N L none (N L oi L)) none L) on (N (N (N L ox L) none L) none L)) of (N (N (N L none (N L of L)) of L) ou (N (N L os L) none L))) on (N (N L of (N L none (N L oi L))) o4 (N L none (N (N (N (N L ow L) none L) none L) none L)))
abbrev oW:Tr (Zo S):=N (N (N L of (N L none (N L oi L))) o9 (N L none (N (N (N (N L ow L) none L) none L) none L))) ou (N (N (N (N L none (N L of L)) of L) ou (N (N L os L) none L)) on (N (N (N (N L ox L) none L) none L) none (N L none (N (N L oi L) none L))))
abbrev oV:Tr (Zo S):=N (N (N L of (N L none (N L oi L))) o7 (N L none (N (N (N (N L ow L) none L) none L) none L))) ou (N (N (N (N L none (N L of L)) of L) ou (N (N L os L) none L)) on (N (N (N (N L ox L) none L) none L) none (N L none (N (N L oi L) none L))))
abbrev vU:Tr (TV S):=N (N (N v1P none (N (N L vI L) none L)) none (N (N L vI L) none L)) none (N (N (N L vI (N (N L vI L) none L)) (some (.ptr 1 0)) (N (N L vI L) none L)) vH (N L (some (.ptr 2 0)) (N (N (N L vH L) none L) none L)))
abbrev oT:Tr (Zo S):=N (N (N (N (N (N L none (N L oi L)) none L) on (N (N (N L ox L) none L) none L)) of (N (N (N L none (N L of L)) of L) ou (N (N L os L) none L))) on (N (N L of (N L none (N L oi L))) o4 L)) ob (N o1s oj o1y)
abbrev oS:Tr (Zo S):=N (N (N (N (N (N L none (N L oi L)) none L) on (N (N (N L ox L) none L) none L)) of (N (N (N L none (N L of L)) of L) ou (N (N L os L) none L))) on (N (N L of (N L none (N L oi L))) o4 L)) ob (N o1r oj o1y)
abbrev oR:Tr (Zo S):=N (N (N (N L of (N L none (N L oi L))) o9 L) ou (N (N (N (N L none (N L of L)) of L) ou (N (N L os L) none L)) on (N (N (N (N L ox L) none L) none L) none (N L none (N (N L oi L) none L))))) oa (N (N (N (N (N (N L ox L) om L) none L) oq (N (N L on L) none L)) oA L) on (N (N L none (N (N (N L ol L) os L) none L)) os (N L none (N (N L o3 L) none L))))
abbrev oQ:Tr (Zo S):=N (N (N (N L of (N L none (N L oi L))) o7 L) ou (N (N (N (N L none (N L of L)) of L) ou (N (N L os L) none L)) on (N (N (N (N L ox L) none L) none L) none (N L none (N (N L oi L) none L))))) oa (N (N (N (N (N (N L ox L) om L) none L) oq (N (N L on L) none L)) oA L) on (N (N L none (N (N (N L ol L) os L) none L)) os (N L none (N (N L o3 L) none L))))
abbrev oP:Tr (Zo S):=N (N (N (N L of (N L none (N L oi L))) o9 L) ou (N (N (N (N L none (N L of L)) of L) ou (N (N L os L) none L)) on (N (N (N (N L ox L) none L) none L) none (N L none (N (N L oi L) none L))))) oa (N (N (N (N (N (N L ox L) om L) none L) oq (N (N L on L) none L)) oA L) on (N (N L none (N (N (N L ol L) os L) none L)) os (N L none (N (N L o1 L) none L))))
abbrev oO:Tr (Zo S):=N (N (N (N L of (N L none (N L oi L))) o7 L) ou (N (N (N (N L none (N L of L)) of L) ou (N (N L os L) none L)) on (N (N (N (N L ox L) none L) none L) none (N L none (N (N L oi L) none L))))) oa (N (N (N (N (N (N L ox L) om L) none L) oq (N (N L on L) none L)) oA L) on (N (N L none (N (N (N L ol L) os L) none L)) os (N L none (N (N L o1 L) none L))))
abbrev oN:Tr (Zo S):=N (N (N (N L on (N (N (N L ox L) none L) none L)) of (N (N L of L) ou (N (N L os L) none L))) on (N (N L of (N L none (N L oi L))) o4 L)) ob (N (N (N (N L none (N L (some (.loop 82 (N (N (N (N L (some (.ptr 9 0)) L) (some (.ptr 7 0)) (N L vJ (N (N L ve L) none L))) vg (N (N L (some (.ptr 11 0)) L) (some (.ptr 0 0)) (N L none (N L vJ L)))) vI (N (N (N L (some (.ptr 10 0)) (N L vJ L)) (some (.ptr 6 0)) (N L (some (.ptr 34 0)) L)) vH (N (N L (some (.ptr 19 0)) L) (some (.ptr 8 0)) L))) (44::[]) .skip .skip 0 .normal (0::(82::[])) (0::(1::(0::(1::(1::(1::(1::(1::[])))))))))) L)) os L) ou (N L none (N (N L os L) none L))) oj o1y)
abbrev oM:Tr (Zo S):=N (N (N (N L of (N L none (N L oi L))) o7 L) ou (N (N (N L of L) ou (N (N L os L) none L)) on (N (N (N (N L ox L) none L) none L) none L))) oa (N (N (N (N (N (N L ox L) om L) none L) oq (N (N L on L) none L)) oA L) on (N (N L none (N (N L os L) none L)) os (N L none (N (N L (some (.loop 82 (N (N (N (N L (some (.ptr 7 0)) L) (some (.ptr 5 0)) (N L vJ (N (N L vd L) none L))) vg (N (N L (some (.ptr 9 0)) L) (some (.ptr 0 0)) (N L none (N L vJ L)))) vI (N (N (N L (some (.ptr 8 0)) (N L vJ L)) (some (.ptr 4 0)) (N L (some (.ptr 32 0)) L)) vH (N (N L (some (.ptr 17 0)) L) (some (.ptr 6 0)) L))) (44::[]) .skip .skip 0 .normal (0::(82::[])) (0::(1::(0::(1::(1::(1::(1::(1::[])))))))))) L) none L))))
abbrev oL:Tr (Zo S):=N (N (N (N L on (N (N (N L ox L) none L) none L)) of (N (N L of L) ou (N (N L os L) none L))) on (N (N L of (N L none (N L oi L))) o4 L)) ob (N (N (N (N L none (N L (some (.loop 82 (N (N (N (N L (some (.ptr 9 0)) L) (some (.ptr 7 0)) (N L vJ (N (N L ve L) none L))) vg (N (N L (some (.ptr 11 0)) L) (some (.ptr 0 0)) (N L none (N L vJ L)))) vI (N (N (N L (some (.ptr 10 0)) (N L vJ L)) (some (.ptr 6 0)) (N L (some (.ptr 34 0)) L)) (some .sl0) (N (N L (some (.ptr 19 0)) L) (some (.ptr 8 0)) L))) (44::[]) .skip .skip 0 .normal (0::(82::[])) (0::(1::(0::(1::(1::(1::(1::(1::[])))))))))) L)) os L) ou (N L none (N (N L os L) none L))) oj o1y)
abbrev oK:Tr (Zo S):=N (N (N (N L of (N L none (N L oi L))) o7 L) ou (N (N (N L of L) ou (N (N L os L) none L)) on (N (N (N (N L ox L) none L) none L) none L))) oa (N (N (N (N (N (N L ox L) om L) none L) oq (N (N L on L) none L)) oA L) on (N (N L none (N (N L os L) none L)) os (N L none (N (N L (some (.loop 82 (N (N (N (N L (some (.ptr 7 0)) L) (some (.ptr 5 0)) (N L vJ (N (N L vd L) none L))) vg (N (N L (some (.ptr 9 0)) L) (some (.ptr 0 0)) (N L none (N L vJ L)))) vI (N (N (N L (some (.ptr 8 0)) (N L vJ L)) (some (.ptr 4 0)) (N L (some (.ptr 32 0)) L)) (some .sl0) (N (N L (some (.ptr 17 0)) L) (some (.ptr 6 0)) L))) (44::[]) .skip .skip 0 .normal (0::(82::[])) (0::(1::(0::(1::(1::(1::(1::(1::[])))))))))) L) none L))))
def q0 {R:Type}:Prs S R:=Zk4
theorem q1 {R:Type}:Z8k X (q0 (R:=R)):=Zk5 X
def q2:List (Nat×F7 S):=[]
theorem q3:Z95 X (q2):=trivial
abbrev q4 {R:Type}:Z21 S R:=Zj1
theorem q5 {R:Type}:Z2e X (q4 (R:=R)):=ZjC X
def q6:Key:=⟨[115,2,1,77,2,1,51],115,none,[0,0,1,0,1],0,17⟩
def q7:StT S:=⟨(N (N (N (N L vI L) none L) (some (.fn (.func 78) [] [(.ptr 0 0),(.ptr 1 0)])) L) vD v1O),(N (N L os L) os L),17⟩
def q8:Way S:=⟨.ret,⟨v1P,(N (N L os L) os L),38⟩,[.int,.int,.int]⟩
def q9:Way S:=⟨(.exit 0),⟨L,(N (N L os L) os L),18⟩,[.int,.int]⟩
def qa:LE S:=⟨q6,q7,[.int,(.lst (.int .i64)),.int,.int,.int],[q8,q9]⟩
def qb {T:Type} (x:tqJ) (k:((Int×Int×Int)⊕(Int×Int))->T):(Int⊕Unit)->T:=Sum.elim (fun y0=>k (.inl (y0,x.u3,x.v4))) (fun y1=>k (.inr (x.u3,x.v4)))
def qc (x:tqJ) (v:Int):tqJ:=(x.1,x.2.1,v,x.u3,x.v4)
theorem qd (x:tqJ):LE.step X qa q2 q0 q4 12 x=WX x.1 x.2.1 x.u3 x.v4 x.u2 (fun w=>Sum.inl (qc x w)) (fun o=>Sum.inr (qb x id o)):=by kernel_rfl
def qe {R:Type}:Z21 S R:=LE.ls X qa (fun x k=>(X46 x.1 x.2.1 x.u3 x.v4 x.u2).bind (qb x k)) q4
theorem qf {R:Type}:Z2e X (qe (R:=R)):=Zke xok q3 (e:=qa) q1 q5 (st:=fun(x:tqJ)=>WN x.1 x.2.1 x.u3 x.v4) (prj:=fun(x:tqJ)=>x.u2) (emb:=qc) qb (fun x=>(qd x).trans (by unfold WN WX;simp only[Zk2,ZjT,Zk3,Option.map_some,Option.map_none];rfl)) q5
theorem qg (x0 x1:Int) (x2:List Int):Zkg X q2 [(.int .i64),(.int .i64),(.sl (.int .i64))] [.bool] q0 qe 12 51 (x0,x1,x2,())=X1M x0 x1 x2:=by kernel_rfl
def qh:F7 S:=⟨[(.int .i64),(.int .i64),(.sl (.int .i64))],[.bool],fun xs=>XW xs.1 xs.2.1 xs.u2⟩
theorem qi:Zav X 51 qh:=Zkd (Zkc xok q3 q1 qf 12 51) fun xs _ h=>((qg xs.1 xs.2.1 xs.u2).trans (X4W xs.1 xs.2.1 xs.u2).symm).trans h
def qn:Key:=⟨[98],98,none,[0,0,1,0,1,1],0,4⟩
def qo:StT S:=⟨(N (N (N (N L (some (.iter 3)) L) (some (.int .i32 0)) L) none L) vC L),o1Q,4⟩
def qp:Way S:=⟨.ret,⟨(N L none (N L vJ L)),o1Q,23⟩,[.bool,.str,.nat]⟩
def qq:Way S:=⟨(.exit 0),⟨(N (N (N L (some (.int .i32 0)) L) none L) vC L),o1Q,6⟩,[.int,.str,.str,.nat]⟩
def qr:LE S:=⟨qn,qo,[.int,.str,.str,.nat],[qp,qq]⟩
def qs {T:Type} (x:tqL) (k:((Bool×ByteArray×Nat)⊕tqL)->T):((Bool×Nat)⊕(Int×Nat))->T:=Sum.elim (fun y0=>k (.inl (y0.1,x.u2,y0.2))) (fun y1=>k (.inr (y1.1,x.2.1,x.u2,y1.2)))
def qt (x:tqL) (v:(Int×Nat)):tqL:=(v.1,x.2.1,x.u2,v.2)
theorem qu (x:tqL):LE.step X qr q2 q0 q4 12 x=X1t x.2.1 x.u2 x.1 x.v3 (fun w=>Sum.inl (qt x w)) (fun o=>Sum.inr (qs x id o)):=by kernel_rfl
def qv {R:Type}:Z21 S R:=LE.ls X qr (fun x k=>(X4G x.2.1 x.u2 (x.1,x.v3)).bind (qs x k)) q4
theorem qw {R:Type}:Z2e X (qv (R:=R)):=Zke xok q3 (e:=qr) q1 q5 (st:=fun(x:tqL)=>X1q x.2.1 x.u2) (prj:=fun(x:tqL)=>(x.1,x.v3)) (emb:=qt) qs (fun x=>(qu x).trans (by unfold X1q X1t;simp only[Zk2,ZjT,Zk3,Option.map_some,Option.map_none];rfl)) q5
theorem qx (x0:ByteArray):Zkg X q2 [.str] [.bool] q0 qv 12 98 (x0,())=X56 x0:=by kernel_rfl
def qy:F7 S:=⟨[.str],[.bool],fun xs=>X56 xs.1⟩
theorem qz:Zav X 98 qy:=Zkd (Zkc xok q3 q1 qw 12 98) fun xs _ h=>(qx xs.1).trans h
def qA:List (Nat×F7 S):=[(51,qh)]
theorem qB:Z95 X (qA):=⟨qi,trivial⟩
theorem qE (x0:CoRecord) (x1:Zr):Zkg X qA [(.st 20),(.st 21)] [(.int .i64)] q0 q4 12 57 (x0,x1,())=X2T x0 x1:=by kernel_rfl
def qF:F7 S:=⟨[(.st 20),(.st 21)],[(.int .i64)],fun xs=>X3Z xs.1 xs.2.1⟩
theorem qG:Zav X 57 qF:=Zkd (Zkc xok qB q1 q5 12 57) fun xs _ h=>((qE xs.1 xs.2.1).trans (X61 xs.1 xs.2.1).symm).trans h
def qH:StT S:=⟨(N (N L (some (.fn (.func 97) [] [(.ptr 0 0)])) L) (some (.sl (.st 18) [])) L),(N L oj L),1⟩
def qI:Way S:=⟨.ret,⟨(N L vh L),(N L oj L),1⟩,[.int,.int,(.st 20)]⟩
def qJ:PE S:=⟨96,2,qH,[(.lst (.st 18)),(.st 20)],[qI]⟩
def qK:List (Nat×F7 S):=[(51,qh),(98,qy),(57,qF)]
theorem qL:Z95 X qK:=⟨qi,qz,qG,trivial⟩
def qO:Key:=⟨[125,2,1,99,5,3,97,3,4,96],125,none,[0,0,1,0,1],0,42⟩
def qP:StT S:=⟨(N (N (N (N L vI L) none L) (some (.fn (.func 100) [] [(.ptr 18 0)])) L) (some (.sl (.st 18) [])) v1O),o1G,42⟩
def qQ:Way S:=⟨.ret,⟨v1P,(N o1H none (N L none (N (N (N L ok L) none L) none L))),61⟩,[.int,(.st 18),(.st 18)]⟩
def qR:Way S:=⟨(.exit 0),⟨L,o1G,43⟩,[(.st 18)]⟩
def qS:LE S:=⟨qO,qP,[.int,(.lst (.st 18)),.int,(.st 18)],[qQ,qR]⟩
def qT {T:Type} (x:tqD) (k:((Int×Zm×Zm)⊕Zm)->T):((Int×Zm)⊕Unit)->T:=Sum.elim (fun y0=>k (.inl (y0.1,y0.2,x.v3))) (fun y1=>k (.inr x.v3))
def qU (x:tqD) (v:Int):tqD:=(x.1,x.2.1,v,x.v3)
theorem qV (x:tqD):LE.step X qS qK q0 q4 12 x=Xl x.1 x.2.1 x.v3 x.u2 (fun w=>Sum.inl (qU x w)) (fun o=>Sum.inr (qT x id o)):=by kernel_rfl
def qW {R:Type}:Z21 S R:=LE.ls X qS (fun x k=>(Xn x.1 x.2.1 x.v3 x.u2).bind (qT x k)) q4
theorem qX {R:Type}:Z2e X (qW (R:=R)):=Zke xok qL (e:=qS) q1 q5 (st:=fun(x:tqD)=>Xa x.1 x.2.1 x.v3) (prj:=fun(x:tqD)=>x.u2) (emb:=qU) qT (fun x=>(qV x).trans (by unfold Xa Xl;simp only[Zk2,ZjT,Zk3,Option.map_some,Option.map_none];rfl)) q5
def qY:Key:=⟨[96],96,none,[0,0,1,0,1],0,6⟩
def qZ:StT S:=⟨(N (N (N L none (N L vI L)) (some (.fn (.func 97) [] [(.ptr 0 0)])) (N (N L (some (.sl (.st 18) [])) L) none L)) none v1P),(N L oj L),6⟩
def q10:Way S:=⟨.ret,⟨v1J,(N L oj o1M),32⟩,[.int,.int,(.st 20),(.st 18),(.st 18)]⟩
def q11:Way S:=⟨.ret,⟨v1J,(N o1H oj o1M),68⟩,[.int,.int,(.st 18),(.st 20),(.st 18),(.st 18)]⟩
def q12:Way S:=⟨.ret,⟨v1J,(N (N (N (N o1R none L) none (N (N L none (N L ok L)) none L)) none L) oj o1M),82⟩,[.int,.int,(.lst (.int .i64)),(.st 18),(.st 20),(.st 18),(.st 18)]⟩
def q13:Way S:=⟨.ret,⟨v1J,(N (N (N (N o1R none o1R) none (N (N L none (N L ok L)) none L)) none L) oj o1M),82⟩,[.int,.int,(.lst (.int .i64)),(.lst (.int .i64)),(.st 18),(.st 20),(.st 18),(.st 18)]⟩
def q14:Way S:=⟨.ret,⟨v1J,(N L oj (N L none (N (N (N L ok L) ok L) none (N L none (N (N L or L) none L))))),65⟩,[.int,.int,(.st 20),(.st 18),(.st 18),(.lst (.int .i64))]⟩
def q15:Way S:=⟨.ret,⟨v1J,(N L oj (N L none (N (N (N L ok L) ok L) none (N (N L none (N L or L)) none (N (N L or L) none L))))),65⟩,[.int,.int,(.st 20),(.st 18),(.st 18),(.lst (.int .i64)),(.lst (.int .i64))]⟩
def q16:Way S:=⟨(.exit 0),⟨L,(N L oj L),7⟩,[(.st 20)]⟩
def q17:LE S:=⟨qY,qZ,[.int,(.lst (.st 18)),.int,(.st 20)],[q10,q11,q12,q13,q14,q15,q16]⟩
def q18 {T:Type} (x:tqE) (k:((Int×Int×CoRecord×Zm×Zm)⊕(Int×Int×Zm×CoRecord×Zm×Zm)⊕(Int×Int×(List Int)×Zm×CoRecord×Zm×Zm)⊕(Int×Int×(List Int)×(List Int)×Zm×CoRecord×Zm×Zm)⊕(Int×Int×CoRecord×Zm×Zm×(List Int))⊕(Int×Int×CoRecord×Zm×Zm×(List Int)×(List Int))⊕CoRecord)->T):((Int×Int×Zm×Zm)⊕(Int×Int×Zm×Zm×Zm)⊕(Int×Int×(List Int)×Zm×Zm×Zm)⊕(Int×Int×(List Int)×(List Int)×Zm×Zm×Zm)⊕(Int×Int×Zm×Zm×(List Int))⊕(Int×Int×Zm×Zm×(List Int)×(List Int))⊕Unit)->T:=Sum.elim (fun y0=>k (.inl (y0.1,y0.2.1,x.v3,y0.u2,y0.v3))) (Sum.elim (fun y1=>k (.inr (.inl (y1.1,y1.2.1,y1.u2,x.v3,y1.u3,y1.v4)))) (Sum.elim (fun y2=>k (.inr (.inr (.inl (y2.1,y2.2.1,y2.u2,y2.u3,x.v3,y2.u4,y2.v5))))) (Sum.elim (fun y3=>k (.inr (.inr (.inr (.inl (y3.1,y3.2.1,y3.u2,y3.u3,y3.u4,x.v3,y3.u5,y3.v6)))))) (Sum.elim (fun y4=>k (.inr (.inr (.inr (.inr (.inl (y4.1,y4.2.1,x.v3,y4.u2,y4.u3,y4.v4))))))) (Sum.elim (fun y5=>k (.inr (.inr (.inr (.inr (.inr (.inl (y5.1,y5.2.1,x.v3,y5.u2,y5.u3,y5.u4,y5.v5)))))))) (fun y6=>k (.inr (.inr (.inr (.inr (.inr (.inr x.v3))))))))))))
def q19 (x:tqE) (v:Int):tqE:=(v,x.2.1,x.u2,x.v3)
theorem q1a (x:tqE):LE.step X q17 qK q0 qW 12 x=Xk x.2.1 x.u2 x.v3 x.1 (fun w=>Sum.inl (q19 x w)) (fun o=>Sum.inr (q18 x id o)):=by kernel_rfl
def q1b {R:Type}:Z21 S R:=LE.ls X q17 (fun x k=>(Wp x.2.1 x.u2 x.v3 x.1).bind (q18 x k)) qW
theorem q1c {R:Type}:Z2e X (q1b (R:=R)):=Zke xok qL (e:=q17) q1 qX (st:=fun(x:tqE)=>Xr x.2.1 x.u2 x.v3) (prj:=fun(x:tqE)=>x.1) (emb:=q19) q18 (fun x=>(q1a x).trans (by unfold Xr Xk;simp only[Zk2,ZjT,Zk3,Option.map_some,Option.map_none];rfl)) qX
theorem q1d (x:((List Zm)×CoRecord)):PE.step X qJ qK q0 q1b 12 x=Xu x.1 x.2:=by kernel_rfl
theorem q1e:ZcD X qJ XZ:=Zkf (ZjG xok qL q1 q1c 12) fun x _ h=>((q1d x).trans (X21 x).symm).trans h
def q1f {R:Type}:Prs S R:=PE.ps X qJ (fun x q=>(XZ x).bind q) q0
theorem q1g {R:Type}:Z8k X (q1f (R:=R)):=Zk8 (e:=qJ) q1e q1
def q1h:StT S:=⟨(N (N L (some (.fn (.func 102) [] [(.ptr 0 0)])) L) vF L),(N L oj L),1⟩
def q1j:PE S:=⟨101,2,q1h,[(.lst (.st 19)),(.st 20)],[qI]⟩
def q1o:Key:=⟨[101],101,none,[0,0,1,0,1],0,6⟩
def q1p:StT S:=⟨(N (N (N L none (N L vI L)) (some (.fn (.func 102) [] [(.ptr 0 0)])) (N (N L vF L) none L)) none v1P),(N L oj L),6⟩
def q1q:Way S:=⟨.ret,⟨v1J,(N L oj (N L none (N (N (N L ol L) ol L) none L))),30⟩,[.int,.int,(.st 20),(.st 19),(.st 19)]⟩
def q1s:LE S:=⟨q1o,q1p,[.int,(.lst (.st 19)),.int,(.st 20)],[q1q,q16]⟩
def q1t {T:Type} (x:tqF) (k:((Int×Int×CoRecord×Zq×Zq)⊕CoRecord)->T):((Int×Int×Zq×Zq)⊕Unit)->T:=Sum.elim (fun y0=>k (.inl (y0.1,y0.2.1,x.v3,y0.u2,y0.v3))) (fun y1=>k (.inr x.v3))
def q1u (x:tqF) (v:Int):tqF:=(v,x.2.1,x.u2,x.v3)
theorem q1v (x:tqF):LE.step X q1s qK q1f q4 12 x=Xo x.2.1 x.u2 x.v3 x.1 (fun w=>Sum.inl (q1u x w)) (fun o=>Sum.inr (q1t x id o)):=by kernel_rfl
def q1w {R:Type}:Z21 S R:=LE.ls X q1s (fun x k=>(Wz x.2.1 x.u2 x.v3 x.1).bind (q1t x k)) q4
theorem q1x {R:Type}:Z2e X (q1w (R:=R)):=Zke xok qL (e:=q1s) q1g q5 (st:=fun(x:tqF)=>Xt x.2.1 x.u2 x.v3) (prj:=fun(x:tqF)=>x.1) (emb:=q1u) q1t (fun x=>(q1v x).trans (by unfold Xt Xo;simp only[Zk2,ZjT,Zk3,Option.map_some,Option.map_none];rfl)) q5
theorem q1y (x:((List Zq)×CoRecord)):PE.step X q1j qK q1f q1w 12 x=Xx x.1 x.2:=by kernel_rfl
theorem q1z:ZcD X q1j W8:=Zkf (ZjG xok qL q1g q1x 12) fun x _ h=>((q1y x).trans (X2e x).symm).trans h
def q1A {R:Type}:Prs S R:=PE.ps X q1j (fun x q=>(W8 x).bind q) q1f
theorem q1B {R:Type}:Z8k X (q1A (R:=R)):=Zk8 (e:=q1j) q1z q1g
def q1C:StT S:=⟨(N (N L (some (.fn (.func 103) [] [(.ptr 0 0)])) L) vF L),(N L os L),1⟩
def q1D:Way S:=⟨.ret,⟨(N L vh L),(N L os L),1⟩,[.int,.int,.int]⟩
def q1E:PE S:=⟨101,2,q1C,[(.lst (.st 19)),.int],[q1D]⟩
def q1K:StT S:=⟨(N (N (N L none (N L vI L)) (some (.fn (.func 103) [] [(.ptr 0 0)])) (N (N L vF L) none L)) none v1P),(N L os L),6⟩
def q1L:Way S:=⟨.ret,⟨v1J,(N L os (N L none (N (N (N L ol L) ol L) none L))),38⟩,[.int,.int,.int,(.st 19),(.st 19)]⟩
def q1M:Way S:=⟨(.exit 0),⟨L,(N L os L),7⟩,[.int]⟩
def q1N:LE S:=⟨q1o,q1K,[.int,(.lst (.st 19)),.int,.int],[q1L,q1M]⟩
def q1O {T:Type} (x:tqN) (k:((Int×Int×Int×Zq×Zq)⊕Int)->T):((Int×Int×Int×Zq×Zq)⊕Int)->T:=Sum.elim (fun y0=>k (.inl (y0.1,y0.2.1,y0.u2,y0.u3,y0.v4))) (fun y1=>k (.inr y1))
def q1P (x:tqN) (v:(Int×Int)):tqN:=(v.1,x.2.1,x.u2,v.2)
theorem q1Q (x:tqN):LE.step X q1N qK q1A q4 12 x=Xp x.2.1 x.u2 x.1 x.v3 (fun w=>Sum.inl (q1P x w)) (fun o=>Sum.inr (q1O x id o)):=by kernel_rfl
def q1R {R:Type}:Z21 S R:=LE.ls X q1N (fun x k=>(WA x.2.1 x.u2 (x.1,x.v3)).bind (q1O x k)) q4
theorem q1S {R:Type}:Z2e X (q1R (R:=R)):=Zke xok qL (e:=q1N) q1B q5 (st:=fun(x:tqN)=>X7 x.2.1 x.u2) (prj:=fun(x:tqN)=>(x.1,x.v3)) (emb:=q1P) q1O (fun x=>(q1Q x).trans (by unfold X7 Xp;simp only[Zk2,ZjT,Zk3,Option.map_some,Option.map_none];rfl)) q5
theorem q1T (x:((List Zq)×Int)):PE.step X q1E qK q1A q1R 12 x=Xy x.1 x.2:=by kernel_rfl
theorem q1U:ZcD X q1E W9:=Zkf (ZjG xok qL q1B q1S 12) fun x _ h=>((q1T x).trans (X2g x).symm).trans h
def q1V {R:Type}:Prs S R:=PE.ps X q1E (fun x q=>(W9 x).bind q) q1A
theorem q1W {R:Type}:Z8k X (q1V (R:=R)):=Zk8 (e:=q1E) q1U q1B
theorem q1Y:Z95 X (qK):=⟨qi,qz,qG,trivial⟩
theorem q21 (x0:CoRecord):Zkg X qK [(.st 20)] [(.int .i64),(.int .i64),(.int .i64)] q1V q4 12 65 (x0,())=X2w x0:=by kernel_rfl
def q22:F7 S:=⟨[(.st 20)],[(.int .i64),(.int .i64),(.int .i64)],fun xs=>X4H xs.1⟩
theorem q23:Zav X 65 q22:=Zkd (Zkc xok q1Y q1W q5 12 65) fun xs _ h=>((q21 xs.1).trans (X5t xs.1).symm).trans h
def q24:StT S:=⟨(N (N L (some (.fn (.func 90) [] [(.ptr 0 0)])) L) vG L),(N L oj L),1⟩
def q26:PE S:=⟨89,2,q24,[(.lst (.st 21)),(.st 20)],[qI]⟩
def q27:List (Nat×F7 S):=[(65,q22),(57,qF)]
theorem q28:Z95 X q27:=⟨q23,qG,trivial⟩
def q2b:Key:=⟨[89],89,none,[0,0,1,0,1],0,6⟩
def q2c:StT S:=⟨(N (N (N L none (N L vI L)) (some (.fn (.func 90) [] [(.ptr 0 0)])) (N (N L vG L) none L)) none v1P),(N L oj L),6⟩
def q2d:Way S:=⟨.ret,⟨v1J,(N L oj (N L none (N (N (N L om L) om L) none L))),30⟩,[.int,.int,(.st 20),(.st 21),(.st 21)]⟩
def q2f:LE S:=⟨q2b,q2c,[.int,(.lst (.st 21)),.int,(.st 20)],[q2d,q16]⟩
def q2g {T:Type} (x:tqG) (k:((Int×Int×CoRecord×Zr×Zr)⊕CoRecord)->T):((Int×Int×Zr×Zr)⊕Unit)->T:=Sum.elim (fun y0=>k (.inl (y0.1,y0.2.1,x.v3,y0.u2,y0.v3))) (fun y1=>k (.inr x.v3))
def q2h (x:tqG) (v:Int):tqG:=(v,x.2.1,x.u2,x.v3)
theorem q2i (x:tqG):LE.step X q2f q27 q1V q4 12 x=Xs x.2.1 x.u2 x.v3 x.1 (fun w=>Sum.inl (q2h x w)) (fun o=>Sum.inr (q2g x id o)):=by kernel_rfl
def q2j {R:Type}:Z21 S R:=LE.ls X q2f (fun x k=>(WI x.2.1 x.u2 x.v3 x.1).bind (q2g x k)) q4
theorem q2k {R:Type}:Z2e X (q2j (R:=R)):=Zke xok q28 (e:=q2f) q1W q5 (st:=fun(x:tqG)=>Xv x.2.1 x.u2 x.v3) (prj:=fun(x:tqG)=>x.1) (emb:=q2h) q2g (fun x=>(q2i x).trans (by unfold Xv Xs;simp only[Zk2,ZjT,Zk3,Option.map_some,Option.map_none];rfl)) q5
theorem q2l (x:((List Zr)×CoRecord)):PE.step X q26 q27 q1V q2j 12 x=XH x.1 x.2:=by kernel_rfl
theorem q2m:ZcD X q26 We:=Zkf (ZjG xok q28 q1W q2k 12) fun x _ h=>((q2l x).trans (X2y x).symm).trans h
def q2n {R:Type}:Prs S R:=PE.ps X q26 (fun x q=>(We x).bind q) q1V
theorem q2o {R:Type}:Z8k X (q2n (R:=R)):=Zk8 (e:=q26) q2m q1W
theorem q2q:Z95 X (q27):=⟨q23,qG,trivial⟩
theorem q2t (x0:CoRecord) (x1:List Zr):Zkg X q27 [(.st 20),(.sl (.st 21))] [(.int .i64),(.int .i64)] q2n q4 12 60 (x0,x1,())=X1d x0 x1:=by kernel_rfl
def q2u:F7 S:=⟨[(.st 20),(.sl (.st 21))],[(.int .i64),(.int .i64)],fun xs=>X3j xs.1 xs.2.1⟩
theorem q2v:Zav X 60 q2u:=Zkd (Zkc xok q2q q2o q5 12 60) fun xs _ h=>((q2t xs.1 xs.2.1).trans (X4o xs.1 xs.2.1).symm).trans h
def q2w:List (Nat×F7 S):=[(60,q2u)]
theorem q2x:Z95 X (q2w):=⟨q2v,trivial⟩
theorem q2A (x0:CoRecord) (x1:List Zr):Zkg X q2w [(.st 20),(.sl (.st 21))] [(.st 25),(.int .i64)] q2n q4 12 37 (x0,x1,())=X2x x0 x1:=by kernel_rfl
def q2B:F7 S:=⟨[(.st 20),(.sl (.st 21))],[(.st 25),(.int .i64)],fun xs=>X1L xs.1 xs.2.1⟩
theorem q2C:Zav X 37 q2B:=Zkd (Zkc xok q2x q2o q5 12 37) fun xs _ h=>((q2A xs.1 xs.2.1).trans (X5x xs.1 xs.2.1).symm).trans h
theorem q2H (x0:Y2):Zkg X q2 [(.st 5)] [.bool] q2n q4 12 120 (x0,())=Wa x0:=by kernel_rfl
def q2I:F7 S:=⟨[(.st 5)],[.bool],fun xs=>X2q xs.1⟩
theorem q2J:Zav X 120 q2I:=Zkd (Zkc xok q3 q2o q5 12 120) fun xs _ h=>((q2H xs.1).trans (X34 xs.1).symm).trans h
def q2K:List (Nat×F7 S):=[(120,q2I)]
theorem q2L:Z95 X (q2K):=⟨q2J,trivial⟩
def q2O:Key:=⟨[83],83,none,[0,0,1,1,1,0,0,1,1,0,0,1,0,1,1],2,33⟩
def q2P:StT S:=⟨vU,(N (N L of L) on (N L of L)),33⟩
def q2Q:Way S:=⟨(.exit 2),⟨v1m,(N (N L of L) on (N L of L)),34⟩,[.int,.int,.int,(.lst (.st 28)),(.arr (.st 5)),(.st 25),(.arr (.st 5))]⟩
def q2R:LE S:=⟨q2O,q2P,[.int,.int,.int,.int,.int,.int,(.lst (.st 28)),(.lst (.st 28)),(.arr (.st 5)),(.st 25),(.arr (.st 5))],[q2Q]⟩
def q2S {T:Type} (x:tqh) (k:tqq->T):(Nat->Y2)->T:=fun y0=>k (x.2.1,x.u3,x.u5,x.u6,y0,x.u9,x.v10)
def q2T (x:tqh) (v:(Int×(Nat->Y2))):tqh:=(x.1,x.2.1,x.u2,x.u3,v.1,x.u5,x.u6,x.u7,v.2,x.u9,x.v10)
theorem q2U (x:tqh):LE.step X q2R q2K q2n q4 12 x=Xe x.1 x.2.1 x.u2 x.u3 x.u5 x.u6 x.u7 x.u9 x.v10 x.u4 x.u8 (fun w=>Sum.inl (q2T x w)) (fun o=>Sum.inr (q2S x id o)):=by kernel_rfl
def q2V {R:Type}:Z21 S R:=LE.ls X q2R (fun x k=>(Wv x.1 x.2.1 x.u2 x.u3 x.u5 x.u6 x.u7 x.u9 x.v10 (x.u4,x.u8)).bind (q2S x k)) q4
theorem q2W {R:Type}:Z2e X (q2V (R:=R)):=Zke xok q2L (e:=q2R) q2o q5 (st:=fun(x:tqh)=>XA x.1 x.2.1 x.u2 x.u3 x.u5 x.u6 x.u7 x.u9 x.v10) (prj:=fun(x:tqh)=>(x.u4,x.u8)) (emb:=q2T) q2S (fun x=>(q2U x).trans (by unfold XA Xe;simp only[Zk2,ZjT,Zk3,Option.map_some,Option.map_none];rfl)) q5
def q2X:Key:=⟨[83],83,none,[0,0,1,1,1,0,0,1,1,0,0,1,0,1,1],2,19⟩
def q2Y:StT S:=⟨vU,(N (N L of L) on (N L of L)),19⟩
def q2Z:Way S:=⟨(.exit 2),⟨v1m,(N (N L of L) on (N L of L)),20⟩,[.int,.int,.int,(.lst (.st 28)),(.arr (.st 5)),(.st 25),(.arr (.st 5))]⟩
def q30:LE S:=⟨q2X,q2Y,[.int,.int,.int,.int,.int,.int,(.lst (.st 28)),(.lst (.st 28)),(.arr (.st 5)),(.st 25),(.arr (.st 5))],[q2Z]⟩
theorem q33 (x:tqh):LE.step X q30 q2K q2n q2V 12 x=X19 x.1 x.2.1 x.u2 x.u3 x.u5 x.u6 x.u7 x.u9 x.v10 x.u4 x.u8 (fun w=>Sum.inl (q2T x w)) (fun o=>Sum.inr (q2S x id o)):=by kernel_rfl
def q34 {R:Type}:Z21 S R:=LE.ls X q30 (fun x k=>(X1k x.1 x.2.1 x.u2 x.u3 x.u5 x.u6 x.u7 x.u9 x.v10 (x.u4,x.u8)).bind (q2S x k)) q2V
theorem q35 {R:Type}:Z2e X (q34 (R:=R)):=Zke xok q2L (e:=q30) q2o q2W (st:=fun(x:tqh)=>X1u x.1 x.2.1 x.u2 x.u3 x.u5 x.u6 x.u7 x.u9 x.v10) (prj:=fun(x:tqh)=>(x.u4,x.u8)) (emb:=q2T) q2S (fun x=>(q33 x).trans (by unfold X1u X19 Xe;simp only[Zk2,ZjT,Zk3,Option.map_some,Option.map_none];rfl)) q2W
def q36:Key:=⟨[83],83,none,[0,0,1,0,1,1],0,11⟩
def q37:StT S:=⟨v1m,(N (N L of L) on (N L of L)),11⟩
def q38:Way S:=⟨(.exit 0),⟨(N L none (N v1N vH (N L (some (.ptr 2 0)) L))),(N (N L of L) on (N L of L)),12⟩,[.int,(.lst (.st 28)),(.arr (.st 5)),(.st 25),(.arr (.st 5))]⟩
def q39:LE S:=⟨q36,q37,[.int,.int,.int,(.lst (.st 28)),(.arr (.st 5)),(.st 25),(.arr (.st 5))],[q38]⟩
def q3a {T:Type} (x:tqq) (k:(Int×(List Zb)×(Nat->Y2)×Zc×(Nat->Y2))->T):(Nat->Y2)->T:=fun y0=>k (x.2.1,x.u3,y0,x.u5,x.v6)
def q3b (x:tqq) (v:(Int×(Nat->Y2))):tqq:=(x.1,x.2.1,v.1,x.u3,v.2,x.u5,x.v6)
theorem q3c (x:tqq):LE.step X q39 q2K q2n q34 12 x=XR x.1 x.2.1 x.u3 x.u5 x.v6 x.u2 x.u4 (fun w=>Sum.inl (q3b x w)) (fun o=>Sum.inr (q3a x id o)):=by kernel_rfl
def q3d {R:Type}:Z21 S R:=LE.ls X q39 (fun x k=>(Wu x.1 x.2.1 x.u3 x.u5 x.v6 (x.u2,x.u4)).bind (q3a x k)) q34
theorem q3e {R:Type}:Z2e X (q3d (R:=R)):=Zke xok q2L (e:=q39) q2o q35 (st:=fun(x:tqq)=>Xz x.1 x.2.1 x.u3 x.u5 x.v6) (prj:=fun(x:tqq)=>(x.u2,x.u4)) (emb:=q3b) q3a (fun x=>(q3c x).trans (by unfold Xz XR;simp only[Zk2,ZjT,Zk3,Option.map_some,Option.map_none];rfl)) q35
def q3f:Key:=⟨[83],83,none,[0,0,1,1,0,0,1,0,0,1,0,1,1,1],6,38⟩
def q3g:StT S:=⟨vY,(N (N L of L) on (N L of L)),38⟩
def q3h:Way S:=⟨(.exit 6),⟨v1q,(N (N L of L) on (N L of L)),39⟩,[.int,.int,(.lst (.st 28)),(.arr (.st 5)),(.st 25),(.arr (.st 5))]⟩
def q3i:LE S:=⟨q3f,q3g,[(.lst (.st 28)),.int,.int,.int,.int,(.lst (.st 28)),(.arr (.st 5)),(.st 25),(.arr (.st 5))],[q3h]⟩
def q3j {T:Type} (x:tqm) (k:tqs->T):(Nat->Y2)->T:=fun y0=>k (x.u2,x.u4,x.u5,y0,x.u7,x.v8)
def q3k (x:tqm) (v:(Int×(Nat->Y2))):tqm:=(x.1,v.1,x.u2,x.u3,x.u4,x.u5,v.2,x.u7,x.v8)
theorem q3l (x:tqm):LE.step X q3i q2K q2n q3d 12 x=Xf x.1 x.u2 x.u3 x.u4 x.u5 x.u7 x.v8 x.2.1 x.u6 (fun w=>Sum.inl (q3k x w)) (fun o=>Sum.inr (q3j x id o)):=by kernel_rfl
def q3m {R:Type}:Z21 S R:=LE.ls X q3i (fun x k=>(Wx x.1 x.u2 x.u3 x.u4 x.u5 x.u7 x.v8 (x.2.1,x.u6)).bind (q3j x k)) q3d
theorem q3n {R:Type}:Z2e X (q3m (R:=R)):=Zke xok q2L (e:=q3i) q2o q3e (st:=fun(x:tqm)=>XC x.1 x.u2 x.u3 x.u4 x.u5 x.u7 x.v8) (prj:=fun(x:tqm)=>(x.2.1,x.u6)) (emb:=q3k) q3j (fun x=>(q3l x).trans (by unfold XC Xf;simp only[Zk2,ZjT,Zk3,Option.map_some,Option.map_none];rfl)) q3e
def q3o:Key:=⟨[83],83,none,[0,0,1,1,0,0,1,0,0,1,0,1,1,1],6,24⟩
def q3p:StT S:=⟨vY,(N (N L of L) on (N L of L)),24⟩
def q3q:Way S:=⟨(.exit 6),⟨v1q,(N (N L of L) on (N L of L)),25⟩,[.int,.int,(.lst (.st 28)),(.arr (.st 5)),(.st 25),(.arr (.st 5))]⟩
def q3r:LE S:=⟨q3o,q3p,[(.lst (.st 28)),.int,.int,.int,.int,(.lst (.st 28)),(.arr (.st 5)),(.st 25),(.arr (.st 5))],[q3q]⟩
theorem q3u (x:tqm):LE.step X q3r q2K q2n q3m 12 x=X1a x.1 x.u2 x.u3 x.u4 x.u5 x.u7 x.v8 x.2.1 x.u6 (fun w=>Sum.inl (q3k x w)) (fun o=>Sum.inr (q3j x id o)):=by kernel_rfl
def q3v {R:Type}:Z21 S R:=LE.ls X q3r (fun x k=>(X1l x.1 x.u2 x.u3 x.u4 x.u5 x.u7 x.v8 (x.2.1,x.u6)).bind (q3j x k)) q3m
theorem q3w {R:Type}:Z2e X (q3v (R:=R)):=Zke xok q2L (e:=q3r) q2o q3n (st:=fun(x:tqm)=>X1v x.1 x.u2 x.u3 x.u4 x.u5 x.u7 x.v8) (prj:=fun(x:tqm)=>(x.2.1,x.u6)) (emb:=q3k) q3j (fun x=>(q3u x).trans (by unfold X1v X1a Xf;simp only[Zk2,ZjT,Zk3,Option.map_some,Option.map_none];rfl)) q3n
def q3x:Key:=⟨[83],83,none,[0,0,1,0,1,1,1],4,15⟩
def q3y:StT S:=⟨v1q,(N (N L of L) on (N L of L)),15⟩
def q3z:Way S:=⟨(.exit 4),⟨(N L none (N v1N none (N L (some (.ptr 2 0)) L))),(N (N L of L) on (N L of L)),17⟩,[.int,(.arr (.st 5)),(.st 25),(.arr (.st 5))]⟩
def q3A:LE S:=⟨q3x,q3y,[.int,.int,(.lst (.st 28)),(.arr (.st 5)),(.st 25),(.arr (.st 5))],[q3z]⟩
def q3B {T:Type} (x:tqs) (k:(Int×(Nat->Y2)×Zc×(Nat->Y2))->T):(Nat->Y2)->T:=fun y0=>k (x.1,y0,x.u4,x.v5)
def q3C (x:tqs) (v:(Int×(Nat->Y2))):tqs:=(x.1,v.1,x.u2,v.2,x.u4,x.v5)
theorem q3D (x:tqs):LE.step X q3A q2K q2n q3v 12 x=XS x.1 x.u2 x.u4 x.v5 x.2.1 x.u3 (fun w=>Sum.inl (q3C x w)) (fun o=>Sum.inr (q3B x id o)):=by kernel_rfl
def q3E {R:Type}:Z21 S R:=LE.ls X q3A (fun x k=>(Ww x.1 x.u2 x.u4 x.v5 (x.2.1,x.u3)).bind (q3B x k)) q3v
theorem q3F {R:Type}:Z2e X (q3E (R:=R)):=Zke xok q2L (e:=q3A) q2o q3w (st:=fun(x:tqs)=>XB x.1 x.u2 x.u4 x.v5) (prj:=fun(x:tqs)=>(x.2.1,x.u3)) (emb:=q3C) q3B (fun x=>(q3D x).trans (by unfold XB XS;simp only[Zk2,ZjT,Zk3,Option.map_some,Option.map_none];rfl)) q3w
def q3G:Key:=⟨[146,2,1,119,3,25,83],146,none,[0,0,1,0,1],0,34⟩
def q3H:StT S:=⟨(N (N (N (N L vI L) none L) (some (.fn (.func 120) [] [])) L) (some (.sl (.st 5) [])) v1O),L,34⟩
def q3I:Way S:=⟨.ret,⟨v1P,L,45⟩,[.int]⟩
def q3J:Way S:=⟨(.exit 0),⟨L,L,35⟩,[]⟩
def q3K:LE S:=⟨q3G,q3H,[.int,(.lst (.st 5)),.int],[q3I,q3J]⟩
def q3L {T:Type} (x:tqQ) (k:(Int⊕Unit)->T):(Int⊕Unit)->T:=Sum.elim (fun y0=>k (.inl y0)) (fun y1=>k (.inr ()))
def q3M (x:tqQ) (v:Int):tqQ:=(x.1,x.2.1,v)
theorem q3N (x:tqQ):LE.step X q3K q2K q2n q3E 12 x=XT x.1 x.2.1 x.v2 (fun w=>Sum.inl (q3M x w)) (fun o=>Sum.inr (q3L x id o)):=by kernel_rfl
def q3O {R:Type}:Z21 S R:=LE.ls X q3K (fun x k=>(X1m x.1 x.2.1 x.v2).bind (q3L x k)) q3E
theorem q3P {R:Type}:Z2e X (q3O (R:=R)):=Zke xok q2L (e:=q3K) q2o q3F (st:=fun(x:tqQ)=>XD x.1 x.2.1) (prj:=fun(x:tqQ)=>x.v2) (emb:=q3M) q3L (fun x=>(q3N x).trans (by unfold XD XT;simp only[Zk2,ZjT,Zk3,Option.map_some,Option.map_none];rfl)) q3F
theorem q3Q (x0:Zc) (x1:Nat->Y2) (x2:List Zb):Zkg X q2K [(.st 25),(.arr 10 (.st 5)),(.sl (.st 28))] [(.arr 10 (.st 5)),.bool] q2n q3O 12 83 (x0,x1,x2,())=Wi x0 x1 x2:=by kernel_rfl
def q3R:F7 S:=⟨[(.st 25),(.arr 10 (.st 5)),(.sl (.st 28))],[(.arr 10 (.st 5)),.bool],fun xs=>XI xs.1 xs.2.1 xs.u2⟩
theorem q3S:Zav X 83 q3R:=Zkd (Zkc xok q2L q2o q3P 12 83) fun xs _ h=>((q3Q xs.1 xs.2.1 xs.u2).trans (X3y xs.1 xs.2.1 xs.u2).symm).trans h
def q3T:StT S:=⟨(N v1z vI (N (N L (some (.ptr 4 0)) L) vH L)),o1C,6⟩
def q3U:Way S:=⟨.ret,⟨(N L vJ L),o1C,6⟩,[.bool,(.st 25),.bool,(.st 25),(.st 25)]⟩
def q3V:Way S:=⟨.ret,⟨(N L vJ L),o1D,6⟩,[.bool,(.st 25),.bool,(.st 25),(.st 25)]⟩
def q3W:PE S:=⟨82,6,q3T,[(.arr (.st 5)),.int,(.lst (.st 28)),(.st 25),.bool,(.st 25),(.st 25)],[q3U,q3V]⟩
def q3X:List (Nat×F7 S):=[(83,q3R)]
theorem q3Y:Z95 X q3X:=⟨q3S,trivial⟩
abbrev q3Z (ih:tqo->Option tqg) {R:Type}:Z21 S R:=Zj1
theorem q40 (ih:tqo->Option tqg) (hih:ZcD X q3W ih) {R:Type}:Z2e X (q3Z ih (R:=R)):=ZjC X
def q41:Key:=⟨[121,0,82],121,none,[0,0,1,1],0,69⟩
def q42:StT S:=⟨v16,oM,70⟩
def q43:Way S:=⟨.ret,⟨L,(N o18 oa o1d),166⟩,[(.arr (.st 5)),(.st 28),(.st 25),.bool,(.arr (.st 5)),(.arr (.st 5)),.bool,.int,(.st 25),(.lst (.st 19)),(.lst (.st 28)),(.st 28),(.lst (.st 19)),(.st 21),(.lst (.st 28)),(.st 25),(.st 25),(.st 19),.int,(.lst (.st 28)),.int,.bool,(.arr (.st 5)),.bool,.int,.bool,(.lst (.st 28))]⟩
def q44:Way S:=⟨.ret,⟨L,(N o19 oa o1d),166⟩,[(.arr (.st 5)),(.st 28),(.st 25),.bool,(.arr (.st 5)),(.arr (.st 5)),.bool,.int,(.st 25),(.lst (.st 19)),(.lst (.st 28)),(.st 28),(.lst (.st 19)),(.st 21),(.lst (.st 28)),(.st 25),(.st 25),(.st 19),.int,(.lst (.st 28)),.int,.bool,(.arr (.st 5)),.bool,.int,.bool,(.lst (.st 28))]⟩
def q45:Way S:=⟨.ret,⟨L,oO,159⟩,[(.arr (.st 5)),(.st 28),(.st 25),.bool,(.arr (.st 5)),(.arr (.st 5)),.bool,.int,(.st 25),(.lst (.st 19)),(.st 28),(.lst (.st 19)),(.st 21),(.lst (.st 28)),(.st 25),(.st 25),(.st 19),.int,.int,.bool,(.arr (.st 5)),.bool,.int,.bool,(.lst (.st 28))]⟩
def q46:Way S:=⟨.ret,⟨L,oP,159⟩,[(.arr (.st 5)),(.st 28),(.st 25),.bool,(.arr (.st 5)),(.arr (.st 5)),.bool,.int,(.st 25),(.lst (.st 19)),(.st 28),(.lst (.st 19)),(.st 21),(.lst (.st 28)),(.st 25),(.st 25),(.st 19),.int,.int,.bool,(.arr (.st 5)),.bool,.int,.bool,(.lst (.st 28))]⟩
def q47:Way S:=⟨.ret,⟨L,(N oV oa o1h),151⟩,[(.arr (.st 5)),(.st 28),(.st 25),(.lst (.st 28)),.bool,(.arr (.st 5)),(.arr (.st 5)),.bool,.int,(.st 25),(.lst (.st 19)),(.st 28),(.lst (.st 19)),(.st 21),(.lst (.st 28)),(.st 25),(.st 25),(.st 19),.int,.int,(.lst (.st 28)),.bool,(.arr (.st 5)),.bool,.int,.bool,(.lst (.st 28))]⟩
def q48:Way S:=⟨.ret,⟨L,(N oW oa o1h),151⟩,[(.arr (.st 5)),(.st 28),(.st 25),(.lst (.st 28)),.bool,(.arr (.st 5)),(.arr (.st 5)),.bool,.int,(.st 25),(.lst (.st 19)),(.st 28),(.lst (.st 19)),(.st 21),(.lst (.st 28)),(.st 25),(.st 25),(.st 19),.int,.int,(.lst (.st 28)),.bool,(.arr (.st 5)),.bool,.int,.bool,(.lst (.st 28))]⟩
def q49:Way S:=⟨.ret,⟨L,oO,144⟩,[(.arr (.st 5)),(.st 28),(.st 25),.bool,(.arr (.st 5)),(.arr (.st 5)),.bool,.int,(.st 25),(.lst (.st 19)),(.st 28),(.lst (.st 19)),(.st 21),(.lst (.st 28)),(.st 25),(.st 25),(.st 19),.int,.int,.bool,(.arr (.st 5)),.bool,.int,.bool,(.lst (.st 28))]⟩
def q4a:Way S:=⟨.ret,⟨L,oP,144⟩,[(.arr (.st 5)),(.st 28),(.st 25),.bool,(.arr (.st 5)),(.arr (.st 5)),.bool,.int,(.st 25),(.lst (.st 19)),(.st 28),(.lst (.st 19)),(.st 21),(.lst (.st 28)),(.st 25),(.st 25),(.st 19),.int,.int,.bool,(.arr (.st 5)),.bool,.int,.bool,(.lst (.st 28))]⟩
def q4b:Way S:=⟨.ret,⟨L,(N o10 oa o13),152⟩,[(.lst (.st 28)),(.arr (.st 5)),(.st 28),(.st 25),.bool,(.arr (.st 5)),(.arr (.st 5)),.bool,.int,(.st 25),(.lst (.st 19)),(.st 28),(.lst (.st 19)),(.st 21),(.lst (.st 28)),(.st 25),(.lst (.st 28)),(.st 25),(.st 19),.int,.int,.bool,(.arr (.st 5)),.bool,.int,.bool,(.lst (.st 28))]⟩
def q4c:Way S:=⟨.ret,⟨L,(N o11 oa o13),152⟩,[(.lst (.st 28)),(.arr (.st 5)),(.st 28),(.st 25),.bool,(.arr (.st 5)),(.arr (.st 5)),.bool,.int,(.st 25),(.lst (.st 19)),(.st 28),(.lst (.st 19)),(.st 21),(.lst (.st 28)),(.st 25),(.lst (.st 28)),(.st 25),(.st 19),.int,.int,.bool,(.arr (.st 5)),.bool,.int,.bool,(.lst (.st 28))]⟩
def q4d:Way S:=⟨.ret,⟨L,oO,145⟩,[(.arr (.st 5)),(.st 28),(.st 25),.bool,(.arr (.st 5)),(.arr (.st 5)),.bool,.int,(.st 25),(.lst (.st 19)),(.st 28),(.lst (.st 19)),(.st 21),(.lst (.st 28)),(.st 25),(.st 25),(.st 19),.int,.int,.bool,(.arr (.st 5)),.bool,.int,.bool,(.lst (.st 28))]⟩
def q4e:Way S:=⟨.ret,⟨L,oP,145⟩,[(.arr (.st 5)),(.st 28),(.st 25),.bool,(.arr (.st 5)),(.arr (.st 5)),.bool,.int,(.st 25),(.lst (.st 19)),(.st 28),(.lst (.st 19)),(.st 21),(.lst (.st 28)),(.st 25),(.st 25),(.st 19),.int,.int,.bool,(.arr (.st 5)),.bool,.int,.bool,(.lst (.st 28))]⟩
def q4f:Way S:=⟨.ret,⟨L,(N o1a oa o1j),137⟩,[(.arr (.st 5)),(.st 28),(.st 25),.bool,(.arr (.st 5)),(.arr (.st 5)),.bool,.int,(.st 25),(.lst (.st 19)),(.st 28),(.lst (.st 28)),(.lst (.st 28)),(.lst (.st 19)),(.st 21),(.lst (.st 28)),(.st 25),(.st 25),(.st 19),.int,.int,.bool,(.arr (.st 5)),.bool,.int,.bool,(.lst (.st 28))]⟩
def q4g:Way S:=⟨.ret,⟨L,(N o1b oa o1j),137⟩,[(.arr (.st 5)),(.st 28),(.st 25),.bool,(.arr (.st 5)),(.arr (.st 5)),.bool,.int,(.st 25),(.lst (.st 19)),(.st 28),(.lst (.st 28)),(.lst (.st 28)),(.lst (.st 19)),(.st 21),(.lst (.st 28)),(.st 25),(.st 25),(.st 19),.int,.int,.bool,(.arr (.st 5)),.bool,.int,.bool,(.lst (.st 28))]⟩
def q4h:Way S:=⟨.ret,⟨L,oO,130⟩,[(.arr (.st 5)),(.st 28),(.st 25),.bool,(.arr (.st 5)),(.arr (.st 5)),.bool,.int,(.st 25),(.lst (.st 19)),(.st 28),(.lst (.st 19)),(.st 21),(.lst (.st 28)),(.st 25),(.st 25),(.st 19),.int,.int,.bool,(.arr (.st 5)),.bool,.int,.bool,(.lst (.st 28))]⟩
def q4i:Way S:=⟨.ret,⟨L,oP,130⟩,[(.arr (.st 5)),(.st 28),(.st 25),.bool,(.arr (.st 5)),(.arr (.st 5)),.bool,.int,(.st 25),(.lst (.st 19)),(.st 28),(.lst (.st 19)),(.st 21),(.lst (.st 28)),(.st 25),(.st 25),(.st 19),.int,.int,.bool,(.arr (.st 5)),.bool,.int,.bool,(.lst (.st 28))]⟩
def q4j:Way S:=⟨(.exit 0),⟨L,oM,71⟩,[(.arr (.st 5)),(.st 28),(.st 25),.bool,(.arr (.st 5)),.bool,.int,(.st 25),(.lst (.st 19)),(.lst (.st 19)),(.st 21),(.lst (.st 28)),(.st 25),(.st 25),.int,.int,.bool,(.arr (.st 5)),.bool,.int,.bool,(.lst (.st 28))]⟩
def q4k:LE S:=⟨q41,q42,[.int,.int,.int,(.arr (.st 5)),(.st 28),(.st 25),.bool,(.arr (.st 5)),.bool,.int,(.st 25),(.lst (.st 19)),(.lst (.st 19)),(.st 21),(.lst (.st 28)),(.st 25),(.st 25),.int,.int,.bool,(.arr (.st 5)),.bool,.int,.bool,(.lst (.st 28))],[q43,q44,q45,q46,q47,q48,q49,q4a,q4b,q4c,q4d,q4e,q4f,q4g,q4h,q4i,q4j]⟩
def q4l {T:Type} (x:tq5) (k:(((Nat->Y2)×Zb×Zc×Bool×(Nat->Y2)×(Nat->Y2)×Bool×Int×Zc×(List Zq)×(List Zb)×Zb×(List Zq)×Zr×(List Zb)×Zc×Zc×Zq×Int×(List Zb)×Int×Bool×(Nat->Y2)×Bool×Int×Bool×(List Zb))⊕((Nat->Y2)×Zb×Zc×Bool×(Nat->Y2)×(Nat->Y2)×Bool×Int×Zc×(List Zq)×(List Zb)×Zb×(List Zq)×Zr×(List Zb)×Zc×Zc×Zq×Int×(List Zb)×Int×Bool×(Nat->Y2)×Bool×Int×Bool×(List Zb))⊕tq4⊕tq4⊕((Nat->Y2)×Zb×Zc×(List Zb)×Bool×(Nat->Y2)×(Nat->Y2)×Bool×Int×Zc×(List Zq)×Zb×(List Zq)×Zr×(List Zb)×Zc×Zc×Zq×Int×Int×(List Zb)×Bool×(Nat->Y2)×Bool×Int×Bool×(List Zb))⊕((Nat->Y2)×Zb×Zc×(List Zb)×Bool×(Nat->Y2)×(Nat->Y2)×Bool×Int×Zc×(List Zq)×Zb×(List Zq)×Zr×(List Zb)×Zc×Zc×Zq×Int×Int×(List Zb)×Bool×(Nat->Y2)×Bool×Int×Bool×(List Zb))⊕tq4⊕tq4⊕((List Zb)×(Nat->Y2)×Zb×Zc×Bool×(Nat->Y2)×(Nat->Y2)×Bool×Int×Zc×(List Zq)×Zb×(List Zq)×Zr×(List Zb)×Zc×(List Zb)×Zc×Zq×Int×Int×Bool×(Nat->Y2)×Bool×Int×Bool×(List Zb))⊕((List Zb)×(Nat->Y2)×Zb×Zc×Bool×(Nat->Y2)×(Nat->Y2)×Bool×Int×Zc×(List Zq)×Zb×(List Zq)×Zr×(List Zb)×Zc×(List Zb)×Zc×Zq×Int×Int×Bool×(Nat->Y2)×Bool×Int×Bool×(List Zb))⊕tq4⊕tq4⊕((Nat->Y2)×Zb×Zc×Bool×(Nat->Y2)×(Nat->Y2)×Bool×Int×Zc×(List Zq)×Zb×(List Zb)×(List Zb)×(List Zq)×Zr×(List Zb)×Zc×Zc×Zq×Int×Int×Bool×(Nat->Y2)×Bool×Int×Bool×(List Zb))⊕((Nat->Y2)×Zb×Zc×Bool×(Nat->Y2)×(Nat->Y2)×Bool×Int×Zc×(List Zq)×Zb×(List Zb)×(List Zb)×(List Zq)×Zr×(List Zb)×Zc×Zc×Zq×Int×Int×Bool×(Nat->Y2)×Bool×Int×Bool×(List Zb))⊕tq4⊕tq4⊕((Nat->Y2)×Zb×Zc×Bool×(Nat->Y2)×Bool×Int×Zc×(List Zq)×(List Zq)×Zr×(List Zb)×Zc×Zc×Int×Int×Bool×(Nat->Y2)×Bool×Int×Bool×(List Zb)))->T):(tq9⊕tq9⊕tql⊕tql⊕tqa⊕tqa⊕tql⊕tql⊕tqb⊕tqb⊕tql⊕tql⊕tqe⊕tqe⊕tqn⊕tqn⊕(Zb×Zc×Bool×Zc×Zc))->T:=Sum.elim (fun y0=>k (.inl (x.u3,y0.1,y0.2.1,y0.u2,y0.u3,x.u7,y0.u4,x.u9,y0.u5,x.u11,y0.u6,y0.u7,x.u12,x.u13,x.u14,x.u15,y0.u8,y0.u9,x.u17,y0.v10,x.u18,x.u19,x.u20,x.u21,x.u22,x.u23,x.v24))) (Sum.elim (fun y1=>k (.inr (.inl (x.u3,y1.1,y1.2.1,y1.u2,y1.u3,x.u7,y1.u4,x.u9,y1.u5,x.u11,y1.u6,y1.u7,x.u12,x.u13,x.u14,x.u15,y1.u8,y1.u9,x.u17,y1.v10,x.u18,x.u19,x.u20,x.u21,x.u22,x.u23,x.v24)))) (Sum.elim (fun y2=>k (.inr (.inr (.inl (x.u3,y2.1,y2.2.1,y2.u2,y2.u3,x.u7,y2.u4,x.u9,y2.u5,x.u11,y2.u6,x.u12,x.u13,x.u14,x.u15,y2.u7,y2.v8,x.u17,x.u18,x.u19,x.u20,x.u21,x.u22,x.u23,x.v24))))) (Sum.elim (fun y3=>k (.inr (.inr (.inr (.inl (x.u3,y3.1,y3.2.1,y3.u2,y3.u3,x.u7,y3.u4,x.u9,y3.u5,x.u11,y3.u6,x.u12,x.u13,x.u14,x.u15,y3.u7,y3.v8,x.u17,x.u18,x.u19,x.u20,x.u21,x.u22,x.u23,x.v24)))))) (Sum.elim (fun y4=>k (.inr (.inr (.inr (.inr (.inl (x.u3,y4.1,y4.2.1,y4.u2,y4.u3,y4.u4,x.u7,y4.u5,x.u9,y4.u6,x.u11,y4.u7,x.u12,x.u13,x.u14,x.u15,y4.u8,y4.u9,x.u17,x.u18,y4.v10,x.u19,x.u20,x.u21,x.u22,x.u23,x.v24))))))) (Sum.elim (fun y5=>k (.inr (.inr (.inr (.inr (.inr (.inl (x.u3,y5.1,y5.2.1,y5.u2,y5.u3,y5.u4,x.u7,y5.u5,x.u9,y5.u6,x.u11,y5.u7,x.u12,x.u13,x.u14,x.u15,y5.u8,y5.u9,x.u17,x.u18,y5.v10,x.u19,x.u20,x.u21,x.u22,x.u23,x.v24)))))))) (Sum.elim (fun y6=>k (.inr (.inr (.inr (.inr (.inr (.inr (.inl (x.u3,y6.1,y6.2.1,y6.u2,y6.u3,x.u7,y6.u4,x.u9,y6.u5,x.u11,y6.u6,x.u12,x.u13,x.u14,x.u15,y6.u7,y6.v8,x.u17,x.u18,x.u19,x.u20,x.u21,x.u22,x.u23,x.v24))))))))) (Sum.elim (fun y7=>k (.inr (.inr (.inr (.inr (.inr (.inr (.inr (.inl (x.u3,y7.1,y7.2.1,y7.u2,y7.u3,x.u7,y7.u4,x.u9,y7.u5,x.u11,y7.u6,x.u12,x.u13,x.u14,x.u15,y7.u7,y7.v8,x.u17,x.u18,x.u19,x.u20,x.u21,x.u22,x.u23,x.v24)))))))))) (Sum.elim (fun y8=>k (.inr (.inr (.inr (.inr (.inr (.inr (.inr (.inr (.inl (y8.1,x.u3,y8.2.1,y8.u2,y8.u3,y8.u4,x.u7,y8.u5,x.u9,y8.u6,x.u11,y8.u7,x.u12,x.u13,x.u14,x.u15,y8.u8,y8.u9,y8.v10,x.u17,x.u18,x.u19,x.u20,x.u21,x.u22,x.u23,x.v24))))))))))) (Sum.elim (fun y9=>k (.inr (.inr (.inr (.inr (.inr (.inr (.inr (.inr (.inr (.inl (y9.1,x.u3,y9.2.1,y9.u2,y9.u3,y9.u4,x.u7,y9.u5,x.u9,y9.u6,x.u11,y9.u7,x.u12,x.u13,x.u14,x.u15,y9.u8,y9.u9,y9.v10,x.u17,x.u18,x.u19,x.u20,x.u21,x.u22,x.u23,x.v24)))))))))))) (Sum.elim (fun y10=>k (.inr (.inr (.inr (.inr (.inr (.inr (.inr (.inr (.inr (.inr (.inl (x.u3,y10.1,y10.2.1,y10.u2,y10.u3,x.u7,y10.u4,x.u9,y10.u5,x.u11,y10.u6,x.u12,x.u13,x.u14,x.u15,y10.u7,y10.v8,x.u17,x.u18,x.u19,x.u20,x.u21,x.u22,x.u23,x.v24))))))))))))) (Sum.elim (fun y11=>k (.inr (.inr (.inr (.inr (.inr (.inr (.inr (.inr (.inr (.inr (.inr (.inl (x.u3,y11.1,y11.2.1,y11.u2,y11.u3,x.u7,y11.u4,x.u9,y11.u5,x.u11,y11.u6,x.u12,x.u13,x.u14,x.u15,y11.u7,y11.v8,x.u17,x.u18,x.u19,x.u20,x.u21,x.u22,x.u23,x.v24)))))))))))))) (Sum.elim (fun y12=>k (.inr (.inr (.inr (.inr (.inr (.inr (.inr (.inr (.inr (.inr (.inr (.inr (.inl (x.u3,y12.1,y12.2.1,y12.u2,x.u3,x.u7,y12.u3,x.u9,y12.u4,x.u11,y12.u5,y12.u6,y12.u7,x.u12,x.u13,x.u14,x.u15,y12.u8,y12.v9,x.u17,x.u18,x.u19,x.u20,x.u21,x.u22,x.u23,x.v24))))))))))))))) (Sum.elim (fun y13=>k (.inr (.inr (.inr (.inr (.inr (.inr (.inr (.inr (.inr (.inr (.inr (.inr (.inr (.inl (x.u3,y13.1,y13.2.1,y13.u2,x.u3,x.u7,y13.u3,x.u9,y13.u4,x.u11,y13.u5,y13.u6,y13.u7,x.u12,x.u13,x.u14,x.u15,y13.u8,y13.v9,x.u17,x.u18,x.u19,x.u20,x.u21,x.u22,x.u23,x.v24)))))))))))))))) (Sum.elim (fun y14=>k (.inr (.inr (.inr (.inr (.inr (.inr (.inr (.inr (.inr (.inr (.inr (.inr (.inr (.inr (.inl (x.u3,y14.1,y14.2.1,y14.u2,x.u3,x.u7,y14.u3,x.u9,y14.u4,x.u11,y14.u5,x.u12,x.u13,x.u14,x.u15,y14.u6,y14.v7,x.u17,x.u18,x.u19,x.u20,x.u21,x.u22,x.u23,x.v24))))))))))))))))) (Sum.elim (fun y15=>k (.inr (.inr (.inr (.inr (.inr (.inr (.inr (.inr (.inr (.inr (.inr (.inr (.inr (.inr (.inr (.inl (x.u3,y15.1,y15.2.1,y15.u2,x.u3,x.u7,y15.u3,x.u9,y15.u4,x.u11,y15.u5,x.u12,x.u13,x.u14,x.u15,y15.u6,y15.v7,x.u17,x.u18,x.u19,x.u20,x.u21,x.u22,x.u23,x.v24)))))))))))))))))) (fun y16=>k (.inr (.inr (.inr (.inr (.inr (.inr (.inr (.inr (.inr (.inr (.inr (.inr (.inr (.inr (.inr (.inr (x.u3,y16.1,y16.2.1,y16.u2,x.u7,x.u8,x.u9,y16.u3,x.u11,x.u12,x.u13,x.u14,x.u15,y16.v4,x.u17,x.u18,x.u19,x.u20,x.u21,x.u22,x.u23,x.v24)))))))))))))))))))))))))))))))))
def q4m (x:tq5) (v:(Int×Int×Zb×Zc×Bool×Zc×Zc)):tq5:=(x.1,v.1,v.2.1,x.u3,v.u2,v.u3,v.u4,x.u7,x.u8,x.u9,v.u5,x.u11,x.u12,x.u13,x.u14,x.u15,v.v6,x.u17,x.u18,x.u19,x.u20,x.u21,x.u22,x.u23,x.v24)
theorem q4n (ih:tqo->Option tqg) (x:tq5):LE.step X q4k q3X (PE.ps X q3W (fun x q=>(ih x).bind q) q2n) (q3Z ih) 12 x=X1 ih x.1 x.u3 x.u7 x.u8 x.u9 x.u11 x.u12 x.u13 x.u14 x.u15 x.u17 x.u18 x.u19 x.u20 x.u21 x.u22 x.u23 x.v24 x.2.1 x.u2 x.u4 x.u5 x.u6 x.u10 x.u16 (fun w=>Sum.inl (q4m x w)) (fun o=>Sum.inr (q4l x id o)):=by kernel_rfl
def q4o (ih:tqo->Option tqg) {R:Type}:Z21 S R:=LE.ls X q4k (fun x k=>(XM ih x.1 x.u3 x.u7 x.u8 x.u9 x.u11 x.u12 x.u13 x.u14 x.u15 x.u17 x.u18 x.u19 x.u20 x.u21 x.u22 x.u23 x.v24 (x.2.1,x.u2,x.u4,x.u5,x.u6,x.u10,x.u16)).bind (q4l x k)) (q3Z ih)
theorem q4p (ih:tqo->Option tqg) (hih:ZcD X q3W ih) {R:Type}:Z2e X (q4o ih (R:=R)):=Zke xok q3Y (e:=q4k) (Zk8 (e:=q3W) hih q2o) (q40 ih hih) (st:=fun(x:tq5)=>Xb ih x.1 x.u3 x.u7 x.u8 x.u9 x.u11 x.u12 x.u13 x.u14 x.u15 x.u17 x.u18 x.u19 x.u20 x.u21 x.u22 x.u23 x.v24) (prj:=fun(x:tq5)=>(x.2.1,x.u2,x.u4,x.u5,x.u6,x.u10,x.u16)) (emb:=q4m) q4l (fun x=>(q4n ih x).trans (by unfold Xb X1;simp only[Zk2,ZjT,Zk3,Option.map_some,Option.map_none];rfl)) (q40 ih hih)
theorem q4q (ih:tqo->Option tqg) (x:((Nat->Y2)×Int×(List Zb)×Zc×Bool×Zc×Zc)):PE.step X q3W q3X (PE.ps X q3W (fun x q=>(ih x).bind q) q2n) (q4o ih) 12 x=Xg ih x.1 x.2.1 x.u2 x.u3 x.u4 x.u5 x.v6:=by kernel_rfl
theorem q4r:ZcD X q3W W1:=Zk9 (X:=X) (e:=q3W) (t:=X4) fun ih hih=>Zkf (ZjG xok q3Y (Zk8 (e:=q3W) hih q2o) (q4p ih hih) 12) fun x _ h=>(q4q ih x).trans h
def q4s {R:Type}:Prs S R:=PE.ps X q3W (fun x q=>(W1 x).bind q) q2n
theorem q4t {R:Type}:Z8k X (q4s (R:=R)):=Zk8 (e:=q3W) q4r q2o
def q4u:StT S:=⟨(N v1z vI (N (N L (some (.ptr 4 0)) L) (some .sl0) L)),o1C,6⟩
def q4x:PE S:=⟨82,6,q4u,[(.arr (.st 5)),.int,(.st 25),.bool,(.st 25),(.st 25)],[q3U,q3V]⟩
def q4D:StT S:=⟨v16,oK,70⟩
def q4E:Way S:=⟨.ret,⟨L,(N o18 oa o1e),166⟩,[(.arr (.st 5)),(.st 28),(.st 25),.bool,(.arr (.st 5)),(.arr (.st 5)),.bool,.int,(.st 25),(.lst (.st 19)),(.lst (.st 28)),(.st 28),(.lst (.st 19)),(.st 21),(.lst (.st 28)),(.st 25),(.st 25),(.st 19),.int,(.lst (.st 28)),.int,.bool,(.arr (.st 5)),.bool,.int,.bool]⟩
def q4F:Way S:=⟨.ret,⟨L,(N o19 oa o1e),166⟩,[(.arr (.st 5)),(.st 28),(.st 25),.bool,(.arr (.st 5)),(.arr (.st 5)),.bool,.int,(.st 25),(.lst (.st 19)),(.lst (.st 28)),(.st 28),(.lst (.st 19)),(.st 21),(.lst (.st 28)),(.st 25),(.st 25),(.st 19),.int,(.lst (.st 28)),.int,.bool,(.arr (.st 5)),.bool,.int,.bool]⟩
def q4G:Way S:=⟨.ret,⟨L,oQ,159⟩,[(.arr (.st 5)),(.st 28),(.st 25),.bool,(.arr (.st 5)),(.arr (.st 5)),.bool,.int,(.st 25),(.lst (.st 19)),(.st 28),(.lst (.st 19)),(.st 21),(.lst (.st 28)),(.st 25),(.st 25),(.st 19),.int,.int,.bool,(.arr (.st 5)),.bool,.int,.bool]⟩
def q4H:Way S:=⟨.ret,⟨L,oR,159⟩,[(.arr (.st 5)),(.st 28),(.st 25),.bool,(.arr (.st 5)),(.arr (.st 5)),.bool,.int,(.st 25),(.lst (.st 19)),(.st 28),(.lst (.st 19)),(.st 21),(.lst (.st 28)),(.st 25),(.st 25),(.st 19),.int,.int,.bool,(.arr (.st 5)),.bool,.int,.bool]⟩
def q4I:Way S:=⟨.ret,⟨L,(N oV oa o1i),151⟩,[(.arr (.st 5)),(.st 28),(.st 25),(.lst (.st 28)),.bool,(.arr (.st 5)),(.arr (.st 5)),.bool,.int,(.st 25),(.lst (.st 19)),(.st 28),(.lst (.st 19)),(.st 21),(.lst (.st 28)),(.st 25),(.st 25),(.st 19),.int,.int,(.lst (.st 28)),.bool,(.arr (.st 5)),.bool,.int,.bool]⟩
def q4J:Way S:=⟨.ret,⟨L,(N oW oa o1i),151⟩,[(.arr (.st 5)),(.st 28),(.st 25),(.lst (.st 28)),.bool,(.arr (.st 5)),(.arr (.st 5)),.bool,.int,(.st 25),(.lst (.st 19)),(.st 28),(.lst (.st 19)),(.st 21),(.lst (.st 28)),(.st 25),(.st 25),(.st 19),.int,.int,(.lst (.st 28)),.bool,(.arr (.st 5)),.bool,.int,.bool]⟩
def q4K:Way S:=⟨.ret,⟨L,oQ,144⟩,[(.arr (.st 5)),(.st 28),(.st 25),.bool,(.arr (.st 5)),(.arr (.st 5)),.bool,.int,(.st 25),(.lst (.st 19)),(.st 28),(.lst (.st 19)),(.st 21),(.lst (.st 28)),(.st 25),(.st 25),(.st 19),.int,.int,.bool,(.arr (.st 5)),.bool,.int,.bool]⟩
def q4L:Way S:=⟨.ret,⟨L,oR,144⟩,[(.arr (.st 5)),(.st 28),(.st 25),.bool,(.arr (.st 5)),(.arr (.st 5)),.bool,.int,(.st 25),(.lst (.st 19)),(.st 28),(.lst (.st 19)),(.st 21),(.lst (.st 28)),(.st 25),(.st 25),(.st 19),.int,.int,.bool,(.arr (.st 5)),.bool,.int,.bool]⟩
def q4M:Way S:=⟨.ret,⟨L,(N o10 oa o14),152⟩,[(.lst (.st 28)),(.arr (.st 5)),(.st 28),(.st 25),.bool,(.arr (.st 5)),(.arr (.st 5)),.bool,.int,(.st 25),(.lst (.st 19)),(.st 28),(.lst (.st 19)),(.st 21),(.lst (.st 28)),(.st 25),(.lst (.st 28)),(.st 25),(.st 19),.int,.int,.bool,(.arr (.st 5)),.bool,.int,.bool]⟩
def q4N:Way S:=⟨.ret,⟨L,(N o11 oa o14),152⟩,[(.lst (.st 28)),(.arr (.st 5)),(.st 28),(.st 25),.bool,(.arr (.st 5)),(.arr (.st 5)),.bool,.int,(.st 25),(.lst (.st 19)),(.st 28),(.lst (.st 19)),(.st 21),(.lst (.st 28)),(.st 25),(.lst (.st 28)),(.st 25),(.st 19),.int,.int,.bool,(.arr (.st 5)),.bool,.int,.bool]⟩
def q4O:Way S:=⟨.ret,⟨L,oQ,145⟩,[(.arr (.st 5)),(.st 28),(.st 25),.bool,(.arr (.st 5)),(.arr (.st 5)),.bool,.int,(.st 25),(.lst (.st 19)),(.st 28),(.lst (.st 19)),(.st 21),(.lst (.st 28)),(.st 25),(.st 25),(.st 19),.int,.int,.bool,(.arr (.st 5)),.bool,.int,.bool]⟩
def q4P:Way S:=⟨.ret,⟨L,oR,145⟩,[(.arr (.st 5)),(.st 28),(.st 25),.bool,(.arr (.st 5)),(.arr (.st 5)),.bool,.int,(.st 25),(.lst (.st 19)),(.st 28),(.lst (.st 19)),(.st 21),(.lst (.st 28)),(.st 25),(.st 25),(.st 19),.int,.int,.bool,(.arr (.st 5)),.bool,.int,.bool]⟩
def q4Q:Way S:=⟨.ret,⟨L,(N o1a oa o1k),137⟩,[(.arr (.st 5)),(.st 28),(.st 25),.bool,(.arr (.st 5)),(.arr (.st 5)),.bool,.int,(.st 25),(.lst (.st 19)),(.st 28),(.lst (.st 28)),(.lst (.st 28)),(.lst (.st 19)),(.st 21),(.lst (.st 28)),(.st 25),(.st 25),(.st 19),.int,.int,.bool,(.arr (.st 5)),.bool,.int,.bool]⟩
def q4R:Way S:=⟨.ret,⟨L,(N o1b oa o1k),137⟩,[(.arr (.st 5)),(.st 28),(.st 25),.bool,(.arr (.st 5)),(.arr (.st 5)),.bool,.int,(.st 25),(.lst (.st 19)),(.st 28),(.lst (.st 28)),(.lst (.st 28)),(.lst (.st 19)),(.st 21),(.lst (.st 28)),(.st 25),(.st 25),(.st 19),.int,.int,.bool,(.arr (.st 5)),.bool,.int,.bool]⟩
def q4S:Way S:=⟨.ret,⟨L,oQ,130⟩,[(.arr (.st 5)),(.st 28),(.st 25),.bool,(.arr (.st 5)),(.arr (.st 5)),.bool,.int,(.st 25),(.lst (.st 19)),(.st 28),(.lst (.st 19)),(.st 21),(.lst (.st 28)),(.st 25),(.st 25),(.st 19),.int,.int,.bool,(.arr (.st 5)),.bool,.int,.bool]⟩
def q4T:Way S:=⟨.ret,⟨L,oR,130⟩,[(.arr (.st 5)),(.st 28),(.st 25),.bool,(.arr (.st 5)),(.arr (.st 5)),.bool,.int,(.st 25),(.lst (.st 19)),(.st 28),(.lst (.st 19)),(.st 21),(.lst (.st 28)),(.st 25),(.st 25),(.st 19),.int,.int,.bool,(.arr (.st 5)),.bool,.int,.bool]⟩
def q4U:Way S:=⟨(.exit 0),⟨L,oK,71⟩,[(.arr (.st 5)),(.st 28),(.st 25),.bool,(.arr (.st 5)),.bool,.int,(.st 25),(.lst (.st 19)),(.lst (.st 19)),(.st 21),(.lst (.st 28)),(.st 25),(.st 25),.int,.int,.bool,(.arr (.st 5)),.bool,.int,.bool]⟩
def q4V:LE S:=⟨q41,q4D,[.int,.int,.int,(.arr (.st 5)),(.st 28),(.st 25),.bool,(.arr (.st 5)),.bool,.int,(.st 25),(.lst (.st 19)),(.lst (.st 19)),(.st 21),(.lst (.st 28)),(.st 25),(.st 25),.int,.int,.bool,(.arr (.st 5)),.bool,.int,.bool],[q4E,q4F,q4G,q4H,q4I,q4J,q4K,q4L,q4M,q4N,q4O,q4P,q4Q,q4R,q4S,q4T,q4U]⟩
def q4W {T:Type} (x:tq7) (k:(((Nat->Y2)×Zb×Zc×Bool×(Nat->Y2)×(Nat->Y2)×Bool×Int×Zc×(List Zq)×(List Zb)×Zb×(List Zq)×Zr×(List Zb)×Zc×Zc×Zq×Int×(List Zb)×Int×Bool×(Nat->Y2)×Bool×Int×Bool)⊕((Nat->Y2)×Zb×Zc×Bool×(Nat->Y2)×(Nat->Y2)×Bool×Int×Zc×(List Zq)×(List Zb)×Zb×(List Zq)×Zr×(List Zb)×Zc×Zc×Zq×Int×(List Zb)×Int×Bool×(Nat->Y2)×Bool×Int×Bool)⊕tq6⊕tq6⊕((Nat->Y2)×Zb×Zc×(List Zb)×Bool×(Nat->Y2)×(Nat->Y2)×Bool×Int×Zc×(List Zq)×Zb×(List Zq)×Zr×(List Zb)×Zc×Zc×Zq×Int×Int×(List Zb)×Bool×(Nat->Y2)×Bool×Int×Bool)⊕((Nat->Y2)×Zb×Zc×(List Zb)×Bool×(Nat->Y2)×(Nat->Y2)×Bool×Int×Zc×(List Zq)×Zb×(List Zq)×Zr×(List Zb)×Zc×Zc×Zq×Int×Int×(List Zb)×Bool×(Nat->Y2)×Bool×Int×Bool)⊕tq6⊕tq6⊕((List Zb)×(Nat->Y2)×Zb×Zc×Bool×(Nat->Y2)×(Nat->Y2)×Bool×Int×Zc×(List Zq)×Zb×(List Zq)×Zr×(List Zb)×Zc×(List Zb)×Zc×Zq×Int×Int×Bool×(Nat->Y2)×Bool×Int×Bool)⊕((List Zb)×(Nat->Y2)×Zb×Zc×Bool×(Nat->Y2)×(Nat->Y2)×Bool×Int×Zc×(List Zq)×Zb×(List Zq)×Zr×(List Zb)×Zc×(List Zb)×Zc×Zq×Int×Int×Bool×(Nat->Y2)×Bool×Int×Bool)⊕tq6⊕tq6⊕((Nat->Y2)×Zb×Zc×Bool×(Nat->Y2)×(Nat->Y2)×Bool×Int×Zc×(List Zq)×Zb×(List Zb)×(List Zb)×(List Zq)×Zr×(List Zb)×Zc×Zc×Zq×Int×Int×Bool×(Nat->Y2)×Bool×Int×Bool)⊕((Nat->Y2)×Zb×Zc×Bool×(Nat->Y2)×(Nat->Y2)×Bool×Int×Zc×(List Zq)×Zb×(List Zb)×(List Zb)×(List Zq)×Zr×(List Zb)×Zc×Zc×Zq×Int×Int×Bool×(Nat->Y2)×Bool×Int×Bool)⊕tq6⊕tq6⊕((Nat->Y2)×Zb×Zc×Bool×(Nat->Y2)×Bool×Int×Zc×(List Zq)×(List Zq)×Zr×(List Zb)×Zc×Zc×Int×Int×Bool×(Nat->Y2)×Bool×Int×Bool))->T):(tq9⊕tq9⊕tql⊕tql⊕tqa⊕tqa⊕tql⊕tql⊕tqb⊕tqb⊕tql⊕tql⊕tqe⊕tqe⊕tqn⊕tqn⊕(Zb×Zc×Bool×Zc×Zc))->T:=Sum.elim (fun y0=>k (.inl (x.u3,y0.1,y0.2.1,y0.u2,y0.u3,x.u7,y0.u4,x.u9,y0.u5,x.u11,y0.u6,y0.u7,x.u12,x.u13,x.u14,x.u15,y0.u8,y0.u9,x.u17,y0.v10,x.u18,x.u19,x.u20,x.u21,x.u22,x.v23))) (Sum.elim (fun y1=>k (.inr (.inl (x.u3,y1.1,y1.2.1,y1.u2,y1.u3,x.u7,y1.u4,x.u9,y1.u5,x.u11,y1.u6,y1.u7,x.u12,x.u13,x.u14,x.u15,y1.u8,y1.u9,x.u17,y1.v10,x.u18,x.u19,x.u20,x.u21,x.u22,x.v23)))) (Sum.elim (fun y2=>k (.inr (.inr (.inl (x.u3,y2.1,y2.2.1,y2.u2,y2.u3,x.u7,y2.u4,x.u9,y2.u5,x.u11,y2.u6,x.u12,x.u13,x.u14,x.u15,y2.u7,y2.v8,x.u17,x.u18,x.u19,x.u20,x.u21,x.u22,x.v23))))) (Sum.elim (fun y3=>k (.inr (.inr (.inr (.inl (x.u3,y3.1,y3.2.1,y3.u2,y3.u3,x.u7,y3.u4,x.u9,y3.u5,x.u11,y3.u6,x.u12,x.u13,x.u14,x.u15,y3.u7,y3.v8,x.u17,x.u18,x.u19,x.u20,x.u21,x.u22,x.v23)))))) (Sum.elim (fun y4=>k (.inr (.inr (.inr (.inr (.inl (x.u3,y4.1,y4.2.1,y4.u2,y4.u3,y4.u4,x.u7,y4.u5,x.u9,y4.u6,x.u11,y4.u7,x.u12,x.u13,x.u14,x.u15,y4.u8,y4.u9,x.u17,x.u18,y4.v10,x.u19,x.u20,x.u21,x.u22,x.v23))))))) (Sum.elim (fun y5=>k (.inr (.inr (.inr (.inr (.inr (.inl (x.u3,y5.1,y5.2.1,y5.u2,y5.u3,y5.u4,x.u7,y5.u5,x.u9,y5.u6,x.u11,y5.u7,x.u12,x.u13,x.u14,x.u15,y5.u8,y5.u9,x.u17,x.u18,y5.v10,x.u19,x.u20,x.u21,x.u22,x.v23)))))))) (Sum.elim (fun y6=>k (.inr (.inr (.inr (.inr (.inr (.inr (.inl (x.u3,y6.1,y6.2.1,y6.u2,y6.u3,x.u7,y6.u4,x.u9,y6.u5,x.u11,y6.u6,x.u12,x.u13,x.u14,x.u15,y6.u7,y6.v8,x.u17,x.u18,x.u19,x.u20,x.u21,x.u22,x.v23))))))))) (Sum.elim (fun y7=>k (.inr (.inr (.inr (.inr (.inr (.inr (.inr (.inl (x.u3,y7.1,y7.2.1,y7.u2,y7.u3,x.u7,y7.u4,x.u9,y7.u5,x.u11,y7.u6,x.u12,x.u13,x.u14,x.u15,y7.u7,y7.v8,x.u17,x.u18,x.u19,x.u20,x.u21,x.u22,x.v23)))))))))) (Sum.elim (fun y8=>k (.inr (.inr (.inr (.inr (.inr (.inr (.inr (.inr (.inl (y8.1,x.u3,y8.2.1,y8.u2,y8.u3,y8.u4,x.u7,y8.u5,x.u9,y8.u6,x.u11,y8.u7,x.u12,x.u13,x.u14,x.u15,y8.u8,y8.u9,y8.v10,x.u17,x.u18,x.u19,x.u20,x.u21,x.u22,x.v23))))))))))) (Sum.elim (fun y9=>k (.inr (.inr (.inr (.inr (.inr (.inr (.inr (.inr (.inr (.inl (y9.1,x.u3,y9.2.1,y9.u2,y9.u3,y9.u4,x.u7,y9.u5,x.u9,y9.u6,x.u11,y9.u7,x.u12,x.u13,x.u14,x.u15,y9.u8,y9.u9,y9.v10,x.u17,x.u18,x.u19,x.u20,x.u21,x.u22,x.v23)))))))))))) (Sum.elim (fun y10=>k (.inr (.inr (.inr (.inr (.inr (.inr (.inr (.inr (.inr (.inr (.inl (x.u3,y10.1,y10.2.1,y10.u2,y10.u3,x.u7,y10.u4,x.u9,y10.u5,x.u11,y10.u6,x.u12,x.u13,x.u14,x.u15,y10.u7,y10.v8,x.u17,x.u18,x.u19,x.u20,x.u21,x.u22,x.v23))))))))))))) (Sum.elim (fun y11=>k (.inr (.inr (.inr (.inr (.inr (.inr (.inr (.inr (.inr (.inr (.inr (.inl (x.u3,y11.1,y11.2.1,y11.u2,y11.u3,x.u7,y11.u4,x.u9,y11.u5,x.u11,y11.u6,x.u12,x.u13,x.u14,x.u15,y11.u7,y11.v8,x.u17,x.u18,x.u19,x.u20,x.u21,x.u22,x.v23)))))))))))))) (Sum.elim (fun y12=>k (.inr (.inr (.inr (.inr (.inr (.inr (.inr (.inr (.inr (.inr (.inr (.inr (.inl (x.u3,y12.1,y12.2.1,y12.u2,x.u3,x.u7,y12.u3,x.u9,y12.u4,x.u11,y12.u5,y12.u6,y12.u7,x.u12,x.u13,x.u14,x.u15,y12.u8,y12.v9,x.u17,x.u18,x.u19,x.u20,x.u21,x.u22,x.v23))))))))))))))) (Sum.elim (fun y13=>k (.inr (.inr (.inr (.inr (.inr (.inr (.inr (.inr (.inr (.inr (.inr (.inr (.inr (.inl (x.u3,y13.1,y13.2.1,y13.u2,x.u3,x.u7,y13.u3,x.u9,y13.u4,x.u11,y13.u5,y13.u6,y13.u7,x.u12,x.u13,x.u14,x.u15,y13.u8,y13.v9,x.u17,x.u18,x.u19,x.u20,x.u21,x.u22,x.v23)))))))))))))))) (Sum.elim (fun y14=>k (.inr (.inr (.inr (.inr (.inr (.inr (.inr (.inr (.inr (.inr (.inr (.inr (.inr (.inr (.inl (x.u3,y14.1,y14.2.1,y14.u2,x.u3,x.u7,y14.u3,x.u9,y14.u4,x.u11,y14.u5,x.u12,x.u13,x.u14,x.u15,y14.u6,y14.v7,x.u17,x.u18,x.u19,x.u20,x.u21,x.u22,x.v23))))))))))))))))) (Sum.elim (fun y15=>k (.inr (.inr (.inr (.inr (.inr (.inr (.inr (.inr (.inr (.inr (.inr (.inr (.inr (.inr (.inr (.inl (x.u3,y15.1,y15.2.1,y15.u2,x.u3,x.u7,y15.u3,x.u9,y15.u4,x.u11,y15.u5,x.u12,x.u13,x.u14,x.u15,y15.u6,y15.v7,x.u17,x.u18,x.u19,x.u20,x.u21,x.u22,x.v23)))))))))))))))))) (fun y16=>k (.inr (.inr (.inr (.inr (.inr (.inr (.inr (.inr (.inr (.inr (.inr (.inr (.inr (.inr (.inr (.inr (x.u3,y16.1,y16.2.1,y16.u2,x.u7,x.u8,x.u9,y16.u3,x.u11,x.u12,x.u13,x.u14,x.u15,y16.v4,x.u17,x.u18,x.u19,x.u20,x.u21,x.u22,x.v23)))))))))))))))))))))))))))))))))
def q4X (x:tq7) (v:(Int×Int×Zb×Zc×Bool×Zc×Zc)):tq7:=(x.1,v.1,v.2.1,x.u3,v.u2,v.u3,v.u4,x.u7,x.u8,x.u9,v.u5,x.u11,x.u12,x.u13,x.u14,x.u15,v.v6,x.u17,x.u18,x.u19,x.u20,x.u21,x.u22,x.v23)
theorem q4Y (x:tq7):LE.step X q4V q3X q4s q4 12 x=Wk x.1 x.u3 x.u7 x.u8 x.u9 x.u11 x.u12 x.u13 x.u14 x.u15 x.u17 x.u18 x.u19 x.u20 x.u21 x.u22 x.v23 x.2.1 x.u2 x.u4 x.u5 x.u6 x.u10 x.u16 (fun w=>Sum.inl (q4X x w)) (fun o=>Sum.inr (q4W x id o)):=by kernel_rfl
def q4Z {R:Type}:Z21 S R:=LE.ls X q4V (fun x k=>(X1w x.1 x.u3 x.u7 x.u8 x.u9 x.u11 x.u12 x.u13 x.u14 x.u15 x.u17 x.u18 x.u19 x.u20 x.u21 x.u22 x.v23 (x.2.1,x.u2,x.u4,x.u5,x.u6,x.u10,x.u16)).bind (q4W x k)) q4
theorem q50 {R:Type}:Z2e X (q4Z (R:=R)):=Zke xok q3Y (e:=q4V) q4t q5 (st:=fun(x:tq7)=>WB x.1 x.u3 x.u7 x.u8 x.u9 x.u11 x.u12 x.u13 x.u14 x.u15 x.u17 x.u18 x.u19 x.u20 x.u21 x.u22 x.v23) (prj:=fun(x:tq7)=>(x.2.1,x.u2,x.u4,x.u5,x.u6,x.u10,x.u16)) (emb:=q4X) q4W (fun x=>(q4Y x).trans (by unfold WB Wk X1;simp only[Zk2,ZjT,Zk3,Option.map_some,Option.map_none];rfl)) q5
theorem q51 (x:((Nat->Y2)×Int×Zc×Bool×Zc×Zc)):PE.step X q4x q3X q4s q4Z 12 x=W5 x.1 x.2.1 x.u2 x.u3 x.u4 x.v5:=by kernel_rfl
theorem q52:ZcD X q4x W0:=Zkf (ZjG xok q3Y q4t q50 12) fun x _ h=>((q51 x).trans (X23 x).symm).trans h
def q53 {R:Type}:Prs S R:=PE.ps X q4x (fun x q=>(W0 x).bind q) q4s
theorem q54 {R:Type}:Z8k X (q53 (R:=R)):=Zk8 (e:=q4x) q52 q4t
def q55:StT S:=⟨(N (N L (some (.ptr 1 0)) L) (some (.yld 3)) L),(N (N (N L o8 L) on L) ou (N L on L)),4⟩
def q56:Way S:=⟨.ret,⟨(N L (some (.tup [])) L),(N (N (N L o8 L) on L) ou (N L on L)),4⟩,[(.st 25),(.st 25),.bool,(.st 25)]⟩
def q57:Way S:=⟨.ret,⟨(N L (some (.tup [])) L),(N (N (N L (some (.loop 39 (N (N L (some (.ptr 2 0)) L) (some (.agg [(.stc 25 (T.dflt 25))])) (N (N L (some (.fn (.func 81) [] [(.ptr 1 0)])) L) (some (.ptr 0 0)) L)) (5::[]) .skip .skip 0 .ret (0::(39::[])) (0::(1::(0::(1::[])))))) L) on L) ou (N L on L)),4⟩,[(.st 25),(.st 25),.bool,(.st 25)]⟩
def q58:PE S:=⟨81,2,q55,[(.st 25),(.st 25),.bool,(.st 25)],[q56,q57]⟩
def q5d:Key:=⟨[81],81,none,[0,0,1,0,1,1],0,11⟩
def q5e:StT S:=⟨(N (N (N L (some (.ptr 5 0)) (N L vI L)) (some (.ptr 1 0)) (N (N L vF L) none L)) none (N L (some (.ptr 4 0)) (N (N L vI L) none L))),o1E,11⟩
def q5f:Way S:=⟨(.exit 0),⟨(N (N (N L (some (.ptr 5 0)) L) (some (.ptr 1 0)) L) none (N L (some (.ptr 4 0)) L)),o1E,12⟩,[(.st 25),(.st 25),(.arr (.st 5)),.bool,(.st 25)]⟩
def q5g:LE S:=⟨q5d,q5e,[.int,(.lst (.st 19)),.int,(.st 25),(.st 25),(.arr (.st 5)),.bool,(.st 25)],[q5f]⟩
def q5h {T:Type} (x:tqp) (k:(Zc×Zc×(Nat->Y2)×Bool×Zc)->T):(Nat->Y2)->T:=fun y0=>k (x.u3,x.u4,y0,x.u6,x.v7)
def q5i (x:tqp) (v:(Int×(Nat->Y2))):tqp:=(v.1,x.2.1,x.u2,x.u3,x.u4,v.2,x.u6,x.v7)
theorem q5j (x:tqp):LE.step X q5g q3X q2n q4 12 x=X6 x.2.1 x.u2 x.u3 x.u4 x.u6 x.v7 x.1 x.u5 (fun w=>Sum.inl (q5i x w)) (fun o=>Sum.inr (q5h x id o)):=by kernel_rfl
def q5k {R:Type}:Z21 S R:=LE.ls X q5g (fun x k=>(W4 x.2.1 x.u2 x.u3 x.u4 x.u6 x.v7 (x.1,x.u5)).bind (q5h x k)) q4
theorem q5l {R:Type}:Z2e X (q5k (R:=R)):=Zke xok q3Y (e:=q5g) q2o q5 (st:=fun(x:tqp)=>Xi x.2.1 x.u2 x.u3 x.u4 x.u6 x.v7) (prj:=fun(x:tqp)=>(x.1,x.u5)) (emb:=q5i) q5h (fun x=>(q5j x).trans (by unfold Xi X6;simp only[Zk2,ZjT,Zk3,Option.map_some,Option.map_none];rfl)) q5
theorem q5m (x:(Zc×Zc×Bool×Zc)):PE.step X q58 q3X q53 q5k 12 x=XJ x.1 x.2.1 x.u2 x.v3:=by kernel_rfl
theorem q5n:ZcD X q58 WU:=Zkf (ZjG xok q3Y q54 q5l 12) fun x _ h=>((q5m x).trans (X2A x).symm).trans h
def q5o {R:Type}:Prs S R:=PE.ps X q58 (fun x q=>(WU x).bind q) q53
theorem q5p {R:Type}:Z8k X (q5o (R:=R)):=Zk8 (e:=q58) q5n q54
theorem q5r:Z95 X (q3X):=⟨q3S,trivial⟩
theorem q5u (x0:Zc):Zkg X q3X [(.st 25)] [.bool] q5o q4 12 39 (x0,())=Ws x0:=by kernel_rfl
def q5v:F7 S:=⟨[(.st 25)],[.bool],fun xs=>X8 xs.1⟩
theorem q5w:Zav X 39 q5v:=Zkd (Zkc xok q5r q5p q5 12 39) fun xs _ h=>((q5u xs.1).trans (X3K xs.1).symm).trans h
def q5x:List (Nat×F7 S):=[(37,q2B),(57,qF),(39,q5v)]
theorem q5y:Z95 X (q5x):=⟨q2C,qG,q5w,trivial⟩
theorem q5B (x0:CoRecord) (x1:List Zr) (x2:Zr):Zkg X q5x [(.st 20),(.sl (.st 21)),(.st 21)] [(.st 25),(.int .i64)] q5o q4 12 31 (x0,x1,x2,())=X3M x0 x1 x2:=by kernel_rfl
def q5C:F7 S:=⟨[(.st 20),(.sl (.st 21)),(.st 21)],[(.st 25),(.int .i64)],fun xs=>X6g xs.1 xs.2.1 xs.u2⟩
theorem q5D:Zav X 31 q5C:=Zkd (Zkc xok q5y q5p q5 12 31) fun xs _ h=>((q5B xs.1 xs.2.1 xs.u2).trans (X7L xs.1 xs.2.1 xs.u2).symm).trans h
theorem q5I (x0:Zc) (x1:List Zr):Zkg X q2 [(.st 25),(.sl (.st 21))] [(.st 25)] q5o q4 12 79 (x0,x1,())=WK x0 x1:=by kernel_rfl
def q5J:F7 S:=⟨[(.st 25),(.sl (.st 21))],[(.st 25)],fun xs=>X2r xs.1 xs.2.1⟩
theorem q5K:Zav X 79 q5J:=Zkd (Zkc xok q3 q5p q5 12 79) fun xs _ h=>((q5I xs.1 xs.2.1).trans (X3U xs.1 xs.2.1).symm).trans h
theorem q5P (x0:Int):Zkg X q2 [(.int .u32)] [(.int .i64)] q5o q4 12 144 (x0,())=X1Y x0:=by kernel_rfl
def q5Q:F7 S:=⟨[(.int .u32)],[(.int .i64)],fun xs=>X5n xs.1⟩
theorem q5R:Zav X 144 q5Q:=Zkd (Zkc xok q3 q5p q5 12 144) fun xs _ h=>((q5P xs.1).trans (X6i xs.1).symm).trans h
theorem q5W (x0:Int):Zkg X q2 [(.int .u64)] [(.int .i64)] q5o q4 12 145 (x0,())=X1Z x0:=by kernel_rfl
def q5X:F7 S:=⟨[(.int .u64)],[(.int .i64)],fun xs=>X5o xs.1⟩
theorem q5Y:Zav X 145 q5X:=Zkd (Zkc xok q3 q5p q5 12 145) fun xs _ h=>((q5W xs.1).trans (X6j xs.1).symm).trans h
def q5Z:List (Nat×F7 S):=[(144,q5Q),(145,q5X)]
theorem q60:Z95 X (q5Z):=⟨q5R,q5Y,trivial⟩
theorem q63 (x0:Int):Zkg X q5Z [(.int .u64)] [(.int .i64)] q5o q4 12 118 (x0,())=X2O x0:=by kernel_rfl
def q64:F7 S:=⟨[(.int .u64)],[(.int .i64)],fun xs=>X6a xs.1⟩
theorem q65:Zav X 118 q64:=Zkd (Zkc xok q60 q5p q5 12 118) fun xs _ h=>((q63 xs.1).trans (X6T xs.1).symm).trans h
theorem q6a (x0:Int):Zkg X q2 [(.int .i64)] [.bool] q5o q4 12 91 (x0,())=X5Z x0:=by kernel_rfl
def q6b:F7 S:=⟨[(.int .i64)],[.bool],fun xs=>X5Z xs.1⟩
theorem q6c:Zav X 91 q6b:=Zkd (Zkc xok q3 q5p q5 12 91) fun xs _ h=>(q6a xs.1).trans h
def q6d:List (Nat×F7 S):=[(91,q6b)]
theorem q6e:Z95 X (q6d):=⟨q6c,trivial⟩
theorem q6h (x0 x1:Int):Zkg X q6d [(.int .i64),(.int .i64)] [.bool] q5o q4 12 141 (x0,x1,())=X32 x0 x1:=by kernel_rfl
def q6i:F7 S:=⟨[(.int .i64),(.int .i64)],[.bool],fun xs=>X6r xs.1 xs.2.1⟩
theorem q6j:Zav X 141 q6i:=Zkd (Zkc xok q6e q5p q5 12 141) fun xs _ h=>((q6h xs.1 xs.2.1).trans (X74 xs.1 xs.2.1).symm).trans h
def q6k:List (Nat×F7 S):=[(141,q6i)]
theorem q6l:Z95 X (q6k):=⟨q6j,trivial⟩
theorem q6o (x0:List Int) (x1 x2:Int):Zkg X q6k [(.sl (.int .i64)),(.int .i64),(.int .i64)] [] q5o q4 12 135 (x0,x1,x2,())=XG x0 x1 x2:=by kernel_rfl
def q6p:F7 S:=⟨[(.sl (.int .i64)),(.int .i64),(.int .i64)],[],fun xs=>X1X xs.1 xs.2.1 xs.u2⟩
theorem q6q:Zav X 135 q6p:=Zkd (Zkc xok q6l q5p q5 12 135) fun xs _ h=>((q6o xs.1 xs.2.1 xs.u2).trans (X3u xs.1 xs.2.1 xs.u2).symm).trans h
theorem q6v (x0:List Int) (x1 x2 x3:Int):Zkg X q6k [(.sl (.int .i64)),(.int .i64),(.int .i64),(.int .i64)] [] q5o q4 12 163 (x0,x1,x2,x3,())=Wd x0 x1 x2 x3:=by kernel_rfl
def q6w:F7 S:=⟨[(.sl (.int .i64)),(.int .i64),(.int .i64),(.int .i64)],[],fun xs=>X31 xs.1 xs.2.1 xs.u2 xs.u3⟩
theorem q6x:Zav X 163 q6w:=Zkd (Zkc xok q6l q5p q5 12 163) fun xs _ h=>((q6v xs.1 xs.2.1 xs.u2 xs.u3).trans (X4f xs.1 xs.2.1 xs.u2 xs.u3).symm).trans h
def q6y:List (Nat×F7 S):=[(163,q6w)]
theorem q6z:Z95 X (q6y):=⟨q6x,trivial⟩
theorem q6C (x0:List Int) (x1 x2:Int):Zkg X q6y [(.sl (.int .i64)),(.int .i64),(.int .i64)] [] q5o q4 12 136 (x0,x1,x2,())=Wc x0 x1 x2:=by kernel_rfl
def q6D:F7 S:=⟨[(.sl (.int .i64)),(.int .i64),(.int .i64)],[],fun xs=>X30 xs.1 xs.2.1 xs.u2⟩
theorem q6E:Zav X 136 q6D:=Zkd (Zkc xok q6z q5p q5 12 136) fun xs _ h=>((q6C xs.1 xs.2.1 xs.u2).trans (X4e xs.1 xs.2.1 xs.u2).symm).trans h
def q6F:List (Nat×F7 S):=[(118,q64)]
theorem q6G:Z95 X (q6F):=⟨q65,trivial⟩
theorem q6J (x0:Int):Zkg X q6F [(.int .i64)] [(.int .u64)] q5o q4 12 164 (x0,())=WW x0:=by kernel_rfl
def q6K:F7 S:=⟨[(.int .i64)],[(.int .u64)],fun xs=>X3Y xs.1⟩
theorem q6L:Zav X 164 q6K:=Zkd (Zkc xok q6G q5p q5 12 164) fun xs _ h=>((q6J xs.1).trans (X4Q xs.1).symm).trans h
def q6M:List (Nat×F7 S):=[(164,q6K)]
theorem q6N:Z95 X (q6M):=⟨q6L,trivial⟩
theorem q6Q (x0:List Int) (x1 x2:Int):Zkg X q6M [(.sl (.int .i64)),(.int .i64),(.int .i64)] [] q5o q4 12 137 (x0,x1,x2,())=XF x0 x1 x2:=by kernel_rfl
def q6R:F7 S:=⟨[(.sl (.int .i64)),(.int .i64),(.int .i64)],[],fun xs=>X1W xs.1 xs.2.1 xs.u2⟩
theorem q6S:Zav X 137 q6R:=Zkd (Zkc xok q6N q5p q5 12 137) fun xs _ h=>((q6Q xs.1 xs.2.1 xs.u2).trans (X3t xs.1 xs.2.1 xs.u2).symm).trans h
theorem q6X (x0:List Int) (x1 x2:Int):Zkg X q6k [(.sl (.int .i64)),(.int .i64),(.int .i64)] [(.int .i64),(.int .i64)] q5o q4 12 138 (x0,x1,x2,())=XV x0 x1 x2:=by kernel_rfl
def q6Y:F7 S:=⟨[(.sl (.int .i64)),(.int .i64),(.int .i64)],[(.int .i64),(.int .i64)],fun xs=>X2l xs.1 xs.2.1 xs.u2⟩
theorem q6Z:Zav X 138 q6Y:=Zkd (Zkc xok q6l q5p q5 12 138) fun xs _ h=>((q6X xs.1 xs.2.1 xs.u2).trans (X3S xs.1 xs.2.1 xs.u2).symm).trans h
theorem q74 (x0:List Int) (x1 x2:Int):Zkg X q2 [(.sl (.int .i64)),(.int .i64),(.int .i64)] [] q5o q4 12 139 (x0,x1,x2,())=XQ x0 x1 x2:=by kernel_rfl
def q75:F7 S:=⟨[(.sl (.int .i64)),(.int .i64),(.int .i64)],[],fun xs=>X2b xs.1 xs.2.1 xs.u2⟩
theorem q76:Zav X 139 q75:=Zkd (Zkc xok q3 q5p q5 12 139) fun xs _ h=>((q74 xs.1 xs.2.1 xs.u2).trans (X3F xs.1 xs.2.1 xs.u2).symm).trans h
theorem q7b (x0:List Int) (x1 x2:Int):Zkg X q6k [(.sl (.int .i64)),(.int .i64),(.int .i64)] [.bool] q5o q4 12 140 (x0,x1,x2,())=Xj x0 x1 x2:=by kernel_rfl
def q7c:F7 S:=⟨[(.sl (.int .i64)),(.int .i64),(.int .i64)],[.bool],fun xs=>X16 xs.1 xs.2.1 xs.u2⟩
theorem q7d:Zav X 140 q7c:=Zkd (Zkc xok q6l q5p q5 12 140) fun xs _ h=>((q7b xs.1 xs.2.1 xs.u2).trans (X2F xs.1 xs.2.1 xs.u2).symm).trans h
theorem q7i (x0:List Int) (x1 x2 x3:Int):Zkg X q6k [(.sl (.int .i64)),(.int .i64),(.int .i64),(.int .i64)] [(.int .i64)] q5o q4 12 142 (x0,x1,x2,x3,())=Xw x0 x1 x2 x3:=by kernel_rfl
def q7j:F7 S:=⟨[(.sl (.int .i64)),(.int .i64),(.int .i64),(.int .i64)],[(.int .i64)],fun xs=>X1T xs.1 xs.2.1 xs.u2 xs.u3⟩
theorem q7k:Zav X 142 q7j:=Zkd (Zkc xok q6l q5p q5 12 142) fun xs _ h=>((q7i xs.1 xs.2.1 xs.u2 xs.u3).trans (X3h xs.1 xs.2.1 xs.u2 xs.u3).symm).trans h
theorem q7p (x0:List Int) (x1 x2 x3:Int):Zkg X q6k [(.sl (.int .i64)),(.int .i64),(.int .i64),(.int .i64)] [(.int .i64),.bool] q5o q4 12 143 (x0,x1,x2,x3,())=W7 x0 x1 x2 x3:=by kernel_rfl
def q7q:F7 S:=⟨[(.sl (.int .i64)),(.int .i64),(.int .i64),(.int .i64)],[(.int .i64),.bool],fun xs=>X2Q xs.1 xs.2.1 xs.u2 xs.u3⟩
theorem q7r:Zav X 143 q7q:=Zkd (Zkc xok q6l q5p q5 12 143) fun xs _ h=>((q7p xs.1 xs.2.1 xs.u2 xs.u3).trans (X41 xs.1 xs.2.1 xs.u2 xs.u3).symm).trans h
def q7s (ih:tqH->Option (Unit)):List (Nat×F7 S):=[(135,q6p),(136,q6D),(137,q6R),(138,q6Y),(139,q75),(140,q7c),(141,q6i),(142,q7j),(143,q7q),(117,⟨[(.sl (.int .i64)),(.int .i64),(.int .i64),(.int .i64)],[],ih⟩)]
theorem q7t (ih:tqH->Option (Unit)) (hih:Zav X 117 ⟨[(.sl (.int .i64)),(.int .i64),(.int .i64),(.int .i64)],[],ih⟩):Z95 X (q7s ih):=⟨q6q,q6E,q6S,q6Z,q76,q7d,q6j,q7k,q7r,hih,trivial⟩
abbrev q7u (ih:tqH->Option (Unit)) {R:Type}:Z21 S R:=Zj1
theorem q7v (ih:tqH->Option (Unit)) (hih:Zav X 117 ⟨[(.sl (.int .i64)),(.int .i64),(.int .i64),(.int .i64)],[],ih⟩) {R:Type}:Z2e X (q7u ih (R:=R)):=ZjC X
theorem q7w (ih:tqH->Option (Unit)) (x0:List Int) (x1 x2 x3:Int):Zkg X (q7s ih) [(.sl (.int .i64)),(.int .i64),(.int .i64),(.int .i64)] [] q5o (q7u ih) 12 117 (x0,x1,x2,x3,())=X2n ih x0 x1 x2 x3:=by kernel_rfl
def q7x:F7 S:=⟨[(.sl (.int .i64)),(.int .i64),(.int .i64),(.int .i64)],[],fun xs=>X4F xs.1 xs.2.1 xs.u2 xs.u3⟩
theorem q7y:Zav X 117 q7x:=ZkS (X:=X) (g:=117) (pts:=[(.sl (.int .i64)),(.int .i64),(.int .i64),(.int .i64)]) (rts:=[]) (t:=X2o) fun ih hih=>Zkd (Zkc xok (q7t ih hih) q5p (q7v ih hih) 12 117) fun xs _ h=>(q7w ih xs.1 xs.2.1 xs.u2 xs.u3).trans h
def q7z:List (Nat×F7 S):=[(79,q5J),(39,q5v),(118,q64),(117,q7x)]
theorem q7A:Z95 X (q7z):=⟨q5K,q5w,q65,q7y,trivial⟩
def q7D:Key:=⟨[52],52,none,[0,0,1,0,1,1],0,12⟩
def q7E:StT S:=⟨(N (N (N (N L (some (.map 2)) L) (some (.ptr 0 0)) L) vI v1O) none (N L vI (N (N (N L vI L) none L) (some .nils) L))),o1B,12⟩
def q7F:Way S:=⟨(.exit 0),⟨(N (N (N (N L (some (.map 2)) L) none L) none L) none (N L none (N L (some .nils) L))),o1B,13⟩,[(.st 25),(.mp (.int .i64) (.int .i64))]⟩
def q7G:LE S:=⟨q7D,q7E,[.int,.int,.int,.int,(.st 25),(.mp (.int .i64) (.int .i64))],[q7F]⟩
def q7H {T:Type} (x:tqx) (k:(Zc×(List (Int×Int)))->T):(List (Int×Int))->T:=fun y0=>k (x.u4,y0)
def q7I (x:tqx) (v:(Int×(List (Int×Int)))):tqx:=(x.1,x.2.1,x.u2,v.1,x.u4,v.2)
theorem q7J (x:tqx):LE.step X q7G q7z q5o q4 12 x=XU x.1 x.2.1 x.u2 x.u4 x.u3 x.v5 (fun w=>Sum.inl (q7I x w)) (fun o=>Sum.inr (q7H x id o)):=by kernel_rfl
def q7K {R:Type}:Z21 S R:=LE.ls X q7G (fun x k=>(X1n x.1 x.2.1 x.u2 x.u4 (x.u3,x.v5)).bind (q7H x k)) q4
theorem q7L {R:Type}:Z2e X (q7K (R:=R)):=Zke xok q7A (e:=q7G) q5p q5 (st:=fun(x:tqx)=>XE x.1 x.2.1 x.u2 x.u4) (prj:=fun(x:tqx)=>(x.u3,x.v5)) (emb:=q7I) q7H (fun x=>(q7J x).trans (by unfold XE XU;simp only[Zk2,ZjT,Zk3,Option.map_some,Option.map_none];rfl)) q5
theorem q7M (x0:Zc) (x1 x2:Int):Zkg X q7z [(.st 25),(.int .i64),(.int .i64)] [(.sl (.int .i64))] q5o q7K 12 52 (x0,x1,x2,())=Wj x0 x1 x2:=by kernel_rfl
def q7N:F7 S:=⟨[(.st 25),(.int .i64),(.int .i64)],[(.sl (.int .i64))],fun xs=>X14 xs.1 xs.2.1 xs.u2⟩
theorem q7O:Zav X 52 q7N:=Zkd (Zkc xok q7A q5p q7L 12 52) fun xs _ h=>((q7M xs.1 xs.2.1 xs.u2).trans (X3A xs.1 xs.2.1 xs.u2).symm).trans h
def q7T:Key:=⟨[88],88,none,[0,0,1,0,1],0,4⟩
def q7U:StT S:=⟨(N (N (N (N L vI L) none L) vI L) vD v1O),L,4⟩
def q7V:Way S:=⟨.ret,⟨v1P,L,15⟩,[.int]⟩
def q7W:Way S:=⟨(.exit 0),⟨L,L,5⟩,[]⟩
def q7X:LE S:=⟨q7T,q7U,[.int,.int,(.lst (.int .i64)),.int],[q7V,q7W]⟩
def q7Y {T:Type} (x:tqP) (k:(Int⊕Unit)->T):(Int⊕Unit)->T:=Sum.elim (fun y0=>k (.inl y0)) (fun y1=>k (.inr ()))
def q7Z (x:tqP) (v:Int):tqP:=(x.1,x.2.1,x.u2,v)
theorem q80 (x:tqP):LE.step X q7X q2 q5o q4 12 x=X1c x.1 x.2.1 x.u2 x.v3 (fun w=>Sum.inl (q7Z x w)) (fun o=>Sum.inr (q7Y x id o)):=by kernel_rfl
def q81 {R:Type}:Z21 S R:=LE.ls X q7X (fun x k=>(X2P x.1 x.2.1 x.u2 x.v3).bind (q7Y x k)) q4
theorem q82 {R:Type}:Z2e X (q81 (R:=R)):=Zke xok q3 (e:=q7X) q5p q5 (st:=fun(x:tqP)=>X1D x.1 x.2.1 x.u2) (prj:=fun(x:tqP)=>x.v3) (emb:=q7Z) q7Y (fun x=>(q80 x).trans (by unfold X1D X1c;simp only[Zk2,ZjT,Zk3,Option.map_some,Option.map_none];rfl)) q5
theorem q83 (x0:List Int) (x1:Int):Zkg X q2 [(.sl (.int .i64)),(.int .i64)] [(.int .i64)] q5o q81 12 88 (x0,x1,())=X12 x0 x1:=by kernel_rfl
def q84:F7 S:=⟨[(.sl (.int .i64)),(.int .i64)],[(.int .i64)],fun xs=>X2Z xs.1 xs.2.1⟩
theorem q85:Zav X 88 q84:=Zkd (Zkc xok q3 q5p q82 12 88) fun xs _ h=>((q83 xs.1 xs.2.1).trans (X53 xs.1 xs.2.1).symm).trans h
def q86:List (Nat×F7 S):=[(88,q84)]
theorem q87:Z95 X (q86):=⟨q85,trivial⟩
theorem q8a (x0:List Int) (x1:Int):Zkg X q86 [(.sl (.int .i64)),(.int .i64)] [.bool] q5o q4 12 58 (x0,x1,())=Wy x0 x1:=by kernel_rfl
def q8b:F7 S:=⟨[(.sl (.int .i64)),(.int .i64)],[.bool],fun xs=>X29 xs.1 xs.2.1⟩
theorem q8c:Zav X 58 q8b:=Zkd (Zkc xok q87 q5p q5 12 58) fun xs _ h=>((q8a xs.1 xs.2.1).trans (X4E xs.1 xs.2.1).symm).trans h
def q8d:List (Nat×F7 S):=[(52,q7N),(58,q8b)]
theorem q8e:Z95 X (q8d):=⟨q7O,q8c,trivial⟩
theorem q8h (x0:Zc) (x1:Zr):Zkg X q8d [(.st 25),(.st 21)] [(.int .i64)] q5o q4 12 32 (x0,x1,())=X11 x0 x1:=by kernel_rfl
def q8i:F7 S:=⟨[(.st 25),(.st 21)],[(.int .i64)],fun xs=>X2S xs.1 xs.2.1⟩
theorem q8j:Zav X 32 q8i:=Zkd (Zkc xok q8e q5p q5 12 32) fun xs _ h=>((q8h xs.1 xs.2.1).trans (X4V xs.1 xs.2.1).symm).trans h
def q8k:List (Nat×F7 S):=[(31,q5C),(32,q8i)]
theorem q8l:Z95 X (q8k):=⟨q5D,q8j,trivial⟩
theorem q8o (x0:CoRecord) (x1:List Zr) (x2:Zr):Zkg X q8k [(.st 20),(.sl (.st 21)),(.st 21)] [(.int .i64),(.int .i64)] q5o q4 12 8 (x0,x1,x2,())=X33 x0 x1 x2:=by kernel_rfl
def q8p:F7 S:=⟨[(.st 20),(.sl (.st 21)),(.st 21)],[(.int .i64),(.int .i64)],fun xs=>X6s xs.1 xs.2.1 xs.u2⟩
theorem q8q:Zav X 8 q8p:=Zkd (Zkc xok q8l q5p q5 12 8) fun xs _ h=>((q8o xs.1 xs.2.1 xs.u2).trans (X75 xs.1 xs.2.1 xs.u2).symm).trans h
theorem q8v (x0 x1 x2:Int):Zkg X q2 [(.int .i64),(.int .i64),(.int .i64)] [.bool] q5o q4 12 86 (x0,x1,x2,())=X3R x0 x1 x2:=by kernel_rfl
def q8w:F7 S:=⟨[(.int .i64),(.int .i64),(.int .i64)],[.bool],fun xs=>X4d xs.1 xs.2.1 xs.u2⟩
theorem q8x:Zav X 86 q8w:=Zkd (Zkc xok q3 q5p q5 12 86) fun xs _ h=>((q8v xs.1 xs.2.1 xs.u2).trans (X6Z xs.1 xs.2.1 xs.u2).symm).trans h
theorem q8C (x0 x1 x2:Int):Zkg X q2 [(.int .i64),(.int .i64),(.int .i64)] [.bool] q5o q4 12 147 (x0,x1,x2,())=X4z x0 x1 x2:=by kernel_rfl
def q8D:F7 S:=⟨[(.int .i64),(.int .i64),(.int .i64)],[.bool],fun xs=>X4z xs.1 xs.2.1 xs.u2⟩
theorem q8E:Zav X 147 q8D:=Zkd (Zkc xok q3 q5p q5 12 147) fun xs _ h=>(q8C xs.1 xs.2.1 xs.u2).trans h
def q8F:List (Nat×F7 S):=[(147,q8D)]
theorem q8G:Z95 X (q8F):=⟨q8E,trivial⟩
def q8J:Key:=⟨[122],122,none,[0,0,1,0,1,1],0,6⟩
def q8K:StT S:=⟨(N (N (N L vI L) none L) vC L),L,6⟩
def q8L:Way S:=⟨.ret,⟨(N L none (N L vJ L)),L,43⟩,[.bool]⟩
def q8M:Way S:=⟨(.exit 0),⟨L,L,10⟩,[]⟩
def q8N:LE S:=⟨q8J,q8K,[.int,.str],[q8L,q8M]⟩
def q8O {T:Type} (x:(Int×ByteArray)) (k:(Bool⊕Unit)->T):(Bool⊕Unit)->T:=Sum.elim (fun y0=>k (.inl y0)) (fun y1=>k (.inr ()))
def q8P (x:(Int×ByteArray)) (v:Int):(Int×ByteArray):=(v,x.2)
theorem q8Q (x:(Int×ByteArray)):LE.step X q8N q8F q5o q4 12 x=X1C x.2 x.1 (fun w=>Sum.inl (q8P x w)) (fun o=>Sum.inr (q8O x id o)):=by kernel_rfl
def q8R {R:Type}:Z21 S R:=LE.ls X q8N (fun x k=>(X4J x.2 x.1).bind (q8O x k)) q4
theorem q8S {R:Type}:Z2e X (q8R (R:=R)):=Zke xok q8G (e:=q8N) q5p q5 (st:=fun(x:(Int×ByteArray))=>X1r x.2) (prj:=fun(x:(Int×ByteArray))=>x.1) (emb:=q8P) q8O (fun x=>(q8Q x).trans (by unfold X1r X1C;simp only[Zk2,ZjT,Zk3,Option.map_some,Option.map_none];rfl)) q5
theorem q8T (x0:ByteArray):Zkg X q8F [.str] [.bool] q5o q8R 12 122 (x0,())=X4y x0:=by kernel_rfl
def q8U:F7 S:=⟨[.str],[.bool],fun xs=>X4y xs.1⟩
theorem q8V:Zav X 122 q8U:=Zkd (Zkc xok q8G q5p q8S 12 122) fun xs _ h=>(q8T xs.1).trans h
def q90:Key:=⟨[123],123,none,[0,0,1,0,1],0,2⟩
def q91:StT S:=⟨(N (N L vC (N L vI L)) (some (.sl .str [])) L),L,2⟩
def q92:Way S:=⟨.ret,⟨v1P,L,14⟩,[.int]⟩
def q93:Way S:=⟨(.exit 0),⟨L,L,6⟩,[]⟩
def q94:LE S:=⟨q90,q91,[.str,.int,(.lst .str)],[q92,q93]⟩
def q95 {T:Type} (x:tqK) (k:(Int⊕Unit)->T):(Int⊕Unit)->T:=Sum.elim (fun y0=>k (.inl y0)) (fun y1=>k (.inr ()))
def q96 (x:tqK) (v:Int):tqK:=(x.1,v,x.v2)
theorem q97 (x:tqK):LE.step X q94 q2 q5o q4 12 x=X1e x.1 x.v2 x.2.1 (fun w=>Sum.inl (q96 x w)) (fun o=>Sum.inr (q95 x id o)):=by kernel_rfl
def q98 {R:Type}:Z21 S R:=LE.ls X q94 (fun x k=>(X3r x.1 x.v2 x.2.1).bind (q95 x k)) q4
theorem q99 {R:Type}:Z2e X (q98 (R:=R)):=Zke xok q3 (e:=q94) q5p q5 (st:=fun(x:tqK)=>WM x.1 x.v2) (prj:=fun(x:tqK)=>x.2.1) (emb:=q96) q95 (fun x=>(q97 x).trans (by unfold WM X1e;simp only[Zk2,ZjT,Zk3,Option.map_some,Option.map_none];rfl)) q5
theorem q9a (x0:List ByteArray) (x1:ByteArray):Zkg X q2 [(.sl .str),.str] [(.int .i64)] q5o q98 12 123 (x0,x1,())=X4K x0 x1:=by kernel_rfl
def q9b:F7 S:=⟨[(.sl .str),.str],[(.int .i64)],fun xs=>X4K xs.1 xs.2.1⟩
theorem q9c:Zav X 123 q9b:=Zkd (Zkc xok q3 q5p q99 12 123) fun xs _ h=>(q9a xs.1 xs.2.1).trans h
def q9d:List (Nat×F7 S):=[(122,q8U),(123,q9b)]
theorem q9e:Z95 X (q9d):=⟨q8V,q9c,trivial⟩
theorem q9h (x0:ByteArray) (x1:List ByteArray):Zkg X q9d [.str,(.sl .str)] [(.int .i64)] q5o q4 12 87 (x0,x1,())=X4b x0 x1:=by kernel_rfl
def q9i:F7 S:=⟨[.str,(.sl .str)],[(.int .i64)],fun xs=>X4b xs.1 xs.2.1⟩
theorem q9j:Zav X 87 q9i:=Zkd (Zkc xok q9e q5p q5 12 87) fun xs _ h=>(q9h xs.1 xs.2.1).trans h
def q9o:Key:=⟨[124],124,none,[0,0,1,0,1,1],0,3⟩
def q9p:StT S:=⟨(N (N (N (N L vI L) none L) vI L) (some (.sl (.st 5) [])) (N (N (N L vI L) none L) vI L)),L,3⟩
def q9q:Way S:=⟨.ret,⟨(N L none (N L none (N L vI L))),L,28⟩,[.int]⟩
def q9r:Way S:=⟨(.exit 0),⟨(N v1O none L),L,7⟩,[.int]⟩
def q9s:LE S:=⟨q9o,q9p,[.int,.int,(.lst (.st 5)),.int,.int],[q9q,q9r]⟩
def q9t {T:Type} (x:tqI) (k:(Int⊕Int)->T):(Int⊕Int)->T:=Sum.elim (fun y0=>k (.inl y0)) (fun y1=>k (.inr y1))
def q9u (x:tqI) (v:(Int×Int)):tqI:=(v.1,x.2.1,x.u2,v.2,x.v4)
theorem q9v (x:tqI):LE.step X q9s q8F q5o q4 12 x=X15 x.2.1 x.u2 x.v4 x.1 x.u3 (fun w=>Sum.inl (q9u x w)) (fun o=>Sum.inr (q9t x id o)):=by kernel_rfl
def q9w {R:Type}:Z21 S R:=LE.ls X q9s (fun x k=>(X4k x.2.1 x.u2 x.v4 (x.1,x.u3)).bind (q9t x k)) q4
theorem q9x {R:Type}:Z2e X (q9w (R:=R)):=Zke xok q8G (e:=q9s) q5p q5 (st:=fun(x:tqI)=>WZ x.2.1 x.u2 x.v4) (prj:=fun(x:tqI)=>(x.1,x.u3)) (emb:=q9u) q9t (fun x=>(q9v x).trans (by unfold WZ X15;simp only[Zk2,ZjT,Zk3,Option.map_some,Option.map_none];rfl)) q5
theorem q9y (x0:List Y2) (x1 x2:Int):Zkg X q8F [(.sl (.st 5)),(.int .i64),(.int .i64)] [(.int .i64)] q5o q9w 12 124 (x0,x1,x2,())=X3Q x0 x1 x2:=by kernel_rfl
def q9z:F7 S:=⟨[(.sl (.st 5)),(.int .i64),(.int .i64)],[(.int .i64)],fun xs=>X3Q xs.1 xs.2.1 xs.u2⟩
theorem q9A:Zav X 124 q9z:=Zkd (Zkc xok q8G q5p q9x 12 124) fun xs _ h=>(q9y xs.1 xs.2.1 xs.u2).trans h
def q9B:List (Nat×F7 S):=[(124,q9z)]
theorem q9C:Z95 X (q9B):=⟨q9A,trivial⟩
theorem q9F (x0:Y2) (x1 x2:Int):Zkg X q9B [(.st 5),(.int .i64),(.int .i64)] [(.int .i64)] q5o q4 12 92 (x0,x1,x2,())=X4L x0 x1 x2:=by kernel_rfl
def q9G:F7 S:=⟨[(.st 5),(.int .i64),(.int .i64)],[(.int .i64)],fun xs=>X4L xs.1 xs.2.1 xs.u2⟩
theorem q9H:Zav X 92 q9G:=Zkd (Zkc xok q9C q5p q5 12 92) fun xs _ h=>(q9F xs.1 xs.2.1 xs.u2).trans h
def q9I:List (Nat×F7 S):=[(86,q8w),(92,q9G)]
theorem q9J:Z95 X (q9I):=⟨q8x,q9H,trivial⟩
theorem q9M (x0:CoRecord) (x1 x2:Int) (x3:Y2):Zkg X q9I [(.st 20),(.int .i64),(.int .i64),(.st 5)] [(.int .i64)] q5o q4 12 62 (x0,x1,x2,x3,())=X2X x0 x1 x2 x3:=by kernel_rfl
def q9N:F7 S:=⟨[(.st 20),(.int .i64),(.int .i64),(.st 5)],[(.int .i64)],fun xs=>X4D xs.1 xs.2.1 xs.u2 xs.u3⟩
theorem q9O:Zav X 62 q9N:=Zkd (Zkc xok q9J q5p q5 12 62) fun xs _ h=>((q9M xs.1 xs.2.1 xs.u2 xs.u3).trans (X6e xs.1 xs.2.1 xs.u2 xs.u3).symm).trans h
def q9P:List (Nat×F7 S):=[(86,q8w),(87,q9i),(62,q9N)]
theorem q9Q:Z95 X (q9P):=⟨q8x,q9j,q9O,trivial⟩
def q9T:Key:=⟨[55],55,none,[0,0,1,0,1,1,1],0,17⟩
def q9U:StT S:=⟨(N (N L (some (.ptr 0 0)) (N L (some (.rs 17 0)) L)) none (N L none (N L vI L))),o1K,18⟩
def q9V:Way S:=⟨.ret,⟨v1L,o1f,66⟩,[.int,.int,.int,(.lst .str),(.st 20),(.st 18),(.lst .str)]⟩
def q9W:Way S:=⟨.ret,⟨v1L,o1f,65⟩,[.int,.int,.int,(.lst .str),(.st 20),(.st 18),(.lst .str)]⟩
def q9X:Way S:=⟨(.exit 0),⟨(N (N L (some (.ptr 0 0)) L) none L),o1K,23⟩,[(.lst .str),(.st 20)]⟩
def q9Y:LE S:=⟨q9T,q9U,[.int,(.lst .str),(.st 20)],[q9V,q9W,q9X]⟩
def q9Z {T:Type} (x:tqM) (k:((Int×Int×Int×(List ByteArray)×CoRecord×Zm×(List ByteArray))⊕(Int×Int×Int×(List ByteArray)×CoRecord×Zm×(List ByteArray))⊕((List ByteArray)×CoRecord))->T):((Int×Int×Int×(List ByteArray)×Zm×(List ByteArray))⊕(Int×Int×Int×(List ByteArray)×Zm×(List ByteArray))⊕(List ByteArray))->T:=Sum.elim (fun y0=>k (.inl (y0.1,y0.2.1,y0.u2,y0.u3,x.v2,y0.u4,y0.v5))) (Sum.elim (fun y1=>k (.inr (.inl (y1.1,y1.2.1,y1.u2,y1.u3,x.v2,y1.u4,y1.v5)))) (fun y2=>k (.inr (.inr (y2,x.v2)))))
def qa0 (x:tqM) (v:(Int×(List ByteArray))):tqM:=(v.1,v.2,x.v2)
theorem qa1 (x:tqM):LE.step X q9Y q9P q5o q4 12 x=X1g x.v2 x.1 x.2.1 (fun w=>Sum.inl (qa0 x w)) (fun o=>Sum.inr (q9Z x id o)):=by kernel_rfl
def qa2 {R:Type}:Z21 S R:=LE.ls X q9Y (fun x k=>(X3s x.v2 (x.1,x.2.1)).bind (q9Z x k)) q4
theorem qa3 {R:Type}:Z2e X (qa2 (R:=R)):=Zke xok q9Q (e:=q9Y) q5p q5 (st:=fun(x:tqM)=>X1O x.v2) (prj:=fun(x:tqM)=>(x.1,x.2.1)) (emb:=qa0) q9Z (fun x=>(qa1 x).trans (by unfold X1O X1g;simp only[Zk2,ZjT,Zk3,Option.map_some,Option.map_none];rfl)) q5
def qa4:Key:=⟨[55],55,none,[0,0,1,0,1,1,1,1],2,24⟩
def qa5:StT S:=⟨(N (N L (some (.ptr 0 0)) (N (N L vI L) none L)) none L),o1K,24⟩
def qa6:Way S:=⟨.ret,⟨v1L,(N (N L none (N (N (N L oE L) none L) none L)) oj (N L none (N (N (N (N L ol L) none L) none L) none L))),52⟩,[.int,.int,.int,(.lst .str),(.st 20),(.st 19)]⟩
def qa7:Way S:=⟨(.exit 2),⟨(N (N L (some (.ptr 0 0)) L) none L),o1K,29⟩,[(.lst .str),(.st 20)]⟩
def qa8:LE S:=⟨qa4,qa5,[.int,(.lst .str),(.st 20)],[qa6,qa7]⟩
def qa9 {T:Type} (x:tqM) (k:((Int×Int×Int×(List ByteArray)×CoRecord×Zq)⊕((List ByteArray)×CoRecord))->T):((Int×Int×Int×Zq)⊕Unit)->T:=Sum.elim (fun y0=>k (.inl (y0.1,y0.2.1,y0.u2,x.2.1,x.v2,y0.v3))) (fun y1=>k (.inr (x.2.1,x.v2)))
def qaa (x:tqM) (v:Int):tqM:=(v,x.2.1,x.v2)
theorem qab (x:tqM):LE.step X qa8 q9P q5o qa2 12 x=X1h x.v2 x.1 (fun w=>Sum.inl (qaa x w)) (fun o=>Sum.inr (qa9 x id o)):=by kernel_rfl
def qac {R:Type}:Z21 S R:=LE.ls X qa8 (fun x k=>(X2s x.v2 x.1).bind (qa9 x k)) qa2
theorem qad {R:Type}:Z2e X (qac (R:=R)):=Zke xok q9Q (e:=qa8) q5p qa3 (st:=fun(x:tqM)=>X1P x.v2) (prj:=fun(x:tqM)=>x.1) (emb:=qaa) qa9 (fun x=>(qab x).trans (by unfold X1P X1h;simp only[Zk2,ZjT,Zk3,Option.map_some,Option.map_none];rfl)) qa3
def qae:Key:=⟨[55],55,none,[0,0,1,0,1,1,1,1,1,1],4,31⟩
def qaf:StT S:=⟨(N (N L (some (.ptr 0 0)) (N L none (N L vI L))) none v1S),o1K,31⟩
def qag:Way S:=⟨.ret,⟨v1L,o1K,59⟩,[.int,.int,.int,(.lst .str),(.st 20)]⟩
def qah:Way S:=⟨(.exit 4),⟨L,o1K,36⟩,[(.lst .str),(.st 20)]⟩
def qai:LE S:=⟨qae,qaf,[.int,.int,(.lst .str),(.st 20)],[qag,qah]⟩
def qaj {T:Type} (x:tqC) (k:((Int×Int×Int×(List ByteArray)×CoRecord)⊕((List ByteArray)×CoRecord))->T):((Int×Int×Int)⊕Unit)->T:=Sum.elim (fun y0=>k (.inl (y0.1,y0.2.1,y0.v2,x.u2,x.v3))) (fun y1=>k (.inr (x.u2,x.v3)))
def qak (x:tqC) (v:(Int×Int)):tqC:=(v.1,v.2,x.u2,x.v3)
theorem qal (x:tqC):LE.step X qai q9P q5o qac 12 x=X1i x.v3 x.1 x.2.1 (fun w=>Sum.inl (qak x w)) (fun o=>Sum.inr (qaj x id o)):=by kernel_rfl
def qam {R:Type}:Z21 S R:=LE.ls X qai (fun x k=>(X2t x.v3 (x.1,x.2.1)).bind (qaj x k)) qac
theorem qan {R:Type}:Z2e X (qam (R:=R)):=Zke xok q9Q (e:=qai) q5p qad (st:=fun(x:tqC)=>X1Q x.v3) (prj:=fun(x:tqC)=>(x.1,x.2.1)) (emb:=qak) qaj (fun x=>(qal x).trans (by unfold X1Q X1i;simp only[Zk2,ZjT,Zk3,Option.map_some,Option.map_none];rfl)) qad
theorem qao (x0:CoRecord):Zkg X q9P [(.st 20)] [(.int .i64),(.int .i64),(.int .i64)] q5o qam 12 55 (x0,())=X2E x0:=by kernel_rfl
def qap:F7 S:=⟨[(.st 20)],[(.int .i64),(.int .i64),(.int .i64)],fun xs=>X4c xs.1⟩
theorem qaq:Zav X 55 qap:=Zkd (Zkc xok q9Q q5p qan 12 55) fun xs _ h=>((qao xs.1).trans (X5K xs.1).symm).trans h
def qar:List (Nat×F7 S):=[(55,qap),(62,q9N)]
theorem qas:Z95 X (qar):=⟨qaq,q9O,trivial⟩
def qav:Key:=⟨[40],40,none,[0,0,1,0,1,1,1,1],0,22⟩
def qaw:StT S:=⟨(N (N L vG (N (N L vI L) none L)) none (N L (some (.ptr 0 0)) L)),(N L oj L),22⟩
def qax:Way S:=⟨.ret,⟨v1J,(N L oj L),50⟩,[.int,.int,(.st 20)]⟩
def qay:Way S:=⟨(.exit 0),⟨L,(N L oj L),26⟩,[(.st 20)]⟩
def qaz:LE S:=⟨qav,qaw,[(.lst (.st 21)),.int,(.st 20)],[qax,qay]⟩
def qaA {T:Type} (x:tqO) (k:((Int×Int×CoRecord)⊕CoRecord)->T):((Int×Int)⊕Unit)->T:=Sum.elim (fun y0=>k (.inl (y0.1,y0.2,x.v2))) (fun y1=>k (.inr x.v2))
def qaB (x:tqO) (v:Int):tqO:=(x.1,v,x.v2)
theorem qaC (x:tqO):LE.step X qaz qar q5o q4 12 x=Wt x.1 x.v2 x.2.1 (fun w=>Sum.inl (qaB x w)) (fun o=>Sum.inr (qaA x id o)):=by kernel_rfl
def qaD {R:Type}:Z21 S R:=LE.ls X qaz (fun x k=>(X1o x.1 x.v2 x.2.1).bind (qaA x k)) q4
theorem qaE {R:Type}:Z2e X (qaD (R:=R)):=Zke xok qas (e:=qaz) q5p q5 (st:=fun(x:tqO)=>WY x.1 x.v2) (prj:=fun(x:tqO)=>x.2.1) (emb:=qaB) qaA (fun x=>(qaC x).trans (by unfold WY Wt;simp only[Zk2,ZjT,Zk3,Option.map_some,Option.map_none];rfl)) q5
theorem qaF (x0:CoRecord) (x1:List Zr):Zkg X qar [(.st 20),(.sl (.st 21))] [(.int .i64),(.int .i64)] q5o qaD 12 40 (x0,x1,())=X1f x0 x1:=by kernel_rfl
def qaG:F7 S:=⟨[(.st 20),(.sl (.st 21))],[(.int .i64),(.int .i64)],fun xs=>X3p xs.1 xs.2.1⟩
theorem qaH:Zav X 40 qaG:=Zkd (Zkc xok qas q5p qaE 12 40) fun xs _ h=>((qaF xs.1 xs.2.1).trans (X4A xs.1 xs.2.1).symm).trans h
theorem qaM (x0:List Zr) (x1 x2 x3:Int):Zkg X q2 [(.sl (.st 21)),(.int .i64),(.int .i64),(.int .i64)] [(.sl (.st 21))] q5o q4 12 30 (x0,x1,x2,x3,())=X2W x0 x1 x2 x3:=by kernel_rfl
def qaN:F7 S:=⟨[(.sl (.st 21)),(.int .i64),(.int .i64),(.int .i64)],[(.sl (.st 21))],fun xs=>X4C xs.1 xs.2.1 xs.u2 xs.u3⟩
theorem qaO:Zav X 30 qaN:=Zkd (Zkc xok q3 q5p q5 12 30) fun xs _ h=>((qaM xs.1 xs.2.1 xs.u2 xs.u3).trans (X6c xs.1 xs.2.1 xs.u2 xs.u3).symm).trans h
theorem qaT (x0 x1:Int):Zkg X q6d [(.int .i64),(.int .i64)] [(.int .i64)] q5o q4 12 61 (x0,x1,())=X4h x0 x1:=by kernel_rfl
def qaU:F7 S:=⟨[(.int .i64),(.int .i64)],[(.int .i64)],fun xs=>X4h xs.1 xs.2.1⟩
theorem qaV:Zav X 61 qaU:=Zkd (Zkc xok q6e q5p q5 12 61) fun xs _ h=>(qaT xs.1 xs.2.1).trans h
def qaW:List (Nat×F7 S):=[(61,qaU)]
theorem qaX:Z95 X (qaW):=⟨qaV,trivial⟩
def qb0:Key:=⟨[38],38,none,[0,0,1,0,1],0,4⟩
def qb1:StT S:=⟨(N (N (N L none (N L vI L)) vD (N (N L vD L) none L)) vD v1P),L,4⟩
def qb3:Way S:=⟨.ret,⟨v1P,L,27⟩,[.int]⟩
def qb4:Way S:=⟨(.exit 0),⟨(N (N L vD L) vD L),L,5⟩,[(.lst (.int .i64)),(.lst (.int .i64))]⟩
def qb5:LE S:=⟨qb0,qb1,[.int,(.lst (.int .i64)),(.lst (.int .i64)),(.lst (.int .i64)),.int],[q7V,qb3,qb4]⟩
def qb6 {T:Type} (x:tqA) (k:(Int⊕Int⊕((List Int)×(List Int)))->T):(Int⊕Int⊕Unit)->T:=Sum.elim (fun y0=>k (.inl y0)) (Sum.elim (fun y1=>k (.inr (.inl y1))) (fun y2=>k (.inr (.inr (x.2.1,x.u3)))))
def qb7 (x:tqA) (v:Int):tqA:=(v,x.2.1,x.u2,x.u3,x.v4)
theorem qb8 (x:tqA):LE.step X qb5 qaW q5o q4 12 x=X10 x.2.1 x.u2 x.u3 x.v4 x.1 (fun w=>Sum.inl (qb7 x w)) (fun o=>Sum.inr (qb6 x id o)):=by kernel_rfl
def qb9 {R:Type}:Z21 S R:=LE.ls X qb5 (fun x k=>(X2k x.2.1 x.u2 x.u3 x.v4 x.1).bind (qb6 x k)) q4
theorem qba {R:Type}:Z2e X (qb9 (R:=R)):=Zke xok qaX (e:=qb5) q5p q5 (st:=fun(x:tqA)=>X1b x.2.1 x.u2 x.u3 x.v4) (prj:=fun(x:tqA)=>x.1) (emb:=qb7) qb6 (fun x=>(qb8 x).trans (by unfold X1b X10;simp only[Zk2,ZjT,Zk3,Option.map_some,Option.map_none];rfl)) q5
theorem qbb (x0 x1:List Int):Zkg X qaW [(.sl (.int .i64)),(.sl (.int .i64))] [(.int .i64)] q5o qb9 12 38 (x0,x1,())=X2u x0 x1:=by kernel_rfl
def qbc:F7 S:=⟨[(.sl (.int .i64)),(.sl (.int .i64))],[(.int .i64)],fun xs=>X2u xs.1 xs.2.1⟩
theorem qbd:Zav X 38 qbc:=Zkd (Zkc xok qaX q5p qba 12 38) fun xs _ h=>(qbb xs.1 xs.2.1).trans h
def qbe:List (Nat×F7 S):=[(37,q2B),(38,qbc),(39,q5v)]
theorem qbf:Z95 X (qbe):=⟨q2C,qbd,q5w,trivial⟩
def qbi:Key:=⟨[13],13,none,[0,0,1,0,1,1,1,0,0,1,1,0,0,1,0,1,1,1,0,1],2,26⟩
def qbj:StT S:=⟨(N (N (N (N L vI (N L vI L)) none (N L none (N L vG L))) vG (N (N L (some (.rs 27 0)) L) none (N L none (N L vI L)))) none (N (N (N L (some (.rs 28 0)) (N L vI L)) (some (.rs 26 0)) (N L none (N L vI L))) (some (.ptr 0 0)) (N L vJ L))),o1n,29⟩
def qbk:Way S:=⟨(.exit 1),⟨(N (N v1S vG L) none (N (N (N L none (N L vI L)) (some (.rs 26 0)) L) (some (.ptr 0 0)) (N L vJ L))),(N (N (N L none (N L none (N (N L (some (.row 3 (.int .i64) [] 0 0)) L) oy L))) none (N (N (N (N L om L) none L) none L) none L)) oj (N (N L none (N L none (N L (some (.row 3 (.int .i64) [] 1 1)) L))) none o1T)),54⟩,[.int,(.lst (.st 21)),.int,.bool,(.lst (.int .i64)),(.lst (.st 21)),(.st 21),(.st 20),(.lst (.int .i64)),(.lst (.int .i64))]⟩
def qbl:Way S:=⟨(.exit 2),⟨(N (N v1S vG (N (N L (some (.rs 27 0)) L) none L)) none (N (N (N L (some (.rs 28 0)) (N L vI L)) (some (.rs 26 0)) L) (some (.ptr 0 0)) (N L vJ L))),o1n,30⟩,[.int,(.lst (.st 21)),.int,.bool,(.lst (.st 21)),(.st 20),(.lst (.int .i64)),(.lst (.int .i64))]⟩
def qbm:LE S:=⟨qbi,qbj,[.int,.int,(.lst (.st 21)),(.lst (.st 21)),.int,.int,.int,.bool,(.lst (.st 21)),(.st 20),(.lst (.int .i64)),(.lst (.int .i64))],[qbk,qbl]⟩
def qbn {T:Type} (x:tqj) (k:((Int×(List Zr)×Int×Bool×(List Int)×(List Zr)×Zr×CoRecord×(List Int)×(List Int))⊕(Int×(List Zr)×Int×Bool×(List Zr)×CoRecord×(List Int)×(List Int)))->T):(((List Int)×(List Zr)×Zr×(List Int))⊕((List Zr)×(List Int)))->T:=Sum.elim (fun y0=>k (.inl (x.2.1,x.u3,x.u5,x.u7,y0.1,y0.2.1,y0.u2,x.u9,y0.v3,x.v11))) (fun y1=>k (.inr (x.2.1,x.u3,x.u5,x.u7,y1.1,x.u9,y1.2,x.v11)))
def qbo (x:tqj) (v:(Int×(List Zr)×(List Int))):tqj:=(x.1,x.2.1,x.u2,x.u3,v.1,x.u5,x.u6,x.u7,v.2.1,x.u9,v.v2,x.v11)
theorem qbp (x:tqj):LE.step X qbm qbe q5o q4 12 x=X38 x.1 x.u2 x.u6 x.u7 x.v11 x.u4 x.u8 x.u10 (fun w=>Sum.inl (qbo x w)) (fun o=>Sum.inr (qbn x id o)):=by kernel_rfl
def qbq {R:Type}:Z21 S R:=LE.ls X qbm (fun x k=>(X4s x.1 x.u2 x.u6 x.u7 x.v11 (x.u4,x.u8,x.u10)).bind (qbn x k)) q4
theorem qbr {R:Type}:Z2e X (qbq (R:=R)):=Zke xok qbf (e:=qbm) q5p q5 (st:=fun(x:tqj)=>X3J x.1 x.u2 x.u6 x.u7 x.v11) (prj:=fun(x:tqj)=>(x.u4,x.u8,x.u10)) (emb:=qbo) qbn (fun x=>(qbp x).trans (by unfold X3J X38;simp only[Zk2,ZjT,Zk3,Option.map_some,Option.map_none];rfl)) q5
def qbs:Key:=⟨[13],13,none,[0,0,1,0,1,1,1,0,1],0,17⟩
def qbt:StT S:=⟨(N (N v1S vG L) none (N (N (N L none (N L vI L)) (some (.rs 17 0)) L) (some (.ptr 0 0)) (N L vJ L))),(N (N L none o1R) oj L),18⟩
def qbu:Way S:=⟨(.exit 0),⟨(N L none (N (N L (some (.rs 17 0)) L) none L)),(N (N L none o1R) oj L),19⟩,[(.lst (.int .i64)),(.st 20)]⟩
def qbv:LE S:=⟨qbs,qbt,[.int,(.lst (.st 21)),.int,.bool,(.lst (.int .i64)),(.st 20)],[qbu]⟩
def qbw {T:Type} (x:tqy) (k:((List Int)×CoRecord)->T):(List Int)->T:=fun y0=>k (y0,x.v5)
def qbx (x:tqy) (v:(Int×Bool×(List Int))):tqy:=(x.1,x.2.1,v.1,v.2.1,v.v2,x.v5)
theorem qby (x:tqy):LE.step X qbv qbe q5o qbq 12 x=X37 x.1 x.2.1 x.v5 x.u2 x.u3 x.u4 (fun w=>Sum.inl (qbx x w)) (fun o=>Sum.inr (qbw x id o)):=by kernel_rfl
def qbz {R:Type}:Z21 S R:=LE.ls X qbv (fun x k=>(X4r x.1 x.2.1 x.v5 (x.u2,x.u3,x.u4)).bind (qbw x k)) qbq
theorem qbA {R:Type}:Z2e X (qbz (R:=R)):=Zke xok qbf (e:=qbv) q5p qbr (st:=fun(x:tqy)=>X3I x.1 x.2.1 x.v5) (prj:=fun(x:tqy)=>(x.u2,x.u3,x.u4)) (emb:=qbx) qbw (fun x=>(qby x).trans (by unfold X3I X37;simp only[Zk2,ZjT,Zk3,Option.map_some,Option.map_none];rfl)) qbr
theorem qbB (x0:CoRecord) (x1:List Zr):Zkg X qbe [(.st 20),(.sl (.st 21))] [(.sl (.int .i64)),(.int .i64)] q5o qbz 12 13 (x0,x1,())=X3k x0 x1:=by kernel_rfl
def qbC:F7 S:=⟨[(.st 20),(.sl (.st 21))],[(.sl (.int .i64)),(.int .i64)],fun xs=>X6V xs.1 xs.2.1⟩
theorem qbD:Zav X 13 qbC:=Zkd (Zkc xok qbf q5p qbA 12 13) fun xs _ h=>((qbB xs.1 xs.2.1).trans (X7l xs.1 xs.2.1).symm).trans h
def qbE:List (Nat×F7 S):=[(40,qaG)]
theorem qbF:Z95 X (qbE):=⟨qaH,trivial⟩
theorem qbI (x0:CoRecord) (x1:List Zr):Zkg X qbE [(.st 20),(.sl (.st 21))] [.bool] q5o q4 12 16 (x0,x1,())=X2U x0 x1:=by kernel_rfl
def qbJ:F7 S:=⟨[(.st 20),(.sl (.st 21))],[.bool],fun xs=>X57 xs.1 xs.2.1⟩
theorem qbK:Zav X 16 qbJ:=Zkd (Zkc xok qbF q5p q5 12 16) fun xs _ h=>((qbI xs.1 xs.2.1).trans (X63 xs.1 xs.2.1).symm).trans h
def qbL:List (Nat×F7 S):=[(37,q2B),(51,qh),(39,q5v),(52,q7N)]
theorem qbM:Z95 X (qbL):=⟨q2C,qi,q5w,q7O,trivial⟩
theorem qbP (x0:CoRecord) (x1:List Zr) (x2 x3:Int):Zkg X qbL [(.st 20),(.sl (.st 21)),(.int .i64),(.int .i64)] [(.sl (.int .i64)),(.int .i64)] q5o q4 12 17 (x0,x1,x2,x3,())=X20 x0 x1 x2 x3:=by kernel_rfl
def qbQ:F7 S:=⟨[(.st 20),(.sl (.st 21)),(.int .i64),(.int .i64)],[(.sl (.int .i64)),(.int .i64)],fun xs=>X3H xs.1 xs.2.1 xs.u2 xs.u3⟩
theorem qbR:Zav X 17 qbQ:=Zkd (Zkc xok qbM q5p q5 12 17) fun xs _ h=>((qbP xs.1 xs.2.1 xs.u2 xs.u3).trans (X5l xs.1 xs.2.1 xs.u2 xs.u3).symm).trans h
def qbW:Key:=⟨[18],18,none,[0,0,1,0,1],0,2⟩
def qbX:StT S:=⟨(N (N L vI (N L vI L)) vD L),L,2⟩
def qbY:Way S:=⟨.ret,⟨(N L none (N (N L vJ L) none L)),L,13⟩,[.bool]⟩
def qc0:LE S:=⟨qbW,qbX,[.int,.int,(.lst (.int .i64))],[qbY,q93]⟩
def qc1 {T:Type} (x:tqR) (k:(Bool⊕Unit)->T):(Bool⊕Unit)->T:=Sum.elim (fun y0=>k (.inl y0)) (fun y1=>k (.inr ()))
def qc2 (x:tqR) (v:Int):tqR:=(x.1,v,x.v2)
theorem qc3 (x:tqR):LE.step X qc0 q2 q5o q4 12 x=X1N x.1 x.v2 x.2.1 (fun w=>Sum.inl (qc2 x w)) (fun o=>Sum.inr (qc1 x id o)):=by kernel_rfl
def qc4 {R:Type}:Z21 S R:=LE.ls X qc0 (fun x k=>(X40 x.1 x.v2 x.2.1).bind (qc1 x k)) q4
theorem qc5 {R:Type}:Z2e X (qc4 (R:=R)):=Zke xok q3 (e:=qc0) q5p q5 (st:=fun(x:tqR)=>X1K x.1 x.v2) (prj:=fun(x:tqR)=>x.2.1) (emb:=qc2) qc1 (fun x=>(qc3 x).trans (by unfold X1K X1N;simp only[Zk2,ZjT,Zk3,Option.map_some,Option.map_none];rfl)) q5
theorem qc6 (x0:List Int) (x1:Int):Zkg X q2 [(.sl (.int .i64)),(.int .i64)] [.bool] q5o qc4 12 18 (x0,x1,())=X3e x0 x1:=by kernel_rfl
def qc7:F7 S:=⟨[(.sl (.int .i64)),(.int .i64)],[.bool],fun xs=>X51 xs.1 xs.2.1⟩
theorem qc8:Zav X 18 qc7:=Zkd (Zkc xok q3 q5p qc5 12 18) fun xs _ h=>((qc6 xs.1 xs.2.1).trans (X6v xs.1 xs.2.1).symm).trans h
theorem qcd (x0 x1:Int):Zkg X q2 [(.int .i64),(.int .i64)] [(.st 5)] q5o q4 12 19 (x0,x1,())=X3O x0 x1:=by kernel_rfl
def qce:F7 S:=⟨[(.int .i64),(.int .i64)],[(.st 5)],fun xs=>X1V xs.1 xs.2.1⟩
theorem qcf:Zav X 19 qce:=Zkd (Zkc xok q3 q5p q5 12 19) fun xs _ h=>((qcd xs.1 xs.2.1).trans (X65 xs.1 xs.2.1).symm).trans h
theorem qck (x0:List Int) (x1:Int):Zkg X q2 [(.sl (.int .u16)),(.int .i64)] [(.int .i64)] q5o q4 12 20 (x0,x1,())=X3P x0 x1:=by kernel_rfl
def qcl:F7 S:=⟨[(.sl (.int .u16)),(.int .i64)],[(.int .i64)],fun xs=>X6h xs.1 xs.2.1⟩
theorem qcm:Zav X 20 qcl:=Zkd (Zkc xok q3 q5p q5 12 20) fun xs _ h=>((qck xs.1 xs.2.1).trans (X7N xs.1 xs.2.1).symm).trans h
def qcn:StT S:=⟨(N v1A vI (N (N L (some (.ptr 6 0)) L) vH L)),o1u,8⟩
def qco:Way S:=⟨.ret,⟨(N L vJ L),o1u,8⟩,[.bool,(.st 25),(.arr (.st 5)),(.st 25),.int,.bool,(.lst (.st 21)),.int,(.st 20),.bool,(.st 20)]⟩
def qcp:PE S:=⟨82,6,qcn,[(.arr (.st 5)),.int,(.lst (.st 28)),(.st 25),(.arr (.st 5)),(.st 25),.int,.bool,(.lst (.st 21)),.int,(.st 20),.bool,(.st 20)],[qco]⟩
abbrev qcs (ih:tqc->Option tqk) {R:Type}:Z21 S R:=Zj1
theorem qct (ih:tqc->Option tqk) (hih:ZcD X qcp ih) {R:Type}:Z2e X (qcs ih (R:=R)):=ZjC X
def qcu:Key:=⟨[5,2,5,82],21,(some 5),[0,0,1,1,0,1,0,1,0,1,1,1,1,1],2,44⟩
def qcv:StT S:=⟨v1l,o1p,44⟩
def qcw:Way S:=⟨(.exit 2),⟨L,o1p,45⟩,[(.st 25),(.arr (.st 5)),(.st 25),(.arr (.st 5)),.int,.bool,(.lst (.st 21)),.int,(.st 20),.bool,(.st 20)]⟩
def qcx:LE S:=⟨qcu,qcv,[.int,.int,(.st 25),(.arr (.st 5)),(.st 25),(.arr (.st 5)),.int,.bool,(.lst (.st 21)),.int,(.st 20),.bool,(.st 20)],[qcw]⟩
def qcy {T:Type} (x:tqf) (k:tqi->T):(Nat->Y2)->T:=fun y0=>k (x.u2,y0,x.u4,x.u5,x.u6,x.u7,x.u8,x.u9,x.u10,x.u11,x.v12)
def qcz (x:tqf) (v:(Int×(Nat->Y2))):tqf:=(x.1,v.1,x.u2,v.2,x.u4,x.u5,x.u6,x.u7,x.u8,x.u9,x.u10,x.u11,x.v12)
theorem qcA (ih:tqc->Option tqk) (x:tqf):LE.step X qcx q3X (PE.ps X qcp (fun x q=>(ih x).bind q) q5o) (qcs ih) 12 x=Wn ih x.1 x.u2 x.u4 x.u5 x.u6 x.u7 x.u8 x.u9 x.u10 x.u11 x.v12 x.2.1 x.u3 (fun w=>Sum.inl (qcz x w)) (fun o=>Sum.inr (qcy x id o)):=by kernel_rfl
def qcB (ih:tqc->Option tqk) {R:Type}:Z21 S R:=LE.ls X qcx (fun x k=>(Wq ih x.1 x.u2 x.u4 x.u5 x.u6 x.u7 x.u8 x.u9 x.u10 x.u11 x.v12 (x.2.1,x.u3)).bind (qcy x k)) (qcs ih)
theorem qcC (ih:tqc->Option tqk) (hih:ZcD X qcp ih) {R:Type}:Z2e X (qcB ih (R:=R)):=Zke xok q3Y (e:=qcx) (Zk8 (e:=qcp) hih q5p) (qct ih hih) (st:=fun(x:tqf)=>WE ih x.1 x.u2 x.u4 x.u5 x.u6 x.u7 x.u8 x.u9 x.u10 x.u11 x.v12) (prj:=fun(x:tqf)=>(x.2.1,x.u3)) (emb:=qcz) qcy (fun x=>(qcA ih x).trans (by unfold WE Wn X0;simp only[Zk2,ZjT,Zk3,Option.map_some,Option.map_none];rfl)) (qct ih hih)
def qcD:Key:=⟨[5,2,5,82],21,(some 5),[0,0,1,1,0,1,0,1,0,1,1,1,1,1],2,41⟩
def qcE:StT S:=⟨v1l,o1p,41⟩
def qcF:Way S:=⟨(.exit 2),⟨L,o1p,42⟩,[(.st 25),(.arr (.st 5)),(.st 25),(.arr (.st 5)),.int,.bool,(.lst (.st 21)),.int,(.st 20),.bool,(.st 20)]⟩
def qcG:LE S:=⟨qcD,qcE,[.int,.int,(.st 25),(.arr (.st 5)),(.st 25),(.arr (.st 5)),.int,.bool,(.lst (.st 21)),.int,(.st 20),.bool,(.st 20)],[qcF]⟩
theorem qcJ (ih:tqc->Option tqk) (x:tqf):LE.step X qcG q3X (PE.ps X qcp (fun x q=>(ih x).bind q) q5o) (qcB ih) 12 x=Wo ih x.1 x.u2 x.u4 x.u5 x.u6 x.u7 x.u8 x.u9 x.u10 x.u11 x.v12 x.2.1 x.u3 (fun w=>Sum.inl (qcz x w)) (fun o=>Sum.inr (qcy x id o)):=by kernel_rfl
def qcK (ih:tqc->Option tqk) {R:Type}:Z21 S R:=LE.ls X qcG (fun x k=>(Wr ih x.1 x.u2 x.u4 x.u5 x.u6 x.u7 x.u8 x.u9 x.u10 x.u11 x.v12 (x.2.1,x.u3)).bind (qcy x k)) (qcB ih)
theorem qcL (ih:tqc->Option tqk) (hih:ZcD X qcp ih) {R:Type}:Z2e X (qcK ih (R:=R)):=Zke xok q3Y (e:=qcG) (Zk8 (e:=qcp) hih q5p) (qcC ih hih) (st:=fun(x:tqf)=>WF ih x.1 x.u2 x.u4 x.u5 x.u6 x.u7 x.u8 x.u9 x.u10 x.u11 x.v12) (prj:=fun(x:tqf)=>(x.2.1,x.u3)) (emb:=qcz) qcy (fun x=>(qcJ ih x).trans (by unfold WF Wo X0;simp only[Zk2,ZjT,Zk3,Option.map_some,Option.map_none];rfl)) (qcC ih hih)
def qcM:Key:=⟨[121,0,82],121,none,[0,0,1,1],0,71⟩
def qcN:StT S:=⟨v17,oN,72⟩
def qcO:Way S:=⟨.ret,⟨L,(N o1c ob (N (N (N (N L none (N L o0 L)) os L) ou o1w) oj o1y)),168⟩,[(.lst (.st 28)),(.st 28),(.st 25),(.lst (.st 19)),(.arr (.st 5)),(.arr (.st 5)),(.arr (.st 5)),.bool,.int,(.st 25),(.arr (.st 5)),(.st 28),.int,.bool,(.lst (.st 21)),.int,(.st 20),.bool,(.arr (.st 5)),.bool,.int,.bool,(.lst (.st 28)),.int,.bool,(.st 19),.int,(.lst (.st 28)),(.st 20),(.lst (.st 19)),(.st 21),(.lst (.st 28)),(.st 25)]⟩
def qcP:Way S:=⟨.ret,⟨L,oS,161⟩,[(.st 28),(.st 25),(.lst (.st 19)),(.arr (.st 5)),(.arr (.st 5)),(.arr (.st 5)),.bool,.int,(.st 25),(.arr (.st 5)),(.st 28),.int,.bool,(.lst (.st 21)),.int,(.st 20),.bool,(.arr (.st 5)),.bool,.int,.bool,(.lst (.st 28)),.int,.bool,(.st 19),.int,(.st 20),(.lst (.st 19)),(.st 21),(.lst (.st 28)),(.st 25)]⟩
def qcQ:Way S:=⟨.ret,⟨L,(N oX ob (N (N (N (N L none (N (N (N L ov L) none L) o0 L)) os L) ou (N L none (N (N (N L ol L) os L) none L))) oj o1y)),153⟩,[(.st 28),(.st 25),(.lst (.st 19)),(.arr (.st 5)),(.arr (.st 5)),(.arr (.st 5)),.bool,.int,(.st 25),(.arr (.st 5)),(.st 28),.int,.bool,(.lst (.st 21)),.int,(.st 20),(.lst (.st 28)),(.lst (.st 28)),.bool,(.arr (.st 5)),.bool,.int,.bool,(.lst (.st 28)),.int,.bool,(.st 19),.int,(.st 20),(.lst (.st 19)),(.st 21),(.lst (.st 28)),(.st 25)]⟩
def qcR:Way S:=⟨.ret,⟨L,oS,146⟩,[(.st 28),(.st 25),(.lst (.st 19)),(.arr (.st 5)),(.arr (.st 5)),(.arr (.st 5)),.bool,.int,(.st 25),(.arr (.st 5)),(.st 28),.int,.bool,(.lst (.st 21)),.int,(.st 20),.bool,(.arr (.st 5)),.bool,.int,.bool,(.lst (.st 28)),.int,.bool,(.st 19),.int,(.st 20),(.lst (.st 19)),(.st 21),(.lst (.st 28)),(.st 25)]⟩
def qcS:Way S:=⟨.ret,⟨L,(N o12 ob (N o1r oj o1o)),154⟩,[(.st 28),(.st 25),(.lst (.st 19)),(.arr (.st 5)),(.arr (.st 5)),(.arr (.st 5)),.bool,.int,(.st 25),(.lst (.st 28)),(.arr (.st 5)),(.st 28),.int,.bool,(.lst (.st 21)),.int,(.st 20),.bool,(.arr (.st 5)),.bool,.int,.bool,(.lst (.st 28)),.int,.bool,(.st 19),.int,(.st 20),(.lst (.st 19)),(.st 21),(.lst (.st 28)),(.st 25),(.lst (.st 28))]⟩
def qcT:Way S:=⟨.ret,⟨L,oS,147⟩,[(.st 28),(.st 25),(.lst (.st 19)),(.arr (.st 5)),(.arr (.st 5)),(.arr (.st 5)),.bool,.int,(.st 25),(.arr (.st 5)),(.st 28),.int,.bool,(.lst (.st 21)),.int,(.st 20),.bool,(.arr (.st 5)),.bool,.int,.bool,(.lst (.st 28)),.int,.bool,(.st 19),.int,(.st 20),(.lst (.st 19)),(.st 21),(.lst (.st 28)),(.st 25)]⟩
def qcU:Way S:=⟨.ret,⟨L,(N o15 ob (N o1r oj o1t)),139⟩,[(.lst (.st 28)),(.st 28),(.st 25),(.lst (.st 19)),(.arr (.st 5)),(.arr (.st 5)),(.arr (.st 5)),.bool,.int,(.st 25),(.arr (.st 5)),(.st 28),.int,.bool,(.lst (.st 21)),.int,(.st 20),.bool,(.arr (.st 5)),.bool,.int,.bool,(.lst (.st 28)),.int,.bool,(.st 19),.int,(.st 20),(.lst (.st 28)),(.lst (.st 19)),(.st 21),(.lst (.st 28)),(.st 25)]⟩
def qcV:Way S:=⟨.ret,⟨L,oS,132⟩,[(.st 28),(.st 25),(.lst (.st 19)),(.arr (.st 5)),(.arr (.st 5)),(.arr (.st 5)),.bool,.int,(.st 25),(.arr (.st 5)),(.st 28),.int,.bool,(.lst (.st 21)),.int,(.st 20),.bool,(.arr (.st 5)),.bool,.int,.bool,(.lst (.st 28)),.int,.bool,(.st 19),.int,(.st 20),(.lst (.st 19)),(.st 21),(.lst (.st 28)),(.st 25)]⟩
def qcW:Way S:=⟨(.exit 0),⟨L,oN,73⟩,[(.st 25),(.lst (.st 19)),(.arr (.st 5)),(.arr (.st 5)),.bool,.int,(.st 25),(.arr (.st 5)),(.st 28),.int,.bool,(.lst (.st 21)),.int,(.st 20),.bool,(.arr (.st 5)),.bool,.int,.bool,(.lst (.st 28)),.int,.bool,.int,(.st 20),(.lst (.st 19)),(.st 21),(.lst (.st 28)),(.st 25)]⟩
def qcX:LE S:=⟨qcM,qcN,[.int,.int,.int,(.st 25),(.lst (.st 19)),(.arr (.st 5)),(.arr (.st 5)),.bool,.int,(.st 25),(.arr (.st 5)),(.st 28),.int,.bool,(.lst (.st 21)),.int,(.st 20),.bool,(.arr (.st 5)),.bool,.int,.bool,(.lst (.st 28)),.int,.bool,.int,(.st 20),(.lst (.st 19)),(.st 21),(.lst (.st 28)),(.st 25)],[qcO,qcP,qcQ,qcR,qcS,qcT,qcU,qcV,qcW]⟩
def qcY {T:Type} (x:tq1) (k:(((List Zb)×Zb×Zc×(List Zq)×(Nat->Y2)×(Nat->Y2)×(Nat->Y2)×Bool×Int×Zc×(Nat->Y2)×Zb×Int×Bool×(List Zr)×Int×CoRecord×Bool×(Nat->Y2)×Bool×Int×Bool×(List Zb)×Int×Bool×Zq×Int×(List Zb)×CoRecord×(List Zq)×Zr×(List Zb)×Zc)⊕tq0⊕(Zb×Zc×(List Zq)×(Nat->Y2)×(Nat->Y2)×(Nat->Y2)×Bool×Int×Zc×(Nat->Y2)×Zb×Int×Bool×(List Zr)×Int×CoRecord×(List Zb)×(List Zb)×Bool×(Nat->Y2)×Bool×Int×Bool×(List Zb)×Int×Bool×Zq×Int×CoRecord×(List Zq)×Zr×(List Zb)×Zc)⊕tq0⊕(Zb×Zc×(List Zq)×(Nat->Y2)×(Nat->Y2)×(Nat->Y2)×Bool×Int×Zc×(List Zb)×(Nat->Y2)×Zb×Int×Bool×(List Zr)×Int×CoRecord×Bool×(Nat->Y2)×Bool×Int×Bool×(List Zb)×Int×Bool×Zq×Int×CoRecord×(List Zq)×Zr×(List Zb)×Zc×(List Zb))⊕tq0⊕((List Zb)×Zb×Zc×(List Zq)×(Nat->Y2)×(Nat->Y2)×(Nat->Y2)×Bool×Int×Zc×(Nat->Y2)×Zb×Int×Bool×(List Zr)×Int×CoRecord×Bool×(Nat->Y2)×Bool×Int×Bool×(List Zb)×Int×Bool×Zq×Int×CoRecord×(List Zb)×(List Zq)×Zr×(List Zb)×Zc)⊕tq0⊕(Zc×(List Zq)×(Nat->Y2)×(Nat->Y2)×Bool×Int×Zc×(Nat->Y2)×Zb×Int×Bool×(List Zr)×Int×CoRecord×Bool×(Nat->Y2)×Bool×Int×Bool×(List Zb)×Int×Bool×Int×CoRecord×(List Zq)×Zr×(List Zb)×Zc))->T):(((List Zb)×Zb×Zc×(Nat->Y2)×(Nat->Y2)×Bool×Zc×Zb×Int×Bool×(List Zr)×Int×CoRecord×Bool×Zq×(List Zb)×CoRecord)⊕tq8⊕(Zb×Zc×(Nat->Y2)×(Nat->Y2)×Bool×Zc×Zb×Int×Bool×(List Zr)×Int×CoRecord×(List Zb)×(List Zb)×Bool×Zq×CoRecord)⊕tq8⊕(Zb×Zc×(Nat->Y2)×(Nat->Y2)×Bool×Zc×(List Zb)×Zb×Int×Bool×(List Zr)×Int×CoRecord×Bool×Zq×CoRecord×(List Zb))⊕tq8⊕((List Zb)×Zb×Zc×(Nat->Y2)×Bool×Zc×Zb×Int×Bool×(List Zr)×Int×CoRecord×Bool×Zq×CoRecord×(List Zb))⊕(Zb×Zc×(Nat->Y2)×Bool×Zc×Zb×Int×Bool×(List Zr)×Int×CoRecord×Bool×Zq×CoRecord)⊕(Zc×(Nat->Y2)×Zc×Zb×Int×Bool×(List Zr)×Int×CoRecord×Bool×CoRecord))->T:=Sum.elim (fun y0=>k (.inl (y0.1,y0.2.1,y0.u2,x.u4,y0.u3,y0.u4,x.u6,y0.u5,x.u8,y0.u6,x.u10,y0.u7,y0.u8,y0.u9,y0.u10,y0.u11,y0.u12,x.u17,x.u18,x.u19,x.u20,x.u21,x.u22,x.u23,y0.u13,y0.u14,x.u25,y0.u15,y0.v16,x.u27,x.u28,x.u29,x.v30))) (Sum.elim (fun y1=>k (.inr (.inl (y1.1,y1.2.1,x.u4,y1.u2,y1.u3,x.u6,y1.u4,x.u8,y1.u5,x.u10,y1.u6,y1.u7,y1.u8,y1.u9,y1.u10,y1.u11,x.u17,x.u18,x.u19,x.u20,x.u21,x.u22,x.u23,y1.u12,y1.u13,x.u25,y1.v14,x.u27,x.u28,x.u29,x.v30)))) (Sum.elim (fun y2=>k (.inr (.inr (.inl (y2.1,y2.2.1,x.u4,y2.u2,y2.u3,x.u6,y2.u4,x.u8,y2.u5,x.u10,y2.u6,y2.u7,y2.u8,y2.u9,y2.u10,y2.u11,y2.u12,y2.u13,x.u17,x.u18,x.u19,x.u20,x.u21,x.u22,x.u23,y2.u14,y2.u15,x.u25,y2.v16,x.u27,x.u28,x.u29,x.v30))))) (Sum.elim (fun y3=>k (.inr (.inr (.inr (.inl (y3.1,y3.2.1,x.u4,y3.u2,y3.u3,x.u6,y3.u4,x.u8,y3.u5,x.u10,y3.u6,y3.u7,y3.u8,y3.u9,y3.u10,y3.u11,x.u17,x.u18,x.u19,x.u20,x.u21,x.u22,x.u23,y3.u12,y3.u13,x.u25,y3.v14,x.u27,x.u28,x.u29,x.v30)))))) (Sum.elim (fun y4=>k (.inr (.inr (.inr (.inr (.inl (y4.1,y4.2.1,x.u4,y4.u2,y4.u3,x.u6,y4.u4,x.u8,y4.u5,y4.u6,x.u10,y4.u7,y4.u8,y4.u9,y4.u10,y4.u11,y4.u12,x.u17,x.u18,x.u19,x.u20,x.u21,x.u22,x.u23,y4.u13,y4.u14,x.u25,y4.u15,x.u27,x.u28,x.u29,x.v30,y4.v16))))))) (Sum.elim (fun y5=>k (.inr (.inr (.inr (.inr (.inr (.inl (y5.1,y5.2.1,x.u4,y5.u2,y5.u3,x.u6,y5.u4,x.u8,y5.u5,x.u10,y5.u6,y5.u7,y5.u8,y5.u9,y5.u10,y5.u11,x.u17,x.u18,x.u19,x.u20,x.u21,x.u22,x.u23,y5.u12,y5.u13,x.u25,y5.v14,x.u27,x.u28,x.u29,x.v30)))))))) (Sum.elim (fun y6=>k (.inr (.inr (.inr (.inr (.inr (.inr (.inl (y6.1,y6.2.1,y6.u2,x.u4,y6.u3,x.u10,x.u6,y6.u4,x.u8,y6.u5,x.u10,y6.u6,y6.u7,y6.u8,y6.u9,y6.u10,y6.u11,x.u17,x.u18,x.u19,x.u20,x.u21,x.u22,x.u23,y6.u12,y6.u13,x.u25,y6.u14,y6.v15,x.u27,x.u28,x.u29,x.v30))))))))) (Sum.elim (fun y7=>k (.inr (.inr (.inr (.inr (.inr (.inr (.inr (.inl (y7.1,y7.2.1,x.u4,y7.u2,x.u10,x.u6,y7.u3,x.u8,y7.u4,x.u10,y7.u5,y7.u6,y7.u7,y7.u8,y7.u9,y7.u10,x.u17,x.u18,x.u19,x.u20,x.u21,x.u22,x.u23,y7.u11,y7.u12,x.u25,y7.v13,x.u27,x.u28,x.u29,x.v30)))))))))) (fun y8=>k (.inr (.inr (.inr (.inr (.inr (.inr (.inr (.inr (y8.1,x.u4,y8.2.1,x.u6,x.u7,x.u8,y8.u2,x.u10,y8.u3,y8.u4,y8.u5,y8.u6,y8.u7,y8.u8,x.u17,x.u18,x.u19,x.u20,x.u21,x.u22,x.u23,y8.u9,x.u25,y8.v10,x.u27,x.u28,x.u29,x.v30)))))))))))))))))
def qcZ (x:tq1) (v:(Int×Int×Zc×(Nat->Y2)×Zc×Zb×Int×Bool×(List Zr)×Int×CoRecord×Bool×CoRecord)):tq1:=(x.1,v.1,v.2.1,v.u2,x.u4,v.u3,x.u6,x.u7,x.u8,v.u4,x.u10,v.u5,v.u6,v.u7,v.u8,v.u9,v.u10,x.u17,x.u18,x.u19,x.u20,x.u21,x.u22,x.u23,v.u11,x.u25,v.v12,x.u27,x.u28,x.u29,x.v30)
theorem qd0 (ih:tqc->Option tqk) (x:tq1):LE.step X qcX q3X (PE.ps X qcp (fun x q=>(ih x).bind q) q5o) (qcK ih) 12 x=X2 ih x.1 x.u4 x.u6 x.u7 x.u8 x.u10 x.u17 x.u18 x.u19 x.u20 x.u21 x.u22 x.u23 x.u25 x.u27 x.u28 x.u29 x.v30 x.2.1 x.u2 x.u3 x.u5 x.u9 x.u11 x.u12 x.u13 x.u14 x.u15 x.u16 x.u24 x.u26 (fun w=>Sum.inl (qcZ x w)) (fun o=>Sum.inr (qcY x id o)):=by kernel_rfl
def qd1 (ih:tqc->Option tqk) {R:Type}:Z21 S R:=LE.ls X qcX (fun x k=>(XO ih x.1 x.u4 x.u6 x.u7 x.u8 x.u10 x.u17 x.u18 x.u19 x.u20 x.u21 x.u22 x.u23 x.u25 x.u27 x.u28 x.u29 x.v30 (x.2.1,x.u2,x.u3,x.u5,x.u9,x.u11,x.u12,x.u13,x.u14,x.u15,x.u16,x.u24,x.u26)).bind (qcY x k)) (qcK ih)
theorem qd2 (ih:tqc->Option tqk) (hih:ZcD X qcp ih) {R:Type}:Z2e X (qd1 ih (R:=R)):=Zke xok q3Y (e:=qcX) (Zk8 (e:=qcp) hih q5p) (qcL ih hih) (st:=fun(x:tq1)=>Xd ih x.1 x.u4 x.u6 x.u7 x.u8 x.u10 x.u17 x.u18 x.u19 x.u20 x.u21 x.u22 x.u23 x.u25 x.u27 x.u28 x.u29 x.v30) (prj:=fun(x:tq1)=>(x.2.1,x.u2,x.u3,x.u5,x.u9,x.u11,x.u12,x.u13,x.u14,x.u15,x.u16,x.u24,x.u26)) (emb:=qcZ) qcY (fun x=>(qd0 ih x).trans (by unfold Xd X2;simp only[Zk2,ZjT,Zk3,Option.map_some,Option.map_none];rfl)) (qcL ih hih)
theorem qd3 (ih:tqc->Option tqk) (x:((Nat->Y2)×Int×(List Zb)×Zc×(Nat->Y2)×Zc×Int×Bool×(List Zr)×Int×CoRecord×Bool×CoRecord)):PE.step X qcp q3X (PE.ps X qcp (fun x q=>(ih x).bind q) q5o) (qd1 ih) 12 x=Xh ih x.1 x.2.1 x.u2 x.u3 x.u4 x.u5 x.u6 x.u7 x.u8 x.u9 x.u10 x.u11 x.v12:=by kernel_rfl
theorem qd4:ZcD X qcp W3:=Zk9 (X:=X) (e:=qcp) (t:=X5) fun ih hih=>Zkf (ZjG xok q3Y (Zk8 (e:=qcp) hih q5p) (qd2 ih hih) 12) fun x _ h=>(qd3 ih x).trans h
def qd5 {R:Type}:Prs S R:=PE.ps X qcp (fun x q=>(W3 x).bind q) q5o
theorem qd6 {R:Type}:Z8k X (qd5 (R:=R)):=Zk8 (e:=qcp) qd4 q5p
def qd7:StT S:=⟨(N v1A vI (N (N L (some (.ptr 6 0)) L) (some .sl0) L)),o1u,8⟩
def qd9:PE S:=⟨82,6,qd7,[(.arr (.st 5)),.int,(.st 25),(.arr (.st 5)),(.st 25),.int,.bool,(.lst (.st 21)),.int,(.st 20),.bool,(.st 20)],[qco]⟩
theorem qdk (x:tqf):LE.step X qcx q3X q5o q4 12 x=X0 x.1 x.u2 x.u4 x.u5 x.u6 x.u7 x.u8 x.u9 x.u10 x.u11 x.v12 x.2.1 x.u3 (fun w=>Sum.inl (qcz x w)) (fun o=>Sum.inr (qcy x id o)):=by kernel_rfl
def qdl {R:Type}:Z21 S R:=LE.ls X qcx (fun x k=>(XN x.1 x.u2 x.u4 x.u5 x.u6 x.u7 x.u8 x.u9 x.u10 x.u11 x.v12 (x.2.1,x.u3)).bind (qcy x k)) q4
theorem qdm {R:Type}:Z2e X (qdl (R:=R)):=Zke xok q3Y (e:=qcx) q5p q5 (st:=fun(x:tqf)=>Xc x.1 x.u2 x.u4 x.u5 x.u6 x.u7 x.u8 x.u9 x.u10 x.u11 x.v12) (prj:=fun(x:tqf)=>(x.2.1,x.u3)) (emb:=qcz) qcy (fun x=>(qdk x).trans (by unfold Xc X0;simp only[Zk2,ZjT,Zk3,Option.map_some,Option.map_none];rfl)) q5
theorem qdt (x:tqf):LE.step X qcG q3X q5o qdl 12 x=Wl x.1 x.u2 x.u4 x.u5 x.u6 x.u7 x.u8 x.u9 x.u10 x.u11 x.v12 x.2.1 x.u3 (fun w=>Sum.inl (qcz x w)) (fun o=>Sum.inr (qcy x id o)):=by kernel_rfl
def qdu {R:Type}:Z21 S R:=LE.ls X qcG (fun x k=>(X1x x.1 x.u2 x.u4 x.u5 x.u6 x.u7 x.u8 x.u9 x.u10 x.u11 x.v12 (x.2.1,x.u3)).bind (qcy x k)) qdl
theorem qdv {R:Type}:Z2e X (qdu (R:=R)):=Zke xok q3Y (e:=qcG) q5p qdm (st:=fun(x:tqf)=>WC x.1 x.u2 x.u4 x.u5 x.u6 x.u7 x.u8 x.u9 x.u10 x.u11 x.v12) (prj:=fun(x:tqf)=>(x.2.1,x.u3)) (emb:=qcz) qcy (fun x=>(qdt x).trans (by unfold WC Wl X0;simp only[Zk2,ZjT,Zk3,Option.map_some,Option.map_none];rfl)) qdm
def qdx:StT S:=⟨v17,oL,72⟩
def qdy:Way S:=⟨.ret,⟨L,(N o1c ob (N (N (N (N L none (N L o2 L)) os L) ou o1w) oj o1y)),168⟩,[(.lst (.st 28)),(.st 28),(.st 25),(.lst (.st 19)),(.arr (.st 5)),(.arr (.st 5)),(.arr (.st 5)),.bool,.int,(.st 25),(.arr (.st 5)),(.st 28),.int,.bool,(.lst (.st 21)),.int,(.st 20),.bool,(.arr (.st 5)),.bool,.int,.bool,.int,.bool,(.st 19),.int,(.lst (.st 28)),(.st 20),(.lst (.st 19)),(.st 21),(.lst (.st 28)),(.st 25)]⟩
def qdz:Way S:=⟨.ret,⟨L,oT,161⟩,[(.st 28),(.st 25),(.lst (.st 19)),(.arr (.st 5)),(.arr (.st 5)),(.arr (.st 5)),.bool,.int,(.st 25),(.arr (.st 5)),(.st 28),.int,.bool,(.lst (.st 21)),.int,(.st 20),.bool,(.arr (.st 5)),.bool,.int,.bool,.int,.bool,(.st 19),.int,(.st 20),(.lst (.st 19)),(.st 21),(.lst (.st 28)),(.st 25)]⟩
def qdA:Way S:=⟨.ret,⟨L,(N oX ob (N (N (N (N L none (N (N (N L ov L) none L) o2 L)) os L) ou (N L none (N (N (N L ol L) os L) none L))) oj o1y)),153⟩,[(.st 28),(.st 25),(.lst (.st 19)),(.arr (.st 5)),(.arr (.st 5)),(.arr (.st 5)),.bool,.int,(.st 25),(.arr (.st 5)),(.st 28),.int,.bool,(.lst (.st 21)),.int,(.st 20),(.lst (.st 28)),(.lst (.st 28)),.bool,(.arr (.st 5)),.bool,.int,.bool,.int,.bool,(.st 19),.int,(.st 20),(.lst (.st 19)),(.st 21),(.lst (.st 28)),(.st 25)]⟩
def qdB:Way S:=⟨.ret,⟨L,oT,146⟩,[(.st 28),(.st 25),(.lst (.st 19)),(.arr (.st 5)),(.arr (.st 5)),(.arr (.st 5)),.bool,.int,(.st 25),(.arr (.st 5)),(.st 28),.int,.bool,(.lst (.st 21)),.int,(.st 20),.bool,(.arr (.st 5)),.bool,.int,.bool,.int,.bool,(.st 19),.int,(.st 20),(.lst (.st 19)),(.st 21),(.lst (.st 28)),(.st 25)]⟩
def qdC:Way S:=⟨.ret,⟨L,(N o12 ob (N o1s oj o1o)),154⟩,[(.st 28),(.st 25),(.lst (.st 19)),(.arr (.st 5)),(.arr (.st 5)),(.arr (.st 5)),.bool,.int,(.st 25),(.lst (.st 28)),(.arr (.st 5)),(.st 28),.int,.bool,(.lst (.st 21)),.int,(.st 20),.bool,(.arr (.st 5)),.bool,.int,.bool,.int,.bool,(.st 19),.int,(.st 20),(.lst (.st 19)),(.st 21),(.lst (.st 28)),(.st 25),(.lst (.st 28))]⟩
def qdD:Way S:=⟨.ret,⟨L,oT,147⟩,[(.st 28),(.st 25),(.lst (.st 19)),(.arr (.st 5)),(.arr (.st 5)),(.arr (.st 5)),.bool,.int,(.st 25),(.arr (.st 5)),(.st 28),.int,.bool,(.lst (.st 21)),.int,(.st 20),.bool,(.arr (.st 5)),.bool,.int,.bool,.int,.bool,(.st 19),.int,(.st 20),(.lst (.st 19)),(.st 21),(.lst (.st 28)),(.st 25)]⟩
def qdE:Way S:=⟨.ret,⟨L,(N o15 ob (N o1s oj o1t)),139⟩,[(.lst (.st 28)),(.st 28),(.st 25),(.lst (.st 19)),(.arr (.st 5)),(.arr (.st 5)),(.arr (.st 5)),.bool,.int,(.st 25),(.arr (.st 5)),(.st 28),.int,.bool,(.lst (.st 21)),.int,(.st 20),.bool,(.arr (.st 5)),.bool,.int,.bool,.int,.bool,(.st 19),.int,(.st 20),(.lst (.st 28)),(.lst (.st 19)),(.st 21),(.lst (.st 28)),(.st 25)]⟩
def qdF:Way S:=⟨.ret,⟨L,oT,132⟩,[(.st 28),(.st 25),(.lst (.st 19)),(.arr (.st 5)),(.arr (.st 5)),(.arr (.st 5)),.bool,.int,(.st 25),(.arr (.st 5)),(.st 28),.int,.bool,(.lst (.st 21)),.int,(.st 20),.bool,(.arr (.st 5)),.bool,.int,.bool,.int,.bool,(.st 19),.int,(.st 20),(.lst (.st 19)),(.st 21),(.lst (.st 28)),(.st 25)]⟩
def qdG:Way S:=⟨(.exit 0),⟨L,oL,73⟩,[(.st 25),(.lst (.st 19)),(.arr (.st 5)),(.arr (.st 5)),.bool,.int,(.st 25),(.arr (.st 5)),(.st 28),.int,.bool,(.lst (.st 21)),.int,(.st 20),.bool,(.arr (.st 5)),.bool,.int,.bool,.int,.bool,.int,(.st 20),(.lst (.st 19)),(.st 21),(.lst (.st 28)),(.st 25)]⟩
def qdH:LE S:=⟨qcM,qdx,[.int,.int,.int,(.st 25),(.lst (.st 19)),(.arr (.st 5)),(.arr (.st 5)),.bool,.int,(.st 25),(.arr (.st 5)),(.st 28),.int,.bool,(.lst (.st 21)),.int,(.st 20),.bool,(.arr (.st 5)),.bool,.int,.bool,.int,.bool,.int,(.st 20),(.lst (.st 19)),(.st 21),(.lst (.st 28)),(.st 25)],[qdy,qdz,qdA,qdB,qdC,qdD,qdE,qdF,qdG]⟩
def qdI {T:Type} (x:tq3) (k:(((List Zb)×Zb×Zc×(List Zq)×(Nat->Y2)×(Nat->Y2)×(Nat->Y2)×Bool×Int×Zc×(Nat->Y2)×Zb×Int×Bool×(List Zr)×Int×CoRecord×Bool×(Nat->Y2)×Bool×Int×Bool×Int×Bool×Zq×Int×(List Zb)×CoRecord×(List Zq)×Zr×(List Zb)×Zc)⊕tq2⊕(Zb×Zc×(List Zq)×(Nat->Y2)×(Nat->Y2)×(Nat->Y2)×Bool×Int×Zc×(Nat->Y2)×Zb×Int×Bool×(List Zr)×Int×CoRecord×(List Zb)×(List Zb)×Bool×(Nat->Y2)×Bool×Int×Bool×Int×Bool×Zq×Int×CoRecord×(List Zq)×Zr×(List Zb)×Zc)⊕tq2⊕(Zb×Zc×(List Zq)×(Nat->Y2)×(Nat->Y2)×(Nat->Y2)×Bool×Int×Zc×(List Zb)×(Nat->Y2)×Zb×Int×Bool×(List Zr)×Int×CoRecord×Bool×(Nat->Y2)×Bool×Int×Bool×Int×Bool×Zq×Int×CoRecord×(List Zq)×Zr×(List Zb)×Zc×(List Zb))⊕tq2⊕((List Zb)×Zb×Zc×(List Zq)×(Nat->Y2)×(Nat->Y2)×(Nat->Y2)×Bool×Int×Zc×(Nat->Y2)×Zb×Int×Bool×(List Zr)×Int×CoRecord×Bool×(Nat->Y2)×Bool×Int×Bool×Int×Bool×Zq×Int×CoRecord×(List Zb)×(List Zq)×Zr×(List Zb)×Zc)⊕tq2⊕(Zc×(List Zq)×(Nat->Y2)×(Nat->Y2)×Bool×Int×Zc×(Nat->Y2)×Zb×Int×Bool×(List Zr)×Int×CoRecord×Bool×(Nat->Y2)×Bool×Int×Bool×Int×Bool×Int×CoRecord×(List Zq)×Zr×(List Zb)×Zc))->T):(((List Zb)×Zb×Zc×(Nat->Y2)×(Nat->Y2)×Bool×Zc×Zb×Int×Bool×(List Zr)×Int×CoRecord×Bool×Zq×(List Zb)×CoRecord)⊕tq8⊕(Zb×Zc×(Nat->Y2)×(Nat->Y2)×Bool×Zc×Zb×Int×Bool×(List Zr)×Int×CoRecord×(List Zb)×(List Zb)×Bool×Zq×CoRecord)⊕tq8⊕(Zb×Zc×(Nat->Y2)×(Nat->Y2)×Bool×Zc×(List Zb)×Zb×Int×Bool×(List Zr)×Int×CoRecord×Bool×Zq×CoRecord×(List Zb))⊕tq8⊕((List Zb)×Zb×Zc×(Nat->Y2)×Bool×Zc×Zb×Int×Bool×(List Zr)×Int×CoRecord×Bool×Zq×CoRecord×(List Zb))⊕(Zb×Zc×(Nat->Y2)×Bool×Zc×Zb×Int×Bool×(List Zr)×Int×CoRecord×Bool×Zq×CoRecord)⊕(Zc×(Nat->Y2)×Zc×Zb×Int×Bool×(List Zr)×Int×CoRecord×Bool×CoRecord))->T:=Sum.elim (fun y0=>k (.inl (y0.1,y0.2.1,y0.u2,x.u4,y0.u3,y0.u4,x.u6,y0.u5,x.u8,y0.u6,x.u10,y0.u7,y0.u8,y0.u9,y0.u10,y0.u11,y0.u12,x.u17,x.u18,x.u19,x.u20,x.u21,x.u22,y0.u13,y0.u14,x.u24,y0.u15,y0.v16,x.u26,x.u27,x.u28,x.v29))) (Sum.elim (fun y1=>k (.inr (.inl (y1.1,y1.2.1,x.u4,y1.u2,y1.u3,x.u6,y1.u4,x.u8,y1.u5,x.u10,y1.u6,y1.u7,y1.u8,y1.u9,y1.u10,y1.u11,x.u17,x.u18,x.u19,x.u20,x.u21,x.u22,y1.u12,y1.u13,x.u24,y1.v14,x.u26,x.u27,x.u28,x.v29)))) (Sum.elim (fun y2=>k (.inr (.inr (.inl (y2.1,y2.2.1,x.u4,y2.u2,y2.u3,x.u6,y2.u4,x.u8,y2.u5,x.u10,y2.u6,y2.u7,y2.u8,y2.u9,y2.u10,y2.u11,y2.u12,y2.u13,x.u17,x.u18,x.u19,x.u20,x.u21,x.u22,y2.u14,y2.u15,x.u24,y2.v16,x.u26,x.u27,x.u28,x.v29))))) (Sum.elim (fun y3=>k (.inr (.inr (.inr (.inl (y3.1,y3.2.1,x.u4,y3.u2,y3.u3,x.u6,y3.u4,x.u8,y3.u5,x.u10,y3.u6,y3.u7,y3.u8,y3.u9,y3.u10,y3.u11,x.u17,x.u18,x.u19,x.u20,x.u21,x.u22,y3.u12,y3.u13,x.u24,y3.v14,x.u26,x.u27,x.u28,x.v29)))))) (Sum.elim (fun y4=>k (.inr (.inr (.inr (.inr (.inl (y4.1,y4.2.1,x.u4,y4.u2,y4.u3,x.u6,y4.u4,x.u8,y4.u5,y4.u6,x.u10,y4.u7,y4.u8,y4.u9,y4.u10,y4.u11,y4.u12,x.u17,x.u18,x.u19,x.u20,x.u21,x.u22,y4.u13,y4.u14,x.u24,y4.u15,x.u26,x.u27,x.u28,x.v29,y4.v16))))))) (Sum.elim (fun y5=>k (.inr (.inr (.inr (.inr (.inr (.inl (y5.1,y5.2.1,x.u4,y5.u2,y5.u3,x.u6,y5.u4,x.u8,y5.u5,x.u10,y5.u6,y5.u7,y5.u8,y5.u9,y5.u10,y5.u11,x.u17,x.u18,x.u19,x.u20,x.u21,x.u22,y5.u12,y5.u13,x.u24,y5.v14,x.u26,x.u27,x.u28,x.v29)))))))) (Sum.elim (fun y6=>k (.inr (.inr (.inr (.inr (.inr (.inr (.inl (y6.1,y6.2.1,y6.u2,x.u4,y6.u3,x.u10,x.u6,y6.u4,x.u8,y6.u5,x.u10,y6.u6,y6.u7,y6.u8,y6.u9,y6.u10,y6.u11,x.u17,x.u18,x.u19,x.u20,x.u21,x.u22,y6.u12,y6.u13,x.u24,y6.u14,y6.v15,x.u26,x.u27,x.u28,x.v29))))))))) (Sum.elim (fun y7=>k (.inr (.inr (.inr (.inr (.inr (.inr (.inr (.inl (y7.1,y7.2.1,x.u4,y7.u2,x.u10,x.u6,y7.u3,x.u8,y7.u4,x.u10,y7.u5,y7.u6,y7.u7,y7.u8,y7.u9,y7.u10,x.u17,x.u18,x.u19,x.u20,x.u21,x.u22,y7.u11,y7.u12,x.u24,y7.v13,x.u26,x.u27,x.u28,x.v29)))))))))) (fun y8=>k (.inr (.inr (.inr (.inr (.inr (.inr (.inr (.inr (y8.1,x.u4,y8.2.1,x.u6,x.u7,x.u8,y8.u2,x.u10,y8.u3,y8.u4,y8.u5,y8.u6,y8.u7,y8.u8,x.u17,x.u18,x.u19,x.u20,x.u21,x.u22,y8.u9,x.u24,y8.v10,x.u26,x.u27,x.u28,x.v29)))))))))))))))))
def qdJ (x:tq3) (v:(Int×Int×Zc×(Nat->Y2)×Zc×Zb×Int×Bool×(List Zr)×Int×CoRecord×Bool×CoRecord)):tq3:=(x.1,v.1,v.2.1,v.u2,x.u4,v.u3,x.u6,x.u7,x.u8,v.u4,x.u10,v.u5,v.u6,v.u7,v.u8,v.u9,v.u10,x.u17,x.u18,x.u19,x.u20,x.u21,x.u22,v.u11,x.u24,v.v12,x.u26,x.u27,x.u28,x.v29)
theorem qdK (x:tq3):LE.step X qdH q3X qd5 qdu 12 x=Wm x.1 x.u4 x.u6 x.u7 x.u8 x.u10 x.u17 x.u18 x.u19 x.u20 x.u21 x.u22 x.u24 x.u26 x.u27 x.u28 x.v29 x.2.1 x.u2 x.u3 x.u5 x.u9 x.u11 x.u12 x.u13 x.u14 x.u15 x.u16 x.u23 x.u25 (fun w=>Sum.inl (qdJ x w)) (fun o=>Sum.inr (qdI x id o)):=by kernel_rfl
def qdL {R:Type}:Z21 S R:=LE.ls X qdH (fun x k=>(X1y x.1 x.u4 x.u6 x.u7 x.u8 x.u10 x.u17 x.u18 x.u19 x.u20 x.u21 x.u22 x.u24 x.u26 x.u27 x.u28 x.v29 (x.2.1,x.u2,x.u3,x.u5,x.u9,x.u11,x.u12,x.u13,x.u14,x.u15,x.u16,x.u23,x.u25)).bind (qdI x k)) qdu
theorem qdM {R:Type}:Z2e X (qdL (R:=R)):=Zke xok q3Y (e:=qdH) qd6 qdv (st:=fun(x:tq3)=>WD x.1 x.u4 x.u6 x.u7 x.u8 x.u10 x.u17 x.u18 x.u19 x.u20 x.u21 x.u22 x.u24 x.u26 x.u27 x.u28 x.v29) (prj:=fun(x:tq3)=>(x.2.1,x.u2,x.u3,x.u5,x.u9,x.u11,x.u12,x.u13,x.u14,x.u15,x.u16,x.u23,x.u25)) (emb:=qdJ) qdI (fun x=>(qdK x).trans (by unfold WD Wm X2;simp only[Zk2,ZjT,Zk3,Option.map_some,Option.map_none];rfl)) qdv
theorem qdN (x:((Nat->Y2)×Int×Zc×(Nat->Y2)×Zc×Int×Bool×(List Zr)×Int×CoRecord×Bool×CoRecord)):PE.step X qd9 q3X qd5 qdL 12 x=W6 x.1 x.2.1 x.u2 x.u3 x.u4 x.u5 x.u6 x.u7 x.u8 x.u9 x.u10 x.v11:=by kernel_rfl
theorem qdO:ZcD X qd9 W2:=Zkf (ZjG xok q3Y qd6 qdM 12) fun x _ h=>((qdN x).trans (X25 x).symm).trans h
def qdP {R:Type}:Prs S R:=PE.ps X qd9 (fun x q=>(W2 x).bind q) qd5
theorem qdQ {R:Type}:Z8k X (qdP (R:=R)):=Zk8 (e:=qd9) qdO qd6
def qdR:StT S:=⟨(N (N L (some (.ptr 0 0)) L) (some (.yld 5)) L),o1F,6⟩
def qdS:Way S:=⟨.ret,⟨(N L (some (.tup [])) L),o1F,6⟩,[(.arr (.st 5)),(.st 25),.int,.bool,(.lst (.st 21)),.int,(.st 20),(.st 25),.bool,(.st 20)]⟩
def qdT:PE S:=⟨81,2,qdR,[(.arr (.st 5)),(.st 25),.int,.bool,(.lst (.st 21)),.int,(.st 20),(.st 25),.bool,(.st 20)],[qdS]⟩
def qdU:List (Nat×F7 S):=[(83,q3R),(37,q2B)]
theorem qdV:Z95 X qdU:=⟨q3S,q2C,trivial⟩
def qdY:Key:=⟨[81],81,none,[0,0,1,0,1,1],0,13⟩
def qdZ:StT S:=⟨(N (N (N L (some (.ptr 7 0)) (N L vI L)) (some (.ptr 0 0)) (N (N L vF L) none L)) none (N L (some (.ptr 6 0)) (N (N L vI L) none L))),o1v,13⟩
def qe0:Way S:=⟨(.exit 0),⟨(N (N (N L (some (.ptr 7 0)) L) (some (.ptr 0 0)) L) none (N L (some (.ptr 6 0)) L)),o1v,14⟩,[(.arr (.st 5)),(.arr (.st 5)),(.st 25),.int,.bool,(.lst (.st 21)),.int,(.st 20),(.st 25),.bool,(.st 20)]⟩
def qe1:LE S:=⟨qdY,qdZ,[.int,(.lst (.st 19)),.int,(.arr (.st 5)),(.arr (.st 5)),(.st 25),.int,.bool,(.lst (.st 21)),.int,(.st 20),(.st 25),.bool,(.st 20)],[qe0]⟩
def qe2 {T:Type} (x:tqd) (k:((Nat->Y2)×(Nat->Y2)×Zc×Int×Bool×(List Zr)×Int×CoRecord×Zc×Bool×CoRecord)->T):(Nat->Y2)->T:=fun y0=>k (y0,x.u4,x.u5,x.u6,x.u7,x.u8,x.u9,x.u10,x.u11,x.u12,x.v13)
def qe3 (x:tqd) (v:(Int×(Nat->Y2))):tqd:=(v.1,x.2.1,x.u2,v.2,x.u4,x.u5,x.u6,x.u7,x.u8,x.u9,x.u10,x.u11,x.u12,x.v13)
theorem qe4 (x:tqd):LE.step X qe1 qdU q5o q4 12 x=WG x.2.1 x.u2 x.u4 x.u5 x.u6 x.u7 x.u8 x.u9 x.u10 x.u11 x.u12 x.v13 x.1 x.u3 (fun w=>Sum.inl (qe3 x w)) (fun o=>Sum.inr (qe2 x id o)):=by kernel_rfl
def qe5 {R:Type}:Z21 S R:=LE.ls X qe1 (fun x k=>(WJ x.2.1 x.u2 x.u4 x.u5 x.u6 x.u7 x.u8 x.u9 x.u10 x.u11 x.u12 x.v13 (x.1,x.u3)).bind (qe2 x k)) q4
theorem qe6 {R:Type}:Z2e X (qe5 (R:=R)):=Zke xok qdV (e:=qe1) q5p q5 (st:=fun(x:tqd)=>WT x.2.1 x.u2 x.u4 x.u5 x.u6 x.u7 x.u8 x.u9 x.u10 x.u11 x.u12 x.v13) (prj:=fun(x:tqd)=>(x.1,x.u3)) (emb:=qe3) qe2 (fun x=>(qe4 x).trans (by unfold WT WG X6;simp only[Zk2,ZjT,Zk3,Option.map_some,Option.map_none];rfl)) q5
theorem qe7 (x:((Nat->Y2)×Zc×Int×Bool×(List Zr)×Int×CoRecord×Zc×Bool×CoRecord)):PE.step X qdT qdU qdP qe5 12 x=XK x.1 x.2.1 x.u2 x.u3 x.u4 x.u5 x.u6 x.u7 x.u8 x.v9:=by kernel_rfl
theorem qe8:ZcD X qdT Wf:=Zkf (ZjG xok qdV qdQ qe6 12) fun x _ h=>((qe7 x).trans (X2C x).symm).trans h
def qe9 {R:Type}:Prs S R:=PE.ps X qdT (fun x q=>(Wf x).bind q) qdP
theorem qea {R:Type}:Z8k X (qe9 (R:=R)):=Zk8 (e:=qdT) qe8 qdQ
def qeb:List (Nat×F7 S):=[(37,q2B),(83,q3R)]
theorem qec:Z95 X (qeb):=⟨q2C,q3S,trivial⟩
theorem qef (x0:CoRecord) (x1:List Zr):Zkg X qeb [(.st 20),(.sl (.st 21))] [(.sl (.st 5)),(.int .i64)] qe9 q4 12 21 (x0,x1,())=X1J x0 x1:=by kernel_rfl
def qeg:F7 S:=⟨[(.st 20),(.sl (.st 21))],[(.sl (.st 5)),(.int .i64)],fun xs=>X45 xs.1 xs.2.1⟩
theorem qeh:Zav X 21 qeg:=Zkd (Zkc xok qec qea q5 12 21) fun xs _ h=>((qef xs.1 xs.2.1).trans (X4q xs.1 xs.2.1).symm).trans h
def qei:List (Nat×F7 S):=[(55,qap)]
theorem qej:Z95 X (qei):=⟨qaq,trivial⟩
theorem qem (x0:CoRecord):Zkg X qei [(.st 20)] [.bool] qe9 q4 12 23 (x0,())=X3o x0:=by kernel_rfl
def qen:F7 S:=⟨[(.st 20)],[.bool],fun xs=>X6X xs.1⟩
theorem qeo:Zav X 23 qen:=Zkd (Zkc xok qej qea q5 12 23) fun xs _ h=>((qem xs.1).trans (X7r xs.1).symm).trans h
def qep:List (Nat×F7 S):=[(37,q2B),(39,q5v)]
theorem qeq:Z95 X (qep):=⟨q2C,q5w,trivial⟩
theorem qet (x0:CoRecord) (x1:List Zr):Zkg X qep [(.st 20),(.sl (.st 21))] [.bool,(.int .i64)] qe9 q4 12 24 (x0,x1,())=X2v x0 x1:=by kernel_rfl
def qeu:F7 S:=⟨[(.st 20),(.sl (.st 21))],[.bool,(.int .i64)],fun xs=>X2R xs.1 xs.2.1⟩
theorem qev:Zav X 24 qeu:=Zkd (Zkc xok qeq qea q5 12 24) fun xs _ h=>((qet xs.1 xs.2.1).trans (X5r xs.1 xs.2.1).symm).trans h
theorem qeA (x0:Y2) (x1:Int):Zkg X q2 [(.st 5),(.int .i64)] [(.int .i64)] qe9 q4 12 56 (x0,x1,())=X3n x0 x1:=by kernel_rfl
def qeB:F7 S:=⟨[(.st 5),(.int .i64)],[(.int .i64)],fun xs=>X5E xs.1 xs.2.1⟩
theorem qeC:Zav X 56 qeB:=Zkd (Zkc xok q3 qea q5 12 56) fun xs _ h=>((qeA xs.1 xs.2.1).trans (X7p xs.1 xs.2.1).symm).trans h
def qeD:List (Nat×F7 S):=[(19,qce),(20,qcl),(56,qeB)]
theorem qeE:Z95 X (qeD):=⟨qcf,qcm,qeC,trivial⟩
def qeH:Key:=⟨[26],26,none,[0,0,1,0,1,0,0,1,0,0,1,0,1,1,1],2,23⟩
def qeI:StT S:=⟨(N (N v1N none (N (N L vI L) (some (.rs 23 0)) L)) none v1I),(N (N o1T oo L) oj L),24⟩
def qeJ:Way S:=⟨(.exit 2),⟨(N (N v1N none (N L (some (.rs 23 0)) L)) none v1I),(N (N o1T oo L) oj L),29⟩,[.int,.int,.int,(.lst (.int .i64)),(.st 24),(.st 20)]⟩
def qeK:LE S:=⟨qeH,qeI,[.int,.int,.int,.int,(.lst (.int .i64)),(.st 24),(.st 20)],[qeJ]⟩
def qeL {T:Type} (x:tqv) (k:(Int×Int×Int×(List Int)×Za×CoRecord)->T):Int->T:=fun y0=>k (x.1,y0,x.u3,x.u4,x.u5,x.v6)
def qeM (x:tqv) (v:(Int×Int)):tqv:=(x.1,v.1,v.2,x.u3,x.u4,x.u5,x.v6)
theorem qeN (x:tqv):LE.step X qeK qeD qe9 q4 12 x=X2J x.v6 x.2.1 x.u2 (fun w=>Sum.inl (qeM x w)) (fun o=>Sum.inr (qeL x id o)):=by kernel_rfl
def qeO {R:Type}:Z21 S R:=LE.ls X qeK (fun x k=>(X48 x.v6 (x.2.1,x.u2)).bind (qeL x k)) q4
theorem qeP {R:Type}:Z2e X (qeO (R:=R)):=Zke xok qeE (e:=qeK) qea q5 (st:=fun(x:tqv)=>X3a x.v6) (prj:=fun(x:tqv)=>(x.2.1,x.u2)) (emb:=qeM) qeL (fun x=>(qeN x).trans (by unfold X3a X2J;simp only[Zk2,ZjT,Zk3,Option.map_some,Option.map_none];rfl)) q5
def qeQ:Key:=⟨[26],26,none,[0,0,1,0,1,1,1],0,6⟩
def qeR:StT S:=⟨(N (N v1N none (N L (some (.rs 6 0)) L)) none (N L (some (.ptr 0 0)) (N L vI L))),(N (N L oo L) oj (N L none (N L or L))),7⟩
def qeS:Way S:=⟨(.exit 0),⟨(N (N L none (N L (some (.rs 6 0)) L)) none L),(N (N L oo L) oj (N L none (N L or L))),12⟩,[(.st 24),(.st 20),(.lst (.int .i64))]⟩
def qeT:LE S:=⟨qeQ,qeR,[.int,.int,(.st 24),(.st 20),(.lst (.int .i64))],[qeS]⟩
def qeU {T:Type} (x:tqz) (k:(Za×CoRecord×(List Int))->T):(List Int)->T:=fun y0=>k (x.u2,x.u3,y0)
def qeV (x:tqz) (v:tqR):tqz:=(v.1,v.2.1,x.u2,x.u3,v.v2)
theorem qeW (x:tqz):LE.step X qeT qeD qe9 qeO 12 x=X2I x.u2 x.u3 x.1 x.2.1 x.v4 (fun w=>Sum.inl (qeV x w)) (fun o=>Sum.inr (qeU x id o)):=by kernel_rfl
def qeX {R:Type}:Z21 S R:=LE.ls X qeT (fun x k=>(X47 x.u2 x.u3 (x.1,x.2.1,x.v4)).bind (qeU x k)) qeO
theorem qeY {R:Type}:Z2e X (qeX (R:=R)):=Zke xok qeE (e:=qeT) qea qeP (st:=fun(x:tqz)=>X39 x.u2 x.u3) (prj:=fun(x:tqz)=>(x.1,x.2.1,x.v4)) (emb:=qeV) qeU (fun x=>(qeW x).trans (by unfold X39 X2I;simp only[Zk2,ZjT,Zk3,Option.map_some,Option.map_none];rfl)) qeP
theorem qeZ (x0:CoRecord) (x1:Za):Zkg X qeD [(.st 20),(.st 24)] [(.sl (.int .i64))] qe9 qeX 12 26 (x0,x1,())=X2M x0 x1:=by kernel_rfl
def qf0:F7 S:=⟨[(.st 20),(.st 24)],[(.sl (.int .i64))],fun xs=>X4O xs.1 xs.2.1⟩
theorem qf1:Zav X 26 qf0:=Zkd (Zkc xok qeE qea qeY 12 26) fun xs _ h=>((qeZ xs.1 xs.2.1).trans (X6R xs.1 xs.2.1).symm).trans h
def qf6:Key:=⟨[27],27,none,[0,0,1,0,1,1],0,10⟩
def qf7:StT S:=⟨(N (N (N L vI L) vD (N (N L vI L) none L)) none (N (N L (some (.ptr 0 0)) L) vI (N (N L vI L) none L))),(N L oj L),10⟩
def qf8:Way S:=⟨(.exit 0),⟨(N v1P none L),(N L oj L),14⟩,[.int,(.st 20)]⟩
def qf9:LE S:=⟨qf6,qf7,[.int,(.lst (.int .i64)),.int,.int,.int,(.st 20)],[qf8]⟩
def qfa {T:Type} (x:tqB) (k:(Int×CoRecord)->T):Int->T:=fun y0=>k (y0,x.v5)
def qfb (x:tqB) (v:(Int×Int)):tqB:=(x.1,x.2.1,v.1,x.u3,v.2,x.v5)
theorem qfc (x:tqB):LE.step X qf9 q2 qe9 q4 12 x=X3b x.1 x.2.1 x.u3 x.v5 x.u2 x.u4 (fun w=>Sum.inl (qfb x w)) (fun o=>Sum.inr (qfa x id o)):=by kernel_rfl
def qfd {R:Type}:Z21 S R:=LE.ls X qf9 (fun x k=>(X4v x.1 x.2.1 x.u3 x.v5 (x.u2,x.u4)).bind (qfa x k)) q4
theorem qfe {R:Type}:Z2e X (qfd (R:=R)):=Zke xok q3 (e:=qf9) qea q5 (st:=fun(x:tqB)=>X3N x.1 x.2.1 x.u3 x.v5) (prj:=fun(x:tqB)=>(x.u2,x.u4)) (emb:=qfb) qfa (fun x=>(qfc x).trans (by unfold X3N X3b;simp only[Zk2,ZjT,Zk3,Option.map_some,Option.map_none];rfl)) q5
theorem qff (x0:CoRecord) (x1:List Int) (x2 x3:Int):Zkg X q2 [(.st 20),(.sl (.int .i64)),(.int .i64),(.int .i64)] [(.int .i64)] qe9 qfd 12 27 (x0,x1,x2,x3,())=X3m x0 x1 x2 x3:=by kernel_rfl
def qfg:F7 S:=⟨[(.st 20),(.sl (.int .i64)),(.int .i64),(.int .i64)],[(.int .i64)],fun xs=>X5C xs.1 xs.2.1 xs.u2 xs.u3⟩
theorem qfh:Zav X 27 qfg:=Zkd (Zkc xok q3 qea qfe 12 27) fun xs _ h=>((qff xs.1 xs.2.1 xs.u2 xs.u3).trans (X7o xs.1 xs.2.1 xs.u2 xs.u3).symm).trans h
def qfi:List (Nat×F7 S):=[(19,qce)]
theorem qfj:Z95 X (qfi):=⟨qcf,trivial⟩
theorem qfm (x0 x1 x2:Int):Zkg X qfi [(.int .i64),(.int .i64),(.int .i64)] [(.st 21)] qe9 q4 12 28 (x0,x1,x2,())=X44 x0 x1 x2:=by kernel_rfl
def qfn:F7 S:=⟨[(.int .i64),(.int .i64),(.int .i64)],[(.st 21)],fun xs=>X7Z xs.1 xs.2.1 xs.u2⟩
theorem qfo:Zav X 28 qfn:=Zkd (Zkc xok qfj qea q5 12 28) fun xs _ h=>((qfm xs.1 xs.2.1 xs.u2).trans (X88 xs.1 xs.2.1 xs.u2).symm).trans h
def qfp:StT S:=⟨(N (N L (some (.agg [(.stc 24 (T.dflt 24))])) L) (some (.agg [(.stc 20 (T.dflt 20))])) L),L,0⟩
def qfq:Way S:=⟨.ret,⟨(N L (some (.rs 0 0)) L),(N L oz L),1⟩,[(.lst (.st 21))]⟩
def qfr:PE S:=⟨25,2,qfp,[(.st 24),(.st 20)],[qfq]⟩
def qfs:List (Nat×F7 S):=[(26,qf0),(27,qfg),(19,qce),(23,qen),(24,qeu),(21,qeg),(13,qbC),(17,qbQ),(28,qfn),(8,q8p),(18,qc7)]
theorem qft:Z95 X qfs:=⟨qf1,qfh,qcf,qeo,qev,qeh,qbD,qbR,qfo,q8q,qc8,trivial⟩
def qfw:Key:=⟨[25],25,none,[0,0,1,0,1,1,1],0,9⟩
def qfx:StT S:=⟨(N (N v1N none (N L (some (.rs 9 0)) L)) none (N L (some (.ptr 0 0)) (N L vD L))),(N (N L oo (N (N L oz L) none L)) oj L),10⟩
def qfy:Way S:=⟨(.exit 0),⟨(N (N L none (N L (some (.rs 9 0)) L)) none L),(N (N L oo (N (N L oz L) none L)) oj L),21⟩,[(.st 24),(.lst (.st 21)),(.st 20)]⟩
def qfz:LE S:=⟨qfw,qfx,[.int,(.lst (.int .i64)),(.st 24),(.lst (.st 21)),(.st 20)],[qfy]⟩
def qfA {T:Type} (x:tqw) (k:(Za×(List Zr)×CoRecord)->T):(List Zr)->T:=fun y0=>k (x.u2,y0,x.v4)
def qfB (x:tqw) (v:(Int×(List Zr))):tqw:=(v.1,x.2.1,x.u2,v.2,x.v4)
theorem qfC (x:tqw):LE.step X qfz qfs qe9 q4 12 x=X2K x.2.1 x.u2 x.v4 x.1 x.u3 (fun w=>Sum.inl (qfB x w)) (fun o=>Sum.inr (qfA x id o)):=by kernel_rfl
def qfD {R:Type}:Z21 S R:=LE.ls X qfz (fun x k=>(X49 x.2.1 x.u2 x.v4 (x.1,x.u3)).bind (qfA x k)) q4
theorem qfE {R:Type}:Z2e X (qfD (R:=R)):=Zke xok qft (e:=qfz) qea q5 (st:=fun(x:tqw)=>X3c x.2.1 x.u2 x.v4) (prj:=fun(x:tqw)=>(x.1,x.u3)) (emb:=qfB) qfA (fun x=>(qfC x).trans (by unfold X3c X2K;simp only[Zk2,ZjT,Zk3,Option.map_some,Option.map_none];rfl)) q5
theorem qfF (x:(Za×CoRecord)):PE.step X qfr qfs qe9 qfD 12 x=X2N x.1 x.2:=by kernel_rfl
theorem qfG:ZcD X qfr X4P:=Zkf (ZjG xok qft qea qfE 12) fun x _ h=>((qfF x).trans (X6S x).symm).trans h
def qfH {R:Type}:Prs S R:=PE.ps X qfr (fun x q=>(X4P x).bind q) qe9
theorem qfI {R:Type}:Z8k X (qfH (R:=R)):=Zk8 (e:=qfr) qfG qea
theorem qfN (x0:CoRecord) (x1:Int) (x2:Y2):Zkg X q2 [(.st 20),(.int .i64),(.st 5)] [(.st 20)] qfH q4 12 29 (x0,x1,x2,())=X2V x0 x1 x2:=by kernel_rfl
def qfO:F7 S:=⟨[(.st 20),(.int .i64),(.st 5)],[(.st 20)],fun xs=>X58 xs.1 xs.2.1 xs.u2⟩
theorem qfP:Zav X 29 qfO:=Zkd (Zkc xok q3 qfI q5 12 29) fun xs _ h=>((qfN xs.1 xs.2.1 xs.u2).trans (X67 xs.1 xs.2.1 xs.u2).symm).trans h
end
end Nore
