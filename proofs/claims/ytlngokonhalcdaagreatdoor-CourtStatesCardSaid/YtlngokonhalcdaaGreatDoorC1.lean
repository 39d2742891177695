/- The code comes to the plain functions. -/
import Derived.Test.YtlngokonhalcdaaGreatDoorY
import Derived.Test.YtlngokonhalcdaaGreatDoorD
set_option linter.unusedSectionVars false
set_option linter.unusedVariables false
set_option linter.unusedSimpArgs false
set_option maxRecDepth 100000
open Go Go.Ab Go.Proofs Go.Proofs.YtlngokonhalcdaaGreatDoor
open Go.Ab.Tr renaming node->N,leaf->L
namespace Prod
abbrev v2 {a b s:Type} (x:a×b×s):=x.2.2
abbrev u2 {a b r s:Type} (x:a×b×r×s):=x.2.2.1
abbrev v3 {a b c s:Type} (x:a×b×c×s):=x.2.2.2
abbrev u3 {a b c r s:Type} (x:a×b×c×r×s):=x.2.2.2.1
abbrev v4 {a b c d s:Type} (x:a×b×c×d×s):=x.2.2.2.2
abbrev u4 {a b c d r s:Type} (x:a×b×c×d×r×s):=x.2.2.2.2.1
abbrev v5 {a b c d e s:Type} (x:a×b×c×d×e×s):=x.2.2.2.2.2
abbrev u5 {a b c d e r s:Type} (x:a×b×c×d×e×r×s):=x.2.2.2.2.2.1
abbrev v6 {a b c d e f s:Type} (x:a×b×c×d×e×f×s):=x.2.2.2.2.2.2
abbrev u6 {a b c d e f r s:Type} (x:a×b×c×d×e×f×r×s):=x.2.2.2.2.2.2.1
abbrev v7 {a b c d e f g s:Type} (x:a×b×c×d×e×f×g×s):=x.2.2.2.2.2.2.2
abbrev u7 {a b c d e f g r s:Type} (x:a×b×c×d×e×f×g×r×s):=x.2.2.2.2.2.2.2.1
abbrev v8 {a b c d e f g h s:Type} (x:a×b×c×d×e×f×g×h×s):=x.2.2.2.2.2.2.2.2
abbrev u8 {a b c d e f g h r s:Type} (x:a×b×c×d×e×f×g×h×r×s):=x.2.2.2.2.2.2.2.2.1
abbrev v9 {a b c d e f g h i s:Type} (x:a×b×c×d×e×f×g×h×i×s):=x.2.2.2.2.2.2.2.2.2
abbrev u9 {a b c d e f g h i r s:Type} (x:a×b×c×d×e×f×g×h×i×r×s):=x.2.2.2.2.2.2.2.2.2.1
abbrev v10 {a b c d e f g h i j s:Type} (x:a×b×c×d×e×f×g×h×i×j×s):=x.2.2.2.2.2.2.2.2.2.2
abbrev u10 {a b c d e f g h i j r s:Type} (x:a×b×c×d×e×f×g×h×i×j×r×s):=x.2.2.2.2.2.2.2.2.2.2.1
abbrev u11 {a b c d e f g h i j k r s:Type} (x:a×b×c×d×e×f×g×h×i×j×k×r×s):=x.2.2.2.2.2.2.2.2.2.2.2.1
abbrev u12 {a b c d e f g h i j k l r s:Type} (x:a×b×c×d×e×f×g×h×i×j×k×l×r×s):=x.2.2.2.2.2.2.2.2.2.2.2.2.1
abbrev u13 {a b c d e f g h i j k l m r s:Type} (x:a×b×c×d×e×f×g×h×i×j×k×l×m×r×s):=x.2.2.2.2.2.2.2.2.2.2.2.2.2.1
abbrev u14 {a b c d e f g h i j k l m n r s:Type} (x:a×b×c×d×e×f×g×h×i×j×k×l×m×n×r×s):=x.2.2.2.2.2.2.2.2.2.2.2.2.2.2.1
abbrev u15 {a b c d e f g h i j k l m n o r s:Type} (x:a×b×c×d×e×f×g×h×i×j×k×l×m×n×o×r×s):=x.2.2.2.2.2.2.2.2.2.2.2.2.2.2.2.1
abbrev u16 {a b c d e f g h i j k l m n o p r s:Type} (x:a×b×c×d×e×f×g×h×i×j×k×l×m×n×o×p×r×s):=x.2.2.2.2.2.2.2.2.2.2.2.2.2.2.2.2.1
abbrev u17 {a b c d e f g h i j k l m n o p q r s:Type} (x:a×b×c×d×e×f×g×h×i×j×k×l×m×n×o×p×q×r×s):=x.2.2.2.2.2.2.2.2.2.2.2.2.2.2.2.2.2.1
abbrev u18 {a b c d e f g h i j k l m n o p q t r s:Type} (x:a×b×c×d×e×f×g×h×i×j×k×l×m×n×o×p×q×t×r×s):=x.2.2.2.2.2.2.2.2.2.2.2.2.2.2.2.2.2.2.1
abbrev u19 {a b c d e f g h i j k l m n o p q t u r s:Type} (x:a×b×c×d×e×f×g×h×i×j×k×l×m×n×o×p×q×t×u×r×s):=x.2.2.2.2.2.2.2.2.2.2.2.2.2.2.2.2.2.2.2.1
abbrev u20 {a b c d e f g h i j k l m n o p q t u v r s:Type} (x:a×b×c×d×e×f×g×h×i×j×k×l×m×n×o×p×q×t×u×v×r×s):=x.2.2.2.2.2.2.2.2.2.2.2.2.2.2.2.2.2.2.2.2.1
abbrev u21 {a b c d e f g h i j k l m n o p q t u v w r s:Type} (x:a×b×c×d×e×f×g×h×i×j×k×l×m×n×o×p×q×t×u×v×w×r×s):=x.2.2.2.2.2.2.2.2.2.2.2.2.2.2.2.2.2.2.2.2.2.1
abbrev u22 {a b c d e f g h i j k l m n o p q t u v w x r s:Type} (x:a×b×c×d×e×f×g×h×i×j×k×l×m×n×o×p×q×t×u×v×w×x×r×s):=x.2.2.2.2.2.2.2.2.2.2.2.2.2.2.2.2.2.2.2.2.2.2.1
abbrev v23 {a b c d e f g h i j k l m n o p q t u v w x y s:Type} (x:a×b×c×d×e×f×g×h×i×j×k×l×m×n×o×p×q×t×u×v×w×x×y×s):=x.2.2.2.2.2.2.2.2.2.2.2.2.2.2.2.2.2.2.2.2.2.2.2
abbrev u23 {a b c d e f g h i j k l m n o p q t u v w x y r s:Type} (x:a×b×c×d×e×f×g×h×i×j×k×l×m×n×o×p×q×t×u×v×w×x×y×r×s):=x.2.2.2.2.2.2.2.2.2.2.2.2.2.2.2.2.2.2.2.2.2.2.2.1
abbrev v24 {a b c d e f g h i j k l m n o p q t u v w x y z s:Type} (x:a×b×c×d×e×f×g×h×i×j×k×l×m×n×o×p×q×t×u×v×w×x×y×z×s):=x.2.2.2.2.2.2.2.2.2.2.2.2.2.2.2.2.2.2.2.2.2.2.2.2
end Prod
namespace Nore
noncomputable section
abbrev tqT:Type:=Int×(List Y2)×Int
abbrev tqS:Type:=(List Int)×Int×(List Int)
abbrev tqR:Type:=Bool×(List Int)×(List Int)
abbrev tqQ:Type:=(List Zr)×Int×CoRecord
abbrev tqP:Type:=Int×(List Zq)×Int×Int
abbrev tqO:Type:=Int×(List ByteArray)×CoRecord
abbrev tqN:Type:=Int×ByteArray×ByteArray×Nat
abbrev tqM:Type:=ByteArray×Int×(List ByteArray)
abbrev tqL:Type:=Int×(List Int)×Int×Int×Int
abbrev tqK:Type:=Int×Int×(List Y2)×Int×Int
abbrev tqJ:Type:=(List Int)×Int×Int×Int×Unit
abbrev tqI:Type:=Int×(List Zr)×Int×CoRecord
abbrev tqH:Type:=Int×(List Zq)×Int×CoRecord
abbrev tqG:Type:=Int×(List Zm)×Int×CoRecord
abbrev tqF:Type:=Int×(List Zm)×Int×Zm
abbrev tqE:Type:=Int×Int×(List ByteArray)×CoRecord
abbrev tqD:Type:=Int×(List Int)×CoRecord×(List Int)
abbrev tqC:Type:=(Int×Int×Int×Zq×Zq)⊕Int
abbrev tqB:Type:=Int×(Nat->Y2)×Zc×(Nat->Y2)
abbrev tqA:Type:=CoRecord×(List Zr)×Z8×Unit
abbrev tqz:Type:=(Int×Int×CoRecord×Zr×Zr)⊕CoRecord
abbrev tqy:Type:=Z8×CoRecord×(List Z8)
abbrev tqx:Type:=(Int×Int×CoRecord×Zq×Zq)⊕CoRecord
abbrev tqw:Type:=Int×(List Zr)×Int×Int×CoRecord×(List Int)
abbrev tqv:Type:=Bool×(List Int)×(List Z6)×(List Int)
abbrev tqu:Type:=Int×Int×Int×Int×Zc×(List (Int×Int))
abbrev tqt:Type:=(Bool×ByteArray×Nat)⊕tqN
abbrev tqs:Type:=Bool×Int×(List Int)×(List Z6)×(List Int)
abbrev tqr:Type:=Int×Bool×(List Int)×(List Z6)×(List Int)
abbrev tqq:Type:=Int×Int×Int×Int×Int×CoRecord×(List Z6)
abbrev tqp:Type:=Zc×Zc×(Nat->Y2)×Bool×Zc
abbrev tqo:Type:=Int×(List Zb)×(Nat->Y2)×Zc×(Nat->Y2)
abbrev tqn:Type:=Int×Int×(List Zb)×(Nat->Y2)×Zc×(Nat->Y2)
abbrev tqm:Type:=(Int×Int×Int×(List ByteArray)×CoRecord)⊕((List ByteArray)×CoRecord)
abbrev tql:Type:=Int×Int×Int×(List Zb)×(Nat->Y2)×Zc×(Nat->Y2)
abbrev tqk:Type:=(Int×Int×Int×(List ByteArray)×CoRecord×Zq)⊕((List ByteArray)×CoRecord)
abbrev tqj:Type:=Int×(List Zq)×Int×Zc×Zc×(Nat->Y2)×Bool×Zc
abbrev tqi:Type:=((Nat->Y2)×Int×(List Zb)×Zc×Bool×Zc×Zc)
abbrev tqh:Type:=Zb×Zc×Bool×Bool×Zc×Zb×Zc×Zq
abbrev tqg:Type:=(List Zr)×(List Z6)×Int×Z8×CoRecord×(List Z8)
abbrev tqf:Type:=(List Zb)×Int×Int×Int×Int×(List Zb)×(Nat->Y2)×Zc×(Nat->Y2)
abbrev tqe:Type:=Zb×Zc×Bool×(Nat->Y2)×Bool×Zc×Zb×Zc×Zq
abbrev tqd:Type:=Int×Int×Int×Int×Int×Int×(List Zb)×(List Zb)×(Nat->Y2)×Zc×(Nat->Y2)
abbrev tqc:Type:=((Bool×Zc×Bool×Zc×Zc)⊕(Bool×Zc×Bool×Zc×Zc))
abbrev tqb:Type:=(Bool×(List Int)×(List Z6)×(List Z6)×(List Int))⊕((List Int)×(List Z6)×(List Int))
abbrev tqa:Type:=Zb×Zc×Bool×Bool×Zc×Zb×(List Zb)×(List Zb)×Zc×Zq
abbrev tq9:Type:=(Bool×(List Int)×(List Z6)×(List Z6)×(List Int))⊕tqv
abbrev tq8:Type:=(List Zb)×Zb×Zc×Bool×(Nat->Y2)×Bool×Zc×Zb×(List Zb)×Zc×Zq
abbrev tq7:Type:=Zb×Zc×(List Zb)×Bool×(Nat->Y2)×Bool×Zc×Zb×Zc×Zq×(List Zb)
abbrev tq6:Type:=Zb×Zc×Bool×(Nat->Y2)×Bool×Zc×(List Zb)×Zb×Zc×Zq×(List Zb)
abbrev tq5:Type:=(Int×Int×Int×(List ByteArray)×CoRecord×Zm×(List ByteArray))⊕(Int×Int×Int×(List ByteArray)×CoRecord×Zm×(List ByteArray))⊕((List ByteArray)×CoRecord)
abbrev tq4:Type:=Int×Int×Int×(Nat->Y2)×Zb×Zc×Bool×(Nat->Y2)×Bool×Int×Zc×(List Zq)×(List Zq)×Zr×(List Zb)×Zc×Zc×Int×Int×Bool×(Nat->Y2)×Bool×Int×Bool
abbrev tq3:Type:=Int×Int×Int×(Nat->Y2)×Zb×Zc×Bool×(Nat->Y2)×Bool×Int×Zc×(List Zq)×(List Zq)×Zr×(List Zb)×Zc×Zc×Int×Int×Bool×(Nat->Y2)×Bool×Int×Bool×(List Zb)
abbrev tq2:Type:=(Int×Int×CoRecord×Zm×Zm)⊕(Int×Int×Zm×CoRecord×Zm×Zm)⊕(Int×Int×(List Int)×Zm×CoRecord×Zm×Zm)⊕(Int×Int×(List Int)×(List Int)×Zm×CoRecord×Zm×Zm)⊕(Int×Int×CoRecord×Zm×Zm×(List Int))⊕(Int×Int×CoRecord×Zm×Zm×(List Int)×(List Int))⊕CoRecord
abbrev tq1:Type:=((Nat->Y2)×Zb×Zc×Bool×(Nat->Y2)×(Nat->Y2)×Bool×Int×Zc×(List Zq)×(List Zb)×Zb×(List Zq)×Zr×(List Zb)×Zc×Zc×Zq×Int×(List Zb)×Int×Bool×(Nat->Y2)×Bool×Int×Bool)⊕((Nat->Y2)×Zb×Zc×Bool×(Nat->Y2)×(Nat->Y2)×Bool×Int×Zc×(List Zq)×(List Zb)×Zb×(List Zq)×Zr×(List Zb)×Zc×Zc×Zq×Int×(List Zb)×Int×Bool×(Nat->Y2)×Bool×Int×Bool)⊕((Nat->Y2)×Zb×Zc×Bool×(Nat->Y2)×(Nat->Y2)×Bool×Int×Zc×(List Zq)×Zb×(List Zq)×Zr×(List Zb)×Zc×Zc×Zq×Int×Int×Bool×(Nat->Y2)×Bool×Int×Bool)⊕((Nat->Y2)×Zb×Zc×Bool×(Nat->Y2)×(Nat->Y2)×Bool×Int×Zc×(List Zq)×Zb×(List Zq)×Zr×(List Zb)×Zc×Zc×Zq×Int×Int×Bool×(Nat->Y2)×Bool×Int×Bool)⊕((Nat->Y2)×Zb×Zc×(List Zb)×Bool×(Nat->Y2)×(Nat->Y2)×Bool×Int×Zc×(List Zq)×Zb×(List Zq)×Zr×(List Zb)×Zc×Zc×Zq×Int×Int×(List Zb)×Bool×(Nat->Y2)×Bool×Int×Bool)⊕((Nat->Y2)×Zb×Zc×(List Zb)×Bool×(Nat->Y2)×(Nat->Y2)×Bool×Int×Zc×(List Zq)×Zb×(List Zq)×Zr×(List Zb)×Zc×Zc×Zq×Int×Int×(List Zb)×Bool×(Nat->Y2)×Bool×Int×Bool)⊕((Nat->Y2)×Zb×Zc×Bool×(Nat->Y2)×(Nat->Y2)×Bool×Int×Zc×(List Zq)×Zb×(List Zq)×Zr×(List Zb)×Zc×Zc×Zq×Int×Int×Bool×(Nat->Y2)×Bool×Int×Bool)⊕((Nat->Y2)×Zb×Zc×Bool×(Nat->Y2)×(Nat->Y2)×Bool×Int×Zc×(List Zq)×Zb×(List Zq)×Zr×(List Zb)×Zc×Zc×Zq×Int×Int×Bool×(Nat->Y2)×Bool×Int×Bool)⊕((List Zb)×(Nat->Y2)×Zb×Zc×Bool×(Nat->Y2)×(Nat->Y2)×Bool×Int×Zc×(List Zq)×Zb×(List Zq)×Zr×(List Zb)×Zc×(List Zb)×Zc×Zq×Int×Int×Bool×(Nat->Y2)×Bool×Int×Bool)⊕((List Zb)×(Nat->Y2)×Zb×Zc×Bool×(Nat->Y2)×(Nat->Y2)×Bool×Int×Zc×(List Zq)×Zb×(List Zq)×Zr×(List Zb)×Zc×(List Zb)×Zc×Zq×Int×Int×Bool×(Nat->Y2)×Bool×Int×Bool)⊕((Nat->Y2)×Zb×Zc×Bool×(Nat->Y2)×(Nat->Y2)×Bool×Int×Zc×(List Zq)×Zb×(List Zq)×Zr×(List Zb)×Zc×Zc×Zq×Int×Int×Bool×(Nat->Y2)×Bool×Int×Bool)⊕((Nat->Y2)×Zb×Zc×Bool×(Nat->Y2)×(Nat->Y2)×Bool×Int×Zc×(List Zq)×Zb×(List Zq)×Zr×(List Zb)×Zc×Zc×Zq×Int×Int×Bool×(Nat->Y2)×Bool×Int×Bool)⊕((Nat->Y2)×Zb×Zc×Bool×(Nat->Y2)×(Nat->Y2)×Bool×Int×Zc×(List Zq)×Zb×(List Zb)×(List Zb)×(List Zq)×Zr×(List Zb)×Zc×Zc×Zq×Int×Int×Bool×(Nat->Y2)×Bool×Int×Bool)⊕((Nat->Y2)×Zb×Zc×Bool×(Nat->Y2)×(Nat->Y2)×Bool×Int×Zc×(List Zq)×Zb×(List Zb)×(List Zb)×(List Zq)×Zr×(List Zb)×Zc×Zc×Zq×Int×Int×Bool×(Nat->Y2)×Bool×Int×Bool)⊕((Nat->Y2)×Zb×Zc×Bool×(Nat->Y2)×(Nat->Y2)×Bool×Int×Zc×(List Zq)×Zb×(List Zq)×Zr×(List Zb)×Zc×Zc×Zq×Int×Int×Bool×(Nat->Y2)×Bool×Int×Bool)⊕((Nat->Y2)×Zb×Zc×Bool×(Nat->Y2)×(Nat->Y2)×Bool×Int×Zc×(List Zq)×Zb×(List Zq)×Zr×(List Zb)×Zc×Zc×Zq×Int×Int×Bool×(Nat->Y2)×Bool×Int×Bool)⊕((Nat->Y2)×Zb×Zc×Bool×(Nat->Y2)×Bool×Int×Zc×(List Zq)×(List Zq)×Zr×(List Zb)×Zc×Zc×Int×Int×Bool×(Nat->Y2)×Bool×Int×Bool)
abbrev tq0:Type:=((Nat->Y2)×Zb×Zc×Bool×(Nat->Y2)×(Nat->Y2)×Bool×Int×Zc×(List Zq)×(List Zb)×Zb×(List Zq)×Zr×(List Zb)×Zc×Zc×Zq×Int×(List Zb)×Int×Bool×(Nat->Y2)×Bool×Int×Bool×(List Zb))⊕((Nat->Y2)×Zb×Zc×Bool×(Nat->Y2)×(Nat->Y2)×Bool×Int×Zc×(List Zq)×(List Zb)×Zb×(List Zq)×Zr×(List Zb)×Zc×Zc×Zq×Int×(List Zb)×Int×Bool×(Nat->Y2)×Bool×Int×Bool×(List Zb))⊕((Nat->Y2)×Zb×Zc×Bool×(Nat->Y2)×(Nat->Y2)×Bool×Int×Zc×(List Zq)×Zb×(List Zq)×Zr×(List Zb)×Zc×Zc×Zq×Int×Int×Bool×(Nat->Y2)×Bool×Int×Bool×(List Zb))⊕((Nat->Y2)×Zb×Zc×Bool×(Nat->Y2)×(Nat->Y2)×Bool×Int×Zc×(List Zq)×Zb×(List Zq)×Zr×(List Zb)×Zc×Zc×Zq×Int×Int×Bool×(Nat->Y2)×Bool×Int×Bool×(List Zb))⊕((Nat->Y2)×Zb×Zc×(List Zb)×Bool×(Nat->Y2)×(Nat->Y2)×Bool×Int×Zc×(List Zq)×Zb×(List Zq)×Zr×(List Zb)×Zc×Zc×Zq×Int×Int×(List Zb)×Bool×(Nat->Y2)×Bool×Int×Bool×(List Zb))⊕((Nat->Y2)×Zb×Zc×(List Zb)×Bool×(Nat->Y2)×(Nat->Y2)×Bool×Int×Zc×(List Zq)×Zb×(List Zq)×Zr×(List Zb)×Zc×Zc×Zq×Int×Int×(List Zb)×Bool×(Nat->Y2)×Bool×Int×Bool×(List Zb))⊕((Nat->Y2)×Zb×Zc×Bool×(Nat->Y2)×(Nat->Y2)×Bool×Int×Zc×(List Zq)×Zb×(List Zq)×Zr×(List Zb)×Zc×Zc×Zq×Int×Int×Bool×(Nat->Y2)×Bool×Int×Bool×(List Zb))⊕((Nat->Y2)×Zb×Zc×Bool×(Nat->Y2)×(Nat->Y2)×Bool×Int×Zc×(List Zq)×Zb×(List Zq)×Zr×(List Zb)×Zc×Zc×Zq×Int×Int×Bool×(Nat->Y2)×Bool×Int×Bool×(List Zb))⊕((List Zb)×(Nat->Y2)×Zb×Zc×Bool×(Nat->Y2)×(Nat->Y2)×Bool×Int×Zc×(List Zq)×Zb×(List Zq)×Zr×(List Zb)×Zc×(List Zb)×Zc×Zq×Int×Int×Bool×(Nat->Y2)×Bool×Int×Bool×(List Zb))⊕((List Zb)×(Nat->Y2)×Zb×Zc×Bool×(Nat->Y2)×(Nat->Y2)×Bool×Int×Zc×(List Zq)×Zb×(List Zq)×Zr×(List Zb)×Zc×(List Zb)×Zc×Zq×Int×Int×Bool×(Nat->Y2)×Bool×Int×Bool×(List Zb))⊕((Nat->Y2)×Zb×Zc×Bool×(Nat->Y2)×(Nat->Y2)×Bool×Int×Zc×(List Zq)×Zb×(List Zq)×Zr×(List Zb)×Zc×Zc×Zq×Int×Int×Bool×(Nat->Y2)×Bool×Int×Bool×(List Zb))⊕((Nat->Y2)×Zb×Zc×Bool×(Nat->Y2)×(Nat->Y2)×Bool×Int×Zc×(List Zq)×Zb×(List Zq)×Zr×(List Zb)×Zc×Zc×Zq×Int×Int×Bool×(Nat->Y2)×Bool×Int×Bool×(List Zb))⊕((Nat->Y2)×Zb×Zc×Bool×(Nat->Y2)×(Nat->Y2)×Bool×Int×Zc×(List Zq)×Zb×(List Zb)×(List Zb)×(List Zq)×Zr×(List Zb)×Zc×Zc×Zq×Int×Int×Bool×(Nat->Y2)×Bool×Int×Bool×(List Zb))⊕((Nat->Y2)×Zb×Zc×Bool×(Nat->Y2)×(Nat->Y2)×Bool×Int×Zc×(List Zq)×Zb×(List Zb)×(List Zb)×(List Zq)×Zr×(List Zb)×Zc×Zc×Zq×Int×Int×Bool×(Nat->Y2)×Bool×Int×Bool×(List Zb))⊕((Nat->Y2)×Zb×Zc×Bool×(Nat->Y2)×(Nat->Y2)×Bool×Int×Zc×(List Zq)×Zb×(List Zq)×Zr×(List Zb)×Zc×Zc×Zq×Int×Int×Bool×(Nat->Y2)×Bool×Int×Bool×(List Zb))⊕((Nat->Y2)×Zb×Zc×Bool×(Nat->Y2)×(Nat->Y2)×Bool×Int×Zc×(List Zq)×Zb×(List Zq)×Zr×(List Zb)×Zc×Zc×Zq×Int×Int×Bool×(Nat->Y2)×Bool×Int×Bool×(List Zb))⊕((Nat->Y2)×Zb×Zc×Bool×(Nat->Y2)×Bool×Int×Zc×(List Zq)×(List Zq)×Zr×(List Zb)×Zc×Zc×Int×Int×Bool×(Nat->Y2)×Bool×Int×Bool×(List Zb))
abbrev vy:Option (TV S):=some (.bool false)
abbrev vx:Option (TV S):=some (.int .i64 0)
abbrev vw:Option (TV S):=some (.sl (.st 28) [])
abbrev vv:Option (TV S):=some (.sl (.st 21) [])
abbrev vu:Option (TV S):=some (.sl (.st 19) [])
abbrev ot:Option (Zo S):=some (.row 9 .str [] 1 0)
abbrev vs:Option (TV S):=some (.str ByteArray.empty)
abbrev or:Option (Zo S):=some (.cells 171 [(.yld 3)])
abbrev oq:Option (Zo S):=some (.row 67 (.st 19) [] 1 0)
abbrev op:Option (Zo S):=some (.row 180 (.st 28) [] 0 0)
abbrev oo:Option (Zo S):=some (.row 180 (.st 28) [] 1 1)
abbrev on:Option (Zo S):=some (.cells 4 [(.bool false)])
abbrev om:Option (Zo S):=some (.siter ByteArray.empty 0)
abbrev ol:Option (Zo S):=some (.cells 3 [(.int .i64 0)])
abbrev ok:Option (Zo S):=some (.row 3 (.int .i64) [] 0 0)
abbrev oj:Option (Zo S):=some (.row 3 (.int .i64) [] 1 0)
abbrev oi:Option (Zo S):=some (.cells 173 [(.sl (.st 28) [])])
abbrev oh:Option (Zo S):=some (.cells 152 [.nils,.nils,.nils])
abbrev og:Option (Zo S):=some (.cells 97 [(.stc 25 (T.dflt 25))])
abbrev of:Option (Zo S):=some (.cells 38 [(.stc 21 (T.dflt 21))])
abbrev oe:Option (Zo S):=some (.cells 67 [(.stc 19 (T.dflt 19))])
abbrev od:Option (Zo S):=some (.cells 79 [(.stc 18 (T.dflt 18))])
abbrev oc:Option (Zo S):=some (.cells 25 [(.stc 20 (T.dflt 20))])
abbrev ob:Option (Zo S):=some (.cells 180 [(.stc 28 (T.dflt 28))])
abbrev va:Option (TV S):=some (.tup [(.int .i64 0),(.int .i64 0)])
abbrev v9:Option (TV S):=some (.agg [(.arr (.st 5) 10 (fun _=>tdf T (.st 5)))])
abbrev o8:Option (Zo S):=some (.cells 152 [(.rs 38 0),(.rs 39 0),(.sl (.st 26) [])])
abbrev o7:Option (Zo S):=some (.cells 131 [(.arr (.st 5) 10 (fun _=>tdf T (.st 5)))])
abbrev v6:Option (TV S):=some (.fn (.func 154) [] [(.ptr 40 0),(.ptr 41 0),(.ptr 42 0)])
abbrev o5:Option (Zo S):=some (.cells 172 [(.fn (.func 126) [] [(.ptr 5 0),(.ptr 4 0),(.ptr 0 0)])])
abbrev o4:Option (Zo S):=some (.loop 60 (N (N L (some (.ptr 2 0)) L) (some (.agg [(.stc 25 (T.dflt 25))])) (N (N L (some (.fn (.func 125) [] [(.ptr 5 0)])) L) (some (.ptr 1 0)) L)) (5::[]) .skip .skip 0 .ret (0::(60::[])) (0::(1::(0::(1::[])))))
abbrev o3:Option (Zo S):=some (.loop 60 (N (N L (some (.ptr 2 0)) L) (some (.agg [(.stc 25 (T.dflt 25))])) (N (N L (some (.fn (.func 125) [] [(.ptr 1 0)])) L) (some (.ptr 0 0)) L)) (5::[]) .skip .skip 0 .normal (0::(60::[])) (0::(1::(0::(1::[])))))
abbrev o2:Option (Zo S):=some (.loop 60 (N (N L (some (.ptr 2 0)) L) (some (.agg [(.stc 25 (T.dflt 25))])) (N (N L (some (.fn (.func 125) [] [(.ptr 5 0)])) L) (some (.ptr 1 0)) L)) (5::[]) .skip .skip 0 .normal (0::(60::[])) (0::(1::(0::(1::[])))))
abbrev o1:Option (Zo S):=some (.loop 126 (N (N (N (N L (some (.ptr 7 0)) L) (some (.ptr 5 0)) (N L vy (N (N L v6 L) none L))) v9 (N (N L (some (.ptr 9 0)) L) (some (.ptr 0 0)) (N L none (N L vy L)))) vx (N (N (N L (some (.ptr 8 0)) (N L vy L)) (some (.ptr 4 0)) (N L (some (.ptr 32 0)) L)) (some .sl0) (N (N L (some (.ptr 17 0)) L) (some (.ptr 6 0)) L))) (44::[]) .skip .skip 0 .ret (0::(126::[])) (0::(1::(0::(1::(1::(1::(1::(1::[])))))))))
abbrev o0:Option (Zo S):=some (.loop 126 (N (N (N (N L (some (.ptr 7 0)) L) (some (.ptr 5 0)) (N L vy (N (N L v6 L) none L))) v9 (N (N L (some (.ptr 9 0)) L) (some (.ptr 0 0)) (N L none (N L vy L)))) vx (N (N (N L (some (.ptr 8 0)) (N L vy L)) (some (.ptr 4 0)) (N L (some (.ptr 32 0)) L)) vw (N (N L (some (.ptr 17 0)) L) (some (.ptr 6 0)) L))) (44::[]) .skip .skip 0 .ret (0::(126::[])) (0::(1::(0::(1::(1::(1::(1::(1::[])))))))))
abbrev o1q:Tr (Zo S):=N (N (N L oj L) none L) none L
abbrev o1p:Tr (Zo S):=N (N (N L om L) none L) none L
abbrev v1o:Tr (TV S):=N L none (N (N L vx L) none L)
abbrev v1n:Tr (TV S):=N (N (N L vx L) none L) none L
abbrev v1m:Tr (TV S):=N (N L vx L) (some (.ptr 1 0)) L
abbrev o1l:Tr (Zo S):=N L none (N (N (N L od L) od L) none L)
abbrev v1k:Tr (TV S):=N (N (N L vx L) none L) none (N (N L vx L) vx L)
abbrev o1j:Tr (Zo S):=N (N L none (N (N (N L ot L) none L) none L)) oc L
abbrev v1i:Tr (TV S):=N (N L none (N L vx L)) none (N (N L vx L) none L)
abbrev o1h:Tr (Zo S):=N (N L none (N (N L none (N L od L)) none L)) none L
abbrev o1g:Tr (Zo S):=N L none (N L none (N (N (N L od L) none L) none L))
abbrev o1f:Tr (Zo S):=N (N (N L o3 L) og (N L o7 L)) on (N (N L or L) og L)
abbrev o1e:Tr (Zo S):=N (N (N L o4 L) on (N L og L)) o5 (N (N L or L) og L)
abbrev o1d:Tr (Zo S):=N (N (N L o2 L) on (N L og L)) o5 (N (N L or L) og L)
abbrev v1c:Tr (TV S):=N (N (N L vy L) none L) none (N L (some (.ptr 1 0)) L)
abbrev o1b:Tr (Zo S):=N L og (N L (some (.map (.int .i64) (.int .i64) [])) L)
abbrev v1a:Tr (TV S):=N (N L (some (.ptr 5 0)) L) v9 (N L (some (.ptr 0 0)) L)
abbrev v19:Tr (TV S):=N (N L (some (.ptr 0 0)) L) none (N (N L vy L) (some (.ptr 1 0)) L)
abbrev o18:Tr (Zo S):=N L oc (N (N L none (N L (some (.row 190 (.st 26) [] 1 0)) L)) none L)
abbrev v17:Tr (TV S):=N L none (N (N (N L vx L) (some (.ptr 1 0)) (N L vx L)) vw (N L (some (.ptr 2 0)) L))
abbrev o16:Tr (Zo S):=N (N L oh (N L oj L)) oc (N (N L oj L) (some (.cells 152 [(.rs 4 0),(.rs 5 0),.nils])) L)
abbrev o15:Tr (Zo S):=N (N (N (N L none (N (N L ok L) none L)) none L) o8 L) o8 (N L none (N L none (N (N (N L ok L) none L) none L)))
abbrev o14:Tr (Zo S):=N (N (N (N L none (N (N L ok L) none L)) none L) oh L) o8 (N L none (N L none (N (N (N L ok L) none L) none L)))
abbrev o13:Tr (Zo S):=N (N L (some (.cells 152 [(.stc 27 (T.dflt 27))])) L) oc (N (N L none (N L none (N L (some (.row 152 (.st 27) [] 1 0)) L))) none L)
abbrev v12:Tr (TV S):=N (N v1o none L) none (N (N (N L vx L) (some (.ptr 1 0)) (N (N L vx L) none L)) vw (N L (some (.ptr 2 0)) L))
abbrev o11:Tr (Zo S):=N (N L oh (N (N (N L ok L) none L) none L)) (some (.cells 152 [(.rs 16 0),(.rs 17 0),(.sl (.st 26) [])])) (N (N (N (N L ok L) none L) none L) none L)
abbrev o10:Tr (Zo S):=N (N L oh (N L none (N (N L ok L) none L))) (some (.cells 152 [(.rs 21 0),(.rs 22 0),(.sl (.st 26) [])])) (N L none (N L none (N (N L ok L) none L)))
abbrev oZ:Tr (Zo S):=N (N (N (N (N (N L ok L) none L) none L) none L) oh L) (some (.cells 152 [(.rs 30 0),(.rs 31 0),(.sl (.st 26) [])])) (N L none (N L none (N L none (N L ok L))))
abbrev oY:Tr (Zo S):=N (N (N (N (N (N (N L oo L) oq L) of L) none L) oi (N (N L og L) none L)) or L) og (N (N L none (N (N (N L oe L) ol L) none L)) ol (N L none (N (N L o1 L) none L)))
abbrev oX:Tr (Zo S):=N (N (N (N (N (N (N L oo L) oq L) of L) none L) oi (N (N L og L) none L)) or L) og (N (N L none (N (N (N L oe L) ol L) none L)) ol (N L none (N (N L o0 L) none L)))
abbrev oW:Tr (Zo S):=N (N (N (N (N (N L oq L) of L) none L) oi (N (N L og L) none L)) or L) og (N (N L none (N (N (N L oe L) ol L) none L)) ol (N L none (N (N (N (N L oo L) none L) o1 L) none L)))
abbrev oV:Tr (Zo S):=N (N (N (N (N (N L oq L) of L) none L) oi (N (N L og L) none L)) or L) og (N (N L none (N (N (N L oe L) ol L) none L)) ol (N L none (N (N (N (N L oo L) none L) o0 L) none L)))
abbrev oU:Tr (Zo S):=N (N L none (N (N (N L (some (.row 9 .str [] 1 1)) L) none L) none L)) oc (N (N L none (N L none (N L od L))) none (N L none (N (N (N L (some (.row 9 .str [] 0 0)) L) none L) none L)))
abbrev oT:Tr (Zo S):=N (N (N (N (N (N L oq L) of L) none L) oi (N (N L og L) none L)) or L) og (N (N L none (N (N (N L oe L) ol L) none (N (N (N L op L) none L) none L))) ol (N L none (N (N L o1 L) none L)))
abbrev oS:Tr (Zo S):=N (N (N (N (N (N L oq L) of L) none L) oi (N (N L og L) none L)) or L) og (N (N L none (N (N (N L oe L) ol L) none (N (N (N L op L) none L) none L))) ol (N L none (N (N L o0 L) none L)))
abbrev oR:Tr (Zo S):=N (N (N L o7 (N L none (N L ob L))) o4 L) on (N (N (N (N L none (N L o7 L)) o7 L) on (N (N L ol L) none L)) og (N (N (N (N L oq L) none L) none L) none (N L none (N (N L ob L) none (N L op L)))))
abbrev oQ:Tr (Zo S):=N (N (N L o7 (N L none (N L ob L))) o2 L) on (N (N (N (N L none (N L o7 L)) o7 L) on (N (N L ol L) none L)) og (N (N (N (N L oq L) none L) none L) none (N L none (N (N L ob L) none (N L op L)))))
abbrev oP:Tr (Zo S):=N (N (N L o7 (N L none (N L ob L))) o4 L) on (N (N (N (N L none (N L o7 L)) o7 L) on (N (N L ol L) none L)) og (N (N (N (N L oq L) none L) none L) none (N L none (N (N (N L oo L) ob L) none L))))
abbrev oO:Tr (Zo S):=N (N (N L o7 (N L none (N L ob L))) o2 L) on (N (N (N (N L none (N L o7 L)) o7 L) on (N (N L ol L) none L)) og (N (N (N (N L oq L) none L) none L) none (N L none (N (N (N L oo L) ob L) none L))))
abbrev vN:Tr (TV S):=N (N (N L (some (.ptr 42 0)) L) none (N (N L none (N L vx L)) (some (.ptr 55 0)) L)) (some (.yld 46)) (N (N (N L none (N L (some (.rs 69 0)) L)) none L) (some (.ptr 41 0)) (N (N L none (N L vx L)) vx L))
abbrev oM:Tr (Zo S):=N (N (N (N (N (N L oq L) of L) none L) oi (N (N L og L) none L)) or (N L none (N (N (N (N L op L) none L) none L) none L))) og (N (N L none (N (N (N L oe L) ol L) none L)) ol (N L none (N (N L o1 L) none L)))
abbrev oL:Tr (Zo S):=N (N (N (N (N (N L oq L) of L) none L) oi (N (N L og L) none L)) or (N L none (N (N (N (N L op L) none L) none L) none L))) og (N (N L none (N (N (N L oe L) ol L) none L)) ol (N L none (N (N L o0 L) none L)))
abbrev oK:Tr (Zo S):=N (N (N (N L none (N (N (N L oo L) none L) none L)) o7 (N L none (N L ob L))) o4 L) on (N (N (N (N L none (N L o7 L)) o7 L) on (N (N L ol L) none L)) og (N (N (N (N L oq L) none L) none L) none (N L none (N (N L ob L) none L))))
abbrev oJ:Tr (Zo S):=N (N (N (N L none (N (N (N L oo L) none L) none L)) o7 (N L none (N L ob L))) o2 L) on (N (N (N (N L none (N L o7 L)) o7 L) on (N (N L ol L) none L)) og (N (N (N (N L oq L) none L) none L) none (N L none (N (N L ob L) none L))))
abbrev vI:Tr (TV S):=N (N (N (N L none (N L none (N (N L vw L) none L))) none L) none (N (N L none v1o) none L)) none (N (N (N L vx v1o) (some (.ptr 1 0)) (N L vx L)) vw (N L (some (.ptr 2 0)) L))
abbrev oH:Tr (Zo S):=N (N (N L o7 (N L none (N L ob L))) o4 (N L none (N (N (N (N L op L) none L) none L) none L))) on (N (N (N (N L none (N L o7 L)) o7 L) on (N (N L ol L) none L)) og (N (N (N (N L oq L) none L) none L) none (N L none (N (N L ob L) none L))))
abbrev oG:Tr (Zo S):=N (N (N L o7 (N L none (N L ob L))) o2 (N L none (N (N (N (N L op L) none L) none L) none L))) on (N (N (N (N L none (N L o7 L)) o7 L) on (N (N L ol L) none L)) og (N (N (N (N L oq L) none L) none L) none (N L none (N (N L ob L) none L))))
abbrev vF:Tr (TV S):=N (N (N v1o none (N (N L vx L) none L)) none (N (N L vx L) none L)) none (N (N (N L vx (N (N L vx L) none L)) (some (.ptr 1 0)) (N (N L vx L) none L)) vw (N L (some (.ptr 2 0)) (N (N (N L vw L) none L) none L)))
abbrev oE:Tr (Zo S):=N (N (N (N L o7 (N L none (N L ob L))) o4 L) on (N (N (N (N L none (N L o7 L)) o7 L) on (N (N L ol L) none L)) og (N (N (N (N L oq L) none L) none L) none (N L none (N (N L ob L) none L))))) o5 (N (N (N (N (N (N L oq L) of L) none L) oi (N (N L og L) none L)) or L) og (N (N L none (N (N (N L oe L) ol L) none L)) ol (N L none (N (N L o1 L) none L))))
abbrev oD:Tr (Zo S):=N (N (N (N L o7 (N L none (N L ob L))) o2 L) on (N (N (N (N L none (N L o7 L)) o7 L) on (N (N L ol L) none L)) og (N (N (N (N L oq L) none L) none L) none (N L none (N (N L ob L) none L))))) o5 (N (N (N (N (N (N L oq L) of L) none L) oi (N (N L og L) none L)) or L) og (N (N L none (N (N (N L oe L) ol L) none L)) ol (N L none (N (N L o1 L) none L))))
abbrev oC:Tr (Zo S):=N (N (N (N L o7 (N L none (N L ob L))) o4 L) on (N (N (N (N L none (N L o7 L)) o7 L) on (N (N L ol L) none L)) og (N (N (N (N L oq L) none L) none L) none (N L none (N (N L ob L) none L))))) o5 (N (N (N (N (N (N L oq L) of L) none L) oi (N (N L og L) none L)) or L) og (N (N L none (N (N (N L oe L) ol L) none L)) ol (N L none (N (N L o0 L) none L))))
abbrev oB:Tr (Zo S):=N (N (N (N L o7 (N L none (N L ob L))) o2 L) on (N (N (N (N L none (N L o7 L)) o7 L) on (N (N L ol L) none L)) og (N (N (N (N L oq L) none L) none L) none (N L none (N (N L ob L) none L))))) o5 (N (N (N (N (N (N L oq L) of L) none L) oi (N (N L og L) none L)) or L) og (N (N L none (N (N (N L oe L) ol L) none L)) ol (N L none (N (N L o0 L) none L))))
abbrev oA:Tr (Zo S):=N (N (N (N L o7 (N L none (N L ob L))) o2 L) on (N (N (N L o7 L) on (N (N L ol L) none L)) og (N (N (N (N L oq L) none L) none L) none L))) o5 (N (N (N (N (N (N L oq L) of L) none L) oi (N (N L og L) none L)) or L) og (N (N L none (N (N L ol L) none L)) ol (N L none (N (N L (some (.loop 126 (N (N (N (N L (some (.ptr 7 0)) L) (some (.ptr 5 0)) (N L vy (N (N L v6 L) none L))) v9 (N (N L (some (.ptr 9 0)) L) (some (.ptr 0 0)) (N L none (N L vy L)))) vx (N (N (N L (some (.ptr 8 0)) (N L vy L)) (some (.ptr 4 0)) (N L (some (.ptr 32 0)) L)) vw (N (N L (some (.ptr 17 0)) L) (some (.ptr 6 0)) L))) (44::[]) .skip .skip 0 .normal (0::(126::[])) (0::(1::(0::(1::(1::(1::(1::(1::[])))))))))) L) none L))))
abbrev oz:Tr (Zo S):=N (N (N (N L o7 (N L none (N L ob L))) o2 L) on (N (N (N L o7 L) on (N (N L ol L) none L)) og (N (N (N (N L oq L) none L) none L) none L))) o5 (N (N (N (N (N (N L oq L) of L) none L) oi (N (N L og L) none L)) or L) og (N (N L none (N (N L ol L) none L)) ol (N L none (N (N L (some (.loop 126 (N (N (N (N L (some (.ptr 7 0)) L) (some (.ptr 5 0)) (N L vy (N (N L v6 L) none L))) v9 (N (N L (some (.ptr 9 0)) L) (some (.ptr 0 0)) (N L none (N L vy L)))) vx (N (N (N L (some (.ptr 8 0)) (N L vy L)) (some (.ptr 4 0)) (N L (some (.ptr 32 0)) L)) (some .sl0) (N (N L (some (.ptr 17 0)) L) (some (.ptr 6 0)) L))) (44::[]) .skip .skip 0 .normal (0::(126::[])) (0::(1::(0::(1::(1::(1::(1::(1::[])))))))))) L) none L))))
def q0 {R:Type}:Prs S R:=Zk2
theorem q1 {R:Type}:Z93 X (q0 (R:=R)):=Zk3 X
def q2:List (Nat×F7 S):=[]
theorem q3:ZaF X (q2):=trivial
abbrev q4 {R:Type}:Z2K S R:=ZiZ
theorem q5 {R:Type}:Z4g X (q4 (R:=R)):=ZjA X
def q6:Key:=⟨[137,2,1,106,2,1,59],137,none,[0,0,1,0,1],0,17⟩
def q7:StT S:=⟨(N (N (N (N L vx L) none L) (some (.fn (.func 107) [] [(.ptr 0 0),(.ptr 1 0)])) L) (some (.sl (.int .i64) [])) v1n),(N (N L ol L) ol L),17⟩
def q8:Way S:=⟨.ret,⟨v1o,(N (N L ol L) ol L),38⟩,[.int,.int,.int]⟩
def q9:Way S:=⟨(.exit 0),⟨L,(N (N L ol L) ol L),18⟩,[.int,.int]⟩
def qa:LE S:=⟨q6,q7,[.int,(.lst (.int .i64)),.int,.int,.int],[q8,q9]⟩
def qb (x:tqL):(Int⊕Unit)->((Int×Int×Int)⊕(Int×Int)):=Sum.elim (fun y0=>(.inl (y0,x.u3,x.v4))) (fun y1=>(.inr (x.u3,x.v4)))
def qc {R:Type} (x:tqL) (k:((Int×Int×Int)⊕(Int×Int))->Option R):Option R:=(X37 x.1 x.2.1 x.u3 x.v4 x.u2).bind (Sum.elim (fun y0=>k (.inl (y0,x.u3,x.v4))) (fun y1=>k (.inr (x.u3,x.v4))))
def qd (x:tqL) (v:Int):tqL:=(x.1,x.2.1,v,x.u3,x.v4)
theorem qe (x:tqL):LE.step X qa q2 q0 q4 12 x=Wt x.1 x.2.1 x.u3 x.v4 x.u2 (fun w0=>(Sum.inl (x.1,x.2.1,w0,x.u3,x.v4))) (fun p0=>(Sum.inr (.inl (p0,x.u3,x.v4)))) (Sum.inr (.inr (x.u3,x.v4))):=by kernel_rfl
theorem qg {R:Type} (x:tqL) (k:((Int×Int×Int)⊕(Int×Int))->Option R) (r:R) (h:qc x k=some r):∃o,Z6b (LE.step X qa q2 q0 q4 12) x o/\k o=some r:=by
 obtain⟨o,h1,h2⟩:=Z0 h;exact⟨qb x o,Zk9 (st:=fun(x:tqL)=>Wn x.1 x.2.1 x.u3 x.v4) (prj:=fun x=>x.u2) (emb:=qd) (embO:=qb) (fun x=>(qe x).trans (by unfold Wn Wt;simp only[Zk0,ZjR,Zk1,Option.map_some,Option.map_none];rfl)) (fun _ _=>rfl) (fun _ _=>rfl) (fun _ _ _=>rfl) (fun _ _ _=>rfl) (fun _=>rfl) (Z29.1 h1),by first|exact h2|(rcases o with o|o<;>exact h2)⟩
def qh {R:Type}:Z2K S R:=LE.ls X qa qc q4
theorem qi {R:Type}:Z4g X (qh (R:=R)):=Zkd xok q3 (e:=qa) q1 q5 qg q5
theorem qj (x0 x1:Int) (x2:List Int):Zkf X q2 [(.int .i64),(.int .i64),(.sl (.int .i64))] [.bool] q0 qh 12 59 (x0,x1,x2,())=X1j x0 x1 x2:=by kernel_rfl
def qk:F7 S:=⟨[(.int .i64),(.int .i64),(.sl (.int .i64))],[.bool],fun xs=>XJ xs.1 xs.2.1 xs.u2⟩
theorem ql:Zau X 59 qk:=Zkc (Zkb xok q3 q1 qi 12 59) fun xs _ h=>((qj xs.1 xs.2.1 xs.u2).trans (X3Q xs.1 xs.2.1 xs.u2).symm).trans h
def qq:Key:=⟨[92],92,none,[0,0,1,0,1,1],0,4⟩
def qr:StT S:=⟨(N (N (N (N L (some (.iter 3)) L) (some (.int .i32 0)) L) none L) vs L),o1p,4⟩
def qs:Way S:=⟨.ret,⟨(N L none (N L vy L)),o1p,23⟩,[.bool,.str,.nat]⟩
def qt:Way S:=⟨(.exit 0),⟨(N (N (N L (some (.int .i32 0)) L) none L) vs L),o1p,6⟩,[.int,.str,.str,.nat]⟩
def qu:LE S:=⟨qq,qr,[.int,.str,.str,.nat],[qs,qt]⟩
def qv (x:tqN):((Bool×Nat)⊕(Int×Nat))->tqt:=Sum.elim (fun y0=>(.inl (y0.1,x.u2,y0.2))) (fun y1=>(.inr (y1.1,x.2.1,x.u2,y1.2)))
def qw {R:Type} (x:tqN) (k:tqt->Option R):Option R:=(X3D x.2.1 x.u2 (x.1,x.v3)).bind (Sum.elim (fun y0=>k (.inl (y0.1,x.u2,y0.2))) (fun y1=>k (.inr (y1.1,x.2.1,x.u2,y1.2))))
def qx (x:tqN) (v:(Int×Nat)):tqN:=(v.1,x.2.1,x.u2,v.2)
theorem qy (x:tqN):LE.step X qu q2 q0 q4 12 x=X18 x.2.1 x.u2 x.1 x.v3 (fun w0 w1=>(Sum.inl (w0,x.2.1,x.u2,w1))) (fun p0 p1=>(Sum.inr (.inl (p0,x.u2,p1)))) (fun p0 p1=>(Sum.inr (.inr (p0,x.2.1,x.u2,p1)))):=by kernel_rfl
theorem qA {R:Type} (x:tqN) (k:tqt->Option R) (r:R) (h:qw x k=some r):∃o,Z6b (LE.step X qu q2 q0 q4 12) x o/\k o=some r:=by
 obtain⟨o,h1,h2⟩:=Z0 h;exact⟨qv x o,Zk9 (st:=fun(x:tqN)=>X13 x.2.1 x.u2) (prj:=fun x=>(x.1,x.v3)) (emb:=qx) (embO:=qv) (fun x=>(qy x).trans (by unfold X13 X18;simp only[Zk0,ZjR,Zk1,Option.map_some,Option.map_none];rfl)) (fun _ _=>rfl) (fun _ _=>rfl) (fun _ _ _=>rfl) (fun _ _ _=>rfl) (fun _=>rfl) (Z29.1 h1),by first|exact h2|(rcases o with o|o<;>exact h2)⟩
def qB {R:Type}:Z2K S R:=LE.ls X qu qw q4
theorem qC {R:Type}:Z4g X (qB (R:=R)):=Zkd xok q3 (e:=qu) q1 q5 qA q5
theorem qD (x0:ByteArray):Zkf X q2 [.str] [.bool] q0 qB 12 92 (x0,())=X3U x0:=by kernel_rfl
def qE:F7 S:=⟨[.str],[.bool],fun xs=>X3U xs.1⟩
theorem qF:Zau X 92 qE:=Zkc (Zkb xok q3 q1 qC 12 92) fun xs _ h=>(qD xs.1).trans h
def qG:List (Nat×F7 S):=[(59,qk)]
theorem qH:ZaF X (qG):=⟨ql,trivial⟩
theorem qK (x0:CoRecord) (x1:Zr):Zkf X qG [(.st 20),(.st 21)] [(.int .i64)] q0 q4 12 97 (x0,x1,())=X2d x0 x1:=by kernel_rfl
def qL:F7 S:=⟨[(.st 20),(.st 21)],[(.int .i64)],fun xs=>X3p xs.1 xs.2.1⟩
theorem qM:Zau X 97 qL:=Zkc (Zkb xok qH q1 q5 12 97) fun xs _ h=>((qK xs.1 xs.2.1).trans (X4G xs.1 xs.2.1).symm).trans h
def qN:StT S:=⟨(N (N L (some (.fn (.func 91) [] [(.ptr 0 0)])) L) (some (.sl (.st 18) [])) L),(N L oc L),1⟩
def qO:Way S:=⟨.ret,⟨(N L va L),(N L oc L),1⟩,[.int,.int,(.st 20)]⟩
def qP:PE S:=⟨90,2,qN,[(.lst (.st 18)),(.st 20)],[qO]⟩
def qQ:List (Nat×F7 S):=[(59,qk),(92,qE),(97,qL)]
theorem qR:ZaF X qQ:=⟨ql,qF,qM,trivial⟩
def qU:Key:=⟨[130,2,1,93,5,3,91,3,4,90],130,none,[0,0,1,0,1],0,42⟩
def qV:StT S:=⟨(N (N (N (N L vx L) none L) (some (.fn (.func 94) [] [(.ptr 18 0)])) L) (some (.sl (.st 18) [])) v1n),o1g,42⟩
def qW:Way S:=⟨.ret,⟨v1o,(N o1h none (N L none (N (N (N L od L) none L) none L))),61⟩,[.int,(.st 18),(.st 18)]⟩
def qX:Way S:=⟨(.exit 0),⟨L,o1g,43⟩,[(.st 18)]⟩
def qY:LE S:=⟨qU,qV,[.int,(.lst (.st 18)),.int,(.st 18)],[qW,qX]⟩
def qZ (x:tqF):((Int×Zm)⊕Unit)->((Int×Zm×Zm)⊕Zm):=Sum.elim (fun y0=>(.inl (y0.1,y0.2,x.v3))) (fun y1=>(.inr x.v3))
def q10 {R:Type} (x:tqF) (k:((Int×Zm×Zm)⊕Zm)->Option R):Option R:=(Xd x.1 x.2.1 x.v3 x.u2).bind (Sum.elim (fun y0=>k (.inl (y0.1,y0.2,x.v3))) (fun y1=>k (.inr x.v3)))
def q11 (x:tqF) (v:Int):tqF:=(x.1,x.2.1,v,x.v3)
theorem q12 (x:tqF):LE.step X qY qQ q0 q4 12 x=Xc x.1 x.2.1 x.v3 x.u2 (fun w0=>(Sum.inl (x.1,x.2.1,w0,x.v3))) (fun p0 p1=>(Sum.inr (.inl (p0,p1,x.v3)))) (Sum.inr (.inr x.v3)):=by kernel_rfl
theorem q14 {R:Type} (x:tqF) (k:((Int×Zm×Zm)⊕Zm)->Option R) (r:R) (h:q10 x k=some r):∃o,Z6b (LE.step X qY qQ q0 q4 12) x o/\k o=some r:=by
 obtain⟨o,h1,h2⟩:=Z0 h;exact⟨qZ x o,Zk9 (st:=fun(x:tqF)=>X4 x.1 x.2.1 x.v3) (prj:=fun x=>x.u2) (emb:=q11) (embO:=qZ) (fun x=>(q12 x).trans (by unfold X4 Xc;simp only[Zk0,ZjR,Zk1,Option.map_some,Option.map_none];rfl)) (fun _ _=>rfl) (fun _ _=>rfl) (fun _ _ _=>rfl) (fun _ _ _=>rfl) (fun _=>rfl) (Z29.1 h1),by first|exact h2|(rcases o with o|o<;>exact h2)⟩
def q15 {R:Type}:Z2K S R:=LE.ls X qY q10 q4
theorem q16 {R:Type}:Z4g X (q15 (R:=R)):=Zkd xok qR (e:=qY) q1 q5 q14 q5
def q17:Key:=⟨[90],90,none,[0,0,1,0,1],0,6⟩
def q18:StT S:=⟨(N (N (N L none (N L vx L)) (some (.fn (.func 91) [] [(.ptr 0 0)])) (N (N L (some (.sl (.st 18) [])) L) none L)) none v1o),(N L oc L),6⟩
def q19:Way S:=⟨.ret,⟨v1i,(N L oc o1l),32⟩,[.int,.int,(.st 20),(.st 18),(.st 18)]⟩
def q1a:Way S:=⟨.ret,⟨v1i,(N o1h oc o1l),68⟩,[.int,.int,(.st 18),(.st 20),(.st 18),(.st 18)]⟩
def q1b:Way S:=⟨.ret,⟨v1i,(N (N (N (N o1q none L) none (N (N L none (N L od L)) none L)) none L) oc o1l),82⟩,[.int,.int,(.lst (.int .i64)),(.st 18),(.st 20),(.st 18),(.st 18)]⟩
def q1c:Way S:=⟨.ret,⟨v1i,(N (N (N (N o1q none o1q) none (N (N L none (N L od L)) none L)) none L) oc o1l),82⟩,[.int,.int,(.lst (.int .i64)),(.lst (.int .i64)),(.st 18),(.st 20),(.st 18),(.st 18)]⟩
def q1d:Way S:=⟨.ret,⟨v1i,(N L oc (N L none (N (N (N L od L) od L) none (N L none (N (N L oj L) none L))))),65⟩,[.int,.int,(.st 20),(.st 18),(.st 18),(.lst (.int .i64))]⟩
def q1e:Way S:=⟨.ret,⟨v1i,(N L oc (N L none (N (N (N L od L) od L) none (N (N L none (N L oj L)) none (N (N L oj L) none L))))),65⟩,[.int,.int,(.st 20),(.st 18),(.st 18),(.lst (.int .i64)),(.lst (.int .i64))]⟩
def q1f:Way S:=⟨(.exit 0),⟨L,(N L oc L),7⟩,[(.st 20)]⟩
def q1g:LE S:=⟨q17,q18,[.int,(.lst (.st 18)),.int,(.st 20)],[q19,q1a,q1b,q1c,q1d,q1e,q1f]⟩
def q1h (x:tqG):((Int×Int×Zm×Zm)⊕(Int×Int×Zm×Zm×Zm)⊕(Int×Int×(List Int)×Zm×Zm×Zm)⊕(Int×Int×(List Int)×(List Int)×Zm×Zm×Zm)⊕(Int×Int×Zm×Zm×(List Int))⊕(Int×Int×Zm×Zm×(List Int)×(List Int))⊕Unit)->tq2:=Sum.elim (fun y0=>(.inl (y0.1,y0.2.1,x.v3,y0.u2,y0.v3))) (Sum.elim (fun y1=>(.inr (.inl (y1.1,y1.2.1,y1.u2,x.v3,y1.u3,y1.v4)))) (Sum.elim (fun y2=>(.inr (.inr (.inl (y2.1,y2.2.1,y2.u2,y2.u3,x.v3,y2.u4,y2.v5))))) (Sum.elim (fun y3=>(.inr (.inr (.inr (.inl (y3.1,y3.2.1,y3.u2,y3.u3,y3.u4,x.v3,y3.u5,y3.v6)))))) (Sum.elim (fun y4=>(.inr (.inr (.inr (.inr (.inl (y4.1,y4.2.1,x.v3,y4.u2,y4.u3,y4.v4))))))) (Sum.elim (fun y5=>(.inr (.inr (.inr (.inr (.inr (.inl (y5.1,y5.2.1,x.v3,y5.u2,y5.u3,y5.u4,y5.v5)))))))) (fun y6=>(.inr (.inr (.inr (.inr (.inr (.inr x.v3))))))))))))
def q1i {R:Type} (x:tqG) (k:tq2->Option R):Option R:=(W4 x.2.1 x.u2 x.v3 x.1).bind (Sum.elim (fun y0=>k (.inl (y0.1,y0.2.1,x.v3,y0.u2,y0.v3))) (Sum.elim (fun y1=>k (.inr (.inl (y1.1,y1.2.1,y1.u2,x.v3,y1.u3,y1.v4)))) (Sum.elim (fun y2=>k (.inr (.inr (.inl (y2.1,y2.2.1,y2.u2,y2.u3,x.v3,y2.u4,y2.v5))))) (Sum.elim (fun y3=>k (.inr (.inr (.inr (.inl (y3.1,y3.2.1,y3.u2,y3.u3,y3.u4,x.v3,y3.u5,y3.v6)))))) (Sum.elim (fun y4=>k (.inr (.inr (.inr (.inr (.inl (y4.1,y4.2.1,x.v3,y4.u2,y4.u3,y4.v4))))))) (Sum.elim (fun y5=>k (.inr (.inr (.inr (.inr (.inr (.inl (y5.1,y5.2.1,x.v3,y5.u2,y5.u3,y5.u4,y5.v5)))))))) (fun y6=>k (.inr (.inr (.inr (.inr (.inr (.inr x.v3)))))))))))))
def q1j (x:tqG) (v:Int):tqG:=(v,x.2.1,x.u2,x.v3)
theorem q1k (x:tqG):LE.step X q1g qQ q0 q15 12 x=Xb x.2.1 x.u2 x.v3 x.1 (fun w0=>(Sum.inl (w0,x.2.1,x.u2,x.v3))) (fun p0 p1 p2 p3=>(Sum.inr (.inl (p0,p1,x.v3,p2,p3)))) (fun p0 p1 p2 p3 p4=>(Sum.inr (.inr (.inl (p0,p1,p2,x.v3,p3,p4))))) (fun p0 p1 p2 p3 p4 p5=>(Sum.inr (.inr (.inr (.inl (p0,p1,p2,p3,x.v3,p4,p5)))))) (fun p0 p1 p2 p3 p4 p5 p6=>(Sum.inr (.inr (.inr (.inr (.inl (p0,p1,p2,p3,p4,x.v3,p5,p6))))))) (fun p0 p1 p2 p3 p4=>(Sum.inr (.inr (.inr (.inr (.inr (.inl (p0,p1,x.v3,p2,p3,p4)))))))) (fun p0 p1 p2 p3 p4 p5=>(Sum.inr (.inr (.inr (.inr (.inr (.inr (.inl (p0,p1,x.v3,p2,p3,p4,p5))))))))) (Sum.inr (.inr (.inr (.inr (.inr (.inr (.inr x.v3))))))):=by kernel_rfl
theorem q1m {R:Type} (x:tqG) (k:tq2->Option R) (r:R) (h:q1i x k=some r):∃o,Z6b (LE.step X q1g qQ q0 q15 12) x o/\k o=some r:=by
 obtain⟨o,h1,h2⟩:=Z0 h;exact⟨q1h x o,Zk9 (st:=fun(x:tqG)=>Xg x.2.1 x.u2 x.v3) (prj:=fun x=>x.1) (emb:=q1j) (embO:=q1h) (fun x=>(q1k x).trans (by unfold Xg Xb;simp only[Zk0,ZjR,Zk1,Option.map_some,Option.map_none];rfl)) (fun _ _=>rfl) (fun _ _=>rfl) (fun _ _ _=>rfl) (fun _ _ _=>rfl) (fun _=>rfl) (Z29.1 h1),by first|exact h2|(rcases o with o|o|o|o|o|o|o<;>exact h2)⟩
def q1n {R:Type}:Z2K S R:=LE.ls X q1g q1i q15
theorem q1o {R:Type}:Z4g X (q1n (R:=R)):=Zkd xok qR (e:=q1g) q1 q16 q1m q16
theorem q1p (x:((List Zm)×CoRecord)):PE.step X qP qQ q0 q1n 12 x=Xk x.1 x.2:=by kernel_rfl
theorem q1q:ZcD X qP XK:=Zke (ZjE xok qR q1 q1o 12) fun x _ h=>((q1p x).trans (X1y x).symm).trans h
def q1r {R:Type}:Prs S R:=PE.ps X qP (fun x q=>(XK x).bind q) q0
theorem q1s {R:Type}:Z93 X (q1r (R:=R)):=Zk6 (e:=qP) q1q q1
def q1t:StT S:=⟨(N (N L (some (.fn (.func 96) [] [(.ptr 0 0)])) L) vu L),(N L oc L),1⟩
def q1v:PE S:=⟨95,2,q1t,[(.lst (.st 19)),(.st 20)],[qO]⟩
def q1A:Key:=⟨[95],95,none,[0,0,1,0,1],0,6⟩
def q1B:StT S:=⟨(N (N (N L none (N L vx L)) (some (.fn (.func 96) [] [(.ptr 0 0)])) (N (N L vu L) none L)) none v1o),(N L oc L),6⟩
def q1C:Way S:=⟨.ret,⟨v1i,(N L oc (N L none (N (N (N L oe L) oe L) none L))),30⟩,[.int,.int,(.st 20),(.st 19),(.st 19)]⟩
def q1E:LE S:=⟨q1A,q1B,[.int,(.lst (.st 19)),.int,(.st 20)],[q1C,q1f]⟩
def q1F (x:tqH):((Int×Int×Zq×Zq)⊕Unit)->tqx:=Sum.elim (fun y0=>(.inl (y0.1,y0.2.1,x.v3,y0.u2,y0.v3))) (fun y1=>(.inr x.v3))
def q1G {R:Type} (x:tqH) (k:tqx->Option R):Option R:=(We x.2.1 x.u2 x.v3 x.1).bind (Sum.elim (fun y0=>k (.inl (y0.1,y0.2.1,x.v3,y0.u2,y0.v3))) (fun y1=>k (.inr x.v3)))
def q1H (x:tqH) (v:Int):tqH:=(v,x.2.1,x.u2,x.v3)
theorem q1I (x:tqH):LE.step X q1E qQ q1r q4 12 x=Xe x.2.1 x.u2 x.v3 x.1 (fun w0=>(Sum.inl (w0,x.2.1,x.u2,x.v3))) (fun p0 p1 p2 p3=>(Sum.inr (.inl (p0,p1,x.v3,p2,p3)))) (Sum.inr (.inr x.v3)):=by kernel_rfl
theorem q1K {R:Type} (x:tqH) (k:tqx->Option R) (r:R) (h:q1G x k=some r):∃o,Z6b (LE.step X q1E qQ q1r q4 12) x o/\k o=some r:=by
 obtain⟨o,h1,h2⟩:=Z0 h;exact⟨q1F x o,Zk9 (st:=fun(x:tqH)=>Xj x.2.1 x.u2 x.v3) (prj:=fun x=>x.1) (emb:=q1H) (embO:=q1F) (fun x=>(q1I x).trans (by unfold Xj Xe;simp only[Zk0,ZjR,Zk1,Option.map_some,Option.map_none];rfl)) (fun _ _=>rfl) (fun _ _=>rfl) (fun _ _ _=>rfl) (fun _ _ _=>rfl) (fun _=>rfl) (Z29.1 h1),by first|exact h2|(rcases o with o|o<;>exact h2)⟩
def q1L {R:Type}:Z2K S R:=LE.ls X q1E q1G q4
theorem q1M {R:Type}:Z4g X (q1L (R:=R)):=Zkd xok qR (e:=q1E) q1s q5 q1K q5
theorem q1N (x:((List Zq)×CoRecord)):PE.step X q1v qQ q1r q1L 12 x=Xn x.1 x.2:=by kernel_rfl
theorem q1O:ZcD X q1v XR:=Zke (ZjE xok qR q1s q1M 12) fun x _ h=>((q1N x).trans (X1H x).symm).trans h
def q1P {R:Type}:Prs S R:=PE.ps X q1v (fun x q=>(XR x).bind q) q1r
theorem q1Q {R:Type}:Z93 X (q1P (R:=R)):=Zk6 (e:=q1v) q1O q1s
def q1R:StT S:=⟨(N (N L (some (.fn (.func 98) [] [(.ptr 0 0)])) L) vu L),(N L ol L),1⟩
def q1S:Way S:=⟨.ret,⟨(N L va L),(N L ol L),1⟩,[.int,.int,.int]⟩
def q1T:PE S:=⟨95,2,q1R,[(.lst (.st 19)),.int],[q1S]⟩
def q1Z:StT S:=⟨(N (N (N L none (N L vx L)) (some (.fn (.func 98) [] [(.ptr 0 0)])) (N (N L vu L) none L)) none v1o),(N L ol L),6⟩
def q20:Way S:=⟨.ret,⟨v1i,(N L ol (N L none (N (N (N L oe L) oe L) none L))),38⟩,[.int,.int,.int,(.st 19),(.st 19)]⟩
def q21:Way S:=⟨(.exit 0),⟨L,(N L ol L),7⟩,[.int]⟩
def q22:LE S:=⟨q1A,q1Z,[.int,(.lst (.st 19)),.int,.int],[q20,q21]⟩
def q23 (x:tqP):tqC->tqC:=Sum.elim (fun y0=>(.inl (y0.1,y0.2.1,y0.u2,y0.u3,y0.v4))) (fun y1=>(.inr y1))
def q24 {R:Type} (x:tqP) (k:tqC->Option R):Option R:=(Wf x.2.1 x.u2 (x.1,x.v3)).bind (Sum.elim (fun y0=>k (.inl (y0.1,y0.2.1,y0.u2,y0.u3,y0.v4))) (fun y1=>k (.inr y1)))
def q25 (x:tqP) (v:(Int×Int)):tqP:=(v.1,x.2.1,x.u2,v.2)
theorem q26 (x:tqP):LE.step X q22 qQ q1P q4 12 x=Xf x.2.1 x.u2 x.1 x.v3 (fun w0 w1=>(Sum.inl (w0,x.2.1,x.u2,w1))) (fun p0 p1 p2 p3 p4=>(Sum.inr (.inl (p0,p1,p2,p3,p4)))) (fun p0=>(Sum.inr (.inr p0))):=by kernel_rfl
theorem q28 {R:Type} (x:tqP) (k:tqC->Option R) (r:R) (h:q24 x k=some r):∃o,Z6b (LE.step X q22 qQ q1P q4 12) x o/\k o=some r:=by
 obtain⟨o,h1,h2⟩:=Z0 h;exact⟨q23 x o,Zk9 (st:=fun(x:tqP)=>X3 x.2.1 x.u2) (prj:=fun x=>(x.1,x.v3)) (emb:=q25) (embO:=q23) (fun x=>(q26 x).trans (by unfold X3 Xf;simp only[Zk0,ZjR,Zk1,Option.map_some,Option.map_none];rfl)) (fun _ _=>rfl) (fun _ _=>rfl) (fun _ _ _=>rfl) (fun _ _ _=>rfl) (fun _=>rfl) (Z29.1 h1),by first|exact h2|(rcases o with o|o<;>exact h2)⟩
def q29 {R:Type}:Z2K S R:=LE.ls X q22 q24 q4
theorem q2a {R:Type}:Z4g X (q29 (R:=R)):=Zkd xok qR (e:=q22) q1Q q5 q28 q5
theorem q2b (x:((List Zq)×Int)):PE.step X q1T qQ q1P q29 12 x=Xo x.1 x.2:=by kernel_rfl
theorem q2c:ZcD X q1T XS:=Zke (ZjE xok qR q1Q q2a 12) fun x _ h=>((q2b x).trans (X1J x).symm).trans h
def q2d {R:Type}:Prs S R:=PE.ps X q1T (fun x q=>(XS x).bind q) q1P
theorem q2e {R:Type}:Z93 X (q2d (R:=R)):=Zk6 (e:=q1T) q2c q1Q
theorem q2g:ZaF X (qQ):=⟨ql,qF,qM,trivial⟩
theorem q2j (x0:CoRecord):Zkf X qQ [(.st 20)] [(.int .i64),(.int .i64),(.int .i64)] q2d q4 12 46 (x0,())=X1X x0:=by kernel_rfl
def q2k:F7 S:=⟨[(.st 20)],[(.int .i64),(.int .i64),(.int .i64)],fun xs=>X3E xs.1⟩
theorem q2l:Zau X 46 q2k:=Zkc (Zkb xok q2g q2e q5 12 46) fun xs _ h=>((q2j xs.1).trans (X4d xs.1).symm).trans h
def q2m:StT S:=⟨(N (N L (some (.fn (.func 102) [] [(.ptr 0 0)])) L) vv L),(N L oc L),1⟩
def q2o:PE S:=⟨101,2,q2m,[(.lst (.st 21)),(.st 20)],[qO]⟩
def q2p:List (Nat×F7 S):=[(46,q2k),(97,qL)]
theorem q2q:ZaF X q2p:=⟨q2l,qM,trivial⟩
def q2t:Key:=⟨[101],101,none,[0,0,1,0,1],0,6⟩
def q2u:StT S:=⟨(N (N (N L none (N L vx L)) (some (.fn (.func 102) [] [(.ptr 0 0)])) (N (N L vv L) none L)) none v1o),(N L oc L),6⟩
def q2v:Way S:=⟨.ret,⟨v1i,(N L oc (N L none (N (N (N L of L) of L) none L))),30⟩,[.int,.int,(.st 20),(.st 21),(.st 21)]⟩
def q2x:LE S:=⟨q2t,q2u,[.int,(.lst (.st 21)),.int,(.st 20)],[q2v,q1f]⟩
def q2y (x:tqI):((Int×Int×Zr×Zr)⊕Unit)->tqz:=Sum.elim (fun y0=>(.inl (y0.1,y0.2.1,x.v3,y0.u2,y0.v3))) (fun y1=>(.inr x.v3))
def q2z {R:Type} (x:tqI) (k:tqz->Option R):Option R:=(Wj x.2.1 x.u2 x.v3 x.1).bind (Sum.elim (fun y0=>k (.inl (y0.1,y0.2.1,x.v3,y0.u2,y0.v3))) (fun y1=>k (.inr x.v3)))
def q2A (x:tqI) (v:Int):tqI:=(v,x.2.1,x.u2,x.v3)
theorem q2B (x:tqI):LE.step X q2x q2p q2d q4 12 x=Xh x.2.1 x.u2 x.v3 x.1 (fun w0=>(Sum.inl (w0,x.2.1,x.u2,x.v3))) (fun p0 p1 p2 p3=>(Sum.inr (.inl (p0,p1,x.v3,p2,p3)))) (Sum.inr (.inr x.v3)):=by kernel_rfl
theorem q2D {R:Type} (x:tqI) (k:tqz->Option R) (r:R) (h:q2z x k=some r):∃o,Z6b (LE.step X q2x q2p q2d q4 12) x o/\k o=some r:=by
 obtain⟨o,h1,h2⟩:=Z0 h;exact⟨q2y x o,Zk9 (st:=fun(x:tqI)=>Xl x.2.1 x.u2 x.v3) (prj:=fun x=>x.1) (emb:=q2A) (embO:=q2y) (fun x=>(q2B x).trans (by unfold Xl Xh;simp only[Zk0,ZjR,Zk1,Option.map_some,Option.map_none];rfl)) (fun _ _=>rfl) (fun _ _=>rfl) (fun _ _ _=>rfl) (fun _ _ _=>rfl) (fun _=>rfl) (Z29.1 h1),by first|exact h2|(rcases o with o|o<;>exact h2)⟩
def q2E {R:Type}:Z2K S R:=LE.ls X q2x q2z q4
theorem q2F {R:Type}:Z4g X (q2E (R:=R)):=Zkd xok q2q (e:=q2x) q2e q5 q2D q5
theorem q2G (x:((List Zr)×CoRecord)):PE.step X q2o q2p q2d q2E 12 x=XA x.1 x.2:=by kernel_rfl
theorem q2H:ZcD X q2o XW:=Zke (ZjE xok q2q q2e q2F 12) fun x _ h=>((q2G x).trans (X1Z x).symm).trans h
def q2I {R:Type}:Prs S R:=PE.ps X q2o (fun x q=>(XW x).bind q) q2d
theorem q2J {R:Type}:Z93 X (q2I (R:=R)):=Zk6 (e:=q2o) q2H q2e
theorem q2L:ZaF X (q2p):=⟨q2l,qM,trivial⟩
theorem q2O (x0:CoRecord) (x1:List Zr):Zkf X q2p [(.st 20),(.sl (.st 21))] [(.int .i64),(.int .i64)] q2I q4 12 48 (x0,x1,())=WO x0 x1:=by kernel_rfl
def q2P:F7 S:=⟨[(.st 20),(.sl (.st 21))],[(.int .i64),(.int .i64)],fun xs=>X2B xs.1 xs.2.1⟩
theorem q2Q:Zau X 48 q2P:=Zkc (Zkb xok q2L q2J q5 12 48) fun xs _ h=>((q2O xs.1 xs.2.1).trans (X3n xs.1 xs.2.1).symm).trans h
def q2R:List (Nat×F7 S):=[(48,q2P)]
theorem q2S:ZaF X (q2R):=⟨q2Q,trivial⟩
theorem q2V (x0:CoRecord) (x1:List Zr):Zkf X q2R [(.st 20),(.sl (.st 21))] [(.st 25),(.int .i64)] q2I q4 12 58 (x0,x1,())=X1Y x0 x1:=by kernel_rfl
def q2W:F7 S:=⟨[(.st 20),(.sl (.st 21))],[(.st 25),(.int .i64)],fun xs=>X3F xs.1 xs.2.1⟩
theorem q2X:Zau X 58 q2W:=Zkc (Zkb xok q2S q2J q5 12 58) fun xs _ h=>((q2V xs.1 xs.2.1).trans (X4f xs.1 xs.2.1).symm).trans h
theorem q32 (x0:Y2):Zkf X q2 [(.st 5)] [.bool] q2I q4 12 153 (x0,())=XT x0:=by kernel_rfl
def q33:F7 S:=⟨[(.st 5)],[.bool],fun xs=>X1S xs.1⟩
theorem q34:Zau X 153 q33:=Zkc (Zkb xok q3 q2J q5 12 153) fun xs _ h=>((q32 xs.1).trans (X2n xs.1).symm).trans h
def q35:List (Nat×F7 S):=[(153,q33)]
theorem q36:ZaF X (q35):=⟨q34,trivial⟩
def q39:Key:=⟨[127],127,none,[0,0,1,1,1,0,0,1,1,0,0,1,0,1,1],2,33⟩
def q3a:StT S:=⟨vF,(N (N L o7 L) og (N L o7 L)),33⟩
def q3b:Way S:=⟨(.exit 2),⟨v12,(N (N L o7 L) og (N L o7 L)),34⟩,[.int,.int,.int,(.lst (.st 28)),(.arr (.st 5)),(.st 25),(.arr (.st 5))]⟩
def q3c:LE S:=⟨q39,q3a,[.int,.int,.int,.int,.int,.int,(.lst (.st 28)),(.lst (.st 28)),(.arr (.st 5)),(.st 25),(.arr (.st 5))],[q3b]⟩
def q3d (x:tqd):(Nat->Y2)->tql:=fun y0=>(x.2.1,x.u3,x.u5,x.u6,y0,x.u9,x.v10)
def q3e {R:Type} (x:tqd) (k:tql->Option R):Option R:=(Wb x.1 x.2.1 x.u2 x.u3 x.u5 x.u6 x.u7 x.u9 x.v10 (x.u4,x.u8)).bind (fun y0=>k (x.2.1,x.u3,x.u5,x.u6,y0,x.u9,x.v10))
def q3f (x:tqd) (v:(Int×(Nat->Y2))):tqd:=(x.1,x.2.1,x.u2,x.u3,v.1,x.u5,x.u6,x.u7,v.2,x.u9,x.v10)
theorem q3g (x:tqd):LE.step X q3c q35 q2I q4 12 x=X6 x.1 x.2.1 x.u2 x.u3 x.u5 x.u6 x.u7 x.u9 x.v10 x.u4 x.u8 (fun w0 w1=>(Sum.inl (x.1,x.2.1,x.u2,x.u3,w0,x.u5,x.u6,x.u7,w1,x.u9,x.v10))) (fun p0=>(Sum.inr (x.2.1,x.u3,x.u5,x.u6,p0,x.u9,x.v10))):=by kernel_rfl
theorem q3i {R:Type} (x:tqd) (k:tql->Option R) (r:R) (h:q3e x k=some r):∃o,Z6b (LE.step X q3c q35 q2I q4 12) x o/\k o=some r:=by
 obtain⟨o,h1,h2⟩:=Z0 h;exact⟨q3d x o,Zk9 (st:=fun(x:tqd)=>Xq x.1 x.2.1 x.u2 x.u3 x.u5 x.u6 x.u7 x.u9 x.v10) (prj:=fun x=>(x.u4,x.u8)) (emb:=q3f) (embO:=q3d) (fun x=>(q3g x).trans (by unfold Xq X6;simp only[Zk0,ZjR,Zk1,Option.map_some,Option.map_none];rfl)) (fun _ _=>rfl) (fun _ _=>rfl) (fun _ _ _=>rfl) (fun _ _ _=>rfl) (fun _=>rfl) (Z29.1 h1),by first|exact h2|(rcases o with o<;>exact h2)⟩
def q3j {R:Type}:Z2K S R:=LE.ls X q3c q3e q4
theorem q3k {R:Type}:Z4g X (q3j (R:=R)):=Zkd xok q36 (e:=q3c) q2J q5 q3i q5
def q3l:Key:=⟨[127],127,none,[0,0,1,1,1,0,0,1,1,0,0,1,0,1,1],2,19⟩
def q3m:StT S:=⟨vF,(N (N L o7 L) og (N L o7 L)),19⟩
def q3n:Way S:=⟨(.exit 2),⟨v12,(N (N L o7 L) og (N L o7 L)),20⟩,[.int,.int,.int,(.lst (.st 28)),(.arr (.st 5)),(.st 25),(.arr (.st 5))]⟩
def q3o:LE S:=⟨q3l,q3m,[.int,.int,.int,.int,.int,.int,(.lst (.st 28)),(.lst (.st 28)),(.arr (.st 5)),(.st 25),(.arr (.st 5))],[q3n]⟩
def q3q {R:Type} (x:tqd) (k:tql->Option R):Option R:=(WX x.1 x.2.1 x.u2 x.u3 x.u5 x.u6 x.u7 x.u9 x.v10 (x.u4,x.u8)).bind (fun y0=>k (x.2.1,x.u3,x.u5,x.u6,y0,x.u9,x.v10))
theorem q3s (x:tqd):LE.step X q3o q35 q2I q3j 12 x=WL x.1 x.2.1 x.u2 x.u3 x.u5 x.u6 x.u7 x.u9 x.v10 x.u4 x.u8 (fun w0 w1=>(Sum.inl (x.1,x.2.1,x.u2,x.u3,w0,x.u5,x.u6,x.u7,w1,x.u9,x.v10))) (fun p0=>(Sum.inr (x.2.1,x.u3,x.u5,x.u6,p0,x.u9,x.v10))):=by kernel_rfl
theorem q3u {R:Type} (x:tqd) (k:tql->Option R) (r:R) (h:q3q x k=some r):∃o,Z6b (LE.step X q3o q35 q2I q3j 12) x o/\k o=some r:=by
 obtain⟨o,h1,h2⟩:=Z0 h;exact⟨q3d x o,Zk9 (st:=fun(x:tqd)=>X19 x.1 x.2.1 x.u2 x.u3 x.u5 x.u6 x.u7 x.u9 x.v10) (prj:=fun x=>(x.u4,x.u8)) (emb:=q3f) (embO:=q3d) (fun x=>(q3s x).trans (by unfold X19 WL X6;simp only[Zk0,ZjR,Zk1,Option.map_some,Option.map_none];rfl)) (fun _ _=>rfl) (fun _ _=>rfl) (fun _ _ _=>rfl) (fun _ _ _=>rfl) (fun _=>rfl) (Z29.1 h1),by first|exact h2|(rcases o with o<;>exact h2)⟩
def q3v {R:Type}:Z2K S R:=LE.ls X q3o q3q q3j
theorem q3w {R:Type}:Z4g X (q3v (R:=R)):=Zkd xok q36 (e:=q3o) q2J q3k q3u q3k
def q3x:Key:=⟨[127],127,none,[0,0,1,0,1,1],0,11⟩
def q3y:StT S:=⟨v12,(N (N L o7 L) og (N L o7 L)),11⟩
def q3z:Way S:=⟨(.exit 0),⟨(N L none (N v1m vw (N L (some (.ptr 2 0)) L))),(N (N L o7 L) og (N L o7 L)),12⟩,[.int,(.lst (.st 28)),(.arr (.st 5)),(.st 25),(.arr (.st 5))]⟩
def q3A:LE S:=⟨q3x,q3y,[.int,.int,.int,(.lst (.st 28)),(.arr (.st 5)),(.st 25),(.arr (.st 5))],[q3z]⟩
def q3B (x:tql):(Nat->Y2)->tqo:=fun y0=>(x.2.1,x.u3,y0,x.u5,x.v6)
def q3C {R:Type} (x:tql) (k:tqo->Option R):Option R:=(Wa x.1 x.2.1 x.u3 x.u5 x.v6 (x.u2,x.u4)).bind (fun y0=>k (x.2.1,x.u3,y0,x.u5,x.v6))
def q3D (x:tql) (v:(Int×(Nat->Y2))):tql:=(x.1,x.2.1,v.1,x.u3,v.2,x.u5,x.v6)
theorem q3E (x:tql):LE.step X q3A q35 q2I q3v 12 x=XE x.1 x.2.1 x.u3 x.u5 x.v6 x.u2 x.u4 (fun w0 w1=>(Sum.inl (x.1,x.2.1,w0,x.u3,w1,x.u5,x.v6))) (fun p0=>(Sum.inr (x.2.1,x.u3,p0,x.u5,x.v6))):=by kernel_rfl
theorem q3G {R:Type} (x:tql) (k:tqo->Option R) (r:R) (h:q3C x k=some r):∃o,Z6b (LE.step X q3A q35 q2I q3v 12) x o/\k o=some r:=by
 obtain⟨o,h1,h2⟩:=Z0 h;exact⟨q3B x o,Zk9 (st:=fun(x:tql)=>Xp x.1 x.2.1 x.u3 x.u5 x.v6) (prj:=fun x=>(x.u2,x.u4)) (emb:=q3D) (embO:=q3B) (fun x=>(q3E x).trans (by unfold Xp XE;simp only[Zk0,ZjR,Zk1,Option.map_some,Option.map_none];rfl)) (fun _ _=>rfl) (fun _ _=>rfl) (fun _ _ _=>rfl) (fun _ _ _=>rfl) (fun _=>rfl) (Z29.1 h1),by first|exact h2|(rcases o with o<;>exact h2)⟩
def q3H {R:Type}:Z2K S R:=LE.ls X q3A q3C q3v
theorem q3I {R:Type}:Z4g X (q3H (R:=R)):=Zkd xok q36 (e:=q3A) q2J q3w q3G q3w
def q3J:Key:=⟨[127],127,none,[0,0,1,1,0,0,1,0,0,1,0,1,1,1],6,38⟩
def q3K:StT S:=⟨vI,(N (N L o7 L) og (N L o7 L)),38⟩
def q3L:Way S:=⟨(.exit 6),⟨v17,(N (N L o7 L) og (N L o7 L)),39⟩,[.int,.int,(.lst (.st 28)),(.arr (.st 5)),(.st 25),(.arr (.st 5))]⟩
def q3M:LE S:=⟨q3J,q3K,[(.lst (.st 28)),.int,.int,.int,.int,(.lst (.st 28)),(.arr (.st 5)),(.st 25),(.arr (.st 5))],[q3L]⟩
def q3N (x:tqf):(Nat->Y2)->tqn:=fun y0=>(x.u2,x.u4,x.u5,y0,x.u7,x.v8)
def q3O {R:Type} (x:tqf) (k:tqn->Option R):Option R:=(Wd x.1 x.u2 x.u3 x.u4 x.u5 x.u7 x.v8 (x.2.1,x.u6)).bind (fun y0=>k (x.u2,x.u4,x.u5,y0,x.u7,x.v8))
def q3P (x:tqf) (v:(Int×(Nat->Y2))):tqf:=(x.1,v.1,x.u2,x.u3,x.u4,x.u5,v.2,x.u7,x.v8)
theorem q3Q (x:tqf):LE.step X q3M q35 q2I q3H 12 x=X7 x.1 x.u2 x.u3 x.u4 x.u5 x.u7 x.v8 x.2.1 x.u6 (fun w0 w1=>(Sum.inl (x.1,w0,x.u2,x.u3,x.u4,x.u5,w1,x.u7,x.v8))) (fun p0=>(Sum.inr (x.u2,x.u4,x.u5,p0,x.u7,x.v8))):=by kernel_rfl
theorem q3S {R:Type} (x:tqf) (k:tqn->Option R) (r:R) (h:q3O x k=some r):∃o,Z6b (LE.step X q3M q35 q2I q3H 12) x o/\k o=some r:=by
 obtain⟨o,h1,h2⟩:=Z0 h;exact⟨q3N x o,Zk9 (st:=fun(x:tqf)=>Xs x.1 x.u2 x.u3 x.u4 x.u5 x.u7 x.v8) (prj:=fun x=>(x.2.1,x.u6)) (emb:=q3P) (embO:=q3N) (fun x=>(q3Q x).trans (by unfold Xs X7;simp only[Zk0,ZjR,Zk1,Option.map_some,Option.map_none];rfl)) (fun _ _=>rfl) (fun _ _=>rfl) (fun _ _ _=>rfl) (fun _ _ _=>rfl) (fun _=>rfl) (Z29.1 h1),by first|exact h2|(rcases o with o<;>exact h2)⟩
def q3T {R:Type}:Z2K S R:=LE.ls X q3M q3O q3H
theorem q3U {R:Type}:Z4g X (q3T (R:=R)):=Zkd xok q36 (e:=q3M) q2J q3I q3S q3I
def q3V:Key:=⟨[127],127,none,[0,0,1,1,0,0,1,0,0,1,0,1,1,1],6,24⟩
def q3W:StT S:=⟨vI,(N (N L o7 L) og (N L o7 L)),24⟩
def q3X:Way S:=⟨(.exit 6),⟨v17,(N (N L o7 L) og (N L o7 L)),25⟩,[.int,.int,(.lst (.st 28)),(.arr (.st 5)),(.st 25),(.arr (.st 5))]⟩
def q3Y:LE S:=⟨q3V,q3W,[(.lst (.st 28)),.int,.int,.int,.int,(.lst (.st 28)),(.arr (.st 5)),(.st 25),(.arr (.st 5))],[q3X]⟩
def q40 {R:Type} (x:tqf) (k:tqn->Option R):Option R:=(WY x.1 x.u2 x.u3 x.u4 x.u5 x.u7 x.v8 (x.2.1,x.u6)).bind (fun y0=>k (x.u2,x.u4,x.u5,y0,x.u7,x.v8))
theorem q42 (x:tqf):LE.step X q3Y q35 q2I q3T 12 x=WM x.1 x.u2 x.u3 x.u4 x.u5 x.u7 x.v8 x.2.1 x.u6 (fun w0 w1=>(Sum.inl (x.1,w0,x.u2,x.u3,x.u4,x.u5,w1,x.u7,x.v8))) (fun p0=>(Sum.inr (x.u2,x.u4,x.u5,p0,x.u7,x.v8))):=by kernel_rfl
theorem q44 {R:Type} (x:tqf) (k:tqn->Option R) (r:R) (h:q40 x k=some r):∃o,Z6b (LE.step X q3Y q35 q2I q3T 12) x o/\k o=some r:=by
 obtain⟨o,h1,h2⟩:=Z0 h;exact⟨q3N x o,Zk9 (st:=fun(x:tqf)=>X1a x.1 x.u2 x.u3 x.u4 x.u5 x.u7 x.v8) (prj:=fun x=>(x.2.1,x.u6)) (emb:=q3P) (embO:=q3N) (fun x=>(q42 x).trans (by unfold X1a WM X7;simp only[Zk0,ZjR,Zk1,Option.map_some,Option.map_none];rfl)) (fun _ _=>rfl) (fun _ _=>rfl) (fun _ _ _=>rfl) (fun _ _ _=>rfl) (fun _=>rfl) (Z29.1 h1),by first|exact h2|(rcases o with o<;>exact h2)⟩
def q45 {R:Type}:Z2K S R:=LE.ls X q3Y q40 q3T
theorem q46 {R:Type}:Z4g X (q45 (R:=R)):=Zkd xok q36 (e:=q3Y) q2J q3U q44 q3U
def q47:Key:=⟨[127],127,none,[0,0,1,0,1,1,1],4,15⟩
def q48:StT S:=⟨v17,(N (N L o7 L) og (N L o7 L)),15⟩
def q49:Way S:=⟨(.exit 4),⟨(N L none (N v1m none (N L (some (.ptr 2 0)) L))),(N (N L o7 L) og (N L o7 L)),17⟩,[.int,(.arr (.st 5)),(.st 25),(.arr (.st 5))]⟩
def q4a:LE S:=⟨q47,q48,[.int,.int,(.lst (.st 28)),(.arr (.st 5)),(.st 25),(.arr (.st 5))],[q49]⟩
def q4b (x:tqn):(Nat->Y2)->tqB:=fun y0=>(x.1,y0,x.u4,x.v5)
def q4c {R:Type} (x:tqn) (k:tqB->Option R):Option R:=(Wc x.1 x.u2 x.u4 x.v5 (x.2.1,x.u3)).bind (fun y0=>k (x.1,y0,x.u4,x.v5))
def q4d (x:tqn) (v:(Int×(Nat->Y2))):tqn:=(x.1,v.1,x.u2,v.2,x.u4,x.v5)
theorem q4e (x:tqn):LE.step X q4a q35 q2I q45 12 x=XF x.1 x.u2 x.u4 x.v5 x.2.1 x.u3 (fun w0 w1=>(Sum.inl (x.1,w0,x.u2,w1,x.u4,x.v5))) (fun p0=>(Sum.inr (x.1,p0,x.u4,x.v5))):=by kernel_rfl
theorem q4g {R:Type} (x:tqn) (k:tqB->Option R) (r:R) (h:q4c x k=some r):∃o,Z6b (LE.step X q4a q35 q2I q45 12) x o/\k o=some r:=by
 obtain⟨o,h1,h2⟩:=Z0 h;exact⟨q4b x o,Zk9 (st:=fun(x:tqn)=>Xr x.1 x.u2 x.u4 x.v5) (prj:=fun x=>(x.2.1,x.u3)) (emb:=q4d) (embO:=q4b) (fun x=>(q4e x).trans (by unfold Xr XF;simp only[Zk0,ZjR,Zk1,Option.map_some,Option.map_none];rfl)) (fun _ _=>rfl) (fun _ _=>rfl) (fun _ _ _=>rfl) (fun _ _ _=>rfl) (fun _=>rfl) (Z29.1 h1),by first|exact h2|(rcases o with o<;>exact h2)⟩
def q4h {R:Type}:Z2K S R:=LE.ls X q4a q4c q45
theorem q4i {R:Type}:Z4g X (q4h (R:=R)):=Zkd xok q36 (e:=q4a) q2J q46 q4g q46
def q4j:Key:=⟨[182,2,1,152,3,25,127],182,none,[0,0,1,0,1],0,34⟩
def q4k:StT S:=⟨(N (N (N (N L vx L) none L) (some (.fn (.func 153) [] [])) L) (some (.sl (.st 5) [])) v1n),L,34⟩
def q4l:Way S:=⟨.ret,⟨v1o,L,45⟩,[.int]⟩
def q4m:Way S:=⟨(.exit 0),⟨L,L,35⟩,[]⟩
def q4n:LE S:=⟨q4j,q4k,[.int,(.lst (.st 5)),.int],[q4l,q4m]⟩
def q4o (x:tqT):(Int⊕Unit)->(Int⊕Unit):=Sum.elim (fun y0=>(.inl y0)) (fun y1=>(.inr ()))
def q4p {R:Type} (x:tqT) (k:(Int⊕Unit)->Option R):Option R:=(WZ x.1 x.2.1 x.v2).bind (Sum.elim (fun y0=>k (.inl y0)) (fun y1=>k (.inr ())))
def q4q (x:tqT) (v:Int):tqT:=(x.1,x.2.1,v)
theorem q4r (x:tqT):LE.step X q4n q35 q2I q4h 12 x=XG x.1 x.2.1 x.v2 (fun w0=>(Sum.inl (x.1,x.2.1,w0))) (fun p0=>(Sum.inr (.inl p0))) (Sum.inr (.inr ())):=by kernel_rfl
theorem q4t {R:Type} (x:tqT) (k:(Int⊕Unit)->Option R) (r:R) (h:q4p x k=some r):∃o,Z6b (LE.step X q4n q35 q2I q4h 12) x o/\k o=some r:=by
 obtain⟨o,h1,h2⟩:=Z0 h;exact⟨q4o x o,Zk9 (st:=fun(x:tqT)=>Xt x.1 x.2.1) (prj:=fun x=>x.v2) (emb:=q4q) (embO:=q4o) (fun x=>(q4r x).trans (by unfold Xt XG;simp only[Zk0,ZjR,Zk1,Option.map_some,Option.map_none];rfl)) (fun _ _=>rfl) (fun _ _=>rfl) (fun _ _ _=>rfl) (fun _ _ _=>rfl) (fun _=>rfl) (Z29.1 h1),by first|exact h2|(rcases o with o|o<;>exact h2)⟩
def q4u {R:Type}:Z2K S R:=LE.ls X q4n q4p q4h
theorem q4v {R:Type}:Z4g X (q4u (R:=R)):=Zkd xok q36 (e:=q4n) q2J q4i q4t q4i
theorem q4w (x0:Zc) (x1:Nat->Y2) (x2:List Zb):Zkf X q35 [(.st 25),(.arr 10 (.st 5)),(.sl (.st 28))] [(.arr 10 (.st 5)),.bool] q2I q4u 12 127 (x0,x1,x2,())=W0 x0 x1 x2:=by kernel_rfl
def q4x:F7 S:=⟨[(.st 25),(.arr 10 (.st 5)),(.sl (.st 28))],[(.arr 10 (.st 5)),.bool],fun xs=>W7 xs.1 xs.2.1 xs.u2⟩
theorem q4y:Zau X 127 q4x:=Zkc (Zkb xok q36 q2J q4v 12 127) fun xs _ h=>((q4w xs.1 xs.2.1 xs.u2).trans (X2K xs.1 xs.2.1 xs.u2).symm).trans h
def q4z:StT S:=⟨(N v1a vx (N (N L (some (.ptr 4 0)) L) vw L)),o1d,6⟩
def q4A:Way S:=⟨.ret,⟨(N L vy L),o1d,6⟩,[.bool,(.st 25),.bool,(.st 25),(.st 25)]⟩
def q4B:Way S:=⟨.ret,⟨(N L vy L),o1e,6⟩,[.bool,(.st 25),.bool,(.st 25),(.st 25)]⟩
def q4C:PE S:=⟨126,6,q4z,[(.arr (.st 5)),.int,(.lst (.st 28)),(.st 25),.bool,(.st 25),(.st 25)],[q4A,q4B]⟩
def q4D:List (Nat×F7 S):=[(127,q4x)]
theorem q4E:ZaF X q4D:=⟨q4y,trivial⟩
abbrev q4F (ih:tqi->Option tqc) {R:Type}:Z2K S R:=ZiZ
theorem q4G (ih:tqi->Option tqc) (hih:ZcD X q4C ih) {R:Type}:Z4g X (q4F ih (R:=R)):=ZjA X
def q4H:Key:=⟨[154,0,126],154,none,[0,0,1,1],0,69⟩
def q4I:StT S:=⟨vN,oA,70⟩
def q4J:Way S:=⟨.ret,⟨L,(N oO o5 oS),166⟩,[(.arr (.st 5)),(.st 28),(.st 25),.bool,(.arr (.st 5)),(.arr (.st 5)),.bool,.int,(.st 25),(.lst (.st 19)),(.lst (.st 28)),(.st 28),(.lst (.st 19)),(.st 21),(.lst (.st 28)),(.st 25),(.st 25),(.st 19),.int,(.lst (.st 28)),.int,.bool,(.arr (.st 5)),.bool,.int,.bool,(.lst (.st 28))]⟩
def q4K:Way S:=⟨.ret,⟨L,(N oP o5 oS),166⟩,[(.arr (.st 5)),(.st 28),(.st 25),.bool,(.arr (.st 5)),(.arr (.st 5)),.bool,.int,(.st 25),(.lst (.st 19)),(.lst (.st 28)),(.st 28),(.lst (.st 19)),(.st 21),(.lst (.st 28)),(.st 25),(.st 25),(.st 19),.int,(.lst (.st 28)),.int,.bool,(.arr (.st 5)),.bool,.int,.bool,(.lst (.st 28))]⟩
def q4L:Way S:=⟨.ret,⟨L,oB,159⟩,[(.arr (.st 5)),(.st 28),(.st 25),.bool,(.arr (.st 5)),(.arr (.st 5)),.bool,.int,(.st 25),(.lst (.st 19)),(.st 28),(.lst (.st 19)),(.st 21),(.lst (.st 28)),(.st 25),(.st 25),(.st 19),.int,.int,.bool,(.arr (.st 5)),.bool,.int,.bool,(.lst (.st 28))]⟩
def q4M:Way S:=⟨.ret,⟨L,oC,159⟩,[(.arr (.st 5)),(.st 28),(.st 25),.bool,(.arr (.st 5)),(.arr (.st 5)),.bool,.int,(.st 25),(.lst (.st 19)),(.st 28),(.lst (.st 19)),(.st 21),(.lst (.st 28)),(.st 25),(.st 25),(.st 19),.int,.int,.bool,(.arr (.st 5)),.bool,.int,.bool,(.lst (.st 28))]⟩
def q4N:Way S:=⟨.ret,⟨L,(N oG o5 oV),151⟩,[(.arr (.st 5)),(.st 28),(.st 25),(.lst (.st 28)),.bool,(.arr (.st 5)),(.arr (.st 5)),.bool,.int,(.st 25),(.lst (.st 19)),(.st 28),(.lst (.st 19)),(.st 21),(.lst (.st 28)),(.st 25),(.st 25),(.st 19),.int,.int,(.lst (.st 28)),.bool,(.arr (.st 5)),.bool,.int,.bool,(.lst (.st 28))]⟩
def q4O:Way S:=⟨.ret,⟨L,(N oH o5 oV),151⟩,[(.arr (.st 5)),(.st 28),(.st 25),(.lst (.st 28)),.bool,(.arr (.st 5)),(.arr (.st 5)),.bool,.int,(.st 25),(.lst (.st 19)),(.st 28),(.lst (.st 19)),(.st 21),(.lst (.st 28)),(.st 25),(.st 25),(.st 19),.int,.int,(.lst (.st 28)),.bool,(.arr (.st 5)),.bool,.int,.bool,(.lst (.st 28))]⟩
def q4P:Way S:=⟨.ret,⟨L,oB,144⟩,[(.arr (.st 5)),(.st 28),(.st 25),.bool,(.arr (.st 5)),(.arr (.st 5)),.bool,.int,(.st 25),(.lst (.st 19)),(.st 28),(.lst (.st 19)),(.st 21),(.lst (.st 28)),(.st 25),(.st 25),(.st 19),.int,.int,.bool,(.arr (.st 5)),.bool,.int,.bool,(.lst (.st 28))]⟩
def q4Q:Way S:=⟨.ret,⟨L,oC,144⟩,[(.arr (.st 5)),(.st 28),(.st 25),.bool,(.arr (.st 5)),(.arr (.st 5)),.bool,.int,(.st 25),(.lst (.st 19)),(.st 28),(.lst (.st 19)),(.st 21),(.lst (.st 28)),(.st 25),(.st 25),(.st 19),.int,.int,.bool,(.arr (.st 5)),.bool,.int,.bool,(.lst (.st 28))]⟩
def q4R:Way S:=⟨.ret,⟨L,(N oJ o5 oL),152⟩,[(.lst (.st 28)),(.arr (.st 5)),(.st 28),(.st 25),.bool,(.arr (.st 5)),(.arr (.st 5)),.bool,.int,(.st 25),(.lst (.st 19)),(.st 28),(.lst (.st 19)),(.st 21),(.lst (.st 28)),(.st 25),(.lst (.st 28)),(.st 25),(.st 19),.int,.int,.bool,(.arr (.st 5)),.bool,.int,.bool,(.lst (.st 28))]⟩
def q4S:Way S:=⟨.ret,⟨L,(N oK o5 oL),152⟩,[(.lst (.st 28)),(.arr (.st 5)),(.st 28),(.st 25),.bool,(.arr (.st 5)),(.arr (.st 5)),.bool,.int,(.st 25),(.lst (.st 19)),(.st 28),(.lst (.st 19)),(.st 21),(.lst (.st 28)),(.st 25),(.lst (.st 28)),(.st 25),(.st 19),.int,.int,.bool,(.arr (.st 5)),.bool,.int,.bool,(.lst (.st 28))]⟩
def q4T:Way S:=⟨.ret,⟨L,oB,145⟩,[(.arr (.st 5)),(.st 28),(.st 25),.bool,(.arr (.st 5)),(.arr (.st 5)),.bool,.int,(.st 25),(.lst (.st 19)),(.st 28),(.lst (.st 19)),(.st 21),(.lst (.st 28)),(.st 25),(.st 25),(.st 19),.int,.int,.bool,(.arr (.st 5)),.bool,.int,.bool,(.lst (.st 28))]⟩
def q4U:Way S:=⟨.ret,⟨L,oC,145⟩,[(.arr (.st 5)),(.st 28),(.st 25),.bool,(.arr (.st 5)),(.arr (.st 5)),.bool,.int,(.st 25),(.lst (.st 19)),(.st 28),(.lst (.st 19)),(.st 21),(.lst (.st 28)),(.st 25),(.st 25),(.st 19),.int,.int,.bool,(.arr (.st 5)),.bool,.int,.bool,(.lst (.st 28))]⟩
def q4V:Way S:=⟨.ret,⟨L,(N oQ o5 oX),137⟩,[(.arr (.st 5)),(.st 28),(.st 25),.bool,(.arr (.st 5)),(.arr (.st 5)),.bool,.int,(.st 25),(.lst (.st 19)),(.st 28),(.lst (.st 28)),(.lst (.st 28)),(.lst (.st 19)),(.st 21),(.lst (.st 28)),(.st 25),(.st 25),(.st 19),.int,.int,.bool,(.arr (.st 5)),.bool,.int,.bool,(.lst (.st 28))]⟩
def q4W:Way S:=⟨.ret,⟨L,(N oR o5 oX),137⟩,[(.arr (.st 5)),(.st 28),(.st 25),.bool,(.arr (.st 5)),(.arr (.st 5)),.bool,.int,(.st 25),(.lst (.st 19)),(.st 28),(.lst (.st 28)),(.lst (.st 28)),(.lst (.st 19)),(.st 21),(.lst (.st 28)),(.st 25),(.st 25),(.st 19),.int,.int,.bool,(.arr (.st 5)),.bool,.int,.bool,(.lst (.st 28))]⟩
def q4X:Way S:=⟨.ret,⟨L,oB,130⟩,[(.arr (.st 5)),(.st 28),(.st 25),.bool,(.arr (.st 5)),(.arr (.st 5)),.bool,.int,(.st 25),(.lst (.st 19)),(.st 28),(.lst (.st 19)),(.st 21),(.lst (.st 28)),(.st 25),(.st 25),(.st 19),.int,.int,.bool,(.arr (.st 5)),.bool,.int,.bool,(.lst (.st 28))]⟩
def q4Y:Way S:=⟨.ret,⟨L,oC,130⟩,[(.arr (.st 5)),(.st 28),(.st 25),.bool,(.arr (.st 5)),(.arr (.st 5)),.bool,.int,(.st 25),(.lst (.st 19)),(.st 28),(.lst (.st 19)),(.st 21),(.lst (.st 28)),(.st 25),(.st 25),(.st 19),.int,.int,.bool,(.arr (.st 5)),.bool,.int,.bool,(.lst (.st 28))]⟩
def q4Z:Way S:=⟨(.exit 0),⟨L,oA,71⟩,[(.arr (.st 5)),(.st 28),(.st 25),.bool,(.arr (.st 5)),.bool,.int,(.st 25),(.lst (.st 19)),(.lst (.st 19)),(.st 21),(.lst (.st 28)),(.st 25),(.st 25),.int,.int,.bool,(.arr (.st 5)),.bool,.int,.bool,(.lst (.st 28))]⟩
def q50:LE S:=⟨q4H,q4I,[.int,.int,.int,(.arr (.st 5)),(.st 28),(.st 25),.bool,(.arr (.st 5)),.bool,.int,(.st 25),(.lst (.st 19)),(.lst (.st 19)),(.st 21),(.lst (.st 28)),(.st 25),(.st 25),.int,.int,.bool,(.arr (.st 5)),.bool,.int,.bool,(.lst (.st 28))],[q4J,q4K,q4L,q4M,q4N,q4O,q4P,q4Q,q4R,q4S,q4T,q4U,q4V,q4W,q4X,q4Y,q4Z]⟩
def q51 (x:tq3):(tq6⊕tq6⊕tqe⊕tqe⊕tq7⊕tq7⊕tqe⊕tqe⊕tq8⊕tq8⊕tqe⊕tqe⊕tqa⊕tqa⊕tqh⊕tqh⊕(Zb×Zc×Bool×Zc×Zc))->tq0:=Sum.elim (fun y0=>(.inl (x.u3,y0.1,y0.2.1,y0.u2,y0.u3,x.u7,y0.u4,x.u9,y0.u5,x.u11,y0.u6,y0.u7,x.u12,x.u13,x.u14,x.u15,y0.u8,y0.u9,x.u17,y0.v10,x.u18,x.u19,x.u20,x.u21,x.u22,x.u23,x.v24))) (Sum.elim (fun y1=>(.inr (.inl (x.u3,y1.1,y1.2.1,y1.u2,y1.u3,x.u7,y1.u4,x.u9,y1.u5,x.u11,y1.u6,y1.u7,x.u12,x.u13,x.u14,x.u15,y1.u8,y1.u9,x.u17,y1.v10,x.u18,x.u19,x.u20,x.u21,x.u22,x.u23,x.v24)))) (Sum.elim (fun y2=>(.inr (.inr (.inl (x.u3,y2.1,y2.2.1,y2.u2,y2.u3,x.u7,y2.u4,x.u9,y2.u5,x.u11,y2.u6,x.u12,x.u13,x.u14,x.u15,y2.u7,y2.v8,x.u17,x.u18,x.u19,x.u20,x.u21,x.u22,x.u23,x.v24))))) (Sum.elim (fun y3=>(.inr (.inr (.inr (.inl (x.u3,y3.1,y3.2.1,y3.u2,y3.u3,x.u7,y3.u4,x.u9,y3.u5,x.u11,y3.u6,x.u12,x.u13,x.u14,x.u15,y3.u7,y3.v8,x.u17,x.u18,x.u19,x.u20,x.u21,x.u22,x.u23,x.v24)))))) (Sum.elim (fun y4=>(.inr (.inr (.inr (.inr (.inl (x.u3,y4.1,y4.2.1,y4.u2,y4.u3,y4.u4,x.u7,y4.u5,x.u9,y4.u6,x.u11,y4.u7,x.u12,x.u13,x.u14,x.u15,y4.u8,y4.u9,x.u17,x.u18,y4.v10,x.u19,x.u20,x.u21,x.u22,x.u23,x.v24))))))) (Sum.elim (fun y5=>(.inr (.inr (.inr (.inr (.inr (.inl (x.u3,y5.1,y5.2.1,y5.u2,y5.u3,y5.u4,x.u7,y5.u5,x.u9,y5.u6,x.u11,y5.u7,x.u12,x.u13,x.u14,x.u15,y5.u8,y5.u9,x.u17,x.u18,y5.v10,x.u19,x.u20,x.u21,x.u22,x.u23,x.v24)))))))) (Sum.elim (fun y6=>(.inr (.inr (.inr (.inr (.inr (.inr (.inl (x.u3,y6.1,y6.2.1,y6.u2,y6.u3,x.u7,y6.u4,x.u9,y6.u5,x.u11,y6.u6,x.u12,x.u13,x.u14,x.u15,y6.u7,y6.v8,x.u17,x.u18,x.u19,x.u20,x.u21,x.u22,x.u23,x.v24))))))))) (Sum.elim (fun y7=>(.inr (.inr (.inr (.inr (.inr (.inr (.inr (.inl (x.u3,y7.1,y7.2.1,y7.u2,y7.u3,x.u7,y7.u4,x.u9,y7.u5,x.u11,y7.u6,x.u12,x.u13,x.u14,x.u15,y7.u7,y7.v8,x.u17,x.u18,x.u19,x.u20,x.u21,x.u22,x.u23,x.v24)))))))))) (Sum.elim (fun y8=>(.inr (.inr (.inr (.inr (.inr (.inr (.inr (.inr (.inl (y8.1,x.u3,y8.2.1,y8.u2,y8.u3,y8.u4,x.u7,y8.u5,x.u9,y8.u6,x.u11,y8.u7,x.u12,x.u13,x.u14,x.u15,y8.u8,y8.u9,y8.v10,x.u17,x.u18,x.u19,x.u20,x.u21,x.u22,x.u23,x.v24))))))))))) (Sum.elim (fun y9=>(.inr (.inr (.inr (.inr (.inr (.inr (.inr (.inr (.inr (.inl (y9.1,x.u3,y9.2.1,y9.u2,y9.u3,y9.u4,x.u7,y9.u5,x.u9,y9.u6,x.u11,y9.u7,x.u12,x.u13,x.u14,x.u15,y9.u8,y9.u9,y9.v10,x.u17,x.u18,x.u19,x.u20,x.u21,x.u22,x.u23,x.v24)))))))))))) (Sum.elim (fun y10=>(.inr (.inr (.inr (.inr (.inr (.inr (.inr (.inr (.inr (.inr (.inl (x.u3,y10.1,y10.2.1,y10.u2,y10.u3,x.u7,y10.u4,x.u9,y10.u5,x.u11,y10.u6,x.u12,x.u13,x.u14,x.u15,y10.u7,y10.v8,x.u17,x.u18,x.u19,x.u20,x.u21,x.u22,x.u23,x.v24))))))))))))) (Sum.elim (fun y11=>(.inr (.inr (.inr (.inr (.inr (.inr (.inr (.inr (.inr (.inr (.inr (.inl (x.u3,y11.1,y11.2.1,y11.u2,y11.u3,x.u7,y11.u4,x.u9,y11.u5,x.u11,y11.u6,x.u12,x.u13,x.u14,x.u15,y11.u7,y11.v8,x.u17,x.u18,x.u19,x.u20,x.u21,x.u22,x.u23,x.v24)))))))))))))) (Sum.elim (fun y12=>(.inr (.inr (.inr (.inr (.inr (.inr (.inr (.inr (.inr (.inr (.inr (.inr (.inl (x.u3,y12.1,y12.2.1,y12.u2,x.u3,x.u7,y12.u3,x.u9,y12.u4,x.u11,y12.u5,y12.u6,y12.u7,x.u12,x.u13,x.u14,x.u15,y12.u8,y12.v9,x.u17,x.u18,x.u19,x.u20,x.u21,x.u22,x.u23,x.v24))))))))))))))) (Sum.elim (fun y13=>(.inr (.inr (.inr (.inr (.inr (.inr (.inr (.inr (.inr (.inr (.inr (.inr (.inr (.inl (x.u3,y13.1,y13.2.1,y13.u2,x.u3,x.u7,y13.u3,x.u9,y13.u4,x.u11,y13.u5,y13.u6,y13.u7,x.u12,x.u13,x.u14,x.u15,y13.u8,y13.v9,x.u17,x.u18,x.u19,x.u20,x.u21,x.u22,x.u23,x.v24)))))))))))))))) (Sum.elim (fun y14=>(.inr (.inr (.inr (.inr (.inr (.inr (.inr (.inr (.inr (.inr (.inr (.inr (.inr (.inr (.inl (x.u3,y14.1,y14.2.1,y14.u2,x.u3,x.u7,y14.u3,x.u9,y14.u4,x.u11,y14.u5,x.u12,x.u13,x.u14,x.u15,y14.u6,y14.v7,x.u17,x.u18,x.u19,x.u20,x.u21,x.u22,x.u23,x.v24))))))))))))))))) (Sum.elim (fun y15=>(.inr (.inr (.inr (.inr (.inr (.inr (.inr (.inr (.inr (.inr (.inr (.inr (.inr (.inr (.inr (.inl (x.u3,y15.1,y15.2.1,y15.u2,x.u3,x.u7,y15.u3,x.u9,y15.u4,x.u11,y15.u5,x.u12,x.u13,x.u14,x.u15,y15.u6,y15.v7,x.u17,x.u18,x.u19,x.u20,x.u21,x.u22,x.u23,x.v24)))))))))))))))))) (fun y16=>(.inr (.inr (.inr (.inr (.inr (.inr (.inr (.inr (.inr (.inr (.inr (.inr (.inr (.inr (.inr (.inr (x.u3,y16.1,y16.2.1,y16.u2,x.u7,x.u8,x.u9,y16.u3,x.u11,x.u12,x.u13,x.u14,x.u15,y16.v4,x.u17,x.u18,x.u19,x.u20,x.u21,x.u22,x.u23,x.v24)))))))))))))))))))))))))))))))))
def q52 (ih:tqi->Option tqc) {R:Type} (x:tq3) (k:tq0->Option R):Option R:=(XC ih x.1 x.u3 x.u7 x.u8 x.u9 x.u11 x.u12 x.u13 x.u14 x.u15 x.u17 x.u18 x.u19 x.u20 x.u21 x.u22 x.u23 x.v24 (x.2.1,x.u2,x.u4,x.u5,x.u6,x.u10,x.u16)).bind (Sum.elim (fun y0=>k (.inl (x.u3,y0.1,y0.2.1,y0.u2,y0.u3,x.u7,y0.u4,x.u9,y0.u5,x.u11,y0.u6,y0.u7,x.u12,x.u13,x.u14,x.u15,y0.u8,y0.u9,x.u17,y0.v10,x.u18,x.u19,x.u20,x.u21,x.u22,x.u23,x.v24))) (Sum.elim (fun y1=>k (.inr (.inl (x.u3,y1.1,y1.2.1,y1.u2,y1.u3,x.u7,y1.u4,x.u9,y1.u5,x.u11,y1.u6,y1.u7,x.u12,x.u13,x.u14,x.u15,y1.u8,y1.u9,x.u17,y1.v10,x.u18,x.u19,x.u20,x.u21,x.u22,x.u23,x.v24)))) (Sum.elim (fun y2=>k (.inr (.inr (.inl (x.u3,y2.1,y2.2.1,y2.u2,y2.u3,x.u7,y2.u4,x.u9,y2.u5,x.u11,y2.u6,x.u12,x.u13,x.u14,x.u15,y2.u7,y2.v8,x.u17,x.u18,x.u19,x.u20,x.u21,x.u22,x.u23,x.v24))))) (Sum.elim (fun y3=>k (.inr (.inr (.inr (.inl (x.u3,y3.1,y3.2.1,y3.u2,y3.u3,x.u7,y3.u4,x.u9,y3.u5,x.u11,y3.u6,x.u12,x.u13,x.u14,x.u15,y3.u7,y3.v8,x.u17,x.u18,x.u19,x.u20,x.u21,x.u22,x.u23,x.v24)))))) (Sum.elim (fun y4=>k (.inr (.inr (.inr (.inr (.inl (x.u3,y4.1,y4.2.1,y4.u2,y4.u3,y4.u4,x.u7,y4.u5,x.u9,y4.u6,x.u11,y4.u7,x.u12,x.u13,x.u14,x.u15,y4.u8,y4.u9,x.u17,x.u18,y4.v10,x.u19,x.u20,x.u21,x.u22,x.u23,x.v24))))))) (Sum.elim (fun y5=>k (.inr (.inr (.inr (.inr (.inr (.inl (x.u3,y5.1,y5.2.1,y5.u2,y5.u3,y5.u4,x.u7,y5.u5,x.u9,y5.u6,x.u11,y5.u7,x.u12,x.u13,x.u14,x.u15,y5.u8,y5.u9,x.u17,x.u18,y5.v10,x.u19,x.u20,x.u21,x.u22,x.u23,x.v24)))))))) (Sum.elim (fun y6=>k (.inr (.inr (.inr (.inr (.inr (.inr (.inl (x.u3,y6.1,y6.2.1,y6.u2,y6.u3,x.u7,y6.u4,x.u9,y6.u5,x.u11,y6.u6,x.u12,x.u13,x.u14,x.u15,y6.u7,y6.v8,x.u17,x.u18,x.u19,x.u20,x.u21,x.u22,x.u23,x.v24))))))))) (Sum.elim (fun y7=>k (.inr (.inr (.inr (.inr (.inr (.inr (.inr (.inl (x.u3,y7.1,y7.2.1,y7.u2,y7.u3,x.u7,y7.u4,x.u9,y7.u5,x.u11,y7.u6,x.u12,x.u13,x.u14,x.u15,y7.u7,y7.v8,x.u17,x.u18,x.u19,x.u20,x.u21,x.u22,x.u23,x.v24)))))))))) (Sum.elim (fun y8=>k (.inr (.inr (.inr (.inr (.inr (.inr (.inr (.inr (.inl (y8.1,x.u3,y8.2.1,y8.u2,y8.u3,y8.u4,x.u7,y8.u5,x.u9,y8.u6,x.u11,y8.u7,x.u12,x.u13,x.u14,x.u15,y8.u8,y8.u9,y8.v10,x.u17,x.u18,x.u19,x.u20,x.u21,x.u22,x.u23,x.v24))))))))))) (Sum.elim (fun y9=>k (.inr (.inr (.inr (.inr (.inr (.inr (.inr (.inr (.inr (.inl (y9.1,x.u3,y9.2.1,y9.u2,y9.u3,y9.u4,x.u7,y9.u5,x.u9,y9.u6,x.u11,y9.u7,x.u12,x.u13,x.u14,x.u15,y9.u8,y9.u9,y9.v10,x.u17,x.u18,x.u19,x.u20,x.u21,x.u22,x.u23,x.v24)))))))))))) (Sum.elim (fun y10=>k (.inr (.inr (.inr (.inr (.inr (.inr (.inr (.inr (.inr (.inr (.inl (x.u3,y10.1,y10.2.1,y10.u2,y10.u3,x.u7,y10.u4,x.u9,y10.u5,x.u11,y10.u6,x.u12,x.u13,x.u14,x.u15,y10.u7,y10.v8,x.u17,x.u18,x.u19,x.u20,x.u21,x.u22,x.u23,x.v24))))))))))))) (Sum.elim (fun y11=>k (.inr (.inr (.inr (.inr (.inr (.inr (.inr (.inr (.inr (.inr (.inr (.inl (x.u3,y11.1,y11.2.1,y11.u2,y11.u3,x.u7,y11.u4,x.u9,y11.u5,x.u11,y11.u6,x.u12,x.u13,x.u14,x.u15,y11.u7,y11.v8,x.u17,x.u18,x.u19,x.u20,x.u21,x.u22,x.u23,x.v24)))))))))))))) (Sum.elim (fun y12=>k (.inr (.inr (.inr (.inr (.inr (.inr (.inr (.inr (.inr (.inr (.inr (.inr (.inl (x.u3,y12.1,y12.2.1,y12.u2,x.u3,x.u7,y12.u3,x.u9,y12.u4,x.u11,y12.u5,y12.u6,y12.u7,x.u12,x.u13,x.u14,x.u15,y12.u8,y12.v9,x.u17,x.u18,x.u19,x.u20,x.u21,x.u22,x.u23,x.v24))))))))))))))) (Sum.elim (fun y13=>k (.inr (.inr (.inr (.inr (.inr (.inr (.inr (.inr (.inr (.inr (.inr (.inr (.inr (.inl (x.u3,y13.1,y13.2.1,y13.u2,x.u3,x.u7,y13.u3,x.u9,y13.u4,x.u11,y13.u5,y13.u6,y13.u7,x.u12,x.u13,x.u14,x.u15,y13.u8,y13.v9,x.u17,x.u18,x.u19,x.u20,x.u21,x.u22,x.u23,x.v24)))))))))))))))) (Sum.elim (fun y14=>k (.inr (.inr (.inr (.inr (.inr (.inr (.inr (.inr (.inr (.inr (.inr (.inr (.inr (.inr (.inl (x.u3,y14.1,y14.2.1,y14.u2,x.u3,x.u7,y14.u3,x.u9,y14.u4,x.u11,y14.u5,x.u12,x.u13,x.u14,x.u15,y14.u6,y14.v7,x.u17,x.u18,x.u19,x.u20,x.u21,x.u22,x.u23,x.v24))))))))))))))))) (Sum.elim (fun y15=>k (.inr (.inr (.inr (.inr (.inr (.inr (.inr (.inr (.inr (.inr (.inr (.inr (.inr (.inr (.inr (.inl (x.u3,y15.1,y15.2.1,y15.u2,x.u3,x.u7,y15.u3,x.u9,y15.u4,x.u11,y15.u5,x.u12,x.u13,x.u14,x.u15,y15.u6,y15.v7,x.u17,x.u18,x.u19,x.u20,x.u21,x.u22,x.u23,x.v24)))))))))))))))))) (fun y16=>k (.inr (.inr (.inr (.inr (.inr (.inr (.inr (.inr (.inr (.inr (.inr (.inr (.inr (.inr (.inr (.inr (x.u3,y16.1,y16.2.1,y16.u2,x.u7,x.u8,x.u9,y16.u3,x.u11,x.u12,x.u13,x.u14,x.u15,y16.v4,x.u17,x.u18,x.u19,x.u20,x.u21,x.u22,x.u23,x.v24))))))))))))))))))))))))))))))))))
def q53 (x:tq3) (v:(Int×Int×Zb×Zc×Bool×Zc×Zc)):tq3:=(x.1,v.1,v.2.1,x.u3,v.u2,v.u3,v.u4,x.u7,x.u8,x.u9,v.u5,x.u11,x.u12,x.u13,x.u14,x.u15,v.v6,x.u17,x.u18,x.u19,x.u20,x.u21,x.u22,x.u23,x.v24)
theorem q54 (ih:tqi->Option tqc) (x:tq3):LE.step X q50 q4D (PE.ps X q4C (fun x q=>(ih x).bind q) q2I) (q4F ih) 12 x=X0 ih x.1 x.u3 x.u7 x.u8 x.u9 x.u11 x.u12 x.u13 x.u14 x.u15 x.u17 x.u18 x.u19 x.u20 x.u21 x.u22 x.u23 x.v24 x.2.1 x.u2 x.u4 x.u5 x.u6 x.u10 x.u16 (fun w0 w1 w2 w3 w4 w5 w6=>(Sum.inl (x.1,w0,w1,x.u3,w2,w3,w4,x.u7,x.u8,x.u9,w5,x.u11,x.u12,x.u13,x.u14,x.u15,w6,x.u17,x.u18,x.u19,x.u20,x.u21,x.u22,x.u23,x.v24))) (fun p0 p1 p2 p3 p4 p5 p6 p7 p8 p9 p10=>(Sum.inr (.inl (x.u3,p0,p1,p2,p3,x.u7,p4,x.u9,p5,x.u11,p6,p7,x.u12,x.u13,x.u14,x.u15,p8,p9,x.u17,p10,x.u18,x.u19,x.u20,x.u21,x.u22,x.u23,x.v24)))) (fun p0 p1 p2 p3 p4 p5 p6 p7 p8 p9 p10=>(Sum.inr (.inr (.inl (x.u3,p0,p1,p2,p3,x.u7,p4,x.u9,p5,x.u11,p6,p7,x.u12,x.u13,x.u14,x.u15,p8,p9,x.u17,p10,x.u18,x.u19,x.u20,x.u21,x.u22,x.u23,x.v24))))) (fun p0 p1 p2 p3 p4 p5 p6 p7 p8=>(Sum.inr (.inr (.inr (.inl (x.u3,p0,p1,p2,p3,x.u7,p4,x.u9,p5,x.u11,p6,x.u12,x.u13,x.u14,x.u15,p7,p8,x.u17,x.u18,x.u19,x.u20,x.u21,x.u22,x.u23,x.v24)))))) (fun p0 p1 p2 p3 p4 p5 p6 p7 p8=>(Sum.inr (.inr (.inr (.inr (.inl (x.u3,p0,p1,p2,p3,x.u7,p4,x.u9,p5,x.u11,p6,x.u12,x.u13,x.u14,x.u15,p7,p8,x.u17,x.u18,x.u19,x.u20,x.u21,x.u22,x.u23,x.v24))))))) (fun p0 p1 p2 p3 p4 p5 p6 p7 p8 p9 p10=>(Sum.inr (.inr (.inr (.inr (.inr (.inl (x.u3,p0,p1,p2,p3,p4,x.u7,p5,x.u9,p6,x.u11,p7,x.u12,x.u13,x.u14,x.u15,p8,p9,x.u17,x.u18,p10,x.u19,x.u20,x.u21,x.u22,x.u23,x.v24)))))))) (fun p0 p1 p2 p3 p4 p5 p6 p7 p8 p9 p10=>(Sum.inr (.inr (.inr (.inr (.inr (.inr (.inl (x.u3,p0,p1,p2,p3,p4,x.u7,p5,x.u9,p6,x.u11,p7,x.u12,x.u13,x.u14,x.u15,p8,p9,x.u17,x.u18,p10,x.u19,x.u20,x.u21,x.u22,x.u23,x.v24))))))))) (fun p0 p1 p2 p3 p4 p5 p6 p7 p8=>(Sum.inr (.inr (.inr (.inr (.inr (.inr (.inr (.inl (x.u3,p0,p1,p2,p3,x.u7,p4,x.u9,p5,x.u11,p6,x.u12,x.u13,x.u14,x.u15,p7,p8,x.u17,x.u18,x.u19,x.u20,x.u21,x.u22,x.u23,x.v24)))))))))) (fun p0 p1 p2 p3 p4 p5 p6 p7 p8=>(Sum.inr (.inr (.inr (.inr (.inr (.inr (.inr (.inr (.inl (x.u3,p0,p1,p2,p3,x.u7,p4,x.u9,p5,x.u11,p6,x.u12,x.u13,x.u14,x.u15,p7,p8,x.u17,x.u18,x.u19,x.u20,x.u21,x.u22,x.u23,x.v24))))))))))) (fun p0 p1 p2 p3 p4 p5 p6 p7 p8 p9 p10=>(Sum.inr (.inr (.inr (.inr (.inr (.inr (.inr (.inr (.inr (.inl (p0,x.u3,p1,p2,p3,p4,x.u7,p5,x.u9,p6,x.u11,p7,x.u12,x.u13,x.u14,x.u15,p8,p9,p10,x.u17,x.u18,x.u19,x.u20,x.u21,x.u22,x.u23,x.v24)))))))))))) (fun p0 p1 p2 p3 p4 p5 p6 p7 p8 p9 p10=>(Sum.inr (.inr (.inr (.inr (.inr (.inr (.inr (.inr (.inr (.inr (.inl (p0,x.u3,p1,p2,p3,p4,x.u7,p5,x.u9,p6,x.u11,p7,x.u12,x.u13,x.u14,x.u15,p8,p9,p10,x.u17,x.u18,x.u19,x.u20,x.u21,x.u22,x.u23,x.v24))))))))))))) (fun p0 p1 p2 p3 p4 p5 p6 p7 p8=>(Sum.inr (.inr (.inr (.inr (.inr (.inr (.inr (.inr (.inr (.inr (.inr (.inl (x.u3,p0,p1,p2,p3,x.u7,p4,x.u9,p5,x.u11,p6,x.u12,x.u13,x.u14,x.u15,p7,p8,x.u17,x.u18,x.u19,x.u20,x.u21,x.u22,x.u23,x.v24)))))))))))))) (fun p0 p1 p2 p3 p4 p5 p6 p7 p8=>(Sum.inr (.inr (.inr (.inr (.inr (.inr (.inr (.inr (.inr (.inr (.inr (.inr (.inl (x.u3,p0,p1,p2,p3,x.u7,p4,x.u9,p5,x.u11,p6,x.u12,x.u13,x.u14,x.u15,p7,p8,x.u17,x.u18,x.u19,x.u20,x.u21,x.u22,x.u23,x.v24))))))))))))))) (fun p0 p1 p2 p3 p4 p5 p6 p7 p8 p9=>(Sum.inr (.inr (.inr (.inr (.inr (.inr (.inr (.inr (.inr (.inr (.inr (.inr (.inr (.inl (x.u3,p0,p1,p2,x.u3,x.u7,p3,x.u9,p4,x.u11,p5,p6,p7,x.u12,x.u13,x.u14,x.u15,p8,p9,x.u17,x.u18,x.u19,x.u20,x.u21,x.u22,x.u23,x.v24)))))))))))))))) (fun p0 p1 p2 p3 p4 p5 p6 p7 p8 p9=>(Sum.inr (.inr (.inr (.inr (.inr (.inr (.inr (.inr (.inr (.inr (.inr (.inr (.inr (.inr (.inl (x.u3,p0,p1,p2,x.u3,x.u7,p3,x.u9,p4,x.u11,p5,p6,p7,x.u12,x.u13,x.u14,x.u15,p8,p9,x.u17,x.u18,x.u19,x.u20,x.u21,x.u22,x.u23,x.v24))))))))))))))))) (fun p0 p1 p2 p3 p4 p5 p6 p7=>(Sum.inr (.inr (.inr (.inr (.inr (.inr (.inr (.inr (.inr (.inr (.inr (.inr (.inr (.inr (.inr (.inl (x.u3,p0,p1,p2,x.u3,x.u7,p3,x.u9,p4,x.u11,p5,x.u12,x.u13,x.u14,x.u15,p6,p7,x.u17,x.u18,x.u19,x.u20,x.u21,x.u22,x.u23,x.v24)))))))))))))))))) (fun p0 p1 p2 p3 p4 p5 p6 p7=>(Sum.inr (.inr (.inr (.inr (.inr (.inr (.inr (.inr (.inr (.inr (.inr (.inr (.inr (.inr (.inr (.inr (.inl (x.u3,p0,p1,p2,x.u3,x.u7,p3,x.u9,p4,x.u11,p5,x.u12,x.u13,x.u14,x.u15,p6,p7,x.u17,x.u18,x.u19,x.u20,x.u21,x.u22,x.u23,x.v24))))))))))))))))))) (fun p0 p1 p2 p3 p4=>(Sum.inr (.inr (.inr (.inr (.inr (.inr (.inr (.inr (.inr (.inr (.inr (.inr (.inr (.inr (.inr (.inr (.inr (x.u3,p0,p1,p2,x.u7,x.u8,x.u9,p3,x.u11,x.u12,x.u13,x.u14,x.u15,p4,x.u17,x.u18,x.u19,x.u20,x.u21,x.u22,x.u23,x.v24))))))))))))))))))):=by kernel_rfl
theorem q56 (ih:tqi->Option tqc) {R:Type} (x:tq3) (k:tq0->Option R) (r:R) (h:q52 ih x k=some r):∃o,Z6b (LE.step X q50 q4D (PE.ps X q4C (fun x q=>(ih x).bind q) q2I) (q4F ih) 12) x o/\k o=some r:=by
 obtain⟨o,h1,h2⟩:=Z0 h;exact⟨q51 x o,Zk9 (st:=fun(x:tq3)=>X5 ih x.1 x.u3 x.u7 x.u8 x.u9 x.u11 x.u12 x.u13 x.u14 x.u15 x.u17 x.u18 x.u19 x.u20 x.u21 x.u22 x.u23 x.v24) (prj:=fun x=>(x.2.1,x.u2,x.u4,x.u5,x.u6,x.u10,x.u16)) (emb:=q53) (embO:=q51) (fun x=>(q54 ih x).trans (by unfold X5 X0;simp only[Zk0,ZjR,Zk1,Option.map_some,Option.map_none];rfl)) (fun _ _=>rfl) (fun _ _=>rfl) (fun _ _ _=>rfl) (fun _ _ _=>rfl) (fun _=>rfl) (Z29.1 h1),by first|exact h2|(rcases o with o|o|o|o|o|o|o|o|o|o|o|o|o|o|o|o|o<;>exact h2)⟩
def q57 (ih:tqi->Option tqc) {R:Type}:Z2K S R:=LE.ls X q50 (q52 ih) (q4F ih)
theorem q58 (ih:tqi->Option tqc) (hih:ZcD X q4C ih) {R:Type}:Z4g X (q57 ih (R:=R)):=Zkd xok q4E (e:=q50) (Zk6 (e:=q4C) hih q2J) (q4G ih hih) (q56 ih) (q4G ih hih)
theorem q59 (ih:tqi->Option tqc) (x:((Nat->Y2)×Int×(List Zb)×Zc×Bool×Zc×Zc)):PE.step X q4C q4D (PE.ps X q4C (fun x q=>(ih x).bind q) q2I) (q57 ih) 12 x=X8 ih x.1 x.2.1 x.u2 x.u3 x.u4 x.u5 x.v6:=by kernel_rfl
theorem q5a:ZcD X q4C XN:=Zk7 (X:=X) (e:=q4C) (t:=X2) fun ih hih=>Zke (ZjE xok q4E (Zk6 (e:=q4C) hih q2J) (q58 ih hih) 12) fun x _ h=>(q59 ih x).trans h
def q5b {R:Type}:Prs S R:=PE.ps X q4C (fun x q=>(XN x).bind q) q2I
theorem q5c {R:Type}:Z93 X (q5b (R:=R)):=Zk6 (e:=q4C) q5a q2J
def q5d:StT S:=⟨(N v1a vx (N (N L (some (.ptr 4 0)) L) (some .sl0) L)),o1d,6⟩
def q5g:PE S:=⟨126,6,q5d,[(.arr (.st 5)),.int,(.st 25),.bool,(.st 25),(.st 25)],[q4A,q4B]⟩
def q5m:StT S:=⟨vN,oz,70⟩
def q5n:Way S:=⟨.ret,⟨L,(N oO o5 oT),166⟩,[(.arr (.st 5)),(.st 28),(.st 25),.bool,(.arr (.st 5)),(.arr (.st 5)),.bool,.int,(.st 25),(.lst (.st 19)),(.lst (.st 28)),(.st 28),(.lst (.st 19)),(.st 21),(.lst (.st 28)),(.st 25),(.st 25),(.st 19),.int,(.lst (.st 28)),.int,.bool,(.arr (.st 5)),.bool,.int,.bool]⟩
def q5o:Way S:=⟨.ret,⟨L,(N oP o5 oT),166⟩,[(.arr (.st 5)),(.st 28),(.st 25),.bool,(.arr (.st 5)),(.arr (.st 5)),.bool,.int,(.st 25),(.lst (.st 19)),(.lst (.st 28)),(.st 28),(.lst (.st 19)),(.st 21),(.lst (.st 28)),(.st 25),(.st 25),(.st 19),.int,(.lst (.st 28)),.int,.bool,(.arr (.st 5)),.bool,.int,.bool]⟩
def q5p:Way S:=⟨.ret,⟨L,oD,159⟩,[(.arr (.st 5)),(.st 28),(.st 25),.bool,(.arr (.st 5)),(.arr (.st 5)),.bool,.int,(.st 25),(.lst (.st 19)),(.st 28),(.lst (.st 19)),(.st 21),(.lst (.st 28)),(.st 25),(.st 25),(.st 19),.int,.int,.bool,(.arr (.st 5)),.bool,.int,.bool]⟩
def q5q:Way S:=⟨.ret,⟨L,oE,159⟩,[(.arr (.st 5)),(.st 28),(.st 25),.bool,(.arr (.st 5)),(.arr (.st 5)),.bool,.int,(.st 25),(.lst (.st 19)),(.st 28),(.lst (.st 19)),(.st 21),(.lst (.st 28)),(.st 25),(.st 25),(.st 19),.int,.int,.bool,(.arr (.st 5)),.bool,.int,.bool]⟩
def q5r:Way S:=⟨.ret,⟨L,(N oG o5 oW),151⟩,[(.arr (.st 5)),(.st 28),(.st 25),(.lst (.st 28)),.bool,(.arr (.st 5)),(.arr (.st 5)),.bool,.int,(.st 25),(.lst (.st 19)),(.st 28),(.lst (.st 19)),(.st 21),(.lst (.st 28)),(.st 25),(.st 25),(.st 19),.int,.int,(.lst (.st 28)),.bool,(.arr (.st 5)),.bool,.int,.bool]⟩
def q5s:Way S:=⟨.ret,⟨L,(N oH o5 oW),151⟩,[(.arr (.st 5)),(.st 28),(.st 25),(.lst (.st 28)),.bool,(.arr (.st 5)),(.arr (.st 5)),.bool,.int,(.st 25),(.lst (.st 19)),(.st 28),(.lst (.st 19)),(.st 21),(.lst (.st 28)),(.st 25),(.st 25),(.st 19),.int,.int,(.lst (.st 28)),.bool,(.arr (.st 5)),.bool,.int,.bool]⟩
def q5t:Way S:=⟨.ret,⟨L,oD,144⟩,[(.arr (.st 5)),(.st 28),(.st 25),.bool,(.arr (.st 5)),(.arr (.st 5)),.bool,.int,(.st 25),(.lst (.st 19)),(.st 28),(.lst (.st 19)),(.st 21),(.lst (.st 28)),(.st 25),(.st 25),(.st 19),.int,.int,.bool,(.arr (.st 5)),.bool,.int,.bool]⟩
def q5u:Way S:=⟨.ret,⟨L,oE,144⟩,[(.arr (.st 5)),(.st 28),(.st 25),.bool,(.arr (.st 5)),(.arr (.st 5)),.bool,.int,(.st 25),(.lst (.st 19)),(.st 28),(.lst (.st 19)),(.st 21),(.lst (.st 28)),(.st 25),(.st 25),(.st 19),.int,.int,.bool,(.arr (.st 5)),.bool,.int,.bool]⟩
def q5v:Way S:=⟨.ret,⟨L,(N oJ o5 oM),152⟩,[(.lst (.st 28)),(.arr (.st 5)),(.st 28),(.st 25),.bool,(.arr (.st 5)),(.arr (.st 5)),.bool,.int,(.st 25),(.lst (.st 19)),(.st 28),(.lst (.st 19)),(.st 21),(.lst (.st 28)),(.st 25),(.lst (.st 28)),(.st 25),(.st 19),.int,.int,.bool,(.arr (.st 5)),.bool,.int,.bool]⟩
def q5w:Way S:=⟨.ret,⟨L,(N oK o5 oM),152⟩,[(.lst (.st 28)),(.arr (.st 5)),(.st 28),(.st 25),.bool,(.arr (.st 5)),(.arr (.st 5)),.bool,.int,(.st 25),(.lst (.st 19)),(.st 28),(.lst (.st 19)),(.st 21),(.lst (.st 28)),(.st 25),(.lst (.st 28)),(.st 25),(.st 19),.int,.int,.bool,(.arr (.st 5)),.bool,.int,.bool]⟩
def q5x:Way S:=⟨.ret,⟨L,oD,145⟩,[(.arr (.st 5)),(.st 28),(.st 25),.bool,(.arr (.st 5)),(.arr (.st 5)),.bool,.int,(.st 25),(.lst (.st 19)),(.st 28),(.lst (.st 19)),(.st 21),(.lst (.st 28)),(.st 25),(.st 25),(.st 19),.int,.int,.bool,(.arr (.st 5)),.bool,.int,.bool]⟩
def q5y:Way S:=⟨.ret,⟨L,oE,145⟩,[(.arr (.st 5)),(.st 28),(.st 25),.bool,(.arr (.st 5)),(.arr (.st 5)),.bool,.int,(.st 25),(.lst (.st 19)),(.st 28),(.lst (.st 19)),(.st 21),(.lst (.st 28)),(.st 25),(.st 25),(.st 19),.int,.int,.bool,(.arr (.st 5)),.bool,.int,.bool]⟩
def q5z:Way S:=⟨.ret,⟨L,(N oQ o5 oY),137⟩,[(.arr (.st 5)),(.st 28),(.st 25),.bool,(.arr (.st 5)),(.arr (.st 5)),.bool,.int,(.st 25),(.lst (.st 19)),(.st 28),(.lst (.st 28)),(.lst (.st 28)),(.lst (.st 19)),(.st 21),(.lst (.st 28)),(.st 25),(.st 25),(.st 19),.int,.int,.bool,(.arr (.st 5)),.bool,.int,.bool]⟩
def q5A:Way S:=⟨.ret,⟨L,(N oR o5 oY),137⟩,[(.arr (.st 5)),(.st 28),(.st 25),.bool,(.arr (.st 5)),(.arr (.st 5)),.bool,.int,(.st 25),(.lst (.st 19)),(.st 28),(.lst (.st 28)),(.lst (.st 28)),(.lst (.st 19)),(.st 21),(.lst (.st 28)),(.st 25),(.st 25),(.st 19),.int,.int,.bool,(.arr (.st 5)),.bool,.int,.bool]⟩
def q5B:Way S:=⟨.ret,⟨L,oD,130⟩,[(.arr (.st 5)),(.st 28),(.st 25),.bool,(.arr (.st 5)),(.arr (.st 5)),.bool,.int,(.st 25),(.lst (.st 19)),(.st 28),(.lst (.st 19)),(.st 21),(.lst (.st 28)),(.st 25),(.st 25),(.st 19),.int,.int,.bool,(.arr (.st 5)),.bool,.int,.bool]⟩
def q5C:Way S:=⟨.ret,⟨L,oE,130⟩,[(.arr (.st 5)),(.st 28),(.st 25),.bool,(.arr (.st 5)),(.arr (.st 5)),.bool,.int,(.st 25),(.lst (.st 19)),(.st 28),(.lst (.st 19)),(.st 21),(.lst (.st 28)),(.st 25),(.st 25),(.st 19),.int,.int,.bool,(.arr (.st 5)),.bool,.int,.bool]⟩
def q5D:Way S:=⟨(.exit 0),⟨L,oz,71⟩,[(.arr (.st 5)),(.st 28),(.st 25),.bool,(.arr (.st 5)),.bool,.int,(.st 25),(.lst (.st 19)),(.lst (.st 19)),(.st 21),(.lst (.st 28)),(.st 25),(.st 25),.int,.int,.bool,(.arr (.st 5)),.bool,.int,.bool]⟩
def q5E:LE S:=⟨q4H,q5m,[.int,.int,.int,(.arr (.st 5)),(.st 28),(.st 25),.bool,(.arr (.st 5)),.bool,.int,(.st 25),(.lst (.st 19)),(.lst (.st 19)),(.st 21),(.lst (.st 28)),(.st 25),(.st 25),.int,.int,.bool,(.arr (.st 5)),.bool,.int,.bool],[q5n,q5o,q5p,q5q,q5r,q5s,q5t,q5u,q5v,q5w,q5x,q5y,q5z,q5A,q5B,q5C,q5D]⟩
def q5F (x:tq4):(tq6⊕tq6⊕tqe⊕tqe⊕tq7⊕tq7⊕tqe⊕tqe⊕tq8⊕tq8⊕tqe⊕tqe⊕tqa⊕tqa⊕tqh⊕tqh⊕(Zb×Zc×Bool×Zc×Zc))->tq1:=Sum.elim (fun y0=>(.inl (x.u3,y0.1,y0.2.1,y0.u2,y0.u3,x.u7,y0.u4,x.u9,y0.u5,x.u11,y0.u6,y0.u7,x.u12,x.u13,x.u14,x.u15,y0.u8,y0.u9,x.u17,y0.v10,x.u18,x.u19,x.u20,x.u21,x.u22,x.v23))) (Sum.elim (fun y1=>(.inr (.inl (x.u3,y1.1,y1.2.1,y1.u2,y1.u3,x.u7,y1.u4,x.u9,y1.u5,x.u11,y1.u6,y1.u7,x.u12,x.u13,x.u14,x.u15,y1.u8,y1.u9,x.u17,y1.v10,x.u18,x.u19,x.u20,x.u21,x.u22,x.v23)))) (Sum.elim (fun y2=>(.inr (.inr (.inl (x.u3,y2.1,y2.2.1,y2.u2,y2.u3,x.u7,y2.u4,x.u9,y2.u5,x.u11,y2.u6,x.u12,x.u13,x.u14,x.u15,y2.u7,y2.v8,x.u17,x.u18,x.u19,x.u20,x.u21,x.u22,x.v23))))) (Sum.elim (fun y3=>(.inr (.inr (.inr (.inl (x.u3,y3.1,y3.2.1,y3.u2,y3.u3,x.u7,y3.u4,x.u9,y3.u5,x.u11,y3.u6,x.u12,x.u13,x.u14,x.u15,y3.u7,y3.v8,x.u17,x.u18,x.u19,x.u20,x.u21,x.u22,x.v23)))))) (Sum.elim (fun y4=>(.inr (.inr (.inr (.inr (.inl (x.u3,y4.1,y4.2.1,y4.u2,y4.u3,y4.u4,x.u7,y4.u5,x.u9,y4.u6,x.u11,y4.u7,x.u12,x.u13,x.u14,x.u15,y4.u8,y4.u9,x.u17,x.u18,y4.v10,x.u19,x.u20,x.u21,x.u22,x.v23))))))) (Sum.elim (fun y5=>(.inr (.inr (.inr (.inr (.inr (.inl (x.u3,y5.1,y5.2.1,y5.u2,y5.u3,y5.u4,x.u7,y5.u5,x.u9,y5.u6,x.u11,y5.u7,x.u12,x.u13,x.u14,x.u15,y5.u8,y5.u9,x.u17,x.u18,y5.v10,x.u19,x.u20,x.u21,x.u22,x.v23)))))))) (Sum.elim (fun y6=>(.inr (.inr (.inr (.inr (.inr (.inr (.inl (x.u3,y6.1,y6.2.1,y6.u2,y6.u3,x.u7,y6.u4,x.u9,y6.u5,x.u11,y6.u6,x.u12,x.u13,x.u14,x.u15,y6.u7,y6.v8,x.u17,x.u18,x.u19,x.u20,x.u21,x.u22,x.v23))))))))) (Sum.elim (fun y7=>(.inr (.inr (.inr (.inr (.inr (.inr (.inr (.inl (x.u3,y7.1,y7.2.1,y7.u2,y7.u3,x.u7,y7.u4,x.u9,y7.u5,x.u11,y7.u6,x.u12,x.u13,x.u14,x.u15,y7.u7,y7.v8,x.u17,x.u18,x.u19,x.u20,x.u21,x.u22,x.v23)))))))))) (Sum.elim (fun y8=>(.inr (.inr (.inr (.inr (.inr (.inr (.inr (.inr (.inl (y8.1,x.u3,y8.2.1,y8.u2,y8.u3,y8.u4,x.u7,y8.u5,x.u9,y8.u6,x.u11,y8.u7,x.u12,x.u13,x.u14,x.u15,y8.u8,y8.u9,y8.v10,x.u17,x.u18,x.u19,x.u20,x.u21,x.u22,x.v23))))))))))) (Sum.elim (fun y9=>(.inr (.inr (.inr (.inr (.inr (.inr (.inr (.inr (.inr (.inl (y9.1,x.u3,y9.2.1,y9.u2,y9.u3,y9.u4,x.u7,y9.u5,x.u9,y9.u6,x.u11,y9.u7,x.u12,x.u13,x.u14,x.u15,y9.u8,y9.u9,y9.v10,x.u17,x.u18,x.u19,x.u20,x.u21,x.u22,x.v23)))))))))))) (Sum.elim (fun y10=>(.inr (.inr (.inr (.inr (.inr (.inr (.inr (.inr (.inr (.inr (.inl (x.u3,y10.1,y10.2.1,y10.u2,y10.u3,x.u7,y10.u4,x.u9,y10.u5,x.u11,y10.u6,x.u12,x.u13,x.u14,x.u15,y10.u7,y10.v8,x.u17,x.u18,x.u19,x.u20,x.u21,x.u22,x.v23))))))))))))) (Sum.elim (fun y11=>(.inr (.inr (.inr (.inr (.inr (.inr (.inr (.inr (.inr (.inr (.inr (.inl (x.u3,y11.1,y11.2.1,y11.u2,y11.u3,x.u7,y11.u4,x.u9,y11.u5,x.u11,y11.u6,x.u12,x.u13,x.u14,x.u15,y11.u7,y11.v8,x.u17,x.u18,x.u19,x.u20,x.u21,x.u22,x.v23)))))))))))))) (Sum.elim (fun y12=>(.inr (.inr (.inr (.inr (.inr (.inr (.inr (.inr (.inr (.inr (.inr (.inr (.inl (x.u3,y12.1,y12.2.1,y12.u2,x.u3,x.u7,y12.u3,x.u9,y12.u4,x.u11,y12.u5,y12.u6,y12.u7,x.u12,x.u13,x.u14,x.u15,y12.u8,y12.v9,x.u17,x.u18,x.u19,x.u20,x.u21,x.u22,x.v23))))))))))))))) (Sum.elim (fun y13=>(.inr (.inr (.inr (.inr (.inr (.inr (.inr (.inr (.inr (.inr (.inr (.inr (.inr (.inl (x.u3,y13.1,y13.2.1,y13.u2,x.u3,x.u7,y13.u3,x.u9,y13.u4,x.u11,y13.u5,y13.u6,y13.u7,x.u12,x.u13,x.u14,x.u15,y13.u8,y13.v9,x.u17,x.u18,x.u19,x.u20,x.u21,x.u22,x.v23)))))))))))))))) (Sum.elim (fun y14=>(.inr (.inr (.inr (.inr (.inr (.inr (.inr (.inr (.inr (.inr (.inr (.inr (.inr (.inr (.inl (x.u3,y14.1,y14.2.1,y14.u2,x.u3,x.u7,y14.u3,x.u9,y14.u4,x.u11,y14.u5,x.u12,x.u13,x.u14,x.u15,y14.u6,y14.v7,x.u17,x.u18,x.u19,x.u20,x.u21,x.u22,x.v23))))))))))))))))) (Sum.elim (fun y15=>(.inr (.inr (.inr (.inr (.inr (.inr (.inr (.inr (.inr (.inr (.inr (.inr (.inr (.inr (.inr (.inl (x.u3,y15.1,y15.2.1,y15.u2,x.u3,x.u7,y15.u3,x.u9,y15.u4,x.u11,y15.u5,x.u12,x.u13,x.u14,x.u15,y15.u6,y15.v7,x.u17,x.u18,x.u19,x.u20,x.u21,x.u22,x.v23)))))))))))))))))) (fun y16=>(.inr (.inr (.inr (.inr (.inr (.inr (.inr (.inr (.inr (.inr (.inr (.inr (.inr (.inr (.inr (.inr (x.u3,y16.1,y16.2.1,y16.u2,x.u7,x.u8,x.u9,y16.u3,x.u11,x.u12,x.u13,x.u14,x.u15,y16.v4,x.u17,x.u18,x.u19,x.u20,x.u21,x.u22,x.v23)))))))))))))))))))))))))))))))))
def q5G {R:Type} (x:tq4) (k:tq1->Option R):Option R:=(X1b x.1 x.u3 x.u7 x.u8 x.u9 x.u11 x.u12 x.u13 x.u14 x.u15 x.u17 x.u18 x.u19 x.u20 x.u21 x.u22 x.v23 (x.2.1,x.u2,x.u4,x.u5,x.u6,x.u10,x.u16)).bind (Sum.elim (fun y0=>k (.inl (x.u3,y0.1,y0.2.1,y0.u2,y0.u3,x.u7,y0.u4,x.u9,y0.u5,x.u11,y0.u6,y0.u7,x.u12,x.u13,x.u14,x.u15,y0.u8,y0.u9,x.u17,y0.v10,x.u18,x.u19,x.u20,x.u21,x.u22,x.v23))) (Sum.elim (fun y1=>k (.inr (.inl (x.u3,y1.1,y1.2.1,y1.u2,y1.u3,x.u7,y1.u4,x.u9,y1.u5,x.u11,y1.u6,y1.u7,x.u12,x.u13,x.u14,x.u15,y1.u8,y1.u9,x.u17,y1.v10,x.u18,x.u19,x.u20,x.u21,x.u22,x.v23)))) (Sum.elim (fun y2=>k (.inr (.inr (.inl (x.u3,y2.1,y2.2.1,y2.u2,y2.u3,x.u7,y2.u4,x.u9,y2.u5,x.u11,y2.u6,x.u12,x.u13,x.u14,x.u15,y2.u7,y2.v8,x.u17,x.u18,x.u19,x.u20,x.u21,x.u22,x.v23))))) (Sum.elim (fun y3=>k (.inr (.inr (.inr (.inl (x.u3,y3.1,y3.2.1,y3.u2,y3.u3,x.u7,y3.u4,x.u9,y3.u5,x.u11,y3.u6,x.u12,x.u13,x.u14,x.u15,y3.u7,y3.v8,x.u17,x.u18,x.u19,x.u20,x.u21,x.u22,x.v23)))))) (Sum.elim (fun y4=>k (.inr (.inr (.inr (.inr (.inl (x.u3,y4.1,y4.2.1,y4.u2,y4.u3,y4.u4,x.u7,y4.u5,x.u9,y4.u6,x.u11,y4.u7,x.u12,x.u13,x.u14,x.u15,y4.u8,y4.u9,x.u17,x.u18,y4.v10,x.u19,x.u20,x.u21,x.u22,x.v23))))))) (Sum.elim (fun y5=>k (.inr (.inr (.inr (.inr (.inr (.inl (x.u3,y5.1,y5.2.1,y5.u2,y5.u3,y5.u4,x.u7,y5.u5,x.u9,y5.u6,x.u11,y5.u7,x.u12,x.u13,x.u14,x.u15,y5.u8,y5.u9,x.u17,x.u18,y5.v10,x.u19,x.u20,x.u21,x.u22,x.v23)))))))) (Sum.elim (fun y6=>k (.inr (.inr (.inr (.inr (.inr (.inr (.inl (x.u3,y6.1,y6.2.1,y6.u2,y6.u3,x.u7,y6.u4,x.u9,y6.u5,x.u11,y6.u6,x.u12,x.u13,x.u14,x.u15,y6.u7,y6.v8,x.u17,x.u18,x.u19,x.u20,x.u21,x.u22,x.v23))))))))) (Sum.elim (fun y7=>k (.inr (.inr (.inr (.inr (.inr (.inr (.inr (.inl (x.u3,y7.1,y7.2.1,y7.u2,y7.u3,x.u7,y7.u4,x.u9,y7.u5,x.u11,y7.u6,x.u12,x.u13,x.u14,x.u15,y7.u7,y7.v8,x.u17,x.u18,x.u19,x.u20,x.u21,x.u22,x.v23)))))))))) (Sum.elim (fun y8=>k (.inr (.inr (.inr (.inr (.inr (.inr (.inr (.inr (.inl (y8.1,x.u3,y8.2.1,y8.u2,y8.u3,y8.u4,x.u7,y8.u5,x.u9,y8.u6,x.u11,y8.u7,x.u12,x.u13,x.u14,x.u15,y8.u8,y8.u9,y8.v10,x.u17,x.u18,x.u19,x.u20,x.u21,x.u22,x.v23))))))))))) (Sum.elim (fun y9=>k (.inr (.inr (.inr (.inr (.inr (.inr (.inr (.inr (.inr (.inl (y9.1,x.u3,y9.2.1,y9.u2,y9.u3,y9.u4,x.u7,y9.u5,x.u9,y9.u6,x.u11,y9.u7,x.u12,x.u13,x.u14,x.u15,y9.u8,y9.u9,y9.v10,x.u17,x.u18,x.u19,x.u20,x.u21,x.u22,x.v23)))))))))))) (Sum.elim (fun y10=>k (.inr (.inr (.inr (.inr (.inr (.inr (.inr (.inr (.inr (.inr (.inl (x.u3,y10.1,y10.2.1,y10.u2,y10.u3,x.u7,y10.u4,x.u9,y10.u5,x.u11,y10.u6,x.u12,x.u13,x.u14,x.u15,y10.u7,y10.v8,x.u17,x.u18,x.u19,x.u20,x.u21,x.u22,x.v23))))))))))))) (Sum.elim (fun y11=>k (.inr (.inr (.inr (.inr (.inr (.inr (.inr (.inr (.inr (.inr (.inr (.inl (x.u3,y11.1,y11.2.1,y11.u2,y11.u3,x.u7,y11.u4,x.u9,y11.u5,x.u11,y11.u6,x.u12,x.u13,x.u14,x.u15,y11.u7,y11.v8,x.u17,x.u18,x.u19,x.u20,x.u21,x.u22,x.v23)))))))))))))) (Sum.elim (fun y12=>k (.inr (.inr (.inr (.inr (.inr (.inr (.inr (.inr (.inr (.inr (.inr (.inr (.inl (x.u3,y12.1,y12.2.1,y12.u2,x.u3,x.u7,y12.u3,x.u9,y12.u4,x.u11,y12.u5,y12.u6,y12.u7,x.u12,x.u13,x.u14,x.u15,y12.u8,y12.v9,x.u17,x.u18,x.u19,x.u20,x.u21,x.u22,x.v23))))))))))))))) (Sum.elim (fun y13=>k (.inr (.inr (.inr (.inr (.inr (.inr (.inr (.inr (.inr (.inr (.inr (.inr (.inr (.inl (x.u3,y13.1,y13.2.1,y13.u2,x.u3,x.u7,y13.u3,x.u9,y13.u4,x.u11,y13.u5,y13.u6,y13.u7,x.u12,x.u13,x.u14,x.u15,y13.u8,y13.v9,x.u17,x.u18,x.u19,x.u20,x.u21,x.u22,x.v23)))))))))))))))) (Sum.elim (fun y14=>k (.inr (.inr (.inr (.inr (.inr (.inr (.inr (.inr (.inr (.inr (.inr (.inr (.inr (.inr (.inl (x.u3,y14.1,y14.2.1,y14.u2,x.u3,x.u7,y14.u3,x.u9,y14.u4,x.u11,y14.u5,x.u12,x.u13,x.u14,x.u15,y14.u6,y14.v7,x.u17,x.u18,x.u19,x.u20,x.u21,x.u22,x.v23))))))))))))))))) (Sum.elim (fun y15=>k (.inr (.inr (.inr (.inr (.inr (.inr (.inr (.inr (.inr (.inr (.inr (.inr (.inr (.inr (.inr (.inl (x.u3,y15.1,y15.2.1,y15.u2,x.u3,x.u7,y15.u3,x.u9,y15.u4,x.u11,y15.u5,x.u12,x.u13,x.u14,x.u15,y15.u6,y15.v7,x.u17,x.u18,x.u19,x.u20,x.u21,x.u22,x.v23)))))))))))))))))) (fun y16=>k (.inr (.inr (.inr (.inr (.inr (.inr (.inr (.inr (.inr (.inr (.inr (.inr (.inr (.inr (.inr (.inr (x.u3,y16.1,y16.2.1,y16.u2,x.u7,x.u8,x.u9,y16.u3,x.u11,x.u12,x.u13,x.u14,x.u15,y16.v4,x.u17,x.u18,x.u19,x.u20,x.u21,x.u22,x.v23))))))))))))))))))))))))))))))))))
def q5H (x:tq4) (v:(Int×Int×Zb×Zc×Bool×Zc×Zc)):tq4:=(x.1,v.1,v.2.1,x.u3,v.u2,v.u3,v.u4,x.u7,x.u8,x.u9,v.u5,x.u11,x.u12,x.u13,x.u14,x.u15,v.v6,x.u17,x.u18,x.u19,x.u20,x.u21,x.u22,x.v23)
theorem q5I (x:tq4):LE.step X q5E q4D q5b q4 12 x=W2 x.1 x.u3 x.u7 x.u8 x.u9 x.u11 x.u12 x.u13 x.u14 x.u15 x.u17 x.u18 x.u19 x.u20 x.u21 x.u22 x.v23 x.2.1 x.u2 x.u4 x.u5 x.u6 x.u10 x.u16 (fun w0 w1 w2 w3 w4 w5 w6=>(Sum.inl (x.1,w0,w1,x.u3,w2,w3,w4,x.u7,x.u8,x.u9,w5,x.u11,x.u12,x.u13,x.u14,x.u15,w6,x.u17,x.u18,x.u19,x.u20,x.u21,x.u22,x.v23))) (fun p0 p1 p2 p3 p4 p5 p6 p7 p8 p9 p10=>(Sum.inr (.inl (x.u3,p0,p1,p2,p3,x.u7,p4,x.u9,p5,x.u11,p6,p7,x.u12,x.u13,x.u14,x.u15,p8,p9,x.u17,p10,x.u18,x.u19,x.u20,x.u21,x.u22,x.v23)))) (fun p0 p1 p2 p3 p4 p5 p6 p7 p8 p9 p10=>(Sum.inr (.inr (.inl (x.u3,p0,p1,p2,p3,x.u7,p4,x.u9,p5,x.u11,p6,p7,x.u12,x.u13,x.u14,x.u15,p8,p9,x.u17,p10,x.u18,x.u19,x.u20,x.u21,x.u22,x.v23))))) (fun p0 p1 p2 p3 p4 p5 p6 p7 p8=>(Sum.inr (.inr (.inr (.inl (x.u3,p0,p1,p2,p3,x.u7,p4,x.u9,p5,x.u11,p6,x.u12,x.u13,x.u14,x.u15,p7,p8,x.u17,x.u18,x.u19,x.u20,x.u21,x.u22,x.v23)))))) (fun p0 p1 p2 p3 p4 p5 p6 p7 p8=>(Sum.inr (.inr (.inr (.inr (.inl (x.u3,p0,p1,p2,p3,x.u7,p4,x.u9,p5,x.u11,p6,x.u12,x.u13,x.u14,x.u15,p7,p8,x.u17,x.u18,x.u19,x.u20,x.u21,x.u22,x.v23))))))) (fun p0 p1 p2 p3 p4 p5 p6 p7 p8 p9 p10=>(Sum.inr (.inr (.inr (.inr (.inr (.inl (x.u3,p0,p1,p2,p3,p4,x.u7,p5,x.u9,p6,x.u11,p7,x.u12,x.u13,x.u14,x.u15,p8,p9,x.u17,x.u18,p10,x.u19,x.u20,x.u21,x.u22,x.v23)))))))) (fun p0 p1 p2 p3 p4 p5 p6 p7 p8 p9 p10=>(Sum.inr (.inr (.inr (.inr (.inr (.inr (.inl (x.u3,p0,p1,p2,p3,p4,x.u7,p5,x.u9,p6,x.u11,p7,x.u12,x.u13,x.u14,x.u15,p8,p9,x.u17,x.u18,p10,x.u19,x.u20,x.u21,x.u22,x.v23))))))))) (fun p0 p1 p2 p3 p4 p5 p6 p7 p8=>(Sum.inr (.inr (.inr (.inr (.inr (.inr (.inr (.inl (x.u3,p0,p1,p2,p3,x.u7,p4,x.u9,p5,x.u11,p6,x.u12,x.u13,x.u14,x.u15,p7,p8,x.u17,x.u18,x.u19,x.u20,x.u21,x.u22,x.v23)))))))))) (fun p0 p1 p2 p3 p4 p5 p6 p7 p8=>(Sum.inr (.inr (.inr (.inr (.inr (.inr (.inr (.inr (.inl (x.u3,p0,p1,p2,p3,x.u7,p4,x.u9,p5,x.u11,p6,x.u12,x.u13,x.u14,x.u15,p7,p8,x.u17,x.u18,x.u19,x.u20,x.u21,x.u22,x.v23))))))))))) (fun p0 p1 p2 p3 p4 p5 p6 p7 p8 p9 p10=>(Sum.inr (.inr (.inr (.inr (.inr (.inr (.inr (.inr (.inr (.inl (p0,x.u3,p1,p2,p3,p4,x.u7,p5,x.u9,p6,x.u11,p7,x.u12,x.u13,x.u14,x.u15,p8,p9,p10,x.u17,x.u18,x.u19,x.u20,x.u21,x.u22,x.v23)))))))))))) (fun p0 p1 p2 p3 p4 p5 p6 p7 p8 p9 p10=>(Sum.inr (.inr (.inr (.inr (.inr (.inr (.inr (.inr (.inr (.inr (.inl (p0,x.u3,p1,p2,p3,p4,x.u7,p5,x.u9,p6,x.u11,p7,x.u12,x.u13,x.u14,x.u15,p8,p9,p10,x.u17,x.u18,x.u19,x.u20,x.u21,x.u22,x.v23))))))))))))) (fun p0 p1 p2 p3 p4 p5 p6 p7 p8=>(Sum.inr (.inr (.inr (.inr (.inr (.inr (.inr (.inr (.inr (.inr (.inr (.inl (x.u3,p0,p1,p2,p3,x.u7,p4,x.u9,p5,x.u11,p6,x.u12,x.u13,x.u14,x.u15,p7,p8,x.u17,x.u18,x.u19,x.u20,x.u21,x.u22,x.v23)))))))))))))) (fun p0 p1 p2 p3 p4 p5 p6 p7 p8=>(Sum.inr (.inr (.inr (.inr (.inr (.inr (.inr (.inr (.inr (.inr (.inr (.inr (.inl (x.u3,p0,p1,p2,p3,x.u7,p4,x.u9,p5,x.u11,p6,x.u12,x.u13,x.u14,x.u15,p7,p8,x.u17,x.u18,x.u19,x.u20,x.u21,x.u22,x.v23))))))))))))))) (fun p0 p1 p2 p3 p4 p5 p6 p7 p8 p9=>(Sum.inr (.inr (.inr (.inr (.inr (.inr (.inr (.inr (.inr (.inr (.inr (.inr (.inr (.inl (x.u3,p0,p1,p2,x.u3,x.u7,p3,x.u9,p4,x.u11,p5,p6,p7,x.u12,x.u13,x.u14,x.u15,p8,p9,x.u17,x.u18,x.u19,x.u20,x.u21,x.u22,x.v23)))))))))))))))) (fun p0 p1 p2 p3 p4 p5 p6 p7 p8 p9=>(Sum.inr (.inr (.inr (.inr (.inr (.inr (.inr (.inr (.inr (.inr (.inr (.inr (.inr (.inr (.inl (x.u3,p0,p1,p2,x.u3,x.u7,p3,x.u9,p4,x.u11,p5,p6,p7,x.u12,x.u13,x.u14,x.u15,p8,p9,x.u17,x.u18,x.u19,x.u20,x.u21,x.u22,x.v23))))))))))))))))) (fun p0 p1 p2 p3 p4 p5 p6 p7=>(Sum.inr (.inr (.inr (.inr (.inr (.inr (.inr (.inr (.inr (.inr (.inr (.inr (.inr (.inr (.inr (.inl (x.u3,p0,p1,p2,x.u3,x.u7,p3,x.u9,p4,x.u11,p5,x.u12,x.u13,x.u14,x.u15,p6,p7,x.u17,x.u18,x.u19,x.u20,x.u21,x.u22,x.v23)))))))))))))))))) (fun p0 p1 p2 p3 p4 p5 p6 p7=>(Sum.inr (.inr (.inr (.inr (.inr (.inr (.inr (.inr (.inr (.inr (.inr (.inr (.inr (.inr (.inr (.inr (.inl (x.u3,p0,p1,p2,x.u3,x.u7,p3,x.u9,p4,x.u11,p5,x.u12,x.u13,x.u14,x.u15,p6,p7,x.u17,x.u18,x.u19,x.u20,x.u21,x.u22,x.v23))))))))))))))))))) (fun p0 p1 p2 p3 p4=>(Sum.inr (.inr (.inr (.inr (.inr (.inr (.inr (.inr (.inr (.inr (.inr (.inr (.inr (.inr (.inr (.inr (.inr (x.u3,p0,p1,p2,x.u7,x.u8,x.u9,p3,x.u11,x.u12,x.u13,x.u14,x.u15,p4,x.u17,x.u18,x.u19,x.u20,x.u21,x.u22,x.v23))))))))))))))))))):=by kernel_rfl
theorem q5K {R:Type} (x:tq4) (k:tq1->Option R) (r:R) (h:q5G x k=some r):∃o,Z6b (LE.step X q5E q4D q5b q4 12) x o/\k o=some r:=by
 obtain⟨o,h1,h2⟩:=Z0 h;exact⟨q5F x o,Zk9 (st:=fun(x:tq4)=>Wg x.1 x.u3 x.u7 x.u8 x.u9 x.u11 x.u12 x.u13 x.u14 x.u15 x.u17 x.u18 x.u19 x.u20 x.u21 x.u22 x.v23) (prj:=fun x=>(x.2.1,x.u2,x.u4,x.u5,x.u6,x.u10,x.u16)) (emb:=q5H) (embO:=q5F) (fun x=>(q5I x).trans (by unfold Wg W2 X0;simp only[Zk0,ZjR,Zk1,Option.map_some,Option.map_none];rfl)) (fun _ _=>rfl) (fun _ _=>rfl) (fun _ _ _=>rfl) (fun _ _ _=>rfl) (fun _=>rfl) (Z29.1 h1),by first|exact h2|(rcases o with o|o|o|o|o|o|o|o|o|o|o|o|o|o|o|o|o<;>exact h2)⟩
def q5L {R:Type}:Z2K S R:=LE.ls X q5E q5G q4
theorem q5M {R:Type}:Z4g X (q5L (R:=R)):=Zkd xok q4E (e:=q5E) q5c q5 q5K q5
theorem q5N (x:((Nat->Y2)×Int×Zc×Bool×Zc×Zc)):PE.step X q5g q4D q5b q5L 12 x=XP x.1 x.2.1 x.u2 x.u3 x.u4 x.v5:=by kernel_rfl
theorem q5O:ZcD X q5g XM:=Zke (ZjE xok q4E q5c q5M 12) fun x _ h=>((q5N x).trans (X1A x).symm).trans h
def q5P {R:Type}:Prs S R:=PE.ps X q5g (fun x q=>(XM x).bind q) q5b
theorem q5Q {R:Type}:Z93 X (q5P (R:=R)):=Zk6 (e:=q5g) q5O q5c
def q5R:StT S:=⟨(N (N L (some (.ptr 1 0)) L) (some (.yld 3)) L),(N (N (N L o3 L) og L) on (N L og L)),4⟩
def q5S:Way S:=⟨.ret,⟨(N L (some (.tup [])) L),(N (N (N L o3 L) og L) on (N L og L)),4⟩,[(.st 25),(.st 25),.bool,(.st 25)]⟩
def q5T:Way S:=⟨.ret,⟨(N L (some (.tup [])) L),(N (N (N L (some (.loop 60 (N (N L (some (.ptr 2 0)) L) (some (.agg [(.stc 25 (T.dflt 25))])) (N (N L (some (.fn (.func 125) [] [(.ptr 1 0)])) L) (some (.ptr 0 0)) L)) (5::[]) .skip .skip 0 .ret (0::(60::[])) (0::(1::(0::(1::[])))))) L) og L) on (N L og L)),4⟩,[(.st 25),(.st 25),.bool,(.st 25)]⟩
def q5U:PE S:=⟨125,2,q5R,[(.st 25),(.st 25),.bool,(.st 25)],[q5S,q5T]⟩
def q5Z:Key:=⟨[125],125,none,[0,0,1,0,1,1],0,11⟩
def q60:StT S:=⟨(N (N (N L (some (.ptr 5 0)) (N L vx L)) (some (.ptr 1 0)) (N (N L vu L) none L)) none (N L (some (.ptr 4 0)) (N (N L vx L) none L))),o1f,11⟩
def q61:Way S:=⟨(.exit 0),⟨(N (N (N L (some (.ptr 5 0)) L) (some (.ptr 1 0)) L) none (N L (some (.ptr 4 0)) L)),o1f,12⟩,[(.st 25),(.st 25),(.arr (.st 5)),.bool,(.st 25)]⟩
def q62:LE S:=⟨q5Z,q60,[.int,(.lst (.st 19)),.int,(.st 25),(.st 25),(.arr (.st 5)),.bool,(.st 25)],[q61]⟩
def q63 (x:tqj):(Nat->Y2)->tqp:=fun y0=>(x.u3,x.u4,y0,x.u6,x.v7)
def q64 {R:Type} (x:tqj) (k:tqp->Option R):Option R:=(XO x.2.1 x.u2 x.u3 x.u4 x.u6 x.v7 (x.1,x.u5)).bind (fun y0=>k (x.u3,x.u4,y0,x.u6,x.v7))
def q65 (x:tqj) (v:(Int×(Nat->Y2))):tqj:=(v.1,x.2.1,x.u2,x.u3,x.u4,v.2,x.u6,x.v7)
theorem q66 (x:tqj):LE.step X q62 q4D q2I q4 12 x=Xi x.2.1 x.u2 x.u3 x.u4 x.u6 x.v7 x.1 x.u5 (fun w0 w1=>(Sum.inl (w0,x.2.1,x.u2,x.u3,x.u4,w1,x.u6,x.v7))) (fun p0=>(Sum.inr (x.u3,x.u4,p0,x.u6,x.v7))):=by kernel_rfl
theorem q68 {R:Type} (x:tqj) (k:tqp->Option R) (r:R) (h:q64 x k=some r):∃o,Z6b (LE.step X q62 q4D q2I q4 12) x o/\k o=some r:=by
 obtain⟨o,h1,h2⟩:=Z0 h;exact⟨q63 x o,Zk9 (st:=fun(x:tqj)=>X9 x.2.1 x.u2 x.u3 x.u4 x.u6 x.v7) (prj:=fun x=>(x.1,x.u5)) (emb:=q65) (embO:=q63) (fun x=>(q66 x).trans (by unfold X9 Xi;simp only[Zk0,ZjR,Zk1,Option.map_some,Option.map_none];rfl)) (fun _ _=>rfl) (fun _ _=>rfl) (fun _ _ _=>rfl) (fun _ _ _=>rfl) (fun _=>rfl) (Z29.1 h1),by first|exact h2|(rcases o with o<;>exact h2)⟩
def q69 {R:Type}:Z2K S R:=LE.ls X q62 q64 q4
theorem q6a {R:Type}:Z4g X (q69 (R:=R)):=Zkd xok q4E (e:=q62) q2J q5 q68 q5
theorem q6b (x:(Zc×Zc×Bool×Zc)):PE.step X q5U q4D q5P q69 12 x=XB x.1 x.2.1 x.u2 x.v3:=by kernel_rfl
theorem q6c:ZcD X q5U Wr:=Zke (ZjE xok q4E q5Q q6a 12) fun x _ h=>((q6b x).trans (X21 x).symm).trans h
def q6d {R:Type}:Prs S R:=PE.ps X q5U (fun x q=>(Wr x).bind q) q5P
theorem q6e {R:Type}:Z93 X (q6d (R:=R)):=Zk6 (e:=q5U) q6c q5Q
theorem q6g:ZaF X (q4D):=⟨q4y,trivial⟩
theorem q6j (x0:Zc):Zkf X q4D [(.st 25)] [.bool] q6d q4 12 60 (x0,())=W6 x0:=by kernel_rfl
def q6k:F7 S:=⟨[(.st 25)],[.bool],fun xs=>XX xs.1⟩
theorem q6l:Zau X 60 q6k:=Zkc (Zkb xok q6g q6e q5 12 60) fun xs _ h=>((q6j xs.1).trans (X2R xs.1).symm).trans h
theorem q6q (x0:Zc) (x1:List Zr):Zkf X q2 [(.st 25),(.sl (.st 21))] [(.st 25)] q6d q4 12 108 (x0,x1,())=Wk x0 x1:=by kernel_rfl
def q6r:F7 S:=⟨[(.st 25),(.sl (.st 21))],[(.st 25)],fun xs=>X1T xs.1 xs.2.1⟩
theorem q6s:Zau X 108 q6r:=Zkc (Zkb xok q3 q6e q5 12 108) fun xs _ h=>((q6q xs.1 xs.2.1).trans (X30 xs.1 xs.2.1).symm).trans h
theorem q6x (x0:Int):Zkf X q2 [(.int .u32)] [(.int .i64)] q6d q4 12 165 (x0,())=X1v x0:=by kernel_rfl
def q6y:F7 S:=⟨[(.int .u32)],[(.int .i64)],fun xs=>X43 xs.1⟩
theorem q6z:Zau X 165 q6y:=Zkc (Zkb xok q3 q6e q5 12 165) fun xs _ h=>((q6x xs.1).trans (X4R xs.1).symm).trans h
theorem q6E (x0:Int):Zkf X q2 [(.int .u64)] [(.int .i64)] q6d q4 12 166 (x0,())=X1w x0:=by kernel_rfl
def q6F:F7 S:=⟨[(.int .u64)],[(.int .i64)],fun xs=>X44 xs.1⟩
theorem q6G:Zau X 166 q6F:=Zkc (Zkb xok q3 q6e q5 12 166) fun xs _ h=>((q6E xs.1).trans (X4S xs.1).symm).trans h
def q6H:List (Nat×F7 S):=[(165,q6y),(166,q6F)]
theorem q6I:ZaF X (q6H):=⟨q6z,q6G,trivial⟩
theorem q6L (x0:Int):Zkf X q6H [(.int .u64)] [(.int .i64)] q6d q4 12 140 (x0,())=X2a x0:=by kernel_rfl
def q6M:F7 S:=⟨[(.int .u64)],[(.int .i64)],fun xs=>X4I xs.1⟩
theorem q6N:Zau X 140 q6M:=Zkc (Zkb xok q6I q6e q5 12 140) fun xs _ h=>((q6L xs.1).trans (X5d xs.1).symm).trans h
theorem q6S (x0:Int):Zkf X q2 [(.int .i64)] [.bool] q6d q4 12 142 (x0,())=X4F x0:=by kernel_rfl
def q6T:F7 S:=⟨[(.int .i64)],[.bool],fun xs=>X4F xs.1⟩
theorem q6U:Zau X 142 q6T:=Zkc (Zkb xok q3 q6e q5 12 142) fun xs _ h=>(q6S xs.1).trans h
def q6V:List (Nat×F7 S):=[(142,q6T)]
theorem q6W:ZaF X (q6V):=⟨q6U,trivial⟩
theorem q6Z (x0 x1:Int):Zkf X q6V [(.int .i64),(.int .i64)] [.bool] q6d q4 12 162 (x0,x1,())=X2l x0 x1:=by kernel_rfl
def q70:F7 S:=⟨[(.int .i64),(.int .i64)],[.bool],fun xs=>X4W xs.1 xs.2.1⟩
theorem q71:Zau X 162 q70:=Zkc (Zkb xok q6W q6e q5 12 162) fun xs _ h=>((q6Z xs.1 xs.2.1).trans (X5p xs.1 xs.2.1).symm).trans h
def q72:List (Nat×F7 S):=[(162,q70)]
theorem q73:ZaF X (q72):=⟨q71,trivial⟩
theorem q76 (x0:List Int) (x1 x2:Int):Zkf X q72 [(.sl (.int .i64)),(.int .i64),(.int .i64)] [] q6d q4 12 156 (x0,x1,x2,())=Xy x0 x1 x2:=by kernel_rfl
def q77:F7 S:=⟨[(.sl (.int .i64)),(.int .i64),(.int .i64)],[],fun xs=>X1t xs.1 xs.2.1 xs.u2⟩
theorem q78:Zau X 156 q77:=Zkc (Zkb xok q73 q6e q5 12 156) fun xs _ h=>((q76 xs.1 xs.2.1 xs.u2).trans (X2H xs.1 xs.2.1 xs.u2).symm).trans h
theorem q7d (x0:List Int) (x1 x2 x3:Int):Zkf X q72 [(.sl (.int .i64)),(.int .i64),(.int .i64),(.int .i64)] [] q6d q4 12 183 (x0,x1,x2,x3,())=XV x0 x1 x2 x3:=by kernel_rfl
def q7e:F7 S:=⟨[(.sl (.int .i64)),(.int .i64),(.int .i64),(.int .i64)],[],fun xs=>X2k xs.1 xs.2.1 xs.u2 xs.u3⟩
theorem q7f:Zau X 183 q7e:=Zkc (Zkb xok q73 q6e q5 12 183) fun xs _ h=>((q7d xs.1 xs.2.1 xs.u2 xs.u3).trans (X3d xs.1 xs.2.1 xs.u2 xs.u3).symm).trans h
def q7g:List (Nat×F7 S):=[(183,q7e)]
theorem q7h:ZaF X (q7g):=⟨q7f,trivial⟩
theorem q7k (x0:List Int) (x1 x2:Int):Zkf X q7g [(.sl (.int .i64)),(.int .i64),(.int .i64)] [] q6d q4 12 157 (x0,x1,x2,())=XU x0 x1 x2:=by kernel_rfl
def q7l:F7 S:=⟨[(.sl (.int .i64)),(.int .i64),(.int .i64)],[],fun xs=>X2j xs.1 xs.2.1 xs.u2⟩
theorem q7m:Zau X 157 q7l:=Zkc (Zkb xok q7h q6e q5 12 157) fun xs _ h=>((q7k xs.1 xs.2.1 xs.u2).trans (X3c xs.1 xs.2.1 xs.u2).symm).trans h
def q7n:List (Nat×F7 S):=[(140,q6M)]
theorem q7o:ZaF X (q7n):=⟨q6N,trivial⟩
theorem q7r (x0:Int):Zkf X q7n [(.int .i64)] [(.int .u64)] q6d q4 12 184 (x0,())=Ws x0:=by kernel_rfl
def q7s:F7 S:=⟨[(.int .i64)],[(.int .u64)],fun xs=>X32 xs.1⟩
theorem q7t:Zau X 184 q7s:=Zkc (Zkb xok q7o q6e q5 12 184) fun xs _ h=>((q7r xs.1).trans (X3O xs.1).symm).trans h
def q7u:List (Nat×F7 S):=[(184,q7s)]
theorem q7v:ZaF X (q7u):=⟨q7t,trivial⟩
theorem q7y (x0:List Int) (x1 x2:Int):Zkf X q7u [(.sl (.int .i64)),(.int .i64),(.int .i64)] [] q6d q4 12 158 (x0,x1,x2,())=Xx x0 x1 x2:=by kernel_rfl
def q7z:F7 S:=⟨[(.sl (.int .i64)),(.int .i64),(.int .i64)],[],fun xs=>X1s xs.1 xs.2.1 xs.u2⟩
theorem q7A:Zau X 158 q7z:=Zkc (Zkb xok q7v q6e q5 12 158) fun xs _ h=>((q7y xs.1 xs.2.1 xs.u2).trans (X2G xs.1 xs.2.1 xs.u2).symm).trans h
theorem q7F (x0:List Int) (x1 x2:Int):Zkf X q72 [(.sl (.int .i64)),(.int .i64),(.int .i64)] [(.int .i64),(.int .i64)] q6d q4 12 159 (x0,x1,x2,())=XI x0 x1 x2:=by kernel_rfl
def q7G:F7 S:=⟨[(.sl (.int .i64)),(.int .i64),(.int .i64)],[(.int .i64),(.int .i64)],fun xs=>X1M xs.1 xs.2.1 xs.u2⟩
theorem q7H:Zau X 159 q7G:=Zkc (Zkb xok q73 q6e q5 12 159) fun xs _ h=>((q7F xs.1 xs.2.1 xs.u2).trans (X2X xs.1 xs.2.1 xs.u2).symm).trans h
theorem q7M (x0:List Int) (x1 x2:Int):Zkf X q2 [(.sl (.int .i64)),(.int .i64),(.int .i64)] [] q6d q4 12 160 (x0,x1,x2,())=XD x0 x1 x2:=by kernel_rfl
def q7N:F7 S:=⟨[(.sl (.int .i64)),(.int .i64),(.int .i64)],[],fun xs=>X1G xs.1 xs.2.1 xs.u2⟩
theorem q7O:Zau X 160 q7N:=Zkc (Zkb xok q3 q6e q5 12 160) fun xs _ h=>((q7M xs.1 xs.2.1 xs.u2).trans (X2P xs.1 xs.2.1 xs.u2).symm).trans h
theorem q7T (x0:List Int) (x1 x2:Int):Zkf X q72 [(.sl (.int .i64)),(.int .i64),(.int .i64)] [.bool] q6d q4 12 161 (x0,x1,x2,())=Xa x0 x1 x2:=by kernel_rfl
def q7U:F7 S:=⟨[(.sl (.int .i64)),(.int .i64),(.int .i64)],[.bool],fun xs=>WH xs.1 xs.2.1 xs.u2⟩
theorem q7V:Zau X 161 q7U:=Zkc (Zkb xok q73 q6e q5 12 161) fun xs _ h=>((q7T xs.1 xs.2.1 xs.u2).trans (X26 xs.1 xs.2.1 xs.u2).symm).trans h
theorem q80 (x0:List Int) (x1 x2 x3:Int):Zkf X q72 [(.sl (.int .i64)),(.int .i64),(.int .i64),(.int .i64)] [(.int .i64)] q6d q4 12 163 (x0,x1,x2,x3,())=Xm x0 x1 x2 x3:=by kernel_rfl
def q81:F7 S:=⟨[(.sl (.int .i64)),(.int .i64),(.int .i64),(.int .i64)],[(.int .i64)],fun xs=>X1p xs.1 xs.2.1 xs.u2 xs.u3⟩
theorem q82:Zau X 163 q81:=Zkc (Zkb xok q73 q6e q5 12 163) fun xs _ h=>((q80 xs.1 xs.2.1 xs.u2 xs.u3).trans (X2z xs.1 xs.2.1 xs.u2 xs.u3).symm).trans h
theorem q87 (x0:List Int) (x1 x2 x3:Int):Zkf X q72 [(.sl (.int .i64)),(.int .i64),(.int .i64),(.int .i64)] [(.int .i64),.bool] q6d q4 12 164 (x0,x1,x2,x3,())=XQ x0 x1 x2 x3:=by kernel_rfl
def q88:F7 S:=⟨[(.sl (.int .i64)),(.int .i64),(.int .i64),(.int .i64)],[(.int .i64),.bool],fun xs=>X2c xs.1 xs.2.1 xs.u2 xs.u3⟩
theorem q89:Zau X 164 q88:=Zkc (Zkb xok q73 q6e q5 12 164) fun xs _ h=>((q87 xs.1 xs.2.1 xs.u2 xs.u3).trans (X35 xs.1 xs.2.1 xs.u2 xs.u3).symm).trans h
def q8a (ih:tqJ->Option (Unit)):List (Nat×F7 S):=[(156,q77),(157,q7l),(158,q7z),(159,q7G),(160,q7N),(161,q7U),(162,q70),(163,q81),(164,q88),(139,⟨[(.sl (.int .i64)),(.int .i64),(.int .i64),(.int .i64)],[],ih⟩)]
theorem q8b (ih:tqJ->Option (Unit)) (hih:Zau X 139 ⟨[(.sl (.int .i64)),(.int .i64),(.int .i64),(.int .i64)],[],ih⟩):ZaF X (q8a ih):=⟨q78,q7m,q7A,q7H,q7O,q7V,q71,q82,q89,hih,trivial⟩
abbrev q8c (ih:tqJ->Option (Unit)) {R:Type}:Z2K S R:=ZiZ
theorem q8d (ih:tqJ->Option (Unit)) (hih:Zau X 139 ⟨[(.sl (.int .i64)),(.int .i64),(.int .i64),(.int .i64)],[],ih⟩) {R:Type}:Z4g X (q8c ih (R:=R)):=ZjA X
theorem q8e (ih:tqJ->Option (Unit)) (x0:List Int) (x1 x2 x3:Int):Zkf X (q8a ih) [(.sl (.int .i64)),(.int .i64),(.int .i64),(.int .i64)] [] q6d (q8c ih) 12 139 (x0,x1,x2,x3,())=X1O ih x0 x1 x2 x3:=by kernel_rfl
def q8f:F7 S:=⟨[(.sl (.int .i64)),(.int .i64),(.int .i64),(.int .i64)],[],fun xs=>X3C xs.1 xs.2.1 xs.u2 xs.u3⟩
theorem q8g:Zau X 139 q8f:=ZkR (X:=X) (g:=139) (pts:=[(.sl (.int .i64)),(.int .i64),(.int .i64),(.int .i64)]) (rts:=[]) (t:=X1P) fun ih hih=>Zkc (Zkb xok (q8b ih hih) q6e (q8d ih hih) 12 139) fun xs _ h=>(q8e ih xs.1 xs.2.1 xs.u2 xs.u3).trans h
def q8h:List (Nat×F7 S):=[(108,q6r),(60,q6k),(140,q6M),(139,q8f)]
theorem q8i:ZaF X (q8h):=⟨q6s,q6l,q6N,q8g,trivial⟩
def q8l:Key:=⟨[61],61,none,[0,0,1,0,1,1],0,12⟩
def q8m:StT S:=⟨(N (N (N (N L (some (.map 2)) L) (some (.ptr 0 0)) L) vx v1n) none (N L vx (N (N (N L vx L) none L) (some .nils) L))),o1b,12⟩
def q8n:Way S:=⟨(.exit 0),⟨(N (N (N (N L (some (.map 2)) L) none L) none L) none (N L none (N L (some .nils) L))),o1b,13⟩,[(.st 25),(.mp (.int .i64) (.int .i64))]⟩
def q8o:LE S:=⟨q8l,q8m,[.int,.int,.int,.int,(.st 25),(.mp (.int .i64) (.int .i64))],[q8n]⟩
def q8p (x:tqu):(List (Int×Int))->(Zc×(List (Int×Int))):=fun y0=>(x.u4,y0)
def q8q {R:Type} (x:tqu) (k:(Zc×(List (Int×Int)))->Option R):Option R:=(X10 x.1 x.2.1 x.u2 x.u4 (x.u3,x.v5)).bind (fun y0=>k (x.u4,y0))
def q8r (x:tqu) (v:(Int×(List (Int×Int)))):tqu:=(x.1,x.2.1,x.u2,v.1,x.u4,v.2)
theorem q8s (x:tqu):LE.step X q8o q8h q6d q4 12 x=XH x.1 x.2.1 x.u2 x.u4 x.u3 x.v5 (fun w0 w1=>(Sum.inl (x.1,x.2.1,x.u2,w0,x.u4,w1))) (fun p0=>(Sum.inr (x.u4,p0))):=by kernel_rfl
theorem q8u {R:Type} (x:tqu) (k:(Zc×(List (Int×Int)))->Option R) (r:R) (h:q8q x k=some r):∃o,Z6b (LE.step X q8o q8h q6d q4 12) x o/\k o=some r:=by
 obtain⟨o,h1,h2⟩:=Z0 h;exact⟨q8p x o,Zk9 (st:=fun(x:tqu)=>Xu x.1 x.2.1 x.u2 x.u4) (prj:=fun x=>(x.u3,x.v5)) (emb:=q8r) (embO:=q8p) (fun x=>(q8s x).trans (by unfold Xu XH;simp only[Zk0,ZjR,Zk1,Option.map_some,Option.map_none];rfl)) (fun _ _=>rfl) (fun _ _=>rfl) (fun _ _ _=>rfl) (fun _ _ _=>rfl) (fun _=>rfl) (Z29.1 h1),by first|exact h2|(rcases o with o<;>exact h2)⟩
def q8v {R:Type}:Z2K S R:=LE.ls X q8o q8q q4
theorem q8w {R:Type}:Z4g X (q8v (R:=R)):=Zkd xok q8i (e:=q8o) q6e q5 q8u q5
theorem q8x (x0:Zc) (x1 x2:Int):Zkf X q8h [(.st 25),(.int .i64),(.int .i64)] [(.sl (.int .i64))] q6d q8v 12 61 (x0,x1,x2,())=W1 x0 x1 x2:=by kernel_rfl
def q8y:F7 S:=⟨[(.st 25),(.int .i64),(.int .i64)],[(.sl (.int .i64))],fun xs=>X1i xs.1 xs.2.1 xs.u2⟩
theorem q8z:Zau X 61 q8y:=Zkc (Zkb xok q8i q6e q8w 12 61) fun xs _ h=>((q8x xs.1 xs.2.1 xs.u2).trans (X2M xs.1 xs.2.1 xs.u2).symm).trans h
def q8A:List (Nat×F7 S):=[(58,q2W),(59,qk),(60,q6k),(61,q8y)]
theorem q8B:ZaF X (q8A):=⟨q2X,ql,q6l,q8z,trivial⟩
theorem q8E (x0:CoRecord) (x1:List Zr) (x2 x3:Int):Zkf X q8A [(.st 20),(.sl (.st 21)),(.int .i64),(.int .i64)] [(.sl (.int .i64)),(.int .i64)] q6d q4 12 16 (x0,x1,x2,x3,())=X1x x0 x1 x2 x3:=by kernel_rfl
def q8F:F7 S:=⟨[(.st 20),(.sl (.st 21)),(.int .i64),(.int .i64)],[(.sl (.int .i64)),(.int .i64)],fun xs=>X3h xs.1 xs.2.1 xs.u2 xs.u3⟩
theorem q8G:Zau X 16 q8F:=Zkc (Zkb xok q8B q6e q5 12 16) fun xs _ h=>((q8E xs.1 xs.2.1 xs.u2 xs.u3).trans (X41 xs.1 xs.2.1 xs.u2 xs.u3).symm).trans h
theorem q8L (x0 x1 x2:Int):Zkf X q2 [(.int .i64),(.int .i64),(.int .i64)] [.bool] q6d q4 12 62 (x0,x1,x2,())=X2V x0 x1 x2:=by kernel_rfl
def q8M:F7 S:=⟨[(.int .i64),(.int .i64),(.int .i64)],[.bool],fun xs=>X2h xs.1 xs.2.1 xs.u2⟩
theorem q8N:Zau X 62 q8M:=Zkc (Zkb xok q3 q6e q5 12 62) fun xs _ h=>((q8L xs.1 xs.2.1 xs.u2).trans (X5l xs.1 xs.2.1 xs.u2).symm).trans h
theorem q8S (x0 x1 x2:Int):Zkf X q2 [(.int .i64),(.int .i64),(.int .i64)] [.bool] q6d q4 12 121 (x0,x1,x2,())=X3v x0 x1 x2:=by kernel_rfl
def q8T:F7 S:=⟨[(.int .i64),(.int .i64),(.int .i64)],[.bool],fun xs=>X3v xs.1 xs.2.1 xs.u2⟩
theorem q8U:Zau X 121 q8T:=Zkc (Zkb xok q3 q6e q5 12 121) fun xs _ h=>(q8S xs.1 xs.2.1 xs.u2).trans h
def q8V:List (Nat×F7 S):=[(121,q8T)]
theorem q8W:ZaF X (q8V):=⟨q8U,trivial⟩
def q8Z:Key:=⟨[131],131,none,[0,0,1,0,1,1],0,6⟩
def q90:StT S:=⟨(N (N (N L vx L) none L) vs L),L,6⟩
def q91:Way S:=⟨.ret,⟨(N L none (N L vy L)),L,43⟩,[.bool]⟩
def q92:Way S:=⟨(.exit 0),⟨L,L,10⟩,[]⟩
def q93:LE S:=⟨q8Z,q90,[.int,.str],[q91,q92]⟩
def q94 (x:(Int×ByteArray)):(Bool⊕Unit)->(Bool⊕Unit):=Sum.elim (fun y0=>(.inl y0)) (fun y1=>(.inr ()))
def q95 {R:Type} (x:(Int×ByteArray)) (k:(Bool⊕Unit)->Option R):Option R:=(X3I x.2 x.1).bind (Sum.elim (fun y0=>k (.inl y0)) (fun y1=>k (.inr ())))
def q96 (x:(Int×ByteArray)) (v:Int):(Int×ByteArray):=(v,x.2)
theorem q97 (x:(Int×ByteArray)):LE.step X q93 q8V q6d q4 12 x=X1d x.2 x.1 (fun w0=>(Sum.inl (w0,x.2))) (fun p0=>(Sum.inr (.inl p0))) (Sum.inr (.inr ())):=by kernel_rfl
theorem q99 {R:Type} (x:(Int×ByteArray)) (k:(Bool⊕Unit)->Option R) (r:R) (h:q95 x k=some r):∃o,Z6b (LE.step X q93 q8V q6d q4 12) x o/\k o=some r:=by
 obtain⟨o,h1,h2⟩:=Z0 h;exact⟨q94 x o,Zk9 (st:=fun(x:(Int×ByteArray))=>X17 x.2) (prj:=fun x=>x.1) (emb:=q96) (embO:=q94) (fun x=>(q97 x).trans (by unfold X17 X1d;simp only[Zk0,ZjR,Zk1,Option.map_some,Option.map_none];rfl)) (fun _ _=>rfl) (fun _ _=>rfl) (fun _ _ _=>rfl) (fun _ _ _=>rfl) (fun _=>rfl) (Z29.1 h1),by first|exact h2|(rcases o with o|o<;>exact h2)⟩
def q9a {R:Type}:Z2K S R:=LE.ls X q93 q95 q4
theorem q9b {R:Type}:Z4g X (q9a (R:=R)):=Zkd xok q8W (e:=q93) q6e q5 q99 q5
theorem q9c (x0:ByteArray):Zkf X q8V [.str] [.bool] q6d q9a 12 131 (x0,())=X3u x0:=by kernel_rfl
def q9d:F7 S:=⟨[.str],[.bool],fun xs=>X3u xs.1⟩
theorem q9e:Zau X 131 q9d:=Zkc (Zkb xok q8W q6e q9b 12 131) fun xs _ h=>(q9c xs.1).trans h
def q9j:Key:=⟨[132],132,none,[0,0,1,0,1],0,2⟩
def q9k:StT S:=⟨(N (N L vs (N L vx L)) (some (.sl .str [])) L),L,2⟩
def q9l:Way S:=⟨.ret,⟨v1o,L,14⟩,[.int]⟩
def q9m:Way S:=⟨(.exit 0),⟨L,L,6⟩,[]⟩
def q9n:LE S:=⟨q9j,q9k,[.str,.int,(.lst .str)],[q9l,q9m]⟩
def q9o (x:tqM):(Int⊕Unit)->(Int⊕Unit):=Sum.elim (fun y0=>(.inl y0)) (fun y1=>(.inr ()))
def q9p {R:Type} (x:tqM) (k:(Int⊕Unit)->Option R):Option R:=(X2D x.1 x.v2 x.2.1).bind (Sum.elim (fun y0=>k (.inl y0)) (fun y1=>k (.inr ())))
def q9q (x:tqM) (v:Int):tqM:=(x.1,v,x.v2)
theorem q9r (x:tqM):LE.step X q9n q2 q6d q4 12 x=WP x.1 x.v2 x.2.1 (fun w0=>(Sum.inl (x.1,w0,x.v2))) (fun p0=>(Sum.inr (.inl p0))) (Sum.inr (.inr ())):=by kernel_rfl
theorem q9t {R:Type} (x:tqM) (k:(Int⊕Unit)->Option R) (r:R) (h:q9p x k=some r):∃o,Z6b (LE.step X q9n q2 q6d q4 12) x o/\k o=some r:=by
 obtain⟨o,h1,h2⟩:=Z0 h;exact⟨q9o x o,Zk9 (st:=fun(x:tqM)=>Wl x.1 x.v2) (prj:=fun x=>x.2.1) (emb:=q9q) (embO:=q9o) (fun x=>(q9r x).trans (by unfold Wl WP;simp only[Zk0,ZjR,Zk1,Option.map_some,Option.map_none];rfl)) (fun _ _=>rfl) (fun _ _=>rfl) (fun _ _ _=>rfl) (fun _ _ _=>rfl) (fun _=>rfl) (Z29.1 h1),by first|exact h2|(rcases o with o|o<;>exact h2)⟩
def q9u {R:Type}:Z2K S R:=LE.ls X q9n q9p q4
theorem q9v {R:Type}:Z4g X (q9u (R:=R)):=Zkd xok q3 (e:=q9n) q6e q5 q9t q5
theorem q9w (x0:List ByteArray) (x1:ByteArray):Zkf X q2 [(.sl .str),.str] [(.int .i64)] q6d q9u 12 132 (x0,x1,())=X3J x0 x1:=by kernel_rfl
def q9x:F7 S:=⟨[(.sl .str),.str],[(.int .i64)],fun xs=>X3J xs.1 xs.2.1⟩
theorem q9y:Zau X 132 q9x:=Zkc (Zkb xok q3 q6e q9v 12 132) fun xs _ h=>(q9w xs.1 xs.2.1).trans h
def q9z:List (Nat×F7 S):=[(131,q9d),(132,q9x)]
theorem q9A:ZaF X (q9z):=⟨q9e,q9y,trivial⟩
theorem q9D (x0:ByteArray) (x1:List ByteArray):Zkf X q9z [.str,(.sl .str)] [(.int .i64)] q6d q4 12 99 (x0,x1,())=X3b x0 x1:=by kernel_rfl
def q9E:F7 S:=⟨[.str,(.sl .str)],[(.int .i64)],fun xs=>X3b xs.1 xs.2.1⟩
theorem q9F:Zau X 99 q9E:=Zkc (Zkb xok q9A q6e q5 12 99) fun xs _ h=>(q9D xs.1 xs.2.1).trans h
def q9K:Key:=⟨[155],155,none,[0,0,1,0,1,1],0,3⟩
def q9L:StT S:=⟨(N (N (N (N L vx L) none L) vx L) (some (.sl (.st 5) [])) (N (N (N L vx L) none L) vx L)),L,3⟩
def q9M:Way S:=⟨.ret,⟨(N L none (N L none (N L vx L))),L,28⟩,[.int]⟩
def q9N:Way S:=⟨(.exit 0),⟨(N v1n none L),L,7⟩,[.int]⟩
def q9O:LE S:=⟨q9K,q9L,[.int,.int,(.lst (.st 5)),.int,.int],[q9M,q9N]⟩
def q9P (x:tqK):(Int⊕Int)->(Int⊕Int):=Sum.elim (fun y0=>(.inl y0)) (fun y1=>(.inr y1))
def q9Q {R:Type} (x:tqK) (k:(Int⊕Int)->Option R):Option R:=(X3f x.2.1 x.u2 x.v4 (x.1,x.u3)).bind (Sum.elim (fun y0=>k (.inl y0)) (fun y1=>k (.inr y1)))
def q9R (x:tqK) (v:(Int×Int)):tqK:=(v.1,x.2.1,x.u2,v.2,x.v4)
theorem q9S (x:tqK):LE.step X q9O q8V q6d q4 12 x=WB x.2.1 x.u2 x.v4 x.1 x.u3 (fun w0 w1=>(Sum.inl (w0,x.2.1,x.u2,w1,x.v4))) (fun p0=>(Sum.inr (.inl p0))) (fun p0=>(Sum.inr (.inr p0))):=by kernel_rfl
theorem q9U {R:Type} (x:tqK) (k:(Int⊕Int)->Option R) (r:R) (h:q9Q x k=some r):∃o,Z6b (LE.step X q9O q8V q6d q4 12) x o/\k o=some r:=by
 obtain⟨o,h1,h2⟩:=Z0 h;exact⟨q9P x o,Zk9 (st:=fun(x:tqK)=>Ww x.2.1 x.u2 x.v4) (prj:=fun x=>(x.1,x.u3)) (emb:=q9R) (embO:=q9P) (fun x=>(q9S x).trans (by unfold Ww WB;simp only[Zk0,ZjR,Zk1,Option.map_some,Option.map_none];rfl)) (fun _ _=>rfl) (fun _ _=>rfl) (fun _ _ _=>rfl) (fun _ _ _=>rfl) (fun _=>rfl) (Z29.1 h1),by first|exact h2|(rcases o with o|o<;>exact h2)⟩
def q9V {R:Type}:Z2K S R:=LE.ls X q9O q9Q q4
theorem q9W {R:Type}:Z4g X (q9V (R:=R)):=Zkd xok q8W (e:=q9O) q6e q5 q9U q5
theorem q9X (x0:List Y2) (x1 x2:Int):Zkf X q8V [(.sl (.st 5)),(.int .i64),(.int .i64)] [(.int .i64)] q6d q9V 12 155 (x0,x1,x2,())=X2U x0 x1 x2:=by kernel_rfl
def q9Y:F7 S:=⟨[(.sl (.st 5)),(.int .i64),(.int .i64)],[(.int .i64)],fun xs=>X2U xs.1 xs.2.1 xs.u2⟩
theorem q9Z:Zau X 155 q9Y:=Zkc (Zkb xok q8W q6e q9W 12 155) fun xs _ h=>(q9X xs.1 xs.2.1 xs.u2).trans h
def qa0:List (Nat×F7 S):=[(155,q9Y)]
theorem qa1:ZaF X (qa0):=⟨q9Z,trivial⟩
theorem qa4 (x0:Y2) (x1 x2:Int):Zkf X qa0 [(.st 5),(.int .i64),(.int .i64)] [(.int .i64)] q6d q4 12 133 (x0,x1,x2,())=X3K x0 x1 x2:=by kernel_rfl
def qa5:F7 S:=⟨[(.st 5),(.int .i64),(.int .i64)],[(.int .i64)],fun xs=>X3K xs.1 xs.2.1 xs.u2⟩
theorem qa6:Zau X 133 qa5:=Zkc (Zkb xok qa1 q6e q5 12 133) fun xs _ h=>(qa4 xs.1 xs.2.1 xs.u2).trans h
def qa7:List (Nat×F7 S):=[(62,q8M),(133,qa5)]
theorem qa8:ZaF X (qa7):=⟨q8N,qa6,trivial⟩
theorem qab (x0:CoRecord) (x1 x2:Int) (x3:Y2):Zkf X qa7 [(.st 20),(.int .i64),(.int .i64),(.st 5)] [(.int .i64)] q6d q4 12 100 (x0,x1,x2,x3,())=X2i x0 x1 x2 x3:=by kernel_rfl
def qac:F7 S:=⟨[(.st 20),(.int .i64),(.int .i64),(.st 5)],[(.int .i64)],fun xs=>X3y xs.1 xs.2.1 xs.u2 xs.u3⟩
theorem qad:Zau X 100 qac:=Zkc (Zkb xok qa8 q6e q5 12 100) fun xs _ h=>((qab xs.1 xs.2.1 xs.u2 xs.u3).trans (X4O xs.1 xs.2.1 xs.u2 xs.u3).symm).trans h
def qae:List (Nat×F7 S):=[(62,q8M),(99,q9E),(100,qac)]
theorem qaf:ZaF X (qae):=⟨q8N,q9F,qad,trivial⟩
def qai:Key:=⟨[47],47,none,[0,0,1,0,1,1,1],0,17⟩
def qaj:StT S:=⟨(N (N L (some (.ptr 0 0)) (N L (some (.rs 17 0)) L)) none (N L none (N L vx L))),o1j,18⟩
def qak:Way S:=⟨.ret,⟨v1k,oU,66⟩,[.int,.int,.int,(.lst .str),(.st 20),(.st 18),(.lst .str)]⟩
def qal:Way S:=⟨.ret,⟨v1k,oU,65⟩,[.int,.int,.int,(.lst .str),(.st 20),(.st 18),(.lst .str)]⟩
def qam:Way S:=⟨(.exit 0),⟨(N (N L (some (.ptr 0 0)) L) none L),o1j,23⟩,[(.lst .str),(.st 20)]⟩
def qan:LE S:=⟨qai,qaj,[.int,(.lst .str),(.st 20)],[qak,qal,qam]⟩
def qao (x:tqO):((Int×Int×Int×(List ByteArray)×Zm×(List ByteArray))⊕(Int×Int×Int×(List ByteArray)×Zm×(List ByteArray))⊕(List ByteArray))->tq5:=Sum.elim (fun y0=>(.inl (y0.1,y0.2.1,y0.u2,y0.u3,x.v2,y0.u4,y0.v5))) (Sum.elim (fun y1=>(.inr (.inl (y1.1,y1.2.1,y1.u2,y1.u3,x.v2,y1.u4,y1.v5)))) (fun y2=>(.inr (.inr (y2,x.v2)))))
def qap {R:Type} (x:tqO) (k:tq5->Option R):Option R:=(X2E x.v2 (x.1,x.2.1)).bind (Sum.elim (fun y0=>k (.inl (y0.1,y0.2.1,y0.u2,y0.u3,x.v2,y0.u4,y0.v5))) (Sum.elim (fun y1=>k (.inr (.inl (y1.1,y1.2.1,y1.u2,y1.u3,x.v2,y1.u4,y1.v5)))) (fun y2=>k (.inr (.inr (y2,x.v2))))))
def qaq (x:tqO) (v:(Int×(List ByteArray))):tqO:=(v.1,v.2,x.v2)
theorem qar (x:tqO):LE.step X qan qae q6d q4 12 x=WR x.v2 x.1 x.2.1 (fun w0 w1=>(Sum.inl (w0,w1,x.v2))) (fun p0 p1 p2 p3 p4 p5=>(Sum.inr (.inl (p0,p1,p2,p3,x.v2,p4,p5)))) (fun p0 p1 p2 p3 p4 p5=>(Sum.inr (.inr (.inl (p0,p1,p2,p3,x.v2,p4,p5))))) (fun p0=>(Sum.inr (.inr (.inr (p0,x.v2))))):=by kernel_rfl
theorem qat {R:Type} (x:tqO) (k:tq5->Option R) (r:R) (h:qap x k=some r):∃o,Z6b (LE.step X qan qae q6d q4 12) x o/\k o=some r:=by
 obtain⟨o,h1,h2⟩:=Z0 h;exact⟨qao x o,Zk9 (st:=fun(x:tqO)=>X1k x.v2) (prj:=fun x=>(x.1,x.2.1)) (emb:=qaq) (embO:=qao) (fun x=>(qar x).trans (by unfold X1k WR;simp only[Zk0,ZjR,Zk1,Option.map_some,Option.map_none];rfl)) (fun _ _=>rfl) (fun _ _=>rfl) (fun _ _ _=>rfl) (fun _ _ _=>rfl) (fun _=>rfl) (Z29.1 h1),by first|exact h2|(rcases o with o|o|o<;>exact h2)⟩
def qau {R:Type}:Z2K S R:=LE.ls X qan qap q4
theorem qav {R:Type}:Z4g X (qau (R:=R)):=Zkd xok qaf (e:=qan) q6e q5 qat q5
def qaw:Key:=⟨[47],47,none,[0,0,1,0,1,1,1,1],2,24⟩
def qax:StT S:=⟨(N (N L (some (.ptr 0 0)) (N (N L vx L) none L)) none L),o1j,24⟩
def qay:Way S:=⟨.ret,⟨v1k,(N (N L none (N (N (N L ot L) none L) none L)) oc (N L none (N (N (N (N L oe L) none L) none L) none L))),52⟩,[.int,.int,.int,(.lst .str),(.st 20),(.st 19)]⟩
def qaz:Way S:=⟨(.exit 2),⟨(N (N L (some (.ptr 0 0)) L) none L),o1j,29⟩,[(.lst .str),(.st 20)]⟩
def qaA:LE S:=⟨qaw,qax,[.int,(.lst .str),(.st 20)],[qay,qaz]⟩
def qaB (x:tqO):((Int×Int×Int×Zq)⊕Unit)->tqk:=Sum.elim (fun y0=>(.inl (y0.1,y0.2.1,y0.u2,x.2.1,x.v2,y0.v3))) (fun y1=>(.inr (x.2.1,x.v2)))
def qaC {R:Type} (x:tqO) (k:tqk->Option R):Option R:=(X1U x.v2 x.1).bind (Sum.elim (fun y0=>k (.inl (y0.1,y0.2.1,y0.u2,x.2.1,x.v2,y0.v3))) (fun y1=>k (.inr (x.2.1,x.v2))))
def qaD (x:tqO) (v:Int):tqO:=(v,x.2.1,x.v2)
theorem qaE (x:tqO):LE.step X qaA qae q6d qau 12 x=WS x.v2 x.1 (fun w0=>(Sum.inl (w0,x.2.1,x.v2))) (fun p0 p1 p2 p3=>(Sum.inr (.inl (p0,p1,p2,x.2.1,x.v2,p3)))) (Sum.inr (.inr (x.2.1,x.v2))):=by kernel_rfl
theorem qaG {R:Type} (x:tqO) (k:tqk->Option R) (r:R) (h:qaC x k=some r):∃o,Z6b (LE.step X qaA qae q6d qau 12) x o/\k o=some r:=by
 obtain⟨o,h1,h2⟩:=Z0 h;exact⟨qaB x o,Zk9 (st:=fun(x:tqO)=>X1l x.v2) (prj:=fun x=>x.1) (emb:=qaD) (embO:=qaB) (fun x=>(qaE x).trans (by unfold X1l WS;simp only[Zk0,ZjR,Zk1,Option.map_some,Option.map_none];rfl)) (fun _ _=>rfl) (fun _ _=>rfl) (fun _ _ _=>rfl) (fun _ _ _=>rfl) (fun _=>rfl) (Z29.1 h1),by first|exact h2|(rcases o with o|o<;>exact h2)⟩
def qaH {R:Type}:Z2K S R:=LE.ls X qaA qaC qau
theorem qaI {R:Type}:Z4g X (qaH (R:=R)):=Zkd xok qaf (e:=qaA) q6e qav qaG qav
def qaJ:Key:=⟨[47],47,none,[0,0,1,0,1,1,1,1,1,1],4,31⟩
def qaK:StT S:=⟨(N (N L (some (.ptr 0 0)) (N L none (N L vx L))) none (N (N L none (N L vx L)) none L)),o1j,31⟩
def qaL:Way S:=⟨.ret,⟨v1k,o1j,59⟩,[.int,.int,.int,(.lst .str),(.st 20)]⟩
def qaM:Way S:=⟨(.exit 4),⟨L,o1j,36⟩,[(.lst .str),(.st 20)]⟩
def qaN:LE S:=⟨qaJ,qaK,[.int,.int,(.lst .str),(.st 20)],[qaL,qaM]⟩
def qaO (x:tqE):((Int×Int×Int)⊕Unit)->tqm:=Sum.elim (fun y0=>(.inl (y0.1,y0.2.1,y0.v2,x.u2,x.v3))) (fun y1=>(.inr (x.u2,x.v3)))
def qaP {R:Type} (x:tqE) (k:tqm->Option R):Option R:=(X1V x.v3 (x.1,x.2.1)).bind (Sum.elim (fun y0=>k (.inl (y0.1,y0.2.1,y0.v2,x.u2,x.v3))) (fun y1=>k (.inr (x.u2,x.v3))))
def qaQ (x:tqE) (v:(Int×Int)):tqE:=(v.1,v.2,x.u2,x.v3)
theorem qaR (x:tqE):LE.step X qaN qae q6d qaH 12 x=WT x.v3 x.1 x.2.1 (fun w0 w1=>(Sum.inl (w0,w1,x.u2,x.v3))) (fun p0 p1 p2=>(Sum.inr (.inl (p0,p1,p2,x.u2,x.v3)))) (Sum.inr (.inr (x.u2,x.v3))):=by kernel_rfl
theorem qaT {R:Type} (x:tqE) (k:tqm->Option R) (r:R) (h:qaP x k=some r):∃o,Z6b (LE.step X qaN qae q6d qaH 12) x o/\k o=some r:=by
 obtain⟨o,h1,h2⟩:=Z0 h;exact⟨qaO x o,Zk9 (st:=fun(x:tqE)=>X1m x.v3) (prj:=fun x=>(x.1,x.2.1)) (emb:=qaQ) (embO:=qaO) (fun x=>(qaR x).trans (by unfold X1m WT;simp only[Zk0,ZjR,Zk1,Option.map_some,Option.map_none];rfl)) (fun _ _=>rfl) (fun _ _=>rfl) (fun _ _ _=>rfl) (fun _ _ _=>rfl) (fun _=>rfl) (Z29.1 h1),by first|exact h2|(rcases o with o|o<;>exact h2)⟩
def qaU {R:Type}:Z2K S R:=LE.ls X qaN qaP qaH
theorem qaV {R:Type}:Z4g X (qaU (R:=R)):=Zkd xok qaf (e:=qaN) q6e qaI qaT qaI
theorem qaW (x0:CoRecord):Zkf X qae [(.st 20)] [(.int .i64),(.int .i64),(.int .i64)] q6d qaU 12 47 (x0,())=X23 x0:=by kernel_rfl
def qaX:F7 S:=⟨[(.st 20)],[(.int .i64),(.int .i64),(.int .i64)],fun xs=>X3L xs.1⟩
theorem qaY:Zau X 47 qaX:=Zkc (Zkb xok qaf q6e qaV 12 47) fun xs _ h=>((qaW xs.1).trans (X4n xs.1).symm).trans h
def qaZ:List (Nat×F7 S):=[(47,qaX),(100,qac)]
theorem qb0:ZaF X (qaZ):=⟨qaY,qad,trivial⟩
def qb3:Key:=⟨[49],49,none,[0,0,1,0,1,1,1,1],0,22⟩
def qb4:StT S:=⟨(N (N L vv (N (N L vx L) none L)) none (N L (some (.ptr 0 0)) L)),(N L oc L),22⟩
def qb5:Way S:=⟨.ret,⟨v1i,(N L oc L),50⟩,[.int,.int,(.st 20)]⟩
def qb6:Way S:=⟨(.exit 0),⟨L,(N L oc L),26⟩,[(.st 20)]⟩
def qb7:LE S:=⟨qb3,qb4,[(.lst (.st 21)),.int,(.st 20)],[qb5,qb6]⟩
def qb8 (x:tqQ):((Int×Int)⊕Unit)->((Int×Int×CoRecord)⊕CoRecord):=Sum.elim (fun y0=>(.inl (y0.1,y0.2,x.v2))) (fun y1=>(.inr x.v2))
def qb9 {R:Type} (x:tqQ) (k:((Int×Int×CoRecord)⊕CoRecord)->Option R):Option R:=(X11 x.1 x.v2 x.2.1).bind (Sum.elim (fun y0=>k (.inl (y0.1,y0.2,x.v2))) (fun y1=>k (.inr x.v2)))
def qba (x:tqQ) (v:Int):tqQ:=(x.1,v,x.v2)
theorem qbb (x:tqQ):LE.step X qb7 qaZ q6d q4 12 x=W8 x.1 x.v2 x.2.1 (fun w0=>(Sum.inl (x.1,w0,x.v2))) (fun p0 p1=>(Sum.inr (.inl (p0,p1,x.v2)))) (Sum.inr (.inr x.v2)):=by kernel_rfl
theorem qbd {R:Type} (x:tqQ) (k:((Int×Int×CoRecord)⊕CoRecord)->Option R) (r:R) (h:qb9 x k=some r):∃o,Z6b (LE.step X qb7 qaZ q6d q4 12) x o/\k o=some r:=by
 obtain⟨o,h1,h2⟩:=Z0 h;exact⟨qb8 x o,Zk9 (st:=fun(x:tqQ)=>Wv x.1 x.v2) (prj:=fun x=>x.2.1) (emb:=qba) (embO:=qb8) (fun x=>(qbb x).trans (by unfold Wv W8;simp only[Zk0,ZjR,Zk1,Option.map_some,Option.map_none];rfl)) (fun _ _=>rfl) (fun _ _=>rfl) (fun _ _ _=>rfl) (fun _ _ _=>rfl) (fun _=>rfl) (Z29.1 h1),by first|exact h2|(rcases o with o|o<;>exact h2)⟩
def qbe {R:Type}:Z2K S R:=LE.ls X qb7 qb9 q4
theorem qbf {R:Type}:Z4g X (qbe (R:=R)):=Zkd xok qb0 (e:=qb7) q6e q5 qbd q5
theorem qbg (x0:CoRecord) (x1:List Zr):Zkf X qaZ [(.st 20),(.sl (.st 21))] [(.int .i64),(.int .i64)] q6d qbe 12 49 (x0,x1,())=WQ x0 x1:=by kernel_rfl
def qbh:F7 S:=⟨[(.st 20),(.sl (.st 21))],[(.int .i64),(.int .i64)],fun xs=>X2C xs.1 xs.2.1⟩
theorem qbi:Zau X 49 qbh:=Zkc (Zkb xok qb0 q6e qbf 12 49) fun xs _ h=>((qbg xs.1 xs.2.1).trans (X3w xs.1 xs.2.1).symm).trans h
def qbn:Key:=⟨[104],104,none,[0,0,1,0,1,1],0,4⟩
def qbo:StT S:=⟨(N (N (N L (some (.ptr 2 0)) L) (some (.ptr 0 0)) L) none v1m),o16,6⟩
def qbp:Way S:=⟨(.exit 0),⟨(N (N (N L (some (.ptr 2 0)) L) none L) none (N L (some (.ptr 1 0)) L)),o16,11⟩,[(.lst (.int .i64)),(.st 20),(.lst (.int .i64))]⟩
def qbq:LE S:=⟨qbn,qbo,[.int,(.lst (.int .i64)),(.st 20),(.lst (.int .i64))],[qbp]⟩
def qbr (x:tqD):((List Int)×(List Int))->((List Int)×CoRecord×(List Int)):=fun y0=>(y0.1,x.u2,y0.2)
def qbs {R:Type} (x:tqD) (k:((List Int)×CoRecord×(List Int))->Option R):Option R:=(X2F x.u2 (x.1,x.2.1,x.v3)).bind (fun y0=>k (y0.1,x.u2,y0.2))
def qbt (x:tqD) (v:(Int×(List Int)×(List Int))):tqD:=(v.1,v.2.1,x.u2,v.v2)
theorem qbu (x:tqD):LE.step X qbq q2 q6d q4 12 x=WU x.u2 x.1 x.2.1 x.v3 (fun w0 w1 w2=>(Sum.inl (w0,w1,x.u2,w2))) (fun p0 p1=>(Sum.inr (p0,x.u2,p1))):=by kernel_rfl
theorem qbw {R:Type} (x:tqD) (k:((List Int)×CoRecord×(List Int))->Option R) (r:R) (h:qbs x k=some r):∃o,Z6b (LE.step X qbq q2 q6d q4 12) x o/\k o=some r:=by
 obtain⟨o,h1,h2⟩:=Z0 h;exact⟨qbr x o,Zk9 (st:=fun(x:tqD)=>WK x.u2) (prj:=fun x=>(x.1,x.2.1,x.v3)) (emb:=qbt) (embO:=qbr) (fun x=>(qbu x).trans (by unfold WK WU;simp only[Zk0,ZjR,Zk1,Option.map_some,Option.map_none];rfl)) (fun _ _=>rfl) (fun _ _=>rfl) (fun _ _ _=>rfl) (fun _ _ _=>rfl) (fun _=>rfl) (Z29.1 h1),by first|exact h2|(rcases o with o<;>exact h2)⟩
def qbx {R:Type}:Z2K S R:=LE.ls X qbq qbs q4
theorem qby {R:Type}:Z4g X (qbx (R:=R)):=Zkd xok q3 (e:=qbq) q6e q5 qbw q5
theorem qbz (x0:CoRecord):Zkf X q2 [(.st 20)] [(.st 27)] q6d qbx 12 104 (x0,())=X24 x0:=by kernel_rfl
def qbA:F7 S:=⟨[(.st 20)],[(.st 27)],fun xs=>X3M xs.1⟩
theorem qbB:Zau X 104 qbA:=Zkc (Zkb xok q3 q6e qby 12 104) fun xs _ h=>((qbz xs.1).trans (X4r xs.1).symm).trans h
def qbG:Key:=⟨[134],134,none,[0,0,1,0,1,0,1,0,0,1,0,1,1],2,21⟩
def qbH:StT S:=⟨(N (N L (some (.ptr 0 0)) (N L vx L)) none (N (N L vy L) (some (.ptr 1 0)) L)),o10,23⟩
def qbI:Way S:=⟨(.exit 2),⟨v19,o10,29⟩,[.bool,(.lst (.int .i64)),(.lst (.st 26)),(.lst (.int .i64))]⟩
def qbJ:LE S:=⟨qbG,qbH,[.int,.bool,(.lst (.int .i64)),(.lst (.st 26)),(.lst (.int .i64))],[qbI]⟩
def qbK (x:tqr):tqR->tqv:=fun y0=>(y0.1,y0.2.1,x.u3,y0.v2)
def qbL {R:Type} (x:tqr) (k:tqv->Option R):Option R:=(X2r (x.1,x.2.1,x.u2,x.v4)).bind (fun y0=>k (y0.1,y0.2.1,x.u3,y0.v2))
def qbM (x:tqr) (v:(Int×Bool×(List Int)×(List Int))):tqr:=(v.1,v.2.1,v.u2,x.u3,v.v3)
theorem qbN (x:tqr):LE.step X qbJ q2 q6d q4 12 x=WD x.1 x.2.1 x.u2 x.v4 (fun w0 w1 w2 w3=>(Sum.inl (w0,w1,w2,x.u3,w3))) (fun p0 p1 p2=>(Sum.inr (p0,p1,x.u3,p2))):=by kernel_rfl
theorem qbP {R:Type} (x:tqr) (k:tqv->Option R) (r:R) (h:qbL x k=some r):∃o,Z6b (LE.step X qbJ q2 q6d q4 12) x o/\k o=some r:=by
 obtain⟨o,h1,h2⟩:=Z0 h;exact⟨qbK x o,Zk9 (st:=fun(x:tqr)=>Wx) (prj:=fun x=>(x.1,x.2.1,x.u2,x.v4)) (emb:=qbM) (embO:=qbK) (fun x=>(qbN x).trans (by unfold Wx WD;simp only[Zk0,ZjR,Zk1,Option.map_some,Option.map_none];rfl)) (fun _ _=>rfl) (fun _ _=>rfl) (fun _ _ _=>rfl) (fun _ _ _=>rfl) (fun _=>rfl) (Z29.1 h1),by first|exact h2|(rcases o with o<;>exact h2)⟩
def qbQ {R:Type}:Z2K S R:=LE.ls X qbJ qbL q4
theorem qbR {R:Type}:Z4g X (qbQ (R:=R)):=Zkd xok q3 (e:=qbJ) q6e q5 qbP q5
def qbS:Key:=⟨[134],134,none,[0,0,1,0,1,1,0,1,0,0,1,0,1,1],4,30⟩
def qbT:StT S:=⟨(N (N L (some (.ptr 0 0)) L) none (N (N L vy L) (some (.ptr 1 0)) (N L vx L))),oZ,32⟩
def qbU:Way S:=⟨(.exit 4),⟨v19,oZ,37⟩,[.bool,(.lst (.int .i64)),(.lst (.st 26)),(.lst (.int .i64))]⟩
def qbV:LE S:=⟨qbS,qbT,[.bool,.int,(.lst (.int .i64)),(.lst (.st 26)),(.lst (.int .i64))],[qbU]⟩
def qbW (x:tqs):tqR->tqv:=fun y0=>(y0.1,y0.2.1,x.u3,y0.v2)
def qbX {R:Type} (x:tqs) (k:tqv->Option R):Option R:=(X2s x.u3 (x.1,x.2.1,x.u2,x.v4)).bind (fun y0=>k (y0.1,y0.2.1,x.u3,y0.v2))
def qbY (x:tqs) (v:(Bool×Int×(List Int)×(List Int))):tqs:=(v.1,v.2.1,v.u2,x.u3,v.v3)
theorem qbZ (x:tqs):LE.step X qbV q2 q6d qbQ 12 x=WE x.u3 x.1 x.2.1 x.u2 x.v4 (fun w0 w1 w2 w3=>(Sum.inl (w0,w1,w2,x.u3,w3))) (fun p0 p1 p2=>(Sum.inr (p0,p1,x.u3,p2))):=by kernel_rfl
theorem qc1 {R:Type} (x:tqs) (k:tqv->Option R) (r:R) (h:qbX x k=some r):∃o,Z6b (LE.step X qbV q2 q6d qbQ 12) x o/\k o=some r:=by
 obtain⟨o,h1,h2⟩:=Z0 h;exact⟨qbW x o,Zk9 (st:=fun(x:tqs)=>Wy x.u3) (prj:=fun x=>(x.1,x.2.1,x.u2,x.v4)) (emb:=qbY) (embO:=qbW) (fun x=>(qbZ x).trans (by unfold Wy WE;simp only[Zk0,ZjR,Zk1,Option.map_some,Option.map_none];rfl)) (fun _ _=>rfl) (fun _ _=>rfl) (fun _ _ _=>rfl) (fun _ _ _=>rfl) (fun _=>rfl) (Z29.1 h1),by first|exact h2|(rcases o with o<;>exact h2)⟩
def qc2 {R:Type}:Z2K S R:=LE.ls X qbV qbX qbQ
theorem qc3 {R:Type}:Z4g X (qc2 (R:=R)):=Zkd xok q3 (e:=qbV) q6e qbR qc1 qbR
def qc4:Key:=⟨[134],134,none,[0,0,1,1,1,1,0,1,0,0,1,0,1,1],6,38⟩
def qc5:StT S:=⟨(N (N L (some (.ptr 0 0)) L) none (N (N (N L vx L) vy L) (some (.ptr 1 0)) L)),o14,40⟩
def qc6:Way S:=⟨.ret,⟨v1c,o15,59⟩,[.bool,(.lst (.int .i64)),(.lst (.st 26)),(.lst (.st 26)),(.lst (.int .i64))]⟩
def qc7:Way S:=⟨(.exit 6),⟨v19,o14,45⟩,[.bool,(.lst (.int .i64)),(.lst (.st 26)),(.lst (.int .i64))]⟩
def qc8:LE S:=⟨qc4,qc5,[.int,.bool,(.lst (.int .i64)),(.lst (.st 26)),(.lst (.int .i64))],[qc6,qc7]⟩
def qc9 (x:tqr):(Bool⊕Unit)->tq9:=Sum.elim (fun y0=>(.inl (y0,x.u2,x.u3,x.u3,x.v4))) (fun y1=>(.inr (x.2.1,x.u2,x.u3,x.v4)))
def qca {R:Type} (x:tqr) (k:tq9->Option R):Option R:=(X2t x.u2 x.v4 x.1).bind (Sum.elim (fun y0=>k (.inl (y0,x.u2,x.u3,x.u3,x.v4))) (fun y1=>k (.inr (x.2.1,x.u2,x.u3,x.v4))))
def qcb (x:tqr) (v:Int):tqr:=(v,x.2.1,x.u2,x.u3,x.v4)
theorem qcc (x:tqr):LE.step X qc8 q2 q6d qc2 12 x=WF x.u2 x.v4 x.1 (fun w0=>(Sum.inl (w0,x.2.1,x.u2,x.u3,x.v4))) (fun p0=>(Sum.inr (.inl (p0,x.u2,x.u3,x.u3,x.v4)))) (Sum.inr (.inr (x.2.1,x.u2,x.u3,x.v4))):=by kernel_rfl
theorem qce {R:Type} (x:tqr) (k:tq9->Option R) (r:R) (h:qca x k=some r):∃o,Z6b (LE.step X qc8 q2 q6d qc2 12) x o/\k o=some r:=by
 obtain⟨o,h1,h2⟩:=Z0 h;exact⟨qc9 x o,Zk9 (st:=fun(x:tqr)=>Wz x.u2 x.v4) (prj:=fun x=>x.1) (emb:=qcb) (embO:=qc9) (fun x=>(qcc x).trans (by unfold Wz WF;simp only[Zk0,ZjR,Zk1,Option.map_some,Option.map_none];rfl)) (fun _ _=>rfl) (fun _ _=>rfl) (fun _ _ _=>rfl) (fun _ _ _=>rfl) (fun _=>rfl) (Z29.1 h1),by first|exact h2|(rcases o with o|o<;>exact h2)⟩
def qcf {R:Type}:Z2K S R:=LE.ls X qc8 qca qc2
theorem qcg {R:Type}:Z4g X (qcf (R:=R)):=Zkd xok q3 (e:=qc8) q6e qc3 qce qc3
def qch:Key:=⟨[134],134,none,[0,0,1,0,1,1],0,16⟩
def qci:StT S:=⟨v19,o11,18⟩
def qck:Way S:=⟨(.exit 0),⟨(N (N L (some (.ptr 0 0)) L) none (N L (some (.ptr 1 0)) L)),o11,19⟩,[(.lst (.int .i64)),(.lst (.st 26)),(.lst (.int .i64))]⟩
def qcl:LE S:=⟨qch,qci,[.bool,(.lst (.int .i64)),(.lst (.st 26)),(.lst (.int .i64))],[qc6,qck]⟩
def qcm (x:tqv):(tqR⊕((List Int)×(List Int)))->tqb:=Sum.elim (fun y0=>(.inl (y0.1,y0.2.1,x.u2,x.u2,y0.v2))) (fun y1=>(.inr (y1.1,x.u2,y1.2)))
def qcn {R:Type} (x:tqv) (k:tqb->Option R):Option R:=(X2q x.u2 (x.1,x.2.1,x.v3)).bind (Sum.elim (fun y0=>k (.inl (y0.1,y0.2.1,x.u2,x.u2,y0.v2))) (fun y1=>k (.inr (y1.1,x.u2,y1.2))))
def qco (x:tqv) (v:tqR):tqv:=(v.1,v.2.1,x.u2,v.v2)
theorem qcp (x:tqv):LE.step X qcl q2 q6d qcf 12 x=WC x.u2 x.1 x.2.1 x.v3 (fun w0 w1 w2=>(Sum.inl (w0,w1,x.u2,w2))) (fun p0 p1 p2=>(Sum.inr (.inl (p0,p1,x.u2,x.u2,p2)))) (fun p0 p1=>(Sum.inr (.inr (p0,x.u2,p1)))):=by kernel_rfl
theorem qcr {R:Type} (x:tqv) (k:tqb->Option R) (r:R) (h:qcn x k=some r):∃o,Z6b (LE.step X qcl q2 q6d qcf 12) x o/\k o=some r:=by
 obtain⟨o,h1,h2⟩:=Z0 h;exact⟨qcm x o,Zk9 (st:=fun(x:tqv)=>W5 x.u2) (prj:=fun x=>(x.1,x.2.1,x.v3)) (emb:=qco) (embO:=qcm) (fun x=>(qcp x).trans (by unfold W5 WC;simp only[Zk0,ZjR,Zk1,Option.map_some,Option.map_none];rfl)) (fun _ _=>rfl) (fun _ _=>rfl) (fun _ _ _=>rfl) (fun _ _ _=>rfl) (fun _=>rfl) (Z29.1 h1),by first|exact h2|(rcases o with o|o<;>exact h2)⟩
def qcs {R:Type}:Z2K S R:=LE.ls X qcl qcn qcf
theorem qct {R:Type}:Z4g X (qcs (R:=R)):=Zkd xok q3 (e:=qcl) q6e qcg qcr qcg
theorem qcu (x0:Z8):Zkf X q2 [(.st 27)] [(.st 27),.bool] q6d qcs 12 134 (x0,())=X1D x0:=by kernel_rfl
def qcv:F7 S:=⟨[(.st 27)],[(.st 27),.bool],fun xs=>X3j xs.1⟩
theorem qcw:Zau X 134 qcv:=Zkc (Zkb xok q3 q6e qct 12 134) fun xs _ h=>((qcu xs.1).trans (X47 xs.1).symm).trans h
def qcB:Key:=⟨[135],135,none,[0,0,1,0,1,1,1],0,12⟩
def qcC:StT S:=⟨(N (N (N (N L (some (.rs 12 0)) L) (some (.ptr 0 0)) L) vx (N (N L vx L) none L)) none (N (N (N L vx L) none L) vx (N (N L vx L) none L))),o18,13⟩
def qcD:Way S:=⟨(.exit 0),⟨(N (N (N (N L (some (.rs 12 0)) L) none L) none L) none L),o18,18⟩,[(.st 20),(.lst (.st 26))]⟩
def qcE:LE S:=⟨qcB,qcC,[.int,.int,.int,.int,.int,(.st 20),(.lst (.st 26))],[qcD]⟩
def qcF (x:tqq):(List Z6)->(CoRecord×(List Z6)):=fun y0=>(x.u5,y0)
def qcG {R:Type} (x:tqq) (k:(CoRecord×(List Z6))->Option R):Option R:=(X1W x.1 x.u3 x.u5 (x.2.1,x.u2,x.u4,x.v6)).bind (fun y0=>k (x.u5,y0))
def qcH (x:tqq) (v:(Int×Int×Int×(List Z6))):tqq:=(x.1,v.1,v.2.1,x.u3,v.u2,x.u5,v.v3)
theorem qcI (x:tqq):LE.step X qcE q2 q6d q4 12 x=W9 x.1 x.u3 x.u5 x.2.1 x.u2 x.u4 x.v6 (fun w0 w1 w2 w3=>(Sum.inl (x.1,w0,w1,x.u3,w2,x.u5,w3))) (fun p0=>(Sum.inr (x.u5,p0))):=by kernel_rfl
theorem qcK {R:Type} (x:tqq) (k:(CoRecord×(List Z6))->Option R) (r:R) (h:qcG x k=some r):∃o,Z6b (LE.step X qcE q2 q6d q4 12) x o/\k o=some r:=by
 obtain⟨o,h1,h2⟩:=Z0 h;exact⟨qcF x o,Zk9 (st:=fun(x:tqq)=>XZ x.1 x.u3 x.u5) (prj:=fun x=>(x.2.1,x.u2,x.u4,x.v6)) (emb:=qcH) (embO:=qcF) (fun x=>(qcI x).trans (by unfold XZ W9;simp only[Zk0,ZjR,Zk1,Option.map_some,Option.map_none];rfl)) (fun _ _=>rfl) (fun _ _=>rfl) (fun _ _ _=>rfl) (fun _ _ _=>rfl) (fun _=>rfl) (Z29.1 h1),by first|exact h2|(rcases o with o<;>exact h2)⟩
def qcL {R:Type}:Z2K S R:=LE.ls X qcE qcG q4
theorem qcM {R:Type}:Z4g X (qcL (R:=R)):=Zkd xok q3 (e:=qcE) q6e q5 qcK q5
theorem qcN (x0:CoRecord) (x1 x2:Int):Zkf X q2 [(.st 20),(.int .i64),(.int .i64)] [(.sl (.st 26))] q6d qcL 12 135 (x0,x1,x2,())=WV x0 x1 x2:=by kernel_rfl
def qcO:F7 S:=⟨[(.st 20),(.int .i64),(.int .i64)],[(.sl (.st 26))],fun xs=>X25 xs.1 xs.2.1 xs.u2⟩
theorem qcP:Zau X 135 qcO:=Zkc (Zkb xok q3 q6e qcM 12 135) fun xs _ h=>((qcN xs.1 xs.2.1 xs.u2).trans (X3z xs.1 xs.2.1 xs.u2).symm).trans h
theorem qcU (x0:Z8) (x1:Z6) (x2:Y2):Zkf X q2 [(.st 27),(.st 26),(.st 5)] [(.st 27)] q6d q4 12 136 (x0,x1,x2,())=X2w x0 x1 x2:=by kernel_rfl
def qcV:F7 S:=⟨[(.st 27),(.st 26),(.st 5)],[(.st 27)],fun xs=>X4z xs.1 xs.2.1 xs.u2⟩
theorem qcW:Zau X 136 qcV:=Zkc (Zkb xok q3 q6e q5 12 136) fun xs _ h=>((qcU xs.1 xs.2.1 xs.u2).trans (X51 xs.1 xs.2.1 xs.u2).symm).trans h
def qcX (ih:tqA->Option (List Z8)):List (Nat×F7 S):=[(134,qcv),(135,qcO),(136,qcV),(103,⟨[(.st 20),(.sl (.st 21)),(.st 27)],[(.sl (.st 27))],ih⟩)]
theorem qcY (ih:tqA->Option (List Z8)) (hih:Zau X 103 ⟨[(.st 20),(.sl (.st 21)),(.st 27)],[(.sl (.st 27))],ih⟩):ZaF X (qcX ih):=⟨qcw,qcP,qcW,hih,trivial⟩
abbrev qcZ (ih:tqA->Option (List Z8)) {R:Type}:Z2K S R:=ZiZ
theorem qd0 (ih:tqA->Option (List Z8)) (hih:Zau X 103 ⟨[(.st 20),(.sl (.st 21)),(.st 27)],[(.sl (.st 27))],ih⟩) {R:Type}:Z4g X (qcZ ih (R:=R)):=ZjA X
def qd1:Key:=⟨[103],103,none,[0,0,1,0,1,1,1,1,1,1],0,28⟩
def qd2:StT S:=⟨(N (N (N L (some (.ptr 0 0)) L) vv (N (N L (some (.sl (.st 26) [])) L) (some (.ptr 1 0)) L)) none (N (N (N L (some (.rs 28 0)) L) none L) none (N (N L vx L) none L))),o13,29⟩
def qd3:Way S:=⟨(.exit 0),⟨(N L none (N (N (N L (some (.rs 28 0)) L) none L) none L)),o13,33⟩,[(.st 27),(.st 20),(.lst (.st 27))]⟩
def qd4:LE S:=⟨qd1,qd2,[(.lst (.st 21)),(.lst (.st 26)),.int,(.st 27),(.st 20),(.lst (.st 27))],[qd3]⟩
def qd5 (x:tqg):(List Z8)->tqy:=fun y0=>(x.u3,x.u4,y0)
def qd6 (ih:tqA->Option (List Z8)) {R:Type} (x:tqg) (k:tqy->Option R):Option R:=(X2m ih x.1 x.2.1 x.u3 x.u4 (x.u2,x.v5)).bind (fun y0=>k (x.u3,x.u4,y0))
def qd7 (x:tqg) (v:(Int×(List Z8))):tqg:=(x.1,x.2.1,v.1,x.u3,x.u4,v.2)
theorem qd8 (ih:tqA->Option (List Z8)) (x:tqg):LE.step X qd4 (qcX ih) q6d (qcZ ih) 12 x=WJ ih x.1 x.2.1 x.u3 x.u4 x.u2 x.v5 (fun w0 w1=>(Sum.inl (x.1,x.2.1,w0,x.u3,x.u4,w1))) (fun p0=>(Sum.inr (x.u3,x.u4,p0))):=by kernel_rfl
theorem qda (ih:tqA->Option (List Z8)) {R:Type} (x:tqg) (k:tqy->Option R) (r:R) (h:qd6 ih x k=some r):∃o,Z6b (LE.step X qd4 (qcX ih) q6d (qcZ ih) 12) x o/\k o=some r:=by
 obtain⟨o,h1,h2⟩:=Z0 h;exact⟨qd5 x o,Zk9 (st:=fun(x:tqg)=>WN ih x.1 x.2.1 x.u3 x.u4) (prj:=fun x=>(x.u2,x.v5)) (emb:=qd7) (embO:=qd5) (fun x=>(qd8 ih x).trans (by unfold WN WJ;simp only[Zk0,ZjR,Zk1,Option.map_some,Option.map_none];rfl)) (fun _ _=>rfl) (fun _ _=>rfl) (fun _ _ _=>rfl) (fun _ _ _=>rfl) (fun _=>rfl) (Z29.1 h1),by first|exact h2|(rcases o with o<;>exact h2)⟩
def qdb (ih:tqA->Option (List Z8)) {R:Type}:Z2K S R:=LE.ls X qd4 (qd6 ih) (qcZ ih)
theorem qdc (ih:tqA->Option (List Z8)) (hih:Zau X 103 ⟨[(.st 20),(.sl (.st 21)),(.st 27)],[(.sl (.st 27))],ih⟩) {R:Type}:Z4g X (qdb ih (R:=R)):=Zkd xok (qcY ih hih) (e:=qd4) q6e (qd0 ih hih) (qda ih) (qd0 ih hih)
theorem qdd (ih:tqA->Option (List Z8)) (x0:CoRecord) (x1:List Zr) (x2:Z8):Zkf X (qcX ih) [(.st 20),(.sl (.st 21)),(.st 27)] [(.sl (.st 27))] q6d (qdb ih) 12 103 (x0,x1,x2,())=X1r ih x0 x1 x2:=by kernel_rfl
def qde:F7 S:=⟨[(.st 20),(.sl (.st 21)),(.st 27)],[(.sl (.st 27))],fun xs=>X5f xs.1 xs.2.1 xs.u2⟩
theorem qdf:Zau X 103 qde:=ZkR (X:=X) (g:=103) (pts:=[(.st 20),(.sl (.st 21)),(.st 27)]) (rts:=[(.sl (.st 27))]) (t:=Wi) fun ih hih=>Zkc (Zkb xok (qcY ih hih) q6e (qdc ih hih) 12 103) fun xs _ h=>(qdd ih xs.1 xs.2.1 xs.u2).trans h
def qdg:List (Nat×F7 S):=[(104,qbA),(103,qde)]
theorem qdh:ZaF X (qdg):=⟨qbB,qdf,trivial⟩
theorem qdk (x0:CoRecord) (x1:List Zr):Zkf X qdg [(.st 20),(.sl (.st 21))] [.bool] q6d q4 12 63 (x0,x1,())=X2f x0 x1:=by kernel_rfl
def qdl:F7 S:=⟨[(.st 20),(.sl (.st 21))],[.bool],fun xs=>X1q xs.1 xs.2.1⟩
theorem qdm:Zau X 63 qdl:=Zkc (Zkb xok qdh q6e q5 12 63) fun xs _ h=>((qdk xs.1 xs.2.1).trans (X4K xs.1 xs.2.1).symm).trans h
theorem qdr (x0:List Zr) (x1 x2 x3:Int):Zkf X q2 [(.sl (.st 21)),(.int .i64),(.int .i64),(.int .i64)] [(.sl (.st 21))] q6d q4 12 56 (x0,x1,x2,x3,())=X2g x0 x1 x2 x3:=by kernel_rfl
def qds:F7 S:=⟨[(.sl (.st 21)),(.int .i64),(.int .i64),(.int .i64)],[(.sl (.st 21))],fun xs=>X3X xs.1 xs.2.1 xs.u2 xs.u3⟩
theorem qdt:Zau X 56 qds:=Zkc (Zkb xok q3 q6e q5 12 56) fun xs _ h=>((qdr xs.1 xs.2.1 xs.u2 xs.u3).trans (X4M xs.1 xs.2.1 xs.u2 xs.u3).symm).trans h
def qdu:List (Nat×F7 S):=[(56,qds),(63,qdl)]
theorem qdv:ZaF X (qdu):=⟨qdt,qdm,trivial⟩
def qdy:Key:=⟨[64],64,none,[0,0,1,0,1,1],0,4⟩
def qdz:StT S:=⟨(N (N (N L vx L) vv (N (N L (some (.rs 4 0)) L) none L)) none (N (N L (some (.ptr 0 0)) L) vx (N (N L vx L) none L))),(N L oc (N (N L oj L) none L)),5⟩
def qdA:Way S:=⟨(.exit 0),⟨(N (N L none (N (N L (some (.rs 4 0)) L) none L)) none L),(N L oc (N (N L oj L) none L)),13⟩,[(.st 20),(.lst (.int .i64))]⟩
def qdB:LE S:=⟨qdy,qdz,[.int,(.lst (.st 21)),.int,.int,(.st 20),(.lst (.int .i64))],[qdA]⟩
def qdC (x:tqw):(List Int)->(CoRecord×(List Int)):=fun y0=>(x.u4,y0)
def qdD {R:Type} (x:tqw) (k:(CoRecord×(List Int))->Option R):Option R:=(X2u x.1 x.2.1 x.u2 x.u4 (x.u3,x.v5)).bind (fun y0=>k (x.u4,y0))
def qdE (x:tqw) (v:(Int×(List Int))):tqw:=(x.1,x.2.1,x.u2,v.1,x.u4,v.2)
theorem qdF (x:tqw):LE.step X qdB qdu q6d q4 12 x=WG x.1 x.2.1 x.u2 x.u4 x.u3 x.v5 (fun w0 w1=>(Sum.inl (x.1,x.2.1,x.u2,w0,x.u4,w1))) (fun p0=>(Sum.inr (x.u4,p0))):=by kernel_rfl
theorem qdH {R:Type} (x:tqw) (k:(CoRecord×(List Int))->Option R) (r:R) (h:qdD x k=some r):∃o,Z6b (LE.step X qdB qdu q6d q4 12) x o/\k o=some r:=by
 obtain⟨o,h1,h2⟩:=Z0 h;exact⟨qdC x o,Zk9 (st:=fun(x:tqw)=>WA x.1 x.2.1 x.u2 x.u4) (prj:=fun x=>(x.u3,x.v5)) (emb:=qdE) (embO:=qdC) (fun x=>(qdF x).trans (by unfold WA WG;simp only[Zk0,ZjR,Zk1,Option.map_some,Option.map_none];rfl)) (fun _ _=>rfl) (fun _ _=>rfl) (fun _ _ _=>rfl) (fun _ _ _=>rfl) (fun _=>rfl) (Z29.1 h1),by first|exact h2|(rcases o with o<;>exact h2)⟩
def qdI {R:Type}:Z2K S R:=LE.ls X qdB qdD q4
theorem qdJ {R:Type}:Z4g X (qdI (R:=R)):=Zkd xok qdv (e:=qdB) q6e q5 qdH q5
theorem qdK (x0:CoRecord) (x1:List Zr) (x2 x3:Int):Zkf X qdu [(.st 20),(.sl (.st 21)),(.int .i64),(.int .i64)] [(.sl (.int .i64))] q6d qdI 12 64 (x0,x1,x2,x3,())=X1E x0 x1 x2 x3:=by kernel_rfl
def qdL:F7 S:=⟨[(.st 20),(.sl (.st 21)),(.int .i64),(.int .i64)],[(.sl (.int .i64))],fun xs=>Wm xs.1 xs.2.1 xs.u2 xs.u3⟩
theorem qdM:Zau X 64 qdL:=Zkc (Zkb xok qdv q6e qdJ 12 64) fun xs _ h=>((qdK xs.1 xs.2.1 xs.u2 xs.u3).trans (X49 xs.1 xs.2.1 xs.u2 xs.u3).symm).trans h
def qdN:List (Nat×F7 S):=[(49,qbh),(62,q8M),(63,qdl),(64,qdL)]
theorem qdO:ZaF X (qdN):=⟨qbi,q8N,qdm,qdM,trivial⟩
theorem qdR (x0:CoRecord) (x1:List Zr) (x2 x3:Int):Zkf X qdN [(.st 20),(.sl (.st 21)),(.int .i64),(.int .i64)] [(.sl (.int .i64)),(.int .i64)] q6d q4 12 17 (x0,x1,x2,x3,())=X1C x0 x1 x2 x3:=by kernel_rfl
def qdS:F7 S:=⟨[(.st 20),(.sl (.st 21)),(.int .i64),(.int .i64)],[(.sl (.int .i64)),(.int .i64)],fun xs=>X3i xs.1 xs.2.1 xs.u2 xs.u3⟩
theorem qdT:Zau X 17 qdS:=Zkc (Zkb xok qdO q6e q5 12 17) fun xs _ h=>((qdR xs.1 xs.2.1 xs.u2 xs.u3).trans (X45 xs.1 xs.2.1 xs.u2 xs.u3).symm).trans h
def qdY:Key:=⟨[18],18,none,[0,0,1,0,1,1],0,7⟩
def qdZ:StT S:=⟨(N (N L (some (.sl (.int .i64) [])) (N L vx L)) (some (.sl (.int .i64) [])) L),L,7⟩
def qe0:Way S:=⟨.ret,⟨(N L none (N (N L vy L) none L)),L,21⟩,[.bool]⟩
def qe1:Way S:=⟨(.exit 0),⟨L,L,11⟩,[]⟩
def qe2:LE S:=⟨qdY,qdZ,[(.lst (.int .i64)),.int,(.lst (.int .i64))],[qe0,qe1]⟩
def qe3 (x:tqS):(Bool⊕Unit)->(Bool⊕Unit):=Sum.elim (fun y0=>(.inl y0)) (fun y1=>(.inr ()))
def qe4 {R:Type} (x:tqS) (k:(Bool⊕Unit)->Option R):Option R:=(X3H x.1 x.v2 x.2.1).bind (Sum.elim (fun y0=>k (.inl y0)) (fun y1=>k (.inr ())))
def qe5 (x:tqS) (v:Int):tqS:=(x.1,v,x.v2)
theorem qe6 (x:tqS):LE.step X qe2 q2 q6d q4 12 x=X1c x.1 x.v2 x.2.1 (fun w0=>(Sum.inl (x.1,w0,x.v2))) (fun p0=>(Sum.inr (.inl p0))) (Sum.inr (.inr ())):=by kernel_rfl
theorem qe8 {R:Type} (x:tqS) (k:(Bool⊕Unit)->Option R) (r:R) (h:qe4 x k=some r):∃o,Z6b (LE.step X qe2 q2 q6d q4 12) x o/\k o=some r:=by
 obtain⟨o,h1,h2⟩:=Z0 h;exact⟨qe3 x o,Zk9 (st:=fun(x:tqS)=>X16 x.1 x.v2) (prj:=fun x=>x.2.1) (emb:=qe5) (embO:=qe3) (fun x=>(qe6 x).trans (by unfold X16 X1c;simp only[Zk0,ZjR,Zk1,Option.map_some,Option.map_none];rfl)) (fun _ _=>rfl) (fun _ _=>rfl) (fun _ _ _=>rfl) (fun _ _ _=>rfl) (fun _=>rfl) (Z29.1 h1),by first|exact h2|(rcases o with o|o<;>exact h2)⟩
def qe9 {R:Type}:Z2K S R:=LE.ls X qe2 qe4 q4
theorem qea {R:Type}:Z4g X (qe9 (R:=R)):=Zkd xok q3 (e:=qe2) q6e q5 qe8 q5
theorem qeb (x0 x1:List Int):Zkf X q2 [(.sl (.int .i64)),(.sl (.int .i64))] [.bool] q6d qe9 12 18 (x0,x1,())=X3t x0 x1:=by kernel_rfl
def qec:F7 S:=⟨[(.sl (.int .i64)),(.sl (.int .i64))],[.bool],fun xs=>X3t xs.1 xs.2.1⟩
theorem qed:Zau X 18 qec:=Zkc (Zkb xok q3 q6e qea 12 18) fun xs _ h=>(qeb xs.1 xs.2.1).trans h
end
end Nore
