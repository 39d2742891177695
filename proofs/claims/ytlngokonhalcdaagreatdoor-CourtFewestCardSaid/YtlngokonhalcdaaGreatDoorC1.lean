/- The code comes to the plain functions. -/
import Derived.Test.YtlngokonhalcdaaGreatDoorY
import Derived.Test.YtlngokonhalcdaaGreatDoorD
set_option linter.unusedSectionVars false
set_option linter.unusedVariables false
set_option linter.unusedSimpArgs false
set_option maxRecDepth 100000
open Go Go.Ab Go.Proofs Go.Proofs.YtlngokonhalcdaaGreatDoor
open Go.Ab.Tr renaming node->N,leaf->L
namespace Prod
abbrev v2 {a b s:Type} (x:a×b×s):=x.2.2
abbrev u2 {a b r s:Type} (x:a×b×r×s):=x.2.2.1
abbrev v3 {a b c s:Type} (x:a×b×c×s):=x.2.2.2
abbrev u3 {a b c r s:Type} (x:a×b×c×r×s):=x.2.2.2.1
abbrev v4 {a b c d s:Type} (x:a×b×c×d×s):=x.2.2.2.2
abbrev u4 {a b c d r s:Type} (x:a×b×c×d×r×s):=x.2.2.2.2.1
abbrev v5 {a b c d e s:Type} (x:a×b×c×d×e×s):=x.2.2.2.2.2
abbrev u5 {a b c d e r s:Type} (x:a×b×c×d×e×r×s):=x.2.2.2.2.2.1
abbrev v6 {a b c d e f s:Type} (x:a×b×c×d×e×f×s):=x.2.2.2.2.2.2
abbrev u6 {a b c d e f r s:Type} (x:a×b×c×d×e×f×r×s):=x.2.2.2.2.2.2.1
abbrev v7 {a b c d e f g s:Type} (x:a×b×c×d×e×f×g×s):=x.2.2.2.2.2.2.2
abbrev u7 {a b c d e f g r s:Type} (x:a×b×c×d×e×f×g×r×s):=x.2.2.2.2.2.2.2.1
abbrev v8 {a b c d e f g h s:Type} (x:a×b×c×d×e×f×g×h×s):=x.2.2.2.2.2.2.2.2
abbrev u8 {a b c d e f g h r s:Type} (x:a×b×c×d×e×f×g×h×r×s):=x.2.2.2.2.2.2.2.2.1
abbrev v9 {a b c d e f g h i s:Type} (x:a×b×c×d×e×f×g×h×i×s):=x.2.2.2.2.2.2.2.2.2
abbrev u9 {a b c d e f g h i r s:Type} (x:a×b×c×d×e×f×g×h×i×r×s):=x.2.2.2.2.2.2.2.2.2.1
abbrev v10 {a b c d e f g h i j s:Type} (x:a×b×c×d×e×f×g×h×i×j×s):=x.2.2.2.2.2.2.2.2.2.2
abbrev u10 {a b c d e f g h i j r s:Type} (x:a×b×c×d×e×f×g×h×i×j×r×s):=x.2.2.2.2.2.2.2.2.2.2.1
abbrev v11 {a b c d e f g h i j k s:Type} (x:a×b×c×d×e×f×g×h×i×j×k×s):=x.2.2.2.2.2.2.2.2.2.2.2
abbrev u11 {a b c d e f g h i j k r s:Type} (x:a×b×c×d×e×f×g×h×i×j×k×r×s):=x.2.2.2.2.2.2.2.2.2.2.2.1
abbrev u12 {a b c d e f g h i j k l r s:Type} (x:a×b×c×d×e×f×g×h×i×j×k×l×r×s):=x.2.2.2.2.2.2.2.2.2.2.2.2.1
abbrev u13 {a b c d e f g h i j k l m r s:Type} (x:a×b×c×d×e×f×g×h×i×j×k×l×m×r×s):=x.2.2.2.2.2.2.2.2.2.2.2.2.2.1
abbrev u14 {a b c d e f g h i j k l m n r s:Type} (x:a×b×c×d×e×f×g×h×i×j×k×l×m×n×r×s):=x.2.2.2.2.2.2.2.2.2.2.2.2.2.2.1
abbrev u15 {a b c d e f g h i j k l m n o r s:Type} (x:a×b×c×d×e×f×g×h×i×j×k×l×m×n×o×r×s):=x.2.2.2.2.2.2.2.2.2.2.2.2.2.2.2.1
abbrev u16 {a b c d e f g h i j k l m n o p r s:Type} (x:a×b×c×d×e×f×g×h×i×j×k×l×m×n×o×p×r×s):=x.2.2.2.2.2.2.2.2.2.2.2.2.2.2.2.2.1
abbrev u17 {a b c d e f g h i j k l m n o p q r s:Type} (x:a×b×c×d×e×f×g×h×i×j×k×l×m×n×o×p×q×r×s):=x.2.2.2.2.2.2.2.2.2.2.2.2.2.2.2.2.2.1
abbrev u18 {a b c d e f g h i j k l m n o p q t r s:Type} (x:a×b×c×d×e×f×g×h×i×j×k×l×m×n×o×p×q×t×r×s):=x.2.2.2.2.2.2.2.2.2.2.2.2.2.2.2.2.2.2.1
abbrev u19 {a b c d e f g h i j k l m n o p q t u r s:Type} (x:a×b×c×d×e×f×g×h×i×j×k×l×m×n×o×p×q×t×u×r×s):=x.2.2.2.2.2.2.2.2.2.2.2.2.2.2.2.2.2.2.2.1
abbrev u20 {a b c d e f g h i j k l m n o p q t u v r s:Type} (x:a×b×c×d×e×f×g×h×i×j×k×l×m×n×o×p×q×t×u×v×r×s):=x.2.2.2.2.2.2.2.2.2.2.2.2.2.2.2.2.2.2.2.2.1
abbrev u21 {a b c d e f g h i j k l m n o p q t u v w r s:Type} (x:a×b×c×d×e×f×g×h×i×j×k×l×m×n×o×p×q×t×u×v×w×r×s):=x.2.2.2.2.2.2.2.2.2.2.2.2.2.2.2.2.2.2.2.2.2.1
abbrev u22 {a b c d e f g h i j k l m n o p q t u v w x r s:Type} (x:a×b×c×d×e×f×g×h×i×j×k×l×m×n×o×p×q×t×u×v×w×x×r×s):=x.2.2.2.2.2.2.2.2.2.2.2.2.2.2.2.2.2.2.2.2.2.2.1
abbrev v23 {a b c d e f g h i j k l m n o p q t u v w x y s:Type} (x:a×b×c×d×e×f×g×h×i×j×k×l×m×n×o×p×q×t×u×v×w×x×y×s):=x.2.2.2.2.2.2.2.2.2.2.2.2.2.2.2.2.2.2.2.2.2.2.2
abbrev u23 {a b c d e f g h i j k l m n o p q t u v w x y r s:Type} (x:a×b×c×d×e×f×g×h×i×j×k×l×m×n×o×p×q×t×u×v×w×x×y×r×s):=x.2.2.2.2.2.2.2.2.2.2.2.2.2.2.2.2.2.2.2.2.2.2.2.1
abbrev v24 {a b c d e f g h i j k l m n o p q t u v w x y z s:Type} (x:a×b×c×d×e×f×g×h×i×j×k×l×m×n×o×p×q×t×u×v×w×x×y×z×s):=x.2.2.2.2.2.2.2.2.2.2.2.2.2.2.2.2.2.2.2.2.2.2.2.2
end Prod
namespace Nore
noncomputable section
abbrev tqN:Type:=Int×(List Y2)×Int
abbrev tqM:Type:=(List Zr)×Int×CoRecord
abbrev tqL:Type:=Int×(List Zq)×Int×Int
abbrev tqK:Type:=Int×ByteArray×ByteArray×Nat
abbrev tqJ:Type:=Int×(List ByteArray)×CoRecord
abbrev tqI:Type:=Int×(List Int)×Int×Int×Int
abbrev tqH:Type:=ByteArray×Int×(List ByteArray)
abbrev tqG:Type:=Int×Int×(List Y2)×Int×Int
abbrev tqF:Type:=Int×(List Zr)×Int×CoRecord
abbrev tqE:Type:=Int×(List Zq)×Int×CoRecord
abbrev tqD:Type:=Int×(List Zm)×Int×CoRecord
abbrev tqC:Type:=Int×(List Zm)×Int×Zm
abbrev tqB:Type:=Int×Int×(List ByteArray)×CoRecord
abbrev tqA:Type:=(Int×Int×Int×Zq×Zq)⊕Int
abbrev tqz:Type:=Int×(List Int)×(List Int)×(List Int)×Int
abbrev tqy:Type:=Int×(Nat->Y2)×Zc×(Nat->Y2)
abbrev tqx:Type:=(Int×Int×CoRecord×Zr×Zr)⊕CoRecord
abbrev tqw:Type:=(Int×Int×CoRecord×Zq×Zq)⊕CoRecord
abbrev tqv:Type:=Int×(List Int)×(List Zr)×Int×(List Zr)
abbrev tqu:Type:=(List Int)×(List Zr)×Int×Int×Int×CoRecord
abbrev tqt:Type:=(List Int)×(List Zr)×Int×(List Int)×CoRecord
abbrev tqs:Type:=Int×(List Zr)×Int×Bool×(List Int)×CoRecord
abbrev tqr:Type:=(Bool×ByteArray×Nat)⊕tqK
abbrev tqq:Type:=Zc×Zc×(Nat->Y2)×Bool×Zc
abbrev tqp:Type:=(List Int)×Int×(List Zr)×Int×Int×(List Int)×CoRecord
abbrev tqo:Type:=(Bool×CoRecord)⊕((List Int)×(List Zr)×Int×Int×CoRecord)
abbrev tqn:Type:=Int×(List Zb)×(Nat->Y2)×Zc×(Nat->Y2)
abbrev tqm:Type:=Int×Int×(List Zb)×(Nat->Y2)×Zc×(Nat->Y2)
abbrev tql:Type:=(Int×Int×Int×(List ByteArray)×CoRecord)⊕((List ByteArray)×CoRecord)
abbrev tqk:Type:=Int×Int×Int×(List Zb)×(Nat->Y2)×Zc×(Nat->Y2)
abbrev tqj:Type:=(Int×Int×Int×(List ByteArray)×CoRecord×Zq)⊕((List ByteArray)×CoRecord)
abbrev tqi:Type:=Int×(List Zq)×Int×Zc×Zc×(Nat->Y2)×Bool×Zc
abbrev tqh:Type:=((Nat->Y2)×Int×(List Zb)×Zc×Bool×Zc×Zc)
abbrev tqg:Type:=Zb×Zc×Bool×Bool×Zc×Zb×Zc×Zq
abbrev tqf:Type:=(List Zb)×Int×Int×Int×Int×(List Zb)×(Nat->Y2)×Zc×(Nat->Y2)
abbrev tqe:Type:=Zb×Zc×Bool×(Nat->Y2)×Bool×Zc×Zb×Zc×Zq
abbrev tqd:Type:=Int×Int×(List Zr)×(List Zr)×Int×Int×Int×Bool×(List Zr)×CoRecord×(List Int)×(List Int)
abbrev tqc:Type:=Int×Int×Int×Int×Int×Int×(List Zb)×(List Zb)×(Nat->Y2)×Zc×(Nat->Y2)
abbrev tqb:Type:=((Bool×Zc×Bool×Zc×Zc)⊕(Bool×Zc×Bool×Zc×Zc))
abbrev tqa:Type:=Zb×Zc×Bool×Bool×Zc×Zb×(List Zb)×(List Zb)×Zc×Zq
abbrev tq9:Type:=(List Zb)×Zb×Zc×Bool×(Nat->Y2)×Bool×Zc×Zb×(List Zb)×Zc×Zq
abbrev tq8:Type:=Zb×Zc×(List Zb)×Bool×(Nat->Y2)×Bool×Zc×Zb×Zc×Zq×(List Zb)
abbrev tq7:Type:=Zb×Zc×Bool×(Nat->Y2)×Bool×Zc×(List Zb)×Zb×Zc×Zq×(List Zb)
abbrev tq6:Type:=(Int×Int×Int×(List ByteArray)×CoRecord×Zm×(List ByteArray))⊕(Int×Int×Int×(List ByteArray)×CoRecord×Zm×(List ByteArray))⊕((List ByteArray)×CoRecord)
abbrev tq5:Type:=(Int×(List Zr)×Int×Bool×(List Int)×(List Zr)×Zr×CoRecord×(List Int)×(List Int))⊕(Int×(List Zr)×Int×Bool×(List Zr)×CoRecord×(List Int)×(List Int))
abbrev tq4:Type:=Int×Int×Int×(Nat->Y2)×Zb×Zc×Bool×(Nat->Y2)×Bool×Int×Zc×(List Zq)×(List Zq)×Zr×(List Zb)×Zc×Zc×Int×Int×Bool×(Nat->Y2)×Bool×Int×Bool
abbrev tq3:Type:=Int×Int×Int×(Nat->Y2)×Zb×Zc×Bool×(Nat->Y2)×Bool×Int×Zc×(List Zq)×(List Zq)×Zr×(List Zb)×Zc×Zc×Int×Int×Bool×(Nat->Y2)×Bool×Int×Bool×(List Zb)
abbrev tq2:Type:=(Int×Int×CoRecord×Zm×Zm)⊕(Int×Int×Zm×CoRecord×Zm×Zm)⊕(Int×Int×(List Int)×Zm×CoRecord×Zm×Zm)⊕(Int×Int×(List Int)×(List Int)×Zm×CoRecord×Zm×Zm)⊕(Int×Int×CoRecord×Zm×Zm×(List Int))⊕(Int×Int×CoRecord×Zm×Zm×(List Int)×(List Int))⊕CoRecord
abbrev tq1:Type:=((Nat->Y2)×Zb×Zc×Bool×(Nat->Y2)×(Nat->Y2)×Bool×Int×Zc×(List Zq)×(List Zb)×Zb×(List Zq)×Zr×(List Zb)×Zc×Zc×Zq×Int×(List Zb)×Int×Bool×(Nat->Y2)×Bool×Int×Bool)⊕((Nat->Y2)×Zb×Zc×Bool×(Nat->Y2)×(Nat->Y2)×Bool×Int×Zc×(List Zq)×(List Zb)×Zb×(List Zq)×Zr×(List Zb)×Zc×Zc×Zq×Int×(List Zb)×Int×Bool×(Nat->Y2)×Bool×Int×Bool)⊕((Nat->Y2)×Zb×Zc×Bool×(Nat->Y2)×(Nat->Y2)×Bool×Int×Zc×(List Zq)×Zb×(List Zq)×Zr×(List Zb)×Zc×Zc×Zq×Int×Int×Bool×(Nat->Y2)×Bool×Int×Bool)⊕((Nat->Y2)×Zb×Zc×Bool×(Nat->Y2)×(Nat->Y2)×Bool×Int×Zc×(List Zq)×Zb×(List Zq)×Zr×(List Zb)×Zc×Zc×Zq×Int×Int×Bool×(Nat->Y2)×Bool×Int×Bool)⊕((Nat->Y2)×Zb×Zc×(List Zb)×Bool×(Nat->Y2)×(Nat->Y2)×Bool×Int×Zc×(List Zq)×Zb×(List Zq)×Zr×(List Zb)×Zc×Zc×Zq×Int×Int×(List Zb)×Bool×(Nat->Y2)×Bool×Int×Bool)⊕((Nat->Y2)×Zb×Zc×(List Zb)×Bool×(Nat->Y2)×(Nat->Y2)×Bool×Int×Zc×(List Zq)×Zb×(List Zq)×Zr×(List Zb)×Zc×Zc×Zq×Int×Int×(List Zb)×Bool×(Nat->Y2)×Bool×Int×Bool)⊕((Nat->Y2)×Zb×Zc×Bool×(Nat->Y2)×(Nat->Y2)×Bool×Int×Zc×(List Zq)×Zb×(List Zq)×Zr×(List Zb)×Zc×Zc×Zq×Int×Int×Bool×(Nat->Y2)×Bool×Int×Bool)⊕((Nat->Y2)×Zb×Zc×Bool×(Nat->Y2)×(Nat->Y2)×Bool×Int×Zc×(List Zq)×Zb×(List Zq)×Zr×(List Zb)×Zc×Zc×Zq×Int×Int×Bool×(Nat->Y2)×Bool×Int×Bool)⊕((List Zb)×(Nat->Y2)×Zb×Zc×Bool×(Nat->Y2)×(Nat->Y2)×Bool×Int×Zc×(List Zq)×Zb×(List Zq)×Zr×(List Zb)×Zc×(List Zb)×Zc×Zq×Int×Int×Bool×(Nat->Y2)×Bool×Int×Bool)⊕((List Zb)×(Nat->Y2)×Zb×Zc×Bool×(Nat->Y2)×(Nat->Y2)×Bool×Int×Zc×(List Zq)×Zb×(List Zq)×Zr×(List Zb)×Zc×(List Zb)×Zc×Zq×Int×Int×Bool×(Nat->Y2)×Bool×Int×Bool)⊕((Nat->Y2)×Zb×Zc×Bool×(Nat->Y2)×(Nat->Y2)×Bool×Int×Zc×(List Zq)×Zb×(List Zq)×Zr×(List Zb)×Zc×Zc×Zq×Int×Int×Bool×(Nat->Y2)×Bool×Int×Bool)⊕((Nat->Y2)×Zb×Zc×Bool×(Nat->Y2)×(Nat->Y2)×Bool×Int×Zc×(List Zq)×Zb×(List Zq)×Zr×(List Zb)×Zc×Zc×Zq×Int×Int×Bool×(Nat->Y2)×Bool×Int×Bool)⊕((Nat->Y2)×Zb×Zc×Bool×(Nat->Y2)×(Nat->Y2)×Bool×Int×Zc×(List Zq)×Zb×(List Zb)×(List Zb)×(List Zq)×Zr×(List Zb)×Zc×Zc×Zq×Int×Int×Bool×(Nat->Y2)×Bool×Int×Bool)⊕((Nat->Y2)×Zb×Zc×Bool×(Nat->Y2)×(Nat->Y2)×Bool×Int×Zc×(List Zq)×Zb×(List Zb)×(List Zb)×(List Zq)×Zr×(List Zb)×Zc×Zc×Zq×Int×Int×Bool×(Nat->Y2)×Bool×Int×Bool)⊕((Nat->Y2)×Zb×Zc×Bool×(Nat->Y2)×(Nat->Y2)×Bool×Int×Zc×(List Zq)×Zb×(List Zq)×Zr×(List Zb)×Zc×Zc×Zq×Int×Int×Bool×(Nat->Y2)×Bool×Int×Bool)⊕((Nat->Y2)×Zb×Zc×Bool×(Nat->Y2)×(Nat->Y2)×Bool×Int×Zc×(List Zq)×Zb×(List Zq)×Zr×(List Zb)×Zc×Zc×Zq×Int×Int×Bool×(Nat->Y2)×Bool×Int×Bool)⊕((Nat->Y2)×Zb×Zc×Bool×(Nat->Y2)×Bool×Int×Zc×(List Zq)×(List Zq)×Zr×(List Zb)×Zc×Zc×Int×Int×Bool×(Nat->Y2)×Bool×Int×Bool)
abbrev tq0:Type:=((Nat->Y2)×Zb×Zc×Bool×(Nat->Y2)×(Nat->Y2)×Bool×Int×Zc×(List Zq)×(List Zb)×Zb×(List Zq)×Zr×(List Zb)×Zc×Zc×Zq×Int×(List Zb)×Int×Bool×(Nat->Y2)×Bool×Int×Bool×(List Zb))⊕((Nat->Y2)×Zb×Zc×Bool×(Nat->Y2)×(Nat->Y2)×Bool×Int×Zc×(List Zq)×(List Zb)×Zb×(List Zq)×Zr×(List Zb)×Zc×Zc×Zq×Int×(List Zb)×Int×Bool×(Nat->Y2)×Bool×Int×Bool×(List Zb))⊕((Nat->Y2)×Zb×Zc×Bool×(Nat->Y2)×(Nat->Y2)×Bool×Int×Zc×(List Zq)×Zb×(List Zq)×Zr×(List Zb)×Zc×Zc×Zq×Int×Int×Bool×(Nat->Y2)×Bool×Int×Bool×(List Zb))⊕((Nat->Y2)×Zb×Zc×Bool×(Nat->Y2)×(Nat->Y2)×Bool×Int×Zc×(List Zq)×Zb×(List Zq)×Zr×(List Zb)×Zc×Zc×Zq×Int×Int×Bool×(Nat->Y2)×Bool×Int×Bool×(List Zb))⊕((Nat->Y2)×Zb×Zc×(List Zb)×Bool×(Nat->Y2)×(Nat->Y2)×Bool×Int×Zc×(List Zq)×Zb×(List Zq)×Zr×(List Zb)×Zc×Zc×Zq×Int×Int×(List Zb)×Bool×(Nat->Y2)×Bool×Int×Bool×(List Zb))⊕((Nat->Y2)×Zb×Zc×(List Zb)×Bool×(Nat->Y2)×(Nat->Y2)×Bool×Int×Zc×(List Zq)×Zb×(List Zq)×Zr×(List Zb)×Zc×Zc×Zq×Int×Int×(List Zb)×Bool×(Nat->Y2)×Bool×Int×Bool×(List Zb))⊕((Nat->Y2)×Zb×Zc×Bool×(Nat->Y2)×(Nat->Y2)×Bool×Int×Zc×(List Zq)×Zb×(List Zq)×Zr×(List Zb)×Zc×Zc×Zq×Int×Int×Bool×(Nat->Y2)×Bool×Int×Bool×(List Zb))⊕((Nat->Y2)×Zb×Zc×Bool×(Nat->Y2)×(Nat->Y2)×Bool×Int×Zc×(List Zq)×Zb×(List Zq)×Zr×(List Zb)×Zc×Zc×Zq×Int×Int×Bool×(Nat->Y2)×Bool×Int×Bool×(List Zb))⊕((List Zb)×(Nat->Y2)×Zb×Zc×Bool×(Nat->Y2)×(Nat->Y2)×Bool×Int×Zc×(List Zq)×Zb×(List Zq)×Zr×(List Zb)×Zc×(List Zb)×Zc×Zq×Int×Int×Bool×(Nat->Y2)×Bool×Int×Bool×(List Zb))⊕((List Zb)×(Nat->Y2)×Zb×Zc×Bool×(Nat->Y2)×(Nat->Y2)×Bool×Int×Zc×(List Zq)×Zb×(List Zq)×Zr×(List Zb)×Zc×(List Zb)×Zc×Zq×Int×Int×Bool×(Nat->Y2)×Bool×Int×Bool×(List Zb))⊕((Nat->Y2)×Zb×Zc×Bool×(Nat->Y2)×(Nat->Y2)×Bool×Int×Zc×(List Zq)×Zb×(List Zq)×Zr×(List Zb)×Zc×Zc×Zq×Int×Int×Bool×(Nat->Y2)×Bool×Int×Bool×(List Zb))⊕((Nat->Y2)×Zb×Zc×Bool×(Nat->Y2)×(Nat->Y2)×Bool×Int×Zc×(List Zq)×Zb×(List Zq)×Zr×(List Zb)×Zc×Zc×Zq×Int×Int×Bool×(Nat->Y2)×Bool×Int×Bool×(List Zb))⊕((Nat->Y2)×Zb×Zc×Bool×(Nat->Y2)×(Nat->Y2)×Bool×Int×Zc×(List Zq)×Zb×(List Zb)×(List Zb)×(List Zq)×Zr×(List Zb)×Zc×Zc×Zq×Int×Int×Bool×(Nat->Y2)×Bool×Int×Bool×(List Zb))⊕((Nat->Y2)×Zb×Zc×Bool×(Nat->Y2)×(Nat->Y2)×Bool×Int×Zc×(List Zq)×Zb×(List Zb)×(List Zb)×(List Zq)×Zr×(List Zb)×Zc×Zc×Zq×Int×Int×Bool×(Nat->Y2)×Bool×Int×Bool×(List Zb))⊕((Nat->Y2)×Zb×Zc×Bool×(Nat->Y2)×(Nat->Y2)×Bool×Int×Zc×(List Zq)×Zb×(List Zq)×Zr×(List Zb)×Zc×Zc×Zq×Int×Int×Bool×(Nat->Y2)×Bool×Int×Bool×(List Zb))⊕((Nat->Y2)×Zb×Zc×Bool×(Nat->Y2)×(Nat->Y2)×Bool×Int×Zc×(List Zq)×Zb×(List Zq)×Zr×(List Zb)×Zc×Zc×Zq×Int×Int×Bool×(Nat->Y2)×Bool×Int×Bool×(List Zb))⊕((Nat->Y2)×Zb×Zc×Bool×(Nat->Y2)×Bool×Int×Zc×(List Zq)×(List Zq)×Zr×(List Zb)×Zc×Zc×Int×Int×Bool×(Nat->Y2)×Bool×Int×Bool×(List Zb))
abbrev vx:Option (TV S):=some (.bool false)
abbrev vw:Option (TV S):=some (.int .i64 0)
abbrev vv:Option (TV S):=some (.sl (.st 28) [])
abbrev vu:Option (TV S):=some (.sl (.st 21) [])
abbrev vt:Option (TV S):=some (.sl (.st 19) [])
abbrev vs:Option (TV S):=some (.sl (.int .i64) [])
abbrev or:Option (Zo S):=some (.row 9 .str [] 1 0)
abbrev vq:Option (TV S):=some (.str ByteArray.empty)
abbrev op:Option (Zo S):=some (.cells 171 [(.yld 3)])
abbrev oo:Option (Zo S):=some (.row 38 (.st 21) [] 1 0)
abbrev on:Option (Zo S):=some (.row 67 (.st 19) [] 1 0)
abbrev om:Option (Zo S):=some (.row 180 (.st 28) [] 0 0)
abbrev ol:Option (Zo S):=some (.row 180 (.st 28) [] 1 1)
abbrev ok:Option (Zo S):=some (.cells 4 [(.bool false)])
abbrev oj:Option (Zo S):=some (.siter ByteArray.empty 0)
abbrev oi:Option (Zo S):=some (.cells 3 [(.int .i64 0)])
abbrev oh:Option (Zo S):=some (.row 3 (.int .i64) [] 1 0)
abbrev og:Option (Zo S):=some (.cells 173 [(.sl (.st 28) [])])
abbrev of:Option (Zo S):=some (.cells 97 [(.stc 25 (T.dflt 25))])
abbrev oe:Option (Zo S):=some (.cells 38 [(.stc 21 (T.dflt 21))])
abbrev od:Option (Zo S):=some (.cells 67 [(.stc 19 (T.dflt 19))])
abbrev oc:Option (Zo S):=some (.cells 79 [(.stc 18 (T.dflt 18))])
abbrev ob:Option (Zo S):=some (.cells 25 [(.stc 20 (T.dflt 20))])
abbrev oa:Option (Zo S):=some (.cells 180 [(.stc 28 (T.dflt 28))])
abbrev v9:Option (TV S):=some (.tup [(.int .i64 0),(.int .i64 0)])
abbrev v8:Option (TV S):=some (.agg [(.arr (.st 5) 10 (fun _=>tdf T (.st 5)))])
abbrev o7:Option (Zo S):=some (.cells 131 [(.arr (.st 5) 10 (fun _=>tdf T (.st 5)))])
abbrev v6:Option (TV S):=some (.fn (.func 154) [] [(.ptr 40 0),(.ptr 41 0),(.ptr 42 0)])
abbrev o5:Option (Zo S):=some (.cells 172 [(.fn (.func 126) [] [(.ptr 5 0),(.ptr 4 0),(.ptr 0 0)])])
abbrev o4:Option (Zo S):=some (.loop 60 (N (N L (some (.ptr 2 0)) L) (some (.agg [(.stc 25 (T.dflt 25))])) (N (N L (some (.fn (.func 125) [] [(.ptr 5 0)])) L) (some (.ptr 1 0)) L)) (5::[]) .skip .skip 0 .ret (0::(60::[])) (0::(1::(0::(1::[])))))
abbrev o3:Option (Zo S):=some (.loop 60 (N (N L (some (.ptr 2 0)) L) (some (.agg [(.stc 25 (T.dflt 25))])) (N (N L (some (.fn (.func 125) [] [(.ptr 1 0)])) L) (some (.ptr 0 0)) L)) (5::[]) .skip .skip 0 .normal (0::(60::[])) (0::(1::(0::(1::[])))))
abbrev o2:Option (Zo S):=some (.loop 60 (N (N L (some (.ptr 2 0)) L) (some (.agg [(.stc 25 (T.dflt 25))])) (N (N L (some (.fn (.func 125) [] [(.ptr 5 0)])) L) (some (.ptr 1 0)) L)) (5::[]) .skip .skip 0 .normal (0::(60::[])) (0::(1::(0::(1::[])))))
abbrev o1:Option (Zo S):=some (.loop 126 (N (N (N (N L (some (.ptr 7 0)) L) (some (.ptr 5 0)) (N L vx (N (N L v6 L) none L))) v8 (N (N L (some (.ptr 9 0)) L) (some (.ptr 0 0)) (N L none (N L vx L)))) vw (N (N (N L (some (.ptr 8 0)) (N L vx L)) (some (.ptr 4 0)) (N L (some (.ptr 32 0)) L)) (some .sl0) (N (N L (some (.ptr 17 0)) L) (some (.ptr 6 0)) L))) (44::[]) .skip .skip 0 .ret (0::(126::[])) (0::(1::(0::(1::(1::(1::(1::(1::[])))))))))
abbrev o0:Option (Zo S):=some (.loop 126 (N (N (N (N L (some (.ptr 7 0)) L) (some (.ptr 5 0)) (N L vx (N (N L v6 L) none L))) v8 (N (N L (some (.ptr 9 0)) L) (some (.ptr 0 0)) (N L none (N L vx L)))) vw (N (N (N L (some (.ptr 8 0)) (N L vx L)) (some (.ptr 4 0)) (N L (some (.ptr 32 0)) L)) vv (N (N L (some (.ptr 17 0)) L) (some (.ptr 6 0)) L))) (44::[]) .skip .skip 0 .ret (0::(126::[])) (0::(1::(0::(1::(1::(1::(1::(1::[])))))))))
abbrev o1h:Tr (Zo S):=N L none (N (N L oh L) none L)
abbrev o1g:Tr (Zo S):=N (N (N L oh L) none L) none L
abbrev o1f:Tr (Zo S):=N (N (N L oj L) none L) none L
abbrev v1e:Tr (TV S):=N (N L none (N L vw L)) none L
abbrev v1d:Tr (TV S):=N (N (N L vw L) none L) none L
abbrev v1c:Tr (TV S):=N L none (N (N L vw L) none L)
abbrev v1b:Tr (TV S):=N (N L vs L) (some (.ptr 0 0)) L
abbrev o1a:Tr (Zo S):=N L none (N (N (N L oc L) oc L) none L)
abbrev v19:Tr (TV S):=N (N (N L vw L) none L) none (N (N L vw L) vw L)
abbrev v18:Tr (TV S):=N (N L none (N L vw L)) none (N (N L vw L) none L)
abbrev o17:Tr (Zo S):=N (N L none (N (N (N L or L) none L) none L)) ob L
abbrev o16:Tr (Zo S):=N (N L none (N (N L none (N L oc L)) none L)) none L
abbrev o15:Tr (Zo S):=N L none (N L none (N (N (N L oc L) none L) none L))
abbrev o14:Tr (Zo S):=N (N (N L o3 L) of (N L o7 L)) ok (N (N L op L) of L)
abbrev o13:Tr (Zo S):=N (N (N L o4 L) ok (N L of L)) o5 (N (N L op L) of L)
abbrev o12:Tr (Zo S):=N (N (N L o2 L) ok (N L of L)) o5 (N (N L op L) of L)
abbrev v11:Tr (TV S):=N (N L (some (.ptr 5 0)) L) v8 (N L (some (.ptr 0 0)) L)
abbrev v10:Tr (TV S):=N L none (N (N (N L vw L) (some (.ptr 1 0)) (N L vw L)) vv (N L (some (.ptr 2 0)) L))
abbrev oZ:Tr (Zo S):=N (N (N L none (N L none (N L oo L))) none L) ob (N (N L none (N L none (N L oh L))) none (N (N L none (N L oh L)) none L))
abbrev vY:Tr (TV S):=N (N v1c none L) none (N (N (N L vw L) (some (.ptr 1 0)) (N (N L vw L) none L)) vv (N L (some (.ptr 2 0)) L))
abbrev oX:Tr (Zo S):=N (N (N (N (N (N (N L ol L) on L) oe L) none L) og (N (N L of L) none L)) op L) of (N (N L none (N (N (N L od L) oi L) none L)) oi (N L none (N (N L o1 L) none L)))
abbrev oW:Tr (Zo S):=N (N (N (N (N (N (N L ol L) on L) oe L) none L) og (N (N L of L) none L)) op L) of (N (N L none (N (N (N L od L) oi L) none L)) oi (N L none (N (N L o0 L) none L)))
abbrev oV:Tr (Zo S):=N (N (N (N (N (N L on L) oe L) none L) og (N (N L of L) none L)) op L) of (N (N L none (N (N (N L od L) oi L) none L)) oi (N L none (N (N (N (N L ol L) none L) o1 L) none L)))
abbrev oU:Tr (Zo S):=N (N (N (N (N (N L on L) oe L) none L) og (N (N L of L) none L)) op L) of (N (N L none (N (N (N L od L) oi L) none L)) oi (N L none (N (N (N (N L ol L) none L) o0 L) none L)))
abbrev oT:Tr (Zo S):=N (N L none (N (N (N L (some (.row 9 .str [] 1 1)) L) none L) none L)) ob (N (N L none (N L none (N L oc L))) none (N L none (N (N (N L (some (.row 9 .str [] 0 0)) L) none L) none L)))
abbrev oS:Tr (Zo S):=N (N (N (N (N (N L on L) oe L) none L) og (N (N L of L) none L)) op L) of (N (N L none (N (N (N L od L) oi L) none (N (N (N L om L) none L) none L))) oi (N L none (N (N L o1 L) none L)))
abbrev oR:Tr (Zo S):=N (N (N (N (N (N L on L) oe L) none L) og (N (N L of L) none L)) op L) of (N (N L none (N (N (N L od L) oi L) none (N (N (N L om L) none L) none L))) oi (N L none (N (N L o0 L) none L)))
abbrev oQ:Tr (Zo S):=N (N (N L o7 (N L none (N L oa L))) o4 L) ok (N (N (N (N L none (N L o7 L)) o7 L) ok (N (N L oi L) none L)) of (N (N (N (N L on L) none L) none L) none (N L none (N (N L oa L) none (N L om L)))))
abbrev oP:Tr (Zo S):=N (N (N L o7 (N L none (N L oa L))) o2 L) ok (N (N (N (N L none (N L o7 L)) o7 L) ok (N (N L oi L) none L)) of (N (N (N (N L on L) none L) none L) none (N L none (N (N L oa L) none (N L om L)))))
abbrev oO:Tr (Zo S):=N (N (N L o7 (N L none (N L oa L))) o4 L) ok (N (N (N (N L none (N L o7 L)) o7 L) ok (N (N L oi L) none L)) of (N (N (N (N L on L) none L) none L) none (N L none (N (N (N L ol L) oa L) none L))))
abbrev oN:Tr (Zo S):=N (N (N L o7 (N L none (N L oa L))) o2 L) ok (N (N (N (N L none (N L o7 L)) o7 L) ok (N (N L oi L) none L)) of (N (N (N (N L on L) none L) none L) none (N L none (N (N (N L ol L) oa L) none L))))
abbrev vM:Tr (TV S):=N (N (N L (some (.ptr 42 0)) L) none (N (N L none (N L vw L)) (some (.ptr 55 0)) L)) (some (.yld 46)) (N (N (N L none (N L (some (.rs 69 0)) L)) none L) (some (.ptr 41 0)) (N (N L none (N L vw L)) vw L))
abbrev oL:Tr (Zo S):=N (N (N (N (N (N L on L) oe L) none L) og (N (N L of L) none L)) op (N L none (N (N (N (N L om L) none L) none L) none L))) of (N (N L none (N (N (N L od L) oi L) none L)) oi (N L none (N (N L o1 L) none L)))
abbrev oK:Tr (Zo S):=N (N (N (N (N (N L on L) oe L) none L) og (N (N L of L) none L)) op (N L none (N (N (N (N L om L) none L) none L) none L))) of (N (N L none (N (N (N L od L) oi L) none L)) oi (N L none (N (N L o0 L) none L)))
abbrev oJ:Tr (Zo S):=N (N (N (N L none (N (N (N L ol L) none L) none L)) o7 (N L none (N L oa L))) o4 L) ok (N (N (N (N L none (N L o7 L)) o7 L) ok (N (N L oi L) none L)) of (N (N (N (N L on L) none L) none L) none (N L none (N (N L oa L) none L))))
abbrev oI:Tr (Zo S):=N (N (N (N L none (N (N (N L ol L) none L) none L)) o7 (N L none (N L oa L))) o2 L) ok (N (N (N (N L none (N L o7 L)) o7 L) ok (N (N L oi L) none L)) of (N (N (N (N L on L) none L) none L) none (N L none (N (N L oa L) none L))))
abbrev vH:Tr (TV S):=N (N (N (N L none (N L none (N (N L vv L) none L))) none L) none (N (N L none v1c) none L)) none (N (N (N L vw v1c) (some (.ptr 1 0)) (N L vw L)) vv (N L (some (.ptr 2 0)) L))
abbrev oG:Tr (Zo S):=N (N (N L o7 (N L none (N L oa L))) o4 (N L none (N (N (N (N L om L) none L) none L) none L))) ok (N (N (N (N L none (N L o7 L)) o7 L) ok (N (N L oi L) none L)) of (N (N (N (N L on L) none L) none L) none (N L none (N (N L oa L) none L))))
abbrev oF:Tr (Zo S):=N (N (N L o7 (N L none (N L oa L))) o2 (N L none (N (N (N (N L om L) none L) none L) none L))) ok (N (N (N (N L none (N L o7 L)) o7 L) ok (N (N L oi L) none L)) of (N (N (N (N L on L) none L) none L) none (N L none (N (N L oa L) none L))))
abbrev vE:Tr (TV S):=N (N (N v1c none (N (N L vw L) none L)) none (N (N L vw L) none L)) none (N (N (N L vw (N (N L vw L) none L)) (some (.ptr 1 0)) (N (N L vw L) none L)) vv (N L (some (.ptr 2 0)) (N (N (N L vv L) none L) none L)))
abbrev oD:Tr (Zo S):=N (N (N (N L o7 (N L none (N L oa L))) o4 L) ok (N (N (N (N L none (N L o7 L)) o7 L) ok (N (N L oi L) none L)) of (N (N (N (N L on L) none L) none L) none (N L none (N (N L oa L) none L))))) o5 (N (N (N (N (N (N L on L) oe L) none L) og (N (N L of L) none L)) op L) of (N (N L none (N (N (N L od L) oi L) none L)) oi (N L none (N (N L o1 L) none L))))
abbrev oC:Tr (Zo S):=N (N (N (N L o7 (N L none (N L oa L))) o2 L) ok (N (N (N (N L none (N L o7 L)) o7 L) ok (N (N L oi L) none L)) of (N (N (N (N L on L) none L) none L) none (N L none (N (N L oa L) none L))))) o5 (N (N (N (N (N (N L on L) oe L) none L) og (N (N L of L) none L)) op L) of (N (N L none (N (N (N L od L) oi L) none L)) oi (N L none (N (N L o1 L) none L))))
abbrev oB:Tr (Zo S):=N (N (N (N L o7 (N L none (N L oa L))) o4 L) ok (N (N (N (N L none (N L o7 L)) o7 L) ok (N (N L oi L) none L)) of (N (N (N (N L on L) none L) none L) none (N L none (N (N L oa L) none L))))) o5 (N (N (N (N (N (N L on L) oe L) none L) og (N (N L of L) none L)) op L) of (N (N L none (N (N (N L od L) oi L) none L)) oi (N L none (N (N L o0 L) none L))))
abbrev oA:Tr (Zo S):=N (N (N (N L o7 (N L none (N L oa L))) o2 L) ok (N (N (N (N L none (N L o7 L)) o7 L) ok (N (N L oi L) none L)) of (N (N (N (N L on L) none L) none L) none (N L none (N (N L oa L) none L))))) o5 (N (N (N (N (N (N L on L) oe L) none L) og (N (N L of L) none L)) op L) of (N (N L none (N (N (N L od L) oi L) none L)) oi (N L none (N (N L o0 L) none L))))
abbrev oz:Tr (Zo S):=N (N (N (N L o7 (N L none (N L oa L))) o2 L) ok (N (N (N L o7 L) ok (N (N L oi L) none L)) of (N (N (N (N L on L) none L) none L) none L))) o5 (N (N (N (N (N (N L on L) oe L) none L) og (N (N L of L) none L)) op L) of (N (N L none (N (N L oi L) none L)) oi (N L none (N (N L (some (.loop 126 (N (N (N (N L (some (.ptr 7 0)) L) (some (.ptr 5 0)) (N L vx (N (N L v6 L) none L))) v8 (N (N L (some (.ptr 9 0)) L) (some (.ptr 0 0)) (N L none (N L vx L)))) vw (N (N (N L (some (.ptr 8 0)) (N L vx L)) (some (.ptr 4 0)) (N L (some (.ptr 32 0)) L)) vv (N (N L (some (.ptr 17 0)) L) (some (.ptr 6 0)) L))) (44::[]) .skip .skip 0 .normal (0::(126::[])) (0::(1::(0::(1::(1::(1::(1::(1::[])))))))))) L) none L))))
abbrev oy:Tr (Zo S):=N (N (N (N L o7 (N L none (N L oa L))) o2 L) ok (N (N (N L o7 L) ok (N (N L oi L) none L)) of (N (N (N (N L on L) none L) none L) none L))) o5 (N (N (N (N (N (N L on L) oe L) none L) og (N (N L of L) none L)) op L) of (N (N L none (N (N L oi L) none L)) oi (N L none (N (N L (some (.loop 126 (N (N (N (N L (some (.ptr 7 0)) L) (some (.ptr 5 0)) (N L vx (N (N L v6 L) none L))) v8 (N (N L (some (.ptr 9 0)) L) (some (.ptr 0 0)) (N L none (N L vx L)))) vw (N (N (N L (some (.ptr 8 0)) (N L vx L)) (some (.ptr 4 0)) (N L (some (.ptr 32 0)) L)) (some .sl0) (N (N L (some (.ptr 17 0)) L) (some (.ptr 6 0)) L))) (44::[]) .skip .skip 0 .normal (0::(126::[])) (0::(1::(0::(1::(1::(1::(1::(1::[])))))))))) L) none L))))
def q0 {R:Type}:Prs S R:=Zk2
theorem q1 {R:Type}:Z93 X (q0 (R:=R)):=Zk3 X
def q2:List (Nat×F7 S):=[]
theorem q3:ZaC X (q2):=trivial
abbrev q4 {R:Type}:Z2K S R:=ZiZ
theorem q5 {R:Type}:Z4g X (q4 (R:=R)):=ZjA X
theorem q6 (x0 x1 x2:Int):Zkf X q2 [(.int .i64),(.int .i64),(.int .i64)] [.bool] q0 q4 12 62 (x0,x1,x2,())=X1P x0 x1 x2:=by kernel_rfl
def q7:F7 S:=⟨[(.int .i64),(.int .i64),(.int .i64)],[.bool],fun xs=>X1Y xs.1 xs.2.1 xs.u2⟩
theorem q8:Zgf X 62 q7:=Zkc (Zkb xok q3 q1 q5 12 62) fun xs _ h=>((q6 xs.1 xs.2.1 xs.u2).trans (X3z xs.1 xs.2.1 xs.u2).symm).trans h
theorem qd (x0 x1 x2:Int):Zkf X q2 [(.int .i64),(.int .i64),(.int .i64)] [.bool] q0 q4 12 121 (x0,x1,x2,())=X2a x0 x1 x2:=by kernel_rfl
def qe:F7 S:=⟨[(.int .i64),(.int .i64),(.int .i64)],[.bool],fun xs=>X2a xs.1 xs.2.1 xs.u2⟩
theorem qf:Zgf X 121 qe:=Zkc (Zkb xok q3 q1 q5 12 121) fun xs _ h=>(qd xs.1 xs.2.1 xs.u2).trans h
def qg:List (Nat×F7 S):=[(121,qe)]
theorem qh:ZaC X (qg):=⟨qf,trivial⟩
def qk:Key:=⟨[131],131,none,[0,0,1,0,1,1],0,6⟩
def ql:StT S:=⟨(N (N (N L vw L) none L) vq L),L,6⟩
def qm:Way S:=⟨.ret,⟨(N L none (N L vx L)),L,43⟩,[.bool]⟩
def qn:Way S:=⟨(.exit 0),⟨L,L,10⟩,[]⟩
def qo:LE S:=⟨qk,ql,[.int,.str],[qm,qn]⟩
def qp (x:(Int×ByteArray)):(Bool⊕Unit)->(Bool⊕Unit):=Sum.elim (fun y0=>(.inl y0)) (fun y1=>(.inr ()))
def qq {R:Type} (x:(Int×ByteArray)) (k:(Bool⊕Unit)->Option R):Option R:=(X2l x.2 x.1).bind (Sum.elim (fun y0=>k (.inl y0)) (fun y1=>k (.inr ())))
def qr (x:(Int×ByteArray)) (v:Int):(Int×ByteArray):=(v,x.2)
theorem qs (x:(Int×ByteArray)):LE.step X qo qg q0 q4 12 x=WP x.2 x.1 (fun w0=>(Sum.inl (w0,x.2))) (fun p0=>(Sum.inr (.inl p0))) (Sum.inr (.inr ())):=by kernel_rfl
theorem qu {R:Type} (x:(Int×ByteArray)) (k:(Bool⊕Unit)->Option R) (r:R) (h:qq x k=some r):∃o,Z6a (LE.step X qo qg q0 q4 12) x o/\k o=some r:=by
 obtain⟨o,h1,h2⟩:=Z0 h;exact⟨qp x o,Zk9 (st:=fun(x:(Int×ByteArray))=>WI x.2) (prj:=fun x=>x.1) (emb:=qr) (embO:=qp) (fun x=>(qs x).trans (by unfold WI WP;simp only[Zk0,ZjR,Zk1,Option.map_some,Option.map_none];rfl)) (fun _ _=>rfl) (fun _ _=>rfl) (fun _ _ _=>rfl) (fun _ _ _=>rfl) (fun _=>rfl) (Z29.1 h1),by first|exact h2|(rcases o with o|o<;>exact h2)⟩
def qv {R:Type}:Z2K S R:=LE.ls X qo qq q4
theorem qw {R:Type}:Z4g X (qv (R:=R)):=Zkd xok qh (e:=qo) q1 q5 qu q5
theorem qx (x0:ByteArray):Zkf X qg [.str] [.bool] q0 qv 12 131 (x0,())=X29 x0:=by kernel_rfl
def qy:F7 S:=⟨[.str],[.bool],fun xs=>X29 xs.1⟩
theorem qz:Zgf X 131 qy:=Zkc (Zkb xok qh q1 qw 12 131) fun xs _ h=>(qx xs.1).trans h
def qE:Key:=⟨[132],132,none,[0,0,1,0,1],0,2⟩
def qF:StT S:=⟨(N (N L vq (N L vw L)) (some (.sl .str [])) L),L,2⟩
def qG:Way S:=⟨.ret,⟨v1c,L,14⟩,[.int]⟩
def qH:Way S:=⟨(.exit 0),⟨L,L,6⟩,[]⟩
def qI:LE S:=⟨qE,qF,[.str,.int,(.lst .str)],[qG,qH]⟩
def qJ (x:tqH):(Int⊕Unit)->(Int⊕Unit):=Sum.elim (fun y0=>(.inl y0)) (fun y1=>(.inr ()))
def qK {R:Type} (x:tqH) (k:(Int⊕Unit)->Option R):Option R:=(X1E x.1 x.v2 x.2.1).bind (Sum.elim (fun y0=>k (.inl y0)) (fun y1=>k (.inr ())))
def qL (x:tqH) (v:Int):tqH:=(x.1,v,x.v2)
theorem qM (x:tqH):LE.step X qI q2 q0 q4 12 x=Wy x.1 x.v2 x.2.1 (fun w0=>(Sum.inl (x.1,w0,x.v2))) (fun p0=>(Sum.inr (.inl p0))) (Sum.inr (.inr ())):=by kernel_rfl
theorem qO {R:Type} (x:tqH) (k:(Int⊕Unit)->Option R) (r:R) (h:qK x k=some r):∃o,Z6a (LE.step X qI q2 q0 q4 12) x o/\k o=some r:=by
 obtain⟨o,h1,h2⟩:=Z0 h;exact⟨qJ x o,Zk9 (st:=fun(x:tqH)=>W9 x.1 x.v2) (prj:=fun x=>x.2.1) (emb:=qL) (embO:=qJ) (fun x=>(qM x).trans (by unfold W9 Wy;simp only[Zk0,ZjR,Zk1,Option.map_some,Option.map_none];rfl)) (fun _ _=>rfl) (fun _ _=>rfl) (fun _ _ _=>rfl) (fun _ _ _=>rfl) (fun _=>rfl) (Z29.1 h1),by first|exact h2|(rcases o with o|o<;>exact h2)⟩
def qP {R:Type}:Z2K S R:=LE.ls X qI qK q4
theorem qQ {R:Type}:Z4g X (qP (R:=R)):=Zkd xok q3 (e:=qI) q1 q5 qO q5
theorem qR (x0:List ByteArray) (x1:ByteArray):Zkf X q2 [(.sl .str),.str] [(.int .i64)] q0 qP 12 132 (x0,x1,())=X2m x0 x1:=by kernel_rfl
def qS:F7 S:=⟨[(.sl .str),.str],[(.int .i64)],fun xs=>X2m xs.1 xs.2.1⟩
theorem qT:Zgf X 132 qS:=Zkc (Zkb xok q3 q1 qQ 12 132) fun xs _ h=>(qR xs.1 xs.2.1).trans h
def qU:List (Nat×F7 S):=[(131,qy),(132,qS)]
theorem qV:ZaC X (qU):=⟨qz,qT,trivial⟩
theorem qY (x0:ByteArray) (x1:List ByteArray):Zkf X qU [.str,(.sl .str)] [(.int .i64)] q0 q4 12 99 (x0,x1,())=X1X x0 x1:=by kernel_rfl
def qZ:F7 S:=⟨[.str,(.sl .str)],[(.int .i64)],fun xs=>X1X xs.1 xs.2.1⟩
theorem q10:Zgf X 99 qZ:=Zkc (Zkb xok qV q1 q5 12 99) fun xs _ h=>(qY xs.1 xs.2.1).trans h
def q15:Key:=⟨[155],155,none,[0,0,1,0,1,1],0,3⟩
def q16:StT S:=⟨(N (N (N (N L vw L) none L) vw L) (some (.sl (.st 5) [])) (N (N (N L vw L) none L) vw L)),L,3⟩
def q17:Way S:=⟨.ret,⟨(N L none (N L none (N L vw L))),L,28⟩,[.int]⟩
def q18:Way S:=⟨(.exit 0),⟨(N v1d none L),L,7⟩,[.int]⟩
def q19:LE S:=⟨q15,q16,[.int,.int,(.lst (.st 5)),.int,.int],[q17,q18]⟩
def q1a (x:tqG):(Int⊕Int)->(Int⊕Int):=Sum.elim (fun y0=>(.inl y0)) (fun y1=>(.inr y1))
def q1b {R:Type} (x:tqG) (k:(Int⊕Int)->Option R):Option R:=(X20 x.2.1 x.u2 x.v4 (x.1,x.u3)).bind (Sum.elim (fun y0=>k (.inl y0)) (fun y1=>k (.inr y1)))
def q1c (x:tqG) (v:(Int×Int)):tqG:=(v.1,x.2.1,x.u2,v.2,x.v4)
theorem q1d (x:tqG):LE.step X q19 qg q0 q4 12 x=Wo x.2.1 x.u2 x.v4 x.1 x.u3 (fun w0 w1=>(Sum.inl (w0,x.2.1,x.u2,w1,x.v4))) (fun p0=>(Sum.inr (.inl p0))) (fun p0=>(Sum.inr (.inr p0))):=by kernel_rfl
theorem q1f {R:Type} (x:tqG) (k:(Int⊕Int)->Option R) (r:R) (h:q1b x k=some r):∃o,Z6a (LE.step X q19 qg q0 q4 12) x o/\k o=some r:=by
 obtain⟨o,h1,h2⟩:=Z0 h;exact⟨q1a x o,Zk9 (st:=fun(x:tqG)=>Wl x.2.1 x.u2 x.v4) (prj:=fun x=>(x.1,x.u3)) (emb:=q1c) (embO:=q1a) (fun x=>(q1d x).trans (by unfold Wl Wo;simp only[Zk0,ZjR,Zk1,Option.map_some,Option.map_none];rfl)) (fun _ _=>rfl) (fun _ _=>rfl) (fun _ _ _=>rfl) (fun _ _ _=>rfl) (fun _=>rfl) (Z29.1 h1),by first|exact h2|(rcases o with o|o<;>exact h2)⟩
def q1g {R:Type}:Z2K S R:=LE.ls X q19 q1b q4
theorem q1h {R:Type}:Z4g X (q1g (R:=R)):=Zkd xok qh (e:=q19) q1 q5 q1f q5
theorem q1i (x0:List Y2) (x1 x2:Int):Zkf X qg [(.sl (.st 5)),(.int .i64),(.int .i64)] [(.int .i64)] q0 q1g 12 155 (x0,x1,x2,())=X1O x0 x1 x2:=by kernel_rfl
def q1j:F7 S:=⟨[(.sl (.st 5)),(.int .i64),(.int .i64)],[(.int .i64)],fun xs=>X1O xs.1 xs.2.1 xs.u2⟩
theorem q1k:Zgf X 155 q1j:=Zkc (Zkb xok qh q1 q1h 12 155) fun xs _ h=>(q1i xs.1 xs.2.1 xs.u2).trans h
def q1l:List (Nat×F7 S):=[(155,q1j)]
theorem q1m:ZaC X (q1l):=⟨q1k,trivial⟩
theorem q1p (x0:Y2) (x1 x2:Int):Zkf X q1l [(.st 5),(.int .i64),(.int .i64)] [(.int .i64)] q0 q4 12 133 (x0,x1,x2,())=X2n x0 x1 x2:=by kernel_rfl
def q1q:F7 S:=⟨[(.st 5),(.int .i64),(.int .i64)],[(.int .i64)],fun xs=>X2n xs.1 xs.2.1 xs.u2⟩
theorem q1r:Zgf X 133 q1q:=Zkc (Zkb xok q1m q1 q5 12 133) fun xs _ h=>(q1p xs.1 xs.2.1 xs.u2).trans h
def q1s:List (Nat×F7 S):=[(62,q7),(133,q1q)]
theorem q1t:ZaC X (q1s):=⟨q8,q1r,trivial⟩
theorem q1w (x0:CoRecord) (x1 x2:Int) (x3:Y2):Zkf X q1s [(.st 20),(.int .i64),(.int .i64),(.st 5)] [(.int .i64)] q0 q4 12 100 (x0,x1,x2,x3,())=X1t x0 x1 x2 x3:=by kernel_rfl
def q1x:F7 S:=⟨[(.st 20),(.int .i64),(.int .i64),(.st 5)],[(.int .i64)],fun xs=>X2d xs.1 xs.2.1 xs.u2 xs.u3⟩
theorem q1y:Zgf X 100 q1x:=Zkc (Zkb xok q1t q1 q5 12 100) fun xs _ h=>((q1w xs.1 xs.2.1 xs.u2 xs.u3).trans (X39 xs.1 xs.2.1 xs.u2 xs.u3).symm).trans h
def q1z:List (Nat×F7 S):=[(62,q7),(99,qZ),(100,q1x)]
theorem q1A:ZaC X (q1z):=⟨q8,q10,q1y,trivial⟩
def q1D:Key:=⟨[47],47,none,[0,0,1,0,1,1,1],0,17⟩
def q1E:StT S:=⟨(N (N L (some (.ptr 0 0)) (N L (some (.rs 17 0)) L)) none (N L none (N L vw L))),o17,18⟩
def q1F:Way S:=⟨.ret,⟨v19,oT,66⟩,[.int,.int,.int,(.lst .str),(.st 20),(.st 18),(.lst .str)]⟩
def q1G:Way S:=⟨.ret,⟨v19,oT,65⟩,[.int,.int,.int,(.lst .str),(.st 20),(.st 18),(.lst .str)]⟩
def q1H:Way S:=⟨(.exit 0),⟨(N (N L (some (.ptr 0 0)) L) none L),o17,23⟩,[(.lst .str),(.st 20)]⟩
def q1I:LE S:=⟨q1D,q1E,[.int,(.lst .str),(.st 20)],[q1F,q1G,q1H]⟩
def q1J (x:tqJ):((Int×Int×Int×(List ByteArray)×Zm×(List ByteArray))⊕(Int×Int×Int×(List ByteArray)×Zm×(List ByteArray))⊕(List ByteArray))->tq6:=Sum.elim (fun y0=>(.inl (y0.1,y0.2.1,y0.u2,y0.u3,x.v2,y0.u4,y0.v5))) (Sum.elim (fun y1=>(.inr (.inl (y1.1,y1.2.1,y1.u2,y1.u3,x.v2,y1.u4,y1.v5)))) (fun y2=>(.inr (.inr (y2,x.v2)))))
def q1K {R:Type} (x:tqJ) (k:tq6->Option R):Option R:=(X1F x.v2 (x.1,x.2.1)).bind (Sum.elim (fun y0=>k (.inl (y0.1,y0.2.1,y0.u2,y0.u3,x.v2,y0.u4,y0.v5))) (Sum.elim (fun y1=>k (.inr (.inl (y1.1,y1.2.1,y1.u2,y1.u3,x.v2,y1.u4,y1.v5)))) (fun y2=>k (.inr (.inr (y2,x.v2))))))
def q1L (x:tqJ) (v:(Int×(List ByteArray))):tqJ:=(v.1,v.2,x.v2)
theorem q1M (x:tqJ):LE.step X q1I q1z q0 q4 12 x=WA x.v2 x.1 x.2.1 (fun w0 w1=>(Sum.inl (w0,w1,x.v2))) (fun p0 p1 p2 p3 p4 p5=>(Sum.inr (.inl (p0,p1,p2,p3,x.v2,p4,p5)))) (fun p0 p1 p2 p3 p4 p5=>(Sum.inr (.inr (.inl (p0,p1,p2,p3,x.v2,p4,p5))))) (fun p0=>(Sum.inr (.inr (.inr (p0,x.v2))))):=by kernel_rfl
theorem q1O {R:Type} (x:tqJ) (k:tq6->Option R) (r:R) (h:q1K x k=some r):∃o,Z6a (LE.step X q1I q1z q0 q4 12) x o/\k o=some r:=by
 obtain⟨o,h1,h2⟩:=Z0 h;exact⟨q1J x o,Zk9 (st:=fun(x:tqJ)=>WV x.v2) (prj:=fun x=>(x.1,x.2.1)) (emb:=q1L) (embO:=q1J) (fun x=>(q1M x).trans (by unfold WV WA;simp only[Zk0,ZjR,Zk1,Option.map_some,Option.map_none];rfl)) (fun _ _=>rfl) (fun _ _=>rfl) (fun _ _ _=>rfl) (fun _ _ _=>rfl) (fun _=>rfl) (Z29.1 h1),by first|exact h2|(rcases o with o|o|o<;>exact h2)⟩
def q1P {R:Type}:Z2K S R:=LE.ls X q1I q1K q4
theorem q1Q {R:Type}:Z4g X (q1P (R:=R)):=Zkd xok q1A (e:=q1I) q1 q5 q1O q5
def q1R:Key:=⟨[47],47,none,[0,0,1,0,1,1,1,1],2,24⟩
def q1S:StT S:=⟨(N (N L (some (.ptr 0 0)) (N (N L vw L) none L)) none L),o17,24⟩
def q1T:Way S:=⟨.ret,⟨v19,(N (N L none (N (N (N L or L) none L) none L)) ob (N L none (N (N (N (N L od L) none L) none L) none L))),52⟩,[.int,.int,.int,(.lst .str),(.st 20),(.st 19)]⟩
def q1U:Way S:=⟨(.exit 2),⟨(N (N L (some (.ptr 0 0)) L) none L),o17,29⟩,[(.lst .str),(.st 20)]⟩
def q1V:LE S:=⟨q1R,q1S,[.int,(.lst .str),(.st 20)],[q1T,q1U]⟩
def q1W (x:tqJ):((Int×Int×Int×Zq)⊕Unit)->tqj:=Sum.elim (fun y0=>(.inl (y0.1,y0.2.1,y0.u2,x.2.1,x.v2,y0.v3))) (fun y1=>(.inr (x.2.1,x.v2)))
def q1X {R:Type} (x:tqJ) (k:tqj->Option R):Option R:=(X1f x.v2 x.1).bind (Sum.elim (fun y0=>k (.inl (y0.1,y0.2.1,y0.u2,x.2.1,x.v2,y0.v3))) (fun y1=>k (.inr (x.2.1,x.v2))))
def q1Y (x:tqJ) (v:Int):tqJ:=(v,x.2.1,x.v2)
theorem q1Z (x:tqJ):LE.step X q1V q1z q0 q1P 12 x=WB x.v2 x.1 (fun w0=>(Sum.inl (w0,x.2.1,x.v2))) (fun p0 p1 p2 p3=>(Sum.inr (.inl (p0,p1,p2,x.2.1,x.v2,p3)))) (Sum.inr (.inr (x.2.1,x.v2))):=by kernel_rfl
theorem q21 {R:Type} (x:tqJ) (k:tqj->Option R) (r:R) (h:q1X x k=some r):∃o,Z6a (LE.step X q1V q1z q0 q1P 12) x o/\k o=some r:=by
 obtain⟨o,h1,h2⟩:=Z0 h;exact⟨q1W x o,Zk9 (st:=fun(x:tqJ)=>WW x.v2) (prj:=fun x=>x.1) (emb:=q1Y) (embO:=q1W) (fun x=>(q1Z x).trans (by unfold WW WB;simp only[Zk0,ZjR,Zk1,Option.map_some,Option.map_none];rfl)) (fun _ _=>rfl) (fun _ _=>rfl) (fun _ _ _=>rfl) (fun _ _ _=>rfl) (fun _=>rfl) (Z29.1 h1),by first|exact h2|(rcases o with o|o<;>exact h2)⟩
def q22 {R:Type}:Z2K S R:=LE.ls X q1V q1X q1P
theorem q23 {R:Type}:Z4g X (q22 (R:=R)):=Zkd xok q1A (e:=q1V) q1 q1Q q21 q1Q
def q24:Key:=⟨[47],47,none,[0,0,1,0,1,1,1,1,1,1],4,31⟩
def q25:StT S:=⟨(N (N L (some (.ptr 0 0)) (N L none (N L vw L))) none v1e),o17,31⟩
def q26:Way S:=⟨.ret,⟨v19,o17,59⟩,[.int,.int,.int,(.lst .str),(.st 20)]⟩
def q27:Way S:=⟨(.exit 4),⟨L,o17,36⟩,[(.lst .str),(.st 20)]⟩
def q28:LE S:=⟨q24,q25,[.int,.int,(.lst .str),(.st 20)],[q26,q27]⟩
def q29 (x:tqB):((Int×Int×Int)⊕Unit)->tql:=Sum.elim (fun y0=>(.inl (y0.1,y0.2.1,y0.v2,x.u2,x.v3))) (fun y1=>(.inr (x.u2,x.v3)))
def q2a {R:Type} (x:tqB) (k:tql->Option R):Option R:=(X1g x.v3 (x.1,x.2.1)).bind (Sum.elim (fun y0=>k (.inl (y0.1,y0.2.1,y0.v2,x.u2,x.v3))) (fun y1=>k (.inr (x.u2,x.v3))))
def q2b (x:tqB) (v:(Int×Int)):tqB:=(v.1,v.2,x.u2,x.v3)
theorem q2c (x:tqB):LE.step X q28 q1z q0 q22 12 x=WC x.v3 x.1 x.2.1 (fun w0 w1=>(Sum.inl (w0,w1,x.u2,x.v3))) (fun p0 p1 p2=>(Sum.inr (.inl (p0,p1,p2,x.u2,x.v3)))) (Sum.inr (.inr (x.u2,x.v3))):=by kernel_rfl
theorem q2e {R:Type} (x:tqB) (k:tql->Option R) (r:R) (h:q2a x k=some r):∃o,Z6a (LE.step X q28 q1z q0 q22 12) x o/\k o=some r:=by
 obtain⟨o,h1,h2⟩:=Z0 h;exact⟨q29 x o,Zk9 (st:=fun(x:tqB)=>WX x.v3) (prj:=fun x=>(x.1,x.2.1)) (emb:=q2b) (embO:=q29) (fun x=>(q2c x).trans (by unfold WX WC;simp only[Zk0,ZjR,Zk1,Option.map_some,Option.map_none];rfl)) (fun _ _=>rfl) (fun _ _=>rfl) (fun _ _ _=>rfl) (fun _ _ _=>rfl) (fun _=>rfl) (Z29.1 h1),by first|exact h2|(rcases o with o|o<;>exact h2)⟩
def q2f {R:Type}:Z2K S R:=LE.ls X q28 q2a q22
theorem q2g {R:Type}:Z4g X (q2f (R:=R)):=Zkd xok q1A (e:=q28) q1 q23 q2e q23
theorem q2h (x0:CoRecord):Zkf X q1z [(.st 20)] [(.int .i64),(.int .i64),(.int .i64)] q0 q2f 12 47 (x0,())=X1o x0:=by kernel_rfl
def q2i:F7 S:=⟨[(.st 20)],[(.int .i64),(.int .i64),(.int .i64)],fun xs=>X2o xs.1⟩
theorem q2j:Zgf X 47 q2i:=Zkc (Zkb xok q1A q1 q2g 12 47) fun xs _ h=>((q2h xs.1).trans (X2R xs.1).symm).trans h
def q2o:Key:=⟨[137,2,1,106,2,1,59],137,none,[0,0,1,0,1],0,17⟩
def q2p:StT S:=⟨(N (N (N (N L vw L) none L) (some (.fn (.func 107) [] [(.ptr 0 0),(.ptr 1 0)])) L) vs v1d),(N (N L oi L) oi L),17⟩
def q2q:Way S:=⟨.ret,⟨v1c,(N (N L oi L) oi L),38⟩,[.int,.int,.int]⟩
def q2r:Way S:=⟨(.exit 0),⟨L,(N (N L oi L) oi L),18⟩,[.int,.int]⟩
def q2s:LE S:=⟨q2o,q2p,[.int,(.lst (.int .i64)),.int,.int,.int],[q2q,q2r]⟩
def q2t (x:tqI):(Int⊕Unit)->((Int×Int×Int)⊕(Int×Int)):=Sum.elim (fun y0=>(.inl (y0,x.u3,x.v4))) (fun y1=>(.inr (x.u3,x.v4)))
def q2u {R:Type} (x:tqI) (k:((Int×Int×Int)⊕(Int×Int))->Option R):Option R:=(X1T x.1 x.2.1 x.u3 x.v4 x.u2).bind (Sum.elim (fun y0=>k (.inl (y0,x.u3,x.v4))) (fun y1=>k (.inr (x.u3,x.v4))))
def q2v (x:tqI) (v:Int):tqI:=(x.1,x.2.1,v,x.u3,x.v4)
theorem q2w (x:tqI):LE.step X q2s q2 q0 q4 12 x=Wh x.1 x.2.1 x.u3 x.v4 x.u2 (fun w0=>(Sum.inl (x.1,x.2.1,w0,x.u3,x.v4))) (fun p0=>(Sum.inr (.inl (p0,x.u3,x.v4)))) (Sum.inr (.inr (x.u3,x.v4))):=by kernel_rfl
theorem q2y {R:Type} (x:tqI) (k:((Int×Int×Int)⊕(Int×Int))->Option R) (r:R) (h:q2u x k=some r):∃o,Z6a (LE.step X q2s q2 q0 q4 12) x o/\k o=some r:=by
 obtain⟨o,h1,h2⟩:=Z0 h;exact⟨q2t x o,Zk9 (st:=fun(x:tqI)=>Wc x.1 x.2.1 x.u3 x.v4) (prj:=fun x=>x.u2) (emb:=q2v) (embO:=q2t) (fun x=>(q2w x).trans (by unfold Wc Wh;simp only[Zk0,ZjR,Zk1,Option.map_some,Option.map_none];rfl)) (fun _ _=>rfl) (fun _ _=>rfl) (fun _ _ _=>rfl) (fun _ _ _=>rfl) (fun _=>rfl) (Z29.1 h1),by first|exact h2|(rcases o with o|o<;>exact h2)⟩
def q2z {R:Type}:Z2K S R:=LE.ls X q2s q2u q4
theorem q2A {R:Type}:Z4g X (q2z (R:=R)):=Zkd xok q3 (e:=q2s) q1 q5 q2y q5
theorem q2B (x0 x1:Int) (x2:List Int):Zkf X q2 [(.int .i64),(.int .i64),(.sl (.int .i64))] [.bool] q0 q2z 12 59 (x0,x1,x2,())=WT x0 x1 x2:=by kernel_rfl
def q2C:F7 S:=⟨[(.int .i64),(.int .i64),(.sl (.int .i64))],[.bool],fun xs=>XW xs.1 xs.2.1 xs.u2⟩
theorem q2D:Zgf X 59 q2C:=Zkc (Zkb xok q3 q1 q2A 12 59) fun xs _ h=>((q2B xs.1 xs.2.1 xs.u2).trans (X2r xs.1 xs.2.1 xs.u2).symm).trans h
def q2I:Key:=⟨[92],92,none,[0,0,1,0,1,1],0,4⟩
def q2J:StT S:=⟨(N (N (N (N L (some (.iter 3)) L) (some (.int .i32 0)) L) none L) vq L),o1f,4⟩
def q2K:Way S:=⟨.ret,⟨(N L none (N L vx L)),o1f,23⟩,[.bool,.str,.nat]⟩
def q2L:Way S:=⟨(.exit 0),⟨(N (N (N L (some (.int .i32 0)) L) none L) vq L),o1f,6⟩,[.int,.str,.str,.nat]⟩
def q2M:LE S:=⟨q2I,q2J,[.int,.str,.str,.nat],[q2K,q2L]⟩
def q2N (x:tqK):((Bool×Nat)⊕(Int×Nat))->tqr:=Sum.elim (fun y0=>(.inl (y0.1,x.u2,y0.2))) (fun y1=>(.inr (y1.1,x.2.1,x.u2,y1.2)))
def q2O {R:Type} (x:tqK) (k:tqr->Option R):Option R:=(X2h x.2.1 x.u2 (x.1,x.v3)).bind (Sum.elim (fun y0=>k (.inl (y0.1,x.u2,y0.2))) (fun y1=>k (.inr (y1.1,x.2.1,x.u2,y1.2))))
def q2P (x:tqK) (v:(Int×Nat)):tqK:=(v.1,x.2.1,x.u2,v.2)
theorem q2Q (x:tqK):LE.step X q2M q2 q0 q4 12 x=WJ x.2.1 x.u2 x.1 x.v3 (fun w0 w1=>(Sum.inl (w0,x.2.1,x.u2,w1))) (fun p0 p1=>(Sum.inr (.inl (p0,x.u2,p1)))) (fun p0 p1=>(Sum.inr (.inr (p0,x.2.1,x.u2,p1)))):=by kernel_rfl
theorem q2S {R:Type} (x:tqK) (k:tqr->Option R) (r:R) (h:q2O x k=some r):∃o,Z6a (LE.step X q2M q2 q0 q4 12) x o/\k o=some r:=by
 obtain⟨o,h1,h2⟩:=Z0 h;exact⟨q2N x o,Zk9 (st:=fun(x:tqK)=>WH x.2.1 x.u2) (prj:=fun x=>(x.1,x.v3)) (emb:=q2P) (embO:=q2N) (fun x=>(q2Q x).trans (by unfold WH WJ;simp only[Zk0,ZjR,Zk1,Option.map_some,Option.map_none];rfl)) (fun _ _=>rfl) (fun _ _=>rfl) (fun _ _ _=>rfl) (fun _ _ _=>rfl) (fun _=>rfl) (Z29.1 h1),by first|exact h2|(rcases o with o|o<;>exact h2)⟩
def q2T {R:Type}:Z2K S R:=LE.ls X q2M q2O q4
theorem q2U {R:Type}:Z4g X (q2T (R:=R)):=Zkd xok q3 (e:=q2M) q1 q5 q2S q5
theorem q2V (x0:ByteArray):Zkf X q2 [.str] [.bool] q0 q2T 12 92 (x0,())=X2v x0:=by kernel_rfl
def q2W:F7 S:=⟨[.str],[.bool],fun xs=>X2v xs.1⟩
theorem q2X:Zgf X 92 q2W:=Zkc (Zkb xok q3 q1 q2U 12 92) fun xs _ h=>(q2V xs.1).trans h
def q2Y:List (Nat×F7 S):=[(59,q2C)]
theorem q2Z:ZaC X (q2Y):=⟨q2D,trivial⟩
theorem q32 (x0:CoRecord) (x1:Zr):Zkf X q2Y [(.st 20),(.st 21)] [(.int .i64)] q0 q4 12 97 (x0,x1,())=X1q x0 x1:=by kernel_rfl
def q33:F7 S:=⟨[(.st 20),(.st 21)],[(.int .i64)],fun xs=>X28 xs.1 xs.2.1⟩
theorem q34:Zgf X 97 q33:=Zkc (Zkb xok q2Z q1 q5 12 97) fun xs _ h=>((q32 xs.1 xs.2.1).trans (X34 xs.1 xs.2.1).symm).trans h
def q35:StT S:=⟨(N (N L (some (.fn (.func 91) [] [(.ptr 0 0)])) L) (some (.sl (.st 18) [])) L),(N L ob L),1⟩
def q36:Way S:=⟨.ret,⟨(N L v9 L),(N L ob L),1⟩,[.int,.int,(.st 20)]⟩
def q37:PE S:=⟨90,2,q35,[(.lst (.st 18)),(.st 20)],[q36]⟩
def q38:List (Nat×F7 S):=[(59,q2C),(92,q2W),(97,q33)]
theorem q39:ZaC X q38:=⟨q2D,q2X,q34,trivial⟩
def q3c:Key:=⟨[130,2,1,93,5,3,91,3,4,90],130,none,[0,0,1,0,1],0,42⟩
def q3d:StT S:=⟨(N (N (N (N L vw L) none L) (some (.fn (.func 94) [] [(.ptr 18 0)])) L) (some (.sl (.st 18) [])) v1d),o15,42⟩
def q3e:Way S:=⟨.ret,⟨v1c,(N o16 none (N L none (N (N (N L oc L) none L) none L))),61⟩,[.int,(.st 18),(.st 18)]⟩
def q3f:Way S:=⟨(.exit 0),⟨L,o15,43⟩,[(.st 18)]⟩
def q3g:LE S:=⟨q3c,q3d,[.int,(.lst (.st 18)),.int,(.st 18)],[q3e,q3f]⟩
def q3h (x:tqC):((Int×Zm)⊕Unit)->((Int×Zm×Zm)⊕Zm):=Sum.elim (fun y0=>(.inl (y0.1,y0.2,x.v3))) (fun y1=>(.inr x.v3))
def q3i {R:Type} (x:tqC) (k:((Int×Zm×Zm)⊕Zm)->Option R):Option R:=(Xd x.1 x.2.1 x.v3 x.u2).bind (Sum.elim (fun y0=>k (.inl (y0.1,y0.2,x.v3))) (fun y1=>k (.inr x.v3)))
def q3j (x:tqC) (v:Int):tqC:=(x.1,x.2.1,v,x.v3)
theorem q3k (x:tqC):LE.step X q3g q38 q0 q4 12 x=Xc x.1 x.2.1 x.v3 x.u2 (fun w0=>(Sum.inl (x.1,x.2.1,w0,x.v3))) (fun p0 p1=>(Sum.inr (.inl (p0,p1,x.v3)))) (Sum.inr (.inr x.v3)):=by kernel_rfl
theorem q3m {R:Type} (x:tqC) (k:((Int×Zm×Zm)⊕Zm)->Option R) (r:R) (h:q3i x k=some r):∃o,Z6a (LE.step X q3g q38 q0 q4 12) x o/\k o=some r:=by
 obtain⟨o,h1,h2⟩:=Z0 h;exact⟨q3h x o,Zk9 (st:=fun(x:tqC)=>X5 x.1 x.2.1 x.v3) (prj:=fun x=>x.u2) (emb:=q3j) (embO:=q3h) (fun x=>(q3k x).trans (by unfold X5 Xc;simp only[Zk0,ZjR,Zk1,Option.map_some,Option.map_none];rfl)) (fun _ _=>rfl) (fun _ _=>rfl) (fun _ _ _=>rfl) (fun _ _ _=>rfl) (fun _=>rfl) (Z29.1 h1),by first|exact h2|(rcases o with o|o<;>exact h2)⟩
def q3n {R:Type}:Z2K S R:=LE.ls X q3g q3i q4
theorem q3o {R:Type}:Z4g X (q3n (R:=R)):=Zkd xok q39 (e:=q3g) q1 q5 q3m q5
def q3p:Key:=⟨[90],90,none,[0,0,1,0,1],0,6⟩
def q3q:StT S:=⟨(N (N (N L none (N L vw L)) (some (.fn (.func 91) [] [(.ptr 0 0)])) (N (N L (some (.sl (.st 18) [])) L) none L)) none v1c),(N L ob L),6⟩
def q3r:Way S:=⟨.ret,⟨v18,(N L ob o1a),32⟩,[.int,.int,(.st 20),(.st 18),(.st 18)]⟩
def q3s:Way S:=⟨.ret,⟨v18,(N o16 ob o1a),68⟩,[.int,.int,(.st 18),(.st 20),(.st 18),(.st 18)]⟩
def q3t:Way S:=⟨.ret,⟨v18,(N (N (N (N o1g none L) none (N (N L none (N L oc L)) none L)) none L) ob o1a),82⟩,[.int,.int,(.lst (.int .i64)),(.st 18),(.st 20),(.st 18),(.st 18)]⟩
def q3u:Way S:=⟨.ret,⟨v18,(N (N (N (N o1g none o1g) none (N (N L none (N L oc L)) none L)) none L) ob o1a),82⟩,[.int,.int,(.lst (.int .i64)),(.lst (.int .i64)),(.st 18),(.st 20),(.st 18),(.st 18)]⟩
def q3v:Way S:=⟨.ret,⟨v18,(N L ob (N L none (N (N (N L oc L) oc L) none o1h))),65⟩,[.int,.int,(.st 20),(.st 18),(.st 18),(.lst (.int .i64))]⟩
def q3w:Way S:=⟨.ret,⟨v18,(N L ob (N L none (N (N (N L oc L) oc L) none (N (N L none (N L oh L)) none (N (N L oh L) none L))))),65⟩,[.int,.int,(.st 20),(.st 18),(.st 18),(.lst (.int .i64)),(.lst (.int .i64))]⟩
def q3x:Way S:=⟨(.exit 0),⟨L,(N L ob L),7⟩,[(.st 20)]⟩
def q3y:LE S:=⟨q3p,q3q,[.int,(.lst (.st 18)),.int,(.st 20)],[q3r,q3s,q3t,q3u,q3v,q3w,q3x]⟩
def q3z (x:tqD):((Int×Int×Zm×Zm)⊕(Int×Int×Zm×Zm×Zm)⊕(Int×Int×(List Int)×Zm×Zm×Zm)⊕(Int×Int×(List Int)×(List Int)×Zm×Zm×Zm)⊕(Int×Int×Zm×Zm×(List Int))⊕(Int×Int×Zm×Zm×(List Int)×(List Int))⊕Unit)->tq2:=Sum.elim (fun y0=>(.inl (y0.1,y0.2.1,x.v3,y0.u2,y0.v3))) (Sum.elim (fun y1=>(.inr (.inl (y1.1,y1.2.1,y1.u2,x.v3,y1.u3,y1.v4)))) (Sum.elim (fun y2=>(.inr (.inr (.inl (y2.1,y2.2.1,y2.u2,y2.u3,x.v3,y2.u4,y2.v5))))) (Sum.elim (fun y3=>(.inr (.inr (.inr (.inl (y3.1,y3.2.1,y3.u2,y3.u3,y3.u4,x.v3,y3.u5,y3.v6)))))) (Sum.elim (fun y4=>(.inr (.inr (.inr (.inr (.inl (y4.1,y4.2.1,x.v3,y4.u2,y4.u3,y4.v4))))))) (Sum.elim (fun y5=>(.inr (.inr (.inr (.inr (.inr (.inl (y5.1,y5.2.1,x.v3,y5.u2,y5.u3,y5.u4,y5.v5)))))))) (fun y6=>(.inr (.inr (.inr (.inr (.inr (.inr x.v3))))))))))))
def q3A {R:Type} (x:tqD) (k:tq2->Option R):Option R:=(XX x.2.1 x.u2 x.v3 x.1).bind (Sum.elim (fun y0=>k (.inl (y0.1,y0.2.1,x.v3,y0.u2,y0.v3))) (Sum.elim (fun y1=>k (.inr (.inl (y1.1,y1.2.1,y1.u2,x.v3,y1.u3,y1.v4)))) (Sum.elim (fun y2=>k (.inr (.inr (.inl (y2.1,y2.2.1,y2.u2,y2.u3,x.v3,y2.u4,y2.v5))))) (Sum.elim (fun y3=>k (.inr (.inr (.inr (.inl (y3.1,y3.2.1,y3.u2,y3.u3,y3.u4,x.v3,y3.u5,y3.v6)))))) (Sum.elim (fun y4=>k (.inr (.inr (.inr (.inr (.inl (y4.1,y4.2.1,x.v3,y4.u2,y4.u3,y4.v4))))))) (Sum.elim (fun y5=>k (.inr (.inr (.inr (.inr (.inr (.inl (y5.1,y5.2.1,x.v3,y5.u2,y5.u3,y5.u4,y5.v5)))))))) (fun y6=>k (.inr (.inr (.inr (.inr (.inr (.inr x.v3)))))))))))))
def q3B (x:tqD) (v:Int):tqD:=(v,x.2.1,x.u2,x.v3)
theorem q3C (x:tqD):LE.step X q3y q38 q0 q3n 12 x=Xb x.2.1 x.u2 x.v3 x.1 (fun w0=>(Sum.inl (w0,x.2.1,x.u2,x.v3))) (fun p0 p1 p2 p3=>(Sum.inr (.inl (p0,p1,x.v3,p2,p3)))) (fun p0 p1 p2 p3 p4=>(Sum.inr (.inr (.inl (p0,p1,p2,x.v3,p3,p4))))) (fun p0 p1 p2 p3 p4 p5=>(Sum.inr (.inr (.inr (.inl (p0,p1,p2,p3,x.v3,p4,p5)))))) (fun p0 p1 p2 p3 p4 p5 p6=>(Sum.inr (.inr (.inr (.inr (.inl (p0,p1,p2,p3,p4,x.v3,p5,p6))))))) (fun p0 p1 p2 p3 p4=>(Sum.inr (.inr (.inr (.inr (.inr (.inl (p0,p1,x.v3,p2,p3,p4)))))))) (fun p0 p1 p2 p3 p4 p5=>(Sum.inr (.inr (.inr (.inr (.inr (.inr (.inl (p0,p1,x.v3,p2,p3,p4,p5))))))))) (Sum.inr (.inr (.inr (.inr (.inr (.inr (.inr x.v3))))))):=by kernel_rfl
theorem q3E {R:Type} (x:tqD) (k:tq2->Option R) (r:R) (h:q3A x k=some r):∃o,Z6a (LE.step X q3y q38 q0 q3n 12) x o/\k o=some r:=by
 obtain⟨o,h1,h2⟩:=Z0 h;exact⟨q3z x o,Zk9 (st:=fun(x:tqD)=>Xg x.2.1 x.u2 x.v3) (prj:=fun x=>x.1) (emb:=q3B) (embO:=q3z) (fun x=>(q3C x).trans (by unfold Xg Xb;simp only[Zk0,ZjR,Zk1,Option.map_some,Option.map_none];rfl)) (fun _ _=>rfl) (fun _ _=>rfl) (fun _ _ _=>rfl) (fun _ _ _=>rfl) (fun _=>rfl) (Z29.1 h1),by first|exact h2|(rcases o with o|o|o|o|o|o|o<;>exact h2)⟩
def q3F {R:Type}:Z2K S R:=LE.ls X q3y q3A q3n
theorem q3G {R:Type}:Z4g X (q3F (R:=R)):=Zkd xok q39 (e:=q3y) q1 q3o q3E q3o
theorem q3H (x:((List Zm)×CoRecord)):PE.step X q37 q38 q0 q3F 12 x=Xk x.1 x.2:=by kernel_rfl
theorem q3I:ZcA X q37 XF:=Zke (ZjE xok q39 q1 q3G 12) fun x _ h=>((q3H x).trans (X11 x).symm).trans h
def q3J {R:Type}:Prs S R:=PE.ps X q37 (fun x q=>(XF x).bind q) q0
theorem q3K {R:Type}:Z93 X (q3J (R:=R)):=Zk6 (e:=q37) q3I q1
def q3L:StT S:=⟨(N (N L (some (.fn (.func 96) [] [(.ptr 0 0)])) L) vt L),(N L ob L),1⟩
def q3N:PE S:=⟨95,2,q3L,[(.lst (.st 19)),(.st 20)],[q36]⟩
def q3S:Key:=⟨[95],95,none,[0,0,1,0,1],0,6⟩
def q3T:StT S:=⟨(N (N (N L none (N L vw L)) (some (.fn (.func 96) [] [(.ptr 0 0)])) (N (N L vt L) none L)) none v1c),(N L ob L),6⟩
def q3U:Way S:=⟨.ret,⟨v18,(N L ob (N L none (N (N (N L od L) od L) none L))),30⟩,[.int,.int,(.st 20),(.st 19),(.st 19)]⟩
def q3W:LE S:=⟨q3S,q3T,[.int,(.lst (.st 19)),.int,(.st 20)],[q3U,q3x]⟩
def q3X (x:tqE):((Int×Int×Zq×Zq)⊕Unit)->tqw:=Sum.elim (fun y0=>(.inl (y0.1,y0.2.1,x.v3,y0.u2,y0.v3))) (fun y1=>(.inr x.v3))
def q3Y {R:Type} (x:tqE) (k:tqw->Option R):Option R:=(W5 x.2.1 x.u2 x.v3 x.1).bind (Sum.elim (fun y0=>k (.inl (y0.1,y0.2.1,x.v3,y0.u2,y0.v3))) (fun y1=>k (.inr x.v3)))
def q3Z (x:tqE) (v:Int):tqE:=(v,x.2.1,x.u2,x.v3)
theorem q40 (x:tqE):LE.step X q3W q38 q3J q4 12 x=Xe x.2.1 x.u2 x.v3 x.1 (fun w0=>(Sum.inl (w0,x.2.1,x.u2,x.v3))) (fun p0 p1 p2 p3=>(Sum.inr (.inl (p0,p1,x.v3,p2,p3)))) (Sum.inr (.inr x.v3)):=by kernel_rfl
theorem q42 {R:Type} (x:tqE) (k:tqw->Option R) (r:R) (h:q3Y x k=some r):∃o,Z6a (LE.step X q3W q38 q3J q4 12) x o/\k o=some r:=by
 obtain⟨o,h1,h2⟩:=Z0 h;exact⟨q3X x o,Zk9 (st:=fun(x:tqE)=>Xj x.2.1 x.u2 x.v3) (prj:=fun x=>x.1) (emb:=q3Z) (embO:=q3X) (fun x=>(q40 x).trans (by unfold Xj Xe;simp only[Zk0,ZjR,Zk1,Option.map_some,Option.map_none];rfl)) (fun _ _=>rfl) (fun _ _=>rfl) (fun _ _ _=>rfl) (fun _ _ _=>rfl) (fun _=>rfl) (Z29.1 h1),by first|exact h2|(rcases o with o|o<;>exact h2)⟩
def q43 {R:Type}:Z2K S R:=LE.ls X q3W q3Y q4
theorem q44 {R:Type}:Z4g X (q43 (R:=R)):=Zkd xok q39 (e:=q3W) q3K q5 q42 q5
theorem q45 (x:((List Zq)×CoRecord)):PE.step X q3N q38 q3J q43 12 x=Xo x.1 x.2:=by kernel_rfl
theorem q46:ZcA X q3N XO:=Zke (ZjE xok q39 q3K q44 12) fun x _ h=>((q45 x).trans (X17 x).symm).trans h
def q47 {R:Type}:Prs S R:=PE.ps X q3N (fun x q=>(XO x).bind q) q3J
theorem q48 {R:Type}:Z93 X (q47 (R:=R)):=Zk6 (e:=q3N) q46 q3K
def q49:StT S:=⟨(N (N L (some (.fn (.func 98) [] [(.ptr 0 0)])) L) vt L),(N L oi L),1⟩
def q4a:Way S:=⟨.ret,⟨(N L v9 L),(N L oi L),1⟩,[.int,.int,.int]⟩
def q4b:PE S:=⟨95,2,q49,[(.lst (.st 19)),.int],[q4a]⟩
def q4h:StT S:=⟨(N (N (N L none (N L vw L)) (some (.fn (.func 98) [] [(.ptr 0 0)])) (N (N L vt L) none L)) none v1c),(N L oi L),6⟩
def q4i:Way S:=⟨.ret,⟨v18,(N L oi (N L none (N (N (N L od L) od L) none L))),38⟩,[.int,.int,.int,(.st 19),(.st 19)]⟩
def q4j:Way S:=⟨(.exit 0),⟨L,(N L oi L),7⟩,[.int]⟩
def q4k:LE S:=⟨q3S,q4h,[.int,(.lst (.st 19)),.int,.int],[q4i,q4j]⟩
def q4l (x:tqL):tqA->tqA:=Sum.elim (fun y0=>(.inl (y0.1,y0.2.1,y0.u2,y0.u3,y0.v4))) (fun y1=>(.inr y1))
def q4m {R:Type} (x:tqL) (k:tqA->Option R):Option R:=(W6 x.2.1 x.u2 (x.1,x.v3)).bind (Sum.elim (fun y0=>k (.inl (y0.1,y0.2.1,y0.u2,y0.u3,y0.v4))) (fun y1=>k (.inr y1)))
def q4n (x:tqL) (v:(Int×Int)):tqL:=(v.1,x.2.1,x.u2,v.2)
theorem q4o (x:tqL):LE.step X q4k q38 q47 q4 12 x=Xf x.2.1 x.u2 x.1 x.v3 (fun w0 w1=>(Sum.inl (w0,x.2.1,x.u2,w1))) (fun p0 p1 p2 p3 p4=>(Sum.inr (.inl (p0,p1,p2,p3,p4)))) (fun p0=>(Sum.inr (.inr p0))):=by kernel_rfl
theorem q4q {R:Type} (x:tqL) (k:tqA->Option R) (r:R) (h:q4m x k=some r):∃o,Z6a (LE.step X q4k q38 q47 q4 12) x o/\k o=some r:=by
 obtain⟨o,h1,h2⟩:=Z0 h;exact⟨q4l x o,Zk9 (st:=fun(x:tqL)=>X3 x.2.1 x.u2) (prj:=fun x=>(x.1,x.v3)) (emb:=q4n) (embO:=q4l) (fun x=>(q4o x).trans (by unfold X3 Xf;simp only[Zk0,ZjR,Zk1,Option.map_some,Option.map_none];rfl)) (fun _ _=>rfl) (fun _ _=>rfl) (fun _ _ _=>rfl) (fun _ _ _=>rfl) (fun _=>rfl) (Z29.1 h1),by first|exact h2|(rcases o with o|o<;>exact h2)⟩
def q4r {R:Type}:Z2K S R:=LE.ls X q4k q4m q4
theorem q4s {R:Type}:Z4g X (q4r (R:=R)):=Zkd xok q39 (e:=q4k) q48 q5 q4q q5
theorem q4t (x:((List Zq)×Int)):PE.step X q4b q38 q47 q4r 12 x=Xp x.1 x.2:=by kernel_rfl
theorem q4u:ZcA X q4b XP:=Zke (ZjE xok q39 q48 q4s 12) fun x _ h=>((q4t x).trans (X19 x).symm).trans h
def q4v {R:Type}:Prs S R:=PE.ps X q4b (fun x q=>(XP x).bind q) q47
theorem q4w {R:Type}:Z93 X (q4v (R:=R)):=Zk6 (e:=q4b) q4u q48
theorem q4y:ZaC X (q38):=⟨q2D,q2X,q34,trivial⟩
theorem q4B (x0:CoRecord):Zkf X q38 [(.st 20)] [(.int .i64),(.int .i64),(.int .i64)] q4v q4 12 46 (x0,())=X1i x0:=by kernel_rfl
def q4C:F7 S:=⟨[(.st 20)],[(.int .i64),(.int .i64),(.int .i64)],fun xs=>X2i xs.1⟩
theorem q4D:Zgf X 46 q4C:=Zkc (Zkb xok q4y q4w q5 12 46) fun xs _ h=>((q4B xs.1).trans (X2H xs.1).symm).trans h
def q4E:StT S:=⟨(N (N L (some (.fn (.func 102) [] [(.ptr 0 0)])) L) vu L),(N L ob L),1⟩
def q4G:PE S:=⟨101,2,q4E,[(.lst (.st 21)),(.st 20)],[q36]⟩
def q4H:List (Nat×F7 S):=[(46,q4C),(97,q33)]
theorem q4I:ZaC X q4H:=⟨q4D,q34,trivial⟩
def q4L:Key:=⟨[101],101,none,[0,0,1,0,1],0,6⟩
def q4M:StT S:=⟨(N (N (N L none (N L vw L)) (some (.fn (.func 102) [] [(.ptr 0 0)])) (N (N L vu L) none L)) none v1c),(N L ob L),6⟩
def q4N:Way S:=⟨.ret,⟨v18,(N L ob (N L none (N (N (N L oe L) oe L) none L))),30⟩,[.int,.int,(.st 20),(.st 21),(.st 21)]⟩
def q4P:LE S:=⟨q4L,q4M,[.int,(.lst (.st 21)),.int,(.st 20)],[q4N,q3x]⟩
def q4Q (x:tqF):((Int×Int×Zr×Zr)⊕Unit)->tqx:=Sum.elim (fun y0=>(.inl (y0.1,y0.2.1,x.v3,y0.u2,y0.v3))) (fun y1=>(.inr x.v3))
def q4R {R:Type} (x:tqF) (k:tqx->Option R):Option R:=(W8 x.2.1 x.u2 x.v3 x.1).bind (Sum.elim (fun y0=>k (.inl (y0.1,y0.2.1,x.v3,y0.u2,y0.v3))) (fun y1=>k (.inr x.v3)))
def q4S (x:tqF) (v:Int):tqF:=(v,x.2.1,x.u2,x.v3)
theorem q4T (x:tqF):LE.step X q4P q4H q4v q4 12 x=Xh x.2.1 x.u2 x.v3 x.1 (fun w0=>(Sum.inl (w0,x.2.1,x.u2,x.v3))) (fun p0 p1 p2 p3=>(Sum.inr (.inl (p0,p1,x.v3,p2,p3)))) (Sum.inr (.inr x.v3)):=by kernel_rfl
theorem q4V {R:Type} (x:tqF) (k:tqx->Option R) (r:R) (h:q4R x k=some r):∃o,Z6a (LE.step X q4P q4H q4v q4 12) x o/\k o=some r:=by
 obtain⟨o,h1,h2⟩:=Z0 h;exact⟨q4Q x o,Zk9 (st:=fun(x:tqF)=>Xl x.2.1 x.u2 x.v3) (prj:=fun x=>x.1) (emb:=q4S) (embO:=q4Q) (fun x=>(q4T x).trans (by unfold Xl Xh;simp only[Zk0,ZjR,Zk1,Option.map_some,Option.map_none];rfl)) (fun _ _=>rfl) (fun _ _=>rfl) (fun _ _ _=>rfl) (fun _ _ _=>rfl) (fun _=>rfl) (Z29.1 h1),by first|exact h2|(rcases o with o|o<;>exact h2)⟩
def q4W {R:Type}:Z2K S R:=LE.ls X q4P q4R q4
theorem q4X {R:Type}:Z4g X (q4W (R:=R)):=Zkd xok q4I (e:=q4P) q4w q5 q4V q5
theorem q4Y (x:((List Zr)×CoRecord)):PE.step X q4G q4H q4v q4W 12 x=Xw x.1 x.2:=by kernel_rfl
theorem q4Z:ZcA X q4G XR:=Zke (ZjE xok q4I q4w q4X 12) fun x _ h=>((q4Y x).trans (X1k x).symm).trans h
def q50 {R:Type}:Prs S R:=PE.ps X q4G (fun x q=>(XR x).bind q) q4v
theorem q51 {R:Type}:Z93 X (q50 (R:=R)):=Zk6 (e:=q4G) q4Z q4w
theorem q53:ZaC X (q4H):=⟨q4D,q34,trivial⟩
theorem q56 (x0:CoRecord) (x1:List Zr):Zkf X q4H [(.st 20),(.sl (.st 21))] [(.int .i64),(.int .i64)] q50 q4 12 48 (x0,x1,())=Wv x0 x1:=by kernel_rfl
def q57:F7 S:=⟨[(.st 20),(.sl (.st 21))],[(.int .i64),(.int .i64)],fun xs=>X1z xs.1 xs.2.1⟩
theorem q58:Zgf X 48 q57:=Zkc (Zkb xok q53 q51 q5 12 48) fun xs _ h=>((q56 xs.1 xs.2.1).trans (X25 xs.1 xs.2.1).symm).trans h
def q59:List (Nat×F7 S):=[(48,q57)]
theorem q5a:ZaC X (q59):=⟨q58,trivial⟩
theorem q5d (x0:CoRecord) (x1:List Zr):Zkf X q59 [(.st 20),(.sl (.st 21))] [(.st 25),(.int .i64)] q50 q4 12 58 (x0,x1,())=X1j x0 x1:=by kernel_rfl
def q5e:F7 S:=⟨[(.st 20),(.sl (.st 21))],[(.st 25),(.int .i64)],fun xs=>X1S xs.1 xs.2.1⟩
theorem q5f:Zgf X 58 q5e:=Zkc (Zkb xok q5a q51 q5 12 58) fun xs _ h=>((q5d xs.1 xs.2.1).trans (X2K xs.1 xs.2.1).symm).trans h
theorem q5k (x0:Int):Zkf X q2 [(.int .i64)] [.bool] q50 q4 12 142 (x0,())=X33 x0:=by kernel_rfl
def q5l:F7 S:=⟨[(.int .i64)],[.bool],fun xs=>X33 xs.1⟩
theorem q5m:Zgf X 142 q5l:=Zkc (Zkb xok q3 q51 q5 12 142) fun xs _ h=>(q5k xs.1).trans h
def q5n:List (Nat×F7 S):=[(142,q5l)]
theorem q5o:ZaC X (q5n):=⟨q5m,trivial⟩
theorem q5r (x0 x1:Int):Zkf X q5n [(.int .i64),(.int .i64)] [(.int .i64)] q50 q4 12 111 (x0,x1,())=X1y x0 x1:=by kernel_rfl
def q5s:F7 S:=⟨[(.int .i64),(.int .i64)],[(.int .i64)],fun xs=>X1y xs.1 xs.2.1⟩
theorem q5t:Zgf X 111 q5s:=Zkc (Zkb xok q5o q51 q5 12 111) fun xs _ h=>(q5r xs.1 xs.2.1).trans h
def q5u:List (Nat×F7 S):=[(111,q5s)]
theorem q5v:ZaC X (q5u):=⟨q5t,trivial⟩
def q5y:Key:=⟨[70],70,none,[0,0,1,0,1],0,4⟩
def q5z:StT S:=⟨(N (N (N L none (N L vw L)) vs (N (N L vs L) none L)) vs v1c),L,4⟩
def q5A:Way S:=⟨.ret,⟨v1c,L,15⟩,[.int]⟩
def q5B:Way S:=⟨.ret,⟨v1c,L,27⟩,[.int]⟩
def q5C:Way S:=⟨(.exit 0),⟨(N (N L vs L) vs L),L,5⟩,[(.lst (.int .i64)),(.lst (.int .i64))]⟩
def q5D:LE S:=⟨q5y,q5z,[.int,(.lst (.int .i64)),(.lst (.int .i64)),(.lst (.int .i64)),.int],[q5A,q5B,q5C]⟩
def q5E (x:tqz):(Int⊕Int⊕Unit)->(Int⊕Int⊕((List Int)×(List Int))):=Sum.elim (fun y0=>(.inl y0)) (Sum.elim (fun y1=>(.inr (.inl y1))) (fun y2=>(.inr (.inr (x.2.1,x.u3)))))
def q5F {R:Type} (x:tqz) (k:(Int⊕Int⊕((List Int)×(List Int)))->Option R):Option R:=(Wp x.2.1 x.u2 x.u3 x.v4 x.1).bind (Sum.elim (fun y0=>k (.inl y0)) (Sum.elim (fun y1=>k (.inr (.inl y1))) (fun y2=>k (.inr (.inr (x.2.1,x.u3))))))
def q5G (x:tqz) (v:Int):tqz:=(v,x.2.1,x.u2,x.u3,x.v4)
theorem q5H (x:tqz):LE.step X q5D q5u q50 q4 12 x=Xv x.2.1 x.u2 x.u3 x.v4 x.1 (fun w0=>(Sum.inl (w0,x.2.1,x.u2,x.u3,x.v4))) (fun p0=>(Sum.inr (.inl p0))) (fun p0=>(Sum.inr (.inr (.inl p0)))) (Sum.inr (.inr (.inr (x.2.1,x.u3)))):=by kernel_rfl
theorem q5J {R:Type} (x:tqz) (k:(Int⊕Int⊕((List Int)×(List Int)))->Option R) (r:R) (h:q5F x k=some r):∃o,Z6a (LE.step X q5D q5u q50 q4 12) x o/\k o=some r:=by
 obtain⟨o,h1,h2⟩:=Z0 h;exact⟨q5E x o,Zk9 (st:=fun(x:tqz)=>XE x.2.1 x.u2 x.u3 x.v4) (prj:=fun x=>x.1) (emb:=q5G) (embO:=q5E) (fun x=>(q5H x).trans (by unfold XE Xv;simp only[Zk0,ZjR,Zk1,Option.map_some,Option.map_none];rfl)) (fun _ _=>rfl) (fun _ _=>rfl) (fun _ _ _=>rfl) (fun _ _ _=>rfl) (fun _=>rfl) (Z29.1 h1),by first|exact h2|(rcases o with o|o|o<;>exact h2)⟩
def q5K {R:Type}:Z2K S R:=LE.ls X q5D q5F q4
theorem q5L {R:Type}:Z4g X (q5K (R:=R)):=Zkd xok q5v (e:=q5D) q51 q5 q5J q5
theorem q5M (x0 x1:List Int):Zkf X q5u [(.sl (.int .i64)),(.sl (.int .i64))] [(.int .i64)] q50 q5K 12 70 (x0,x1,())=Wa x0 x1:=by kernel_rfl
def q5N:F7 S:=⟨[(.sl (.int .i64)),(.sl (.int .i64))],[(.int .i64)],fun xs=>Wa xs.1 xs.2.1⟩
theorem q5O:Zgf X 70 q5N:=Zkc (Zkb xok q5v q51 q5L 12 70) fun xs _ h=>(q5M xs.1 xs.2.1).trans h
theorem q5T (x0:Y2):Zkf X q2 [(.st 5)] [.bool] q50 q4 12 153 (x0,())=XQ x0:=by kernel_rfl
def q5U:F7 S:=⟨[(.st 5)],[.bool],fun xs=>X1e xs.1⟩
theorem q5V:Zgf X 153 q5U:=Zkc (Zkb xok q3 q51 q5 12 153) fun xs _ h=>((q5T xs.1).trans (X1u xs.1).symm).trans h
def q5W:List (Nat×F7 S):=[(153,q5U)]
theorem q5X:ZaC X (q5W):=⟨q5V,trivial⟩
def q60:Key:=⟨[127],127,none,[0,0,1,1,1,0,0,1,1,0,0,1,0,1,1],2,33⟩
def q61:StT S:=⟨vE,(N (N L o7 L) of (N L o7 L)),33⟩
def q62:Way S:=⟨(.exit 2),⟨vY,(N (N L o7 L) of (N L o7 L)),34⟩,[.int,.int,.int,(.lst (.st 28)),(.arr (.st 5)),(.st 25),(.arr (.st 5))]⟩
def q63:LE S:=⟨q60,q61,[.int,.int,.int,.int,.int,.int,(.lst (.st 28)),(.lst (.st 28)),(.arr (.st 5)),(.st 25),(.arr (.st 5))],[q62]⟩
def q64 (x:tqc):(Nat->Y2)->tqk:=fun y0=>(x.2.1,x.u3,x.u5,x.u6,y0,x.u9,x.v10)
def q65 {R:Type} (x:tqc) (k:tqk->Option R):Option R:=(W2 x.1 x.2.1 x.u2 x.u3 x.u5 x.u6 x.u7 x.u9 x.v10 (x.u4,x.u8)).bind (fun y0=>k (x.2.1,x.u3,x.u5,x.u6,y0,x.u9,x.v10))
def q66 (x:tqc) (v:(Int×(Nat->Y2))):tqc:=(x.1,x.2.1,x.u2,x.u3,v.1,x.u5,x.u6,x.u7,v.2,x.u9,x.v10)
theorem q67 (x:tqc):LE.step X q63 q5W q50 q4 12 x=X7 x.1 x.2.1 x.u2 x.u3 x.u5 x.u6 x.u7 x.u9 x.v10 x.u4 x.u8 (fun w0 w1=>(Sum.inl (x.1,x.2.1,x.u2,x.u3,w0,x.u5,x.u6,x.u7,w1,x.u9,x.v10))) (fun p0=>(Sum.inr (x.2.1,x.u3,x.u5,x.u6,p0,x.u9,x.v10))):=by kernel_rfl
theorem q69 {R:Type} (x:tqc) (k:tqk->Option R) (r:R) (h:q65 x k=some r):∃o,Z6a (LE.step X q63 q5W q50 q4 12) x o/\k o=some r:=by
 obtain⟨o,h1,h2⟩:=Z0 h;exact⟨q64 x o,Zk9 (st:=fun(x:tqc)=>Xr x.1 x.2.1 x.u2 x.u3 x.u5 x.u6 x.u7 x.u9 x.v10) (prj:=fun x=>(x.u4,x.u8)) (emb:=q66) (embO:=q64) (fun x=>(q67 x).trans (by unfold Xr X7;simp only[Zk0,ZjR,Zk1,Option.map_some,Option.map_none];rfl)) (fun _ _=>rfl) (fun _ _=>rfl) (fun _ _ _=>rfl) (fun _ _ _=>rfl) (fun _=>rfl) (Z29.1 h1),by first|exact h2|(rcases o with o<;>exact h2)⟩
def q6a {R:Type}:Z2K S R:=LE.ls X q63 q65 q4
theorem q6b {R:Type}:Z4g X (q6a (R:=R)):=Zkd xok q5X (e:=q63) q51 q5 q69 q5
def q6c:Key:=⟨[127],127,none,[0,0,1,1,1,0,0,1,1,0,0,1,0,1,1],2,19⟩
def q6d:StT S:=⟨vE,(N (N L o7 L) of (N L o7 L)),19⟩
def q6e:Way S:=⟨(.exit 2),⟨vY,(N (N L o7 L) of (N L o7 L)),20⟩,[.int,.int,.int,(.lst (.st 28)),(.arr (.st 5)),(.st 25),(.arr (.st 5))]⟩
def q6f:LE S:=⟨q6c,q6d,[.int,.int,.int,.int,.int,.int,(.lst (.st 28)),(.lst (.st 28)),(.arr (.st 5)),(.st 25),(.arr (.st 5))],[q6e]⟩
def q6h {R:Type} (x:tqc) (k:tqk->Option R):Option R:=(WD x.1 x.2.1 x.u2 x.u3 x.u5 x.u6 x.u7 x.u9 x.v10 (x.u4,x.u8)).bind (fun y0=>k (x.2.1,x.u3,x.u5,x.u6,y0,x.u9,x.v10))
theorem q6j (x:tqc):LE.step X q6f q5W q50 q6a 12 x=Wt x.1 x.2.1 x.u2 x.u3 x.u5 x.u6 x.u7 x.u9 x.v10 x.u4 x.u8 (fun w0 w1=>(Sum.inl (x.1,x.2.1,x.u2,x.u3,w0,x.u5,x.u6,x.u7,w1,x.u9,x.v10))) (fun p0=>(Sum.inr (x.2.1,x.u3,x.u5,x.u6,p0,x.u9,x.v10))):=by kernel_rfl
theorem q6l {R:Type} (x:tqc) (k:tqk->Option R) (r:R) (h:q6h x k=some r):∃o,Z6a (LE.step X q6f q5W q50 q6a 12) x o/\k o=some r:=by
 obtain⟨o,h1,h2⟩:=Z0 h;exact⟨q64 x o,Zk9 (st:=fun(x:tqc)=>WL x.1 x.2.1 x.u2 x.u3 x.u5 x.u6 x.u7 x.u9 x.v10) (prj:=fun x=>(x.u4,x.u8)) (emb:=q66) (embO:=q64) (fun x=>(q6j x).trans (by unfold WL Wt X7;simp only[Zk0,ZjR,Zk1,Option.map_some,Option.map_none];rfl)) (fun _ _=>rfl) (fun _ _=>rfl) (fun _ _ _=>rfl) (fun _ _ _=>rfl) (fun _=>rfl) (Z29.1 h1),by first|exact h2|(rcases o with o<;>exact h2)⟩
def q6m {R:Type}:Z2K S R:=LE.ls X q6f q6h q6a
theorem q6n {R:Type}:Z4g X (q6m (R:=R)):=Zkd xok q5X (e:=q6f) q51 q6b q6l q6b
def q6o:Key:=⟨[127],127,none,[0,0,1,0,1,1],0,11⟩
def q6p:StT S:=⟨vY,(N (N L o7 L) of (N L o7 L)),11⟩
def q6q:Way S:=⟨(.exit 0),⟨(N L none (N (N (N L vw L) (some (.ptr 1 0)) L) vv (N L (some (.ptr 2 0)) L))),(N (N L o7 L) of (N L o7 L)),12⟩,[.int,(.lst (.st 28)),(.arr (.st 5)),(.st 25),(.arr (.st 5))]⟩
def q6r:LE S:=⟨q6o,q6p,[.int,.int,.int,(.lst (.st 28)),(.arr (.st 5)),(.st 25),(.arr (.st 5))],[q6q]⟩
def q6s (x:tqk):(Nat->Y2)->tqn:=fun y0=>(x.2.1,x.u3,y0,x.u5,x.v6)
def q6t {R:Type} (x:tqk) (k:tqn->Option R):Option R:=(W1 x.1 x.2.1 x.u3 x.u5 x.v6 (x.u2,x.u4)).bind (fun y0=>k (x.2.1,x.u3,y0,x.u5,x.v6))
def q6u (x:tqk) (v:(Int×(Nat->Y2))):tqk:=(x.1,x.2.1,v.1,x.u3,v.2,x.u5,x.v6)
theorem q6v (x:tqk):LE.step X q6r q5W q50 q6m 12 x=XB x.1 x.2.1 x.u3 x.u5 x.v6 x.u2 x.u4 (fun w0 w1=>(Sum.inl (x.1,x.2.1,w0,x.u3,w1,x.u5,x.v6))) (fun p0=>(Sum.inr (x.2.1,x.u3,p0,x.u5,x.v6))):=by kernel_rfl
theorem q6x {R:Type} (x:tqk) (k:tqn->Option R) (r:R) (h:q6t x k=some r):∃o,Z6a (LE.step X q6r q5W q50 q6m 12) x o/\k o=some r:=by
 obtain⟨o,h1,h2⟩:=Z0 h;exact⟨q6s x o,Zk9 (st:=fun(x:tqk)=>Xq x.1 x.2.1 x.u3 x.u5 x.v6) (prj:=fun x=>(x.u2,x.u4)) (emb:=q6u) (embO:=q6s) (fun x=>(q6v x).trans (by unfold Xq XB;simp only[Zk0,ZjR,Zk1,Option.map_some,Option.map_none];rfl)) (fun _ _=>rfl) (fun _ _=>rfl) (fun _ _ _=>rfl) (fun _ _ _=>rfl) (fun _=>rfl) (Z29.1 h1),by first|exact h2|(rcases o with o<;>exact h2)⟩
def q6y {R:Type}:Z2K S R:=LE.ls X q6r q6t q6m
theorem q6z {R:Type}:Z4g X (q6y (R:=R)):=Zkd xok q5X (e:=q6r) q51 q6n q6x q6n
def q6A:Key:=⟨[127],127,none,[0,0,1,1,0,0,1,0,0,1,0,1,1,1],6,38⟩
def q6B:StT S:=⟨vH,(N (N L o7 L) of (N L o7 L)),38⟩
def q6C:Way S:=⟨(.exit 6),⟨v10,(N (N L o7 L) of (N L o7 L)),39⟩,[.int,.int,(.lst (.st 28)),(.arr (.st 5)),(.st 25),(.arr (.st 5))]⟩
def q6D:LE S:=⟨q6A,q6B,[(.lst (.st 28)),.int,.int,.int,.int,(.lst (.st 28)),(.arr (.st 5)),(.st 25),(.arr (.st 5))],[q6C]⟩
def q6E (x:tqf):(Nat->Y2)->tqm:=fun y0=>(x.u2,x.u4,x.u5,y0,x.u7,x.v8)
def q6F {R:Type} (x:tqf) (k:tqm->Option R):Option R:=(W4 x.1 x.u2 x.u3 x.u4 x.u5 x.u7 x.v8 (x.2.1,x.u6)).bind (fun y0=>k (x.u2,x.u4,x.u5,y0,x.u7,x.v8))
def q6G (x:tqf) (v:(Int×(Nat->Y2))):tqf:=(x.1,v.1,x.u2,x.u3,x.u4,x.u5,v.2,x.u7,x.v8)
theorem q6H (x:tqf):LE.step X q6D q5W q50 q6y 12 x=X8 x.1 x.u2 x.u3 x.u4 x.u5 x.u7 x.v8 x.2.1 x.u6 (fun w0 w1=>(Sum.inl (x.1,w0,x.u2,x.u3,x.u4,x.u5,w1,x.u7,x.v8))) (fun p0=>(Sum.inr (x.u2,x.u4,x.u5,p0,x.u7,x.v8))):=by kernel_rfl
theorem q6J {R:Type} (x:tqf) (k:tqm->Option R) (r:R) (h:q6F x k=some r):∃o,Z6a (LE.step X q6D q5W q50 q6y 12) x o/\k o=some r:=by
 obtain⟨o,h1,h2⟩:=Z0 h;exact⟨q6E x o,Zk9 (st:=fun(x:tqf)=>Xt x.1 x.u2 x.u3 x.u4 x.u5 x.u7 x.v8) (prj:=fun x=>(x.2.1,x.u6)) (emb:=q6G) (embO:=q6E) (fun x=>(q6H x).trans (by unfold Xt X8;simp only[Zk0,ZjR,Zk1,Option.map_some,Option.map_none];rfl)) (fun _ _=>rfl) (fun _ _=>rfl) (fun _ _ _=>rfl) (fun _ _ _=>rfl) (fun _=>rfl) (Z29.1 h1),by first|exact h2|(rcases o with o<;>exact h2)⟩
def q6K {R:Type}:Z2K S R:=LE.ls X q6D q6F q6y
theorem q6L {R:Type}:Z4g X (q6K (R:=R)):=Zkd xok q5X (e:=q6D) q51 q6z q6J q6z
def q6M:Key:=⟨[127],127,none,[0,0,1,1,0,0,1,0,0,1,0,1,1,1],6,24⟩
def q6N:StT S:=⟨vH,(N (N L o7 L) of (N L o7 L)),24⟩
def q6O:Way S:=⟨(.exit 6),⟨v10,(N (N L o7 L) of (N L o7 L)),25⟩,[.int,.int,(.lst (.st 28)),(.arr (.st 5)),(.st 25),(.arr (.st 5))]⟩
def q6P:LE S:=⟨q6M,q6N,[(.lst (.st 28)),.int,.int,.int,.int,(.lst (.st 28)),(.arr (.st 5)),(.st 25),(.arr (.st 5))],[q6O]⟩
def q6R {R:Type} (x:tqf) (k:tqm->Option R):Option R:=(WE x.1 x.u2 x.u3 x.u4 x.u5 x.u7 x.v8 (x.2.1,x.u6)).bind (fun y0=>k (x.u2,x.u4,x.u5,y0,x.u7,x.v8))
theorem q6T (x:tqf):LE.step X q6P q5W q50 q6K 12 x=Wu x.1 x.u2 x.u3 x.u4 x.u5 x.u7 x.v8 x.2.1 x.u6 (fun w0 w1=>(Sum.inl (x.1,w0,x.u2,x.u3,x.u4,x.u5,w1,x.u7,x.v8))) (fun p0=>(Sum.inr (x.u2,x.u4,x.u5,p0,x.u7,x.v8))):=by kernel_rfl
theorem q6V {R:Type} (x:tqf) (k:tqm->Option R) (r:R) (h:q6R x k=some r):∃o,Z6a (LE.step X q6P q5W q50 q6K 12) x o/\k o=some r:=by
 obtain⟨o,h1,h2⟩:=Z0 h;exact⟨q6E x o,Zk9 (st:=fun(x:tqf)=>WM x.1 x.u2 x.u3 x.u4 x.u5 x.u7 x.v8) (prj:=fun x=>(x.2.1,x.u6)) (emb:=q6G) (embO:=q6E) (fun x=>(q6T x).trans (by unfold WM Wu X8;simp only[Zk0,ZjR,Zk1,Option.map_some,Option.map_none];rfl)) (fun _ _=>rfl) (fun _ _=>rfl) (fun _ _ _=>rfl) (fun _ _ _=>rfl) (fun _=>rfl) (Z29.1 h1),by first|exact h2|(rcases o with o<;>exact h2)⟩
def q6W {R:Type}:Z2K S R:=LE.ls X q6P q6R q6K
theorem q6X {R:Type}:Z4g X (q6W (R:=R)):=Zkd xok q5X (e:=q6P) q51 q6L q6V q6L
def q6Y:Key:=⟨[127],127,none,[0,0,1,0,1,1,1],4,15⟩
def q6Z:StT S:=⟨v10,(N (N L o7 L) of (N L o7 L)),15⟩
def q70:Way S:=⟨(.exit 4),⟨(N L none (N (N (N L vw L) (some (.ptr 1 0)) L) none (N L (some (.ptr 2 0)) L))),(N (N L o7 L) of (N L o7 L)),17⟩,[.int,(.arr (.st 5)),(.st 25),(.arr (.st 5))]⟩
def q71:LE S:=⟨q6Y,q6Z,[.int,.int,(.lst (.st 28)),(.arr (.st 5)),(.st 25),(.arr (.st 5))],[q70]⟩
def q72 (x:tqm):(Nat->Y2)->tqy:=fun y0=>(x.1,y0,x.u4,x.v5)
def q73 {R:Type} (x:tqm) (k:tqy->Option R):Option R:=(W3 x.1 x.u2 x.u4 x.v5 (x.2.1,x.u3)).bind (fun y0=>k (x.1,y0,x.u4,x.v5))
def q74 (x:tqm) (v:(Int×(Nat->Y2))):tqm:=(x.1,v.1,x.u2,v.2,x.u4,x.v5)
theorem q75 (x:tqm):LE.step X q71 q5W q50 q6W 12 x=XC x.1 x.u2 x.u4 x.v5 x.2.1 x.u3 (fun w0 w1=>(Sum.inl (x.1,w0,x.u2,w1,x.u4,x.v5))) (fun p0=>(Sum.inr (x.1,p0,x.u4,x.v5))):=by kernel_rfl
theorem q77 {R:Type} (x:tqm) (k:tqy->Option R) (r:R) (h:q73 x k=some r):∃o,Z6a (LE.step X q71 q5W q50 q6W 12) x o/\k o=some r:=by
 obtain⟨o,h1,h2⟩:=Z0 h;exact⟨q72 x o,Zk9 (st:=fun(x:tqm)=>Xs x.1 x.u2 x.u4 x.v5) (prj:=fun x=>(x.2.1,x.u3)) (emb:=q74) (embO:=q72) (fun x=>(q75 x).trans (by unfold Xs XC;simp only[Zk0,ZjR,Zk1,Option.map_some,Option.map_none];rfl)) (fun _ _=>rfl) (fun _ _=>rfl) (fun _ _ _=>rfl) (fun _ _ _=>rfl) (fun _=>rfl) (Z29.1 h1),by first|exact h2|(rcases o with o<;>exact h2)⟩
def q78 {R:Type}:Z2K S R:=LE.ls X q71 q73 q6W
theorem q79 {R:Type}:Z4g X (q78 (R:=R)):=Zkd xok q5X (e:=q71) q51 q6X q77 q6X
def q7a:Key:=⟨[182,2,1,152,3,25,127],182,none,[0,0,1,0,1],0,34⟩
def q7b:StT S:=⟨(N (N (N (N L vw L) none L) (some (.fn (.func 153) [] [])) L) (some (.sl (.st 5) [])) v1d),L,34⟩
def q7c:Way S:=⟨.ret,⟨v1c,L,45⟩,[.int]⟩
def q7d:Way S:=⟨(.exit 0),⟨L,L,35⟩,[]⟩
def q7e:LE S:=⟨q7a,q7b,[.int,(.lst (.st 5)),.int],[q7c,q7d]⟩
def q7f (x:tqN):(Int⊕Unit)->(Int⊕Unit):=Sum.elim (fun y0=>(.inl y0)) (fun y1=>(.inr ()))
def q7g {R:Type} (x:tqN) (k:(Int⊕Unit)->Option R):Option R:=(WF x.1 x.2.1 x.v2).bind (Sum.elim (fun y0=>k (.inl y0)) (fun y1=>k (.inr ())))
def q7h (x:tqN) (v:Int):tqN:=(x.1,x.2.1,v)
theorem q7i (x:tqN):LE.step X q7e q5W q50 q78 12 x=XD x.1 x.2.1 x.v2 (fun w0=>(Sum.inl (x.1,x.2.1,w0))) (fun p0=>(Sum.inr (.inl p0))) (Sum.inr (.inr ())):=by kernel_rfl
theorem q7k {R:Type} (x:tqN) (k:(Int⊕Unit)->Option R) (r:R) (h:q7g x k=some r):∃o,Z6a (LE.step X q7e q5W q50 q78 12) x o/\k o=some r:=by
 obtain⟨o,h1,h2⟩:=Z0 h;exact⟨q7f x o,Zk9 (st:=fun(x:tqN)=>Xu x.1 x.2.1) (prj:=fun x=>x.v2) (emb:=q7h) (embO:=q7f) (fun x=>(q7i x).trans (by unfold Xu XD;simp only[Zk0,ZjR,Zk1,Option.map_some,Option.map_none];rfl)) (fun _ _=>rfl) (fun _ _=>rfl) (fun _ _ _=>rfl) (fun _ _ _=>rfl) (fun _=>rfl) (Z29.1 h1),by first|exact h2|(rcases o with o|o<;>exact h2)⟩
def q7l {R:Type}:Z2K S R:=LE.ls X q7e q7g q78
theorem q7m {R:Type}:Z4g X (q7l (R:=R)):=Zkd xok q5X (e:=q7e) q51 q79 q7k q79
theorem q7n (x0:Zc) (x1:Nat->Y2) (x2:List Zb):Zkf X q5W [(.st 25),(.arr 10 (.st 5)),(.sl (.st 28))] [(.arr 10 (.st 5)),.bool] q50 q7l 12 127 (x0,x1,x2,())=XU x0 x1 x2:=by kernel_rfl
def q7o:F7 S:=⟨[(.st 25),(.arr 10 (.st 5)),(.sl (.st 28))],[(.arr 10 (.st 5)),.bool],fun xs=>XZ xs.1 xs.2.1 xs.u2⟩
theorem q7p:Zgf X 127 q7o:=Zkc (Zkb xok q5X q51 q7m 12 127) fun xs _ h=>((q7n xs.1 xs.2.1 xs.u2).trans (X1J xs.1 xs.2.1 xs.u2).symm).trans h
def q7q:StT S:=⟨(N v11 vw (N (N L (some (.ptr 4 0)) L) vv L)),o12,6⟩
def q7r:Way S:=⟨.ret,⟨(N L vx L),o12,6⟩,[.bool,(.st 25),.bool,(.st 25),(.st 25)]⟩
def q7s:Way S:=⟨.ret,⟨(N L vx L),o13,6⟩,[.bool,(.st 25),.bool,(.st 25),(.st 25)]⟩
def q7t:PE S:=⟨126,6,q7q,[(.arr (.st 5)),.int,(.lst (.st 28)),(.st 25),.bool,(.st 25),(.st 25)],[q7r,q7s]⟩
def q7u:List (Nat×F7 S):=[(127,q7o)]
theorem q7v:ZaC X q7u:=⟨q7p,trivial⟩
abbrev q7w (ih:tqh->Option tqb) {R:Type}:Z2K S R:=ZiZ
theorem q7x (ih:tqh->Option tqb) (hih:ZcA X q7t ih) {R:Type}:Z4g X (q7w ih (R:=R)):=ZjA X
def q7y:Key:=⟨[154,0,126],154,none,[0,0,1,1],0,69⟩
def q7z:StT S:=⟨vM,oz,70⟩
def q7A:Way S:=⟨.ret,⟨L,(N oN o5 oR),166⟩,[(.arr (.st 5)),(.st 28),(.st 25),.bool,(.arr (.st 5)),(.arr (.st 5)),.bool,.int,(.st 25),(.lst (.st 19)),(.lst (.st 28)),(.st 28),(.lst (.st 19)),(.st 21),(.lst (.st 28)),(.st 25),(.st 25),(.st 19),.int,(.lst (.st 28)),.int,.bool,(.arr (.st 5)),.bool,.int,.bool,(.lst (.st 28))]⟩
def q7B:Way S:=⟨.ret,⟨L,(N oO o5 oR),166⟩,[(.arr (.st 5)),(.st 28),(.st 25),.bool,(.arr (.st 5)),(.arr (.st 5)),.bool,.int,(.st 25),(.lst (.st 19)),(.lst (.st 28)),(.st 28),(.lst (.st 19)),(.st 21),(.lst (.st 28)),(.st 25),(.st 25),(.st 19),.int,(.lst (.st 28)),.int,.bool,(.arr (.st 5)),.bool,.int,.bool,(.lst (.st 28))]⟩
def q7C:Way S:=⟨.ret,⟨L,oA,159⟩,[(.arr (.st 5)),(.st 28),(.st 25),.bool,(.arr (.st 5)),(.arr (.st 5)),.bool,.int,(.st 25),(.lst (.st 19)),(.st 28),(.lst (.st 19)),(.st 21),(.lst (.st 28)),(.st 25),(.st 25),(.st 19),.int,.int,.bool,(.arr (.st 5)),.bool,.int,.bool,(.lst (.st 28))]⟩
def q7D:Way S:=⟨.ret,⟨L,oB,159⟩,[(.arr (.st 5)),(.st 28),(.st 25),.bool,(.arr (.st 5)),(.arr (.st 5)),.bool,.int,(.st 25),(.lst (.st 19)),(.st 28),(.lst (.st 19)),(.st 21),(.lst (.st 28)),(.st 25),(.st 25),(.st 19),.int,.int,.bool,(.arr (.st 5)),.bool,.int,.bool,(.lst (.st 28))]⟩
def q7E:Way S:=⟨.ret,⟨L,(N oF o5 oU),151⟩,[(.arr (.st 5)),(.st 28),(.st 25),(.lst (.st 28)),.bool,(.arr (.st 5)),(.arr (.st 5)),.bool,.int,(.st 25),(.lst (.st 19)),(.st 28),(.lst (.st 19)),(.st 21),(.lst (.st 28)),(.st 25),(.st 25),(.st 19),.int,.int,(.lst (.st 28)),.bool,(.arr (.st 5)),.bool,.int,.bool,(.lst (.st 28))]⟩
def q7F:Way S:=⟨.ret,⟨L,(N oG o5 oU),151⟩,[(.arr (.st 5)),(.st 28),(.st 25),(.lst (.st 28)),.bool,(.arr (.st 5)),(.arr (.st 5)),.bool,.int,(.st 25),(.lst (.st 19)),(.st 28),(.lst (.st 19)),(.st 21),(.lst (.st 28)),(.st 25),(.st 25),(.st 19),.int,.int,(.lst (.st 28)),.bool,(.arr (.st 5)),.bool,.int,.bool,(.lst (.st 28))]⟩
def q7G:Way S:=⟨.ret,⟨L,oA,144⟩,[(.arr (.st 5)),(.st 28),(.st 25),.bool,(.arr (.st 5)),(.arr (.st 5)),.bool,.int,(.st 25),(.lst (.st 19)),(.st 28),(.lst (.st 19)),(.st 21),(.lst (.st 28)),(.st 25),(.st 25),(.st 19),.int,.int,.bool,(.arr (.st 5)),.bool,.int,.bool,(.lst (.st 28))]⟩
def q7H:Way S:=⟨.ret,⟨L,oB,144⟩,[(.arr (.st 5)),(.st 28),(.st 25),.bool,(.arr (.st 5)),(.arr (.st 5)),.bool,.int,(.st 25),(.lst (.st 19)),(.st 28),(.lst (.st 19)),(.st 21),(.lst (.st 28)),(.st 25),(.st 25),(.st 19),.int,.int,.bool,(.arr (.st 5)),.bool,.int,.bool,(.lst (.st 28))]⟩
def q7I:Way S:=⟨.ret,⟨L,(N oI o5 oK),152⟩,[(.lst (.st 28)),(.arr (.st 5)),(.st 28),(.st 25),.bool,(.arr (.st 5)),(.arr (.st 5)),.bool,.int,(.st 25),(.lst (.st 19)),(.st 28),(.lst (.st 19)),(.st 21),(.lst (.st 28)),(.st 25),(.lst (.st 28)),(.st 25),(.st 19),.int,.int,.bool,(.arr (.st 5)),.bool,.int,.bool,(.lst (.st 28))]⟩
def q7J:Way S:=⟨.ret,⟨L,(N oJ o5 oK),152⟩,[(.lst (.st 28)),(.arr (.st 5)),(.st 28),(.st 25),.bool,(.arr (.st 5)),(.arr (.st 5)),.bool,.int,(.st 25),(.lst (.st 19)),(.st 28),(.lst (.st 19)),(.st 21),(.lst (.st 28)),(.st 25),(.lst (.st 28)),(.st 25),(.st 19),.int,.int,.bool,(.arr (.st 5)),.bool,.int,.bool,(.lst (.st 28))]⟩
def q7K:Way S:=⟨.ret,⟨L,oA,145⟩,[(.arr (.st 5)),(.st 28),(.st 25),.bool,(.arr (.st 5)),(.arr (.st 5)),.bool,.int,(.st 25),(.lst (.st 19)),(.st 28),(.lst (.st 19)),(.st 21),(.lst (.st 28)),(.st 25),(.st 25),(.st 19),.int,.int,.bool,(.arr (.st 5)),.bool,.int,.bool,(.lst (.st 28))]⟩
def q7L:Way S:=⟨.ret,⟨L,oB,145⟩,[(.arr (.st 5)),(.st 28),(.st 25),.bool,(.arr (.st 5)),(.arr (.st 5)),.bool,.int,(.st 25),(.lst (.st 19)),(.st 28),(.lst (.st 19)),(.st 21),(.lst (.st 28)),(.st 25),(.st 25),(.st 19),.int,.int,.bool,(.arr (.st 5)),.bool,.int,.bool,(.lst (.st 28))]⟩
def q7M:Way S:=⟨.ret,⟨L,(N oP o5 oW),137⟩,[(.arr (.st 5)),(.st 28),(.st 25),.bool,(.arr (.st 5)),(.arr (.st 5)),.bool,.int,(.st 25),(.lst (.st 19)),(.st 28),(.lst (.st 28)),(.lst (.st 28)),(.lst (.st 19)),(.st 21),(.lst (.st 28)),(.st 25),(.st 25),(.st 19),.int,.int,.bool,(.arr (.st 5)),.bool,.int,.bool,(.lst (.st 28))]⟩
def q7N:Way S:=⟨.ret,⟨L,(N oQ o5 oW),137⟩,[(.arr (.st 5)),(.st 28),(.st 25),.bool,(.arr (.st 5)),(.arr (.st 5)),.bool,.int,(.st 25),(.lst (.st 19)),(.st 28),(.lst (.st 28)),(.lst (.st 28)),(.lst (.st 19)),(.st 21),(.lst (.st 28)),(.st 25),(.st 25),(.st 19),.int,.int,.bool,(.arr (.st 5)),.bool,.int,.bool,(.lst (.st 28))]⟩
def q7O:Way S:=⟨.ret,⟨L,oA,130⟩,[(.arr (.st 5)),(.st 28),(.st 25),.bool,(.arr (.st 5)),(.arr (.st 5)),.bool,.int,(.st 25),(.lst (.st 19)),(.st 28),(.lst (.st 19)),(.st 21),(.lst (.st 28)),(.st 25),(.st 25),(.st 19),.int,.int,.bool,(.arr (.st 5)),.bool,.int,.bool,(.lst (.st 28))]⟩
def q7P:Way S:=⟨.ret,⟨L,oB,130⟩,[(.arr (.st 5)),(.st 28),(.st 25),.bool,(.arr (.st 5)),(.arr (.st 5)),.bool,.int,(.st 25),(.lst (.st 19)),(.st 28),(.lst (.st 19)),(.st 21),(.lst (.st 28)),(.st 25),(.st 25),(.st 19),.int,.int,.bool,(.arr (.st 5)),.bool,.int,.bool,(.lst (.st 28))]⟩
def q7Q:Way S:=⟨(.exit 0),⟨L,oz,71⟩,[(.arr (.st 5)),(.st 28),(.st 25),.bool,(.arr (.st 5)),.bool,.int,(.st 25),(.lst (.st 19)),(.lst (.st 19)),(.st 21),(.lst (.st 28)),(.st 25),(.st 25),.int,.int,.bool,(.arr (.st 5)),.bool,.int,.bool,(.lst (.st 28))]⟩
def q7R:LE S:=⟨q7y,q7z,[.int,.int,.int,(.arr (.st 5)),(.st 28),(.st 25),.bool,(.arr (.st 5)),.bool,.int,(.st 25),(.lst (.st 19)),(.lst (.st 19)),(.st 21),(.lst (.st 28)),(.st 25),(.st 25),.int,.int,.bool,(.arr (.st 5)),.bool,.int,.bool,(.lst (.st 28))],[q7A,q7B,q7C,q7D,q7E,q7F,q7G,q7H,q7I,q7J,q7K,q7L,q7M,q7N,q7O,q7P,q7Q]⟩
def q7S (x:tq3):(tq7⊕tq7⊕tqe⊕tqe⊕tq8⊕tq8⊕tqe⊕tqe⊕tq9⊕tq9⊕tqe⊕tqe⊕tqa⊕tqa⊕tqg⊕tqg⊕(Zb×Zc×Bool×Zc×Zc))->tq0:=Sum.elim (fun y0=>(.inl (x.u3,y0.1,y0.2.1,y0.u2,y0.u3,x.u7,y0.u4,x.u9,y0.u5,x.u11,y0.u6,y0.u7,x.u12,x.u13,x.u14,x.u15,y0.u8,y0.u9,x.u17,y0.v10,x.u18,x.u19,x.u20,x.u21,x.u22,x.u23,x.v24))) (Sum.elim (fun y1=>(.inr (.inl (x.u3,y1.1,y1.2.1,y1.u2,y1.u3,x.u7,y1.u4,x.u9,y1.u5,x.u11,y1.u6,y1.u7,x.u12,x.u13,x.u14,x.u15,y1.u8,y1.u9,x.u17,y1.v10,x.u18,x.u19,x.u20,x.u21,x.u22,x.u23,x.v24)))) (Sum.elim (fun y2=>(.inr (.inr (.inl (x.u3,y2.1,y2.2.1,y2.u2,y2.u3,x.u7,y2.u4,x.u9,y2.u5,x.u11,y2.u6,x.u12,x.u13,x.u14,x.u15,y2.u7,y2.v8,x.u17,x.u18,x.u19,x.u20,x.u21,x.u22,x.u23,x.v24))))) (Sum.elim (fun y3=>(.inr (.inr (.inr (.inl (x.u3,y3.1,y3.2.1,y3.u2,y3.u3,x.u7,y3.u4,x.u9,y3.u5,x.u11,y3.u6,x.u12,x.u13,x.u14,x.u15,y3.u7,y3.v8,x.u17,x.u18,x.u19,x.u20,x.u21,x.u22,x.u23,x.v24)))))) (Sum.elim (fun y4=>(.inr (.inr (.inr (.inr (.inl (x.u3,y4.1,y4.2.1,y4.u2,y4.u3,y4.u4,x.u7,y4.u5,x.u9,y4.u6,x.u11,y4.u7,x.u12,x.u13,x.u14,x.u15,y4.u8,y4.u9,x.u17,x.u18,y4.v10,x.u19,x.u20,x.u21,x.u22,x.u23,x.v24))))))) (Sum.elim (fun y5=>(.inr (.inr (.inr (.inr (.inr (.inl (x.u3,y5.1,y5.2.1,y5.u2,y5.u3,y5.u4,x.u7,y5.u5,x.u9,y5.u6,x.u11,y5.u7,x.u12,x.u13,x.u14,x.u15,y5.u8,y5.u9,x.u17,x.u18,y5.v10,x.u19,x.u20,x.u21,x.u22,x.u23,x.v24)))))))) (Sum.elim (fun y6=>(.inr (.inr (.inr (.inr (.inr (.inr (.inl (x.u3,y6.1,y6.2.1,y6.u2,y6.u3,x.u7,y6.u4,x.u9,y6.u5,x.u11,y6.u6,x.u12,x.u13,x.u14,x.u15,y6.u7,y6.v8,x.u17,x.u18,x.u19,x.u20,x.u21,x.u22,x.u23,x.v24))))))))) (Sum.elim (fun y7=>(.inr (.inr (.inr (.inr (.inr (.inr (.inr (.inl (x.u3,y7.1,y7.2.1,y7.u2,y7.u3,x.u7,y7.u4,x.u9,y7.u5,x.u11,y7.u6,x.u12,x.u13,x.u14,x.u15,y7.u7,y7.v8,x.u17,x.u18,x.u19,x.u20,x.u21,x.u22,x.u23,x.v24)))))))))) (Sum.elim (fun y8=>(.inr (.inr (.inr (.inr (.inr (.inr (.inr (.inr (.inl (y8.1,x.u3,y8.2.1,y8.u2,y8.u3,y8.u4,x.u7,y8.u5,x.u9,y8.u6,x.u11,y8.u7,x.u12,x.u13,x.u14,x.u15,y8.u8,y8.u9,y8.v10,x.u17,x.u18,x.u19,x.u20,x.u21,x.u22,x.u23,x.v24))))))))))) (Sum.elim (fun y9=>(.inr (.inr (.inr (.inr (.inr (.inr (.inr (.inr (.inr (.inl (y9.1,x.u3,y9.2.1,y9.u2,y9.u3,y9.u4,x.u7,y9.u5,x.u9,y9.u6,x.u11,y9.u7,x.u12,x.u13,x.u14,x.u15,y9.u8,y9.u9,y9.v10,x.u17,x.u18,x.u19,x.u20,x.u21,x.u22,x.u23,x.v24)))))))))))) (Sum.elim (fun y10=>(.inr (.inr (.inr (.inr (.inr (.inr (.inr (.inr (.inr (.inr (.inl (x.u3,y10.1,y10.2.1,y10.u2,y10.u3,x.u7,y10.u4,x.u9,y10.u5,x.u11,y10.u6,x.u12,x.u13,x.u14,x.u15,y10.u7,y10.v8,x.u17,x.u18,x.u19,x.u20,x.u21,x.u22,x.u23,x.v24))))))))))))) (Sum.elim (fun y11=>(.inr (.inr (.inr (.inr (.inr (.inr (.inr (.inr (.inr (.inr (.inr (.inl (x.u3,y11.1,y11.2.1,y11.u2,y11.u3,x.u7,y11.u4,x.u9,y11.u5,x.u11,y11.u6,x.u12,x.u13,x.u14,x.u15,y11.u7,y11.v8,x.u17,x.u18,x.u19,x.u20,x.u21,x.u22,x.u23,x.v24)))))))))))))) (Sum.elim (fun y12=>(.inr (.inr (.inr (.inr (.inr (.inr (.inr (.inr (.inr (.inr (.inr (.inr (.inl (x.u3,y12.1,y12.2.1,y12.u2,x.u3,x.u7,y12.u3,x.u9,y12.u4,x.u11,y12.u5,y12.u6,y12.u7,x.u12,x.u13,x.u14,x.u15,y12.u8,y12.v9,x.u17,x.u18,x.u19,x.u20,x.u21,x.u22,x.u23,x.v24))))))))))))))) (Sum.elim (fun y13=>(.inr (.inr (.inr (.inr (.inr (.inr (.inr (.inr (.inr (.inr (.inr (.inr (.inr (.inl (x.u3,y13.1,y13.2.1,y13.u2,x.u3,x.u7,y13.u3,x.u9,y13.u4,x.u11,y13.u5,y13.u6,y13.u7,x.u12,x.u13,x.u14,x.u15,y13.u8,y13.v9,x.u17,x.u18,x.u19,x.u20,x.u21,x.u22,x.u23,x.v24)))))))))))))))) (Sum.elim (fun y14=>(.inr (.inr (.inr (.inr (.inr (.inr (.inr (.inr (.inr (.inr (.inr (.inr (.inr (.inr (.inl (x.u3,y14.1,y14.2.1,y14.u2,x.u3,x.u7,y14.u3,x.u9,y14.u4,x.u11,y14.u5,x.u12,x.u13,x.u14,x.u15,y14.u6,y14.v7,x.u17,x.u18,x.u19,x.u20,x.u21,x.u22,x.u23,x.v24))))))))))))))))) (Sum.elim (fun y15=>(.inr (.inr (.inr (.inr (.inr (.inr (.inr (.inr (.inr (.inr (.inr (.inr (.inr (.inr (.inr (.inl (x.u3,y15.1,y15.2.1,y15.u2,x.u3,x.u7,y15.u3,x.u9,y15.u4,x.u11,y15.u5,x.u12,x.u13,x.u14,x.u15,y15.u6,y15.v7,x.u17,x.u18,x.u19,x.u20,x.u21,x.u22,x.u23,x.v24)))))))))))))))))) (fun y16=>(.inr (.inr (.inr (.inr (.inr (.inr (.inr (.inr (.inr (.inr (.inr (.inr (.inr (.inr (.inr (.inr (x.u3,y16.1,y16.2.1,y16.u2,x.u7,x.u8,x.u9,y16.u3,x.u11,x.u12,x.u13,x.u14,x.u15,y16.v4,x.u17,x.u18,x.u19,x.u20,x.u21,x.u22,x.u23,x.v24)))))))))))))))))))))))))))))))))
def q7T (ih:tqh->Option tqb) {R:Type} (x:tq3) (k:tq0->Option R):Option R:=(Xy ih x.1 x.u3 x.u7 x.u8 x.u9 x.u11 x.u12 x.u13 x.u14 x.u15 x.u17 x.u18 x.u19 x.u20 x.u21 x.u22 x.u23 x.v24 (x.2.1,x.u2,x.u4,x.u5,x.u6,x.u10,x.u16)).bind (Sum.elim (fun y0=>k (.inl (x.u3,y0.1,y0.2.1,y0.u2,y0.u3,x.u7,y0.u4,x.u9,y0.u5,x.u11,y0.u6,y0.u7,x.u12,x.u13,x.u14,x.u15,y0.u8,y0.u9,x.u17,y0.v10,x.u18,x.u19,x.u20,x.u21,x.u22,x.u23,x.v24))) (Sum.elim (fun y1=>k (.inr (.inl (x.u3,y1.1,y1.2.1,y1.u2,y1.u3,x.u7,y1.u4,x.u9,y1.u5,x.u11,y1.u6,y1.u7,x.u12,x.u13,x.u14,x.u15,y1.u8,y1.u9,x.u17,y1.v10,x.u18,x.u19,x.u20,x.u21,x.u22,x.u23,x.v24)))) (Sum.elim (fun y2=>k (.inr (.inr (.inl (x.u3,y2.1,y2.2.1,y2.u2,y2.u3,x.u7,y2.u4,x.u9,y2.u5,x.u11,y2.u6,x.u12,x.u13,x.u14,x.u15,y2.u7,y2.v8,x.u17,x.u18,x.u19,x.u20,x.u21,x.u22,x.u23,x.v24))))) (Sum.elim (fun y3=>k (.inr (.inr (.inr (.inl (x.u3,y3.1,y3.2.1,y3.u2,y3.u3,x.u7,y3.u4,x.u9,y3.u5,x.u11,y3.u6,x.u12,x.u13,x.u14,x.u15,y3.u7,y3.v8,x.u17,x.u18,x.u19,x.u20,x.u21,x.u22,x.u23,x.v24)))))) (Sum.elim (fun y4=>k (.inr (.inr (.inr (.inr (.inl (x.u3,y4.1,y4.2.1,y4.u2,y4.u3,y4.u4,x.u7,y4.u5,x.u9,y4.u6,x.u11,y4.u7,x.u12,x.u13,x.u14,x.u15,y4.u8,y4.u9,x.u17,x.u18,y4.v10,x.u19,x.u20,x.u21,x.u22,x.u23,x.v24))))))) (Sum.elim (fun y5=>k (.inr (.inr (.inr (.inr (.inr (.inl (x.u3,y5.1,y5.2.1,y5.u2,y5.u3,y5.u4,x.u7,y5.u5,x.u9,y5.u6,x.u11,y5.u7,x.u12,x.u13,x.u14,x.u15,y5.u8,y5.u9,x.u17,x.u18,y5.v10,x.u19,x.u20,x.u21,x.u22,x.u23,x.v24)))))))) (Sum.elim (fun y6=>k (.inr (.inr (.inr (.inr (.inr (.inr (.inl (x.u3,y6.1,y6.2.1,y6.u2,y6.u3,x.u7,y6.u4,x.u9,y6.u5,x.u11,y6.u6,x.u12,x.u13,x.u14,x.u15,y6.u7,y6.v8,x.u17,x.u18,x.u19,x.u20,x.u21,x.u22,x.u23,x.v24))))))))) (Sum.elim (fun y7=>k (.inr (.inr (.inr (.inr (.inr (.inr (.inr (.inl (x.u3,y7.1,y7.2.1,y7.u2,y7.u3,x.u7,y7.u4,x.u9,y7.u5,x.u11,y7.u6,x.u12,x.u13,x.u14,x.u15,y7.u7,y7.v8,x.u17,x.u18,x.u19,x.u20,x.u21,x.u22,x.u23,x.v24)))))))))) (Sum.elim (fun y8=>k (.inr (.inr (.inr (.inr (.inr (.inr (.inr (.inr (.inl (y8.1,x.u3,y8.2.1,y8.u2,y8.u3,y8.u4,x.u7,y8.u5,x.u9,y8.u6,x.u11,y8.u7,x.u12,x.u13,x.u14,x.u15,y8.u8,y8.u9,y8.v10,x.u17,x.u18,x.u19,x.u20,x.u21,x.u22,x.u23,x.v24))))))))))) (Sum.elim (fun y9=>k (.inr (.inr (.inr (.inr (.inr (.inr (.inr (.inr (.inr (.inl (y9.1,x.u3,y9.2.1,y9.u2,y9.u3,y9.u4,x.u7,y9.u5,x.u9,y9.u6,x.u11,y9.u7,x.u12,x.u13,x.u14,x.u15,y9.u8,y9.u9,y9.v10,x.u17,x.u18,x.u19,x.u20,x.u21,x.u22,x.u23,x.v24)))))))))))) (Sum.elim (fun y10=>k (.inr (.inr (.inr (.inr (.inr (.inr (.inr (.inr (.inr (.inr (.inl (x.u3,y10.1,y10.2.1,y10.u2,y10.u3,x.u7,y10.u4,x.u9,y10.u5,x.u11,y10.u6,x.u12,x.u13,x.u14,x.u15,y10.u7,y10.v8,x.u17,x.u18,x.u19,x.u20,x.u21,x.u22,x.u23,x.v24))))))))))))) (Sum.elim (fun y11=>k (.inr (.inr (.inr (.inr (.inr (.inr (.inr (.inr (.inr (.inr (.inr (.inl (x.u3,y11.1,y11.2.1,y11.u2,y11.u3,x.u7,y11.u4,x.u9,y11.u5,x.u11,y11.u6,x.u12,x.u13,x.u14,x.u15,y11.u7,y11.v8,x.u17,x.u18,x.u19,x.u20,x.u21,x.u22,x.u23,x.v24)))))))))))))) (Sum.elim (fun y12=>k (.inr (.inr (.inr (.inr (.inr (.inr (.inr (.inr (.inr (.inr (.inr (.inr (.inl (x.u3,y12.1,y12.2.1,y12.u2,x.u3,x.u7,y12.u3,x.u9,y12.u4,x.u11,y12.u5,y12.u6,y12.u7,x.u12,x.u13,x.u14,x.u15,y12.u8,y12.v9,x.u17,x.u18,x.u19,x.u20,x.u21,x.u22,x.u23,x.v24))))))))))))))) (Sum.elim (fun y13=>k (.inr (.inr (.inr (.inr (.inr (.inr (.inr (.inr (.inr (.inr (.inr (.inr (.inr (.inl (x.u3,y13.1,y13.2.1,y13.u2,x.u3,x.u7,y13.u3,x.u9,y13.u4,x.u11,y13.u5,y13.u6,y13.u7,x.u12,x.u13,x.u14,x.u15,y13.u8,y13.v9,x.u17,x.u18,x.u19,x.u20,x.u21,x.u22,x.u23,x.v24)))))))))))))))) (Sum.elim (fun y14=>k (.inr (.inr (.inr (.inr (.inr (.inr (.inr (.inr (.inr (.inr (.inr (.inr (.inr (.inr (.inl (x.u3,y14.1,y14.2.1,y14.u2,x.u3,x.u7,y14.u3,x.u9,y14.u4,x.u11,y14.u5,x.u12,x.u13,x.u14,x.u15,y14.u6,y14.v7,x.u17,x.u18,x.u19,x.u20,x.u21,x.u22,x.u23,x.v24))))))))))))))))) (Sum.elim (fun y15=>k (.inr (.inr (.inr (.inr (.inr (.inr (.inr (.inr (.inr (.inr (.inr (.inr (.inr (.inr (.inr (.inl (x.u3,y15.1,y15.2.1,y15.u2,x.u3,x.u7,y15.u3,x.u9,y15.u4,x.u11,y15.u5,x.u12,x.u13,x.u14,x.u15,y15.u6,y15.v7,x.u17,x.u18,x.u19,x.u20,x.u21,x.u22,x.u23,x.v24)))))))))))))))))) (fun y16=>k (.inr (.inr (.inr (.inr (.inr (.inr (.inr (.inr (.inr (.inr (.inr (.inr (.inr (.inr (.inr (.inr (x.u3,y16.1,y16.2.1,y16.u2,x.u7,x.u8,x.u9,y16.u3,x.u11,x.u12,x.u13,x.u14,x.u15,y16.v4,x.u17,x.u18,x.u19,x.u20,x.u21,x.u22,x.u23,x.v24))))))))))))))))))))))))))))))))))
def q7U (x:tq3) (v:(Int×Int×Zb×Zc×Bool×Zc×Zc)):tq3:=(x.1,v.1,v.2.1,x.u3,v.u2,v.u3,v.u4,x.u7,x.u8,x.u9,v.u5,x.u11,x.u12,x.u13,x.u14,x.u15,v.v6,x.u17,x.u18,x.u19,x.u20,x.u21,x.u22,x.u23,x.v24)
theorem q7V (ih:tqh->Option tqb) (x:tq3):LE.step X q7R q7u (PE.ps X q7t (fun x q=>(ih x).bind q) q50) (q7w ih) 12 x=X0 ih x.1 x.u3 x.u7 x.u8 x.u9 x.u11 x.u12 x.u13 x.u14 x.u15 x.u17 x.u18 x.u19 x.u20 x.u21 x.u22 x.u23 x.v24 x.2.1 x.u2 x.u4 x.u5 x.u6 x.u10 x.u16 (fun w0 w1 w2 w3 w4 w5 w6=>(Sum.inl (x.1,w0,w1,x.u3,w2,w3,w4,x.u7,x.u8,x.u9,w5,x.u11,x.u12,x.u13,x.u14,x.u15,w6,x.u17,x.u18,x.u19,x.u20,x.u21,x.u22,x.u23,x.v24))) (fun p0 p1 p2 p3 p4 p5 p6 p7 p8 p9 p10=>(Sum.inr (.inl (x.u3,p0,p1,p2,p3,x.u7,p4,x.u9,p5,x.u11,p6,p7,x.u12,x.u13,x.u14,x.u15,p8,p9,x.u17,p10,x.u18,x.u19,x.u20,x.u21,x.u22,x.u23,x.v24)))) (fun p0 p1 p2 p3 p4 p5 p6 p7 p8 p9 p10=>(Sum.inr (.inr (.inl (x.u3,p0,p1,p2,p3,x.u7,p4,x.u9,p5,x.u11,p6,p7,x.u12,x.u13,x.u14,x.u15,p8,p9,x.u17,p10,x.u18,x.u19,x.u20,x.u21,x.u22,x.u23,x.v24))))) (fun p0 p1 p2 p3 p4 p5 p6 p7 p8=>(Sum.inr (.inr (.inr (.inl (x.u3,p0,p1,p2,p3,x.u7,p4,x.u9,p5,x.u11,p6,x.u12,x.u13,x.u14,x.u15,p7,p8,x.u17,x.u18,x.u19,x.u20,x.u21,x.u22,x.u23,x.v24)))))) (fun p0 p1 p2 p3 p4 p5 p6 p7 p8=>(Sum.inr (.inr (.inr (.inr (.inl (x.u3,p0,p1,p2,p3,x.u7,p4,x.u9,p5,x.u11,p6,x.u12,x.u13,x.u14,x.u15,p7,p8,x.u17,x.u18,x.u19,x.u20,x.u21,x.u22,x.u23,x.v24))))))) (fun p0 p1 p2 p3 p4 p5 p6 p7 p8 p9 p10=>(Sum.inr (.inr (.inr (.inr (.inr (.inl (x.u3,p0,p1,p2,p3,p4,x.u7,p5,x.u9,p6,x.u11,p7,x.u12,x.u13,x.u14,x.u15,p8,p9,x.u17,x.u18,p10,x.u19,x.u20,x.u21,x.u22,x.u23,x.v24)))))))) (fun p0 p1 p2 p3 p4 p5 p6 p7 p8 p9 p10=>(Sum.inr (.inr (.inr (.inr (.inr (.inr (.inl (x.u3,p0,p1,p2,p3,p4,x.u7,p5,x.u9,p6,x.u11,p7,x.u12,x.u13,x.u14,x.u15,p8,p9,x.u17,x.u18,p10,x.u19,x.u20,x.u21,x.u22,x.u23,x.v24))))))))) (fun p0 p1 p2 p3 p4 p5 p6 p7 p8=>(Sum.inr (.inr (.inr (.inr (.inr (.inr (.inr (.inl (x.u3,p0,p1,p2,p3,x.u7,p4,x.u9,p5,x.u11,p6,x.u12,x.u13,x.u14,x.u15,p7,p8,x.u17,x.u18,x.u19,x.u20,x.u21,x.u22,x.u23,x.v24)))))))))) (fun p0 p1 p2 p3 p4 p5 p6 p7 p8=>(Sum.inr (.inr (.inr (.inr (.inr (.inr (.inr (.inr (.inl (x.u3,p0,p1,p2,p3,x.u7,p4,x.u9,p5,x.u11,p6,x.u12,x.u13,x.u14,x.u15,p7,p8,x.u17,x.u18,x.u19,x.u20,x.u21,x.u22,x.u23,x.v24))))))))))) (fun p0 p1 p2 p3 p4 p5 p6 p7 p8 p9 p10=>(Sum.inr (.inr (.inr (.inr (.inr (.inr (.inr (.inr (.inr (.inl (p0,x.u3,p1,p2,p3,p4,x.u7,p5,x.u9,p6,x.u11,p7,x.u12,x.u13,x.u14,x.u15,p8,p9,p10,x.u17,x.u18,x.u19,x.u20,x.u21,x.u22,x.u23,x.v24)))))))))))) (fun p0 p1 p2 p3 p4 p5 p6 p7 p8 p9 p10=>(Sum.inr (.inr (.inr (.inr (.inr (.inr (.inr (.inr (.inr (.inr (.inl (p0,x.u3,p1,p2,p3,p4,x.u7,p5,x.u9,p6,x.u11,p7,x.u12,x.u13,x.u14,x.u15,p8,p9,p10,x.u17,x.u18,x.u19,x.u20,x.u21,x.u22,x.u23,x.v24))))))))))))) (fun p0 p1 p2 p3 p4 p5 p6 p7 p8=>(Sum.inr (.inr (.inr (.inr (.inr (.inr (.inr (.inr (.inr (.inr (.inr (.inl (x.u3,p0,p1,p2,p3,x.u7,p4,x.u9,p5,x.u11,p6,x.u12,x.u13,x.u14,x.u15,p7,p8,x.u17,x.u18,x.u19,x.u20,x.u21,x.u22,x.u23,x.v24)))))))))))))) (fun p0 p1 p2 p3 p4 p5 p6 p7 p8=>(Sum.inr (.inr (.inr (.inr (.inr (.inr (.inr (.inr (.inr (.inr (.inr (.inr (.inl (x.u3,p0,p1,p2,p3,x.u7,p4,x.u9,p5,x.u11,p6,x.u12,x.u13,x.u14,x.u15,p7,p8,x.u17,x.u18,x.u19,x.u20,x.u21,x.u22,x.u23,x.v24))))))))))))))) (fun p0 p1 p2 p3 p4 p5 p6 p7 p8 p9=>(Sum.inr (.inr (.inr (.inr (.inr (.inr (.inr (.inr (.inr (.inr (.inr (.inr (.inr (.inl (x.u3,p0,p1,p2,x.u3,x.u7,p3,x.u9,p4,x.u11,p5,p6,p7,x.u12,x.u13,x.u14,x.u15,p8,p9,x.u17,x.u18,x.u19,x.u20,x.u21,x.u22,x.u23,x.v24)))))))))))))))) (fun p0 p1 p2 p3 p4 p5 p6 p7 p8 p9=>(Sum.inr (.inr (.inr (.inr (.inr (.inr (.inr (.inr (.inr (.inr (.inr (.inr (.inr (.inr (.inl (x.u3,p0,p1,p2,x.u3,x.u7,p3,x.u9,p4,x.u11,p5,p6,p7,x.u12,x.u13,x.u14,x.u15,p8,p9,x.u17,x.u18,x.u19,x.u20,x.u21,x.u22,x.u23,x.v24))))))))))))))))) (fun p0 p1 p2 p3 p4 p5 p6 p7=>(Sum.inr (.inr (.inr (.inr (.inr (.inr (.inr (.inr (.inr (.inr (.inr (.inr (.inr (.inr (.inr (.inl (x.u3,p0,p1,p2,x.u3,x.u7,p3,x.u9,p4,x.u11,p5,x.u12,x.u13,x.u14,x.u15,p6,p7,x.u17,x.u18,x.u19,x.u20,x.u21,x.u22,x.u23,x.v24)))))))))))))))))) (fun p0 p1 p2 p3 p4 p5 p6 p7=>(Sum.inr (.inr (.inr (.inr (.inr (.inr (.inr (.inr (.inr (.inr (.inr (.inr (.inr (.inr (.inr (.inr (.inl (x.u3,p0,p1,p2,x.u3,x.u7,p3,x.u9,p4,x.u11,p5,x.u12,x.u13,x.u14,x.u15,p6,p7,x.u17,x.u18,x.u19,x.u20,x.u21,x.u22,x.u23,x.v24))))))))))))))))))) (fun p0 p1 p2 p3 p4=>(Sum.inr (.inr (.inr (.inr (.inr (.inr (.inr (.inr (.inr (.inr (.inr (.inr (.inr (.inr (.inr (.inr (.inr (x.u3,p0,p1,p2,x.u7,x.u8,x.u9,p3,x.u11,x.u12,x.u13,x.u14,x.u15,p4,x.u17,x.u18,x.u19,x.u20,x.u21,x.u22,x.u23,x.v24))))))))))))))))))):=by kernel_rfl
theorem q7X (ih:tqh->Option tqb) {R:Type} (x:tq3) (k:tq0->Option R) (r:R) (h:q7T ih x k=some r):∃o,Z6a (LE.step X q7R q7u (PE.ps X q7t (fun x q=>(ih x).bind q) q50) (q7w ih) 12) x o/\k o=some r:=by
 obtain⟨o,h1,h2⟩:=Z0 h;exact⟨q7S x o,Zk9 (st:=fun(x:tq3)=>X6 ih x.1 x.u3 x.u7 x.u8 x.u9 x.u11 x.u12 x.u13 x.u14 x.u15 x.u17 x.u18 x.u19 x.u20 x.u21 x.u22 x.u23 x.v24) (prj:=fun x=>(x.2.1,x.u2,x.u4,x.u5,x.u6,x.u10,x.u16)) (emb:=q7U) (embO:=q7S) (fun x=>(q7V ih x).trans (by unfold X6 X0;simp only[Zk0,ZjR,Zk1,Option.map_some,Option.map_none];rfl)) (fun _ _=>rfl) (fun _ _=>rfl) (fun _ _ _=>rfl) (fun _ _ _=>rfl) (fun _=>rfl) (Z29.1 h1),by first|exact h2|(rcases o with o|o|o|o|o|o|o|o|o|o|o|o|o|o|o|o|o<;>exact h2)⟩
def q7Y (ih:tqh->Option tqb) {R:Type}:Z2K S R:=LE.ls X q7R (q7T ih) (q7w ih)
theorem q7Z (ih:tqh->Option tqb) (hih:ZcA X q7t ih) {R:Type}:Z4g X (q7Y ih (R:=R)):=Zkd xok q7v (e:=q7R) (Zk6 (e:=q7t) hih q51) (q7x ih hih) (q7X ih) (q7x ih hih)
theorem q80 (ih:tqh->Option tqb) (x:((Nat->Y2)×Int×(List Zb)×Zc×Bool×Zc×Zc)):PE.step X q7t q7u (PE.ps X q7t (fun x q=>(ih x).bind q) q50) (q7Y ih) 12 x=X9 ih x.1 x.2.1 x.u2 x.u3 x.u4 x.u5 x.v6:=by kernel_rfl
theorem q81:ZcA X q7t XH:=Zk7 (X:=X) (e:=q7t) (t:=X2) fun ih hih=>Zke (ZjE xok q7v (Zk6 (e:=q7t) hih q51) (q7Z ih hih) 12) fun x _ h=>(q80 ih x).trans h
def q82 {R:Type}:Prs S R:=PE.ps X q7t (fun x q=>(XH x).bind q) q50
theorem q83 {R:Type}:Z93 X (q82 (R:=R)):=Zk6 (e:=q7t) q81 q51
def q84:StT S:=⟨(N v11 vw (N (N L (some (.ptr 4 0)) L) (some .sl0) L)),o12,6⟩
def q87:PE S:=⟨126,6,q84,[(.arr (.st 5)),.int,(.st 25),.bool,(.st 25),(.st 25)],[q7r,q7s]⟩
def q8d:StT S:=⟨vM,oy,70⟩
def q8e:Way S:=⟨.ret,⟨L,(N oN o5 oS),166⟩,[(.arr (.st 5)),(.st 28),(.st 25),.bool,(.arr (.st 5)),(.arr (.st 5)),.bool,.int,(.st 25),(.lst (.st 19)),(.lst (.st 28)),(.st 28),(.lst (.st 19)),(.st 21),(.lst (.st 28)),(.st 25),(.st 25),(.st 19),.int,(.lst (.st 28)),.int,.bool,(.arr (.st 5)),.bool,.int,.bool]⟩
def q8f:Way S:=⟨.ret,⟨L,(N oO o5 oS),166⟩,[(.arr (.st 5)),(.st 28),(.st 25),.bool,(.arr (.st 5)),(.arr (.st 5)),.bool,.int,(.st 25),(.lst (.st 19)),(.lst (.st 28)),(.st 28),(.lst (.st 19)),(.st 21),(.lst (.st 28)),(.st 25),(.st 25),(.st 19),.int,(.lst (.st 28)),.int,.bool,(.arr (.st 5)),.bool,.int,.bool]⟩
def q8g:Way S:=⟨.ret,⟨L,oC,159⟩,[(.arr (.st 5)),(.st 28),(.st 25),.bool,(.arr (.st 5)),(.arr (.st 5)),.bool,.int,(.st 25),(.lst (.st 19)),(.st 28),(.lst (.st 19)),(.st 21),(.lst (.st 28)),(.st 25),(.st 25),(.st 19),.int,.int,.bool,(.arr (.st 5)),.bool,.int,.bool]⟩
def q8h:Way S:=⟨.ret,⟨L,oD,159⟩,[(.arr (.st 5)),(.st 28),(.st 25),.bool,(.arr (.st 5)),(.arr (.st 5)),.bool,.int,(.st 25),(.lst (.st 19)),(.st 28),(.lst (.st 19)),(.st 21),(.lst (.st 28)),(.st 25),(.st 25),(.st 19),.int,.int,.bool,(.arr (.st 5)),.bool,.int,.bool]⟩
def q8i:Way S:=⟨.ret,⟨L,(N oF o5 oV),151⟩,[(.arr (.st 5)),(.st 28),(.st 25),(.lst (.st 28)),.bool,(.arr (.st 5)),(.arr (.st 5)),.bool,.int,(.st 25),(.lst (.st 19)),(.st 28),(.lst (.st 19)),(.st 21),(.lst (.st 28)),(.st 25),(.st 25),(.st 19),.int,.int,(.lst (.st 28)),.bool,(.arr (.st 5)),.bool,.int,.bool]⟩
def q8j:Way S:=⟨.ret,⟨L,(N oG o5 oV),151⟩,[(.arr (.st 5)),(.st 28),(.st 25),(.lst (.st 28)),.bool,(.arr (.st 5)),(.arr (.st 5)),.bool,.int,(.st 25),(.lst (.st 19)),(.st 28),(.lst (.st 19)),(.st 21),(.lst (.st 28)),(.st 25),(.st 25),(.st 19),.int,.int,(.lst (.st 28)),.bool,(.arr (.st 5)),.bool,.int,.bool]⟩
def q8k:Way S:=⟨.ret,⟨L,oC,144⟩,[(.arr (.st 5)),(.st 28),(.st 25),.bool,(.arr (.st 5)),(.arr (.st 5)),.bool,.int,(.st 25),(.lst (.st 19)),(.st 28),(.lst (.st 19)),(.st 21),(.lst (.st 28)),(.st 25),(.st 25),(.st 19),.int,.int,.bool,(.arr (.st 5)),.bool,.int,.bool]⟩
def q8l:Way S:=⟨.ret,⟨L,oD,144⟩,[(.arr (.st 5)),(.st 28),(.st 25),.bool,(.arr (.st 5)),(.arr (.st 5)),.bool,.int,(.st 25),(.lst (.st 19)),(.st 28),(.lst (.st 19)),(.st 21),(.lst (.st 28)),(.st 25),(.st 25),(.st 19),.int,.int,.bool,(.arr (.st 5)),.bool,.int,.bool]⟩
def q8m:Way S:=⟨.ret,⟨L,(N oI o5 oL),152⟩,[(.lst (.st 28)),(.arr (.st 5)),(.st 28),(.st 25),.bool,(.arr (.st 5)),(.arr (.st 5)),.bool,.int,(.st 25),(.lst (.st 19)),(.st 28),(.lst (.st 19)),(.st 21),(.lst (.st 28)),(.st 25),(.lst (.st 28)),(.st 25),(.st 19),.int,.int,.bool,(.arr (.st 5)),.bool,.int,.bool]⟩
def q8n:Way S:=⟨.ret,⟨L,(N oJ o5 oL),152⟩,[(.lst (.st 28)),(.arr (.st 5)),(.st 28),(.st 25),.bool,(.arr (.st 5)),(.arr (.st 5)),.bool,.int,(.st 25),(.lst (.st 19)),(.st 28),(.lst (.st 19)),(.st 21),(.lst (.st 28)),(.st 25),(.lst (.st 28)),(.st 25),(.st 19),.int,.int,.bool,(.arr (.st 5)),.bool,.int,.bool]⟩
def q8o:Way S:=⟨.ret,⟨L,oC,145⟩,[(.arr (.st 5)),(.st 28),(.st 25),.bool,(.arr (.st 5)),(.arr (.st 5)),.bool,.int,(.st 25),(.lst (.st 19)),(.st 28),(.lst (.st 19)),(.st 21),(.lst (.st 28)),(.st 25),(.st 25),(.st 19),.int,.int,.bool,(.arr (.st 5)),.bool,.int,.bool]⟩
def q8p:Way S:=⟨.ret,⟨L,oD,145⟩,[(.arr (.st 5)),(.st 28),(.st 25),.bool,(.arr (.st 5)),(.arr (.st 5)),.bool,.int,(.st 25),(.lst (.st 19)),(.st 28),(.lst (.st 19)),(.st 21),(.lst (.st 28)),(.st 25),(.st 25),(.st 19),.int,.int,.bool,(.arr (.st 5)),.bool,.int,.bool]⟩
def q8q:Way S:=⟨.ret,⟨L,(N oP o5 oX),137⟩,[(.arr (.st 5)),(.st 28),(.st 25),.bool,(.arr (.st 5)),(.arr (.st 5)),.bool,.int,(.st 25),(.lst (.st 19)),(.st 28),(.lst (.st 28)),(.lst (.st 28)),(.lst (.st 19)),(.st 21),(.lst (.st 28)),(.st 25),(.st 25),(.st 19),.int,.int,.bool,(.arr (.st 5)),.bool,.int,.bool]⟩
def q8r:Way S:=⟨.ret,⟨L,(N oQ o5 oX),137⟩,[(.arr (.st 5)),(.st 28),(.st 25),.bool,(.arr (.st 5)),(.arr (.st 5)),.bool,.int,(.st 25),(.lst (.st 19)),(.st 28),(.lst (.st 28)),(.lst (.st 28)),(.lst (.st 19)),(.st 21),(.lst (.st 28)),(.st 25),(.st 25),(.st 19),.int,.int,.bool,(.arr (.st 5)),.bool,.int,.bool]⟩
def q8s:Way S:=⟨.ret,⟨L,oC,130⟩,[(.arr (.st 5)),(.st 28),(.st 25),.bool,(.arr (.st 5)),(.arr (.st 5)),.bool,.int,(.st 25),(.lst (.st 19)),(.st 28),(.lst (.st 19)),(.st 21),(.lst (.st 28)),(.st 25),(.st 25),(.st 19),.int,.int,.bool,(.arr (.st 5)),.bool,.int,.bool]⟩
def q8t:Way S:=⟨.ret,⟨L,oD,130⟩,[(.arr (.st 5)),(.st 28),(.st 25),.bool,(.arr (.st 5)),(.arr (.st 5)),.bool,.int,(.st 25),(.lst (.st 19)),(.st 28),(.lst (.st 19)),(.st 21),(.lst (.st 28)),(.st 25),(.st 25),(.st 19),.int,.int,.bool,(.arr (.st 5)),.bool,.int,.bool]⟩
def q8u:Way S:=⟨(.exit 0),⟨L,oy,71⟩,[(.arr (.st 5)),(.st 28),(.st 25),.bool,(.arr (.st 5)),.bool,.int,(.st 25),(.lst (.st 19)),(.lst (.st 19)),(.st 21),(.lst (.st 28)),(.st 25),(.st 25),.int,.int,.bool,(.arr (.st 5)),.bool,.int,.bool]⟩
def q8v:LE S:=⟨q7y,q8d,[.int,.int,.int,(.arr (.st 5)),(.st 28),(.st 25),.bool,(.arr (.st 5)),.bool,.int,(.st 25),(.lst (.st 19)),(.lst (.st 19)),(.st 21),(.lst (.st 28)),(.st 25),(.st 25),.int,.int,.bool,(.arr (.st 5)),.bool,.int,.bool],[q8e,q8f,q8g,q8h,q8i,q8j,q8k,q8l,q8m,q8n,q8o,q8p,q8q,q8r,q8s,q8t,q8u]⟩
def q8w (x:tq4):(tq7⊕tq7⊕tqe⊕tqe⊕tq8⊕tq8⊕tqe⊕tqe⊕tq9⊕tq9⊕tqe⊕tqe⊕tqa⊕tqa⊕tqg⊕tqg⊕(Zb×Zc×Bool×Zc×Zc))->tq1:=Sum.elim (fun y0=>(.inl (x.u3,y0.1,y0.2.1,y0.u2,y0.u3,x.u7,y0.u4,x.u9,y0.u5,x.u11,y0.u6,y0.u7,x.u12,x.u13,x.u14,x.u15,y0.u8,y0.u9,x.u17,y0.v10,x.u18,x.u19,x.u20,x.u21,x.u22,x.v23))) (Sum.elim (fun y1=>(.inr (.inl (x.u3,y1.1,y1.2.1,y1.u2,y1.u3,x.u7,y1.u4,x.u9,y1.u5,x.u11,y1.u6,y1.u7,x.u12,x.u13,x.u14,x.u15,y1.u8,y1.u9,x.u17,y1.v10,x.u18,x.u19,x.u20,x.u21,x.u22,x.v23)))) (Sum.elim (fun y2=>(.inr (.inr (.inl (x.u3,y2.1,y2.2.1,y2.u2,y2.u3,x.u7,y2.u4,x.u9,y2.u5,x.u11,y2.u6,x.u12,x.u13,x.u14,x.u15,y2.u7,y2.v8,x.u17,x.u18,x.u19,x.u20,x.u21,x.u22,x.v23))))) (Sum.elim (fun y3=>(.inr (.inr (.inr (.inl (x.u3,y3.1,y3.2.1,y3.u2,y3.u3,x.u7,y3.u4,x.u9,y3.u5,x.u11,y3.u6,x.u12,x.u13,x.u14,x.u15,y3.u7,y3.v8,x.u17,x.u18,x.u19,x.u20,x.u21,x.u22,x.v23)))))) (Sum.elim (fun y4=>(.inr (.inr (.inr (.inr (.inl (x.u3,y4.1,y4.2.1,y4.u2,y4.u3,y4.u4,x.u7,y4.u5,x.u9,y4.u6,x.u11,y4.u7,x.u12,x.u13,x.u14,x.u15,y4.u8,y4.u9,x.u17,x.u18,y4.v10,x.u19,x.u20,x.u21,x.u22,x.v23))))))) (Sum.elim (fun y5=>(.inr (.inr (.inr (.inr (.inr (.inl (x.u3,y5.1,y5.2.1,y5.u2,y5.u3,y5.u4,x.u7,y5.u5,x.u9,y5.u6,x.u11,y5.u7,x.u12,x.u13,x.u14,x.u15,y5.u8,y5.u9,x.u17,x.u18,y5.v10,x.u19,x.u20,x.u21,x.u22,x.v23)))))))) (Sum.elim (fun y6=>(.inr (.inr (.inr (.inr (.inr (.inr (.inl (x.u3,y6.1,y6.2.1,y6.u2,y6.u3,x.u7,y6.u4,x.u9,y6.u5,x.u11,y6.u6,x.u12,x.u13,x.u14,x.u15,y6.u7,y6.v8,x.u17,x.u18,x.u19,x.u20,x.u21,x.u22,x.v23))))))))) (Sum.elim (fun y7=>(.inr (.inr (.inr (.inr (.inr (.inr (.inr (.inl (x.u3,y7.1,y7.2.1,y7.u2,y7.u3,x.u7,y7.u4,x.u9,y7.u5,x.u11,y7.u6,x.u12,x.u13,x.u14,x.u15,y7.u7,y7.v8,x.u17,x.u18,x.u19,x.u20,x.u21,x.u22,x.v23)))))))))) (Sum.elim (fun y8=>(.inr (.inr (.inr (.inr (.inr (.inr (.inr (.inr (.inl (y8.1,x.u3,y8.2.1,y8.u2,y8.u3,y8.u4,x.u7,y8.u5,x.u9,y8.u6,x.u11,y8.u7,x.u12,x.u13,x.u14,x.u15,y8.u8,y8.u9,y8.v10,x.u17,x.u18,x.u19,x.u20,x.u21,x.u22,x.v23))))))))))) (Sum.elim (fun y9=>(.inr (.inr (.inr (.inr (.inr (.inr (.inr (.inr (.inr (.inl (y9.1,x.u3,y9.2.1,y9.u2,y9.u3,y9.u4,x.u7,y9.u5,x.u9,y9.u6,x.u11,y9.u7,x.u12,x.u13,x.u14,x.u15,y9.u8,y9.u9,y9.v10,x.u17,x.u18,x.u19,x.u20,x.u21,x.u22,x.v23)))))))))))) (Sum.elim (fun y10=>(.inr (.inr (.inr (.inr (.inr (.inr (.inr (.inr (.inr (.inr (.inl (x.u3,y10.1,y10.2.1,y10.u2,y10.u3,x.u7,y10.u4,x.u9,y10.u5,x.u11,y10.u6,x.u12,x.u13,x.u14,x.u15,y10.u7,y10.v8,x.u17,x.u18,x.u19,x.u20,x.u21,x.u22,x.v23))))))))))))) (Sum.elim (fun y11=>(.inr (.inr (.inr (.inr (.inr (.inr (.inr (.inr (.inr (.inr (.inr (.inl (x.u3,y11.1,y11.2.1,y11.u2,y11.u3,x.u7,y11.u4,x.u9,y11.u5,x.u11,y11.u6,x.u12,x.u13,x.u14,x.u15,y11.u7,y11.v8,x.u17,x.u18,x.u19,x.u20,x.u21,x.u22,x.v23)))))))))))))) (Sum.elim (fun y12=>(.inr (.inr (.inr (.inr (.inr (.inr (.inr (.inr (.inr (.inr (.inr (.inr (.inl (x.u3,y12.1,y12.2.1,y12.u2,x.u3,x.u7,y12.u3,x.u9,y12.u4,x.u11,y12.u5,y12.u6,y12.u7,x.u12,x.u13,x.u14,x.u15,y12.u8,y12.v9,x.u17,x.u18,x.u19,x.u20,x.u21,x.u22,x.v23))))))))))))))) (Sum.elim (fun y13=>(.inr (.inr (.inr (.inr (.inr (.inr (.inr (.inr (.inr (.inr (.inr (.inr (.inr (.inl (x.u3,y13.1,y13.2.1,y13.u2,x.u3,x.u7,y13.u3,x.u9,y13.u4,x.u11,y13.u5,y13.u6,y13.u7,x.u12,x.u13,x.u14,x.u15,y13.u8,y13.v9,x.u17,x.u18,x.u19,x.u20,x.u21,x.u22,x.v23)))))))))))))))) (Sum.elim (fun y14=>(.inr (.inr (.inr (.inr (.inr (.inr (.inr (.inr (.inr (.inr (.inr (.inr (.inr (.inr (.inl (x.u3,y14.1,y14.2.1,y14.u2,x.u3,x.u7,y14.u3,x.u9,y14.u4,x.u11,y14.u5,x.u12,x.u13,x.u14,x.u15,y14.u6,y14.v7,x.u17,x.u18,x.u19,x.u20,x.u21,x.u22,x.v23))))))))))))))))) (Sum.elim (fun y15=>(.inr (.inr (.inr (.inr (.inr (.inr (.inr (.inr (.inr (.inr (.inr (.inr (.inr (.inr (.inr (.inl (x.u3,y15.1,y15.2.1,y15.u2,x.u3,x.u7,y15.u3,x.u9,y15.u4,x.u11,y15.u5,x.u12,x.u13,x.u14,x.u15,y15.u6,y15.v7,x.u17,x.u18,x.u19,x.u20,x.u21,x.u22,x.v23)))))))))))))))))) (fun y16=>(.inr (.inr (.inr (.inr (.inr (.inr (.inr (.inr (.inr (.inr (.inr (.inr (.inr (.inr (.inr (.inr (x.u3,y16.1,y16.2.1,y16.u2,x.u7,x.u8,x.u9,y16.u3,x.u11,x.u12,x.u13,x.u14,x.u15,y16.v4,x.u17,x.u18,x.u19,x.u20,x.u21,x.u22,x.v23)))))))))))))))))))))))))))))))))
def q8x {R:Type} (x:tq4) (k:tq1->Option R):Option R:=(WN x.1 x.u3 x.u7 x.u8 x.u9 x.u11 x.u12 x.u13 x.u14 x.u15 x.u17 x.u18 x.u19 x.u20 x.u21 x.u22 x.v23 (x.2.1,x.u2,x.u4,x.u5,x.u6,x.u10,x.u16)).bind (Sum.elim (fun y0=>k (.inl (x.u3,y0.1,y0.2.1,y0.u2,y0.u3,x.u7,y0.u4,x.u9,y0.u5,x.u11,y0.u6,y0.u7,x.u12,x.u13,x.u14,x.u15,y0.u8,y0.u9,x.u17,y0.v10,x.u18,x.u19,x.u20,x.u21,x.u22,x.v23))) (Sum.elim (fun y1=>k (.inr (.inl (x.u3,y1.1,y1.2.1,y1.u2,y1.u3,x.u7,y1.u4,x.u9,y1.u5,x.u11,y1.u6,y1.u7,x.u12,x.u13,x.u14,x.u15,y1.u8,y1.u9,x.u17,y1.v10,x.u18,x.u19,x.u20,x.u21,x.u22,x.v23)))) (Sum.elim (fun y2=>k (.inr (.inr (.inl (x.u3,y2.1,y2.2.1,y2.u2,y2.u3,x.u7,y2.u4,x.u9,y2.u5,x.u11,y2.u6,x.u12,x.u13,x.u14,x.u15,y2.u7,y2.v8,x.u17,x.u18,x.u19,x.u20,x.u21,x.u22,x.v23))))) (Sum.elim (fun y3=>k (.inr (.inr (.inr (.inl (x.u3,y3.1,y3.2.1,y3.u2,y3.u3,x.u7,y3.u4,x.u9,y3.u5,x.u11,y3.u6,x.u12,x.u13,x.u14,x.u15,y3.u7,y3.v8,x.u17,x.u18,x.u19,x.u20,x.u21,x.u22,x.v23)))))) (Sum.elim (fun y4=>k (.inr (.inr (.inr (.inr (.inl (x.u3,y4.1,y4.2.1,y4.u2,y4.u3,y4.u4,x.u7,y4.u5,x.u9,y4.u6,x.u11,y4.u7,x.u12,x.u13,x.u14,x.u15,y4.u8,y4.u9,x.u17,x.u18,y4.v10,x.u19,x.u20,x.u21,x.u22,x.v23))))))) (Sum.elim (fun y5=>k (.inr (.inr (.inr (.inr (.inr (.inl (x.u3,y5.1,y5.2.1,y5.u2,y5.u3,y5.u4,x.u7,y5.u5,x.u9,y5.u6,x.u11,y5.u7,x.u12,x.u13,x.u14,x.u15,y5.u8,y5.u9,x.u17,x.u18,y5.v10,x.u19,x.u20,x.u21,x.u22,x.v23)))))))) (Sum.elim (fun y6=>k (.inr (.inr (.inr (.inr (.inr (.inr (.inl (x.u3,y6.1,y6.2.1,y6.u2,y6.u3,x.u7,y6.u4,x.u9,y6.u5,x.u11,y6.u6,x.u12,x.u13,x.u14,x.u15,y6.u7,y6.v8,x.u17,x.u18,x.u19,x.u20,x.u21,x.u22,x.v23))))))))) (Sum.elim (fun y7=>k (.inr (.inr (.inr (.inr (.inr (.inr (.inr (.inl (x.u3,y7.1,y7.2.1,y7.u2,y7.u3,x.u7,y7.u4,x.u9,y7.u5,x.u11,y7.u6,x.u12,x.u13,x.u14,x.u15,y7.u7,y7.v8,x.u17,x.u18,x.u19,x.u20,x.u21,x.u22,x.v23)))))))))) (Sum.elim (fun y8=>k (.inr (.inr (.inr (.inr (.inr (.inr (.inr (.inr (.inl (y8.1,x.u3,y8.2.1,y8.u2,y8.u3,y8.u4,x.u7,y8.u5,x.u9,y8.u6,x.u11,y8.u7,x.u12,x.u13,x.u14,x.u15,y8.u8,y8.u9,y8.v10,x.u17,x.u18,x.u19,x.u20,x.u21,x.u22,x.v23))))))))))) (Sum.elim (fun y9=>k (.inr (.inr (.inr (.inr (.inr (.inr (.inr (.inr (.inr (.inl (y9.1,x.u3,y9.2.1,y9.u2,y9.u3,y9.u4,x.u7,y9.u5,x.u9,y9.u6,x.u11,y9.u7,x.u12,x.u13,x.u14,x.u15,y9.u8,y9.u9,y9.v10,x.u17,x.u18,x.u19,x.u20,x.u21,x.u22,x.v23)))))))))))) (Sum.elim (fun y10=>k (.inr (.inr (.inr (.inr (.inr (.inr (.inr (.inr (.inr (.inr (.inl (x.u3,y10.1,y10.2.1,y10.u2,y10.u3,x.u7,y10.u4,x.u9,y10.u5,x.u11,y10.u6,x.u12,x.u13,x.u14,x.u15,y10.u7,y10.v8,x.u17,x.u18,x.u19,x.u20,x.u21,x.u22,x.v23))))))))))))) (Sum.elim (fun y11=>k (.inr (.inr (.inr (.inr (.inr (.inr (.inr (.inr (.inr (.inr (.inr (.inl (x.u3,y11.1,y11.2.1,y11.u2,y11.u3,x.u7,y11.u4,x.u9,y11.u5,x.u11,y11.u6,x.u12,x.u13,x.u14,x.u15,y11.u7,y11.v8,x.u17,x.u18,x.u19,x.u20,x.u21,x.u22,x.v23)))))))))))))) (Sum.elim (fun y12=>k (.inr (.inr (.inr (.inr (.inr (.inr (.inr (.inr (.inr (.inr (.inr (.inr (.inl (x.u3,y12.1,y12.2.1,y12.u2,x.u3,x.u7,y12.u3,x.u9,y12.u4,x.u11,y12.u5,y12.u6,y12.u7,x.u12,x.u13,x.u14,x.u15,y12.u8,y12.v9,x.u17,x.u18,x.u19,x.u20,x.u21,x.u22,x.v23))))))))))))))) (Sum.elim (fun y13=>k (.inr (.inr (.inr (.inr (.inr (.inr (.inr (.inr (.inr (.inr (.inr (.inr (.inr (.inl (x.u3,y13.1,y13.2.1,y13.u2,x.u3,x.u7,y13.u3,x.u9,y13.u4,x.u11,y13.u5,y13.u6,y13.u7,x.u12,x.u13,x.u14,x.u15,y13.u8,y13.v9,x.u17,x.u18,x.u19,x.u20,x.u21,x.u22,x.v23)))))))))))))))) (Sum.elim (fun y14=>k (.inr (.inr (.inr (.inr (.inr (.inr (.inr (.inr (.inr (.inr (.inr (.inr (.inr (.inr (.inl (x.u3,y14.1,y14.2.1,y14.u2,x.u3,x.u7,y14.u3,x.u9,y14.u4,x.u11,y14.u5,x.u12,x.u13,x.u14,x.u15,y14.u6,y14.v7,x.u17,x.u18,x.u19,x.u20,x.u21,x.u22,x.v23))))))))))))))))) (Sum.elim (fun y15=>k (.inr (.inr (.inr (.inr (.inr (.inr (.inr (.inr (.inr (.inr (.inr (.inr (.inr (.inr (.inr (.inl (x.u3,y15.1,y15.2.1,y15.u2,x.u3,x.u7,y15.u3,x.u9,y15.u4,x.u11,y15.u5,x.u12,x.u13,x.u14,x.u15,y15.u6,y15.v7,x.u17,x.u18,x.u19,x.u20,x.u21,x.u22,x.v23)))))))))))))))))) (fun y16=>k (.inr (.inr (.inr (.inr (.inr (.inr (.inr (.inr (.inr (.inr (.inr (.inr (.inr (.inr (.inr (.inr (x.u3,y16.1,y16.2.1,y16.u2,x.u7,x.u8,x.u9,y16.u3,x.u11,x.u12,x.u13,x.u14,x.u15,y16.v4,x.u17,x.u18,x.u19,x.u20,x.u21,x.u22,x.v23))))))))))))))))))))))))))))))))))
def q8y (x:tq4) (v:(Int×Int×Zb×Zc×Bool×Zc×Zc)):tq4:=(x.1,v.1,v.2.1,x.u3,v.u2,v.u3,v.u4,x.u7,x.u8,x.u9,v.u5,x.u11,x.u12,x.u13,x.u14,x.u15,v.v6,x.u17,x.u18,x.u19,x.u20,x.u21,x.u22,x.v23)
theorem q8z (x:tq4):LE.step X q8v q7u q82 q4 12 x=XV x.1 x.u3 x.u7 x.u8 x.u9 x.u11 x.u12 x.u13 x.u14 x.u15 x.u17 x.u18 x.u19 x.u20 x.u21 x.u22 x.v23 x.2.1 x.u2 x.u4 x.u5 x.u6 x.u10 x.u16 (fun w0 w1 w2 w3 w4 w5 w6=>(Sum.inl (x.1,w0,w1,x.u3,w2,w3,w4,x.u7,x.u8,x.u9,w5,x.u11,x.u12,x.u13,x.u14,x.u15,w6,x.u17,x.u18,x.u19,x.u20,x.u21,x.u22,x.v23))) (fun p0 p1 p2 p3 p4 p5 p6 p7 p8 p9 p10=>(Sum.inr (.inl (x.u3,p0,p1,p2,p3,x.u7,p4,x.u9,p5,x.u11,p6,p7,x.u12,x.u13,x.u14,x.u15,p8,p9,x.u17,p10,x.u18,x.u19,x.u20,x.u21,x.u22,x.v23)))) (fun p0 p1 p2 p3 p4 p5 p6 p7 p8 p9 p10=>(Sum.inr (.inr (.inl (x.u3,p0,p1,p2,p3,x.u7,p4,x.u9,p5,x.u11,p6,p7,x.u12,x.u13,x.u14,x.u15,p8,p9,x.u17,p10,x.u18,x.u19,x.u20,x.u21,x.u22,x.v23))))) (fun p0 p1 p2 p3 p4 p5 p6 p7 p8=>(Sum.inr (.inr (.inr (.inl (x.u3,p0,p1,p2,p3,x.u7,p4,x.u9,p5,x.u11,p6,x.u12,x.u13,x.u14,x.u15,p7,p8,x.u17,x.u18,x.u19,x.u20,x.u21,x.u22,x.v23)))))) (fun p0 p1 p2 p3 p4 p5 p6 p7 p8=>(Sum.inr (.inr (.inr (.inr (.inl (x.u3,p0,p1,p2,p3,x.u7,p4,x.u9,p5,x.u11,p6,x.u12,x.u13,x.u14,x.u15,p7,p8,x.u17,x.u18,x.u19,x.u20,x.u21,x.u22,x.v23))))))) (fun p0 p1 p2 p3 p4 p5 p6 p7 p8 p9 p10=>(Sum.inr (.inr (.inr (.inr (.inr (.inl (x.u3,p0,p1,p2,p3,p4,x.u7,p5,x.u9,p6,x.u11,p7,x.u12,x.u13,x.u14,x.u15,p8,p9,x.u17,x.u18,p10,x.u19,x.u20,x.u21,x.u22,x.v23)))))))) (fun p0 p1 p2 p3 p4 p5 p6 p7 p8 p9 p10=>(Sum.inr (.inr (.inr (.inr (.inr (.inr (.inl (x.u3,p0,p1,p2,p3,p4,x.u7,p5,x.u9,p6,x.u11,p7,x.u12,x.u13,x.u14,x.u15,p8,p9,x.u17,x.u18,p10,x.u19,x.u20,x.u21,x.u22,x.v23))))))))) (fun p0 p1 p2 p3 p4 p5 p6 p7 p8=>(Sum.inr (.inr (.inr (.inr (.inr (.inr (.inr (.inl (x.u3,p0,p1,p2,p3,x.u7,p4,x.u9,p5,x.u11,p6,x.u12,x.u13,x.u14,x.u15,p7,p8,x.u17,x.u18,x.u19,x.u20,x.u21,x.u22,x.v23)))))))))) (fun p0 p1 p2 p3 p4 p5 p6 p7 p8=>(Sum.inr (.inr (.inr (.inr (.inr (.inr (.inr (.inr (.inl (x.u3,p0,p1,p2,p3,x.u7,p4,x.u9,p5,x.u11,p6,x.u12,x.u13,x.u14,x.u15,p7,p8,x.u17,x.u18,x.u19,x.u20,x.u21,x.u22,x.v23))))))))))) (fun p0 p1 p2 p3 p4 p5 p6 p7 p8 p9 p10=>(Sum.inr (.inr (.inr (.inr (.inr (.inr (.inr (.inr (.inr (.inl (p0,x.u3,p1,p2,p3,p4,x.u7,p5,x.u9,p6,x.u11,p7,x.u12,x.u13,x.u14,x.u15,p8,p9,p10,x.u17,x.u18,x.u19,x.u20,x.u21,x.u22,x.v23)))))))))))) (fun p0 p1 p2 p3 p4 p5 p6 p7 p8 p9 p10=>(Sum.inr (.inr (.inr (.inr (.inr (.inr (.inr (.inr (.inr (.inr (.inl (p0,x.u3,p1,p2,p3,p4,x.u7,p5,x.u9,p6,x.u11,p7,x.u12,x.u13,x.u14,x.u15,p8,p9,p10,x.u17,x.u18,x.u19,x.u20,x.u21,x.u22,x.v23))))))))))))) (fun p0 p1 p2 p3 p4 p5 p6 p7 p8=>(Sum.inr (.inr (.inr (.inr (.inr (.inr (.inr (.inr (.inr (.inr (.inr (.inl (x.u3,p0,p1,p2,p3,x.u7,p4,x.u9,p5,x.u11,p6,x.u12,x.u13,x.u14,x.u15,p7,p8,x.u17,x.u18,x.u19,x.u20,x.u21,x.u22,x.v23)))))))))))))) (fun p0 p1 p2 p3 p4 p5 p6 p7 p8=>(Sum.inr (.inr (.inr (.inr (.inr (.inr (.inr (.inr (.inr (.inr (.inr (.inr (.inl (x.u3,p0,p1,p2,p3,x.u7,p4,x.u9,p5,x.u11,p6,x.u12,x.u13,x.u14,x.u15,p7,p8,x.u17,x.u18,x.u19,x.u20,x.u21,x.u22,x.v23))))))))))))))) (fun p0 p1 p2 p3 p4 p5 p6 p7 p8 p9=>(Sum.inr (.inr (.inr (.inr (.inr (.inr (.inr (.inr (.inr (.inr (.inr (.inr (.inr (.inl (x.u3,p0,p1,p2,x.u3,x.u7,p3,x.u9,p4,x.u11,p5,p6,p7,x.u12,x.u13,x.u14,x.u15,p8,p9,x.u17,x.u18,x.u19,x.u20,x.u21,x.u22,x.v23)))))))))))))))) (fun p0 p1 p2 p3 p4 p5 p6 p7 p8 p9=>(Sum.inr (.inr (.inr (.inr (.inr (.inr (.inr (.inr (.inr (.inr (.inr (.inr (.inr (.inr (.inl (x.u3,p0,p1,p2,x.u3,x.u7,p3,x.u9,p4,x.u11,p5,p6,p7,x.u12,x.u13,x.u14,x.u15,p8,p9,x.u17,x.u18,x.u19,x.u20,x.u21,x.u22,x.v23))))))))))))))))) (fun p0 p1 p2 p3 p4 p5 p6 p7=>(Sum.inr (.inr (.inr (.inr (.inr (.inr (.inr (.inr (.inr (.inr (.inr (.inr (.inr (.inr (.inr (.inl (x.u3,p0,p1,p2,x.u3,x.u7,p3,x.u9,p4,x.u11,p5,x.u12,x.u13,x.u14,x.u15,p6,p7,x.u17,x.u18,x.u19,x.u20,x.u21,x.u22,x.v23)))))))))))))))))) (fun p0 p1 p2 p3 p4 p5 p6 p7=>(Sum.inr (.inr (.inr (.inr (.inr (.inr (.inr (.inr (.inr (.inr (.inr (.inr (.inr (.inr (.inr (.inr (.inl (x.u3,p0,p1,p2,x.u3,x.u7,p3,x.u9,p4,x.u11,p5,x.u12,x.u13,x.u14,x.u15,p6,p7,x.u17,x.u18,x.u19,x.u20,x.u21,x.u22,x.v23))))))))))))))))))) (fun p0 p1 p2 p3 p4=>(Sum.inr (.inr (.inr (.inr (.inr (.inr (.inr (.inr (.inr (.inr (.inr (.inr (.inr (.inr (.inr (.inr (.inr (x.u3,p0,p1,p2,x.u7,x.u8,x.u9,p3,x.u11,x.u12,x.u13,x.u14,x.u15,p4,x.u17,x.u18,x.u19,x.u20,x.u21,x.u22,x.v23))))))))))))))))))):=by kernel_rfl
theorem q8B {R:Type} (x:tq4) (k:tq1->Option R) (r:R) (h:q8x x k=some r):∃o,Z6a (LE.step X q8v q7u q82 q4 12) x o/\k o=some r:=by
 obtain⟨o,h1,h2⟩:=Z0 h;exact⟨q8w x o,Zk9 (st:=fun(x:tq4)=>W7 x.1 x.u3 x.u7 x.u8 x.u9 x.u11 x.u12 x.u13 x.u14 x.u15 x.u17 x.u18 x.u19 x.u20 x.u21 x.u22 x.v23) (prj:=fun x=>(x.2.1,x.u2,x.u4,x.u5,x.u6,x.u10,x.u16)) (emb:=q8y) (embO:=q8w) (fun x=>(q8z x).trans (by unfold W7 XV X0;simp only[Zk0,ZjR,Zk1,Option.map_some,Option.map_none];rfl)) (fun _ _=>rfl) (fun _ _=>rfl) (fun _ _ _=>rfl) (fun _ _ _=>rfl) (fun _=>rfl) (Z29.1 h1),by first|exact h2|(rcases o with o|o|o|o|o|o|o|o|o|o|o|o|o|o|o|o|o<;>exact h2)⟩
def q8C {R:Type}:Z2K S R:=LE.ls X q8v q8x q4
theorem q8D {R:Type}:Z4g X (q8C (R:=R)):=Zkd xok q7v (e:=q8v) q83 q5 q8B q5
theorem q8E (x:((Nat->Y2)×Int×Zc×Bool×Zc×Zc)):PE.step X q87 q7u q82 q8C 12 x=XM x.1 x.2.1 x.u2 x.u3 x.u4 x.v5:=by kernel_rfl
theorem q8F:ZcA X q87 XG:=Zke (ZjE xok q7v q83 q8D 12) fun x _ h=>((q8E x).trans (X13 x).symm).trans h
def q8G {R:Type}:Prs S R:=PE.ps X q87 (fun x q=>(XG x).bind q) q82
theorem q8H {R:Type}:Z93 X (q8G (R:=R)):=Zk6 (e:=q87) q8F q83
def q8I:StT S:=⟨(N (N L (some (.ptr 1 0)) L) (some (.yld 3)) L),(N (N (N L o3 L) of L) ok (N L of L)),4⟩
def q8J:Way S:=⟨.ret,⟨(N L (some (.tup [])) L),(N (N (N L o3 L) of L) ok (N L of L)),4⟩,[(.st 25),(.st 25),.bool,(.st 25)]⟩
def q8K:Way S:=⟨.ret,⟨(N L (some (.tup [])) L),(N (N (N L (some (.loop 60 (N (N L (some (.ptr 2 0)) L) (some (.agg [(.stc 25 (T.dflt 25))])) (N (N L (some (.fn (.func 125) [] [(.ptr 1 0)])) L) (some (.ptr 0 0)) L)) (5::[]) .skip .skip 0 .ret (0::(60::[])) (0::(1::(0::(1::[])))))) L) of L) ok (N L of L)),4⟩,[(.st 25),(.st 25),.bool,(.st 25)]⟩
def q8L:PE S:=⟨125,2,q8I,[(.st 25),(.st 25),.bool,(.st 25)],[q8J,q8K]⟩
def q8Q:Key:=⟨[125],125,none,[0,0,1,0,1,1],0,11⟩
def q8R:StT S:=⟨(N (N (N L (some (.ptr 5 0)) (N L vw L)) (some (.ptr 1 0)) (N (N L vt L) none L)) none (N L (some (.ptr 4 0)) (N (N L vw L) none L))),o14,11⟩
def q8S:Way S:=⟨(.exit 0),⟨(N (N (N L (some (.ptr 5 0)) L) (some (.ptr 1 0)) L) none (N L (some (.ptr 4 0)) L)),o14,12⟩,[(.st 25),(.st 25),(.arr (.st 5)),.bool,(.st 25)]⟩
def q8T:LE S:=⟨q8Q,q8R,[.int,(.lst (.st 19)),.int,(.st 25),(.st 25),(.arr (.st 5)),.bool,(.st 25)],[q8S]⟩
def q8U (x:tqi):(Nat->Y2)->tqq:=fun y0=>(x.u3,x.u4,y0,x.u6,x.v7)
def q8V {R:Type} (x:tqi) (k:tqq->Option R):Option R:=(XI x.2.1 x.u2 x.u3 x.u4 x.u6 x.v7 (x.1,x.u5)).bind (fun y0=>k (x.u3,x.u4,y0,x.u6,x.v7))
def q8W (x:tqi) (v:(Int×(Nat->Y2))):tqi:=(v.1,x.2.1,x.u2,x.u3,x.u4,v.2,x.u6,x.v7)
theorem q8X (x:tqi):LE.step X q8T q7u q50 q4 12 x=Xi x.2.1 x.u2 x.u3 x.u4 x.u6 x.v7 x.1 x.u5 (fun w0 w1=>(Sum.inl (w0,x.2.1,x.u2,x.u3,x.u4,w1,x.u6,x.v7))) (fun p0=>(Sum.inr (x.u3,x.u4,p0,x.u6,x.v7))):=by kernel_rfl
theorem q8Z {R:Type} (x:tqi) (k:tqq->Option R) (r:R) (h:q8V x k=some r):∃o,Z6a (LE.step X q8T q7u q50 q4 12) x o/\k o=some r:=by
 obtain⟨o,h1,h2⟩:=Z0 h;exact⟨q8U x o,Zk9 (st:=fun(x:tqi)=>Xa x.2.1 x.u2 x.u3 x.u4 x.u6 x.v7) (prj:=fun x=>(x.1,x.u5)) (emb:=q8W) (embO:=q8U) (fun x=>(q8X x).trans (by unfold Xa Xi;simp only[Zk0,ZjR,Zk1,Option.map_some,Option.map_none];rfl)) (fun _ _=>rfl) (fun _ _=>rfl) (fun _ _ _=>rfl) (fun _ _ _=>rfl) (fun _=>rfl) (Z29.1 h1),by first|exact h2|(rcases o with o<;>exact h2)⟩
def q90 {R:Type}:Z2K S R:=LE.ls X q8T q8V q4
theorem q91 {R:Type}:Z4g X (q90 (R:=R)):=Zkd xok q7v (e:=q8T) q51 q5 q8Z q5
theorem q92 (x:(Zc×Zc×Bool×Zc)):PE.step X q8L q7u q8G q90 12 x=Xx x.1 x.2.1 x.u2 x.v3:=by kernel_rfl
theorem q93:ZcA X q8L Wg:=Zke (ZjE xok q7v q8H q91 12) fun x _ h=>((q92 x).trans (X1m x).symm).trans h
def q94 {R:Type}:Prs S R:=PE.ps X q8L (fun x q=>(Wg x).bind q) q8G
theorem q95 {R:Type}:Z93 X (q94 (R:=R)):=Zk6 (e:=q8L) q93 q8H
theorem q97:ZaC X (q7u):=⟨q7p,trivial⟩
theorem q9a (x0:Zc):Zkf X q7u [(.st 25)] [.bool] q94 q4 12 60 (x0,())=XY x0:=by kernel_rfl
def q9b:F7 S:=⟨[(.st 25)],[.bool],fun xs=>Xn xs.1⟩
theorem q9c:Zgf X 60 q9b:=Zkc (Zkb xok q97 q95 q5 12 60) fun xs _ h=>((q9a xs.1).trans (X1M xs.1).symm).trans h
def q9d:List (Nat×F7 S):=[(58,q5e),(70,q5N),(60,q9b)]
theorem q9e:ZaC X (q9d):=⟨q5f,q5O,q9c,trivial⟩
def q9h:Key:=⟨[24],24,none,[0,0,1,0,1,1,1,0,0,1,1,0,0,1,0,1,1,1,0,1],2,26⟩
def q9i:StT S:=⟨(N (N (N (N L vw (N L vw L)) none (N L none (N L vu L))) vu (N (N L (some (.rs 27 0)) L) none (N L none (N L vw L)))) none (N (N (N L (some (.rs 28 0)) (N L vw L)) (some (.rs 26 0)) (N L none (N L vw L))) (some (.ptr 0 0)) (N L vx L))),oZ,29⟩
def q9j:Way S:=⟨(.exit 1),⟨(N (N v1e vu L) none (N (N (N L none (N L vw L)) (some (.rs 26 0)) L) (some (.ptr 0 0)) (N L vx L))),(N (N (N L none (N L none (N (N L (some (.row 3 (.int .i64) [] 0 0)) L) oo L))) none (N (N (N (N L oe L) none L) none L) none L)) ob (N (N L none (N L none (N L (some (.row 3 (.int .i64) [] 1 1)) L))) none (N (N L none (N L oh L)) none L))),54⟩,[.int,(.lst (.st 21)),.int,.bool,(.lst (.int .i64)),(.lst (.st 21)),(.st 21),(.st 20),(.lst (.int .i64)),(.lst (.int .i64))]⟩
def q9k:Way S:=⟨(.exit 2),⟨(N (N v1e vu (N (N L (some (.rs 27 0)) L) none L)) none (N (N (N L (some (.rs 28 0)) (N L vw L)) (some (.rs 26 0)) L) (some (.ptr 0 0)) (N L vx L))),oZ,30⟩,[.int,(.lst (.st 21)),.int,.bool,(.lst (.st 21)),(.st 20),(.lst (.int .i64)),(.lst (.int .i64))]⟩
def q9l:LE S:=⟨q9h,q9i,[.int,.int,(.lst (.st 21)),(.lst (.st 21)),.int,.int,.int,.bool,(.lst (.st 21)),(.st 20),(.lst (.int .i64)),(.lst (.int .i64))],[q9j,q9k]⟩
def q9m (x:tqd):(((List Int)×(List Zr)×Zr×(List Int))⊕((List Zr)×(List Int)))->tq5:=Sum.elim (fun y0=>(.inl (x.2.1,x.u3,x.u5,x.u7,y0.1,y0.2.1,y0.u2,x.u9,y0.v3,x.v11))) (fun y1=>(.inr (x.2.1,x.u3,x.u5,x.u7,y1.1,x.u9,y1.2,x.v11)))
def q9n {R:Type} (x:tqd) (k:tq5->Option R):Option R:=(WK x.1 x.u2 x.u6 x.u7 x.v11 (x.u4,x.u8,x.u10)).bind (Sum.elim (fun y0=>k (.inl (x.2.1,x.u3,x.u5,x.u7,y0.1,y0.2.1,y0.u2,x.u9,y0.v3,x.v11))) (fun y1=>k (.inr (x.2.1,x.u3,x.u5,x.u7,y1.1,x.u9,y1.2,x.v11))))
def q9o (x:tqd) (v:(Int×(List Zr)×(List Int))):tqd:=(x.1,x.2.1,x.u2,x.u3,v.1,x.u5,x.u6,x.u7,v.2.1,x.u9,v.v2,x.v11)
theorem q9p (x:tqd):LE.step X q9l q9d q94 q4 12 x=Wx x.1 x.u2 x.u6 x.u7 x.v11 x.u4 x.u8 x.u10 (fun w0 w1 w2=>(Sum.inl (x.1,x.2.1,x.u2,x.u3,w0,x.u5,x.u6,x.u7,w1,x.u9,w2,x.v11))) (fun p0 p1 p2 p3=>(Sum.inr (.inl (x.2.1,x.u3,x.u5,x.u7,p0,p1,p2,x.u9,p3,x.v11)))) (fun p0 p1=>(Sum.inr (.inr (x.2.1,x.u3,x.u5,x.u7,p0,x.u9,p1,x.v11)))):=by kernel_rfl
theorem q9r {R:Type} (x:tqd) (k:tq5->Option R) (r:R) (h:q9n x k=some r):∃o,Z6a (LE.step X q9l q9d q94 q4 12) x o/\k o=some r:=by
 obtain⟨o,h1,h2⟩:=Z0 h;exact⟨q9m x o,Zk9 (st:=fun(x:tqd)=>Wr x.1 x.u2 x.u6 x.u7 x.v11) (prj:=fun x=>(x.u4,x.u8,x.u10)) (emb:=q9o) (embO:=q9m) (fun x=>(q9p x).trans (by unfold Wr Wx;simp only[Zk0,ZjR,Zk1,Option.map_some,Option.map_none];rfl)) (fun _ _=>rfl) (fun _ _=>rfl) (fun _ _ _=>rfl) (fun _ _ _=>rfl) (fun _=>rfl) (Z29.1 h1),by first|exact h2|(rcases o with o|o<;>exact h2)⟩
def q9s {R:Type}:Z2K S R:=LE.ls X q9l q9n q4
theorem q9t {R:Type}:Z4g X (q9s (R:=R)):=Zkd xok q9e (e:=q9l) q95 q5 q9r q5
def q9u:Key:=⟨[24],24,none,[0,0,1,0,1,1,1,0,1],0,17⟩
def q9v:StT S:=⟨(N (N v1e vu L) none (N (N (N L none (N L vw L)) (some (.rs 17 0)) L) (some (.ptr 0 0)) (N L vx L))),(N (N L none o1g) ob L),18⟩
def q9w:Way S:=⟨(.exit 0),⟨(N L none (N (N L (some (.rs 17 0)) L) none L)),(N (N L none o1g) ob L),19⟩,[(.lst (.int .i64)),(.st 20)]⟩
def q9x:LE S:=⟨q9u,q9v,[.int,(.lst (.st 21)),.int,.bool,(.lst (.int .i64)),(.st 20)],[q9w]⟩
def q9y (x:tqs):(List Int)->((List Int)×CoRecord):=fun y0=>(y0,x.v5)
def q9z {R:Type} (x:tqs) (k:((List Int)×CoRecord)->Option R):Option R:=(X1C x.1 x.2.1 x.v5 (x.u2,x.u3,x.u4)).bind (fun y0=>k (y0,x.v5))
def q9A (x:tqs) (v:(Int×Bool×(List Int))):tqs:=(x.1,x.2.1,v.1,v.2.1,v.v2,x.v5)
theorem q9B (x:tqs):LE.step X q9x q9d q94 q9s 12 x=Ww x.1 x.2.1 x.v5 x.u2 x.u3 x.u4 (fun w0 w1 w2=>(Sum.inl (x.1,x.2.1,w0,w1,w2,x.v5))) (fun p0=>(Sum.inr (p0,x.v5))):=by kernel_rfl
theorem q9D {R:Type} (x:tqs) (k:((List Int)×CoRecord)->Option R) (r:R) (h:q9z x k=some r):∃o,Z6a (LE.step X q9x q9d q94 q9s 12) x o/\k o=some r:=by
 obtain⟨o,h1,h2⟩:=Z0 h;exact⟨q9y x o,Zk9 (st:=fun(x:tqs)=>Wq x.1 x.2.1 x.v5) (prj:=fun x=>(x.u2,x.u3,x.u4)) (emb:=q9A) (embO:=q9y) (fun x=>(q9B x).trans (by unfold Wq Ww;simp only[Zk0,ZjR,Zk1,Option.map_some,Option.map_none];rfl)) (fun _ _=>rfl) (fun _ _=>rfl) (fun _ _ _=>rfl) (fun _ _ _=>rfl) (fun _=>rfl) (Z29.1 h1),by first|exact h2|(rcases o with o<;>exact h2)⟩
def q9E {R:Type}:Z2K S R:=LE.ls X q9x q9z q9s
theorem q9F {R:Type}:Z4g X (q9E (R:=R)):=Zkd xok q9e (e:=q9x) q95 q9t q9D q9t
theorem q9G (x0:CoRecord) (x1:List Zr):Zkf X q9d [(.st 20),(.sl (.st 21))] [(.sl (.int .i64)),(.int .i64)] q94 q9E 12 24 (x0,x1,())=WS x0 x1:=by kernel_rfl
def q9H:F7 S:=⟨[(.st 20),(.sl (.st 21))],[(.sl (.int .i64)),(.int .i64)],fun xs=>X1R xs.1 xs.2.1⟩
theorem q9I:Zgf X 24 q9H:=Zkc (Zkb xok q9e q95 q9F 12 24) fun xs _ h=>((q9G xs.1 xs.2.1).trans (X27 xs.1 xs.2.1).symm).trans h
def q9J:List (Nat×F7 S):=[(47,q2i),(100,q1x)]
theorem q9K:ZaC X (q9J):=⟨q2j,q1y,trivial⟩
def q9N:Key:=⟨[49],49,none,[0,0,1,0,1,1,1,1],0,22⟩
def q9O:StT S:=⟨(N (N L vu (N (N L vw L) none L)) none (N L (some (.ptr 0 0)) L)),(N L ob L),22⟩
def q9P:Way S:=⟨.ret,⟨v18,(N L ob L),50⟩,[.int,.int,(.st 20)]⟩
def q9Q:Way S:=⟨(.exit 0),⟨L,(N L ob L),26⟩,[(.st 20)]⟩
def q9R:LE S:=⟨q9N,q9O,[(.lst (.st 21)),.int,(.st 20)],[q9P,q9Q]⟩
def q9S (x:tqM):((Int×Int)⊕Unit)->((Int×Int×CoRecord)⊕CoRecord):=Sum.elim (fun y0=>(.inl (y0.1,y0.2,x.v2))) (fun y1=>(.inr x.v2))
def q9T {R:Type} (x:tqM) (k:((Int×Int×CoRecord)⊕CoRecord)->Option R):Option R:=(WG x.1 x.v2 x.2.1).bind (Sum.elim (fun y0=>k (.inl (y0.1,y0.2,x.v2))) (fun y1=>k (.inr x.v2)))
def q9U (x:tqM) (v:Int):tqM:=(x.1,v,x.v2)
theorem q9V (x:tqM):LE.step X q9R q9J q94 q4 12 x=W0 x.1 x.v2 x.2.1 (fun w0=>(Sum.inl (x.1,w0,x.v2))) (fun p0 p1=>(Sum.inr (.inl (p0,p1,x.v2)))) (Sum.inr (.inr x.v2)):=by kernel_rfl
theorem q9X {R:Type} (x:tqM) (k:((Int×Int×CoRecord)⊕CoRecord)->Option R) (r:R) (h:q9T x k=some r):∃o,Z6a (LE.step X q9R q9J q94 q4 12) x o/\k o=some r:=by
 obtain⟨o,h1,h2⟩:=Z0 h;exact⟨q9S x o,Zk9 (st:=fun(x:tqM)=>Wj x.1 x.v2) (prj:=fun x=>x.2.1) (emb:=q9U) (embO:=q9S) (fun x=>(q9V x).trans (by unfold Wj W0;simp only[Zk0,ZjR,Zk1,Option.map_some,Option.map_none];rfl)) (fun _ _=>rfl) (fun _ _=>rfl) (fun _ _ _=>rfl) (fun _ _ _=>rfl) (fun _=>rfl) (Z29.1 h1),by first|exact h2|(rcases o with o|o<;>exact h2)⟩
def q9Y {R:Type}:Z2K S R:=LE.ls X q9R q9T q4
theorem q9Z {R:Type}:Z4g X (q9Y (R:=R)):=Zkd xok q9K (e:=q9R) q95 q5 q9X q5
theorem qa0 (x0:CoRecord) (x1:List Zr):Zkf X q9J [(.st 20),(.sl (.st 21))] [(.int .i64),(.int .i64)] q94 q9Y 12 49 (x0,x1,())=Wz x0 x1:=by kernel_rfl
def qa1:F7 S:=⟨[(.st 20),(.sl (.st 21))],[(.int .i64),(.int .i64)],fun xs=>X1A xs.1 xs.2.1⟩
theorem qa2:Zgf X 49 qa1:=Zkc (Zkb xok q9K q95 q9Z 12 49) fun xs _ h=>((qa0 xs.1 xs.2.1).trans (X2b xs.1 xs.2.1).symm).trans h
def qa3:List (Nat×F7 S):=[(49,qa1)]
theorem qa4:ZaC X (qa3):=⟨qa2,trivial⟩
theorem qa7 (x0:CoRecord) (x1:List Zr):Zkf X qa3 [(.st 20),(.sl (.st 21))] [.bool] q94 q4 12 40 (x0,x1,())=X1r x0 x1:=by kernel_rfl
def qa8:F7 S:=⟨[(.st 20),(.sl (.st 21))],[.bool],fun xs=>X2x xs.1 xs.2.1⟩
theorem qa9:Zgf X 40 qa8:=Zkc (Zkb xok qa4 q95 q5 12 40) fun xs _ h=>((qa7 xs.1 xs.2.1).trans (X36 xs.1 xs.2.1).symm).trans h
def qae:Key:=⟨[57],57,none,[0,0,1,0,1,1,1],0,4⟩
def qaf:StT S:=⟨(N (N (N (N L vw L) none L) vs (N L (some (.rs 4 0)) L)) vu (N L none (N L vw L))),(N L none (N (N L oo L) none L)),5⟩
def qag:Way S:=⟨(.exit 0),⟨(N (N L none (N L (some (.rs 4 0)) L)) none L),(N L none (N (N L oo L) none L)),9⟩,[(.lst (.st 21))]⟩
def qah:LE S:=⟨qae,qaf,[.int,(.lst (.int .i64)),(.lst (.st 21)),.int,(.lst (.st 21))],[qag]⟩
def qai (x:tqv):(List Zr)->(List Zr):=fun y0=>y0
def qaj {R:Type} (x:tqv) (k:(List Zr)->Option R):Option R:=(X1s x.2.1 x.u2 (x.1,x.u3,x.v4)).bind (fun y0=>k y0)
def qak (x:tqv) (v:(Int×Int×(List Zr))):tqv:=(v.1,x.2.1,x.u2,v.2.1,v.v2)
theorem qal (x:tqv):LE.step X qah q2 q94 q4 12 x=Wk x.2.1 x.u2 x.1 x.u3 x.v4 (fun w0 w1 w2=>(Sum.inl (w0,x.2.1,x.u2,w1,w2))) (fun p0=>(Sum.inr p0)):=by kernel_rfl
theorem qan {R:Type} (x:tqv) (k:(List Zr)->Option R) (r:R) (h:qaj x k=some r):∃o,Z6a (LE.step X qah q2 q94 q4 12) x o/\k o=some r:=by
 obtain⟨o,h1,h2⟩:=Z0 h;exact⟨qai x o,Zk9 (st:=fun(x:tqv)=>Wd x.2.1 x.u2) (prj:=fun x=>(x.1,x.u3,x.v4)) (emb:=qak) (embO:=qai) (fun x=>(qal x).trans (by unfold Wd Wk;simp only[Zk0,ZjR,Zk1,Option.map_some,Option.map_none];rfl)) (fun _ _=>rfl) (fun _ _=>rfl) (fun _ _ _=>rfl) (fun _ _ _=>rfl) (fun _=>rfl) (Z29.1 h1),by first|exact h2|(rcases o with o<;>exact h2)⟩
def qao {R:Type}:Z2K S R:=LE.ls X qah qaj q4
theorem qap {R:Type}:Z4g X (qao (R:=R)):=Zkd xok q3 (e:=qah) q95 q5 qan q5
theorem qaq (x0:List Zr) (x1:List Int):Zkf X q2 [(.sl (.st 21)),(.sl (.int .i64))] [(.sl (.st 21))] q94 qao 12 57 (x0,x1,())=WY x0 x1:=by kernel_rfl
def qar:F7 S:=⟨[(.sl (.st 21)),(.sl (.int .i64))],[(.sl (.st 21))],fun xs=>X10 xs.1 xs.2.1⟩
theorem qas:Zgf X 57 qar:=Zkc (Zkb xok q3 q95 qap 12 57) fun xs _ h=>((qaq xs.1 xs.2.1).trans (X2t xs.1 xs.2.1).symm).trans h
def qat:List (Nat×F7 S):=[(58,q5e),(60,q9b)]
theorem qau:ZaC X (qat):=⟨q5f,q9c,trivial⟩
theorem qax (x0:CoRecord) (x1:List Zr):Zkf X qat [(.st 20),(.sl (.st 21))] [.bool,(.int .i64)] q94 q4 12 50 (x0,x1,())=X1h x0 x1:=by kernel_rfl
def qay:F7 S:=⟨[(.st 20),(.sl (.st 21))],[.bool,(.int .i64)],fun xs=>X1I xs.1 xs.2.1⟩
theorem qaz:Zgf X 50 qay:=Zkc (Zkb xok qau q95 q5 12 50) fun xs _ h=>((qax xs.1 xs.2.1).trans (X2F xs.1 xs.2.1).symm).trans h
end
end Nore
