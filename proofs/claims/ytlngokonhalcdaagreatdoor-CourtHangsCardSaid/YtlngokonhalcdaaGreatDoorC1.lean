/- The code comes to the plain functions. -/
import Derived.Test.YtlngokonhalcdaaGreatDoorY
import Derived.Test.YtlngokonhalcdaaGreatDoorD
set_option linter.unusedSectionVars false
set_option linter.unusedVariables false
set_option linter.unusedSimpArgs false
set_option maxRecDepth 100000
open Go Go.Ab Go.Proofs Go.Proofs.YtlngokonhalcdaaGreatDoor
open Go.Ab.Tr renaming node->N,leaf->L
namespace Prod
abbrev v2 {a b s:Type} (x:a×b×s):=x.2.2
abbrev u2 {a b r s:Type} (x:a×b×r×s):=x.2.2.1
abbrev v3 {a b c s:Type} (x:a×b×c×s):=x.2.2.2
abbrev u3 {a b c r s:Type} (x:a×b×c×r×s):=x.2.2.2.1
abbrev v4 {a b c d s:Type} (x:a×b×c×d×s):=x.2.2.2.2
abbrev u4 {a b c d r s:Type} (x:a×b×c×d×r×s):=x.2.2.2.2.1
abbrev v5 {a b c d e s:Type} (x:a×b×c×d×e×s):=x.2.2.2.2.2
abbrev u5 {a b c d e r s:Type} (x:a×b×c×d×e×r×s):=x.2.2.2.2.2.1
abbrev v6 {a b c d e f s:Type} (x:a×b×c×d×e×f×s):=x.2.2.2.2.2.2
abbrev u6 {a b c d e f r s:Type} (x:a×b×c×d×e×f×r×s):=x.2.2.2.2.2.2.1
abbrev v7 {a b c d e f g s:Type} (x:a×b×c×d×e×f×g×s):=x.2.2.2.2.2.2.2
abbrev u7 {a b c d e f g r s:Type} (x:a×b×c×d×e×f×g×r×s):=x.2.2.2.2.2.2.2.1
abbrev v8 {a b c d e f g h s:Type} (x:a×b×c×d×e×f×g×h×s):=x.2.2.2.2.2.2.2.2
abbrev u8 {a b c d e f g h r s:Type} (x:a×b×c×d×e×f×g×h×r×s):=x.2.2.2.2.2.2.2.2.1
abbrev v9 {a b c d e f g h i s:Type} (x:a×b×c×d×e×f×g×h×i×s):=x.2.2.2.2.2.2.2.2.2
abbrev u9 {a b c d e f g h i r s:Type} (x:a×b×c×d×e×f×g×h×i×r×s):=x.2.2.2.2.2.2.2.2.2.1
abbrev v10 {a b c d e f g h i j s:Type} (x:a×b×c×d×e×f×g×h×i×j×s):=x.2.2.2.2.2.2.2.2.2.2
abbrev u10 {a b c d e f g h i j r s:Type} (x:a×b×c×d×e×f×g×h×i×j×r×s):=x.2.2.2.2.2.2.2.2.2.2.1
abbrev v11 {a b c d e f g h i j k s:Type} (x:a×b×c×d×e×f×g×h×i×j×k×s):=x.2.2.2.2.2.2.2.2.2.2.2
abbrev u11 {a b c d e f g h i j k r s:Type} (x:a×b×c×d×e×f×g×h×i×j×k×r×s):=x.2.2.2.2.2.2.2.2.2.2.2.1
abbrev u12 {a b c d e f g h i j k l r s:Type} (x:a×b×c×d×e×f×g×h×i×j×k×l×r×s):=x.2.2.2.2.2.2.2.2.2.2.2.2.1
abbrev u13 {a b c d e f g h i j k l m r s:Type} (x:a×b×c×d×e×f×g×h×i×j×k×l×m×r×s):=x.2.2.2.2.2.2.2.2.2.2.2.2.2.1
abbrev u14 {a b c d e f g h i j k l m n r s:Type} (x:a×b×c×d×e×f×g×h×i×j×k×l×m×n×r×s):=x.2.2.2.2.2.2.2.2.2.2.2.2.2.2.1
abbrev u15 {a b c d e f g h i j k l m n o r s:Type} (x:a×b×c×d×e×f×g×h×i×j×k×l×m×n×o×r×s):=x.2.2.2.2.2.2.2.2.2.2.2.2.2.2.2.1
abbrev u16 {a b c d e f g h i j k l m n o p r s:Type} (x:a×b×c×d×e×f×g×h×i×j×k×l×m×n×o×p×r×s):=x.2.2.2.2.2.2.2.2.2.2.2.2.2.2.2.2.1
abbrev u17 {a b c d e f g h i j k l m n o p q r s:Type} (x:a×b×c×d×e×f×g×h×i×j×k×l×m×n×o×p×q×r×s):=x.2.2.2.2.2.2.2.2.2.2.2.2.2.2.2.2.2.1
abbrev u18 {a b c d e f g h i j k l m n o p q t r s:Type} (x:a×b×c×d×e×f×g×h×i×j×k×l×m×n×o×p×q×t×r×s):=x.2.2.2.2.2.2.2.2.2.2.2.2.2.2.2.2.2.2.1
abbrev u19 {a b c d e f g h i j k l m n o p q t u r s:Type} (x:a×b×c×d×e×f×g×h×i×j×k×l×m×n×o×p×q×t×u×r×s):=x.2.2.2.2.2.2.2.2.2.2.2.2.2.2.2.2.2.2.2.1
abbrev u20 {a b c d e f g h i j k l m n o p q t u v r s:Type} (x:a×b×c×d×e×f×g×h×i×j×k×l×m×n×o×p×q×t×u×v×r×s):=x.2.2.2.2.2.2.2.2.2.2.2.2.2.2.2.2.2.2.2.2.1
abbrev u21 {a b c d e f g h i j k l m n o p q t u v w r s:Type} (x:a×b×c×d×e×f×g×h×i×j×k×l×m×n×o×p×q×t×u×v×w×r×s):=x.2.2.2.2.2.2.2.2.2.2.2.2.2.2.2.2.2.2.2.2.2.1
abbrev u22 {a b c d e f g h i j k l m n o p q t u v w x r s:Type} (x:a×b×c×d×e×f×g×h×i×j×k×l×m×n×o×p×q×t×u×v×w×x×r×s):=x.2.2.2.2.2.2.2.2.2.2.2.2.2.2.2.2.2.2.2.2.2.2.1
abbrev v23 {a b c d e f g h i j k l m n o p q t u v w x y s:Type} (x:a×b×c×d×e×f×g×h×i×j×k×l×m×n×o×p×q×t×u×v×w×x×y×s):=x.2.2.2.2.2.2.2.2.2.2.2.2.2.2.2.2.2.2.2.2.2.2.2
abbrev u23 {a b c d e f g h i j k l m n o p q t u v w x y r s:Type} (x:a×b×c×d×e×f×g×h×i×j×k×l×m×n×o×p×q×t×u×v×w×x×y×r×s):=x.2.2.2.2.2.2.2.2.2.2.2.2.2.2.2.2.2.2.2.2.2.2.2.1
abbrev v24 {a b c d e f g h i j k l m n o p q t u v w x y z s:Type} (x:a×b×c×d×e×f×g×h×i×j×k×l×m×n×o×p×q×t×u×v×w×x×y×z×s):=x.2.2.2.2.2.2.2.2.2.2.2.2.2.2.2.2.2.2.2.2.2.2.2.2
end Prod
namespace Nore
noncomputable section
abbrev tqV:Type:=Int×Int×(List Int)
abbrev tqU:Type:=Int×(List Y2)×Int
abbrev tqT:Type:=Int×Int×(List Int)×Int
abbrev tqS:Type:=Int×(List Zq)×Int×Int
abbrev tqR:Type:=Int×(List ByteArray)×CoRecord
abbrev tqQ:Type:=Int×ByteArray×ByteArray×Nat
abbrev tqP:Type:=ByteArray×Int×(List ByteArray)
abbrev tqO:Type:=Int×(List Int)×Int×Int×Int
abbrev tqN:Type:=Int×Int×(List Y2)×Int×Int
abbrev tqM:Type:=(List Int)×Int×Int×Int×Unit
abbrev tqL:Type:=Int×(List Zr)×Int×CoRecord
abbrev tqK:Type:=Int×(List Zq)×Int×CoRecord
abbrev tqJ:Type:=Int×(List Zm)×Int×CoRecord
abbrev tqI:Type:=Int×(List Zm)×Int×Zm
abbrev tqH:Type:=Int×Int×(List ByteArray)×CoRecord
abbrev tqG:Type:=Za×(List Zr)×CoRecord
abbrev tqF:Type:=(Int×Int×Int×Zq×Zq)⊕Int
abbrev tqE:Type:=Int×(List Int)×Int×Int×Int×CoRecord
abbrev tqD:Type:=Zc×Zr×CoRecord×(List Int)
abbrev tqC:Type:=Int×(List Int)×(List Int)×(List Int)×Int
abbrev tqB:Type:=Int×(Nat->Y2)×Zc×(Nat->Y2)
abbrev tqA:Type:=Int×Int×Za×CoRecord×(List Int)
abbrev tqz:Type:=(Int×Int×CoRecord×Zr×Zr)⊕CoRecord
abbrev tqy:Type:=(Int×Int×CoRecord×Zq×Zq)⊕CoRecord
abbrev tqx:Type:=Int×Int×Int×(List Int)×Za×CoRecord
abbrev tqw:Type:=Int×(List Zr)×Int×Bool×(List Int)×CoRecord
abbrev tqv:Type:=Int×Int×Int×Int×Zc×(List (Int×Int))
abbrev tqu:Type:=Int×(List Int)×Za×(List Zr)×CoRecord
abbrev tqt:Type:=Int×Za×CoRecord×(Nat->Int)×(List Zr)
abbrev tqs:Type:=Int×Int×Int×Int×(List Int)×Za×CoRecord
abbrev tqr:Type:=(Bool×ByteArray×Nat)⊕tqQ
abbrev tqq:Type:=Int×Int×Za×CoRecord×(Nat->Int)×(List Zr)
abbrev tqp:Type:=Zc×Zc×(Nat->Y2)×Bool×Zc
abbrev tqo:Type:=Int×(List Zb)×(Nat->Y2)×Zc×(Nat->Y2)
abbrev tqn:Type:=(List Zr)×Int×Int×Zc×Zr×CoRecord×(List Int)
abbrev tqm:Type:=Int×Int×(List Zb)×(Nat->Y2)×Zc×(Nat->Y2)
abbrev tql:Type:=(Int×Int×Int×(List ByteArray)×CoRecord)⊕((List ByteArray)×CoRecord)
abbrev tqk:Type:=Int×Int×Int×(List Zb)×(Nat->Y2)×Zc×(Nat->Y2)
abbrev tqj:Type:=(Int×Int×Int×(List ByteArray)×CoRecord×Zq)⊕((List ByteArray)×CoRecord)
abbrev tqi:Type:=Int×(List Zq)×Int×Zc×Zc×(Nat->Y2)×Bool×Zc
abbrev tqh:Type:=((Nat->Y2)×Int×(List Zb)×Zc×Bool×Zc×Zc)
abbrev tqg:Type:=Zb×Zc×Bool×Bool×Zc×Zb×Zc×Zq
abbrev tqf:Type:=(List Zb)×Int×Int×Int×Int×(List Zb)×(Nat->Y2)×Zc×(Nat->Y2)
abbrev tqe:Type:=Zb×Zc×Bool×(Nat->Y2)×Bool×Zc×Zb×Zc×Zq
abbrev tqd:Type:=Int×Int×(List Zr)×(List Zr)×Int×Int×Int×Bool×(List Zr)×CoRecord×(List Int)×(List Int)
abbrev tqc:Type:=Int×Int×Int×Int×Int×Int×(List Zb)×(List Zb)×(Nat->Y2)×Zc×(Nat->Y2)
abbrev tqb:Type:=((Bool×Zc×Bool×Zc×Zc)⊕(Bool×Zc×Bool×Zc×Zc))
abbrev tqa:Type:=Zb×Zc×Bool×Bool×Zc×Zb×(List Zb)×(List Zb)×Zc×Zq
abbrev tq9:Type:=(List Zb)×Zb×Zc×Bool×(Nat->Y2)×Bool×Zc×Zb×(List Zb)×Zc×Zq
abbrev tq8:Type:=Zb×Zc×(List Zb)×Bool×(Nat->Y2)×Bool×Zc×Zb×Zc×Zq×(List Zb)
abbrev tq7:Type:=Zb×Zc×Bool×(Nat->Y2)×Bool×Zc×(List Zb)×Zb×Zc×Zq×(List Zb)
abbrev tq6:Type:=(Int×Int×Int×(List ByteArray)×CoRecord×Zm×(List ByteArray))⊕(Int×Int×Int×(List ByteArray)×CoRecord×Zm×(List ByteArray))⊕((List ByteArray)×CoRecord)
abbrev tq5:Type:=(Int×(List Zr)×Int×Bool×(List Int)×(List Zr)×Zr×CoRecord×(List Int)×(List Int))⊕(Int×(List Zr)×Int×Bool×(List Zr)×CoRecord×(List Int)×(List Int))
abbrev tq4:Type:=Int×Int×Int×(Nat->Y2)×Zb×Zc×Bool×(Nat->Y2)×Bool×Int×Zc×(List Zq)×(List Zq)×Zr×(List Zb)×Zc×Zc×Int×Int×Bool×(Nat->Y2)×Bool×Int×Bool
abbrev tq3:Type:=Int×Int×Int×(Nat->Y2)×Zb×Zc×Bool×(Nat->Y2)×Bool×Int×Zc×(List Zq)×(List Zq)×Zr×(List Zb)×Zc×Zc×Int×Int×Bool×(Nat->Y2)×Bool×Int×Bool×(List Zb)
abbrev tq2:Type:=(Int×Int×CoRecord×Zm×Zm)⊕(Int×Int×Zm×CoRecord×Zm×Zm)⊕(Int×Int×(List Int)×Zm×CoRecord×Zm×Zm)⊕(Int×Int×(List Int)×(List Int)×Zm×CoRecord×Zm×Zm)⊕(Int×Int×CoRecord×Zm×Zm×(List Int))⊕(Int×Int×CoRecord×Zm×Zm×(List Int)×(List Int))⊕CoRecord
abbrev tq1:Type:=((Nat->Y2)×Zb×Zc×Bool×(Nat->Y2)×(Nat->Y2)×Bool×Int×Zc×(List Zq)×(List Zb)×Zb×(List Zq)×Zr×(List Zb)×Zc×Zc×Zq×Int×(List Zb)×Int×Bool×(Nat->Y2)×Bool×Int×Bool)⊕((Nat->Y2)×Zb×Zc×Bool×(Nat->Y2)×(Nat->Y2)×Bool×Int×Zc×(List Zq)×(List Zb)×Zb×(List Zq)×Zr×(List Zb)×Zc×Zc×Zq×Int×(List Zb)×Int×Bool×(Nat->Y2)×Bool×Int×Bool)⊕((Nat->Y2)×Zb×Zc×Bool×(Nat->Y2)×(Nat->Y2)×Bool×Int×Zc×(List Zq)×Zb×(List Zq)×Zr×(List Zb)×Zc×Zc×Zq×Int×Int×Bool×(Nat->Y2)×Bool×Int×Bool)⊕((Nat->Y2)×Zb×Zc×Bool×(Nat->Y2)×(Nat->Y2)×Bool×Int×Zc×(List Zq)×Zb×(List Zq)×Zr×(List Zb)×Zc×Zc×Zq×Int×Int×Bool×(Nat->Y2)×Bool×Int×Bool)⊕((Nat->Y2)×Zb×Zc×(List Zb)×Bool×(Nat->Y2)×(Nat->Y2)×Bool×Int×Zc×(List Zq)×Zb×(List Zq)×Zr×(List Zb)×Zc×Zc×Zq×Int×Int×(List Zb)×Bool×(Nat->Y2)×Bool×Int×Bool)⊕((Nat->Y2)×Zb×Zc×(List Zb)×Bool×(Nat->Y2)×(Nat->Y2)×Bool×Int×Zc×(List Zq)×Zb×(List Zq)×Zr×(List Zb)×Zc×Zc×Zq×Int×Int×(List Zb)×Bool×(Nat->Y2)×Bool×Int×Bool)⊕((Nat->Y2)×Zb×Zc×Bool×(Nat->Y2)×(Nat->Y2)×Bool×Int×Zc×(List Zq)×Zb×(List Zq)×Zr×(List Zb)×Zc×Zc×Zq×Int×Int×Bool×(Nat->Y2)×Bool×Int×Bool)⊕((Nat->Y2)×Zb×Zc×Bool×(Nat->Y2)×(Nat->Y2)×Bool×Int×Zc×(List Zq)×Zb×(List Zq)×Zr×(List Zb)×Zc×Zc×Zq×Int×Int×Bool×(Nat->Y2)×Bool×Int×Bool)⊕((List Zb)×(Nat->Y2)×Zb×Zc×Bool×(Nat->Y2)×(Nat->Y2)×Bool×Int×Zc×(List Zq)×Zb×(List Zq)×Zr×(List Zb)×Zc×(List Zb)×Zc×Zq×Int×Int×Bool×(Nat->Y2)×Bool×Int×Bool)⊕((List Zb)×(Nat->Y2)×Zb×Zc×Bool×(Nat->Y2)×(Nat->Y2)×Bool×Int×Zc×(List Zq)×Zb×(List Zq)×Zr×(List Zb)×Zc×(List Zb)×Zc×Zq×Int×Int×Bool×(Nat->Y2)×Bool×Int×Bool)⊕((Nat->Y2)×Zb×Zc×Bool×(Nat->Y2)×(Nat->Y2)×Bool×Int×Zc×(List Zq)×Zb×(List Zq)×Zr×(List Zb)×Zc×Zc×Zq×Int×Int×Bool×(Nat->Y2)×Bool×Int×Bool)⊕((Nat->Y2)×Zb×Zc×Bool×(Nat->Y2)×(Nat->Y2)×Bool×Int×Zc×(List Zq)×Zb×(List Zq)×Zr×(List Zb)×Zc×Zc×Zq×Int×Int×Bool×(Nat->Y2)×Bool×Int×Bool)⊕((Nat->Y2)×Zb×Zc×Bool×(Nat->Y2)×(Nat->Y2)×Bool×Int×Zc×(List Zq)×Zb×(List Zb)×(List Zb)×(List Zq)×Zr×(List Zb)×Zc×Zc×Zq×Int×Int×Bool×(Nat->Y2)×Bool×Int×Bool)⊕((Nat->Y2)×Zb×Zc×Bool×(Nat->Y2)×(Nat->Y2)×Bool×Int×Zc×(List Zq)×Zb×(List Zb)×(List Zb)×(List Zq)×Zr×(List Zb)×Zc×Zc×Zq×Int×Int×Bool×(Nat->Y2)×Bool×Int×Bool)⊕((Nat->Y2)×Zb×Zc×Bool×(Nat->Y2)×(Nat->Y2)×Bool×Int×Zc×(List Zq)×Zb×(List Zq)×Zr×(List Zb)×Zc×Zc×Zq×Int×Int×Bool×(Nat->Y2)×Bool×Int×Bool)⊕((Nat->Y2)×Zb×Zc×Bool×(Nat->Y2)×(Nat->Y2)×Bool×Int×Zc×(List Zq)×Zb×(List Zq)×Zr×(List Zb)×Zc×Zc×Zq×Int×Int×Bool×(Nat->Y2)×Bool×Int×Bool)⊕((Nat->Y2)×Zb×Zc×Bool×(Nat->Y2)×Bool×Int×Zc×(List Zq)×(List Zq)×Zr×(List Zb)×Zc×Zc×Int×Int×Bool×(Nat->Y2)×Bool×Int×Bool)
abbrev tq0:Type:=((Nat->Y2)×Zb×Zc×Bool×(Nat->Y2)×(Nat->Y2)×Bool×Int×Zc×(List Zq)×(List Zb)×Zb×(List Zq)×Zr×(List Zb)×Zc×Zc×Zq×Int×(List Zb)×Int×Bool×(Nat->Y2)×Bool×Int×Bool×(List Zb))⊕((Nat->Y2)×Zb×Zc×Bool×(Nat->Y2)×(Nat->Y2)×Bool×Int×Zc×(List Zq)×(List Zb)×Zb×(List Zq)×Zr×(List Zb)×Zc×Zc×Zq×Int×(List Zb)×Int×Bool×(Nat->Y2)×Bool×Int×Bool×(List Zb))⊕((Nat->Y2)×Zb×Zc×Bool×(Nat->Y2)×(Nat->Y2)×Bool×Int×Zc×(List Zq)×Zb×(List Zq)×Zr×(List Zb)×Zc×Zc×Zq×Int×Int×Bool×(Nat->Y2)×Bool×Int×Bool×(List Zb))⊕((Nat->Y2)×Zb×Zc×Bool×(Nat->Y2)×(Nat->Y2)×Bool×Int×Zc×(List Zq)×Zb×(List Zq)×Zr×(List Zb)×Zc×Zc×Zq×Int×Int×Bool×(Nat->Y2)×Bool×Int×Bool×(List Zb))⊕((Nat->Y2)×Zb×Zc×(List Zb)×Bool×(Nat->Y2)×(Nat->Y2)×Bool×Int×Zc×(List Zq)×Zb×(List Zq)×Zr×(List Zb)×Zc×Zc×Zq×Int×Int×(List Zb)×Bool×(Nat->Y2)×Bool×Int×Bool×(List Zb))⊕((Nat->Y2)×Zb×Zc×(List Zb)×Bool×(Nat->Y2)×(Nat->Y2)×Bool×Int×Zc×(List Zq)×Zb×(List Zq)×Zr×(List Zb)×Zc×Zc×Zq×Int×Int×(List Zb)×Bool×(Nat->Y2)×Bool×Int×Bool×(List Zb))⊕((Nat->Y2)×Zb×Zc×Bool×(Nat->Y2)×(Nat->Y2)×Bool×Int×Zc×(List Zq)×Zb×(List Zq)×Zr×(List Zb)×Zc×Zc×Zq×Int×Int×Bool×(Nat->Y2)×Bool×Int×Bool×(List Zb))⊕((Nat->Y2)×Zb×Zc×Bool×(Nat->Y2)×(Nat->Y2)×Bool×Int×Zc×(List Zq)×Zb×(List Zq)×Zr×(List Zb)×Zc×Zc×Zq×Int×Int×Bool×(Nat->Y2)×Bool×Int×Bool×(List Zb))⊕((List Zb)×(Nat->Y2)×Zb×Zc×Bool×(Nat->Y2)×(Nat->Y2)×Bool×Int×Zc×(List Zq)×Zb×(List Zq)×Zr×(List Zb)×Zc×(List Zb)×Zc×Zq×Int×Int×Bool×(Nat->Y2)×Bool×Int×Bool×(List Zb))⊕((List Zb)×(Nat->Y2)×Zb×Zc×Bool×(Nat->Y2)×(Nat->Y2)×Bool×Int×Zc×(List Zq)×Zb×(List Zq)×Zr×(List Zb)×Zc×(List Zb)×Zc×Zq×Int×Int×Bool×(Nat->Y2)×Bool×Int×Bool×(List Zb))⊕((Nat->Y2)×Zb×Zc×Bool×(Nat->Y2)×(Nat->Y2)×Bool×Int×Zc×(List Zq)×Zb×(List Zq)×Zr×(List Zb)×Zc×Zc×Zq×Int×Int×Bool×(Nat->Y2)×Bool×Int×Bool×(List Zb))⊕((Nat->Y2)×Zb×Zc×Bool×(Nat->Y2)×(Nat->Y2)×Bool×Int×Zc×(List Zq)×Zb×(List Zq)×Zr×(List Zb)×Zc×Zc×Zq×Int×Int×Bool×(Nat->Y2)×Bool×Int×Bool×(List Zb))⊕((Nat->Y2)×Zb×Zc×Bool×(Nat->Y2)×(Nat->Y2)×Bool×Int×Zc×(List Zq)×Zb×(List Zb)×(List Zb)×(List Zq)×Zr×(List Zb)×Zc×Zc×Zq×Int×Int×Bool×(Nat->Y2)×Bool×Int×Bool×(List Zb))⊕((Nat->Y2)×Zb×Zc×Bool×(Nat->Y2)×(Nat->Y2)×Bool×Int×Zc×(List Zq)×Zb×(List Zb)×(List Zb)×(List Zq)×Zr×(List Zb)×Zc×Zc×Zq×Int×Int×Bool×(Nat->Y2)×Bool×Int×Bool×(List Zb))⊕((Nat->Y2)×Zb×Zc×Bool×(Nat->Y2)×(Nat->Y2)×Bool×Int×Zc×(List Zq)×Zb×(List Zq)×Zr×(List Zb)×Zc×Zc×Zq×Int×Int×Bool×(Nat->Y2)×Bool×Int×Bool×(List Zb))⊕((Nat->Y2)×Zb×Zc×Bool×(Nat->Y2)×(Nat->Y2)×Bool×Int×Zc×(List Zq)×Zb×(List Zq)×Zr×(List Zb)×Zc×Zc×Zq×Int×Int×Bool×(Nat->Y2)×Bool×Int×Bool×(List Zb))⊕((Nat->Y2)×Zb×Zc×Bool×(Nat->Y2)×Bool×Int×Zc×(List Zq)×(List Zq)×Zr×(List Zb)×Zc×Zc×Int×Int×Bool×(Nat->Y2)×Bool×Int×Bool×(List Zb))
abbrev vz:Option (TV S):=some (.bool false)
abbrev vy:Option (TV S):=some (.int .i64 0)
abbrev vx:Option (TV S):=some (.sl (.st 25) [])
abbrev vw:Option (TV S):=some (.sl (.st 21) [])
abbrev vv:Option (TV S):=some (.sl (.st 19) [])
abbrev ou:Option (Zo S):=some (.row 9 .str [] 1 0)
abbrev vt:Option (TV S):=some (.sl (.int .i64) [])
abbrev vs:Option (TV S):=some (.str ByteArray.empty)
abbrev or:Option (Zo S):=some (.cells 171 [(.yld 3)])
abbrev oq:Option (Zo S):=some (.row 38 (.st 21) [] 0 0)
abbrev op:Option (Zo S):=some (.row 38 (.st 21) [] 1 0)
abbrev oo:Option (Zo S):=some (.row 67 (.st 19) [] 1 0)
abbrev on:Option (Zo S):=some (.row 180 (.st 25) [] 0 0)
abbrev om:Option (Zo S):=some (.row 180 (.st 25) [] 1 1)
abbrev ol:Option (Zo S):=some (.cells 4 [(.bool false)])
abbrev ok:Option (Zo S):=some (.siter ByteArray.empty 0)
abbrev oj:Option (Zo S):=some (.cells 3 [(.int .i64 0)])
abbrev oi:Option (Zo S):=some (.row 3 (.int .i64) [] 1 0)
abbrev oh:Option (Zo S):=some (.cells 173 [(.sl (.st 25) [])])
abbrev og:Option (Zo S):=some (.cells 73 [(.stc 30 (T.dflt 30))])
abbrev of:Option (Zo S):=some (.cells 97 [(.stc 22 (T.dflt 22))])
abbrev oe:Option (Zo S):=some (.cells 38 [(.stc 21 (T.dflt 21))])
abbrev od:Option (Zo S):=some (.cells 67 [(.stc 19 (T.dflt 19))])
abbrev oc:Option (Zo S):=some (.cells 79 [(.stc 18 (T.dflt 18))])
abbrev ob:Option (Zo S):=some (.cells 25 [(.stc 20 (T.dflt 20))])
abbrev oa:Option (Zo S):=some (.cells 180 [(.stc 25 (T.dflt 25))])
abbrev v9:Option (TV S):=some (.tup [(.int .i64 0),(.int .i64 0)])
abbrev v8:Option (TV S):=some (.agg [(.arr (.st 5) 10 (fun _=>tdf T (.st 5)))])
abbrev o7:Option (Zo S):=some (.cells 131 [(.arr (.st 5) 10 (fun _=>tdf T (.st 5)))])
abbrev v6:Option (TV S):=some (.fn (.func 154) [] [(.ptr 40 0),(.ptr 41 0),(.ptr 42 0)])
abbrev o5:Option (Zo S):=some (.cells 172 [(.fn (.func 126) [] [(.ptr 5 0),(.ptr 4 0),(.ptr 0 0)])])
abbrev o4:Option (Zo S):=some (.loop 60 (N (N L (some (.ptr 2 0)) L) (some (.agg [(.stc 22 (T.dflt 22))])) (N (N L (some (.fn (.func 125) [] [(.ptr 5 0)])) L) (some (.ptr 1 0)) L)) (5::[]) .skip .skip 0 .ret (0::(60::[])) (0::(1::(0::(1::[])))))
abbrev o3:Option (Zo S):=some (.loop 60 (N (N L (some (.ptr 2 0)) L) (some (.agg [(.stc 22 (T.dflt 22))])) (N (N L (some (.fn (.func 125) [] [(.ptr 1 0)])) L) (some (.ptr 0 0)) L)) (5::[]) .skip .skip 0 .normal (0::(60::[])) (0::(1::(0::(1::[])))))
abbrev o2:Option (Zo S):=some (.loop 60 (N (N L (some (.ptr 2 0)) L) (some (.agg [(.stc 22 (T.dflt 22))])) (N (N L (some (.fn (.func 125) [] [(.ptr 5 0)])) L) (some (.ptr 1 0)) L)) (5::[]) .skip .skip 0 .normal (0::(60::[])) (0::(1::(0::(1::[])))))
abbrev o1:Option (Zo S):=some (.loop 126 (N (N (N (N L (some (.ptr 7 0)) L) (some (.ptr 5 0)) (N L vz (N (N L v6 L) none L))) v8 (N (N L (some (.ptr 9 0)) L) (some (.ptr 0 0)) (N L none (N L vz L)))) vy (N (N (N L (some (.ptr 8 0)) (N L vz L)) (some (.ptr 4 0)) (N L (some (.ptr 32 0)) L)) (some .sl0) (N (N L (some (.ptr 17 0)) L) (some (.ptr 6 0)) L))) (44::[]) .skip .skip 0 .ret (0::(126::[])) (0::(1::(0::(1::(1::(1::(1::(1::[])))))))))
abbrev o0:Option (Zo S):=some (.loop 126 (N (N (N (N L (some (.ptr 7 0)) L) (some (.ptr 5 0)) (N L vz (N (N L v6 L) none L))) v8 (N (N L (some (.ptr 9 0)) L) (some (.ptr 0 0)) (N L none (N L vz L)))) vy (N (N (N L (some (.ptr 8 0)) (N L vz L)) (some (.ptr 4 0)) (N L (some (.ptr 32 0)) L)) vx (N (N L (some (.ptr 17 0)) L) (some (.ptr 6 0)) L))) (44::[]) .skip .skip 0 .ret (0::(126::[])) (0::(1::(0::(1::(1::(1::(1::(1::[])))))))))
abbrev o1n:Tr (Zo S):=N (N L none (N L oi L)) none L
abbrev v1m:Tr (TV S):=N (N L none (N L vy L)) none L
abbrev o1l:Tr (Zo S):=N (N (N L oi L) none L) none L
abbrev o1k:Tr (Zo S):=N (N (N L ok L) none L) none L
abbrev v1j:Tr (TV S):=N L none (N (N L vy L) none L)
abbrev v1i:Tr (TV S):=N (N (N L vy L) none L) none L
abbrev v1h:Tr (TV S):=N (N L vy L) (some (.ptr 1 0)) L
abbrev o1g:Tr (Zo S):=N L none (N (N (N L oc L) oc L) none L)
abbrev v1f:Tr (TV S):=N (N (N L vy L) none L) none (N (N L vy L) vy L)
abbrev o1e:Tr (Zo S):=N (N L none (N (N (N L ou L) none L) none L)) ob L
abbrev v1d:Tr (TV S):=N (N L none (N L vy L)) none (N (N L vy L) none L)
abbrev v1c:Tr (TV S):=N (N (N L vy L) none L) (some (.ptr 0 0)) (N L vy L)
abbrev o1b:Tr (Zo S):=N (N L none (N (N L none (N L oc L)) none L)) none L
abbrev o1a:Tr (Zo S):=N L none (N L none (N (N (N L oc L) none L) none L))
abbrev o19:Tr (Zo S):=N (N (N L o3 L) of (N L o7 L)) ol (N (N L or L) of L)
abbrev o18:Tr (Zo S):=N (N (N L o4 L) ol (N L of L)) o5 (N (N L or L) of L)
abbrev o17:Tr (Zo S):=N (N (N L o2 L) ol (N L of L)) o5 (N (N L or L) of L)
abbrev o16:Tr (Zo S):=N L of (N L (some (.map (.int .i64) (.int .i64) [])) L)
abbrev v15:Tr (TV S):=N (N L (some (.ptr 5 0)) L) v8 (N L (some (.ptr 0 0)) L)
abbrev o14:Tr (Zo S):=N (N (N L none (N L of L)) oe L) ob (N L none o1n)
abbrev v13:Tr (TV S):=N L none (N (N (N L vy L) (some (.ptr 1 0)) (N L vy L)) vx (N L (some (.ptr 2 0)) L))
abbrev o12:Tr (Zo S):=N (N L og L) ob (N L (some (.cells 75 [(.arr (.int .u16) 3 (fun _=>tdf T (.int .u16)))])) (N L none (N L oq L)))
abbrev o11:Tr (Zo S):=N (N (N L none (N L none (N L op L))) none L) ob (N (N L none (N L none (N L oi L))) none o1n)
abbrev v10:Tr (TV S):=N (N v1j none L) none (N (N (N L vy L) (some (.ptr 1 0)) (N (N L vy L) none L)) vx (N L (some (.ptr 2 0)) L))
abbrev oZ:Tr (Zo S):=N (N (N (N (N (N (N L om L) oo L) oe L) none L) oh (N (N L of L) none L)) or L) of (N (N L none (N (N (N L od L) oj L) none L)) oj (N L none (N (N L o1 L) none L)))
abbrev oY:Tr (Zo S):=N (N (N (N (N (N (N L om L) oo L) oe L) none L) oh (N (N L of L) none L)) or L) of (N (N L none (N (N (N L od L) oj L) none L)) oj (N L none (N (N L o0 L) none L)))
abbrev oX:Tr (Zo S):=N (N (N (N (N (N L oo L) oe L) none L) oh (N (N L of L) none L)) or L) of (N (N L none (N (N (N L od L) oj L) none L)) oj (N L none (N (N (N (N L om L) none L) o1 L) none L)))
abbrev oW:Tr (Zo S):=N (N (N (N (N (N L oo L) oe L) none L) oh (N (N L of L) none L)) or L) of (N (N L none (N (N (N L od L) oj L) none L)) oj (N L none (N (N (N (N L om L) none L) o0 L) none L)))
abbrev oV:Tr (Zo S):=N (N L none (N (N (N L (some (.row 9 .str [] 1 1)) L) none L) none L)) ob (N (N L none (N L none (N L oc L))) none (N L none (N (N (N L (some (.row 9 .str [] 0 0)) L) none L) none L)))
abbrev oU:Tr (Zo S):=N (N (N (N (N (N L oo L) oe L) none L) oh (N (N L of L) none L)) or L) of (N (N L none (N (N (N L od L) oj L) none (N (N (N L on L) none L) none L))) oj (N L none (N (N L o1 L) none L)))
abbrev oT:Tr (Zo S):=N (N (N (N (N (N L oo L) oe L) none L) oh (N (N L of L) none L)) or L) of (N (N L none (N (N (N L od L) oj L) none (N (N (N L on L) none L) none L))) oj (N L none (N (N L o0 L) none L)))
abbrev oS:Tr (Zo S):=N (N (N L o7 (N L none (N L oa L))) o4 L) ol (N (N (N (N L none (N L o7 L)) o7 L) ol (N (N L oj L) none L)) of (N (N (N (N L oo L) none L) none L) none (N L none (N (N L oa L) none (N L on L)))))
abbrev oR:Tr (Zo S):=N (N (N L o7 (N L none (N L oa L))) o2 L) ol (N (N (N (N L none (N L o7 L)) o7 L) ol (N (N L oj L) none L)) of (N (N (N (N L oo L) none L) none L) none (N L none (N (N L oa L) none (N L on L)))))
abbrev oQ:Tr (Zo S):=N (N (N L o7 (N L none (N L oa L))) o4 L) ol (N (N (N (N L none (N L o7 L)) o7 L) ol (N (N L oj L) none L)) of (N (N (N (N L oo L) none L) none L) none (N L none (N (N (N L om L) oa L) none L))))
abbrev oP:Tr (Zo S):=N (N (N L o7 (N L none (N L oa L))) o2 L) ol (N (N (N (N L none (N L o7 L)) o7 L) ol (N (N L oj L) none L)) of (N (N (N (N L oo L) none L) none L) none (N L none (N (N (N L om L) oa L) none L))))
abbrev vO:Tr (TV S):=N (N (N L (some (.ptr 42 0)) L) none (N (N L none (N L vy L)) (some (.ptr 55 0)) L)) (some (.yld 46)) (N (N (N L none (N L (some (.rs 69 0)) L)) none L) (some (.ptr 41 0)) (N (N L none (N L vy L)) vy L))
abbrev oN:Tr (Zo S):=N (N (N (N (N (N L oo L) oe L) none L) oh (N (N L of L) none L)) or (N L none (N (N (N (N L on L) none L) none L) none L))) of (N (N L none (N (N (N L od L) oj L) none L)) oj (N L none (N (N L o1 L) none L)))
abbrev oM:Tr (Zo S):=N (N (N (N (N (N L oo L) oe L) none L) oh (N (N L of L) none L)) or (N L none (N (N (N (N L on L) none L) none L) none L))) of (N (N L none (N (N (N L od L) oj L) none L)) oj (N L none (N (N L o0 L) none L)))
abbrev oL:Tr (Zo S):=N (N (N (N L none (N (N (N L om L) none L) none L)) o7 (N L none (N L oa L))) o4 L) ol (N (N (N (N L none (N L o7 L)) o7 L) ol (N (N L oj L) none L)) of (N (N (N (N L oo L) none L) none L) none (N L none (N (N L oa L) none L))))
abbrev oK:Tr (Zo S):=N (N (N (N L none (N (N (N L om L) none L) none L)) o7 (N L none (N L oa L))) o2 L) ol (N (N (N (N L none (N L o7 L)) o7 L) ol (N (N L oj L) none L)) of (N (N (N (N L oo L) none L) none L) none (N L none (N (N L oa L) none L))))
abbrev vJ:Tr (TV S):=N (N (N (N L none (N L none (N (N L vx L) none L))) none L) none (N (N L none v1j) none L)) none (N (N (N L vy v1j) (some (.ptr 1 0)) (N L vy L)) vx (N L (some (.ptr 2 0)) L))
abbrev oI:Tr (Zo S):=N (N (N L o7 (N L none (N L oa L))) o4 (N L none (N (N (N (N L on L) none L) none L) none L))) ol (N (N (N (N L none (N L o7 L)) o7 L) ol (N (N L oj L) none L)) of (N (N (N (N L oo L) none L) none L) none (N L none (N (N L oa L) none L))))
abbrev oH:Tr (Zo S):=N (N (N L o7 (N L none (N L oa L))) o2 (N L none (N (N (N (N L on L) none L) none L) none L))) ol (N (N (N (N L none (N L o7 L)) o7 L) ol (N (N L oj L) none L)) of (N (N (N (N L oo L) none L) none L) none (N L none (N (N L oa L) none L))))
abbrev vG:Tr (TV S):=N (N (N v1j none (N (N L vy L) none L)) none (N (N L vy L) none L)) none (N (N (N L vy (N (N L vy L) none L)) (some (.ptr 1 0)) (N (N L vy L) none L)) vx (N L (some (.ptr 2 0)) (N (N (N L vx L) none L) none L)))
abbrev oF:Tr (Zo S):=N (N (N (N L o7 (N L none (N L oa L))) o4 L) ol (N (N (N (N L none (N L o7 L)) o7 L) ol (N (N L oj L) none L)) of (N (N (N (N L oo L) none L) none L) none (N L none (N (N L oa L) none L))))) o5 (N (N (N (N (N (N L oo L) oe L) none L) oh (N (N L of L) none L)) or L) of (N (N L none (N (N (N L od L) oj L) none L)) oj (N L none (N (N L o1 L) none L))))
abbrev oE:Tr (Zo S):=N (N (N (N L o7 (N L none (N L oa L))) o2 L) ol (N (N (N (N L none (N L o7 L)) o7 L) ol (N (N L oj L) none L)) of (N (N (N (N L oo L) none L) none L) none (N L none (N (N L oa L) none L))))) o5 (N (N (N (N (N (N L oo L) oe L) none L) oh (N (N L of L) none L)) or L) of (N (N L none (N (N (N L od L) oj L) none L)) oj (N L none (N (N L o1 L) none L))))
abbrev oD:Tr (Zo S):=N (N (N (N L o7 (N L none (N L oa L))) o4 L) ol (N (N (N (N L none (N L o7 L)) o7 L) ol (N (N L oj L) none L)) of (N (N (N (N L oo L) none L) none L) none (N L none (N (N L oa L) none L))))) o5 (N (N (N (N (N (N L oo L) oe L) none L) oh (N (N L of L) none L)) or L) of (N (N L none (N (N (N L od L) oj L) none L)) oj (N L none (N (N L o0 L) none L))))
abbrev oC:Tr (Zo S):=N (N (N (N L o7 (N L none (N L oa L))) o2 L) ol (N (N (N (N L none (N L o7 L)) o7 L) ol (N (N L oj L) none L)) of (N (N (N (N L oo L) none L) none L) none (N L none (N (N L oa L) none L))))) o5 (N (N (N (N (N (N L oo L) oe L) none L) oh (N (N L of L) none L)) or L) of (N (N L none (N (N (N L od L) oj L) none L)) oj (N L none (N (N L o0 L) none L))))
abbrev oB:Tr (Zo S):=N (N (N (N L o7 (N L none (N L oa L))) o2 L) ol (N (N (N L o7 L) ol (N (N L oj L) none L)) of (N (N (N (N L oo L) none L) none L) none L))) o5 (N (N (N (N (N (N L oo L) oe L) none L) oh (N (N L of L) none L)) or L) of (N (N L none (N (N L oj L) none L)) oj (N L none (N (N L (some (.loop 126 (N (N (N (N L (some (.ptr 7 0)) L) (some (.ptr 5 0)) (N L vz (N (N L v6 L) none L))) v8 (N (N L (some (.ptr 9 0)) L) (some (.ptr 0 0)) (N L none (N L vz L)))) vy (N (N (N L (some (.ptr 8 0)) (N L vz L)) (some (.ptr 4 0)) (N L (some (.ptr 32 0)) L)) vx (N (N L (some (.ptr 17 0)) L) (some (.ptr 6 0)) L))) (44::[]) .skip .skip 0 .normal (0::(126::[])) (0::(1::(0::(1::(1::(1::(1::(1::[])))))))))) L) none L))))
abbrev oA:Tr (Zo S):=N (N (N (N L o7 (N L none (N L oa L))) o2 L) ol (N (N (N L o7 L) ol (N (N L oj L) none L)) of (N (N (N (N L oo L) none L) none L) none L))) o5 (N (N (N (N (N (N L oo L) oe L) none L) oh (N (N L of L) none L)) or L) of (N (N L none (N (N L oj L) none L)) oj (N L none (N (N L (some (.loop 126 (N (N (N (N L (some (.ptr 7 0)) L) (some (.ptr 5 0)) (N L vz (N (N L v6 L) none L))) v8 (N (N L (some (.ptr 9 0)) L) (some (.ptr 0 0)) (N L none (N L vz L)))) vy (N (N (N L (some (.ptr 8 0)) (N L vz L)) (some (.ptr 4 0)) (N L (some (.ptr 32 0)) L)) (some .sl0) (N (N L (some (.ptr 17 0)) L) (some (.ptr 6 0)) L))) (44::[]) .skip .skip 0 .normal (0::(126::[])) (0::(1::(0::(1::(1::(1::(1::(1::[])))))))))) L) none L))))
def q0 {R:Type}:Prs S R:=Zk2
theorem q1 {R:Type}:Z93 X (q0 (R:=R)):=Zk3 X
def q2:List (Nat×F7 S):=[]
theorem q3:ZaF X (q2):=trivial
abbrev q4 {R:Type}:Z2K S R:=ZiZ
theorem q5 {R:Type}:Z4g X (q4 (R:=R)):=ZjA X
def q6:Key:=⟨[137,2,1,106,2,1,59],137,none,[0,0,1,0,1],0,17⟩
def q7:StT S:=⟨(N (N (N (N L vy L) none L) (some (.fn (.func 107) [] [(.ptr 0 0),(.ptr 1 0)])) L) vt v1i),(N (N L oj L) oj L),17⟩
def q8:Way S:=⟨.ret,⟨v1j,(N (N L oj L) oj L),38⟩,[.int,.int,.int]⟩
def q9:Way S:=⟨(.exit 0),⟨L,(N (N L oj L) oj L),18⟩,[.int,.int]⟩
def qa:LE S:=⟨q6,q7,[.int,(.lst (.int .i64)),.int,.int,.int],[q8,q9]⟩
def qb (x:tqO):(Int⊕Unit)->((Int×Int×Int)⊕(Int×Int)):=Sum.elim (fun y0=>(.inl (y0,x.u3,x.v4))) (fun y1=>(.inr (x.u3,x.v4)))
def qc {R:Type} (x:tqO) (k:((Int×Int×Int)⊕(Int×Int))->Option R):Option R:=(X3F x.1 x.2.1 x.u3 x.v4 x.u2).bind (Sum.elim (fun y0=>k (.inl (y0,x.u3,x.v4))) (fun y1=>k (.inr (x.u3,x.v4))))
def qd (x:tqO) (v:Int):tqO:=(x.1,x.2.1,v,x.u3,x.v4)
theorem qe (x:tqO):LE.step X qa q2 q0 q4 12 x=WG x.1 x.2.1 x.u3 x.v4 x.u2 (fun w0=>(Sum.inl (x.1,x.2.1,w0,x.u3,x.v4))) (fun p0=>(Sum.inr (.inl (p0,x.u3,x.v4)))) (Sum.inr (.inr (x.u3,x.v4))):=by kernel_rfl
theorem qg {R:Type} (x:tqO) (k:((Int×Int×Int)⊕(Int×Int))->Option R) (r:R) (h:qc x k=some r):∃o,Z6b (LE.step X qa q2 q0 q4 12) x o/\k o=some r:=by
 obtain⟨o,h1,h2⟩:=Z0 h;exact⟨qb x o,Zk9 (st:=fun(x:tqO)=>Wx x.1 x.2.1 x.u3 x.v4) (prj:=fun x=>x.u2) (emb:=qd) (embO:=qb) (fun x=>(qe x).trans (by unfold Wx WG;simp only[Zk0,ZjR,Zk1,Option.map_some,Option.map_none];rfl)) (fun _ _=>rfl) (fun _ _=>rfl) (fun _ _ _=>rfl) (fun _ _ _=>rfl) (fun _=>rfl) (Z29.1 h1),by first|exact h2|(rcases o with o|o<;>exact h2)⟩
def qh {R:Type}:Z2K S R:=LE.ls X qa qc q4
theorem qi {R:Type}:Z4g X (qh (R:=R)):=Zkd xok q3 (e:=qa) q1 q5 qg q5
theorem qj (x0 x1:Int) (x2:List Int):Zkf X q2 [(.int .i64),(.int .i64),(.sl (.int .i64))] [.bool] q0 qh 12 59 (x0,x1,x2,())=X1w x0 x1 x2:=by kernel_rfl
def qk:F7 S:=⟨[(.int .i64),(.int .i64),(.sl (.int .i64))],[.bool],fun xs=>Wc xs.1 xs.2.1 xs.u2⟩
theorem ql:Zau X 59 qk:=Zkc (Zkb xok q3 q1 qi 12 59) fun xs _ h=>((qj xs.1 xs.2.1 xs.u2).trans (X4o xs.1 xs.2.1 xs.u2).symm).trans h
def qq:Key:=⟨[92],92,none,[0,0,1,0,1,1],0,4⟩
def qr:StT S:=⟨(N (N (N (N L (some (.iter 3)) L) (some (.int .i32 0)) L) none L) vs L),o1k,4⟩
def qs:Way S:=⟨.ret,⟨(N L none (N L vz L)),o1k,23⟩,[.bool,.str,.nat]⟩
def qt:Way S:=⟨(.exit 0),⟨(N (N (N L (some (.int .i32 0)) L) none L) vs L),o1k,6⟩,[.int,.str,.str,.nat]⟩
def qu:LE S:=⟨qq,qr,[.int,.str,.str,.nat],[qs,qt]⟩
def qv (x:tqQ):((Bool×Nat)⊕(Int×Nat))->tqr:=Sum.elim (fun y0=>(.inl (y0.1,x.u2,y0.2))) (fun y1=>(.inr (y1.1,x.2.1,x.u2,y1.2)))
def qw {R:Type} (x:tqQ) (k:tqr->Option R):Option R:=(X47 x.2.1 x.u2 (x.1,x.v3)).bind (Sum.elim (fun y0=>k (.inl (y0.1,x.u2,y0.2))) (fun y1=>k (.inr (y1.1,x.2.1,x.u2,y1.2))))
def qx (x:tqQ) (v:(Int×Nat)):tqQ:=(v.1,x.2.1,x.u2,v.2)
theorem qy (x:tqQ):LE.step X qu q2 q0 q4 12 x=X1j x.2.1 x.u2 x.1 x.v3 (fun w0 w1=>(Sum.inl (w0,x.2.1,x.u2,w1))) (fun p0 p1=>(Sum.inr (.inl (p0,x.u2,p1)))) (fun p0 p1=>(Sum.inr (.inr (p0,x.2.1,x.u2,p1)))):=by kernel_rfl
theorem qA {R:Type} (x:tqQ) (k:tqr->Option R) (r:R) (h:qw x k=some r):∃o,Z6b (LE.step X qu q2 q0 q4 12) x o/\k o=some r:=by
 obtain⟨o,h1,h2⟩:=Z0 h;exact⟨qv x o,Zk9 (st:=fun(x:tqQ)=>X1h x.2.1 x.u2) (prj:=fun x=>(x.1,x.v3)) (emb:=qx) (embO:=qv) (fun x=>(qy x).trans (by unfold X1h X1j;simp only[Zk0,ZjR,Zk1,Option.map_some,Option.map_none];rfl)) (fun _ _=>rfl) (fun _ _=>rfl) (fun _ _ _=>rfl) (fun _ _ _=>rfl) (fun _=>rfl) (Z29.1 h1),by first|exact h2|(rcases o with o|o<;>exact h2)⟩
def qB {R:Type}:Z2K S R:=LE.ls X qu qw q4
theorem qC {R:Type}:Z4g X (qB (R:=R)):=Zkd xok q3 (e:=qu) q1 q5 qA q5
theorem qD (x0:ByteArray):Zkf X q2 [.str] [.bool] q0 qB 12 92 (x0,())=X4w x0:=by kernel_rfl
def qE:F7 S:=⟨[.str],[.bool],fun xs=>X4w xs.1⟩
theorem qF:Zau X 92 qE:=Zkc (Zkb xok q3 q1 qC 12 92) fun xs _ h=>(qD xs.1).trans h
def qG:List (Nat×F7 S):=[(59,qk)]
theorem qH:ZaF X (qG):=⟨ql,trivial⟩
theorem qK (x0:CoRecord) (x1:Zr):Zkf X qG [(.st 20),(.st 21)] [(.int .i64)] q0 q4 12 97 (x0,x1,())=X2t x0 x1:=by kernel_rfl
def qL:F7 S:=⟨[(.st 20),(.st 21)],[(.int .i64)],fun xs=>X3w xs.1 xs.2.1⟩
theorem qM:Zau X 97 qL:=Zkc (Zkb xok qH q1 q5 12 97) fun xs _ h=>((qK xs.1 xs.2.1).trans (X5v xs.1 xs.2.1).symm).trans h
def qN:StT S:=⟨(N (N L (some (.fn (.func 91) [] [(.ptr 0 0)])) L) (some (.sl (.st 18) [])) L),(N L ob L),1⟩
def qO:Way S:=⟨.ret,⟨(N L v9 L),(N L ob L),1⟩,[.int,.int,(.st 20)]⟩
def qP:PE S:=⟨90,2,qN,[(.lst (.st 18)),(.st 20)],[qO]⟩
def qQ:List (Nat×F7 S):=[(59,qk),(92,qE),(97,qL)]
theorem qR:ZaF X qQ:=⟨ql,qF,qM,trivial⟩
def qU:Key:=⟨[130,2,1,93,5,3,91,3,4,90],130,none,[0,0,1,0,1],0,42⟩
def qV:StT S:=⟨(N (N (N (N L vy L) none L) (some (.fn (.func 94) [] [(.ptr 18 0)])) L) (some (.sl (.st 18) [])) v1i),o1a,42⟩
def qW:Way S:=⟨.ret,⟨v1j,(N o1b none (N L none (N (N (N L oc L) none L) none L))),61⟩,[.int,(.st 18),(.st 18)]⟩
def qX:Way S:=⟨(.exit 0),⟨L,o1a,43⟩,[(.st 18)]⟩
def qY:LE S:=⟨qU,qV,[.int,(.lst (.st 18)),.int,(.st 18)],[qW,qX]⟩
def qZ (x:tqI):((Int×Zm)⊕Unit)->((Int×Zm×Zm)⊕Zm):=Sum.elim (fun y0=>(.inl (y0.1,y0.2,x.v3))) (fun y1=>(.inr x.v3))
def q10 {R:Type} (x:tqI) (k:((Int×Zm×Zm)⊕Zm)->Option R):Option R:=(Xf x.1 x.2.1 x.v3 x.u2).bind (Sum.elim (fun y0=>k (.inl (y0.1,y0.2,x.v3))) (fun y1=>k (.inr x.v3)))
def q11 (x:tqI) (v:Int):tqI:=(x.1,x.2.1,v,x.v3)
theorem q12 (x:tqI):LE.step X qY qQ q0 q4 12 x=Xd x.1 x.2.1 x.v3 x.u2 (fun w0=>(Sum.inl (x.1,x.2.1,w0,x.v3))) (fun p0 p1=>(Sum.inr (.inl (p0,p1,x.v3)))) (Sum.inr (.inr x.v3)):=by kernel_rfl
theorem q14 {R:Type} (x:tqI) (k:((Int×Zm×Zm)⊕Zm)->Option R) (r:R) (h:q10 x k=some r):∃o,Z6b (LE.step X qY qQ q0 q4 12) x o/\k o=some r:=by
 obtain⟨o,h1,h2⟩:=Z0 h;exact⟨qZ x o,Zk9 (st:=fun(x:tqI)=>X5 x.1 x.2.1 x.v3) (prj:=fun x=>x.u2) (emb:=q11) (embO:=qZ) (fun x=>(q12 x).trans (by unfold X5 Xd;simp only[Zk0,ZjR,Zk1,Option.map_some,Option.map_none];rfl)) (fun _ _=>rfl) (fun _ _=>rfl) (fun _ _ _=>rfl) (fun _ _ _=>rfl) (fun _=>rfl) (Z29.1 h1),by first|exact h2|(rcases o with o|o<;>exact h2)⟩
def q15 {R:Type}:Z2K S R:=LE.ls X qY q10 q4
theorem q16 {R:Type}:Z4g X (q15 (R:=R)):=Zkd xok qR (e:=qY) q1 q5 q14 q5
def q17:Key:=⟨[90],90,none,[0,0,1,0,1],0,6⟩
def q18:StT S:=⟨(N (N (N L none (N L vy L)) (some (.fn (.func 91) [] [(.ptr 0 0)])) (N (N L (some (.sl (.st 18) [])) L) none L)) none v1j),(N L ob L),6⟩
def q19:Way S:=⟨.ret,⟨v1d,(N L ob o1g),32⟩,[.int,.int,(.st 20),(.st 18),(.st 18)]⟩
def q1a:Way S:=⟨.ret,⟨v1d,(N o1b ob o1g),68⟩,[.int,.int,(.st 18),(.st 20),(.st 18),(.st 18)]⟩
def q1b:Way S:=⟨.ret,⟨v1d,(N (N (N (N o1l none L) none (N (N L none (N L oc L)) none L)) none L) ob o1g),82⟩,[.int,.int,(.lst (.int .i64)),(.st 18),(.st 20),(.st 18),(.st 18)]⟩
def q1c:Way S:=⟨.ret,⟨v1d,(N (N (N (N o1l none o1l) none (N (N L none (N L oc L)) none L)) none L) ob o1g),82⟩,[.int,.int,(.lst (.int .i64)),(.lst (.int .i64)),(.st 18),(.st 20),(.st 18),(.st 18)]⟩
def q1d:Way S:=⟨.ret,⟨v1d,(N L ob (N L none (N (N (N L oc L) oc L) none (N L none (N (N L oi L) none L))))),65⟩,[.int,.int,(.st 20),(.st 18),(.st 18),(.lst (.int .i64))]⟩
def q1e:Way S:=⟨.ret,⟨v1d,(N L ob (N L none (N (N (N L oc L) oc L) none (N (N L none (N L oi L)) none (N (N L oi L) none L))))),65⟩,[.int,.int,(.st 20),(.st 18),(.st 18),(.lst (.int .i64)),(.lst (.int .i64))]⟩
def q1f:Way S:=⟨(.exit 0),⟨L,(N L ob L),7⟩,[(.st 20)]⟩
def q1g:LE S:=⟨q17,q18,[.int,(.lst (.st 18)),.int,(.st 20)],[q19,q1a,q1b,q1c,q1d,q1e,q1f]⟩
def q1h (x:tqJ):((Int×Int×Zm×Zm)⊕(Int×Int×Zm×Zm×Zm)⊕(Int×Int×(List Int)×Zm×Zm×Zm)⊕(Int×Int×(List Int)×(List Int)×Zm×Zm×Zm)⊕(Int×Int×Zm×Zm×(List Int))⊕(Int×Int×Zm×Zm×(List Int)×(List Int))⊕Unit)->tq2:=Sum.elim (fun y0=>(.inl (y0.1,y0.2.1,x.v3,y0.u2,y0.v3))) (Sum.elim (fun y1=>(.inr (.inl (y1.1,y1.2.1,y1.u2,x.v3,y1.u3,y1.v4)))) (Sum.elim (fun y2=>(.inr (.inr (.inl (y2.1,y2.2.1,y2.u2,y2.u3,x.v3,y2.u4,y2.v5))))) (Sum.elim (fun y3=>(.inr (.inr (.inr (.inl (y3.1,y3.2.1,y3.u2,y3.u3,y3.u4,x.v3,y3.u5,y3.v6)))))) (Sum.elim (fun y4=>(.inr (.inr (.inr (.inr (.inl (y4.1,y4.2.1,x.v3,y4.u2,y4.u3,y4.v4))))))) (Sum.elim (fun y5=>(.inr (.inr (.inr (.inr (.inr (.inl (y5.1,y5.2.1,x.v3,y5.u2,y5.u3,y5.u4,y5.v5)))))))) (fun y6=>(.inr (.inr (.inr (.inr (.inr (.inr x.v3))))))))))))
def q1i {R:Type} (x:tqJ) (k:tq2->Option R):Option R:=(Wf x.2.1 x.u2 x.v3 x.1).bind (Sum.elim (fun y0=>k (.inl (y0.1,y0.2.1,x.v3,y0.u2,y0.v3))) (Sum.elim (fun y1=>k (.inr (.inl (y1.1,y1.2.1,y1.u2,x.v3,y1.u3,y1.v4)))) (Sum.elim (fun y2=>k (.inr (.inr (.inl (y2.1,y2.2.1,y2.u2,y2.u3,x.v3,y2.u4,y2.v5))))) (Sum.elim (fun y3=>k (.inr (.inr (.inr (.inl (y3.1,y3.2.1,y3.u2,y3.u3,y3.u4,x.v3,y3.u5,y3.v6)))))) (Sum.elim (fun y4=>k (.inr (.inr (.inr (.inr (.inl (y4.1,y4.2.1,x.v3,y4.u2,y4.u3,y4.v4))))))) (Sum.elim (fun y5=>k (.inr (.inr (.inr (.inr (.inr (.inl (y5.1,y5.2.1,x.v3,y5.u2,y5.u3,y5.u4,y5.v5)))))))) (fun y6=>k (.inr (.inr (.inr (.inr (.inr (.inr x.v3)))))))))))))
def q1j (x:tqJ) (v:Int):tqJ:=(v,x.2.1,x.u2,x.v3)
theorem q1k (x:tqJ):LE.step X q1g qQ q0 q15 12 x=Xc x.2.1 x.u2 x.v3 x.1 (fun w0=>(Sum.inl (w0,x.2.1,x.u2,x.v3))) (fun p0 p1 p2 p3=>(Sum.inr (.inl (p0,p1,x.v3,p2,p3)))) (fun p0 p1 p2 p3 p4=>(Sum.inr (.inr (.inl (p0,p1,p2,x.v3,p3,p4))))) (fun p0 p1 p2 p3 p4 p5=>(Sum.inr (.inr (.inr (.inl (p0,p1,p2,p3,x.v3,p4,p5)))))) (fun p0 p1 p2 p3 p4 p5 p6=>(Sum.inr (.inr (.inr (.inr (.inl (p0,p1,p2,p3,p4,x.v3,p5,p6))))))) (fun p0 p1 p2 p3 p4=>(Sum.inr (.inr (.inr (.inr (.inr (.inl (p0,p1,x.v3,p2,p3,p4)))))))) (fun p0 p1 p2 p3 p4 p5=>(Sum.inr (.inr (.inr (.inr (.inr (.inr (.inl (p0,p1,x.v3,p2,p3,p4,p5))))))))) (Sum.inr (.inr (.inr (.inr (.inr (.inr (.inr x.v3))))))):=by kernel_rfl
theorem q1m {R:Type} (x:tqJ) (k:tq2->Option R) (r:R) (h:q1i x k=some r):∃o,Z6b (LE.step X q1g qQ q0 q15 12) x o/\k o=some r:=by
 obtain⟨o,h1,h2⟩:=Z0 h;exact⟨q1h x o,Zk9 (st:=fun(x:tqJ)=>Xi x.2.1 x.u2 x.v3) (prj:=fun x=>x.1) (emb:=q1j) (embO:=q1h) (fun x=>(q1k x).trans (by unfold Xi Xc;simp only[Zk0,ZjR,Zk1,Option.map_some,Option.map_none];rfl)) (fun _ _=>rfl) (fun _ _=>rfl) (fun _ _ _=>rfl) (fun _ _ _=>rfl) (fun _=>rfl) (Z29.1 h1),by first|exact h2|(rcases o with o|o|o|o|o|o|o<;>exact h2)⟩
def q1n {R:Type}:Z2K S R:=LE.ls X q1g q1i q15
theorem q1o {R:Type}:Z4g X (q1n (R:=R)):=Zkd xok qR (e:=q1g) q1 q16 q1m q16
theorem q1p (x:((List Zm)×CoRecord)):PE.step X qP qQ q0 q1n 12 x=Xo x.1 x.2:=by kernel_rfl
theorem q1q:ZcD X qP XP:=Zke (ZjE xok qR q1 q1o 12) fun x _ h=>((q1p x).trans (X1M x).symm).trans h
def q1r {R:Type}:Prs S R:=PE.ps X qP (fun x q=>(XP x).bind q) q0
theorem q1s {R:Type}:Z93 X (q1r (R:=R)):=Zk6 (e:=qP) q1q q1
def q1t:StT S:=⟨(N (N L (some (.fn (.func 96) [] [(.ptr 0 0)])) L) vv L),(N L ob L),1⟩
def q1v:PE S:=⟨95,2,q1t,[(.lst (.st 19)),(.st 20)],[qO]⟩
def q1A:Key:=⟨[95],95,none,[0,0,1,0,1],0,6⟩
def q1B:StT S:=⟨(N (N (N L none (N L vy L)) (some (.fn (.func 96) [] [(.ptr 0 0)])) (N (N L vv L) none L)) none v1j),(N L ob L),6⟩
def q1C:Way S:=⟨.ret,⟨v1d,(N L ob (N L none (N (N (N L od L) od L) none L))),30⟩,[.int,.int,(.st 20),(.st 19),(.st 19)]⟩
def q1E:LE S:=⟨q1A,q1B,[.int,(.lst (.st 19)),.int,(.st 20)],[q1C,q1f]⟩
def q1F (x:tqK):((Int×Int×Zq×Zq)⊕Unit)->tqy:=Sum.elim (fun y0=>(.inl (y0.1,y0.2.1,x.v3,y0.u2,y0.v3))) (fun y1=>(.inr x.v3))
def q1G {R:Type} (x:tqK) (k:tqy->Option R):Option R:=(Wo x.2.1 x.u2 x.v3 x.1).bind (Sum.elim (fun y0=>k (.inl (y0.1,y0.2.1,x.v3,y0.u2,y0.v3))) (fun y1=>k (.inr x.v3)))
def q1H (x:tqK) (v:Int):tqK:=(v,x.2.1,x.u2,x.v3)
theorem q1I (x:tqK):LE.step X q1E qQ q1r q4 12 x=Xg x.2.1 x.u2 x.v3 x.1 (fun w0=>(Sum.inl (w0,x.2.1,x.u2,x.v3))) (fun p0 p1 p2 p3=>(Sum.inr (.inl (p0,p1,x.v3,p2,p3)))) (Sum.inr (.inr x.v3)):=by kernel_rfl
theorem q1K {R:Type} (x:tqK) (k:tqy->Option R) (r:R) (h:q1G x k=some r):∃o,Z6b (LE.step X q1E qQ q1r q4 12) x o/\k o=some r:=by
 obtain⟨o,h1,h2⟩:=Z0 h;exact⟨q1F x o,Zk9 (st:=fun(x:tqK)=>Xl x.2.1 x.u2 x.v3) (prj:=fun x=>x.1) (emb:=q1H) (embO:=q1F) (fun x=>(q1I x).trans (by unfold Xl Xg;simp only[Zk0,ZjR,Zk1,Option.map_some,Option.map_none];rfl)) (fun _ _=>rfl) (fun _ _=>rfl) (fun _ _ _=>rfl) (fun _ _ _=>rfl) (fun _=>rfl) (Z29.1 h1),by first|exact h2|(rcases o with o|o<;>exact h2)⟩
def q1L {R:Type}:Z2K S R:=LE.ls X q1E q1G q4
theorem q1M {R:Type}:Z4g X (q1L (R:=R)):=Zkd xok qR (e:=q1E) q1s q5 q1K q5
theorem q1N (x:((List Zq)×CoRecord)):PE.step X q1v qQ q1r q1L 12 x=Xr x.1 x.2:=by kernel_rfl
theorem q1O:ZcD X q1v XW:=Zke (ZjE xok qR q1s q1M 12) fun x _ h=>((q1N x).trans (X1V x).symm).trans h
def q1P {R:Type}:Prs S R:=PE.ps X q1v (fun x q=>(XW x).bind q) q1r
theorem q1Q {R:Type}:Z93 X (q1P (R:=R)):=Zk6 (e:=q1v) q1O q1s
def q1R:StT S:=⟨(N (N L (some (.fn (.func 98) [] [(.ptr 0 0)])) L) vv L),(N L oj L),1⟩
def q1S:Way S:=⟨.ret,⟨(N L v9 L),(N L oj L),1⟩,[.int,.int,.int]⟩
def q1T:PE S:=⟨95,2,q1R,[(.lst (.st 19)),.int],[q1S]⟩
def q1Z:StT S:=⟨(N (N (N L none (N L vy L)) (some (.fn (.func 98) [] [(.ptr 0 0)])) (N (N L vv L) none L)) none v1j),(N L oj L),6⟩
def q20:Way S:=⟨.ret,⟨v1d,(N L oj (N L none (N (N (N L od L) od L) none L))),38⟩,[.int,.int,.int,(.st 19),(.st 19)]⟩
def q21:Way S:=⟨(.exit 0),⟨L,(N L oj L),7⟩,[.int]⟩
def q22:LE S:=⟨q1A,q1Z,[.int,(.lst (.st 19)),.int,.int],[q20,q21]⟩
def q23 (x:tqS):tqF->tqF:=Sum.elim (fun y0=>(.inl (y0.1,y0.2.1,y0.u2,y0.u3,y0.v4))) (fun y1=>(.inr y1))
def q24 {R:Type} (x:tqS) (k:tqF->Option R):Option R:=(Wp x.2.1 x.u2 (x.1,x.v3)).bind (Sum.elim (fun y0=>k (.inl (y0.1,y0.2.1,y0.u2,y0.u3,y0.v4))) (fun y1=>k (.inr y1)))
def q25 (x:tqS) (v:(Int×Int)):tqS:=(v.1,x.2.1,x.u2,v.2)
theorem q26 (x:tqS):LE.step X q22 qQ q1P q4 12 x=Xh x.2.1 x.u2 x.1 x.v3 (fun w0 w1=>(Sum.inl (w0,x.2.1,x.u2,w1))) (fun p0 p1 p2 p3 p4=>(Sum.inr (.inl (p0,p1,p2,p3,p4)))) (fun p0=>(Sum.inr (.inr p0))):=by kernel_rfl
theorem q28 {R:Type} (x:tqS) (k:tqF->Option R) (r:R) (h:q24 x k=some r):∃o,Z6b (LE.step X q22 qQ q1P q4 12) x o/\k o=some r:=by
 obtain⟨o,h1,h2⟩:=Z0 h;exact⟨q23 x o,Zk9 (st:=fun(x:tqS)=>X3 x.2.1 x.u2) (prj:=fun x=>(x.1,x.v3)) (emb:=q25) (embO:=q23) (fun x=>(q26 x).trans (by unfold X3 Xh;simp only[Zk0,ZjR,Zk1,Option.map_some,Option.map_none];rfl)) (fun _ _=>rfl) (fun _ _=>rfl) (fun _ _ _=>rfl) (fun _ _ _=>rfl) (fun _=>rfl) (Z29.1 h1),by first|exact h2|(rcases o with o|o<;>exact h2)⟩
def q29 {R:Type}:Z2K S R:=LE.ls X q22 q24 q4
theorem q2a {R:Type}:Z4g X (q29 (R:=R)):=Zkd xok qR (e:=q22) q1Q q5 q28 q5
theorem q2b (x:((List Zq)×Int)):PE.step X q1T qQ q1P q29 12 x=Xs x.1 x.2:=by kernel_rfl
theorem q2c:ZcD X q1T XX:=Zke (ZjE xok qR q1Q q2a 12) fun x _ h=>((q2b x).trans (X1X x).symm).trans h
def q2d {R:Type}:Prs S R:=PE.ps X q1T (fun x q=>(XX x).bind q) q1P
theorem q2e {R:Type}:Z93 X (q2d (R:=R)):=Zk6 (e:=q1T) q2c q1Q
theorem q2g:ZaF X (qQ):=⟨ql,qF,qM,trivial⟩
theorem q2j (x0:CoRecord):Zkf X qQ [(.st 20)] [(.int .i64),(.int .i64),(.int .i64)] q2d q4 12 46 (x0,())=X2a x0:=by kernel_rfl
def q2k:F7 S:=⟨[(.st 20)],[(.int .i64),(.int .i64),(.int .i64)],fun xs=>X48 xs.1⟩
theorem q2l:Zau X 46 q2k:=Zkc (Zkb xok q2g q2e q5 12 46) fun xs _ h=>((q2j xs.1).trans (X4U xs.1).symm).trans h
def q2m:StT S:=⟨(N (N L (some (.fn (.func 102) [] [(.ptr 0 0)])) L) vw L),(N L ob L),1⟩
def q2o:PE S:=⟨101,2,q2m,[(.lst (.st 21)),(.st 20)],[qO]⟩
def q2p:List (Nat×F7 S):=[(46,q2k),(97,qL)]
theorem q2q:ZaF X q2p:=⟨q2l,qM,trivial⟩
def q2t:Key:=⟨[101],101,none,[0,0,1,0,1],0,6⟩
def q2u:StT S:=⟨(N (N (N L none (N L vy L)) (some (.fn (.func 102) [] [(.ptr 0 0)])) (N (N L vw L) none L)) none v1j),(N L ob L),6⟩
def q2v:Way S:=⟨.ret,⟨v1d,(N L ob (N L none (N (N (N L oe L) oe L) none L))),30⟩,[.int,.int,(.st 20),(.st 21),(.st 21)]⟩
def q2x:LE S:=⟨q2t,q2u,[.int,(.lst (.st 21)),.int,(.st 20)],[q2v,q1f]⟩
def q2y (x:tqL):((Int×Int×Zr×Zr)⊕Unit)->tqz:=Sum.elim (fun y0=>(.inl (y0.1,y0.2.1,x.v3,y0.u2,y0.v3))) (fun y1=>(.inr x.v3))
def q2z {R:Type} (x:tqL) (k:tqz->Option R):Option R:=(Ws x.2.1 x.u2 x.v3 x.1).bind (Sum.elim (fun y0=>k (.inl (y0.1,y0.2.1,x.v3,y0.u2,y0.v3))) (fun y1=>k (.inr x.v3)))
def q2A (x:tqL) (v:Int):tqL:=(v,x.2.1,x.u2,x.v3)
theorem q2B (x:tqL):LE.step X q2x q2p q2d q4 12 x=Xj x.2.1 x.u2 x.v3 x.1 (fun w0=>(Sum.inl (w0,x.2.1,x.u2,x.v3))) (fun p0 p1 p2 p3=>(Sum.inr (.inl (p0,p1,x.v3,p2,p3)))) (Sum.inr (.inr x.v3)):=by kernel_rfl
theorem q2D {R:Type} (x:tqL) (k:tqz->Option R) (r:R) (h:q2z x k=some r):∃o,Z6b (LE.step X q2x q2p q2d q4 12) x o/\k o=some r:=by
 obtain⟨o,h1,h2⟩:=Z0 h;exact⟨q2y x o,Zk9 (st:=fun(x:tqL)=>Xp x.2.1 x.u2 x.v3) (prj:=fun x=>x.1) (emb:=q2A) (embO:=q2y) (fun x=>(q2B x).trans (by unfold Xp Xj;simp only[Zk0,ZjR,Zk1,Option.map_some,Option.map_none];rfl)) (fun _ _=>rfl) (fun _ _=>rfl) (fun _ _ _=>rfl) (fun _ _ _=>rfl) (fun _=>rfl) (Z29.1 h1),by first|exact h2|(rcases o with o|o<;>exact h2)⟩
def q2E {R:Type}:Z2K S R:=LE.ls X q2x q2z q4
theorem q2F {R:Type}:Z4g X (q2E (R:=R)):=Zkd xok q2q (e:=q2x) q2e q5 q2D q5
theorem q2G (x:((List Zr)×CoRecord)):PE.step X q2o q2p q2d q2E 12 x=XD x.1 x.2:=by kernel_rfl
theorem q2H:ZcD X q2o W4:=Zke (ZjE xok q2q q2e q2F 12) fun x _ h=>((q2G x).trans (X2e x).symm).trans h
def q2I {R:Type}:Prs S R:=PE.ps X q2o (fun x q=>(W4 x).bind q) q2d
theorem q2J {R:Type}:Z93 X (q2I (R:=R)):=Zk6 (e:=q2o) q2H q2e
theorem q2L:ZaF X (q2p):=⟨q2l,qM,trivial⟩
theorem q2O (x0:CoRecord) (x1:List Zr):Zkf X q2p [(.st 20),(.sl (.st 21))] [(.int .i64),(.int .i64)] q2I q4 12 48 (x0,x1,())=WZ x0 x1:=by kernel_rfl
def q2P:F7 S:=⟨[(.st 20),(.sl (.st 21))],[(.int .i64),(.int .i64)],fun xs=>X2V xs.1 xs.2.1⟩
theorem q2Q:Zau X 48 q2P:=Zkc (Zkb xok q2L q2J q5 12 48) fun xs _ h=>((q2O xs.1 xs.2.1).trans (X3W xs.1 xs.2.1).symm).trans h
def q2R:List (Nat×F7 S):=[(48,q2P)]
theorem q2S:ZaF X (q2R):=⟨q2Q,trivial⟩
theorem q2V (x0:CoRecord) (x1:List Zr):Zkf X q2R [(.st 20),(.sl (.st 21))] [(.st 22),(.int .i64)] q2I q4 12 58 (x0,x1,())=X2d x0 x1:=by kernel_rfl
def q2W:F7 S:=⟨[(.st 20),(.sl (.st 21))],[(.st 22),(.int .i64)],fun xs=>X3E xs.1 xs.2.1⟩
theorem q2X:Zau X 58 q2W:=Zkc (Zkb xok q2S q2J q5 12 58) fun xs _ h=>((q2V xs.1 xs.2.1).trans (X50 xs.1 xs.2.1).symm).trans h
theorem q32 (x0:Y2):Zkf X q2 [(.st 5)] [.bool] q2I q4 12 153 (x0,())=XZ x0:=by kernel_rfl
def q33:F7 S:=⟨[(.st 5)],[.bool],fun xs=>X26 xs.1⟩
theorem q34:Zau X 153 q33:=Zkc (Zkb xok q3 q2J q5 12 153) fun xs _ h=>((q32 xs.1).trans (X2L xs.1).symm).trans h
def q35:List (Nat×F7 S):=[(153,q33)]
theorem q36:ZaF X (q35):=⟨q34,trivial⟩
def q39:Key:=⟨[127],127,none,[0,0,1,1,1,0,0,1,1,0,0,1,0,1,1],2,33⟩
def q3a:StT S:=⟨vG,(N (N L o7 L) of (N L o7 L)),33⟩
def q3b:Way S:=⟨(.exit 2),⟨v10,(N (N L o7 L) of (N L o7 L)),34⟩,[.int,.int,.int,(.lst (.st 25)),(.arr (.st 5)),(.st 22),(.arr (.st 5))]⟩
def q3c:LE S:=⟨q39,q3a,[.int,.int,.int,.int,.int,.int,(.lst (.st 25)),(.lst (.st 25)),(.arr (.st 5)),(.st 22),(.arr (.st 5))],[q3b]⟩
def q3d (x:tqc):(Nat->Y2)->tqk:=fun y0=>(x.2.1,x.u3,x.u5,x.u6,y0,x.u9,x.v10)
def q3e {R:Type} (x:tqc) (k:tqk->Option R):Option R:=(Wl x.1 x.2.1 x.u2 x.u3 x.u5 x.u6 x.u7 x.u9 x.v10 (x.u4,x.u8)).bind (fun y0=>k (x.2.1,x.u3,x.u5,x.u6,y0,x.u9,x.v10))
def q3f (x:tqc) (v:(Int×(Nat->Y2))):tqc:=(x.1,x.2.1,x.u2,x.u3,v.1,x.u5,x.u6,x.u7,v.2,x.u9,x.v10)
theorem q3g (x:tqc):LE.step X q3c q35 q2I q4 12 x=X7 x.1 x.2.1 x.u2 x.u3 x.u5 x.u6 x.u7 x.u9 x.v10 x.u4 x.u8 (fun w0 w1=>(Sum.inl (x.1,x.2.1,x.u2,x.u3,w0,x.u5,x.u6,x.u7,w1,x.u9,x.v10))) (fun p0=>(Sum.inr (x.2.1,x.u3,x.u5,x.u6,p0,x.u9,x.v10))):=by kernel_rfl
theorem q3i {R:Type} (x:tqc) (k:tqk->Option R) (r:R) (h:q3e x k=some r):∃o,Z6b (LE.step X q3c q35 q2I q4 12) x o/\k o=some r:=by
 obtain⟨o,h1,h2⟩:=Z0 h;exact⟨q3d x o,Zk9 (st:=fun(x:tqc)=>Xu x.1 x.2.1 x.u2 x.u3 x.u5 x.u6 x.u7 x.u9 x.v10) (prj:=fun x=>(x.u4,x.u8)) (emb:=q3f) (embO:=q3d) (fun x=>(q3g x).trans (by unfold Xu X7;simp only[Zk0,ZjR,Zk1,Option.map_some,Option.map_none];rfl)) (fun _ _=>rfl) (fun _ _=>rfl) (fun _ _ _=>rfl) (fun _ _ _=>rfl) (fun _=>rfl) (Z29.1 h1),by first|exact h2|(rcases o with o<;>exact h2)⟩
def q3j {R:Type}:Z2K S R:=LE.ls X q3c q3e q4
theorem q3k {R:Type}:Z4g X (q3j (R:=R)):=Zkd xok q36 (e:=q3c) q2J q5 q3i q5
def q3l:Key:=⟨[127],127,none,[0,0,1,1,1,0,0,1,1,0,0,1,0,1,1],2,19⟩
def q3m:StT S:=⟨vG,(N (N L o7 L) of (N L o7 L)),19⟩
def q3n:Way S:=⟨(.exit 2),⟨v10,(N (N L o7 L) of (N L o7 L)),20⟩,[.int,.int,.int,(.lst (.st 25)),(.arr (.st 5)),(.st 22),(.arr (.st 5))]⟩
def q3o:LE S:=⟨q3l,q3m,[.int,.int,.int,.int,.int,.int,(.lst (.st 25)),(.lst (.st 25)),(.arr (.st 5)),(.st 22),(.arr (.st 5))],[q3n]⟩
def q3q {R:Type} (x:tqc) (k:tqk->Option R):Option R:=(X1a x.1 x.2.1 x.u2 x.u3 x.u5 x.u6 x.u7 x.u9 x.v10 (x.u4,x.u8)).bind (fun y0=>k (x.2.1,x.u3,x.u5,x.u6,y0,x.u9,x.v10))
theorem q3s (x:tqc):LE.step X q3o q35 q2I q3j 12 x=WX x.1 x.2.1 x.u2 x.u3 x.u5 x.u6 x.u7 x.u9 x.v10 x.u4 x.u8 (fun w0 w1=>(Sum.inl (x.1,x.2.1,x.u2,x.u3,w0,x.u5,x.u6,x.u7,w1,x.u9,x.v10))) (fun p0=>(Sum.inr (x.2.1,x.u3,x.u5,x.u6,p0,x.u9,x.v10))):=by kernel_rfl
theorem q3u {R:Type} (x:tqc) (k:tqk->Option R) (r:R) (h:q3q x k=some r):∃o,Z6b (LE.step X q3o q35 q2I q3j 12) x o/\k o=some r:=by
 obtain⟨o,h1,h2⟩:=Z0 h;exact⟨q3d x o,Zk9 (st:=fun(x:tqc)=>X1m x.1 x.2.1 x.u2 x.u3 x.u5 x.u6 x.u7 x.u9 x.v10) (prj:=fun x=>(x.u4,x.u8)) (emb:=q3f) (embO:=q3d) (fun x=>(q3s x).trans (by unfold X1m WX X7;simp only[Zk0,ZjR,Zk1,Option.map_some,Option.map_none];rfl)) (fun _ _=>rfl) (fun _ _=>rfl) (fun _ _ _=>rfl) (fun _ _ _=>rfl) (fun _=>rfl) (Z29.1 h1),by first|exact h2|(rcases o with o<;>exact h2)⟩
def q3v {R:Type}:Z2K S R:=LE.ls X q3o q3q q3j
theorem q3w {R:Type}:Z4g X (q3v (R:=R)):=Zkd xok q36 (e:=q3o) q2J q3k q3u q3k
def q3x:Key:=⟨[127],127,none,[0,0,1,0,1,1],0,11⟩
def q3y:StT S:=⟨v10,(N (N L o7 L) of (N L o7 L)),11⟩
def q3z:Way S:=⟨(.exit 0),⟨(N L none (N v1h vx (N L (some (.ptr 2 0)) L))),(N (N L o7 L) of (N L o7 L)),12⟩,[.int,(.lst (.st 25)),(.arr (.st 5)),(.st 22),(.arr (.st 5))]⟩
def q3A:LE S:=⟨q3x,q3y,[.int,.int,.int,(.lst (.st 25)),(.arr (.st 5)),(.st 22),(.arr (.st 5))],[q3z]⟩
def q3B (x:tqk):(Nat->Y2)->tqo:=fun y0=>(x.2.1,x.u3,y0,x.u5,x.v6)
def q3C {R:Type} (x:tqk) (k:tqo->Option R):Option R:=(Wk x.1 x.2.1 x.u3 x.u5 x.v6 (x.u2,x.u4)).bind (fun y0=>k (x.2.1,x.u3,y0,x.u5,x.v6))
def q3D (x:tqk) (v:(Int×(Nat->Y2))):tqk:=(x.1,x.2.1,v.1,x.u3,v.2,x.u5,x.v6)
theorem q3E (x:tqk):LE.step X q3A q35 q2I q3v 12 x=XH x.1 x.2.1 x.u3 x.u5 x.v6 x.u2 x.u4 (fun w0 w1=>(Sum.inl (x.1,x.2.1,w0,x.u3,w1,x.u5,x.v6))) (fun p0=>(Sum.inr (x.2.1,x.u3,p0,x.u5,x.v6))):=by kernel_rfl
theorem q3G {R:Type} (x:tqk) (k:tqo->Option R) (r:R) (h:q3C x k=some r):∃o,Z6b (LE.step X q3A q35 q2I q3v 12) x o/\k o=some r:=by
 obtain⟨o,h1,h2⟩:=Z0 h;exact⟨q3B x o,Zk9 (st:=fun(x:tqk)=>Xt x.1 x.2.1 x.u3 x.u5 x.v6) (prj:=fun x=>(x.u2,x.u4)) (emb:=q3D) (embO:=q3B) (fun x=>(q3E x).trans (by unfold Xt XH;simp only[Zk0,ZjR,Zk1,Option.map_some,Option.map_none];rfl)) (fun _ _=>rfl) (fun _ _=>rfl) (fun _ _ _=>rfl) (fun _ _ _=>rfl) (fun _=>rfl) (Z29.1 h1),by first|exact h2|(rcases o with o<;>exact h2)⟩
def q3H {R:Type}:Z2K S R:=LE.ls X q3A q3C q3v
theorem q3I {R:Type}:Z4g X (q3H (R:=R)):=Zkd xok q36 (e:=q3A) q2J q3w q3G q3w
def q3J:Key:=⟨[127],127,none,[0,0,1,1,0,0,1,0,0,1,0,1,1,1],6,38⟩
def q3K:StT S:=⟨vJ,(N (N L o7 L) of (N L o7 L)),38⟩
def q3L:Way S:=⟨(.exit 6),⟨v13,(N (N L o7 L) of (N L o7 L)),39⟩,[.int,.int,(.lst (.st 25)),(.arr (.st 5)),(.st 22),(.arr (.st 5))]⟩
def q3M:LE S:=⟨q3J,q3K,[(.lst (.st 25)),.int,.int,.int,.int,(.lst (.st 25)),(.arr (.st 5)),(.st 22),(.arr (.st 5))],[q3L]⟩
def q3N (x:tqf):(Nat->Y2)->tqm:=fun y0=>(x.u2,x.u4,x.u5,y0,x.u7,x.v8)
def q3O {R:Type} (x:tqf) (k:tqm->Option R):Option R:=(Wn x.1 x.u2 x.u3 x.u4 x.u5 x.u7 x.v8 (x.2.1,x.u6)).bind (fun y0=>k (x.u2,x.u4,x.u5,y0,x.u7,x.v8))
def q3P (x:tqf) (v:(Int×(Nat->Y2))):tqf:=(x.1,v.1,x.u2,x.u3,x.u4,x.u5,v.2,x.u7,x.v8)
theorem q3Q (x:tqf):LE.step X q3M q35 q2I q3H 12 x=X8 x.1 x.u2 x.u3 x.u4 x.u5 x.u7 x.v8 x.2.1 x.u6 (fun w0 w1=>(Sum.inl (x.1,w0,x.u2,x.u3,x.u4,x.u5,w1,x.u7,x.v8))) (fun p0=>(Sum.inr (x.u2,x.u4,x.u5,p0,x.u7,x.v8))):=by kernel_rfl
theorem q3S {R:Type} (x:tqf) (k:tqm->Option R) (r:R) (h:q3O x k=some r):∃o,Z6b (LE.step X q3M q35 q2I q3H 12) x o/\k o=some r:=by
 obtain⟨o,h1,h2⟩:=Z0 h;exact⟨q3N x o,Zk9 (st:=fun(x:tqf)=>Xw x.1 x.u2 x.u3 x.u4 x.u5 x.u7 x.v8) (prj:=fun x=>(x.2.1,x.u6)) (emb:=q3P) (embO:=q3N) (fun x=>(q3Q x).trans (by unfold Xw X8;simp only[Zk0,ZjR,Zk1,Option.map_some,Option.map_none];rfl)) (fun _ _=>rfl) (fun _ _=>rfl) (fun _ _ _=>rfl) (fun _ _ _=>rfl) (fun _=>rfl) (Z29.1 h1),by first|exact h2|(rcases o with o<;>exact h2)⟩
def q3T {R:Type}:Z2K S R:=LE.ls X q3M q3O q3H
theorem q3U {R:Type}:Z4g X (q3T (R:=R)):=Zkd xok q36 (e:=q3M) q2J q3I q3S q3I
def q3V:Key:=⟨[127],127,none,[0,0,1,1,0,0,1,0,0,1,0,1,1,1],6,24⟩
def q3W:StT S:=⟨vJ,(N (N L o7 L) of (N L o7 L)),24⟩
def q3X:Way S:=⟨(.exit 6),⟨v13,(N (N L o7 L) of (N L o7 L)),25⟩,[.int,.int,(.lst (.st 25)),(.arr (.st 5)),(.st 22),(.arr (.st 5))]⟩
def q3Y:LE S:=⟨q3V,q3W,[(.lst (.st 25)),.int,.int,.int,.int,(.lst (.st 25)),(.arr (.st 5)),(.st 22),(.arr (.st 5))],[q3X]⟩
def q40 {R:Type} (x:tqf) (k:tqm->Option R):Option R:=(X1b x.1 x.u2 x.u3 x.u4 x.u5 x.u7 x.v8 (x.2.1,x.u6)).bind (fun y0=>k (x.u2,x.u4,x.u5,y0,x.u7,x.v8))
theorem q42 (x:tqf):LE.step X q3Y q35 q2I q3T 12 x=WY x.1 x.u2 x.u3 x.u4 x.u5 x.u7 x.v8 x.2.1 x.u6 (fun w0 w1=>(Sum.inl (x.1,w0,x.u2,x.u3,x.u4,x.u5,w1,x.u7,x.v8))) (fun p0=>(Sum.inr (x.u2,x.u4,x.u5,p0,x.u7,x.v8))):=by kernel_rfl
theorem q44 {R:Type} (x:tqf) (k:tqm->Option R) (r:R) (h:q40 x k=some r):∃o,Z6b (LE.step X q3Y q35 q2I q3T 12) x o/\k o=some r:=by
 obtain⟨o,h1,h2⟩:=Z0 h;exact⟨q3N x o,Zk9 (st:=fun(x:tqf)=>X1n x.1 x.u2 x.u3 x.u4 x.u5 x.u7 x.v8) (prj:=fun x=>(x.2.1,x.u6)) (emb:=q3P) (embO:=q3N) (fun x=>(q42 x).trans (by unfold X1n WY X8;simp only[Zk0,ZjR,Zk1,Option.map_some,Option.map_none];rfl)) (fun _ _=>rfl) (fun _ _=>rfl) (fun _ _ _=>rfl) (fun _ _ _=>rfl) (fun _=>rfl) (Z29.1 h1),by first|exact h2|(rcases o with o<;>exact h2)⟩
def q45 {R:Type}:Z2K S R:=LE.ls X q3Y q40 q3T
theorem q46 {R:Type}:Z4g X (q45 (R:=R)):=Zkd xok q36 (e:=q3Y) q2J q3U q44 q3U
def q47:Key:=⟨[127],127,none,[0,0,1,0,1,1,1],4,15⟩
def q48:StT S:=⟨v13,(N (N L o7 L) of (N L o7 L)),15⟩
def q49:Way S:=⟨(.exit 4),⟨(N L none (N v1h none (N L (some (.ptr 2 0)) L))),(N (N L o7 L) of (N L o7 L)),17⟩,[.int,(.arr (.st 5)),(.st 22),(.arr (.st 5))]⟩
def q4a:LE S:=⟨q47,q48,[.int,.int,(.lst (.st 25)),(.arr (.st 5)),(.st 22),(.arr (.st 5))],[q49]⟩
def q4b (x:tqm):(Nat->Y2)->tqB:=fun y0=>(x.1,y0,x.u4,x.v5)
def q4c {R:Type} (x:tqm) (k:tqB->Option R):Option R:=(Wm x.1 x.u2 x.u4 x.v5 (x.2.1,x.u3)).bind (fun y0=>k (x.1,y0,x.u4,x.v5))
def q4d (x:tqm) (v:(Int×(Nat->Y2))):tqm:=(x.1,v.1,x.u2,v.2,x.u4,x.v5)
theorem q4e (x:tqm):LE.step X q4a q35 q2I q45 12 x=XI x.1 x.u2 x.u4 x.v5 x.2.1 x.u3 (fun w0 w1=>(Sum.inl (x.1,w0,x.u2,w1,x.u4,x.v5))) (fun p0=>(Sum.inr (x.1,p0,x.u4,x.v5))):=by kernel_rfl
theorem q4g {R:Type} (x:tqm) (k:tqB->Option R) (r:R) (h:q4c x k=some r):∃o,Z6b (LE.step X q4a q35 q2I q45 12) x o/\k o=some r:=by
 obtain⟨o,h1,h2⟩:=Z0 h;exact⟨q4b x o,Zk9 (st:=fun(x:tqm)=>Xv x.1 x.u2 x.u4 x.v5) (prj:=fun x=>(x.2.1,x.u3)) (emb:=q4d) (embO:=q4b) (fun x=>(q4e x).trans (by unfold Xv XI;simp only[Zk0,ZjR,Zk1,Option.map_some,Option.map_none];rfl)) (fun _ _=>rfl) (fun _ _=>rfl) (fun _ _ _=>rfl) (fun _ _ _=>rfl) (fun _=>rfl) (Z29.1 h1),by first|exact h2|(rcases o with o<;>exact h2)⟩
def q4h {R:Type}:Z2K S R:=LE.ls X q4a q4c q45
theorem q4i {R:Type}:Z4g X (q4h (R:=R)):=Zkd xok q36 (e:=q4a) q2J q46 q4g q46
def q4j:Key:=⟨[182,2,1,152,3,25,127],182,none,[0,0,1,0,1],0,34⟩
def q4k:StT S:=⟨(N (N (N (N L vy L) none L) (some (.fn (.func 153) [] [])) L) (some (.sl (.st 5) [])) v1i),L,34⟩
def q4l:Way S:=⟨.ret,⟨v1j,L,45⟩,[.int]⟩
def q4m:Way S:=⟨(.exit 0),⟨L,L,35⟩,[]⟩
def q4n:LE S:=⟨q4j,q4k,[.int,(.lst (.st 5)),.int],[q4l,q4m]⟩
def q4o (x:tqU):(Int⊕Unit)->(Int⊕Unit):=Sum.elim (fun y0=>(.inl y0)) (fun y1=>(.inr ()))
def q4p {R:Type} (x:tqU) (k:(Int⊕Unit)->Option R):Option R:=(X1c x.1 x.2.1 x.v2).bind (Sum.elim (fun y0=>k (.inl y0)) (fun y1=>k (.inr ())))
def q4q (x:tqU) (v:Int):tqU:=(x.1,x.2.1,v)
theorem q4r (x:tqU):LE.step X q4n q35 q2I q4h 12 x=XJ x.1 x.2.1 x.v2 (fun w0=>(Sum.inl (x.1,x.2.1,w0))) (fun p0=>(Sum.inr (.inl p0))) (Sum.inr (.inr ())):=by kernel_rfl
theorem q4t {R:Type} (x:tqU) (k:(Int⊕Unit)->Option R) (r:R) (h:q4p x k=some r):∃o,Z6b (LE.step X q4n q35 q2I q4h 12) x o/\k o=some r:=by
 obtain⟨o,h1,h2⟩:=Z0 h;exact⟨q4o x o,Zk9 (st:=fun(x:tqU)=>Xx x.1 x.2.1) (prj:=fun x=>x.v2) (emb:=q4q) (embO:=q4o) (fun x=>(q4r x).trans (by unfold Xx XJ;simp only[Zk0,ZjR,Zk1,Option.map_some,Option.map_none];rfl)) (fun _ _=>rfl) (fun _ _=>rfl) (fun _ _ _=>rfl) (fun _ _ _=>rfl) (fun _=>rfl) (Z29.1 h1),by first|exact h2|(rcases o with o|o<;>exact h2)⟩
def q4u {R:Type}:Z2K S R:=LE.ls X q4n q4p q4h
theorem q4v {R:Type}:Z4g X (q4u (R:=R)):=Zkd xok q36 (e:=q4n) q2J q4i q4t q4i
theorem q4w (x0:Zc) (x1:Nat->Y2) (x2:List Zb):Zkf X q35 [(.st 22),(.arr 10 (.st 5)),(.sl (.st 25))] [(.arr 10 (.st 5)),.bool] q2I q4u 12 127 (x0,x1,x2,())=W9 x0 x1 x2:=by kernel_rfl
def q4x:F7 S:=⟨[(.st 22),(.arr 10 (.st 5)),(.sl (.st 25))],[(.arr 10 (.st 5)),.bool],fun xs=>Wi xs.1 xs.2.1 xs.u2⟩
theorem q4y:Zau X 127 q4x:=Zkc (Zkb xok q36 q2J q4v 12 127) fun xs _ h=>((q4w xs.1 xs.2.1 xs.u2).trans (X39 xs.1 xs.2.1 xs.u2).symm).trans h
def q4z:StT S:=⟨(N v15 vy (N (N L (some (.ptr 4 0)) L) vx L)),o17,6⟩
def q4A:Way S:=⟨.ret,⟨(N L vz L),o17,6⟩,[.bool,(.st 22),.bool,(.st 22),(.st 22)]⟩
def q4B:Way S:=⟨.ret,⟨(N L vz L),o18,6⟩,[.bool,(.st 22),.bool,(.st 22),(.st 22)]⟩
def q4C:PE S:=⟨126,6,q4z,[(.arr (.st 5)),.int,(.lst (.st 25)),(.st 22),.bool,(.st 22),(.st 22)],[q4A,q4B]⟩
def q4D:List (Nat×F7 S):=[(127,q4x)]
theorem q4E:ZaF X q4D:=⟨q4y,trivial⟩
abbrev q4F (ih:tqh->Option tqb) {R:Type}:Z2K S R:=ZiZ
theorem q4G (ih:tqh->Option tqb) (hih:ZcD X q4C ih) {R:Type}:Z4g X (q4F ih (R:=R)):=ZjA X
def q4H:Key:=⟨[154,0,126],154,none,[0,0,1,1],0,69⟩
def q4I:StT S:=⟨vO,oB,70⟩
def q4J:Way S:=⟨.ret,⟨L,(N oP o5 oT),166⟩,[(.arr (.st 5)),(.st 25),(.st 22),.bool,(.arr (.st 5)),(.arr (.st 5)),.bool,.int,(.st 22),(.lst (.st 19)),(.lst (.st 25)),(.st 25),(.lst (.st 19)),(.st 21),(.lst (.st 25)),(.st 22),(.st 22),(.st 19),.int,(.lst (.st 25)),.int,.bool,(.arr (.st 5)),.bool,.int,.bool,(.lst (.st 25))]⟩
def q4K:Way S:=⟨.ret,⟨L,(N oQ o5 oT),166⟩,[(.arr (.st 5)),(.st 25),(.st 22),.bool,(.arr (.st 5)),(.arr (.st 5)),.bool,.int,(.st 22),(.lst (.st 19)),(.lst (.st 25)),(.st 25),(.lst (.st 19)),(.st 21),(.lst (.st 25)),(.st 22),(.st 22),(.st 19),.int,(.lst (.st 25)),.int,.bool,(.arr (.st 5)),.bool,.int,.bool,(.lst (.st 25))]⟩
def q4L:Way S:=⟨.ret,⟨L,oC,159⟩,[(.arr (.st 5)),(.st 25),(.st 22),.bool,(.arr (.st 5)),(.arr (.st 5)),.bool,.int,(.st 22),(.lst (.st 19)),(.st 25),(.lst (.st 19)),(.st 21),(.lst (.st 25)),(.st 22),(.st 22),(.st 19),.int,.int,.bool,(.arr (.st 5)),.bool,.int,.bool,(.lst (.st 25))]⟩
def q4M:Way S:=⟨.ret,⟨L,oD,159⟩,[(.arr (.st 5)),(.st 25),(.st 22),.bool,(.arr (.st 5)),(.arr (.st 5)),.bool,.int,(.st 22),(.lst (.st 19)),(.st 25),(.lst (.st 19)),(.st 21),(.lst (.st 25)),(.st 22),(.st 22),(.st 19),.int,.int,.bool,(.arr (.st 5)),.bool,.int,.bool,(.lst (.st 25))]⟩
def q4N:Way S:=⟨.ret,⟨L,(N oH o5 oW),151⟩,[(.arr (.st 5)),(.st 25),(.st 22),(.lst (.st 25)),.bool,(.arr (.st 5)),(.arr (.st 5)),.bool,.int,(.st 22),(.lst (.st 19)),(.st 25),(.lst (.st 19)),(.st 21),(.lst (.st 25)),(.st 22),(.st 22),(.st 19),.int,.int,(.lst (.st 25)),.bool,(.arr (.st 5)),.bool,.int,.bool,(.lst (.st 25))]⟩
def q4O:Way S:=⟨.ret,⟨L,(N oI o5 oW),151⟩,[(.arr (.st 5)),(.st 25),(.st 22),(.lst (.st 25)),.bool,(.arr (.st 5)),(.arr (.st 5)),.bool,.int,(.st 22),(.lst (.st 19)),(.st 25),(.lst (.st 19)),(.st 21),(.lst (.st 25)),(.st 22),(.st 22),(.st 19),.int,.int,(.lst (.st 25)),.bool,(.arr (.st 5)),.bool,.int,.bool,(.lst (.st 25))]⟩
def q4P:Way S:=⟨.ret,⟨L,oC,144⟩,[(.arr (.st 5)),(.st 25),(.st 22),.bool,(.arr (.st 5)),(.arr (.st 5)),.bool,.int,(.st 22),(.lst (.st 19)),(.st 25),(.lst (.st 19)),(.st 21),(.lst (.st 25)),(.st 22),(.st 22),(.st 19),.int,.int,.bool,(.arr (.st 5)),.bool,.int,.bool,(.lst (.st 25))]⟩
def q4Q:Way S:=⟨.ret,⟨L,oD,144⟩,[(.arr (.st 5)),(.st 25),(.st 22),.bool,(.arr (.st 5)),(.arr (.st 5)),.bool,.int,(.st 22),(.lst (.st 19)),(.st 25),(.lst (.st 19)),(.st 21),(.lst (.st 25)),(.st 22),(.st 22),(.st 19),.int,.int,.bool,(.arr (.st 5)),.bool,.int,.bool,(.lst (.st 25))]⟩
def q4R:Way S:=⟨.ret,⟨L,(N oK o5 oM),152⟩,[(.lst (.st 25)),(.arr (.st 5)),(.st 25),(.st 22),.bool,(.arr (.st 5)),(.arr (.st 5)),.bool,.int,(.st 22),(.lst (.st 19)),(.st 25),(.lst (.st 19)),(.st 21),(.lst (.st 25)),(.st 22),(.lst (.st 25)),(.st 22),(.st 19),.int,.int,.bool,(.arr (.st 5)),.bool,.int,.bool,(.lst (.st 25))]⟩
def q4S:Way S:=⟨.ret,⟨L,(N oL o5 oM),152⟩,[(.lst (.st 25)),(.arr (.st 5)),(.st 25),(.st 22),.bool,(.arr (.st 5)),(.arr (.st 5)),.bool,.int,(.st 22),(.lst (.st 19)),(.st 25),(.lst (.st 19)),(.st 21),(.lst (.st 25)),(.st 22),(.lst (.st 25)),(.st 22),(.st 19),.int,.int,.bool,(.arr (.st 5)),.bool,.int,.bool,(.lst (.st 25))]⟩
def q4T:Way S:=⟨.ret,⟨L,oC,145⟩,[(.arr (.st 5)),(.st 25),(.st 22),.bool,(.arr (.st 5)),(.arr (.st 5)),.bool,.int,(.st 22),(.lst (.st 19)),(.st 25),(.lst (.st 19)),(.st 21),(.lst (.st 25)),(.st 22),(.st 22),(.st 19),.int,.int,.bool,(.arr (.st 5)),.bool,.int,.bool,(.lst (.st 25))]⟩
def q4U:Way S:=⟨.ret,⟨L,oD,145⟩,[(.arr (.st 5)),(.st 25),(.st 22),.bool,(.arr (.st 5)),(.arr (.st 5)),.bool,.int,(.st 22),(.lst (.st 19)),(.st 25),(.lst (.st 19)),(.st 21),(.lst (.st 25)),(.st 22),(.st 22),(.st 19),.int,.int,.bool,(.arr (.st 5)),.bool,.int,.bool,(.lst (.st 25))]⟩
def q4V:Way S:=⟨.ret,⟨L,(N oR o5 oY),137⟩,[(.arr (.st 5)),(.st 25),(.st 22),.bool,(.arr (.st 5)),(.arr (.st 5)),.bool,.int,(.st 22),(.lst (.st 19)),(.st 25),(.lst (.st 25)),(.lst (.st 25)),(.lst (.st 19)),(.st 21),(.lst (.st 25)),(.st 22),(.st 22),(.st 19),.int,.int,.bool,(.arr (.st 5)),.bool,.int,.bool,(.lst (.st 25))]⟩
def q4W:Way S:=⟨.ret,⟨L,(N oS o5 oY),137⟩,[(.arr (.st 5)),(.st 25),(.st 22),.bool,(.arr (.st 5)),(.arr (.st 5)),.bool,.int,(.st 22),(.lst (.st 19)),(.st 25),(.lst (.st 25)),(.lst (.st 25)),(.lst (.st 19)),(.st 21),(.lst (.st 25)),(.st 22),(.st 22),(.st 19),.int,.int,.bool,(.arr (.st 5)),.bool,.int,.bool,(.lst (.st 25))]⟩
def q4X:Way S:=⟨.ret,⟨L,oC,130⟩,[(.arr (.st 5)),(.st 25),(.st 22),.bool,(.arr (.st 5)),(.arr (.st 5)),.bool,.int,(.st 22),(.lst (.st 19)),(.st 25),(.lst (.st 19)),(.st 21),(.lst (.st 25)),(.st 22),(.st 22),(.st 19),.int,.int,.bool,(.arr (.st 5)),.bool,.int,.bool,(.lst (.st 25))]⟩
def q4Y:Way S:=⟨.ret,⟨L,oD,130⟩,[(.arr (.st 5)),(.st 25),(.st 22),.bool,(.arr (.st 5)),(.arr (.st 5)),.bool,.int,(.st 22),(.lst (.st 19)),(.st 25),(.lst (.st 19)),(.st 21),(.lst (.st 25)),(.st 22),(.st 22),(.st 19),.int,.int,.bool,(.arr (.st 5)),.bool,.int,.bool,(.lst (.st 25))]⟩
def q4Z:Way S:=⟨(.exit 0),⟨L,oB,71⟩,[(.arr (.st 5)),(.st 25),(.st 22),.bool,(.arr (.st 5)),.bool,.int,(.st 22),(.lst (.st 19)),(.lst (.st 19)),(.st 21),(.lst (.st 25)),(.st 22),(.st 22),.int,.int,.bool,(.arr (.st 5)),.bool,.int,.bool,(.lst (.st 25))]⟩
def q50:LE S:=⟨q4H,q4I,[.int,.int,.int,(.arr (.st 5)),(.st 25),(.st 22),.bool,(.arr (.st 5)),.bool,.int,(.st 22),(.lst (.st 19)),(.lst (.st 19)),(.st 21),(.lst (.st 25)),(.st 22),(.st 22),.int,.int,.bool,(.arr (.st 5)),.bool,.int,.bool,(.lst (.st 25))],[q4J,q4K,q4L,q4M,q4N,q4O,q4P,q4Q,q4R,q4S,q4T,q4U,q4V,q4W,q4X,q4Y,q4Z]⟩
def q51 (x:tq3):(tq7⊕tq7⊕tqe⊕tqe⊕tq8⊕tq8⊕tqe⊕tqe⊕tq9⊕tq9⊕tqe⊕tqe⊕tqa⊕tqa⊕tqg⊕tqg⊕(Zb×Zc×Bool×Zc×Zc))->tq0:=Sum.elim (fun y0=>(.inl (x.u3,y0.1,y0.2.1,y0.u2,y0.u3,x.u7,y0.u4,x.u9,y0.u5,x.u11,y0.u6,y0.u7,x.u12,x.u13,x.u14,x.u15,y0.u8,y0.u9,x.u17,y0.v10,x.u18,x.u19,x.u20,x.u21,x.u22,x.u23,x.v24))) (Sum.elim (fun y1=>(.inr (.inl (x.u3,y1.1,y1.2.1,y1.u2,y1.u3,x.u7,y1.u4,x.u9,y1.u5,x.u11,y1.u6,y1.u7,x.u12,x.u13,x.u14,x.u15,y1.u8,y1.u9,x.u17,y1.v10,x.u18,x.u19,x.u20,x.u21,x.u22,x.u23,x.v24)))) (Sum.elim (fun y2=>(.inr (.inr (.inl (x.u3,y2.1,y2.2.1,y2.u2,y2.u3,x.u7,y2.u4,x.u9,y2.u5,x.u11,y2.u6,x.u12,x.u13,x.u14,x.u15,y2.u7,y2.v8,x.u17,x.u18,x.u19,x.u20,x.u21,x.u22,x.u23,x.v24))))) (Sum.elim (fun y3=>(.inr (.inr (.inr (.inl (x.u3,y3.1,y3.2.1,y3.u2,y3.u3,x.u7,y3.u4,x.u9,y3.u5,x.u11,y3.u6,x.u12,x.u13,x.u14,x.u15,y3.u7,y3.v8,x.u17,x.u18,x.u19,x.u20,x.u21,x.u22,x.u23,x.v24)))))) (Sum.elim (fun y4=>(.inr (.inr (.inr (.inr (.inl (x.u3,y4.1,y4.2.1,y4.u2,y4.u3,y4.u4,x.u7,y4.u5,x.u9,y4.u6,x.u11,y4.u7,x.u12,x.u13,x.u14,x.u15,y4.u8,y4.u9,x.u17,x.u18,y4.v10,x.u19,x.u20,x.u21,x.u22,x.u23,x.v24))))))) (Sum.elim (fun y5=>(.inr (.inr (.inr (.inr (.inr (.inl (x.u3,y5.1,y5.2.1,y5.u2,y5.u3,y5.u4,x.u7,y5.u5,x.u9,y5.u6,x.u11,y5.u7,x.u12,x.u13,x.u14,x.u15,y5.u8,y5.u9,x.u17,x.u18,y5.v10,x.u19,x.u20,x.u21,x.u22,x.u23,x.v24)))))))) (Sum.elim (fun y6=>(.inr (.inr (.inr (.inr (.inr (.inr (.inl (x.u3,y6.1,y6.2.1,y6.u2,y6.u3,x.u7,y6.u4,x.u9,y6.u5,x.u11,y6.u6,x.u12,x.u13,x.u14,x.u15,y6.u7,y6.v8,x.u17,x.u18,x.u19,x.u20,x.u21,x.u22,x.u23,x.v24))))))))) (Sum.elim (fun y7=>(.inr (.inr (.inr (.inr (.inr (.inr (.inr (.inl (x.u3,y7.1,y7.2.1,y7.u2,y7.u3,x.u7,y7.u4,x.u9,y7.u5,x.u11,y7.u6,x.u12,x.u13,x.u14,x.u15,y7.u7,y7.v8,x.u17,x.u18,x.u19,x.u20,x.u21,x.u22,x.u23,x.v24)))))))))) (Sum.elim (fun y8=>(.inr (.inr (.inr (.inr (.inr (.inr (.inr (.inr (.inl (y8.1,x.u3,y8.2.1,y8.u2,y8.u3,y8.u4,x.u7,y8.u5,x.u9,y8.u6,x.u11,y8.u7,x.u12,x.u13,x.u14,x.u15,y8.u8,y8.u9,y8.v10,x.u17,x.u18,x.u19,x.u20,x.u21,x.u22,x.u23,x.v24))))))))))) (Sum.elim (fun y9=>(.inr (.inr (.inr (.inr (.inr (.inr (.inr (.inr (.inr (.inl (y9.1,x.u3,y9.2.1,y9.u2,y9.u3,y9.u4,x.u7,y9.u5,x.u9,y9.u6,x.u11,y9.u7,x.u12,x.u13,x.u14,x.u15,y9.u8,y9.u9,y9.v10,x.u17,x.u18,x.u19,x.u20,x.u21,x.u22,x.u23,x.v24)))))))))))) (Sum.elim (fun y10=>(.inr (.inr (.inr (.inr (.inr (.inr (.inr (.inr (.inr (.inr (.inl (x.u3,y10.1,y10.2.1,y10.u2,y10.u3,x.u7,y10.u4,x.u9,y10.u5,x.u11,y10.u6,x.u12,x.u13,x.u14,x.u15,y10.u7,y10.v8,x.u17,x.u18,x.u19,x.u20,x.u21,x.u22,x.u23,x.v24))))))))))))) (Sum.elim (fun y11=>(.inr (.inr (.inr (.inr (.inr (.inr (.inr (.inr (.inr (.inr (.inr (.inl (x.u3,y11.1,y11.2.1,y11.u2,y11.u3,x.u7,y11.u4,x.u9,y11.u5,x.u11,y11.u6,x.u12,x.u13,x.u14,x.u15,y11.u7,y11.v8,x.u17,x.u18,x.u19,x.u20,x.u21,x.u22,x.u23,x.v24)))))))))))))) (Sum.elim (fun y12=>(.inr (.inr (.inr (.inr (.inr (.inr (.inr (.inr (.inr (.inr (.inr (.inr (.inl (x.u3,y12.1,y12.2.1,y12.u2,x.u3,x.u7,y12.u3,x.u9,y12.u4,x.u11,y12.u5,y12.u6,y12.u7,x.u12,x.u13,x.u14,x.u15,y12.u8,y12.v9,x.u17,x.u18,x.u19,x.u20,x.u21,x.u22,x.u23,x.v24))))))))))))))) (Sum.elim (fun y13=>(.inr (.inr (.inr (.inr (.inr (.inr (.inr (.inr (.inr (.inr (.inr (.inr (.inr (.inl (x.u3,y13.1,y13.2.1,y13.u2,x.u3,x.u7,y13.u3,x.u9,y13.u4,x.u11,y13.u5,y13.u6,y13.u7,x.u12,x.u13,x.u14,x.u15,y13.u8,y13.v9,x.u17,x.u18,x.u19,x.u20,x.u21,x.u22,x.u23,x.v24)))))))))))))))) (Sum.elim (fun y14=>(.inr (.inr (.inr (.inr (.inr (.inr (.inr (.inr (.inr (.inr (.inr (.inr (.inr (.inr (.inl (x.u3,y14.1,y14.2.1,y14.u2,x.u3,x.u7,y14.u3,x.u9,y14.u4,x.u11,y14.u5,x.u12,x.u13,x.u14,x.u15,y14.u6,y14.v7,x.u17,x.u18,x.u19,x.u20,x.u21,x.u22,x.u23,x.v24))))))))))))))))) (Sum.elim (fun y15=>(.inr (.inr (.inr (.inr (.inr (.inr (.inr (.inr (.inr (.inr (.inr (.inr (.inr (.inr (.inr (.inl (x.u3,y15.1,y15.2.1,y15.u2,x.u3,x.u7,y15.u3,x.u9,y15.u4,x.u11,y15.u5,x.u12,x.u13,x.u14,x.u15,y15.u6,y15.v7,x.u17,x.u18,x.u19,x.u20,x.u21,x.u22,x.u23,x.v24)))))))))))))))))) (fun y16=>(.inr (.inr (.inr (.inr (.inr (.inr (.inr (.inr (.inr (.inr (.inr (.inr (.inr (.inr (.inr (.inr (x.u3,y16.1,y16.2.1,y16.u2,x.u7,x.u8,x.u9,y16.u3,x.u11,x.u12,x.u13,x.u14,x.u15,y16.v4,x.u17,x.u18,x.u19,x.u20,x.u21,x.u22,x.u23,x.v24)))))))))))))))))))))))))))))))))
def q52 (ih:tqh->Option tqb) {R:Type} (x:tq3) (k:tq0->Option R):Option R:=(XF ih x.1 x.u3 x.u7 x.u8 x.u9 x.u11 x.u12 x.u13 x.u14 x.u15 x.u17 x.u18 x.u19 x.u20 x.u21 x.u22 x.u23 x.v24 (x.2.1,x.u2,x.u4,x.u5,x.u6,x.u10,x.u16)).bind (Sum.elim (fun y0=>k (.inl (x.u3,y0.1,y0.2.1,y0.u2,y0.u3,x.u7,y0.u4,x.u9,y0.u5,x.u11,y0.u6,y0.u7,x.u12,x.u13,x.u14,x.u15,y0.u8,y0.u9,x.u17,y0.v10,x.u18,x.u19,x.u20,x.u21,x.u22,x.u23,x.v24))) (Sum.elim (fun y1=>k (.inr (.inl (x.u3,y1.1,y1.2.1,y1.u2,y1.u3,x.u7,y1.u4,x.u9,y1.u5,x.u11,y1.u6,y1.u7,x.u12,x.u13,x.u14,x.u15,y1.u8,y1.u9,x.u17,y1.v10,x.u18,x.u19,x.u20,x.u21,x.u22,x.u23,x.v24)))) (Sum.elim (fun y2=>k (.inr (.inr (.inl (x.u3,y2.1,y2.2.1,y2.u2,y2.u3,x.u7,y2.u4,x.u9,y2.u5,x.u11,y2.u6,x.u12,x.u13,x.u14,x.u15,y2.u7,y2.v8,x.u17,x.u18,x.u19,x.u20,x.u21,x.u22,x.u23,x.v24))))) (Sum.elim (fun y3=>k (.inr (.inr (.inr (.inl (x.u3,y3.1,y3.2.1,y3.u2,y3.u3,x.u7,y3.u4,x.u9,y3.u5,x.u11,y3.u6,x.u12,x.u13,x.u14,x.u15,y3.u7,y3.v8,x.u17,x.u18,x.u19,x.u20,x.u21,x.u22,x.u23,x.v24)))))) (Sum.elim (fun y4=>k (.inr (.inr (.inr (.inr (.inl (x.u3,y4.1,y4.2.1,y4.u2,y4.u3,y4.u4,x.u7,y4.u5,x.u9,y4.u6,x.u11,y4.u7,x.u12,x.u13,x.u14,x.u15,y4.u8,y4.u9,x.u17,x.u18,y4.v10,x.u19,x.u20,x.u21,x.u22,x.u23,x.v24))))))) (Sum.elim (fun y5=>k (.inr (.inr (.inr (.inr (.inr (.inl (x.u3,y5.1,y5.2.1,y5.u2,y5.u3,y5.u4,x.u7,y5.u5,x.u9,y5.u6,x.u11,y5.u7,x.u12,x.u13,x.u14,x.u15,y5.u8,y5.u9,x.u17,x.u18,y5.v10,x.u19,x.u20,x.u21,x.u22,x.u23,x.v24)))))))) (Sum.elim (fun y6=>k (.inr (.inr (.inr (.inr (.inr (.inr (.inl (x.u3,y6.1,y6.2.1,y6.u2,y6.u3,x.u7,y6.u4,x.u9,y6.u5,x.u11,y6.u6,x.u12,x.u13,x.u14,x.u15,y6.u7,y6.v8,x.u17,x.u18,x.u19,x.u20,x.u21,x.u22,x.u23,x.v24))))))))) (Sum.elim (fun y7=>k (.inr (.inr (.inr (.inr (.inr (.inr (.inr (.inl (x.u3,y7.1,y7.2.1,y7.u2,y7.u3,x.u7,y7.u4,x.u9,y7.u5,x.u11,y7.u6,x.u12,x.u13,x.u14,x.u15,y7.u7,y7.v8,x.u17,x.u18,x.u19,x.u20,x.u21,x.u22,x.u23,x.v24)))))))))) (Sum.elim (fun y8=>k (.inr (.inr (.inr (.inr (.inr (.inr (.inr (.inr (.inl (y8.1,x.u3,y8.2.1,y8.u2,y8.u3,y8.u4,x.u7,y8.u5,x.u9,y8.u6,x.u11,y8.u7,x.u12,x.u13,x.u14,x.u15,y8.u8,y8.u9,y8.v10,x.u17,x.u18,x.u19,x.u20,x.u21,x.u22,x.u23,x.v24))))))))))) (Sum.elim (fun y9=>k (.inr (.inr (.inr (.inr (.inr (.inr (.inr (.inr (.inr (.inl (y9.1,x.u3,y9.2.1,y9.u2,y9.u3,y9.u4,x.u7,y9.u5,x.u9,y9.u6,x.u11,y9.u7,x.u12,x.u13,x.u14,x.u15,y9.u8,y9.u9,y9.v10,x.u17,x.u18,x.u19,x.u20,x.u21,x.u22,x.u23,x.v24)))))))))))) (Sum.elim (fun y10=>k (.inr (.inr (.inr (.inr (.inr (.inr (.inr (.inr (.inr (.inr (.inl (x.u3,y10.1,y10.2.1,y10.u2,y10.u3,x.u7,y10.u4,x.u9,y10.u5,x.u11,y10.u6,x.u12,x.u13,x.u14,x.u15,y10.u7,y10.v8,x.u17,x.u18,x.u19,x.u20,x.u21,x.u22,x.u23,x.v24))))))))))))) (Sum.elim (fun y11=>k (.inr (.inr (.inr (.inr (.inr (.inr (.inr (.inr (.inr (.inr (.inr (.inl (x.u3,y11.1,y11.2.1,y11.u2,y11.u3,x.u7,y11.u4,x.u9,y11.u5,x.u11,y11.u6,x.u12,x.u13,x.u14,x.u15,y11.u7,y11.v8,x.u17,x.u18,x.u19,x.u20,x.u21,x.u22,x.u23,x.v24)))))))))))))) (Sum.elim (fun y12=>k (.inr (.inr (.inr (.inr (.inr (.inr (.inr (.inr (.inr (.inr (.inr (.inr (.inl (x.u3,y12.1,y12.2.1,y12.u2,x.u3,x.u7,y12.u3,x.u9,y12.u4,x.u11,y12.u5,y12.u6,y12.u7,x.u12,x.u13,x.u14,x.u15,y12.u8,y12.v9,x.u17,x.u18,x.u19,x.u20,x.u21,x.u22,x.u23,x.v24))))))))))))))) (Sum.elim (fun y13=>k (.inr (.inr (.inr (.inr (.inr (.inr (.inr (.inr (.inr (.inr (.inr (.inr (.inr (.inl (x.u3,y13.1,y13.2.1,y13.u2,x.u3,x.u7,y13.u3,x.u9,y13.u4,x.u11,y13.u5,y13.u6,y13.u7,x.u12,x.u13,x.u14,x.u15,y13.u8,y13.v9,x.u17,x.u18,x.u19,x.u20,x.u21,x.u22,x.u23,x.v24)))))))))))))))) (Sum.elim (fun y14=>k (.inr (.inr (.inr (.inr (.inr (.inr (.inr (.inr (.inr (.inr (.inr (.inr (.inr (.inr (.inl (x.u3,y14.1,y14.2.1,y14.u2,x.u3,x.u7,y14.u3,x.u9,y14.u4,x.u11,y14.u5,x.u12,x.u13,x.u14,x.u15,y14.u6,y14.v7,x.u17,x.u18,x.u19,x.u20,x.u21,x.u22,x.u23,x.v24))))))))))))))))) (Sum.elim (fun y15=>k (.inr (.inr (.inr (.inr (.inr (.inr (.inr (.inr (.inr (.inr (.inr (.inr (.inr (.inr (.inr (.inl (x.u3,y15.1,y15.2.1,y15.u2,x.u3,x.u7,y15.u3,x.u9,y15.u4,x.u11,y15.u5,x.u12,x.u13,x.u14,x.u15,y15.u6,y15.v7,x.u17,x.u18,x.u19,x.u20,x.u21,x.u22,x.u23,x.v24)))))))))))))))))) (fun y16=>k (.inr (.inr (.inr (.inr (.inr (.inr (.inr (.inr (.inr (.inr (.inr (.inr (.inr (.inr (.inr (.inr (x.u3,y16.1,y16.2.1,y16.u2,x.u7,x.u8,x.u9,y16.u3,x.u11,x.u12,x.u13,x.u14,x.u15,y16.v4,x.u17,x.u18,x.u19,x.u20,x.u21,x.u22,x.u23,x.v24))))))))))))))))))))))))))))))))))
def q53 (x:tq3) (v:(Int×Int×Zb×Zc×Bool×Zc×Zc)):tq3:=(x.1,v.1,v.2.1,x.u3,v.u2,v.u3,v.u4,x.u7,x.u8,x.u9,v.u5,x.u11,x.u12,x.u13,x.u14,x.u15,v.v6,x.u17,x.u18,x.u19,x.u20,x.u21,x.u22,x.u23,x.v24)
theorem q54 (ih:tqh->Option tqb) (x:tq3):LE.step X q50 q4D (PE.ps X q4C (fun x q=>(ih x).bind q) q2I) (q4F ih) 12 x=X0 ih x.1 x.u3 x.u7 x.u8 x.u9 x.u11 x.u12 x.u13 x.u14 x.u15 x.u17 x.u18 x.u19 x.u20 x.u21 x.u22 x.u23 x.v24 x.2.1 x.u2 x.u4 x.u5 x.u6 x.u10 x.u16 (fun w0 w1 w2 w3 w4 w5 w6=>(Sum.inl (x.1,w0,w1,x.u3,w2,w3,w4,x.u7,x.u8,x.u9,w5,x.u11,x.u12,x.u13,x.u14,x.u15,w6,x.u17,x.u18,x.u19,x.u20,x.u21,x.u22,x.u23,x.v24))) (fun p0 p1 p2 p3 p4 p5 p6 p7 p8 p9 p10=>(Sum.inr (.inl (x.u3,p0,p1,p2,p3,x.u7,p4,x.u9,p5,x.u11,p6,p7,x.u12,x.u13,x.u14,x.u15,p8,p9,x.u17,p10,x.u18,x.u19,x.u20,x.u21,x.u22,x.u23,x.v24)))) (fun p0 p1 p2 p3 p4 p5 p6 p7 p8 p9 p10=>(Sum.inr (.inr (.inl (x.u3,p0,p1,p2,p3,x.u7,p4,x.u9,p5,x.u11,p6,p7,x.u12,x.u13,x.u14,x.u15,p8,p9,x.u17,p10,x.u18,x.u19,x.u20,x.u21,x.u22,x.u23,x.v24))))) (fun p0 p1 p2 p3 p4 p5 p6 p7 p8=>(Sum.inr (.inr (.inr (.inl (x.u3,p0,p1,p2,p3,x.u7,p4,x.u9,p5,x.u11,p6,x.u12,x.u13,x.u14,x.u15,p7,p8,x.u17,x.u18,x.u19,x.u20,x.u21,x.u22,x.u23,x.v24)))))) (fun p0 p1 p2 p3 p4 p5 p6 p7 p8=>(Sum.inr (.inr (.inr (.inr (.inl (x.u3,p0,p1,p2,p3,x.u7,p4,x.u9,p5,x.u11,p6,x.u12,x.u13,x.u14,x.u15,p7,p8,x.u17,x.u18,x.u19,x.u20,x.u21,x.u22,x.u23,x.v24))))))) (fun p0 p1 p2 p3 p4 p5 p6 p7 p8 p9 p10=>(Sum.inr (.inr (.inr (.inr (.inr (.inl (x.u3,p0,p1,p2,p3,p4,x.u7,p5,x.u9,p6,x.u11,p7,x.u12,x.u13,x.u14,x.u15,p8,p9,x.u17,x.u18,p10,x.u19,x.u20,x.u21,x.u22,x.u23,x.v24)))))))) (fun p0 p1 p2 p3 p4 p5 p6 p7 p8 p9 p10=>(Sum.inr (.inr (.inr (.inr (.inr (.inr (.inl (x.u3,p0,p1,p2,p3,p4,x.u7,p5,x.u9,p6,x.u11,p7,x.u12,x.u13,x.u14,x.u15,p8,p9,x.u17,x.u18,p10,x.u19,x.u20,x.u21,x.u22,x.u23,x.v24))))))))) (fun p0 p1 p2 p3 p4 p5 p6 p7 p8=>(Sum.inr (.inr (.inr (.inr (.inr (.inr (.inr (.inl (x.u3,p0,p1,p2,p3,x.u7,p4,x.u9,p5,x.u11,p6,x.u12,x.u13,x.u14,x.u15,p7,p8,x.u17,x.u18,x.u19,x.u20,x.u21,x.u22,x.u23,x.v24)))))))))) (fun p0 p1 p2 p3 p4 p5 p6 p7 p8=>(Sum.inr (.inr (.inr (.inr (.inr (.inr (.inr (.inr (.inl (x.u3,p0,p1,p2,p3,x.u7,p4,x.u9,p5,x.u11,p6,x.u12,x.u13,x.u14,x.u15,p7,p8,x.u17,x.u18,x.u19,x.u20,x.u21,x.u22,x.u23,x.v24))))))))))) (fun p0 p1 p2 p3 p4 p5 p6 p7 p8 p9 p10=>(Sum.inr (.inr (.inr (.inr (.inr (.inr (.inr (.inr (.inr (.inl (p0,x.u3,p1,p2,p3,p4,x.u7,p5,x.u9,p6,x.u11,p7,x.u12,x.u13,x.u14,x.u15,p8,p9,p10,x.u17,x.u18,x.u19,x.u20,x.u21,x.u22,x.u23,x.v24)))))))))))) (fun p0 p1 p2 p3 p4 p5 p6 p7 p8 p9 p10=>(Sum.inr (.inr (.inr (.inr (.inr (.inr (.inr (.inr (.inr (.inr (.inl (p0,x.u3,p1,p2,p3,p4,x.u7,p5,x.u9,p6,x.u11,p7,x.u12,x.u13,x.u14,x.u15,p8,p9,p10,x.u17,x.u18,x.u19,x.u20,x.u21,x.u22,x.u23,x.v24))))))))))))) (fun p0 p1 p2 p3 p4 p5 p6 p7 p8=>(Sum.inr (.inr (.inr (.inr (.inr (.inr (.inr (.inr (.inr (.inr (.inr (.inl (x.u3,p0,p1,p2,p3,x.u7,p4,x.u9,p5,x.u11,p6,x.u12,x.u13,x.u14,x.u15,p7,p8,x.u17,x.u18,x.u19,x.u20,x.u21,x.u22,x.u23,x.v24)))))))))))))) (fun p0 p1 p2 p3 p4 p5 p6 p7 p8=>(Sum.inr (.inr (.inr (.inr (.inr (.inr (.inr (.inr (.inr (.inr (.inr (.inr (.inl (x.u3,p0,p1,p2,p3,x.u7,p4,x.u9,p5,x.u11,p6,x.u12,x.u13,x.u14,x.u15,p7,p8,x.u17,x.u18,x.u19,x.u20,x.u21,x.u22,x.u23,x.v24))))))))))))))) (fun p0 p1 p2 p3 p4 p5 p6 p7 p8 p9=>(Sum.inr (.inr (.inr (.inr (.inr (.inr (.inr (.inr (.inr (.inr (.inr (.inr (.inr (.inl (x.u3,p0,p1,p2,x.u3,x.u7,p3,x.u9,p4,x.u11,p5,p6,p7,x.u12,x.u13,x.u14,x.u15,p8,p9,x.u17,x.u18,x.u19,x.u20,x.u21,x.u22,x.u23,x.v24)))))))))))))))) (fun p0 p1 p2 p3 p4 p5 p6 p7 p8 p9=>(Sum.inr (.inr (.inr (.inr (.inr (.inr (.inr (.inr (.inr (.inr (.inr (.inr (.inr (.inr (.inl (x.u3,p0,p1,p2,x.u3,x.u7,p3,x.u9,p4,x.u11,p5,p6,p7,x.u12,x.u13,x.u14,x.u15,p8,p9,x.u17,x.u18,x.u19,x.u20,x.u21,x.u22,x.u23,x.v24))))))))))))))))) (fun p0 p1 p2 p3 p4 p5 p6 p7=>(Sum.inr (.inr (.inr (.inr (.inr (.inr (.inr (.inr (.inr (.inr (.inr (.inr (.inr (.inr (.inr (.inl (x.u3,p0,p1,p2,x.u3,x.u7,p3,x.u9,p4,x.u11,p5,x.u12,x.u13,x.u14,x.u15,p6,p7,x.u17,x.u18,x.u19,x.u20,x.u21,x.u22,x.u23,x.v24)))))))))))))))))) (fun p0 p1 p2 p3 p4 p5 p6 p7=>(Sum.inr (.inr (.inr (.inr (.inr (.inr (.inr (.inr (.inr (.inr (.inr (.inr (.inr (.inr (.inr (.inr (.inl (x.u3,p0,p1,p2,x.u3,x.u7,p3,x.u9,p4,x.u11,p5,x.u12,x.u13,x.u14,x.u15,p6,p7,x.u17,x.u18,x.u19,x.u20,x.u21,x.u22,x.u23,x.v24))))))))))))))))))) (fun p0 p1 p2 p3 p4=>(Sum.inr (.inr (.inr (.inr (.inr (.inr (.inr (.inr (.inr (.inr (.inr (.inr (.inr (.inr (.inr (.inr (.inr (x.u3,p0,p1,p2,x.u7,x.u8,x.u9,p3,x.u11,x.u12,x.u13,x.u14,x.u15,p4,x.u17,x.u18,x.u19,x.u20,x.u21,x.u22,x.u23,x.v24))))))))))))))))))):=by kernel_rfl
theorem q56 (ih:tqh->Option tqb) {R:Type} (x:tq3) (k:tq0->Option R) (r:R) (h:q52 ih x k=some r):∃o,Z6b (LE.step X q50 q4D (PE.ps X q4C (fun x q=>(ih x).bind q) q2I) (q4F ih) 12) x o/\k o=some r:=by
 obtain⟨o,h1,h2⟩:=Z0 h;exact⟨q51 x o,Zk9 (st:=fun(x:tq3)=>X6 ih x.1 x.u3 x.u7 x.u8 x.u9 x.u11 x.u12 x.u13 x.u14 x.u15 x.u17 x.u18 x.u19 x.u20 x.u21 x.u22 x.u23 x.v24) (prj:=fun x=>(x.2.1,x.u2,x.u4,x.u5,x.u6,x.u10,x.u16)) (emb:=q53) (embO:=q51) (fun x=>(q54 ih x).trans (by unfold X6 X0;simp only[Zk0,ZjR,Zk1,Option.map_some,Option.map_none];rfl)) (fun _ _=>rfl) (fun _ _=>rfl) (fun _ _ _=>rfl) (fun _ _ _=>rfl) (fun _=>rfl) (Z29.1 h1),by first|exact h2|(rcases o with o|o|o|o|o|o|o|o|o|o|o|o|o|o|o|o|o<;>exact h2)⟩
def q57 (ih:tqh->Option tqb) {R:Type}:Z2K S R:=LE.ls X q50 (q52 ih) (q4F ih)
theorem q58 (ih:tqh->Option tqb) (hih:ZcD X q4C ih) {R:Type}:Z4g X (q57 ih (R:=R)):=Zkd xok q4E (e:=q50) (Zk6 (e:=q4C) hih q2J) (q4G ih hih) (q56 ih) (q4G ih hih)
theorem q59 (ih:tqh->Option tqb) (x:((Nat->Y2)×Int×(List Zb)×Zc×Bool×Zc×Zc)):PE.step X q4C q4D (PE.ps X q4C (fun x q=>(ih x).bind q) q2I) (q57 ih) 12 x=X9 ih x.1 x.2.1 x.u2 x.u3 x.u4 x.u5 x.v6:=by kernel_rfl
theorem q5a:ZcD X q4C XR:=Zk7 (X:=X) (e:=q4C) (t:=X2) fun ih hih=>Zke (ZjE xok q4E (Zk6 (e:=q4C) hih q2J) (q58 ih hih) 12) fun x _ h=>(q59 ih x).trans h
def q5b {R:Type}:Prs S R:=PE.ps X q4C (fun x q=>(XR x).bind q) q2I
theorem q5c {R:Type}:Z93 X (q5b (R:=R)):=Zk6 (e:=q4C) q5a q2J
def q5d:StT S:=⟨(N v15 vy (N (N L (some (.ptr 4 0)) L) (some .sl0) L)),o17,6⟩
def q5g:PE S:=⟨126,6,q5d,[(.arr (.st 5)),.int,(.st 22),.bool,(.st 22),(.st 22)],[q4A,q4B]⟩
def q5m:StT S:=⟨vO,oA,70⟩
def q5n:Way S:=⟨.ret,⟨L,(N oP o5 oU),166⟩,[(.arr (.st 5)),(.st 25),(.st 22),.bool,(.arr (.st 5)),(.arr (.st 5)),.bool,.int,(.st 22),(.lst (.st 19)),(.lst (.st 25)),(.st 25),(.lst (.st 19)),(.st 21),(.lst (.st 25)),(.st 22),(.st 22),(.st 19),.int,(.lst (.st 25)),.int,.bool,(.arr (.st 5)),.bool,.int,.bool]⟩
def q5o:Way S:=⟨.ret,⟨L,(N oQ o5 oU),166⟩,[(.arr (.st 5)),(.st 25),(.st 22),.bool,(.arr (.st 5)),(.arr (.st 5)),.bool,.int,(.st 22),(.lst (.st 19)),(.lst (.st 25)),(.st 25),(.lst (.st 19)),(.st 21),(.lst (.st 25)),(.st 22),(.st 22),(.st 19),.int,(.lst (.st 25)),.int,.bool,(.arr (.st 5)),.bool,.int,.bool]⟩
def q5p:Way S:=⟨.ret,⟨L,oE,159⟩,[(.arr (.st 5)),(.st 25),(.st 22),.bool,(.arr (.st 5)),(.arr (.st 5)),.bool,.int,(.st 22),(.lst (.st 19)),(.st 25),(.lst (.st 19)),(.st 21),(.lst (.st 25)),(.st 22),(.st 22),(.st 19),.int,.int,.bool,(.arr (.st 5)),.bool,.int,.bool]⟩
def q5q:Way S:=⟨.ret,⟨L,oF,159⟩,[(.arr (.st 5)),(.st 25),(.st 22),.bool,(.arr (.st 5)),(.arr (.st 5)),.bool,.int,(.st 22),(.lst (.st 19)),(.st 25),(.lst (.st 19)),(.st 21),(.lst (.st 25)),(.st 22),(.st 22),(.st 19),.int,.int,.bool,(.arr (.st 5)),.bool,.int,.bool]⟩
def q5r:Way S:=⟨.ret,⟨L,(N oH o5 oX),151⟩,[(.arr (.st 5)),(.st 25),(.st 22),(.lst (.st 25)),.bool,(.arr (.st 5)),(.arr (.st 5)),.bool,.int,(.st 22),(.lst (.st 19)),(.st 25),(.lst (.st 19)),(.st 21),(.lst (.st 25)),(.st 22),(.st 22),(.st 19),.int,.int,(.lst (.st 25)),.bool,(.arr (.st 5)),.bool,.int,.bool]⟩
def q5s:Way S:=⟨.ret,⟨L,(N oI o5 oX),151⟩,[(.arr (.st 5)),(.st 25),(.st 22),(.lst (.st 25)),.bool,(.arr (.st 5)),(.arr (.st 5)),.bool,.int,(.st 22),(.lst (.st 19)),(.st 25),(.lst (.st 19)),(.st 21),(.lst (.st 25)),(.st 22),(.st 22),(.st 19),.int,.int,(.lst (.st 25)),.bool,(.arr (.st 5)),.bool,.int,.bool]⟩
def q5t:Way S:=⟨.ret,⟨L,oE,144⟩,[(.arr (.st 5)),(.st 25),(.st 22),.bool,(.arr (.st 5)),(.arr (.st 5)),.bool,.int,(.st 22),(.lst (.st 19)),(.st 25),(.lst (.st 19)),(.st 21),(.lst (.st 25)),(.st 22),(.st 22),(.st 19),.int,.int,.bool,(.arr (.st 5)),.bool,.int,.bool]⟩
def q5u:Way S:=⟨.ret,⟨L,oF,144⟩,[(.arr (.st 5)),(.st 25),(.st 22),.bool,(.arr (.st 5)),(.arr (.st 5)),.bool,.int,(.st 22),(.lst (.st 19)),(.st 25),(.lst (.st 19)),(.st 21),(.lst (.st 25)),(.st 22),(.st 22),(.st 19),.int,.int,.bool,(.arr (.st 5)),.bool,.int,.bool]⟩
def q5v:Way S:=⟨.ret,⟨L,(N oK o5 oN),152⟩,[(.lst (.st 25)),(.arr (.st 5)),(.st 25),(.st 22),.bool,(.arr (.st 5)),(.arr (.st 5)),.bool,.int,(.st 22),(.lst (.st 19)),(.st 25),(.lst (.st 19)),(.st 21),(.lst (.st 25)),(.st 22),(.lst (.st 25)),(.st 22),(.st 19),.int,.int,.bool,(.arr (.st 5)),.bool,.int,.bool]⟩
def q5w:Way S:=⟨.ret,⟨L,(N oL o5 oN),152⟩,[(.lst (.st 25)),(.arr (.st 5)),(.st 25),(.st 22),.bool,(.arr (.st 5)),(.arr (.st 5)),.bool,.int,(.st 22),(.lst (.st 19)),(.st 25),(.lst (.st 19)),(.st 21),(.lst (.st 25)),(.st 22),(.lst (.st 25)),(.st 22),(.st 19),.int,.int,.bool,(.arr (.st 5)),.bool,.int,.bool]⟩
def q5x:Way S:=⟨.ret,⟨L,oE,145⟩,[(.arr (.st 5)),(.st 25),(.st 22),.bool,(.arr (.st 5)),(.arr (.st 5)),.bool,.int,(.st 22),(.lst (.st 19)),(.st 25),(.lst (.st 19)),(.st 21),(.lst (.st 25)),(.st 22),(.st 22),(.st 19),.int,.int,.bool,(.arr (.st 5)),.bool,.int,.bool]⟩
def q5y:Way S:=⟨.ret,⟨L,oF,145⟩,[(.arr (.st 5)),(.st 25),(.st 22),.bool,(.arr (.st 5)),(.arr (.st 5)),.bool,.int,(.st 22),(.lst (.st 19)),(.st 25),(.lst (.st 19)),(.st 21),(.lst (.st 25)),(.st 22),(.st 22),(.st 19),.int,.int,.bool,(.arr (.st 5)),.bool,.int,.bool]⟩
def q5z:Way S:=⟨.ret,⟨L,(N oR o5 oZ),137⟩,[(.arr (.st 5)),(.st 25),(.st 22),.bool,(.arr (.st 5)),(.arr (.st 5)),.bool,.int,(.st 22),(.lst (.st 19)),(.st 25),(.lst (.st 25)),(.lst (.st 25)),(.lst (.st 19)),(.st 21),(.lst (.st 25)),(.st 22),(.st 22),(.st 19),.int,.int,.bool,(.arr (.st 5)),.bool,.int,.bool]⟩
def q5A:Way S:=⟨.ret,⟨L,(N oS o5 oZ),137⟩,[(.arr (.st 5)),(.st 25),(.st 22),.bool,(.arr (.st 5)),(.arr (.st 5)),.bool,.int,(.st 22),(.lst (.st 19)),(.st 25),(.lst (.st 25)),(.lst (.st 25)),(.lst (.st 19)),(.st 21),(.lst (.st 25)),(.st 22),(.st 22),(.st 19),.int,.int,.bool,(.arr (.st 5)),.bool,.int,.bool]⟩
def q5B:Way S:=⟨.ret,⟨L,oE,130⟩,[(.arr (.st 5)),(.st 25),(.st 22),.bool,(.arr (.st 5)),(.arr (.st 5)),.bool,.int,(.st 22),(.lst (.st 19)),(.st 25),(.lst (.st 19)),(.st 21),(.lst (.st 25)),(.st 22),(.st 22),(.st 19),.int,.int,.bool,(.arr (.st 5)),.bool,.int,.bool]⟩
def q5C:Way S:=⟨.ret,⟨L,oF,130⟩,[(.arr (.st 5)),(.st 25),(.st 22),.bool,(.arr (.st 5)),(.arr (.st 5)),.bool,.int,(.st 22),(.lst (.st 19)),(.st 25),(.lst (.st 19)),(.st 21),(.lst (.st 25)),(.st 22),(.st 22),(.st 19),.int,.int,.bool,(.arr (.st 5)),.bool,.int,.bool]⟩
def q5D:Way S:=⟨(.exit 0),⟨L,oA,71⟩,[(.arr (.st 5)),(.st 25),(.st 22),.bool,(.arr (.st 5)),.bool,.int,(.st 22),(.lst (.st 19)),(.lst (.st 19)),(.st 21),(.lst (.st 25)),(.st 22),(.st 22),.int,.int,.bool,(.arr (.st 5)),.bool,.int,.bool]⟩
def q5E:LE S:=⟨q4H,q5m,[.int,.int,.int,(.arr (.st 5)),(.st 25),(.st 22),.bool,(.arr (.st 5)),.bool,.int,(.st 22),(.lst (.st 19)),(.lst (.st 19)),(.st 21),(.lst (.st 25)),(.st 22),(.st 22),.int,.int,.bool,(.arr (.st 5)),.bool,.int,.bool],[q5n,q5o,q5p,q5q,q5r,q5s,q5t,q5u,q5v,q5w,q5x,q5y,q5z,q5A,q5B,q5C,q5D]⟩
def q5F (x:tq4):(tq7⊕tq7⊕tqe⊕tqe⊕tq8⊕tq8⊕tqe⊕tqe⊕tq9⊕tq9⊕tqe⊕tqe⊕tqa⊕tqa⊕tqg⊕tqg⊕(Zb×Zc×Bool×Zc×Zc))->tq1:=Sum.elim (fun y0=>(.inl (x.u3,y0.1,y0.2.1,y0.u2,y0.u3,x.u7,y0.u4,x.u9,y0.u5,x.u11,y0.u6,y0.u7,x.u12,x.u13,x.u14,x.u15,y0.u8,y0.u9,x.u17,y0.v10,x.u18,x.u19,x.u20,x.u21,x.u22,x.v23))) (Sum.elim (fun y1=>(.inr (.inl (x.u3,y1.1,y1.2.1,y1.u2,y1.u3,x.u7,y1.u4,x.u9,y1.u5,x.u11,y1.u6,y1.u7,x.u12,x.u13,x.u14,x.u15,y1.u8,y1.u9,x.u17,y1.v10,x.u18,x.u19,x.u20,x.u21,x.u22,x.v23)))) (Sum.elim (fun y2=>(.inr (.inr (.inl (x.u3,y2.1,y2.2.1,y2.u2,y2.u3,x.u7,y2.u4,x.u9,y2.u5,x.u11,y2.u6,x.u12,x.u13,x.u14,x.u15,y2.u7,y2.v8,x.u17,x.u18,x.u19,x.u20,x.u21,x.u22,x.v23))))) (Sum.elim (fun y3=>(.inr (.inr (.inr (.inl (x.u3,y3.1,y3.2.1,y3.u2,y3.u3,x.u7,y3.u4,x.u9,y3.u5,x.u11,y3.u6,x.u12,x.u13,x.u14,x.u15,y3.u7,y3.v8,x.u17,x.u18,x.u19,x.u20,x.u21,x.u22,x.v23)))))) (Sum.elim (fun y4=>(.inr (.inr (.inr (.inr (.inl (x.u3,y4.1,y4.2.1,y4.u2,y4.u3,y4.u4,x.u7,y4.u5,x.u9,y4.u6,x.u11,y4.u7,x.u12,x.u13,x.u14,x.u15,y4.u8,y4.u9,x.u17,x.u18,y4.v10,x.u19,x.u20,x.u21,x.u22,x.v23))))))) (Sum.elim (fun y5=>(.inr (.inr (.inr (.inr (.inr (.inl (x.u3,y5.1,y5.2.1,y5.u2,y5.u3,y5.u4,x.u7,y5.u5,x.u9,y5.u6,x.u11,y5.u7,x.u12,x.u13,x.u14,x.u15,y5.u8,y5.u9,x.u17,x.u18,y5.v10,x.u19,x.u20,x.u21,x.u22,x.v23)))))))) (Sum.elim (fun y6=>(.inr (.inr (.inr (.inr (.inr (.inr (.inl (x.u3,y6.1,y6.2.1,y6.u2,y6.u3,x.u7,y6.u4,x.u9,y6.u5,x.u11,y6.u6,x.u12,x.u13,x.u14,x.u15,y6.u7,y6.v8,x.u17,x.u18,x.u19,x.u20,x.u21,x.u22,x.v23))))))))) (Sum.elim (fun y7=>(.inr (.inr (.inr (.inr (.inr (.inr (.inr (.inl (x.u3,y7.1,y7.2.1,y7.u2,y7.u3,x.u7,y7.u4,x.u9,y7.u5,x.u11,y7.u6,x.u12,x.u13,x.u14,x.u15,y7.u7,y7.v8,x.u17,x.u18,x.u19,x.u20,x.u21,x.u22,x.v23)))))))))) (Sum.elim (fun y8=>(.inr (.inr (.inr (.inr (.inr (.inr (.inr (.inr (.inl (y8.1,x.u3,y8.2.1,y8.u2,y8.u3,y8.u4,x.u7,y8.u5,x.u9,y8.u6,x.u11,y8.u7,x.u12,x.u13,x.u14,x.u15,y8.u8,y8.u9,y8.v10,x.u17,x.u18,x.u19,x.u20,x.u21,x.u22,x.v23))))))))))) (Sum.elim (fun y9=>(.inr (.inr (.inr (.inr (.inr (.inr (.inr (.inr (.inr (.inl (y9.1,x.u3,y9.2.1,y9.u2,y9.u3,y9.u4,x.u7,y9.u5,x.u9,y9.u6,x.u11,y9.u7,x.u12,x.u13,x.u14,x.u15,y9.u8,y9.u9,y9.v10,x.u17,x.u18,x.u19,x.u20,x.u21,x.u22,x.v23)))))))))))) (Sum.elim (fun y10=>(.inr (.inr (.inr (.inr (.inr (.inr (.inr (.inr (.inr (.inr (.inl (x.u3,y10.1,y10.2.1,y10.u2,y10.u3,x.u7,y10.u4,x.u9,y10.u5,x.u11,y10.u6,x.u12,x.u13,x.u14,x.u15,y10.u7,y10.v8,x.u17,x.u18,x.u19,x.u20,x.u21,x.u22,x.v23))))))))))))) (Sum.elim (fun y11=>(.inr (.inr (.inr (.inr (.inr (.inr (.inr (.inr (.inr (.inr (.inr (.inl (x.u3,y11.1,y11.2.1,y11.u2,y11.u3,x.u7,y11.u4,x.u9,y11.u5,x.u11,y11.u6,x.u12,x.u13,x.u14,x.u15,y11.u7,y11.v8,x.u17,x.u18,x.u19,x.u20,x.u21,x.u22,x.v23)))))))))))))) (Sum.elim (fun y12=>(.inr (.inr (.inr (.inr (.inr (.inr (.inr (.inr (.inr (.inr (.inr (.inr (.inl (x.u3,y12.1,y12.2.1,y12.u2,x.u3,x.u7,y12.u3,x.u9,y12.u4,x.u11,y12.u5,y12.u6,y12.u7,x.u12,x.u13,x.u14,x.u15,y12.u8,y12.v9,x.u17,x.u18,x.u19,x.u20,x.u21,x.u22,x.v23))))))))))))))) (Sum.elim (fun y13=>(.inr (.inr (.inr (.inr (.inr (.inr (.inr (.inr (.inr (.inr (.inr (.inr (.inr (.inl (x.u3,y13.1,y13.2.1,y13.u2,x.u3,x.u7,y13.u3,x.u9,y13.u4,x.u11,y13.u5,y13.u6,y13.u7,x.u12,x.u13,x.u14,x.u15,y13.u8,y13.v9,x.u17,x.u18,x.u19,x.u20,x.u21,x.u22,x.v23)))))))))))))))) (Sum.elim (fun y14=>(.inr (.inr (.inr (.inr (.inr (.inr (.inr (.inr (.inr (.inr (.inr (.inr (.inr (.inr (.inl (x.u3,y14.1,y14.2.1,y14.u2,x.u3,x.u7,y14.u3,x.u9,y14.u4,x.u11,y14.u5,x.u12,x.u13,x.u14,x.u15,y14.u6,y14.v7,x.u17,x.u18,x.u19,x.u20,x.u21,x.u22,x.v23))))))))))))))))) (Sum.elim (fun y15=>(.inr (.inr (.inr (.inr (.inr (.inr (.inr (.inr (.inr (.inr (.inr (.inr (.inr (.inr (.inr (.inl (x.u3,y15.1,y15.2.1,y15.u2,x.u3,x.u7,y15.u3,x.u9,y15.u4,x.u11,y15.u5,x.u12,x.u13,x.u14,x.u15,y15.u6,y15.v7,x.u17,x.u18,x.u19,x.u20,x.u21,x.u22,x.v23)))))))))))))))))) (fun y16=>(.inr (.inr (.inr (.inr (.inr (.inr (.inr (.inr (.inr (.inr (.inr (.inr (.inr (.inr (.inr (.inr (x.u3,y16.1,y16.2.1,y16.u2,x.u7,x.u8,x.u9,y16.u3,x.u11,x.u12,x.u13,x.u14,x.u15,y16.v4,x.u17,x.u18,x.u19,x.u20,x.u21,x.u22,x.v23)))))))))))))))))))))))))))))))))
def q5G {R:Type} (x:tq4) (k:tq1->Option R):Option R:=(X1o x.1 x.u3 x.u7 x.u8 x.u9 x.u11 x.u12 x.u13 x.u14 x.u15 x.u17 x.u18 x.u19 x.u20 x.u21 x.u22 x.v23 (x.2.1,x.u2,x.u4,x.u5,x.u6,x.u10,x.u16)).bind (Sum.elim (fun y0=>k (.inl (x.u3,y0.1,y0.2.1,y0.u2,y0.u3,x.u7,y0.u4,x.u9,y0.u5,x.u11,y0.u6,y0.u7,x.u12,x.u13,x.u14,x.u15,y0.u8,y0.u9,x.u17,y0.v10,x.u18,x.u19,x.u20,x.u21,x.u22,x.v23))) (Sum.elim (fun y1=>k (.inr (.inl (x.u3,y1.1,y1.2.1,y1.u2,y1.u3,x.u7,y1.u4,x.u9,y1.u5,x.u11,y1.u6,y1.u7,x.u12,x.u13,x.u14,x.u15,y1.u8,y1.u9,x.u17,y1.v10,x.u18,x.u19,x.u20,x.u21,x.u22,x.v23)))) (Sum.elim (fun y2=>k (.inr (.inr (.inl (x.u3,y2.1,y2.2.1,y2.u2,y2.u3,x.u7,y2.u4,x.u9,y2.u5,x.u11,y2.u6,x.u12,x.u13,x.u14,x.u15,y2.u7,y2.v8,x.u17,x.u18,x.u19,x.u20,x.u21,x.u22,x.v23))))) (Sum.elim (fun y3=>k (.inr (.inr (.inr (.inl (x.u3,y3.1,y3.2.1,y3.u2,y3.u3,x.u7,y3.u4,x.u9,y3.u5,x.u11,y3.u6,x.u12,x.u13,x.u14,x.u15,y3.u7,y3.v8,x.u17,x.u18,x.u19,x.u20,x.u21,x.u22,x.v23)))))) (Sum.elim (fun y4=>k (.inr (.inr (.inr (.inr (.inl (x.u3,y4.1,y4.2.1,y4.u2,y4.u3,y4.u4,x.u7,y4.u5,x.u9,y4.u6,x.u11,y4.u7,x.u12,x.u13,x.u14,x.u15,y4.u8,y4.u9,x.u17,x.u18,y4.v10,x.u19,x.u20,x.u21,x.u22,x.v23))))))) (Sum.elim (fun y5=>k (.inr (.inr (.inr (.inr (.inr (.inl (x.u3,y5.1,y5.2.1,y5.u2,y5.u3,y5.u4,x.u7,y5.u5,x.u9,y5.u6,x.u11,y5.u7,x.u12,x.u13,x.u14,x.u15,y5.u8,y5.u9,x.u17,x.u18,y5.v10,x.u19,x.u20,x.u21,x.u22,x.v23)))))))) (Sum.elim (fun y6=>k (.inr (.inr (.inr (.inr (.inr (.inr (.inl (x.u3,y6.1,y6.2.1,y6.u2,y6.u3,x.u7,y6.u4,x.u9,y6.u5,x.u11,y6.u6,x.u12,x.u13,x.u14,x.u15,y6.u7,y6.v8,x.u17,x.u18,x.u19,x.u20,x.u21,x.u22,x.v23))))))))) (Sum.elim (fun y7=>k (.inr (.inr (.inr (.inr (.inr (.inr (.inr (.inl (x.u3,y7.1,y7.2.1,y7.u2,y7.u3,x.u7,y7.u4,x.u9,y7.u5,x.u11,y7.u6,x.u12,x.u13,x.u14,x.u15,y7.u7,y7.v8,x.u17,x.u18,x.u19,x.u20,x.u21,x.u22,x.v23)))))))))) (Sum.elim (fun y8=>k (.inr (.inr (.inr (.inr (.inr (.inr (.inr (.inr (.inl (y8.1,x.u3,y8.2.1,y8.u2,y8.u3,y8.u4,x.u7,y8.u5,x.u9,y8.u6,x.u11,y8.u7,x.u12,x.u13,x.u14,x.u15,y8.u8,y8.u9,y8.v10,x.u17,x.u18,x.u19,x.u20,x.u21,x.u22,x.v23))))))))))) (Sum.elim (fun y9=>k (.inr (.inr (.inr (.inr (.inr (.inr (.inr (.inr (.inr (.inl (y9.1,x.u3,y9.2.1,y9.u2,y9.u3,y9.u4,x.u7,y9.u5,x.u9,y9.u6,x.u11,y9.u7,x.u12,x.u13,x.u14,x.u15,y9.u8,y9.u9,y9.v10,x.u17,x.u18,x.u19,x.u20,x.u21,x.u22,x.v23)))))))))))) (Sum.elim (fun y10=>k (.inr (.inr (.inr (.inr (.inr (.inr (.inr (.inr (.inr (.inr (.inl (x.u3,y10.1,y10.2.1,y10.u2,y10.u3,x.u7,y10.u4,x.u9,y10.u5,x.u11,y10.u6,x.u12,x.u13,x.u14,x.u15,y10.u7,y10.v8,x.u17,x.u18,x.u19,x.u20,x.u21,x.u22,x.v23))))))))))))) (Sum.elim (fun y11=>k (.inr (.inr (.inr (.inr (.inr (.inr (.inr (.inr (.inr (.inr (.inr (.inl (x.u3,y11.1,y11.2.1,y11.u2,y11.u3,x.u7,y11.u4,x.u9,y11.u5,x.u11,y11.u6,x.u12,x.u13,x.u14,x.u15,y11.u7,y11.v8,x.u17,x.u18,x.u19,x.u20,x.u21,x.u22,x.v23)))))))))))))) (Sum.elim (fun y12=>k (.inr (.inr (.inr (.inr (.inr (.inr (.inr (.inr (.inr (.inr (.inr (.inr (.inl (x.u3,y12.1,y12.2.1,y12.u2,x.u3,x.u7,y12.u3,x.u9,y12.u4,x.u11,y12.u5,y12.u6,y12.u7,x.u12,x.u13,x.u14,x.u15,y12.u8,y12.v9,x.u17,x.u18,x.u19,x.u20,x.u21,x.u22,x.v23))))))))))))))) (Sum.elim (fun y13=>k (.inr (.inr (.inr (.inr (.inr (.inr (.inr (.inr (.inr (.inr (.inr (.inr (.inr (.inl (x.u3,y13.1,y13.2.1,y13.u2,x.u3,x.u7,y13.u3,x.u9,y13.u4,x.u11,y13.u5,y13.u6,y13.u7,x.u12,x.u13,x.u14,x.u15,y13.u8,y13.v9,x.u17,x.u18,x.u19,x.u20,x.u21,x.u22,x.v23)))))))))))))))) (Sum.elim (fun y14=>k (.inr (.inr (.inr (.inr (.inr (.inr (.inr (.inr (.inr (.inr (.inr (.inr (.inr (.inr (.inl (x.u3,y14.1,y14.2.1,y14.u2,x.u3,x.u7,y14.u3,x.u9,y14.u4,x.u11,y14.u5,x.u12,x.u13,x.u14,x.u15,y14.u6,y14.v7,x.u17,x.u18,x.u19,x.u20,x.u21,x.u22,x.v23))))))))))))))))) (Sum.elim (fun y15=>k (.inr (.inr (.inr (.inr (.inr (.inr (.inr (.inr (.inr (.inr (.inr (.inr (.inr (.inr (.inr (.inl (x.u3,y15.1,y15.2.1,y15.u2,x.u3,x.u7,y15.u3,x.u9,y15.u4,x.u11,y15.u5,x.u12,x.u13,x.u14,x.u15,y15.u6,y15.v7,x.u17,x.u18,x.u19,x.u20,x.u21,x.u22,x.v23)))))))))))))))))) (fun y16=>k (.inr (.inr (.inr (.inr (.inr (.inr (.inr (.inr (.inr (.inr (.inr (.inr (.inr (.inr (.inr (.inr (x.u3,y16.1,y16.2.1,y16.u2,x.u7,x.u8,x.u9,y16.u3,x.u11,x.u12,x.u13,x.u14,x.u15,y16.v4,x.u17,x.u18,x.u19,x.u20,x.u21,x.u22,x.v23))))))))))))))))))))))))))))))))))
def q5H (x:tq4) (v:(Int×Int×Zb×Zc×Bool×Zc×Zc)):tq4:=(x.1,v.1,v.2.1,x.u3,v.u2,v.u3,v.u4,x.u7,x.u8,x.u9,v.u5,x.u11,x.u12,x.u13,x.u14,x.u15,v.v6,x.u17,x.u18,x.u19,x.u20,x.u21,x.u22,x.v23)
theorem q5I (x:tq4):LE.step X q5E q4D q5b q4 12 x=Wb x.1 x.u3 x.u7 x.u8 x.u9 x.u11 x.u12 x.u13 x.u14 x.u15 x.u17 x.u18 x.u19 x.u20 x.u21 x.u22 x.v23 x.2.1 x.u2 x.u4 x.u5 x.u6 x.u10 x.u16 (fun w0 w1 w2 w3 w4 w5 w6=>(Sum.inl (x.1,w0,w1,x.u3,w2,w3,w4,x.u7,x.u8,x.u9,w5,x.u11,x.u12,x.u13,x.u14,x.u15,w6,x.u17,x.u18,x.u19,x.u20,x.u21,x.u22,x.v23))) (fun p0 p1 p2 p3 p4 p5 p6 p7 p8 p9 p10=>(Sum.inr (.inl (x.u3,p0,p1,p2,p3,x.u7,p4,x.u9,p5,x.u11,p6,p7,x.u12,x.u13,x.u14,x.u15,p8,p9,x.u17,p10,x.u18,x.u19,x.u20,x.u21,x.u22,x.v23)))) (fun p0 p1 p2 p3 p4 p5 p6 p7 p8 p9 p10=>(Sum.inr (.inr (.inl (x.u3,p0,p1,p2,p3,x.u7,p4,x.u9,p5,x.u11,p6,p7,x.u12,x.u13,x.u14,x.u15,p8,p9,x.u17,p10,x.u18,x.u19,x.u20,x.u21,x.u22,x.v23))))) (fun p0 p1 p2 p3 p4 p5 p6 p7 p8=>(Sum.inr (.inr (.inr (.inl (x.u3,p0,p1,p2,p3,x.u7,p4,x.u9,p5,x.u11,p6,x.u12,x.u13,x.u14,x.u15,p7,p8,x.u17,x.u18,x.u19,x.u20,x.u21,x.u22,x.v23)))))) (fun p0 p1 p2 p3 p4 p5 p6 p7 p8=>(Sum.inr (.inr (.inr (.inr (.inl (x.u3,p0,p1,p2,p3,x.u7,p4,x.u9,p5,x.u11,p6,x.u12,x.u13,x.u14,x.u15,p7,p8,x.u17,x.u18,x.u19,x.u20,x.u21,x.u22,x.v23))))))) (fun p0 p1 p2 p3 p4 p5 p6 p7 p8 p9 p10=>(Sum.inr (.inr (.inr (.inr (.inr (.inl (x.u3,p0,p1,p2,p3,p4,x.u7,p5,x.u9,p6,x.u11,p7,x.u12,x.u13,x.u14,x.u15,p8,p9,x.u17,x.u18,p10,x.u19,x.u20,x.u21,x.u22,x.v23)))))))) (fun p0 p1 p2 p3 p4 p5 p6 p7 p8 p9 p10=>(Sum.inr (.inr (.inr (.inr (.inr (.inr (.inl (x.u3,p0,p1,p2,p3,p4,x.u7,p5,x.u9,p6,x.u11,p7,x.u12,x.u13,x.u14,x.u15,p8,p9,x.u17,x.u18,p10,x.u19,x.u20,x.u21,x.u22,x.v23))))))))) (fun p0 p1 p2 p3 p4 p5 p6 p7 p8=>(Sum.inr (.inr (.inr (.inr (.inr (.inr (.inr (.inl (x.u3,p0,p1,p2,p3,x.u7,p4,x.u9,p5,x.u11,p6,x.u12,x.u13,x.u14,x.u15,p7,p8,x.u17,x.u18,x.u19,x.u20,x.u21,x.u22,x.v23)))))))))) (fun p0 p1 p2 p3 p4 p5 p6 p7 p8=>(Sum.inr (.inr (.inr (.inr (.inr (.inr (.inr (.inr (.inl (x.u3,p0,p1,p2,p3,x.u7,p4,x.u9,p5,x.u11,p6,x.u12,x.u13,x.u14,x.u15,p7,p8,x.u17,x.u18,x.u19,x.u20,x.u21,x.u22,x.v23))))))))))) (fun p0 p1 p2 p3 p4 p5 p6 p7 p8 p9 p10=>(Sum.inr (.inr (.inr (.inr (.inr (.inr (.inr (.inr (.inr (.inl (p0,x.u3,p1,p2,p3,p4,x.u7,p5,x.u9,p6,x.u11,p7,x.u12,x.u13,x.u14,x.u15,p8,p9,p10,x.u17,x.u18,x.u19,x.u20,x.u21,x.u22,x.v23)))))))))))) (fun p0 p1 p2 p3 p4 p5 p6 p7 p8 p9 p10=>(Sum.inr (.inr (.inr (.inr (.inr (.inr (.inr (.inr (.inr (.inr (.inl (p0,x.u3,p1,p2,p3,p4,x.u7,p5,x.u9,p6,x.u11,p7,x.u12,x.u13,x.u14,x.u15,p8,p9,p10,x.u17,x.u18,x.u19,x.u20,x.u21,x.u22,x.v23))))))))))))) (fun p0 p1 p2 p3 p4 p5 p6 p7 p8=>(Sum.inr (.inr (.inr (.inr (.inr (.inr (.inr (.inr (.inr (.inr (.inr (.inl (x.u3,p0,p1,p2,p3,x.u7,p4,x.u9,p5,x.u11,p6,x.u12,x.u13,x.u14,x.u15,p7,p8,x.u17,x.u18,x.u19,x.u20,x.u21,x.u22,x.v23)))))))))))))) (fun p0 p1 p2 p3 p4 p5 p6 p7 p8=>(Sum.inr (.inr (.inr (.inr (.inr (.inr (.inr (.inr (.inr (.inr (.inr (.inr (.inl (x.u3,p0,p1,p2,p3,x.u7,p4,x.u9,p5,x.u11,p6,x.u12,x.u13,x.u14,x.u15,p7,p8,x.u17,x.u18,x.u19,x.u20,x.u21,x.u22,x.v23))))))))))))))) (fun p0 p1 p2 p3 p4 p5 p6 p7 p8 p9=>(Sum.inr (.inr (.inr (.inr (.inr (.inr (.inr (.inr (.inr (.inr (.inr (.inr (.inr (.inl (x.u3,p0,p1,p2,x.u3,x.u7,p3,x.u9,p4,x.u11,p5,p6,p7,x.u12,x.u13,x.u14,x.u15,p8,p9,x.u17,x.u18,x.u19,x.u20,x.u21,x.u22,x.v23)))))))))))))))) (fun p0 p1 p2 p3 p4 p5 p6 p7 p8 p9=>(Sum.inr (.inr (.inr (.inr (.inr (.inr (.inr (.inr (.inr (.inr (.inr (.inr (.inr (.inr (.inl (x.u3,p0,p1,p2,x.u3,x.u7,p3,x.u9,p4,x.u11,p5,p6,p7,x.u12,x.u13,x.u14,x.u15,p8,p9,x.u17,x.u18,x.u19,x.u20,x.u21,x.u22,x.v23))))))))))))))))) (fun p0 p1 p2 p3 p4 p5 p6 p7=>(Sum.inr (.inr (.inr (.inr (.inr (.inr (.inr (.inr (.inr (.inr (.inr (.inr (.inr (.inr (.inr (.inl (x.u3,p0,p1,p2,x.u3,x.u7,p3,x.u9,p4,x.u11,p5,x.u12,x.u13,x.u14,x.u15,p6,p7,x.u17,x.u18,x.u19,x.u20,x.u21,x.u22,x.v23)))))))))))))))))) (fun p0 p1 p2 p3 p4 p5 p6 p7=>(Sum.inr (.inr (.inr (.inr (.inr (.inr (.inr (.inr (.inr (.inr (.inr (.inr (.inr (.inr (.inr (.inr (.inl (x.u3,p0,p1,p2,x.u3,x.u7,p3,x.u9,p4,x.u11,p5,x.u12,x.u13,x.u14,x.u15,p6,p7,x.u17,x.u18,x.u19,x.u20,x.u21,x.u22,x.v23))))))))))))))))))) (fun p0 p1 p2 p3 p4=>(Sum.inr (.inr (.inr (.inr (.inr (.inr (.inr (.inr (.inr (.inr (.inr (.inr (.inr (.inr (.inr (.inr (.inr (x.u3,p0,p1,p2,x.u7,x.u8,x.u9,p3,x.u11,x.u12,x.u13,x.u14,x.u15,p4,x.u17,x.u18,x.u19,x.u20,x.u21,x.u22,x.v23))))))))))))))))))):=by kernel_rfl
theorem q5K {R:Type} (x:tq4) (k:tq1->Option R) (r:R) (h:q5G x k=some r):∃o,Z6b (LE.step X q5E q4D q5b q4 12) x o/\k o=some r:=by
 obtain⟨o,h1,h2⟩:=Z0 h;exact⟨q5F x o,Zk9 (st:=fun(x:tq4)=>Wq x.1 x.u3 x.u7 x.u8 x.u9 x.u11 x.u12 x.u13 x.u14 x.u15 x.u17 x.u18 x.u19 x.u20 x.u21 x.u22 x.v23) (prj:=fun x=>(x.2.1,x.u2,x.u4,x.u5,x.u6,x.u10,x.u16)) (emb:=q5H) (embO:=q5F) (fun x=>(q5I x).trans (by unfold Wq Wb X0;simp only[Zk0,ZjR,Zk1,Option.map_some,Option.map_none];rfl)) (fun _ _=>rfl) (fun _ _=>rfl) (fun _ _ _=>rfl) (fun _ _ _=>rfl) (fun _=>rfl) (Z29.1 h1),by first|exact h2|(rcases o with o|o|o|o|o|o|o|o|o|o|o|o|o|o|o|o|o<;>exact h2)⟩
def q5L {R:Type}:Z2K S R:=LE.ls X q5E q5G q4
theorem q5M {R:Type}:Z4g X (q5L (R:=R)):=Zkd xok q4E (e:=q5E) q5c q5 q5K q5
theorem q5N (x:((Nat->Y2)×Int×Zc×Bool×Zc×Zc)):PE.step X q5g q4D q5b q5L 12 x=XU x.1 x.2.1 x.u2 x.u3 x.u4 x.v5:=by kernel_rfl
theorem q5O:ZcD X q5g XQ:=Zke (ZjE xok q4E q5c q5M 12) fun x _ h=>((q5N x).trans (X1O x).symm).trans h
def q5P {R:Type}:Prs S R:=PE.ps X q5g (fun x q=>(XQ x).bind q) q5b
theorem q5Q {R:Type}:Z93 X (q5P (R:=R)):=Zk6 (e:=q5g) q5O q5c
def q5R:StT S:=⟨(N (N L (some (.ptr 1 0)) L) (some (.yld 3)) L),(N (N (N L o3 L) of L) ol (N L of L)),4⟩
def q5S:Way S:=⟨.ret,⟨(N L (some (.tup [])) L),(N (N (N L o3 L) of L) ol (N L of L)),4⟩,[(.st 22),(.st 22),.bool,(.st 22)]⟩
def q5T:Way S:=⟨.ret,⟨(N L (some (.tup [])) L),(N (N (N L (some (.loop 60 (N (N L (some (.ptr 2 0)) L) (some (.agg [(.stc 22 (T.dflt 22))])) (N (N L (some (.fn (.func 125) [] [(.ptr 1 0)])) L) (some (.ptr 0 0)) L)) (5::[]) .skip .skip 0 .ret (0::(60::[])) (0::(1::(0::(1::[])))))) L) of L) ol (N L of L)),4⟩,[(.st 22),(.st 22),.bool,(.st 22)]⟩
def q5U:PE S:=⟨125,2,q5R,[(.st 22),(.st 22),.bool,(.st 22)],[q5S,q5T]⟩
def q5Z:Key:=⟨[125],125,none,[0,0,1,0,1,1],0,11⟩
def q60:StT S:=⟨(N (N (N L (some (.ptr 5 0)) (N L vy L)) (some (.ptr 1 0)) (N (N L vv L) none L)) none (N L (some (.ptr 4 0)) (N (N L vy L) none L))),o19,11⟩
def q61:Way S:=⟨(.exit 0),⟨(N (N (N L (some (.ptr 5 0)) L) (some (.ptr 1 0)) L) none (N L (some (.ptr 4 0)) L)),o19,12⟩,[(.st 22),(.st 22),(.arr (.st 5)),.bool,(.st 22)]⟩
def q62:LE S:=⟨q5Z,q60,[.int,(.lst (.st 19)),.int,(.st 22),(.st 22),(.arr (.st 5)),.bool,(.st 22)],[q61]⟩
def q63 (x:tqi):(Nat->Y2)->tqp:=fun y0=>(x.u3,x.u4,y0,x.u6,x.v7)
def q64 {R:Type} (x:tqi) (k:tqp->Option R):Option R:=(XS x.2.1 x.u2 x.u3 x.u4 x.u6 x.v7 (x.1,x.u5)).bind (fun y0=>k (x.u3,x.u4,y0,x.u6,x.v7))
def q65 (x:tqi) (v:(Int×(Nat->Y2))):tqi:=(v.1,x.2.1,x.u2,x.u3,x.u4,v.2,x.u6,x.v7)
theorem q66 (x:tqi):LE.step X q62 q4D q2I q4 12 x=Xk x.2.1 x.u2 x.u3 x.u4 x.u6 x.v7 x.1 x.u5 (fun w0 w1=>(Sum.inl (w0,x.2.1,x.u2,x.u3,x.u4,w1,x.u6,x.v7))) (fun p0=>(Sum.inr (x.u3,x.u4,p0,x.u6,x.v7))):=by kernel_rfl
theorem q68 {R:Type} (x:tqi) (k:tqp->Option R) (r:R) (h:q64 x k=some r):∃o,Z6b (LE.step X q62 q4D q2I q4 12) x o/\k o=some r:=by
 obtain⟨o,h1,h2⟩:=Z0 h;exact⟨q63 x o,Zk9 (st:=fun(x:tqi)=>Xa x.2.1 x.u2 x.u3 x.u4 x.u6 x.v7) (prj:=fun x=>(x.1,x.u5)) (emb:=q65) (embO:=q63) (fun x=>(q66 x).trans (by unfold Xa Xk;simp only[Zk0,ZjR,Zk1,Option.map_some,Option.map_none];rfl)) (fun _ _=>rfl) (fun _ _=>rfl) (fun _ _ _=>rfl) (fun _ _ _=>rfl) (fun _=>rfl) (Z29.1 h1),by first|exact h2|(rcases o with o<;>exact h2)⟩
def q69 {R:Type}:Z2K S R:=LE.ls X q62 q64 q4
theorem q6a {R:Type}:Z4g X (q69 (R:=R)):=Zkd xok q4E (e:=q62) q2J q5 q68 q5
theorem q6b (x:(Zc×Zc×Bool×Zc)):PE.step X q5U q4D q5P q69 12 x=XE x.1 x.2.1 x.u2 x.v3:=by kernel_rfl
theorem q6c:ZcD X q5U WD:=Zke (ZjE xok q4E q5Q q6a 12) fun x _ h=>((q6b x).trans (X2g x).symm).trans h
def q6d {R:Type}:Prs S R:=PE.ps X q5U (fun x q=>(WD x).bind q) q5P
theorem q6e {R:Type}:Z93 X (q6d (R:=R)):=Zk6 (e:=q5U) q6c q5Q
theorem q6g:ZaF X (q4D):=⟨q4y,trivial⟩
theorem q6j (x0:Zc):Zkf X q4D [(.st 22)] [.bool] q6d q4 12 60 (x0,())=Wh x0:=by kernel_rfl
def q6k:F7 S:=⟨[(.st 22)],[.bool],fun xs=>X4 xs.1⟩
theorem q6l:Zau X 60 q6k:=Zkc (Zkb xok q6g q6e q5 12 60) fun xs _ h=>((q6j xs.1).trans (X3i xs.1).symm).trans h
theorem q6q (x0:Zc) (x1:List Zr):Zkf X q2 [(.st 22),(.sl (.st 21))] [(.st 22)] q6d q4 12 108 (x0,x1,())=Wt x0 x1:=by kernel_rfl
def q6r:F7 S:=⟨[(.st 22),(.sl (.st 21))],[(.st 22)],fun xs=>X27 xs.1 xs.2.1⟩
theorem q6s:Zau X 108 q6r:=Zkc (Zkb xok q3 q6e q5 12 108) fun xs _ h=>((q6q xs.1 xs.2.1).trans (X3r xs.1 xs.2.1).symm).trans h
theorem q6x (x0:Int):Zkf X q2 [(.int .u32)] [(.int .i64)] q6d q4 12 165 (x0,())=X1J x0:=by kernel_rfl
def q6y:F7 S:=⟨[(.int .u32)],[(.int .i64)],fun xs=>X4M xs.1⟩
theorem q6z:Zau X 165 q6y:=Zkc (Zkb xok q3 q6e q5 12 165) fun xs _ h=>((q6x xs.1).trans (X5H xs.1).symm).trans h
theorem q6E (x0:Int):Zkf X q2 [(.int .u64)] [(.int .i64)] q6d q4 12 166 (x0,())=X1K x0:=by kernel_rfl
def q6F:F7 S:=⟨[(.int .u64)],[(.int .i64)],fun xs=>X4N xs.1⟩
theorem q6G:Zau X 166 q6F:=Zkc (Zkb xok q3 q6e q5 12 166) fun xs _ h=>((q6E xs.1).trans (X5I xs.1).symm).trans h
def q6H:List (Nat×F7 S):=[(165,q6y),(166,q6F)]
theorem q6I:ZaF X (q6H):=⟨q6z,q6G,trivial⟩
theorem q6L (x0:Int):Zkf X q6H [(.int .u64)] [(.int .i64)] q6d q4 12 140 (x0,())=X2q x0:=by kernel_rfl
def q6M:F7 S:=⟨[(.int .u64)],[(.int .i64)],fun xs=>X5A xs.1⟩
theorem q6N:Zau X 140 q6M:=Zkc (Zkb xok q6I q6e q5 12 140) fun xs _ h=>((q6L xs.1).trans (X6d xs.1).symm).trans h
theorem q6S (x0:Int):Zkf X q2 [(.int .i64)] [.bool] q6d q4 12 142 (x0,())=X5s x0:=by kernel_rfl
def q6T:F7 S:=⟨[(.int .i64)],[.bool],fun xs=>X5s xs.1⟩
theorem q6U:Zau X 142 q6T:=Zkc (Zkb xok q3 q6e q5 12 142) fun xs _ h=>(q6S xs.1).trans h
def q6V:List (Nat×F7 S):=[(142,q6T)]
theorem q6W:ZaF X (q6V):=⟨q6U,trivial⟩
theorem q6Z (x0 x1:Int):Zkf X q6V [(.int .i64),(.int .i64)] [.bool] q6d q4 12 162 (x0,x1,())=X2I x0 x1:=by kernel_rfl
def q70:F7 S:=⟨[(.int .i64),(.int .i64)],[.bool],fun xs=>X5O xs.1 xs.2.1⟩
theorem q71:Zau X 162 q70:=Zkc (Zkb xok q6W q6e q5 12 162) fun xs _ h=>((q6Z xs.1 xs.2.1).trans (X6v xs.1 xs.2.1).symm).trans h
def q72:List (Nat×F7 S):=[(162,q70)]
theorem q73:ZaF X (q72):=⟨q71,trivial⟩
theorem q76 (x0:List Int) (x1 x2:Int):Zkf X q72 [(.sl (.int .i64)),(.int .i64),(.int .i64)] [] q6d q4 12 156 (x0,x1,x2,())=XC x0 x1 x2:=by kernel_rfl
def q77:F7 S:=⟨[(.sl (.int .i64)),(.int .i64),(.int .i64)],[],fun xs=>X1I xs.1 xs.2.1 xs.u2⟩
theorem q78:Zau X 156 q77:=Zkc (Zkb xok q73 q6e q5 12 156) fun xs _ h=>((q76 xs.1 xs.2.1 xs.u2).trans (X34 xs.1 xs.2.1 xs.u2).symm).trans h
theorem q7d (x0:List Int) (x1 x2 x3:Int):Zkf X q72 [(.sl (.int .i64)),(.int .i64),(.int .i64),(.int .i64)] [] q6d q4 12 183 (x0,x1,x2,x3,())=W3 x0 x1 x2 x3:=by kernel_rfl
def q7e:F7 S:=⟨[(.sl (.int .i64)),(.int .i64),(.int .i64),(.int .i64)],[],fun xs=>X2G xs.1 xs.2.1 xs.u2 xs.u3⟩
theorem q7f:Zau X 183 q7e:=Zkc (Zkb xok q73 q6e q5 12 183) fun xs _ h=>((q7d xs.1 xs.2.1 xs.u2 xs.u3).trans (X3K xs.1 xs.2.1 xs.u2 xs.u3).symm).trans h
def q7g:List (Nat×F7 S):=[(183,q7e)]
theorem q7h:ZaF X (q7g):=⟨q7f,trivial⟩
theorem q7k (x0:List Int) (x1 x2:Int):Zkf X q7g [(.sl (.int .i64)),(.int .i64),(.int .i64)] [] q6d q4 12 157 (x0,x1,x2,())=W2 x0 x1 x2:=by kernel_rfl
def q7l:F7 S:=⟨[(.sl (.int .i64)),(.int .i64),(.int .i64)],[],fun xs=>X2F xs.1 xs.2.1 xs.u2⟩
theorem q7m:Zau X 157 q7l:=Zkc (Zkb xok q7h q6e q5 12 157) fun xs _ h=>((q7k xs.1 xs.2.1 xs.u2).trans (X3J xs.1 xs.2.1 xs.u2).symm).trans h
def q7n:List (Nat×F7 S):=[(140,q6M)]
theorem q7o:ZaF X (q7n):=⟨q6N,trivial⟩
theorem q7r (x0:Int):Zkf X q7n [(.int .i64)] [(.int .u64)] q6d q4 12 184 (x0,())=WE x0:=by kernel_rfl
def q7s:F7 S:=⟨[(.int .i64)],[(.int .u64)],fun xs=>X3t xs.1⟩
theorem q7t:Zau X 184 q7s:=Zkc (Zkb xok q7o q6e q5 12 184) fun xs _ h=>((q7r xs.1).trans (X4l xs.1).symm).trans h
def q7u:List (Nat×F7 S):=[(184,q7s)]
theorem q7v:ZaF X (q7u):=⟨q7t,trivial⟩
theorem q7y (x0:List Int) (x1 x2:Int):Zkf X q7u [(.sl (.int .i64)),(.int .i64),(.int .i64)] [] q6d q4 12 158 (x0,x1,x2,())=XB x0 x1 x2:=by kernel_rfl
def q7z:F7 S:=⟨[(.sl (.int .i64)),(.int .i64),(.int .i64)],[],fun xs=>X1H xs.1 xs.2.1 xs.u2⟩
theorem q7A:Zau X 158 q7z:=Zkc (Zkb xok q7v q6e q5 12 158) fun xs _ h=>((q7y xs.1 xs.2.1 xs.u2).trans (X33 xs.1 xs.2.1 xs.u2).symm).trans h
theorem q7F (x0:List Int) (x1 x2:Int):Zkf X q72 [(.sl (.int .i64)),(.int .i64),(.int .i64)] [(.int .i64),(.int .i64)] q6d q4 12 159 (x0,x1,x2,())=XO x0 x1 x2:=by kernel_rfl
def q7G:F7 S:=⟨[(.sl (.int .i64)),(.int .i64),(.int .i64)],[(.int .i64),(.int .i64)],fun xs=>X21 xs.1 xs.2.1 xs.u2⟩
theorem q7H:Zau X 159 q7G:=Zkc (Zkb xok q73 q6e q5 12 159) fun xs _ h=>((q7F xs.1 xs.2.1 xs.u2).trans (X3o xs.1 xs.2.1 xs.u2).symm).trans h
theorem q7M (x0:List Int) (x1 x2:Int):Zkf X q2 [(.sl (.int .i64)),(.int .i64),(.int .i64)] [] q6d q4 12 160 (x0,x1,x2,())=XG x0 x1 x2:=by kernel_rfl
def q7N:F7 S:=⟨[(.sl (.int .i64)),(.int .i64),(.int .i64)],[],fun xs=>X1U xs.1 xs.2.1 xs.u2⟩
theorem q7O:Zau X 160 q7N:=Zkc (Zkb xok q3 q6e q5 12 160) fun xs _ h=>((q7M xs.1 xs.2.1 xs.u2).trans (X3g xs.1 xs.2.1 xs.u2).symm).trans h
theorem q7T (x0:List Int) (x1 x2:Int):Zkf X q72 [(.sl (.int .i64)),(.int .i64),(.int .i64)] [.bool] q6d q4 12 161 (x0,x1,x2,())=Xb x0 x1 x2:=by kernel_rfl
def q7U:F7 S:=⟨[(.sl (.int .i64)),(.int .i64),(.int .i64)],[.bool],fun xs=>WO xs.1 xs.2.1 xs.u2⟩
theorem q7V:Zau X 161 q7U:=Zkc (Zkb xok q73 q6e q5 12 161) fun xs _ h=>((q7T xs.1 xs.2.1 xs.u2).trans (X2n xs.1 xs.2.1 xs.u2).symm).trans h
theorem q80 (x0:List Int) (x1 x2 x3:Int):Zkf X q72 [(.sl (.int .i64)),(.int .i64),(.int .i64),(.int .i64)] [(.int .i64)] q6d q4 12 163 (x0,x1,x2,x3,())=Xq x0 x1 x2 x3:=by kernel_rfl
def q81:F7 S:=⟨[(.sl (.int .i64)),(.int .i64),(.int .i64),(.int .i64)],[(.int .i64)],fun xs=>X1F xs.1 xs.2.1 xs.u2 xs.u3⟩
theorem q82:Zau X 163 q81:=Zkc (Zkb xok q73 q6e q5 12 163) fun xs _ h=>((q80 xs.1 xs.2.1 xs.u2 xs.u3).trans (X2T xs.1 xs.2.1 xs.u2 xs.u3).symm).trans h
theorem q87 (x0:List Int) (x1 x2 x3:Int):Zkf X q72 [(.sl (.int .i64)),(.int .i64),(.int .i64),(.int .i64)] [(.int .i64),.bool] q6d q4 12 164 (x0,x1,x2,x3,())=XV x0 x1 x2 x3:=by kernel_rfl
def q88:F7 S:=⟨[(.sl (.int .i64)),(.int .i64),(.int .i64),(.int .i64)],[(.int .i64),.bool],fun xs=>X2r xs.1 xs.2.1 xs.u2 xs.u3⟩
theorem q89:Zau X 164 q88:=Zkc (Zkb xok q73 q6e q5 12 164) fun xs _ h=>((q87 xs.1 xs.2.1 xs.u2 xs.u3).trans (X3A xs.1 xs.2.1 xs.u2 xs.u3).symm).trans h
def q8a (ih:tqM->Option (Unit)):List (Nat×F7 S):=[(156,q77),(157,q7l),(158,q7z),(159,q7G),(160,q7N),(161,q7U),(162,q70),(163,q81),(164,q88),(139,⟨[(.sl (.int .i64)),(.int .i64),(.int .i64),(.int .i64)],[],ih⟩)]
theorem q8b (ih:tqM->Option (Unit)) (hih:Zau X 139 ⟨[(.sl (.int .i64)),(.int .i64),(.int .i64),(.int .i64)],[],ih⟩):ZaF X (q8a ih):=⟨q78,q7m,q7A,q7H,q7O,q7V,q71,q82,q89,hih,trivial⟩
abbrev q8c (ih:tqM->Option (Unit)) {R:Type}:Z2K S R:=ZiZ
theorem q8d (ih:tqM->Option (Unit)) (hih:Zau X 139 ⟨[(.sl (.int .i64)),(.int .i64),(.int .i64),(.int .i64)],[],ih⟩) {R:Type}:Z4g X (q8c ih (R:=R)):=ZjA X
theorem q8e (ih:tqM->Option (Unit)) (x0:List Int) (x1 x2 x3:Int):Zkf X (q8a ih) [(.sl (.int .i64)),(.int .i64),(.int .i64),(.int .i64)] [] q6d (q8c ih) 12 139 (x0,x1,x2,x3,())=X23 ih x0 x1 x2 x3:=by kernel_rfl
def q8f:F7 S:=⟨[(.sl (.int .i64)),(.int .i64),(.int .i64),(.int .i64)],[],fun xs=>X46 xs.1 xs.2.1 xs.u2 xs.u3⟩
theorem q8g:Zau X 139 q8f:=ZkR (X:=X) (g:=139) (pts:=[(.sl (.int .i64)),(.int .i64),(.int .i64),(.int .i64)]) (rts:=[]) (t:=X24) fun ih hih=>Zkc (Zkb xok (q8b ih hih) q6e (q8d ih hih) 12 139) fun xs _ h=>(q8e ih xs.1 xs.2.1 xs.u2 xs.u3).trans h
def q8h:List (Nat×F7 S):=[(108,q6r),(60,q6k),(140,q6M),(139,q8f)]
theorem q8i:ZaF X (q8h):=⟨q6s,q6l,q6N,q8g,trivial⟩
def q8l:Key:=⟨[61],61,none,[0,0,1,0,1,1],0,12⟩
def q8m:StT S:=⟨(N (N (N (N L (some (.map 2)) L) (some (.ptr 0 0)) L) vy v1i) none (N L vy (N (N (N L vy L) none L) (some .nils) L))),o16,12⟩
def q8n:Way S:=⟨(.exit 0),⟨(N (N (N (N L (some (.map 2)) L) none L) none L) none (N L none (N L (some .nils) L))),o16,13⟩,[(.st 22),(.mp (.int .i64) (.int .i64))]⟩
def q8o:LE S:=⟨q8l,q8m,[.int,.int,.int,.int,(.st 22),(.mp (.int .i64) (.int .i64))],[q8n]⟩
def q8p (x:tqv):(List (Int×Int))->(Zc×(List (Int×Int))):=fun y0=>(x.u4,y0)
def q8q {R:Type} (x:tqv) (k:(Zc×(List (Int×Int)))->Option R):Option R:=(X1d x.1 x.2.1 x.u2 x.u4 (x.u3,x.v5)).bind (fun y0=>k (x.u4,y0))
def q8r (x:tqv) (v:(Int×(List (Int×Int)))):tqv:=(x.1,x.2.1,x.u2,v.1,x.u4,v.2)
theorem q8s (x:tqv):LE.step X q8o q8h q6d q4 12 x=XK x.1 x.2.1 x.u2 x.u4 x.u3 x.v5 (fun w0 w1=>(Sum.inl (x.1,x.2.1,x.u2,w0,x.u4,w1))) (fun p0=>(Sum.inr (x.u4,p0))):=by kernel_rfl
theorem q8u {R:Type} (x:tqv) (k:(Zc×(List (Int×Int)))->Option R) (r:R) (h:q8q x k=some r):∃o,Z6b (LE.step X q8o q8h q6d q4 12) x o/\k o=some r:=by
 obtain⟨o,h1,h2⟩:=Z0 h;exact⟨q8p x o,Zk9 (st:=fun(x:tqv)=>Xy x.1 x.2.1 x.u2 x.u4) (prj:=fun x=>(x.u3,x.v5)) (emb:=q8r) (embO:=q8p) (fun x=>(q8s x).trans (by unfold Xy XK;simp only[Zk0,ZjR,Zk1,Option.map_some,Option.map_none];rfl)) (fun _ _=>rfl) (fun _ _=>rfl) (fun _ _ _=>rfl) (fun _ _ _=>rfl) (fun _=>rfl) (Z29.1 h1),by first|exact h2|(rcases o with o<;>exact h2)⟩
def q8v {R:Type}:Z2K S R:=LE.ls X q8o q8q q4
theorem q8w {R:Type}:Z4g X (q8v (R:=R)):=Zkd xok q8i (e:=q8o) q6e q5 q8u q5
theorem q8x (x0:Zc) (x1 x2:Int):Zkf X q8h [(.st 22),(.int .i64),(.int .i64)] [(.sl (.int .i64))] q6d q8v 12 61 (x0,x1,x2,())=Wa x0 x1 x2:=by kernel_rfl
def q8y:F7 S:=⟨[(.st 22),(.int .i64),(.int .i64)],[(.sl (.int .i64))],fun xs=>X1v xs.1 xs.2.1 xs.u2⟩
theorem q8z:Zau X 61 q8y:=Zkc (Zkb xok q8i q6e q8w 12 61) fun xs _ h=>((q8x xs.1 xs.2.1 xs.u2).trans (X3b xs.1 xs.2.1 xs.u2).symm).trans h
theorem q8E (x0 x1 x2:Int):Zkf X q2 [(.int .i64),(.int .i64),(.int .i64)] [.bool] q6d q4 12 62 (x0,x1,x2,())=X3n x0 x1 x2:=by kernel_rfl
def q8F:F7 S:=⟨[(.int .i64),(.int .i64),(.int .i64)],[.bool],fun xs=>X3I xs.1 xs.2.1 xs.u2⟩
theorem q8G:Zau X 62 q8F:=Zkc (Zkb xok q3 q6e q5 12 62) fun xs _ h=>((q8E xs.1 xs.2.1 xs.u2).trans (X6k xs.1 xs.2.1 xs.u2).symm).trans h
theorem q8L (x0 x1 x2:Int):Zkf X q2 [(.int .i64),(.int .i64),(.int .i64)] [.bool] q6d q4 12 121 (x0,x1,x2,())=X45 x0 x1 x2:=by kernel_rfl
def q8M:F7 S:=⟨[(.int .i64),(.int .i64),(.int .i64)],[.bool],fun xs=>X45 xs.1 xs.2.1 xs.u2⟩
theorem q8N:Zau X 121 q8M:=Zkc (Zkb xok q3 q6e q5 12 121) fun xs _ h=>(q8L xs.1 xs.2.1 xs.u2).trans h
def q8O:List (Nat×F7 S):=[(121,q8M)]
theorem q8P:ZaF X (q8O):=⟨q8N,trivial⟩
def q8S:Key:=⟨[131],131,none,[0,0,1,0,1,1],0,6⟩
def q8T:StT S:=⟨(N (N (N L vy L) none L) vs L),L,6⟩
def q8U:Way S:=⟨.ret,⟨(N L none (N L vz L)),L,43⟩,[.bool]⟩
def q8V:Way S:=⟨(.exit 0),⟨L,L,10⟩,[]⟩
def q8W:LE S:=⟨q8S,q8T,[.int,.str],[q8U,q8V]⟩
def q8X (x:(Int×ByteArray)):(Bool⊕Unit)->(Bool⊕Unit):=Sum.elim (fun y0=>(.inl y0)) (fun y1=>(.inr ()))
def q8Y {R:Type} (x:(Int×ByteArray)) (k:(Bool⊕Unit)->Option R):Option R:=(X4f x.2 x.1).bind (Sum.elim (fun y0=>k (.inl y0)) (fun y1=>k (.inr ())))
def q8Z (x:(Int×ByteArray)) (v:Int):(Int×ByteArray):=(v,x.2)
theorem q90 (x:(Int×ByteArray)):LE.step X q8W q8O q6d q4 12 x=X1p x.2 x.1 (fun w0=>(Sum.inl (w0,x.2))) (fun p0=>(Sum.inr (.inl p0))) (Sum.inr (.inr ())):=by kernel_rfl
theorem q92 {R:Type} (x:(Int×ByteArray)) (k:(Bool⊕Unit)->Option R) (r:R) (h:q8Y x k=some r):∃o,Z6b (LE.step X q8W q8O q6d q4 12) x o/\k o=some r:=by
 obtain⟨o,h1,h2⟩:=Z0 h;exact⟨q8X x o,Zk9 (st:=fun(x:(Int×ByteArray))=>X1i x.2) (prj:=fun x=>x.1) (emb:=q8Z) (embO:=q8X) (fun x=>(q90 x).trans (by unfold X1i X1p;simp only[Zk0,ZjR,Zk1,Option.map_some,Option.map_none];rfl)) (fun _ _=>rfl) (fun _ _=>rfl) (fun _ _ _=>rfl) (fun _ _ _=>rfl) (fun _=>rfl) (Z29.1 h1),by first|exact h2|(rcases o with o|o<;>exact h2)⟩
def q93 {R:Type}:Z2K S R:=LE.ls X q8W q8Y q4
theorem q94 {R:Type}:Z4g X (q93 (R:=R)):=Zkd xok q8P (e:=q8W) q6e q5 q92 q5
theorem q95 (x0:ByteArray):Zkf X q8O [.str] [.bool] q6d q93 12 131 (x0,())=X44 x0:=by kernel_rfl
def q96:F7 S:=⟨[.str],[.bool],fun xs=>X44 xs.1⟩
theorem q97:Zau X 131 q96:=Zkc (Zkb xok q8P q6e q94 12 131) fun xs _ h=>(q95 xs.1).trans h
def q9c:Key:=⟨[132],132,none,[0,0,1,0,1],0,2⟩
def q9d:StT S:=⟨(N (N L vs (N L vy L)) (some (.sl .str [])) L),L,2⟩
def q9e:Way S:=⟨.ret,⟨v1j,L,14⟩,[.int]⟩
def q9f:Way S:=⟨(.exit 0),⟨L,L,6⟩,[]⟩
def q9g:LE S:=⟨q9c,q9d,[.str,.int,(.lst .str)],[q9e,q9f]⟩
def q9h (x:tqP):(Int⊕Unit)->(Int⊕Unit):=Sum.elim (fun y0=>(.inl y0)) (fun y1=>(.inr ()))
def q9i {R:Type} (x:tqP) (k:(Int⊕Unit)->Option R):Option R:=(X30 x.1 x.v2 x.2.1).bind (Sum.elim (fun y0=>k (.inl y0)) (fun y1=>k (.inr ())))
def q9j (x:tqP) (v:Int):tqP:=(x.1,v,x.v2)
theorem q9k (x:tqP):LE.step X q9g q2 q6d q4 12 x=X14 x.1 x.v2 x.2.1 (fun w0=>(Sum.inl (x.1,w0,x.v2))) (fun p0=>(Sum.inr (.inl p0))) (Sum.inr (.inr ())):=by kernel_rfl
theorem q9m {R:Type} (x:tqP) (k:(Int⊕Unit)->Option R) (r:R) (h:q9i x k=some r):∃o,Z6b (LE.step X q9g q2 q6d q4 12) x o/\k o=some r:=by
 obtain⟨o,h1,h2⟩:=Z0 h;exact⟨q9h x o,Zk9 (st:=fun(x:tqP)=>Wu x.1 x.v2) (prj:=fun x=>x.2.1) (emb:=q9j) (embO:=q9h) (fun x=>(q9k x).trans (by unfold Wu X14;simp only[Zk0,ZjR,Zk1,Option.map_some,Option.map_none];rfl)) (fun _ _=>rfl) (fun _ _=>rfl) (fun _ _ _=>rfl) (fun _ _ _=>rfl) (fun _=>rfl) (Z29.1 h1),by first|exact h2|(rcases o with o|o<;>exact h2)⟩
def q9n {R:Type}:Z2K S R:=LE.ls X q9g q9i q4
theorem q9o {R:Type}:Z4g X (q9n (R:=R)):=Zkd xok q3 (e:=q9g) q6e q5 q9m q5
theorem q9p (x0:List ByteArray) (x1:ByteArray):Zkf X q2 [(.sl .str),.str] [(.int .i64)] q6d q9n 12 132 (x0,x1,())=X4g x0 x1:=by kernel_rfl
def q9q:F7 S:=⟨[(.sl .str),.str],[(.int .i64)],fun xs=>X4g xs.1 xs.2.1⟩
theorem q9r:Zau X 132 q9q:=Zkc (Zkb xok q3 q6e q9o 12 132) fun xs _ h=>(q9p xs.1 xs.2.1).trans h
def q9s:List (Nat×F7 S):=[(131,q96),(132,q9q)]
theorem q9t:ZaF X (q9s):=⟨q97,q9r,trivial⟩
theorem q9w (x0:ByteArray) (x1:List ByteArray):Zkf X q9s [.str,(.sl .str)] [(.int .i64)] q6d q4 12 99 (x0,x1,())=X3H x0 x1:=by kernel_rfl
def q9x:F7 S:=⟨[.str,(.sl .str)],[(.int .i64)],fun xs=>X3H xs.1 xs.2.1⟩
theorem q9y:Zau X 99 q9x:=Zkc (Zkb xok q9t q6e q5 12 99) fun xs _ h=>(q9w xs.1 xs.2.1).trans h
def q9D:Key:=⟨[155],155,none,[0,0,1,0,1,1],0,3⟩
def q9E:StT S:=⟨(N (N (N (N L vy L) none L) vy L) (some (.sl (.st 5) [])) (N (N (N L vy L) none L) vy L)),L,3⟩
def q9F:Way S:=⟨.ret,⟨(N L none (N L none (N L vy L))),L,28⟩,[.int]⟩
def q9G:Way S:=⟨(.exit 0),⟨(N v1i none L),L,7⟩,[.int]⟩
def q9H:LE S:=⟨q9D,q9E,[.int,.int,(.lst (.st 5)),.int,.int],[q9F,q9G]⟩
def q9I (x:tqN):(Int⊕Int)->(Int⊕Int):=Sum.elim (fun y0=>(.inl y0)) (fun y1=>(.inr y1))
def q9J {R:Type} (x:tqN) (k:(Int⊕Int)->Option R):Option R:=(X3Q x.2.1 x.u2 x.v4 (x.1,x.u3)).bind (Sum.elim (fun y0=>k (.inl y0)) (fun y1=>k (.inr y1)))
def q9K (x:tqN) (v:(Int×Int)):tqN:=(v.1,x.2.1,x.u2,v.2,x.v4)
theorem q9L (x:tqN):LE.step X q9H q8O q6d q4 12 x=WM x.2.1 x.u2 x.v4 x.1 x.u3 (fun w0 w1=>(Sum.inl (w0,x.2.1,x.u2,w1,x.v4))) (fun p0=>(Sum.inr (.inl p0))) (fun p0=>(Sum.inr (.inr p0))):=by kernel_rfl
theorem q9N {R:Type} (x:tqN) (k:(Int⊕Int)->Option R) (r:R) (h:q9J x k=some r):∃o,Z6b (LE.step X q9H q8O q6d q4 12) x o/\k o=some r:=by
 obtain⟨o,h1,h2⟩:=Z0 h;exact⟨q9I x o,Zk9 (st:=fun(x:tqN)=>WJ x.2.1 x.u2 x.v4) (prj:=fun x=>(x.1,x.u3)) (emb:=q9K) (embO:=q9I) (fun x=>(q9L x).trans (by unfold WJ WM;simp only[Zk0,ZjR,Zk1,Option.map_some,Option.map_none];rfl)) (fun _ _=>rfl) (fun _ _=>rfl) (fun _ _ _=>rfl) (fun _ _ _=>rfl) (fun _=>rfl) (Z29.1 h1),by first|exact h2|(rcases o with o|o<;>exact h2)⟩
def q9O {R:Type}:Z2K S R:=LE.ls X q9H q9J q4
theorem q9P {R:Type}:Z4g X (q9O (R:=R)):=Zkd xok q8P (e:=q9H) q6e q5 q9N q5
theorem q9Q (x0:List Y2) (x1 x2:Int):Zkf X q8O [(.sl (.st 5)),(.int .i64),(.int .i64)] [(.int .i64)] q6d q9O 12 155 (x0,x1,x2,())=X3m x0 x1 x2:=by kernel_rfl
def q9R:F7 S:=⟨[(.sl (.st 5)),(.int .i64),(.int .i64)],[(.int .i64)],fun xs=>X3m xs.1 xs.2.1 xs.u2⟩
theorem q9S:Zau X 155 q9R:=Zkc (Zkb xok q8P q6e q9P 12 155) fun xs _ h=>(q9Q xs.1 xs.2.1 xs.u2).trans h
def q9T:List (Nat×F7 S):=[(155,q9R)]
theorem q9U:ZaF X (q9T):=⟨q9S,trivial⟩
theorem q9X (x0:Y2) (x1 x2:Int):Zkf X q9T [(.st 5),(.int .i64),(.int .i64)] [(.int .i64)] q6d q4 12 133 (x0,x1,x2,())=X4h x0 x1 x2:=by kernel_rfl
def q9Y:F7 S:=⟨[(.st 5),(.int .i64),(.int .i64)],[(.int .i64)],fun xs=>X4h xs.1 xs.2.1 xs.u2⟩
theorem q9Z:Zau X 133 q9Y:=Zkc (Zkb xok q9U q6e q5 12 133) fun xs _ h=>(q9X xs.1 xs.2.1 xs.u2).trans h
def qa0:List (Nat×F7 S):=[(62,q8F),(133,q9Y)]
theorem qa1:ZaF X (qa0):=⟨q8G,q9Z,trivial⟩
theorem qa4 (x0:CoRecord) (x1 x2:Int) (x3:Y2):Zkf X qa0 [(.st 20),(.int .i64),(.int .i64),(.st 5)] [(.int .i64)] q6d q4 12 100 (x0,x1,x2,x3,())=X2C x0 x1 x2 x3:=by kernel_rfl
def qa5:F7 S:=⟨[(.st 20),(.int .i64),(.int .i64),(.st 5)],[(.int .i64)],fun xs=>X4B xs.1 xs.2.1 xs.u2 xs.u3⟩
theorem qa6:Zau X 100 qa5:=Zkc (Zkb xok qa1 q6e q5 12 100) fun xs _ h=>((qa4 xs.1 xs.2.1 xs.u2 xs.u3).trans (X5E xs.1 xs.2.1 xs.u2 xs.u3).symm).trans h
def qa7:List (Nat×F7 S):=[(62,q8F),(99,q9x),(100,qa5)]
theorem qa8:ZaF X (qa7):=⟨q8G,q9y,qa6,trivial⟩
def qab:Key:=⟨[47],47,none,[0,0,1,0,1,1,1],0,17⟩
def qac:StT S:=⟨(N (N L (some (.ptr 0 0)) (N L (some (.rs 17 0)) L)) none (N L none (N L vy L))),o1e,18⟩
def qad:Way S:=⟨.ret,⟨v1f,oV,66⟩,[.int,.int,.int,(.lst .str),(.st 20),(.st 18),(.lst .str)]⟩
def qae:Way S:=⟨.ret,⟨v1f,oV,65⟩,[.int,.int,.int,(.lst .str),(.st 20),(.st 18),(.lst .str)]⟩
def qaf:Way S:=⟨(.exit 0),⟨(N (N L (some (.ptr 0 0)) L) none L),o1e,23⟩,[(.lst .str),(.st 20)]⟩
def qag:LE S:=⟨qab,qac,[.int,(.lst .str),(.st 20)],[qad,qae,qaf]⟩
def qah (x:tqR):((Int×Int×Int×(List ByteArray)×Zm×(List ByteArray))⊕(Int×Int×Int×(List ByteArray)×Zm×(List ByteArray))⊕(List ByteArray))->tq6:=Sum.elim (fun y0=>(.inl (y0.1,y0.2.1,y0.u2,y0.u3,x.v2,y0.u4,y0.v5))) (Sum.elim (fun y1=>(.inr (.inl (y1.1,y1.2.1,y1.u2,y1.u3,x.v2,y1.u4,y1.v5)))) (fun y2=>(.inr (.inr (y2,x.v2)))))
def qai {R:Type} (x:tqR) (k:tq6->Option R):Option R:=(X31 x.v2 (x.1,x.2.1)).bind (Sum.elim (fun y0=>k (.inl (y0.1,y0.2.1,y0.u2,y0.u3,x.v2,y0.u4,y0.v5))) (Sum.elim (fun y1=>k (.inr (.inl (y1.1,y1.2.1,y1.u2,y1.u3,x.v2,y1.u4,y1.v5)))) (fun y2=>k (.inr (.inr (y2,x.v2))))))
def qaj (x:tqR) (v:(Int×(List ByteArray))):tqR:=(v.1,v.2,x.v2)
theorem qak (x:tqR):LE.step X qag qa7 q6d q4 12 x=X15 x.v2 x.1 x.2.1 (fun w0 w1=>(Sum.inl (w0,w1,x.v2))) (fun p0 p1 p2 p3 p4 p5=>(Sum.inr (.inl (p0,p1,p2,p3,x.v2,p4,p5)))) (fun p0 p1 p2 p3 p4 p5=>(Sum.inr (.inr (.inl (p0,p1,p2,p3,x.v2,p4,p5))))) (fun p0=>(Sum.inr (.inr (.inr (p0,x.v2))))):=by kernel_rfl
theorem qam {R:Type} (x:tqR) (k:tq6->Option R) (r:R) (h:qai x k=some r):∃o,Z6b (LE.step X qag qa7 q6d q4 12) x o/\k o=some r:=by
 obtain⟨o,h1,h2⟩:=Z0 h;exact⟨qah x o,Zk9 (st:=fun(x:tqR)=>X1A x.v2) (prj:=fun x=>(x.1,x.2.1)) (emb:=qaj) (embO:=qah) (fun x=>(qak x).trans (by unfold X1A X15;simp only[Zk0,ZjR,Zk1,Option.map_some,Option.map_none];rfl)) (fun _ _=>rfl) (fun _ _=>rfl) (fun _ _ _=>rfl) (fun _ _ _=>rfl) (fun _=>rfl) (Z29.1 h1),by first|exact h2|(rcases o with o|o|o<;>exact h2)⟩
def qan {R:Type}:Z2K S R:=LE.ls X qag qai q4
theorem qao {R:Type}:Z4g X (qan (R:=R)):=Zkd xok qa8 (e:=qag) q6e q5 qam q5
def qap:Key:=⟨[47],47,none,[0,0,1,0,1,1,1,1],2,24⟩
def qaq:StT S:=⟨(N (N L (some (.ptr 0 0)) (N (N L vy L) none L)) none L),o1e,24⟩
def qar:Way S:=⟨.ret,⟨v1f,(N (N L none (N (N (N L ou L) none L) none L)) ob (N L none (N (N (N (N L od L) none L) none L) none L))),52⟩,[.int,.int,.int,(.lst .str),(.st 20),(.st 19)]⟩
def qas:Way S:=⟨(.exit 2),⟨(N (N L (some (.ptr 0 0)) L) none L),o1e,29⟩,[(.lst .str),(.st 20)]⟩
def qat:LE S:=⟨qap,qaq,[.int,(.lst .str),(.st 20)],[qar,qas]⟩
def qau (x:tqR):((Int×Int×Int×Zq)⊕Unit)->tqj:=Sum.elim (fun y0=>(.inl (y0.1,y0.2.1,y0.u2,x.2.1,x.v2,y0.v3))) (fun y1=>(.inr (x.2.1,x.v2)))
def qav {R:Type} (x:tqR) (k:tqj->Option R):Option R:=(X28 x.v2 x.1).bind (Sum.elim (fun y0=>k (.inl (y0.1,y0.2.1,y0.u2,x.2.1,x.v2,y0.v3))) (fun y1=>k (.inr (x.2.1,x.v2))))
def qaw (x:tqR) (v:Int):tqR:=(v,x.2.1,x.v2)
theorem qax (x:tqR):LE.step X qat qa7 q6d qan 12 x=X16 x.v2 x.1 (fun w0=>(Sum.inl (w0,x.2.1,x.v2))) (fun p0 p1 p2 p3=>(Sum.inr (.inl (p0,p1,p2,x.2.1,x.v2,p3)))) (Sum.inr (.inr (x.2.1,x.v2))):=by kernel_rfl
theorem qaz {R:Type} (x:tqR) (k:tqj->Option R) (r:R) (h:qav x k=some r):∃o,Z6b (LE.step X qat qa7 q6d qan 12) x o/\k o=some r:=by
 obtain⟨o,h1,h2⟩:=Z0 h;exact⟨qau x o,Zk9 (st:=fun(x:tqR)=>X1B x.v2) (prj:=fun x=>x.1) (emb:=qaw) (embO:=qau) (fun x=>(qax x).trans (by unfold X1B X16;simp only[Zk0,ZjR,Zk1,Option.map_some,Option.map_none];rfl)) (fun _ _=>rfl) (fun _ _=>rfl) (fun _ _ _=>rfl) (fun _ _ _=>rfl) (fun _=>rfl) (Z29.1 h1),by first|exact h2|(rcases o with o|o<;>exact h2)⟩
def qaA {R:Type}:Z2K S R:=LE.ls X qat qav qan
theorem qaB {R:Type}:Z4g X (qaA (R:=R)):=Zkd xok qa8 (e:=qat) q6e qao qaz qao
def qaC:Key:=⟨[47],47,none,[0,0,1,0,1,1,1,1,1,1],4,31⟩
def qaD:StT S:=⟨(N (N L (some (.ptr 0 0)) (N L none (N L vy L))) none v1m),o1e,31⟩
def qaE:Way S:=⟨.ret,⟨v1f,o1e,59⟩,[.int,.int,.int,(.lst .str),(.st 20)]⟩
def qaF:Way S:=⟨(.exit 4),⟨L,o1e,36⟩,[(.lst .str),(.st 20)]⟩
def qaG:LE S:=⟨qaC,qaD,[.int,.int,(.lst .str),(.st 20)],[qaE,qaF]⟩
def qaH (x:tqH):((Int×Int×Int)⊕Unit)->tql:=Sum.elim (fun y0=>(.inl (y0.1,y0.2.1,y0.v2,x.u2,x.v3))) (fun y1=>(.inr (x.u2,x.v3)))
def qaI {R:Type} (x:tqH) (k:tql->Option R):Option R:=(X29 x.v3 (x.1,x.2.1)).bind (Sum.elim (fun y0=>k (.inl (y0.1,y0.2.1,y0.v2,x.u2,x.v3))) (fun y1=>k (.inr (x.u2,x.v3))))
def qaJ (x:tqH) (v:(Int×Int)):tqH:=(v.1,v.2,x.u2,x.v3)
theorem qaK (x:tqH):LE.step X qaG qa7 q6d qaA 12 x=X17 x.v3 x.1 x.2.1 (fun w0 w1=>(Sum.inl (w0,w1,x.u2,x.v3))) (fun p0 p1 p2=>(Sum.inr (.inl (p0,p1,p2,x.u2,x.v3)))) (Sum.inr (.inr (x.u2,x.v3))):=by kernel_rfl
theorem qaM {R:Type} (x:tqH) (k:tql->Option R) (r:R) (h:qaI x k=some r):∃o,Z6b (LE.step X qaG qa7 q6d qaA 12) x o/\k o=some r:=by
 obtain⟨o,h1,h2⟩:=Z0 h;exact⟨qaH x o,Zk9 (st:=fun(x:tqH)=>X1C x.v3) (prj:=fun x=>(x.1,x.2.1)) (emb:=qaJ) (embO:=qaH) (fun x=>(qaK x).trans (by unfold X1C X17;simp only[Zk0,ZjR,Zk1,Option.map_some,Option.map_none];rfl)) (fun _ _=>rfl) (fun _ _=>rfl) (fun _ _ _=>rfl) (fun _ _ _=>rfl) (fun _=>rfl) (Z29.1 h1),by first|exact h2|(rcases o with o|o<;>exact h2)⟩
def qaN {R:Type}:Z2K S R:=LE.ls X qaG qaI qaA
theorem qaO {R:Type}:Z4g X (qaN (R:=R)):=Zkd xok qa8 (e:=qaG) q6e qaB qaM qaB
theorem qaP (x0:CoRecord):Zkf X qa7 [(.st 20)] [(.int .i64),(.int .i64),(.int .i64)] q6d qaN 12 47 (x0,())=X2l x0:=by kernel_rfl
def qaQ:F7 S:=⟨[(.st 20)],[(.int .i64),(.int .i64),(.int .i64)],fun xs=>X4i xs.1⟩
theorem qaR:Zau X 47 qaQ:=Zkc (Zkb xok qa8 q6e qaO 12 47) fun xs _ h=>((qaP xs.1).trans (X5g xs.1).symm).trans h
def qaS:List (Nat×F7 S):=[(58,q2W),(97,qL),(60,q6k)]
theorem qaT:ZaF X (qaS):=⟨q2X,qM,q6l,trivial⟩
theorem qaW (x0:CoRecord) (x1:List Zr) (x2:Zr):Zkf X qaS [(.st 20),(.sl (.st 21)),(.st 21)] [(.st 22),(.int .i64)] q6d q4 12 65 (x0,x1,x2,())=X2s x0 x1 x2:=by kernel_rfl
def qaX:F7 S:=⟨[(.st 20),(.sl (.st 21)),(.st 21)],[(.st 22),(.int .i64)],fun xs=>X3Y xs.1 xs.2.1 xs.u2⟩
theorem qaY:Zau X 65 qaX:=Zkc (Zkb xok qaT q6e q5 12 65) fun xs _ h=>((qaW xs.1 xs.2.1 xs.u2).trans (X5t xs.1 xs.2.1 xs.u2).symm).trans h
def qb3:Key:=⟨[141],141,none,[0,0,1,0,1],0,4⟩
def qb4:StT S:=⟨(N (N (N (N L vy L) none L) vy L) vt v1i),L,4⟩
def qb5:Way S:=⟨.ret,⟨v1j,L,15⟩,[.int]⟩
def qb6:Way S:=⟨(.exit 0),⟨L,L,5⟩,[]⟩
def qb7:LE S:=⟨qb3,qb4,[.int,.int,(.lst (.int .i64)),.int],[qb5,qb6]⟩
def qb8 (x:tqT):(Int⊕Unit)->(Int⊕Unit):=Sum.elim (fun y0=>(.inl y0)) (fun y1=>(.inr ()))
def qb9 {R:Type} (x:tqT) (k:(Int⊕Unit)->Option R):Option R:=(X1e x.1 x.2.1 x.u2 x.v3).bind (Sum.elim (fun y0=>k (.inl y0)) (fun y1=>k (.inr ())))
def qba (x:tqT) (v:Int):tqT:=(x.1,x.2.1,x.u2,v)
theorem qbb (x:tqT):LE.step X qb7 q2 q6d q4 12 x=XN x.1 x.2.1 x.u2 x.v3 (fun w0=>(Sum.inl (x.1,x.2.1,x.u2,w0))) (fun p0=>(Sum.inr (.inl p0))) (Sum.inr (.inr ())):=by kernel_rfl
theorem qbd {R:Type} (x:tqT) (k:(Int⊕Unit)->Option R) (r:R) (h:qb9 x k=some r):∃o,Z6b (LE.step X qb7 q2 q6d q4 12) x o/\k o=some r:=by
 obtain⟨o,h1,h2⟩:=Z0 h;exact⟨qb8 x o,Zk9 (st:=fun(x:tqT)=>XA x.1 x.2.1 x.u2) (prj:=fun x=>x.v3) (emb:=qba) (embO:=qb8) (fun x=>(qbb x).trans (by unfold XA XN;simp only[Zk0,ZjR,Zk1,Option.map_some,Option.map_none];rfl)) (fun _ _=>rfl) (fun _ _=>rfl) (fun _ _ _=>rfl) (fun _ _ _=>rfl) (fun _=>rfl) (Z29.1 h1),by first|exact h2|(rcases o with o|o<;>exact h2)⟩
def qbe {R:Type}:Z2K S R:=LE.ls X qb7 qb9 q4
theorem qbf {R:Type}:Z4g X (qbe (R:=R)):=Zkd xok q3 (e:=qb7) q6e q5 qbd q5
theorem qbg (x0:List Int) (x1:Int):Zkf X q2 [(.sl (.int .i64)),(.int .i64)] [(.int .i64)] q6d qbe 12 141 (x0,x1,())=We x0 x1:=by kernel_rfl
def qbh:F7 S:=⟨[(.sl (.int .i64)),(.int .i64)],[(.int .i64)],fun xs=>X1D xs.1 xs.2.1⟩
theorem qbi:Zau X 141 qbh:=Zkc (Zkb xok q3 q6e qbf 12 141) fun xs _ h=>((qbg xs.1 xs.2.1).trans (X3e xs.1 xs.2.1).symm).trans h
def qbj:List (Nat×F7 S):=[(141,qbh)]
theorem qbk:ZaF X (qbj):=⟨qbi,trivial⟩
theorem qbn (x0:List Int) (x1:Int):Zkf X qbj [(.sl (.int .i64)),(.int .i64)] [.bool] q6d q4 12 110 (x0,x1,())=XT x0 x1:=by kernel_rfl
def qbo:F7 S:=⟨[(.sl (.int .i64)),(.int .i64)],[.bool],fun xs=>WW xs.1 xs.2.1⟩
theorem qbp:Zau X 110 qbo:=Zkc (Zkb xok qbk q6e q5 12 110) fun xs _ h=>((qbn xs.1 xs.2.1).trans (X2D xs.1 xs.2.1).symm).trans h
def qbq:List (Nat×F7 S):=[(61,q8y),(110,qbo)]
theorem qbr:ZaF X (qbq):=⟨q8z,qbp,trivial⟩
theorem qbu (x0:Zc) (x1:Zr):Zkf X qbq [(.st 22),(.st 21)] [(.int .i64)] q6d q4 12 66 (x0,x1,())=W8 x0 x1:=by kernel_rfl
def qbv:F7 S:=⟨[(.st 22),(.st 21)],[(.int .i64)],fun xs=>XY xs.1 xs.2.1⟩
theorem qbw:Zau X 66 qbv:=Zkc (Zkb xok qbr q6e q5 12 66) fun xs _ h=>((qbu xs.1 xs.2.1).trans (X37 xs.1 xs.2.1).symm).trans h
def qbx:List (Nat×F7 S):=[(65,qaX),(66,qbv)]
theorem qby:ZaF X (qbx):=⟨qaY,qbw,trivial⟩
theorem qbB (x0:CoRecord) (x1:List Zr) (x2:Zr):Zkf X qbx [(.st 20),(.sl (.st 21)),(.st 21)] [(.int .i64),(.int .i64)] q6d q4 12 20 (x0,x1,x2,())=X1L x0 x1 x2:=by kernel_rfl
def qbC:F7 S:=⟨[(.st 20),(.sl (.st 21)),(.st 21)],[(.int .i64),(.int .i64)],fun xs=>X3h xs.1 xs.2.1 xs.u2⟩
theorem qbD:Zau X 20 qbC:=Zkc (Zkb xok qby q6e q5 12 20) fun xs _ h=>((qbB xs.1 xs.2.1 xs.u2).trans (X4J xs.1 xs.2.1 xs.u2).symm).trans h
def qbI:Key:=⟨[22],22,none,[0,0,1,0,1,1,1],1,26⟩
def qbJ:StT S:=⟨(N (N (N L (some (.ptr 0 0)) L) vw (N L (some (.ptr 1 0)) (N L none (N L vy L)))) none (N L none (N L (some (.rs 26 0)) (N L none (N L vy L))))),o14,27⟩
def qbK:Way S:=⟨(.exit 1),⟨(N L none (N L none (N L (some (.rs 26 0)) L))),o14,28⟩,[(.st 22),(.st 21),(.st 20),(.lst (.int .i64))]⟩
def qbL:LE S:=⟨qbI,qbJ,[(.lst (.st 21)),.int,.int,(.st 22),(.st 21),(.st 20),(.lst (.int .i64))],[qbK]⟩
def qbM (x:tqn):(List Int)->tqD:=fun y0=>(x.u3,x.u4,x.u5,y0)
def qbN {R:Type} (x:tqn) (k:tqD->Option R):Option R:=(X2W x.1 x.2.1 x.u4 x.u5 (x.u2,x.v6)).bind (fun y0=>k (x.u3,x.u4,x.u5,y0))
def qbO (x:tqn) (v:(Int×(List Int))):tqn:=(x.1,x.2.1,v.1,x.u3,x.u4,x.u5,v.2)
theorem qbP (x:tqn):LE.step X qbL qbx q6d q4 12 x=X10 x.1 x.2.1 x.u4 x.u5 x.u2 x.v6 (fun w0 w1=>(Sum.inl (x.1,x.2.1,w0,x.u3,x.u4,x.u5,w1))) (fun p0=>(Sum.inr (x.u3,x.u4,x.u5,p0))):=by kernel_rfl
theorem qbR {R:Type} (x:tqn) (k:tqD->Option R) (r:R) (h:qbN x k=some r):∃o,Z6b (LE.step X qbL qbx q6d q4 12) x o/\k o=some r:=by
 obtain⟨o,h1,h2⟩:=Z0 h;exact⟨qbM x o,Zk9 (st:=fun(x:tqn)=>WQ x.1 x.2.1 x.u4 x.u5) (prj:=fun x=>(x.u2,x.v6)) (emb:=qbO) (embO:=qbM) (fun x=>(qbP x).trans (by unfold WQ X10;simp only[Zk0,ZjR,Zk1,Option.map_some,Option.map_none];rfl)) (fun _ _=>rfl) (fun _ _=>rfl) (fun _ _ _=>rfl) (fun _ _ _=>rfl) (fun _=>rfl) (Z29.1 h1),by first|exact h2|(rcases o with o<;>exact h2)⟩
def qbS {R:Type}:Z2K S R:=LE.ls X qbL qbN q4
theorem qbT {R:Type}:Z4g X (qbS (R:=R)):=Zkd xok qby (e:=qbL) q6e q5 qbR q5
theorem qbU (x0:CoRecord) (x1:List Zr) (x2:Zr):Zkf X qbx [(.st 20),(.sl (.st 21)),(.st 21)] [(.sl (.int .i64)),(.int .i64)] q6d qbS 12 22 (x0,x1,x2,())=X2b x0 x1 x2:=by kernel_rfl
def qbV:F7 S:=⟨[(.st 20),(.sl (.st 21)),(.st 21)],[(.sl (.int .i64)),(.int .i64)],fun xs=>X49 xs.1 xs.2.1 xs.u2⟩
theorem qbW:Zau X 22 qbV:=Zkc (Zkb xok qby q6e qbT 12 22) fun xs _ h=>((qbU xs.1 xs.2.1 xs.u2).trans (X4W xs.1 xs.2.1 xs.u2).symm).trans h
theorem qc1 (x0:CoRecord) (x1:Int):Zkf X q2 [(.st 20),(.int .i64)] [(.st 20)] q6d q4 12 42 (x0,x1,())=X2B x0 x1:=by kernel_rfl
def qc2:F7 S:=⟨[(.st 20),(.int .i64)],[(.st 20)],fun xs=>X4A xs.1 xs.2.1⟩
theorem qc3:Zau X 42 qc2:=Zkc (Zkb xok q3 q6e q5 12 42) fun xs _ h=>((qc1 xs.1 xs.2.1).trans (X5C xs.1 xs.2.1).symm).trans h
theorem qc8 (x0 x1:Int):Zkf X q6V [(.int .i64),(.int .i64)] [(.int .i64)] q6d q4 12 111 (x0,x1,())=X2U x0 x1:=by kernel_rfl
def qc9:F7 S:=⟨[(.int .i64),(.int .i64)],[(.int .i64)],fun xs=>X2U xs.1 xs.2.1⟩
theorem qca:Zau X 111 qc9:=Zkc (Zkb xok q6W q6e q5 12 111) fun xs _ h=>(qc8 xs.1 xs.2.1).trans h
def qcb:List (Nat×F7 S):=[(111,qc9)]
theorem qcc:ZaF X (qcb):=⟨qca,trivial⟩
def qcf:Key:=⟨[70],70,none,[0,0,1,0,1],0,4⟩
def qcg:StT S:=⟨(N (N (N L none (N L vy L)) vt (N (N L vt L) none L)) vt v1j),L,4⟩
def qci:Way S:=⟨.ret,⟨v1j,L,27⟩,[.int]⟩
def qcj:Way S:=⟨(.exit 0),⟨(N (N L vt L) vt L),L,5⟩,[(.lst (.int .i64)),(.lst (.int .i64))]⟩
def qck:LE S:=⟨qcf,qcg,[.int,(.lst (.int .i64)),(.lst (.int .i64)),(.lst (.int .i64)),.int],[qb5,qci,qcj]⟩
def qcl (x:tqC):(Int⊕Int⊕Unit)->(Int⊕Int⊕((List Int)×(List Int))):=Sum.elim (fun y0=>(.inl y0)) (Sum.elim (fun y1=>(.inr (.inl y1))) (fun y2=>(.inr (.inr (x.2.1,x.u3)))))
def qcm {R:Type} (x:tqC) (k:(Int⊕Int⊕((List Int)×(List Int)))->Option R):Option R:=(WN x.2.1 x.u2 x.u3 x.v4 x.1).bind (Sum.elim (fun y0=>k (.inl y0)) (Sum.elim (fun y1=>k (.inr (.inl y1))) (fun y2=>k (.inr (.inr (x.2.1,x.u3))))))
def qcn (x:tqC) (v:Int):tqC:=(v,x.2.1,x.u2,x.u3,x.v4)
theorem qco (x:tqC):LE.step X qck qcb q6d q4 12 x=Xz x.2.1 x.u2 x.u3 x.v4 x.1 (fun w0=>(Sum.inl (w0,x.2.1,x.u2,x.u3,x.v4))) (fun p0=>(Sum.inr (.inl p0))) (fun p0=>(Sum.inr (.inr (.inl p0)))) (Sum.inr (.inr (.inr (x.2.1,x.u3)))):=by kernel_rfl
theorem qcq {R:Type} (x:tqC) (k:(Int⊕Int⊕((List Int)×(List Int)))->Option R) (r:R) (h:qcm x k=some r):∃o,Z6b (LE.step X qck qcb q6d q4 12) x o/\k o=some r:=by
 obtain⟨o,h1,h2⟩:=Z0 h;exact⟨qcl x o,Zk9 (st:=fun(x:tqC)=>XM x.2.1 x.u2 x.u3 x.v4) (prj:=fun x=>x.1) (emb:=qcn) (embO:=qcl) (fun x=>(qco x).trans (by unfold XM Xz;simp only[Zk0,ZjR,Zk1,Option.map_some,Option.map_none];rfl)) (fun _ _=>rfl) (fun _ _=>rfl) (fun _ _ _=>rfl) (fun _ _ _=>rfl) (fun _=>rfl) (Z29.1 h1),by first|exact h2|(rcases o with o|o|o<;>exact h2)⟩
def qcr {R:Type}:Z2K S R:=LE.ls X qck qcm q4
theorem qcs {R:Type}:Z4g X (qcr (R:=R)):=Zkd xok qcc (e:=qck) q6e q5 qcq q5
theorem qct (x0 x1:List Int):Zkf X qcb [(.sl (.int .i64)),(.sl (.int .i64))] [(.int .i64)] q6d qcr 12 70 (x0,x1,())=Ww x0 x1:=by kernel_rfl
def qcu:F7 S:=⟨[(.sl (.int .i64)),(.sl (.int .i64))],[(.int .i64)],fun xs=>Ww xs.1 xs.2.1⟩
theorem qcv:Zau X 70 qcu:=Zkc (Zkb xok qcc q6e qcs 12 70) fun xs _ h=>(qct xs.1 xs.2.1).trans h
def qcw:List (Nat×F7 S):=[(58,q2W),(70,qcu),(60,q6k)]
theorem qcx:ZaF X (qcw):=⟨q2X,qcv,q6l,trivial⟩
def qcA:Key:=⟨[24],24,none,[0,0,1,0,1,1,1,0,0,1,1,0,0,1,0,1,1,1,0,1],2,26⟩
def qcB:StT S:=⟨(N (N (N (N L vy (N L vy L)) none (N L none (N L vw L))) vw (N (N L (some (.rs 27 0)) L) none (N L none (N L vy L)))) none (N (N (N L (some (.rs 28 0)) (N L vy L)) (some (.rs 26 0)) (N L none (N L vy L))) (some (.ptr 0 0)) (N L vz L))),o11,29⟩
def qcC:Way S:=⟨(.exit 1),⟨(N (N v1m vw L) none (N (N (N L none (N L vy L)) (some (.rs 26 0)) L) (some (.ptr 0 0)) (N L vz L))),(N (N (N L none (N L none (N (N L (some (.row 3 (.int .i64) [] 0 0)) L) op L))) none (N (N (N (N L oe L) none L) none L) none L)) ob (N (N L none (N L none (N L (some (.row 3 (.int .i64) [] 1 1)) L))) none o1n)),54⟩,[.int,(.lst (.st 21)),.int,.bool,(.lst (.int .i64)),(.lst (.st 21)),(.st 21),(.st 20),(.lst (.int .i64)),(.lst (.int .i64))]⟩
def qcD:Way S:=⟨(.exit 2),⟨(N (N v1m vw (N (N L (some (.rs 27 0)) L) none L)) none (N (N (N L (some (.rs 28 0)) (N L vy L)) (some (.rs 26 0)) L) (some (.ptr 0 0)) (N L vz L))),o11,30⟩,[.int,(.lst (.st 21)),.int,.bool,(.lst (.st 21)),(.st 20),(.lst (.int .i64)),(.lst (.int .i64))]⟩
def qcE:LE S:=⟨qcA,qcB,[.int,.int,(.lst (.st 21)),(.lst (.st 21)),.int,.int,.int,.bool,(.lst (.st 21)),(.st 20),(.lst (.int .i64)),(.lst (.int .i64))],[qcC,qcD]⟩
def qcF (x:tqd):(((List Int)×(List Zr)×Zr×(List Int))⊕((List Zr)×(List Int)))->tq5:=Sum.elim (fun y0=>(.inl (x.2.1,x.u3,x.u5,x.u7,y0.1,y0.2.1,y0.u2,x.u9,y0.v3,x.v11))) (fun y1=>(.inr (x.2.1,x.u3,x.u5,x.u7,y1.1,x.u9,y1.2,x.v11)))
def qcG {R:Type} (x:tqd) (k:tq5->Option R):Option R:=(X1l x.1 x.u2 x.u6 x.u7 x.v11 (x.u4,x.u8,x.u10)).bind (Sum.elim (fun y0=>k (.inl (x.2.1,x.u3,x.u5,x.u7,y0.1,y0.2.1,y0.u2,x.u9,y0.v3,x.v11))) (fun y1=>k (.inr (x.2.1,x.u3,x.u5,x.u7,y1.1,x.u9,y1.2,x.v11))))
def qcH (x:tqd) (v:(Int×(List Zr)×(List Int))):tqd:=(x.1,x.2.1,x.u2,x.u3,v.1,x.u5,x.u6,x.u7,v.2.1,x.u9,v.v2,x.v11)
theorem qcI (x:tqd):LE.step X qcE qcw q6d q4 12 x=X12 x.1 x.u2 x.u6 x.u7 x.v11 x.u4 x.u8 x.u10 (fun w0 w1 w2=>(Sum.inl (x.1,x.2.1,x.u2,x.u3,w0,x.u5,x.u6,x.u7,w1,x.u9,w2,x.v11))) (fun p0 p1 p2 p3=>(Sum.inr (.inl (x.2.1,x.u3,x.u5,x.u7,p0,p1,p2,x.u9,p3,x.v11)))) (fun p0 p1=>(Sum.inr (.inr (x.2.1,x.u3,x.u5,x.u7,p0,x.u9,p1,x.v11)))):=by kernel_rfl
theorem qcK {R:Type} (x:tqd) (k:tq5->Option R) (r:R) (h:qcG x k=some r):∃o,Z6b (LE.step X qcE qcw q6d q4 12) x o/\k o=some r:=by
 obtain⟨o,h1,h2⟩:=Z0 h;exact⟨qcF x o,Zk9 (st:=fun(x:tqd)=>WS x.1 x.u2 x.u6 x.u7 x.v11) (prj:=fun x=>(x.u4,x.u8,x.u10)) (emb:=qcH) (embO:=qcF) (fun x=>(qcI x).trans (by unfold WS X12;simp only[Zk0,ZjR,Zk1,Option.map_some,Option.map_none];rfl)) (fun _ _=>rfl) (fun _ _=>rfl) (fun _ _ _=>rfl) (fun _ _ _=>rfl) (fun _=>rfl) (Z29.1 h1),by first|exact h2|(rcases o with o|o<;>exact h2)⟩
def qcL {R:Type}:Z2K S R:=LE.ls X qcE qcG q4
theorem qcM {R:Type}:Z4g X (qcL (R:=R)):=Zkd xok qcx (e:=qcE) q6e q5 qcK q5
def qcN:Key:=⟨[24],24,none,[0,0,1,0,1,1,1,0,1],0,17⟩
def qcO:StT S:=⟨(N (N v1m vw L) none (N (N (N L none (N L vy L)) (some (.rs 17 0)) L) (some (.ptr 0 0)) (N L vz L))),(N (N L none o1l) ob L),18⟩
def qcP:Way S:=⟨(.exit 0),⟨(N L none (N (N L (some (.rs 17 0)) L) none L)),(N (N L none o1l) ob L),19⟩,[(.lst (.int .i64)),(.st 20)]⟩
def qcQ:LE S:=⟨qcN,qcO,[.int,(.lst (.st 21)),.int,.bool,(.lst (.int .i64)),(.st 20)],[qcP]⟩
def qcR (x:tqw):(List Int)->((List Int)×CoRecord):=fun y0=>(y0,x.v5)
def qcS {R:Type} (x:tqw) (k:((List Int)×CoRecord)->Option R):Option R:=(X2X x.1 x.2.1 x.v5 (x.u2,x.u3,x.u4)).bind (fun y0=>k (y0,x.v5))
def qcT (x:tqw) (v:(Int×Bool×(List Int))):tqw:=(x.1,x.2.1,v.1,v.2.1,v.v2,x.v5)
theorem qcU (x:tqw):LE.step X qcQ qcw q6d qcL 12 x=X11 x.1 x.2.1 x.v5 x.u2 x.u3 x.u4 (fun w0 w1 w2=>(Sum.inl (x.1,x.2.1,w0,w1,w2,x.v5))) (fun p0=>(Sum.inr (p0,x.v5))):=by kernel_rfl
theorem qcW {R:Type} (x:tqw) (k:((List Int)×CoRecord)->Option R) (r:R) (h:qcS x k=some r):∃o,Z6b (LE.step X qcQ qcw q6d qcL 12) x o/\k o=some r:=by
 obtain⟨o,h1,h2⟩:=Z0 h;exact⟨qcR x o,Zk9 (st:=fun(x:tqw)=>WR x.1 x.2.1 x.v5) (prj:=fun x=>(x.u2,x.u3,x.u4)) (emb:=qcT) (embO:=qcR) (fun x=>(qcU x).trans (by unfold WR X11;simp only[Zk0,ZjR,Zk1,Option.map_some,Option.map_none];rfl)) (fun _ _=>rfl) (fun _ _=>rfl) (fun _ _ _=>rfl) (fun _ _ _=>rfl) (fun _=>rfl) (Z29.1 h1),by first|exact h2|(rcases o with o<;>exact h2)⟩
def qcX {R:Type}:Z2K S R:=LE.ls X qcQ qcS qcL
theorem qcY {R:Type}:Z4g X (qcX (R:=R)):=Zkd xok qcx (e:=qcQ) q6e qcM qcW qcM
theorem qcZ (x0:CoRecord) (x1:List Zr):Zkf X qcw [(.st 20),(.sl (.st 21))] [(.sl (.int .i64)),(.int .i64)] q6d qcX 12 24 (x0,x1,())=X2c x0 x1:=by kernel_rfl
def qd0:F7 S:=⟨[(.st 20),(.sl (.st 21))],[(.sl (.int .i64)),(.int .i64)],fun xs=>X4a xs.1 xs.2.1⟩
theorem qd1:Zau X 24 qd0:=Zkc (Zkb xok qcx q6e qcY 12 24) fun xs _ h=>((qcZ xs.1 xs.2.1).trans (X4Y xs.1 xs.2.1).symm).trans h
def qd6:Key:=⟨[41],41,none,[0,0,1,0,1],0,2⟩
def qd7:StT S:=⟨(N (N L vy (N L vy L)) vt L),L,2⟩
def qd8:Way S:=⟨.ret,⟨(N L none (N (N L vz L) none L)),L,13⟩,[.bool]⟩
def qda:LE S:=⟨qd6,qd7,[.int,.int,(.lst (.int .i64))],[qd8,q9f]⟩
def qdb (x:tqV):(Bool⊕Unit)->(Bool⊕Unit):=Sum.elim (fun y0=>(.inl y0)) (fun y1=>(.inr ()))
def qdc {R:Type} (x:tqV) (k:(Bool⊕Unit)->Option R):Option R:=(X3y x.1 x.v2 x.2.1).bind (Sum.elim (fun y0=>k (.inl y0)) (fun y1=>k (.inr ())))
def qdd (x:tqV) (v:Int):tqV:=(x.1,v,x.v2)
theorem qde (x:tqV):LE.step X qda q2 q6d q4 12 x=X1z x.1 x.v2 x.2.1 (fun w0=>(Sum.inl (x.1,w0,x.v2))) (fun p0=>(Sum.inr (.inl p0))) (Sum.inr (.inr ())):=by kernel_rfl
theorem qdg {R:Type} (x:tqV) (k:(Bool⊕Unit)->Option R) (r:R) (h:qdc x k=some r):∃o,Z6b (LE.step X qda q2 q6d q4 12) x o/\k o=some r:=by
 obtain⟨o,h1,h2⟩:=Z0 h;exact⟨qdb x o,Zk9 (st:=fun(x:tqV)=>X1u x.1 x.v2) (prj:=fun x=>x.2.1) (emb:=qdd) (embO:=qdb) (fun x=>(qde x).trans (by unfold X1u X1z;simp only[Zk0,ZjR,Zk1,Option.map_some,Option.map_none];rfl)) (fun _ _=>rfl) (fun _ _=>rfl) (fun _ _ _=>rfl) (fun _ _ _=>rfl) (fun _=>rfl) (Z29.1 h1),by first|exact h2|(rcases o with o|o<;>exact h2)⟩
def qdh {R:Type}:Z2K S R:=LE.ls X qda qdc q4
theorem qdi {R:Type}:Z4g X (qdh (R:=R)):=Zkd xok q3 (e:=qda) q6e q5 qdg q5
theorem qdj (x0:List Int) (x1:Int):Zkf X q2 [(.sl (.int .i64)),(.int .i64)] [.bool] q6d qdh 12 41 (x0,x1,())=X2R x0 x1:=by kernel_rfl
def qdk:F7 S:=⟨[(.sl (.int .i64)),(.int .i64)],[.bool],fun xs=>X3T xs.1 xs.2.1⟩
theorem qdl:Zau X 41 qdk:=Zkc (Zkb xok q3 q6e qdi 12 41) fun xs _ h=>((qdj xs.1 xs.2.1).trans (X5R xs.1 xs.2.1).symm).trans h
theorem qdq (x0 x1:Int):Zkf X q2 [(.int .i64),(.int .i64)] [(.st 5)] q6d q4 12 39 (x0,x1,())=X3l x0 x1:=by kernel_rfl
def qdr:F7 S:=⟨[(.int .i64),(.int .i64)],[(.st 5)],fun xs=>X2z xs.1 xs.2.1⟩
theorem qds:Zau X 39 qdr:=Zkc (Zkb xok q3 q6e q5 12 39) fun xs _ h=>((qdq xs.1 xs.2.1).trans (X3D xs.1 xs.2.1).symm).trans h
def qdt:List (Nat×F7 S):=[(47,qaQ)]
theorem qdu:ZaF X (qdt):=⟨qaR,trivial⟩
theorem qdx (x0:CoRecord):Zkf X qdt [(.st 20)] [.bool] q6d q4 12 43 (x0,())=X2k x0:=by kernel_rfl
def qdy:F7 S:=⟨[(.st 20)],[.bool],fun xs=>X4d xs.1⟩
theorem qdz:Zau X 43 qdy:=Zkc (Zkb xok qdu q6e q5 12 43) fun xs _ h=>((qdx xs.1).trans (X5a xs.1).symm).trans h
theorem qdE (x0:List Int) (x1:Int):Zkf X q2 [(.sl (.int .u16)),(.int .i64)] [(.int .i64)] q6d q4 12 45 (x0,x1,())=X2A x0 x1:=by kernel_rfl
def qdF:F7 S:=⟨[(.sl (.int .u16)),(.int .i64)],[(.int .i64)],fun xs=>X4x xs.1 xs.2.1⟩
theorem qdG:Zau X 45 qdF:=Zkc (Zkb xok q3 q6e q5 12 45) fun xs _ h=>((qdE xs.1 xs.2.1).trans (X5y xs.1 xs.2.1).symm).trans h
theorem qdL (x0:Y2) (x1:Int):Zkf X q2 [(.st 5),(.int .i64)] [(.int .i64)] q6d q4 12 105 (x0,x1,())=X2j x0 x1:=by kernel_rfl
def qdM:F7 S:=⟨[(.st 5),(.int .i64)],[(.int .i64)],fun xs=>X4c xs.1 xs.2.1⟩
theorem qdN:Zau X 105 qdM:=Zkc (Zkb xok q3 q6e q5 12 105) fun xs _ h=>((qdL xs.1 xs.2.1).trans (X58 xs.1 xs.2.1).symm).trans h
def qdO:List (Nat×F7 S):=[(39,qdr),(45,qdF),(105,qdM)]
theorem qdP:ZaF X (qdO):=⟨qds,qdG,qdN,trivial⟩
def qdS:Key:=⟨[53],53,none,[0,0,1,0,1,0,0,1,0,0,1,0,1,1,1],2,23⟩
def qdT:StT S:=⟨(N (N v1h none (N (N L vy L) (some (.rs 23 0)) L)) none v1c),(N (N o1n og L) ob L),24⟩
def qdU:Way S:=⟨(.exit 2),⟨(N (N v1h none (N L (some (.rs 23 0)) L)) none v1c),(N (N o1n og L) ob L),29⟩,[.int,.int,.int,(.lst (.int .i64)),(.st 30),(.st 20)]⟩
def qdV:LE S:=⟨qdS,qdT,[.int,.int,.int,.int,(.lst (.int .i64)),(.st 30),(.st 20)],[qdU]⟩
def qdW (x:tqs):Int->tqx:=fun y0=>(x.1,y0,x.u3,x.u4,x.u5,x.v6)
def qdX {R:Type} (x:tqs) (k:tqx->Option R):Option R:=(X2x x.v6 (x.2.1,x.u2)).bind (fun y0=>k (x.1,y0,x.u3,x.u4,x.u5,x.v6))
def qdY (x:tqs) (v:(Int×Int)):tqs:=(x.1,v.1,v.2,x.u3,x.u4,x.u5,x.v6)
theorem qdZ (x:tqs):LE.step X qdV qdO q6d q4 12 x=WI x.v6 x.2.1 x.u2 (fun w0 w1=>(Sum.inl (x.1,w0,w1,x.u3,x.u4,x.u5,x.v6))) (fun p0=>(Sum.inr (x.1,p0,x.u3,x.u4,x.u5,x.v6))):=by kernel_rfl
theorem qe1 {R:Type} (x:tqs) (k:tqx->Option R) (r:R) (h:qdX x k=some r):∃o,Z6b (LE.step X qdV qdO q6d q4 12) x o/\k o=some r:=by
 obtain⟨o,h1,h2⟩:=Z0 h;exact⟨qdW x o,Zk9 (st:=fun(x:tqs)=>Wz x.v6) (prj:=fun x=>(x.2.1,x.u2)) (emb:=qdY) (embO:=qdW) (fun x=>(qdZ x).trans (by unfold Wz WI;simp only[Zk0,ZjR,Zk1,Option.map_some,Option.map_none];rfl)) (fun _ _=>rfl) (fun _ _=>rfl) (fun _ _ _=>rfl) (fun _ _ _=>rfl) (fun _=>rfl) (Z29.1 h1),by first|exact h2|(rcases o with o<;>exact h2)⟩
def qe2 {R:Type}:Z2K S R:=LE.ls X qdV qdX q4
theorem qe3 {R:Type}:Z4g X (qe2 (R:=R)):=Zkd xok qdP (e:=qdV) q6e q5 qe1 q5
def qe4:Key:=⟨[53],53,none,[0,0,1,0,1,1,1],0,6⟩
def qe5:StT S:=⟨(N (N v1h none (N L (some (.rs 6 0)) L)) none (N L (some (.ptr 0 0)) (N L vy L))),(N (N L og L) ob (N L none (N L oi L))),7⟩
def qe6:Way S:=⟨(.exit 0),⟨(N (N L none (N L (some (.rs 6 0)) L)) none L),(N (N L og L) ob (N L none (N L oi L))),12⟩,[(.st 30),(.st 20),(.lst (.int .i64))]⟩
def qe7:LE S:=⟨qe4,qe5,[.int,.int,(.st 30),(.st 20),(.lst (.int .i64))],[qe6]⟩
def qe8 (x:tqA):(List Int)->(Za×CoRecord×(List Int)):=fun y0=>(x.u2,x.u3,y0)
def qe9 {R:Type} (x:tqA) (k:(Za×CoRecord×(List Int))->Option R):Option R:=(X2w x.u2 x.u3 (x.1,x.2.1,x.v4)).bind (fun y0=>k (x.u2,x.u3,y0))
def qea (x:tqA) (v:tqV):tqA:=(v.1,v.2.1,x.u2,x.u3,v.v2)
theorem qeb (x:tqA):LE.step X qe7 qdO q6d qe2 12 x=WH x.u2 x.u3 x.1 x.2.1 x.v4 (fun w0 w1 w2=>(Sum.inl (w0,w1,x.u2,x.u3,w2))) (fun p0=>(Sum.inr (x.u2,x.u3,p0))):=by kernel_rfl
theorem qed {R:Type} (x:tqA) (k:(Za×CoRecord×(List Int))->Option R) (r:R) (h:qe9 x k=some r):∃o,Z6b (LE.step X qe7 qdO q6d qe2 12) x o/\k o=some r:=by
 obtain⟨o,h1,h2⟩:=Z0 h;exact⟨qe8 x o,Zk9 (st:=fun(x:tqA)=>Wy x.u2 x.u3) (prj:=fun x=>(x.1,x.2.1,x.v4)) (emb:=qea) (embO:=qe8) (fun x=>(qeb x).trans (by unfold Wy WH;simp only[Zk0,ZjR,Zk1,Option.map_some,Option.map_none];rfl)) (fun _ _=>rfl) (fun _ _=>rfl) (fun _ _ _=>rfl) (fun _ _ _=>rfl) (fun _=>rfl) (Z29.1 h1),by first|exact h2|(rcases o with o<;>exact h2)⟩
def qee {R:Type}:Z2K S R:=LE.ls X qe7 qe9 qe2
theorem qef {R:Type}:Z4g X (qee (R:=R)):=Zkd xok qdP (e:=qe7) q6e qe3 qed qe3
theorem qeg (x0:CoRecord) (x1:Za):Zkf X qdO [(.st 20),(.st 30)] [(.sl (.int .i64))] q6d qee 12 53 (x0,x1,())=X1x x0 x1:=by kernel_rfl
def qeh:F7 S:=⟨[(.st 20),(.st 30)],[(.sl (.int .i64))],fun xs=>X2P xs.1 xs.2.1⟩
theorem qei:Zau X 53 qeh:=Zkc (Zkb xok qdP q6e qef 12 53) fun xs _ h=>((qeg xs.1 xs.2.1).trans (X4q xs.1 xs.2.1).symm).trans h
def qen:Key:=⟨[54],54,none,[0,0,1,0,1,1],0,10⟩
def qeo:StT S:=⟨(N (N (N L vy L) vt (N (N L vy L) none L)) none (N (N L (some (.ptr 0 0)) L) vy (N (N L vy L) none L))),(N L ob L),10⟩
def qep:Way S:=⟨(.exit 0),⟨(N v1j none L),(N L ob L),14⟩,[.int,(.st 20)]⟩
def qeq:LE S:=⟨qen,qeo,[.int,(.lst (.int .i64)),.int,.int,.int,(.st 20)],[qep]⟩
def qer (x:tqE):Int->(Int×CoRecord):=fun y0=>(y0,x.v5)
def qes {R:Type} (x:tqE) (k:(Int×CoRecord)->Option R):Option R:=(X2Z x.1 x.2.1 x.u3 x.v5 (x.u2,x.u4)).bind (fun y0=>k (y0,x.v5))
def qet (x:tqE) (v:(Int×Int)):tqE:=(x.1,x.2.1,v.1,x.u3,v.2,x.v5)
theorem qeu (x:tqE):LE.step X qeq q2 q6d q4 12 x=X13 x.1 x.2.1 x.u3 x.v5 x.u2 x.u4 (fun w0 w1=>(Sum.inl (x.1,x.2.1,w0,x.u3,w1,x.v5))) (fun p0=>(Sum.inr (p0,x.v5))):=by kernel_rfl
theorem qew {R:Type} (x:tqE) (k:(Int×CoRecord)->Option R) (r:R) (h:qes x k=some r):∃o,Z6b (LE.step X qeq q2 q6d q4 12) x o/\k o=some r:=by
 obtain⟨o,h1,h2⟩:=Z0 h;exact⟨qer x o,Zk9 (st:=fun(x:tqE)=>WV x.1 x.2.1 x.u3 x.v5) (prj:=fun x=>(x.u2,x.u4)) (emb:=qet) (embO:=qer) (fun x=>(qeu x).trans (by unfold WV X13;simp only[Zk0,ZjR,Zk1,Option.map_some,Option.map_none];rfl)) (fun _ _=>rfl) (fun _ _=>rfl) (fun _ _ _=>rfl) (fun _ _ _=>rfl) (fun _=>rfl) (Z29.1 h1),by first|exact h2|(rcases o with o<;>exact h2)⟩
def qex {R:Type}:Z2K S R:=LE.ls X qeq qes q4
theorem qey {R:Type}:Z4g X (qex (R:=R)):=Zkd xok q3 (e:=qeq) q6e q5 qew q5
theorem qez (x0:CoRecord) (x1:List Int) (x2 x3:Int):Zkf X q2 [(.st 20),(.sl (.int .i64)),(.int .i64),(.int .i64)] [(.int .i64)] q6d qex 12 54 (x0,x1,x2,x3,())=X2i x0 x1 x2 x3:=by kernel_rfl
def qeA:F7 S:=⟨[(.st 20),(.sl (.int .i64)),(.int .i64),(.int .i64)],[(.int .i64)],fun xs=>X4b xs.1 xs.2.1 xs.u2 xs.u3⟩
theorem qeB:Zau X 54 qeA:=Zkc (Zkb xok q3 q6e qey 12 54) fun xs _ h=>((qez xs.1 xs.2.1 xs.u2 xs.u3).trans (X56 xs.1 xs.2.1 xs.u2 xs.u3).symm).trans h
def qeC:StT S:=⟨(N (N L (some (.agg [(.stc 30 (T.dflt 30))])) L) (some (.agg [(.stc 20 (T.dflt 20))])) L),L,0⟩
def qeD:Way S:=⟨.ret,⟨(N L (some (.rs 0 0)) L),(N L oq L),1⟩,[(.lst (.st 21))]⟩
def qeE:PE S:=⟨44,2,qeC,[(.st 30),(.st 20)],[qeD]⟩
def qeF:List (Nat×F7 S):=[(53,qeh),(54,qeA),(39,qdr),(43,qdy),(24,qd0)]
theorem qeG:ZaF X qeF:=⟨qei,qeB,qds,qdz,qd1,trivial⟩
def qeJ:Key:=⟨[44],44,none,[0,0,1,0,1,1,1],0,9⟩
def qeK:StT S:=⟨(N (N v1h none (N L (some (.rs 9 0)) L)) none (N L (some (.ptr 0 0)) (N L vt L))),(N (N L og (N (N L oq L) none L)) ob L),10⟩
def qeL:Way S:=⟨(.exit 0),⟨(N (N L none (N L (some (.rs 9 0)) L)) none L),(N (N L og (N (N L oq L) none L)) ob L),21⟩,[(.st 30),(.lst (.st 21)),(.st 20)]⟩
def qeM:LE S:=⟨qeJ,qeK,[.int,(.lst (.int .i64)),(.st 30),(.lst (.st 21)),(.st 20)],[qeL]⟩
def qeN (x:tqu):(List Zr)->tqG:=fun y0=>(x.u2,y0,x.v4)
def qeO {R:Type} (x:tqu) (k:tqG->Option R):Option R:=(X2y x.2.1 x.u2 x.v4 (x.1,x.u3)).bind (fun y0=>k (x.u2,y0,x.v4))
def qeP (x:tqu) (v:(Int×(List Zr))):tqu:=(v.1,x.2.1,x.u2,v.2,x.v4)
theorem qeQ (x:tqu):LE.step X qeM qeF q6d q4 12 x=W7 x.2.1 x.u2 x.v4 x.1 x.u3 (fun w0 w1=>(Sum.inl (w0,x.2.1,x.u2,w1,x.v4))) (fun p0=>(Sum.inr (x.u2,p0,x.v4))):=by kernel_rfl
theorem qeS {R:Type} (x:tqu) (k:tqG->Option R) (r:R) (h:qeO x k=some r):∃o,Z6b (LE.step X qeM qeF q6d q4 12) x o/\k o=some r:=by
 obtain⟨o,h1,h2⟩:=Z0 h;exact⟨qeN x o,Zk9 (st:=fun(x:tqu)=>W5 x.2.1 x.u2 x.v4) (prj:=fun x=>(x.1,x.u3)) (emb:=qeP) (embO:=qeN) (fun x=>(qeQ x).trans (by unfold W5 W7;simp only[Zk0,ZjR,Zk1,Option.map_some,Option.map_none];rfl)) (fun _ _=>rfl) (fun _ _=>rfl) (fun _ _ _=>rfl) (fun _ _ _=>rfl) (fun _=>rfl) (Z29.1 h1),by first|exact h2|(rcases o with o<;>exact h2)⟩
def qeT {R:Type}:Z2K S R:=LE.ls X qeM qeO q4
theorem qeU {R:Type}:Z4g X (qeT (R:=R)):=Zkd xok qeG (e:=qeM) q6e q5 qeS q5
theorem qeV (x:(Za×CoRecord)):PE.step X qeE qeF q6d qeT 12 x=X1y x.1 x.2:=by kernel_rfl
theorem qeW:ZcD X qeE X2Q:=Zke (ZjE xok qeG q6e qeU 12) fun x _ h=>((qeV x).trans (X4s x).symm).trans h
def qeX {R:Type}:Prs S R:=PE.ps X qeE (fun x q=>(X2Q x).bind q) q6d
theorem qeY {R:Type}:Z93 X (qeX (R:=R)):=Zk6 (e:=qeE) qeW q6e
end
end Nore
