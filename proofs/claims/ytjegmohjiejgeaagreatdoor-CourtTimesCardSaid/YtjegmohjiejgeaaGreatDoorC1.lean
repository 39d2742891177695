/- The code comes to the plain functions. -/
import Derived.Test.YtjegmohjiejgeaaGreatDoorY
import Derived.Test.YtjegmohjiejgeaaGreatDoorD
set_option linter.unusedSectionVars false
set_option linter.unusedVariables false
set_option linter.unusedSimpArgs false
set_option maxRecDepth 100000
open Go Go.Ab Go.Proofs Go.Proofs.YtjegmohjiejgeaaGreatDoor
open Go.Ab.Tr renaming node->N,leaf->L
namespace Prod
abbrev v2 {a b s:Type} (x:a×b×s):=x.2.2
abbrev u2 {a b r s:Type} (x:a×b×r×s):=x.2.2.1
abbrev v3 {a b c s:Type} (x:a×b×c×s):=x.2.2.2
abbrev u3 {a b c r s:Type} (x:a×b×c×r×s):=x.2.2.2.1
abbrev v4 {a b c d s:Type} (x:a×b×c×d×s):=x.2.2.2.2
abbrev u4 {a b c d r s:Type} (x:a×b×c×d×r×s):=x.2.2.2.2.1
abbrev v5 {a b c d e s:Type} (x:a×b×c×d×e×s):=x.2.2.2.2.2
abbrev u5 {a b c d e r s:Type} (x:a×b×c×d×e×r×s):=x.2.2.2.2.2.1
abbrev v6 {a b c d e f s:Type} (x:a×b×c×d×e×f×s):=x.2.2.2.2.2.2
abbrev u6 {a b c d e f r s:Type} (x:a×b×c×d×e×f×r×s):=x.2.2.2.2.2.2.1
abbrev v7 {a b c d e f g s:Type} (x:a×b×c×d×e×f×g×s):=x.2.2.2.2.2.2.2
abbrev u7 {a b c d e f g r s:Type} (x:a×b×c×d×e×f×g×r×s):=x.2.2.2.2.2.2.2.1
abbrev v8 {a b c d e f g h s:Type} (x:a×b×c×d×e×f×g×h×s):=x.2.2.2.2.2.2.2.2
abbrev u8 {a b c d e f g h r s:Type} (x:a×b×c×d×e×f×g×h×r×s):=x.2.2.2.2.2.2.2.2.1
abbrev v9 {a b c d e f g h i s:Type} (x:a×b×c×d×e×f×g×h×i×s):=x.2.2.2.2.2.2.2.2.2
abbrev u9 {a b c d e f g h i r s:Type} (x:a×b×c×d×e×f×g×h×i×r×s):=x.2.2.2.2.2.2.2.2.2.1
abbrev v10 {a b c d e f g h i j s:Type} (x:a×b×c×d×e×f×g×h×i×j×s):=x.2.2.2.2.2.2.2.2.2.2
abbrev u10 {a b c d e f g h i j r s:Type} (x:a×b×c×d×e×f×g×h×i×j×r×s):=x.2.2.2.2.2.2.2.2.2.2.1
abbrev v11 {a b c d e f g h i j k s:Type} (x:a×b×c×d×e×f×g×h×i×j×k×s):=x.2.2.2.2.2.2.2.2.2.2.2
abbrev u11 {a b c d e f g h i j k r s:Type} (x:a×b×c×d×e×f×g×h×i×j×k×r×s):=x.2.2.2.2.2.2.2.2.2.2.2.1
abbrev v12 {a b c d e f g h i j k l s:Type} (x:a×b×c×d×e×f×g×h×i×j×k×l×s):=x.2.2.2.2.2.2.2.2.2.2.2.2
abbrev u12 {a b c d e f g h i j k l r s:Type} (x:a×b×c×d×e×f×g×h×i×j×k×l×r×s):=x.2.2.2.2.2.2.2.2.2.2.2.2.1
abbrev v13 {a b c d e f g h i j k l m s:Type} (x:a×b×c×d×e×f×g×h×i×j×k×l×m×s):=x.2.2.2.2.2.2.2.2.2.2.2.2.2
abbrev u13 {a b c d e f g h i j k l m r s:Type} (x:a×b×c×d×e×f×g×h×i×j×k×l×m×r×s):=x.2.2.2.2.2.2.2.2.2.2.2.2.2.1
abbrev v14 {a b c d e f g h i j k l m n s:Type} (x:a×b×c×d×e×f×g×h×i×j×k×l×m×n×s):=x.2.2.2.2.2.2.2.2.2.2.2.2.2.2
abbrev u14 {a b c d e f g h i j k l m n r s:Type} (x:a×b×c×d×e×f×g×h×i×j×k×l×m×n×r×s):=x.2.2.2.2.2.2.2.2.2.2.2.2.2.2.1
abbrev v15 {a b c d e f g h i j k l m n o s:Type} (x:a×b×c×d×e×f×g×h×i×j×k×l×m×n×o×s):=x.2.2.2.2.2.2.2.2.2.2.2.2.2.2.2
abbrev u15 {a b c d e f g h i j k l m n o r s:Type} (x:a×b×c×d×e×f×g×h×i×j×k×l×m×n×o×r×s):=x.2.2.2.2.2.2.2.2.2.2.2.2.2.2.2.1
abbrev v16 {a b c d e f g h i j k l m n o p s:Type} (x:a×b×c×d×e×f×g×h×i×j×k×l×m×n×o×p×s):=x.2.2.2.2.2.2.2.2.2.2.2.2.2.2.2.2
abbrev u16 {a b c d e f g h i j k l m n o p r s:Type} (x:a×b×c×d×e×f×g×h×i×j×k×l×m×n×o×p×r×s):=x.2.2.2.2.2.2.2.2.2.2.2.2.2.2.2.2.1
abbrev u17 {a b c d e f g h i j k l m n o p q r s:Type} (x:a×b×c×d×e×f×g×h×i×j×k×l×m×n×o×p×q×r×s):=x.2.2.2.2.2.2.2.2.2.2.2.2.2.2.2.2.2.1
abbrev u18 {a b c d e f g h i j k l m n o p q t r s:Type} (x:a×b×c×d×e×f×g×h×i×j×k×l×m×n×o×p×q×t×r×s):=x.2.2.2.2.2.2.2.2.2.2.2.2.2.2.2.2.2.2.1
abbrev u19 {a b c d e f g h i j k l m n o p q t u r s:Type} (x:a×b×c×d×e×f×g×h×i×j×k×l×m×n×o×p×q×t×u×r×s):=x.2.2.2.2.2.2.2.2.2.2.2.2.2.2.2.2.2.2.2.1
abbrev u20 {a b c d e f g h i j k l m n o p q t u v r s:Type} (x:a×b×c×d×e×f×g×h×i×j×k×l×m×n×o×p×q×t×u×v×r×s):=x.2.2.2.2.2.2.2.2.2.2.2.2.2.2.2.2.2.2.2.2.1
abbrev u21 {a b c d e f g h i j k l m n o p q t u v w r s:Type} (x:a×b×c×d×e×f×g×h×i×j×k×l×m×n×o×p×q×t×u×v×w×r×s):=x.2.2.2.2.2.2.2.2.2.2.2.2.2.2.2.2.2.2.2.2.2.1
abbrev u22 {a b c d e f g h i j k l m n o p q t u v w x r s:Type} (x:a×b×c×d×e×f×g×h×i×j×k×l×m×n×o×p×q×t×u×v×w×x×r×s):=x.2.2.2.2.2.2.2.2.2.2.2.2.2.2.2.2.2.2.2.2.2.2.1
abbrev v23 {a b c d e f g h i j k l m n o p q t u v w x y s:Type} (x:a×b×c×d×e×f×g×h×i×j×k×l×m×n×o×p×q×t×u×v×w×x×y×s):=x.2.2.2.2.2.2.2.2.2.2.2.2.2.2.2.2.2.2.2.2.2.2.2
abbrev u23 {a b c d e f g h i j k l m n o p q t u v w x y r s:Type} (x:a×b×c×d×e×f×g×h×i×j×k×l×m×n×o×p×q×t×u×v×w×x×y×r×s):=x.2.2.2.2.2.2.2.2.2.2.2.2.2.2.2.2.2.2.2.2.2.2.2.1
abbrev v24 {a b c d e f g h i j k l m n o p q t u v w x y z s:Type} (x:a×b×c×d×e×f×g×h×i×j×k×l×m×n×o×p×q×t×u×v×w×x×y×z×s):=x.2.2.2.2.2.2.2.2.2.2.2.2.2.2.2.2.2.2.2.2.2.2.2.2
abbrev u24 {a b c d e f g h i j k l m n o p q t u v w x y z r s:Type} (x:a×b×c×d×e×f×g×h×i×j×k×l×m×n×o×p×q×t×u×v×w×x×y×z×r×s):=x.2.2.2.2.2.2.2.2.2.2.2.2.2.2.2.2.2.2.2.2.2.2.2.2.1
abbrev u25 {a b c d e f g h i j k l m n o p q t u v w x y z a0 r s:Type} (x:a×b×c×d×e×f×g×h×i×j×k×l×m×n×o×p×q×t×u×v×w×x×y×z×a0×r×s):=x.2.2.2.2.2.2.2.2.2.2.2.2.2.2.2.2.2.2.2.2.2.2.2.2.2.1
abbrev u26 {a b c d e f g h i j k l m n o p q t u v w x y z a0 a1 r s:Type} (x:a×b×c×d×e×f×g×h×i×j×k×l×m×n×o×p×q×t×u×v×w×x×y×z×a0×a1×r×s):=x.2.2.2.2.2.2.2.2.2.2.2.2.2.2.2.2.2.2.2.2.2.2.2.2.2.2.1
abbrev u27 {a b c d e f g h i j k l m n o p q t u v w x y z a0 a1 a2 r s:Type} (x:a×b×c×d×e×f×g×h×i×j×k×l×m×n×o×p×q×t×u×v×w×x×y×z×a0×a1×a2×r×s):=x.2.2.2.2.2.2.2.2.2.2.2.2.2.2.2.2.2.2.2.2.2.2.2.2.2.2.2.1
abbrev u28 {a b c d e f g h i j k l m n o p q t u v w x y z a0 a1 a2 a3 r s:Type} (x:a×b×c×d×e×f×g×h×i×j×k×l×m×n×o×p×q×t×u×v×w×x×y×z×a0×a1×a2×a3×r×s):=x.2.2.2.2.2.2.2.2.2.2.2.2.2.2.2.2.2.2.2.2.2.2.2.2.2.2.2.2.1
abbrev v29 {a b c d e f g h i j k l m n o p q t u v w x y z a0 a1 a2 a3 a4 s:Type} (x:a×b×c×d×e×f×g×h×i×j×k×l×m×n×o×p×q×t×u×v×w×x×y×z×a0×a1×a2×a3×a4×s):=x.2.2.2.2.2.2.2.2.2.2.2.2.2.2.2.2.2.2.2.2.2.2.2.2.2.2.2.2.2
abbrev u29 {a b c d e f g h i j k l m n o p q t u v w x y z a0 a1 a2 a3 a4 r s:Type} (x:a×b×c×d×e×f×g×h×i×j×k×l×m×n×o×p×q×t×u×v×w×x×y×z×a0×a1×a2×a3×a4×r×s):=x.2.2.2.2.2.2.2.2.2.2.2.2.2.2.2.2.2.2.2.2.2.2.2.2.2.2.2.2.2.1
abbrev v30 {a b c d e f g h i j k l m n o p q t u v w x y z a0 a1 a2 a3 a4 a5 s:Type} (x:a×b×c×d×e×f×g×h×i×j×k×l×m×n×o×p×q×t×u×v×w×x×y×z×a0×a1×a2×a3×a4×a5×s):=x.2.2.2.2.2.2.2.2.2.2.2.2.2.2.2.2.2.2.2.2.2.2.2.2.2.2.2.2.2.2
end Prod
namespace Nore
noncomputable section
abbrev X6y:Type:=Int×(List ZZ)×Int
abbrev X71:Type:=Bool×(List Int)×(List Int)
abbrev X6x:Type:=(List Zt)×Int×CoRecord
abbrev X6w:Type:=(List ZZ)×Int×(List ZZ)
abbrev X6v:Type:=Int×(List Zn)×Int×Int
abbrev tqZ:Type:=Int×(List ByteArray)×CoRecord
abbrev tqY:Type:=Int×ByteArray×ByteArray×Nat
abbrev tqX:Type:=ByteArray×Int×(List ByteArray)
abbrev tqW:Type:=Int×(List Int)×Int×Int×Int
abbrev tqV:Type:=Int×Int×(List ZZ)×Int×Int
abbrev tqU:Type:=Int×(List Zt)×Int×CoRecord
abbrev tqT:Type:=Int×(List Zn)×Int×CoRecord
abbrev tqS:Type:=Int×(List Zj)×Int×CoRecord
abbrev tqR:Type:=Int×(List Zj)×Int×Zj
abbrev tqQ:Type:=Int×Int×(List ByteArray)×CoRecord
abbrev tqP:Type:=Int×(List Int)×CoRecord×(List Int)
abbrev tqO:Type:=(Int×Int×Int×Zn×Zn)⊕Int
abbrev tqN:Type:=Int×(Nat->ZZ)×Z9×(Nat->ZZ)
abbrev tqM:Type:=CoRecord×(List Zt)×Z7×Unit
abbrev tqL:Type:=(Int×Int×CoRecord×Zt×Zt)⊕CoRecord
abbrev tqK:Type:=Z7×CoRecord×(List Z7)
abbrev tqJ:Type:=(Int×Int×CoRecord×Zn×Zn)⊕CoRecord
abbrev tqI:Type:=(List Z7)×Int×CoRecord×(List ZZ)
abbrev tqH:Type:=Bool×(List Int)×(List Z6)×(List Int)
abbrev tqG:Type:=(List Z7)×Int×ZZ×CoRecord×(List ZZ)
abbrev tqF:Type:=(Bool×ByteArray×Nat)⊕tqY
abbrev tqE:Type:=Bool×Int×(List Int)×(List Z6)×(List Int)
abbrev tqD:Type:=Int×Bool×(List Int)×(List Z6)×(List Int)
abbrev tqC:Type:=Int×Int×Int×Int×Int×CoRecord×(List Z6)
abbrev tqB:Type:=(List Z7)×Int×Int×ZZ×CoRecord×(List ZZ)
abbrev tqA:Type:=Z9×Z9×(Nat->ZZ)×Bool×Z9
abbrev tqz:Type:=Int×(List Z8)×(Nat->ZZ)×Z9×(Nat->ZZ)
abbrev tqy:Type:=Int×Int×(List Z8)×(Nat->ZZ)×Z9×(Nat->ZZ)
abbrev tqx:Type:=(Int×Int×Int×(List ByteArray)×CoRecord)⊕((List ByteArray)×CoRecord)
abbrev tqw:Type:=Int×Int×Int×(List Z8)×(Nat->ZZ)×Z9×(Nat->ZZ)
abbrev tqv:Type:=(Int×Int×Int×(List ByteArray)×CoRecord×Zn)⊕((List ByteArray)×CoRecord)
abbrev tqu:Type:=Int×(List Zn)×Int×Z9×Z9×(Nat->ZZ)×Bool×Z9
abbrev tqt:Type:=((Nat->ZZ)×Int×(List Z8)×Z9×Bool×Z9×Z9)
abbrev tqs:Type:=Z8×Z9×Bool×Bool×Z9×Z8×Z9×Zn
abbrev tqr:Type:=(List Zt)×(List Z6)×Int×Z7×CoRecord×(List Z7)
abbrev tqq:Type:=(List Z8)×Int×Int×Int×Int×(List Z8)×(Nat->ZZ)×Z9×(Nat->ZZ)
abbrev tqp:Type:=Z8×Z9×Bool×(Nat->ZZ)×Bool×Z9×Z8×Z9×Zn
abbrev tqo:Type:=(Bool×Z9×(Nat->ZZ)×Z9×Int×Bool×(List Zt)×Int×CoRecord×Bool×CoRecord)
abbrev tqn:Type:=(Nat->ZZ)×(Nat->ZZ)×Z9×Int×Bool×(List Zt)×Int×CoRecord×Z9×Bool×CoRecord
abbrev tqm:Type:=Z9×(Nat->ZZ)×Z9×(Nat->ZZ)×Int×Bool×(List Zt)×Int×CoRecord×Bool×CoRecord
abbrev tql:Type:=Int×Int×Int×Int×Int×Int×(List Z8)×(List Z8)×(Nat->ZZ)×Z9×(Nat->ZZ)
abbrev tqk:Type:=((Bool×Z9×Bool×Z9×Z9)⊕(Bool×Z9×Bool×Z9×Z9))
abbrev tqj:Type:=Int×Int×Z9×(Nat->ZZ)×Z9×(Nat->ZZ)×Int×Bool×(List Zt)×Int×CoRecord×Bool×CoRecord
abbrev tqi:Type:=(Bool×(List Int)×(List Z6)×(List Z6)×(List Int))⊕((List Int)×(List Z6)×(List Int))
abbrev tqh:Type:=Z8×Z9×Bool×Bool×Z9×Z8×(List Z8)×(List Z8)×Z9×Zn
abbrev tqg:Type:=(Bool×(List Int)×(List Z6)×(List Z6)×(List Int))⊕tqH
abbrev tqf:Type:=Int×(List Zn)×Int×(Nat->ZZ)×(Nat->ZZ)×Z9×Int×Bool×(List Zt)×Int×CoRecord×Z9×Bool×CoRecord
abbrev tqe:Type:=((Nat->ZZ)×Int×(List Z8)×Z9×(Nat->ZZ)×Z9×Int×Bool×(List Zt)×Int×CoRecord×Bool×CoRecord)
abbrev tqd:Type:=(List Z8)×Z8×Z9×Bool×(Nat->ZZ)×Bool×Z9×Z8×(List Z8)×Z9×Zn
abbrev tqc:Type:=Z8×Z9×(List Z8)×Bool×(Nat->ZZ)×Bool×Z9×Z8×Z9×Zn×(List Z8)
abbrev tqb:Type:=Z8×Z9×Bool×(Nat->ZZ)×Bool×Z9×(List Z8)×Z8×Z9×Zn×(List Z8)
abbrev tqa:Type:=Z8×Z9×(Nat->ZZ)×(Nat->ZZ)×Bool×Z9×Z8×Int×Bool×(List Zt)×Int×CoRecord×Bool×Zn×CoRecord
abbrev tq9:Type:=(Int×Int×Int×(List ByteArray)×CoRecord×Zj×(List ByteArray))⊕(Int×Int×Int×(List ByteArray)×CoRecord×Zj×(List ByteArray))⊕((List ByteArray)×CoRecord)
abbrev tq8:Type:=Int×Int×Int×(Nat->ZZ)×Z8×Z9×Bool×(Nat->ZZ)×Bool×Int×Z9×(List Zn)×(List Zn)×Zt×(List Z8)×Z9×Z9×Int×Int×Bool×(Nat->ZZ)×Bool×Int×Bool
abbrev tq7:Type:=Int×Int×Int×(Nat->ZZ)×Z8×Z9×Bool×(Nat->ZZ)×Bool×Int×Z9×(List Zn)×(List Zn)×Zt×(List Z8)×Z9×Z9×Int×Int×Bool×(Nat->ZZ)×Bool×Int×Bool×(List Z8)
abbrev tq6:Type:=Int×Int×Int×Z9×(List Zn)×(Nat->ZZ)×(Nat->ZZ)×Bool×Int×Z9×(Nat->ZZ)×Z8×Int×Bool×(List Zt)×Int×CoRecord×Bool×(Nat->ZZ)×Bool×Int×Bool×Int×Bool×Int×CoRecord×(List Zn)×Zt×(List Z8)×Z9
abbrev tq5:Type:=Int×Int×Int×Z9×(List Zn)×(Nat->ZZ)×(Nat->ZZ)×Bool×Int×Z9×(Nat->ZZ)×Z8×Int×Bool×(List Zt)×Int×CoRecord×Bool×(Nat->ZZ)×Bool×Int×Bool×(List Z8)×Int×Bool×Int×CoRecord×(List Zn)×Zt×(List Z8)×Z9
abbrev tq4:Type:=(Int×Int×CoRecord×Zj×Zj)⊕(Int×Int×Zj×CoRecord×Zj×Zj)⊕(Int×Int×(List Int)×Zj×CoRecord×Zj×Zj)⊕(Int×Int×(List Int)×(List Int)×Zj×CoRecord×Zj×Zj)⊕(Int×Int×CoRecord×Zj×Zj×(List Int))⊕(Int×Int×CoRecord×Zj×Zj×(List Int)×(List Int))⊕CoRecord
abbrev tq3:Type:=((List Z8)×Z8×Z9×(List Zn)×(Nat->ZZ)×(Nat->ZZ)×(Nat->ZZ)×Bool×Int×Z9×(Nat->ZZ)×Z8×Int×Bool×(List Zt)×Int×CoRecord×Bool×(Nat->ZZ)×Bool×Int×Bool×Int×Bool×Zn×Int×(List Z8)×CoRecord×(List Zn)×Zt×(List Z8)×Z9)⊕(Z8×Z9×(List Zn)×(Nat->ZZ)×(Nat->ZZ)×(Nat->ZZ)×Bool×Int×Z9×(Nat->ZZ)×Z8×Int×Bool×(List Zt)×Int×CoRecord×Bool×(Nat->ZZ)×Bool×Int×Bool×Int×Bool×Zn×Int×CoRecord×(List Zn)×Zt×(List Z8)×Z9)⊕(Z8×Z9×(List Zn)×(Nat->ZZ)×(Nat->ZZ)×(Nat->ZZ)×Bool×Int×Z9×(Nat->ZZ)×Z8×Int×Bool×(List Zt)×Int×CoRecord×(List Z8)×(List Z8)×Bool×(Nat->ZZ)×Bool×Int×Bool×Int×Bool×Zn×Int×CoRecord×(List Zn)×Zt×(List Z8)×Z9)⊕(Z8×Z9×(List Zn)×(Nat->ZZ)×(Nat->ZZ)×(Nat->ZZ)×Bool×Int×Z9×(Nat->ZZ)×Z8×Int×Bool×(List Zt)×Int×CoRecord×Bool×(Nat->ZZ)×Bool×Int×Bool×Int×Bool×Zn×Int×CoRecord×(List Zn)×Zt×(List Z8)×Z9)⊕(Z8×Z9×(List Zn)×(Nat->ZZ)×(Nat->ZZ)×(Nat->ZZ)×Bool×Int×Z9×(List Z8)×(Nat->ZZ)×Z8×Int×Bool×(List Zt)×Int×CoRecord×Bool×(Nat->ZZ)×Bool×Int×Bool×Int×Bool×Zn×Int×CoRecord×(List Zn)×Zt×(List Z8)×Z9×(List Z8))⊕(Z8×Z9×(List Zn)×(Nat->ZZ)×(Nat->ZZ)×(Nat->ZZ)×Bool×Int×Z9×(Nat->ZZ)×Z8×Int×Bool×(List Zt)×Int×CoRecord×Bool×(Nat->ZZ)×Bool×Int×Bool×Int×Bool×Zn×Int×CoRecord×(List Zn)×Zt×(List Z8)×Z9)⊕((List Z8)×Z8×Z9×(List Zn)×(Nat->ZZ)×(Nat->ZZ)×(Nat->ZZ)×Bool×Int×Z9×(Nat->ZZ)×Z8×Int×Bool×(List Zt)×Int×CoRecord×Bool×(Nat->ZZ)×Bool×Int×Bool×Int×Bool×Zn×Int×CoRecord×(List Z8)×(List Zn)×Zt×(List Z8)×Z9)⊕(Z8×Z9×(List Zn)×(Nat->ZZ)×(Nat->ZZ)×(Nat->ZZ)×Bool×Int×Z9×(Nat->ZZ)×Z8×Int×Bool×(List Zt)×Int×CoRecord×Bool×(Nat->ZZ)×Bool×Int×Bool×Int×Bool×Zn×Int×CoRecord×(List Zn)×Zt×(List Z8)×Z9)⊕(Z9×(List Zn)×(Nat->ZZ)×(Nat->ZZ)×Bool×Int×Z9×(Nat->ZZ)×Z8×Int×Bool×(List Zt)×Int×CoRecord×Bool×(Nat->ZZ)×Bool×Int×Bool×Int×Bool×Int×CoRecord×(List Zn)×Zt×(List Z8)×Z9)
abbrev tq2:Type:=((List Z8)×Z8×Z9×(List Zn)×(Nat->ZZ)×(Nat->ZZ)×(Nat->ZZ)×Bool×Int×Z9×(Nat->ZZ)×Z8×Int×Bool×(List Zt)×Int×CoRecord×Bool×(Nat->ZZ)×Bool×Int×Bool×(List Z8)×Int×Bool×Zn×Int×(List Z8)×CoRecord×(List Zn)×Zt×(List Z8)×Z9)⊕(Z8×Z9×(List Zn)×(Nat->ZZ)×(Nat->ZZ)×(Nat->ZZ)×Bool×Int×Z9×(Nat->ZZ)×Z8×Int×Bool×(List Zt)×Int×CoRecord×Bool×(Nat->ZZ)×Bool×Int×Bool×(List Z8)×Int×Bool×Zn×Int×CoRecord×(List Zn)×Zt×(List Z8)×Z9)⊕(Z8×Z9×(List Zn)×(Nat->ZZ)×(Nat->ZZ)×(Nat->ZZ)×Bool×Int×Z9×(Nat->ZZ)×Z8×Int×Bool×(List Zt)×Int×CoRecord×(List Z8)×(List Z8)×Bool×(Nat->ZZ)×Bool×Int×Bool×(List Z8)×Int×Bool×Zn×Int×CoRecord×(List Zn)×Zt×(List Z8)×Z9)⊕(Z8×Z9×(List Zn)×(Nat->ZZ)×(Nat->ZZ)×(Nat->ZZ)×Bool×Int×Z9×(Nat->ZZ)×Z8×Int×Bool×(List Zt)×Int×CoRecord×Bool×(Nat->ZZ)×Bool×Int×Bool×(List Z8)×Int×Bool×Zn×Int×CoRecord×(List Zn)×Zt×(List Z8)×Z9)⊕(Z8×Z9×(List Zn)×(Nat->ZZ)×(Nat->ZZ)×(Nat->ZZ)×Bool×Int×Z9×(List Z8)×(Nat->ZZ)×Z8×Int×Bool×(List Zt)×Int×CoRecord×Bool×(Nat->ZZ)×Bool×Int×Bool×(List Z8)×Int×Bool×Zn×Int×CoRecord×(List Zn)×Zt×(List Z8)×Z9×(List Z8))⊕(Z8×Z9×(List Zn)×(Nat->ZZ)×(Nat->ZZ)×(Nat->ZZ)×Bool×Int×Z9×(Nat->ZZ)×Z8×Int×Bool×(List Zt)×Int×CoRecord×Bool×(Nat->ZZ)×Bool×Int×Bool×(List Z8)×Int×Bool×Zn×Int×CoRecord×(List Zn)×Zt×(List Z8)×Z9)⊕((List Z8)×Z8×Z9×(List Zn)×(Nat->ZZ)×(Nat->ZZ)×(Nat->ZZ)×Bool×Int×Z9×(Nat->ZZ)×Z8×Int×Bool×(List Zt)×Int×CoRecord×Bool×(Nat->ZZ)×Bool×Int×Bool×(List Z8)×Int×Bool×Zn×Int×CoRecord×(List Z8)×(List Zn)×Zt×(List Z8)×Z9)⊕(Z8×Z9×(List Zn)×(Nat->ZZ)×(Nat->ZZ)×(Nat->ZZ)×Bool×Int×Z9×(Nat->ZZ)×Z8×Int×Bool×(List Zt)×Int×CoRecord×Bool×(Nat->ZZ)×Bool×Int×Bool×(List Z8)×Int×Bool×Zn×Int×CoRecord×(List Zn)×Zt×(List Z8)×Z9)⊕(Z9×(List Zn)×(Nat->ZZ)×(Nat->ZZ)×Bool×Int×Z9×(Nat->ZZ)×Z8×Int×Bool×(List Zt)×Int×CoRecord×Bool×(Nat->ZZ)×Bool×Int×Bool×(List Z8)×Int×Bool×Int×CoRecord×(List Zn)×Zt×(List Z8)×Z9)
abbrev tq1:Type:=((Nat->ZZ)×Z8×Z9×Bool×(Nat->ZZ)×(Nat->ZZ)×Bool×Int×Z9×(List Zn)×(List Z8)×Z8×(List Zn)×Zt×(List Z8)×Z9×Z9×Zn×Int×(List Z8)×Int×Bool×(Nat->ZZ)×Bool×Int×Bool)⊕((Nat->ZZ)×Z8×Z9×Bool×(Nat->ZZ)×(Nat->ZZ)×Bool×Int×Z9×(List Zn)×(List Z8)×Z8×(List Zn)×Zt×(List Z8)×Z9×Z9×Zn×Int×(List Z8)×Int×Bool×(Nat->ZZ)×Bool×Int×Bool)⊕((Nat->ZZ)×Z8×Z9×Bool×(Nat->ZZ)×(Nat->ZZ)×Bool×Int×Z9×(List Zn)×Z8×(List Zn)×Zt×(List Z8)×Z9×Z9×Zn×Int×Int×Bool×(Nat->ZZ)×Bool×Int×Bool)⊕((Nat->ZZ)×Z8×Z9×Bool×(Nat->ZZ)×(Nat->ZZ)×Bool×Int×Z9×(List Zn)×Z8×(List Zn)×Zt×(List Z8)×Z9×Z9×Zn×Int×Int×Bool×(Nat->ZZ)×Bool×Int×Bool)⊕((Nat->ZZ)×Z8×Z9×(List Z8)×Bool×(Nat->ZZ)×(Nat->ZZ)×Bool×Int×Z9×(List Zn)×Z8×(List Zn)×Zt×(List Z8)×Z9×Z9×Zn×Int×Int×(List Z8)×Bool×(Nat->ZZ)×Bool×Int×Bool)⊕((Nat->ZZ)×Z8×Z9×(List Z8)×Bool×(Nat->ZZ)×(Nat->ZZ)×Bool×Int×Z9×(List Zn)×Z8×(List Zn)×Zt×(List Z8)×Z9×Z9×Zn×Int×Int×(List Z8)×Bool×(Nat->ZZ)×Bool×Int×Bool)⊕((Nat->ZZ)×Z8×Z9×Bool×(Nat->ZZ)×(Nat->ZZ)×Bool×Int×Z9×(List Zn)×Z8×(List Zn)×Zt×(List Z8)×Z9×Z9×Zn×Int×Int×Bool×(Nat->ZZ)×Bool×Int×Bool)⊕((Nat->ZZ)×Z8×Z9×Bool×(Nat->ZZ)×(Nat->ZZ)×Bool×Int×Z9×(List Zn)×Z8×(List Zn)×Zt×(List Z8)×Z9×Z9×Zn×Int×Int×Bool×(Nat->ZZ)×Bool×Int×Bool)⊕((List Z8)×(Nat->ZZ)×Z8×Z9×Bool×(Nat->ZZ)×(Nat->ZZ)×Bool×Int×Z9×(List Zn)×Z8×(List Zn)×Zt×(List Z8)×Z9×(List Z8)×Z9×Zn×Int×Int×Bool×(Nat->ZZ)×Bool×Int×Bool)⊕((List Z8)×(Nat->ZZ)×Z8×Z9×Bool×(Nat->ZZ)×(Nat->ZZ)×Bool×Int×Z9×(List Zn)×Z8×(List Zn)×Zt×(List Z8)×Z9×(List Z8)×Z9×Zn×Int×Int×Bool×(Nat->ZZ)×Bool×Int×Bool)⊕((Nat->ZZ)×Z8×Z9×Bool×(Nat->ZZ)×(Nat->ZZ)×Bool×Int×Z9×(List Zn)×Z8×(List Zn)×Zt×(List Z8)×Z9×Z9×Zn×Int×Int×Bool×(Nat->ZZ)×Bool×Int×Bool)⊕((Nat->ZZ)×Z8×Z9×Bool×(Nat->ZZ)×(Nat->ZZ)×Bool×Int×Z9×(List Zn)×Z8×(List Zn)×Zt×(List Z8)×Z9×Z9×Zn×Int×Int×Bool×(Nat->ZZ)×Bool×Int×Bool)⊕((Nat->ZZ)×Z8×Z9×Bool×(Nat->ZZ)×(Nat->ZZ)×Bool×Int×Z9×(List Zn)×Z8×(List Z8)×(List Z8)×(List Zn)×Zt×(List Z8)×Z9×Z9×Zn×Int×Int×Bool×(Nat->ZZ)×Bool×Int×Bool)⊕((Nat->ZZ)×Z8×Z9×Bool×(Nat->ZZ)×(Nat->ZZ)×Bool×Int×Z9×(List Zn)×Z8×(List Z8)×(List Z8)×(List Zn)×Zt×(List Z8)×Z9×Z9×Zn×Int×Int×Bool×(Nat->ZZ)×Bool×Int×Bool)⊕((Nat->ZZ)×Z8×Z9×Bool×(Nat->ZZ)×(Nat->ZZ)×Bool×Int×Z9×(List Zn)×Z8×(List Zn)×Zt×(List Z8)×Z9×Z9×Zn×Int×Int×Bool×(Nat->ZZ)×Bool×Int×Bool)⊕((Nat->ZZ)×Z8×Z9×Bool×(Nat->ZZ)×(Nat->ZZ)×Bool×Int×Z9×(List Zn)×Z8×(List Zn)×Zt×(List Z8)×Z9×Z9×Zn×Int×Int×Bool×(Nat->ZZ)×Bool×Int×Bool)⊕((Nat->ZZ)×Z8×Z9×Bool×(Nat->ZZ)×Bool×Int×Z9×(List Zn)×(List Zn)×Zt×(List Z8)×Z9×Z9×Int×Int×Bool×(Nat->ZZ)×Bool×Int×Bool)
abbrev tq0:Type:=((Nat->ZZ)×Z8×Z9×Bool×(Nat->ZZ)×(Nat->ZZ)×Bool×Int×Z9×(List Zn)×(List Z8)×Z8×(List Zn)×Zt×(List Z8)×Z9×Z9×Zn×Int×(List Z8)×Int×Bool×(Nat->ZZ)×Bool×Int×Bool×(List Z8))⊕((Nat->ZZ)×Z8×Z9×Bool×(Nat->ZZ)×(Nat->ZZ)×Bool×Int×Z9×(List Zn)×(List Z8)×Z8×(List Zn)×Zt×(List Z8)×Z9×Z9×Zn×Int×(List Z8)×Int×Bool×(Nat->ZZ)×Bool×Int×Bool×(List Z8))⊕((Nat->ZZ)×Z8×Z9×Bool×(Nat->ZZ)×(Nat->ZZ)×Bool×Int×Z9×(List Zn)×Z8×(List Zn)×Zt×(List Z8)×Z9×Z9×Zn×Int×Int×Bool×(Nat->ZZ)×Bool×Int×Bool×(List Z8))⊕((Nat->ZZ)×Z8×Z9×Bool×(Nat->ZZ)×(Nat->ZZ)×Bool×Int×Z9×(List Zn)×Z8×(List Zn)×Zt×(List Z8)×Z9×Z9×Zn×Int×Int×Bool×(Nat->ZZ)×Bool×Int×Bool×(List Z8))⊕((Nat->ZZ)×Z8×Z9×(List Z8)×Bool×(Nat->ZZ)×(Nat->ZZ)×Bool×Int×Z9×(List Zn)×Z8×(List Zn)×Zt×(List Z8)×Z9×Z9×Zn×Int×Int×(List Z8)×Bool×(Nat->ZZ)×Bool×Int×Bool×(List Z8))⊕((Nat->ZZ)×Z8×Z9×(List Z8)×Bool×(Nat->ZZ)×(Nat->ZZ)×Bool×Int×Z9×(List Zn)×Z8×(List Zn)×Zt×(List Z8)×Z9×Z9×Zn×Int×Int×(List Z8)×Bool×(Nat->ZZ)×Bool×Int×Bool×(List Z8))⊕((Nat->ZZ)×Z8×Z9×Bool×(Nat->ZZ)×(Nat->ZZ)×Bool×Int×Z9×(List Zn)×Z8×(List Zn)×Zt×(List Z8)×Z9×Z9×Zn×Int×Int×Bool×(Nat->ZZ)×Bool×Int×Bool×(List Z8))⊕((Nat->ZZ)×Z8×Z9×Bool×(Nat->ZZ)×(Nat->ZZ)×Bool×Int×Z9×(List Zn)×Z8×(List Zn)×Zt×(List Z8)×Z9×Z9×Zn×Int×Int×Bool×(Nat->ZZ)×Bool×Int×Bool×(List Z8))⊕((List Z8)×(Nat->ZZ)×Z8×Z9×Bool×(Nat->ZZ)×(Nat->ZZ)×Bool×Int×Z9×(List Zn)×Z8×(List Zn)×Zt×(List Z8)×Z9×(List Z8)×Z9×Zn×Int×Int×Bool×(Nat->ZZ)×Bool×Int×Bool×(List Z8))⊕((List Z8)×(Nat->ZZ)×Z8×Z9×Bool×(Nat->ZZ)×(Nat->ZZ)×Bool×Int×Z9×(List Zn)×Z8×(List Zn)×Zt×(List Z8)×Z9×(List Z8)×Z9×Zn×Int×Int×Bool×(Nat->ZZ)×Bool×Int×Bool×(List Z8))⊕((Nat->ZZ)×Z8×Z9×Bool×(Nat->ZZ)×(Nat->ZZ)×Bool×Int×Z9×(List Zn)×Z8×(List Zn)×Zt×(List Z8)×Z9×Z9×Zn×Int×Int×Bool×(Nat->ZZ)×Bool×Int×Bool×(List Z8))⊕((Nat->ZZ)×Z8×Z9×Bool×(Nat->ZZ)×(Nat->ZZ)×Bool×Int×Z9×(List Zn)×Z8×(List Zn)×Zt×(List Z8)×Z9×Z9×Zn×Int×Int×Bool×(Nat->ZZ)×Bool×Int×Bool×(List Z8))⊕((Nat->ZZ)×Z8×Z9×Bool×(Nat->ZZ)×(Nat->ZZ)×Bool×Int×Z9×(List Zn)×Z8×(List Z8)×(List Z8)×(List Zn)×Zt×(List Z8)×Z9×Z9×Zn×Int×Int×Bool×(Nat->ZZ)×Bool×Int×Bool×(List Z8))⊕((Nat->ZZ)×Z8×Z9×Bool×(Nat->ZZ)×(Nat->ZZ)×Bool×Int×Z9×(List Zn)×Z8×(List Z8)×(List Z8)×(List Zn)×Zt×(List Z8)×Z9×Z9×Zn×Int×Int×Bool×(Nat->ZZ)×Bool×Int×Bool×(List Z8))⊕((Nat->ZZ)×Z8×Z9×Bool×(Nat->ZZ)×(Nat->ZZ)×Bool×Int×Z9×(List Zn)×Z8×(List Zn)×Zt×(List Z8)×Z9×Z9×Zn×Int×Int×Bool×(Nat->ZZ)×Bool×Int×Bool×(List Z8))⊕((Nat->ZZ)×Z8×Z9×Bool×(Nat->ZZ)×(Nat->ZZ)×Bool×Int×Z9×(List Zn)×Z8×(List Zn)×Zt×(List Z8)×Z9×Z9×Zn×Int×Int×Bool×(Nat->ZZ)×Bool×Int×Bool×(List Z8))⊕((Nat->ZZ)×Z8×Z9×Bool×(Nat->ZZ)×Bool×Int×Z9×(List Zn)×(List Zn)×Zt×(List Z8)×Z9×Z9×Int×Int×Bool×(Nat->ZZ)×Bool×Int×Bool×(List Z8))
abbrev vI:Option (TV S):=some (.bool false)
abbrev vH:Option (TV S):=some (.int .i64 0)
abbrev vG:Option (TV S):=some (.sl (.st 5) [])
abbrev vF:Option (TV S):=some (.sl (.st 25) [])
abbrev vE:Option (TV S):=some (.sl (.st 21) [])
abbrev vD:Option (TV S):=some (.sl (.st 19) [])
abbrev oC:Option (Zk S):=some (.row 9 .str [] 1 0)
abbrev vB:Option (TV S):=some (.str ByteArray.empty)
abbrev oA:Option (Zk S):=some (.cells 101 [(.yld 5)])
abbrev oz:Option (Zk S):=some (.cells 101 [(.yld 3)])
abbrev oy:Option (Zk S):=some (.row 50 (.st 5) [] 1 0)
abbrev ox:Option (Zk S):=some (.row 52 (.st 19) [] 1 0)
abbrev ow:Option (Zk S):=some (.row 110 (.st 25) [] 0 0)
abbrev ov:Option (Zk S):=some (.row 110 (.st 25) [] 1 1)
abbrev ou:Option (Zk S):=some (.cells 4 [(.bool false)])
abbrev ot:Option (Zk S):=some (.siter ByteArray.empty 0)
abbrev os:Option (Zk S):=some (.cells 3 [(.int .i64 0)])
abbrev or:Option (Zk S):=some (.row 3 (.int .i64) [] 0 0)
abbrev oq:Option (Zk S):=some (.row 3 (.int .i64) [] 1 0)
abbrev op:Option (Zk S):=some (.cells 103 [(.sl (.st 25) [])])
abbrev oo:Option (Zk S):=some (.cells 77 [.nils,.nils,.nils])
abbrev on:Option (Zk S):=some (.cells 63 [(.stc 22 (T.dflt 22))])
abbrev om:Option (Zk S):=some (.cells 54 [(.stc 21 (T.dflt 21))])
abbrev ol:Option (Zk S):=some (.cells 52 [(.stc 19 (T.dflt 19))])
abbrev ok:Option (Zk S):=some (.cells 43 [(.stc 18 (T.dflt 18))])
abbrev oj:Option (Zk S):=some (.cells 25 [(.stc 20 (T.dflt 20))])
abbrev oi:Option (Zk S):=some (.cells 110 [(.stc 25 (T.dflt 25))])
abbrev vh:Option (TV S):=some (.tup [(.int .i64 0),(.int .i64 0)])
abbrev vg:Option (TV S):=some (.agg [(.arr (.st 5) 10 (fun _=>tdf T (.st 5)))])
abbrev of:Option (Zk S):=some (.cells 77 [(.rs 38 0),(.rs 39 0),(.sl (.st 23) [])])
abbrev oe:Option (Zk S):=some (.cells 67 [(.arr (.st 5) 10 (fun _=>tdf T (.st 5)))])
abbrev vd:Option (TV S):=some (.fn (.func 85) [] [(.ptr 42 0),(.ptr 43 0),(.ptr 44 0)])
abbrev vc:Option (TV S):=some (.fn (.func 85) [] [(.ptr 40 0),(.ptr 41 0),(.ptr 42 0)])
abbrev ob:Option (Zk S):=some (.cells 102 [(.fn (.func 57) [] [(.ptr 7 0),(.ptr 6 0),(.ptr 0 0)])])
abbrev oa:Option (Zk S):=some (.cells 102 [(.fn (.func 57) [] [(.ptr 5 0),(.ptr 4 0),(.ptr 0 0)])])
abbrev o9:Option (Zk S):=some (.loop 30 (N (N L (some (.ptr 2 0)) L) (some (.agg [(.stc 22 (T.dflt 22))])) (N (N L (some (.fn (.func 56) [] [(.ptr 5 0)])) L) (some (.ptr 1 0)) L)) (5::[]) .skip .skip 0 .ret (0::(30::[])) (0::(1::(0::(1::[])))))
abbrev o8:Option (Zk S):=some (.loop 30 (N (N L (some (.ptr 2 0)) L) (some (.agg [(.stc 22 (T.dflt 22))])) (N (N L (some (.fn (.func 56) [] [(.ptr 1 0)])) L) (some (.ptr 0 0)) L)) (5::[]) .skip .skip 0 .normal (0::(30::[])) (0::(1::(0::(1::[])))))
abbrev o7:Option (Zk S):=some (.loop 30 (N (N L (some (.ptr 2 0)) L) (some (.agg [(.stc 22 (T.dflt 22))])) (N (N L (some (.fn (.func 56) [] [(.ptr 5 0)])) L) (some (.ptr 1 0)) L)) (5::[]) .skip .skip 0 .normal (0::(30::[])) (0::(1::(0::(1::[])))))
abbrev o6:Option (Zk S):=some (.loop 10 (N (N (N (N L vH L) none (N (N L vI L) none L)) vE (N (N L (some (.ptr 4 0)) L) vH L)) (some (.agg [(.stc 20 (T.dflt 20))])) (N (N (N L (some (.ptr 3 0)) L) (some .nils) L) (some (.ptr 2 0)) (N L (some (.ptr 1 0)) (N (N L (some (.fn (.func 56) [] [(.ptr 7 0)])) L) none L)))) (23::[]) .skip .skip 0 .busy (0::(10::[])) (0::(1::(0::(1::(1::(1::(1::(1::[])))))))))
abbrev o5:Option (Zk S):=some (.loop 10 (N (N (N (N L vH L) none (N (N L vI L) none L)) vE (N (N L (some (.ptr 4 0)) L) vH L)) (some (.agg [(.stc 20 (T.dflt 20))])) (N (N (N L (some (.ptr 3 0)) L) (some .nils) L) (some (.ptr 2 0)) (N L (some (.ptr 1 0)) (N (N L (some (.fn (.func 56) [] [(.ptr 0 0)])) L) none L)))) (23::[]) .skip .skip 0 .normal (0::(10::[])) (0::(1::(0::(1::(1::(1::(1::(1::[])))))))))
abbrev o4:Option (Zk S):=some (.loop 10 (N (N (N (N L vH L) none (N (N L vI L) none L)) vE (N (N L (some (.ptr 4 0)) L) vH L)) (some (.agg [(.stc 20 (T.dflt 20))])) (N (N (N L (some (.ptr 3 0)) L) (some .nils) L) (some (.ptr 2 0)) (N L (some (.ptr 1 0)) (N (N L (some (.fn (.func 56) [] [(.ptr 7 0)])) L) none L)))) (23::[]) .skip .skip 0 .normal (0::(10::[])) (0::(1::(0::(1::(1::(1::(1::(1::[])))))))))
abbrev o3:Option (Zk S):=some (.loop 57 (N (N (N (N L (some (.ptr 7 0)) L) (some (.ptr 5 0)) (N L vI (N (N L vc L) none L))) vg (N (N L (some (.ptr 9 0)) L) (some (.ptr 0 0)) (N L none (N L vI L)))) vH (N (N (N L (some (.ptr 8 0)) (N L vI L)) (some (.ptr 4 0)) (N L (some (.ptr 32 0)) L)) (some .sl0) (N (N L (some (.ptr 17 0)) L) (some (.ptr 6 0)) L))) (44::[]) .skip .skip 0 .ret (0::(57::[])) (0::(1::(0::(1::(1::(1::(1::(1::[])))))))))
abbrev o2:Option (Zk S):=some (.loop 57 (N (N (N (N L (some (.ptr 9 0)) L) (some (.ptr 7 0)) (N L vI (N (N L vd L) none L))) vg (N (N L (some (.ptr 11 0)) L) (some (.ptr 0 0)) (N L none (N L vI L)))) vH (N (N (N L (some (.ptr 10 0)) (N L vI L)) (some (.ptr 6 0)) (N L (some (.ptr 34 0)) L)) (some .sl0) (N (N L (some (.ptr 19 0)) L) (some (.ptr 8 0)) L))) (44::[]) .skip .skip 0 .ret (0::(57::[])) (0::(1::(0::(1::(1::(1::(1::(1::[])))))))))
abbrev o1:Option (Zk S):=some (.loop 57 (N (N (N (N L (some (.ptr 7 0)) L) (some (.ptr 5 0)) (N L vI (N (N L vc L) none L))) vg (N (N L (some (.ptr 9 0)) L) (some (.ptr 0 0)) (N L none (N L vI L)))) vH (N (N (N L (some (.ptr 8 0)) (N L vI L)) (some (.ptr 4 0)) (N L (some (.ptr 32 0)) L)) vF (N (N L (some (.ptr 17 0)) L) (some (.ptr 6 0)) L))) (44::[]) .skip .skip 0 .ret (0::(57::[])) (0::(1::(0::(1::(1::(1::(1::(1::[])))))))))
abbrev o0:Option (Zk S):=some (.loop 57 (N (N (N (N L (some (.ptr 9 0)) L) (some (.ptr 7 0)) (N L vI (N (N L vd L) none L))) vg (N (N L (some (.ptr 11 0)) L) (some (.ptr 0 0)) (N L none (N L vI L)))) vH (N (N (N L (some (.ptr 10 0)) (N L vI L)) (some (.ptr 6 0)) (N L (some (.ptr 34 0)) L)) vF (N (N L (some (.ptr 19 0)) L) (some (.ptr 8 0)) L))) (44::[]) .skip .skip 0 .ret (0::(57::[])) (0::(1::(0::(1::(1::(1::(1::(1::[])))))))))
abbrev o1X:Tr (Zk S):=N (N (N L oq L) none L) none L
abbrev o1W:Tr (Zk S):=N (N (N L ot L) none L) none L
abbrev v1V:Tr (TV S):=N L none (N (N L vH L) none L)
abbrev v1U:Tr (TV S):=N (N (N L vH L) none L) none L
abbrev v1T:Tr (TV S):=N (N L vH L) (some (.ptr 1 0)) L
abbrev o1S:Tr (Zk S):=N L none (N (N (N L ok L) ok L) none L)
abbrev v1R:Tr (TV S):=N (N (N L vH L) none L) none (N (N L vH L) vH L)
abbrev o1Q:Tr (Zk S):=N (N L none (N (N (N L oC L) none L) none L)) oj L
abbrev v1P:Tr (TV S):=N (N L none (N L vH L)) none (N (N L vH L) none L)
abbrev o1O:Tr (Zk S):=N (N L none (N (N L none (N L ok L)) none L)) none L
abbrev o1N:Tr (Zk S):=N L none (N L none (N (N (N L ok L) none L) none L))
abbrev o1M:Tr (Zk S):=N (N (N L oe L) on (N L o5 L)) on (N (N L ou L) oj L)
abbrev o1L:Tr (Zk S):=N (N (N L o8 L) on (N L oe L)) ou (N (N L oz L) on L)
abbrev o1K:Tr (Zk S):=N (N (N L o9 L) ou (N L on L)) oa (N (N L oz L) on L)
abbrev o1J:Tr (Zk S):=N (N (N L o7 L) ou (N L on L)) oa (N (N L oz L) on L)
abbrev v1I:Tr (TV S):=N (N (N L vI L) none L) none (N L (some (.ptr 1 0)) L)
abbrev v1H:Tr (TV S):=N (N L (some (.ptr 7 0)) L) vg (N L (some (.ptr 0 0)) L)
abbrev v1G:Tr (TV S):=N (N L (some (.ptr 5 0)) L) vg (N L (some (.ptr 0 0)) L)
abbrev o1F:Tr (Zk S):=N (N (N (N (N L ox L) om L) none L) op (N (N L on L) none L)) oA L
abbrev v1E:Tr (TV S):=N (N L (some (.ptr 0 0)) L) none (N (N L vI L) (some (.ptr 1 0)) L)
abbrev o1D:Tr (Zk S):=N L oj (N (N L none (N L (some (.row 117 (.st 23) [] 1 0)) L)) none L)
abbrev o1C:Tr (Zk S):=N L none (N (N (N L ol L) os L) none (N (N (N L ow L) none L) none L))
abbrev o1B:Tr (Zk S):=N (N (N (N L oe L) oe L) on (N L o5 L)) on (N (N L ou L) oj (N L oA L))
abbrev o1A:Tr (Zk S):=N (N (N (N L on L) oe L) on (N L o4 L)) ob (N (N L ou L) oj (N L oA L))
abbrev o1z:Tr (Zk S):=N (N (N (N (N (N L ov L) ox L) om L) none L) op (N (N L on L) none L)) oA L
abbrev o1y:Tr (Zk S):=N (N (N L none (N L o2 L)) os L) ou (N L none (N (N (N L ol L) os L) none L))
abbrev o1x:Tr (Zk S):=N (N (N L none (N L o0 L)) os L) ou (N L none (N (N (N L ol L) os L) none L))
abbrev v1w:Tr (TV S):=N (N L none (N L (some (.ptr 45 0)) L)) none (N (N L (some (.rs 48 0)) L) none L)
abbrev v1v:Tr (TV S):=N (N (N L (some (.sl (.st 24) [])) L) none L) (some (.ptr 0 0)) (N (N L vH L) none L)
abbrev v1u:Tr (TV S):=N L none (N (N (N L vH L) (some (.ptr 1 0)) (N L vH L)) vF (N L (some (.ptr 2 0)) L))
abbrev o1t:Tr (Zk S):=N (N L oo (N L oq L)) oj (N (N L oq L) (some (.cells 77 [(.rs 4 0),(.rs 5 0),.nils])) L)
abbrev o1s:Tr (Zk S):=N (N (N (N L on L) oe L) on (N (N (N (N L oe L) none L) none L) o6 L)) none (N (N L ou L) oj L)
abbrev o1r:Tr (Zk S):=N (N (N (N L none (N (N L or L) none L)) none L) of L) of (N L none (N L none (N (N (N L or L) none L) none L)))
abbrev o1q:Tr (Zk S):=N (N (N (N L none (N (N L or L) none L)) none L) oo L) of (N L none (N L none (N (N (N L or L) none L) none L)))
abbrev o1p:Tr (Zk S):=N (N (N (N (N L ox L) om L) none L) op (N (N L on L) none L)) oA (N L none (N (N (N (N L ow L) none L) none L) none L))
abbrev o1o:Tr (Zk S):=N (N L (some (.cells 77 [(.stc 24 (T.dflt 24))])) L) oj (N (N L none (N L none (N L (some (.row 77 (.st 24) [] 1 0)) L))) none L)
abbrev v1n:Tr (TV S):=N (N v1V none L) none (N (N (N L vH L) (some (.ptr 1 0)) (N (N L vH L) none L)) vF (N L (some (.ptr 2 0)) L))
abbrev o1m:Tr (Zk S):=N (N L oo (N (N (N L or L) none L) none L)) (some (.cells 77 [(.rs 16 0),(.rs 17 0),(.sl (.st 23) [])])) (N (N (N (N L or L) none L) none L) none L)
abbrev o1l:Tr (Zk S):=N (N L oo (N L none (N (N L or L) none L))) (some (.cells 77 [(.rs 21 0),(.rs 22 0),(.sl (.st 23) [])])) (N L none (N L none (N (N L or L) none L)))
abbrev o1k:Tr (Zk S):=N (N L none (N L none (N L none (N (N L (some (.cells 50 [(.stc 5 (T.dflt 5))])) L) none L)))) oj (N (N (N (N L none (N L oy L)) none L) none L) none L)
abbrev v1j:Tr (TV S):=N (N L none (N L none (N L none (N L vH L)))) none (N (N (N L (some (.ptr 3 0)) L) none L) none (N (N L (some (.ptr 33 0)) L) none (N L none (N L vH L))))
abbrev o1i:Tr (Zk S):=N (N (N (N (N (N L or L) none L) none L) none L) oo L) (some (.cells 77 [(.rs 30 0),(.rs 31 0),(.sl (.st 23) [])])) (N L none (N L none (N L none (N L or L))))
abbrev o1h:Tr (Zk S):=N (N (N (N (N (N (N L ov L) ox L) om L) none L) op (N (N L on L) none L)) oz L) on (N (N L none (N (N (N L ol L) os L) none L)) os (N L none (N (N L o3 L) none L)))
abbrev o1g:Tr (Zk S):=N (N (N (N (N (N (N L ov L) ox L) om L) none L) op (N (N L on L) none L)) oz L) on (N (N L none (N (N (N L ol L) os L) none L)) os (N L none (N (N L o1 L) none L)))
abbrev o1f:Tr (Zk S):=N (N (N (N (N (N L ox L) om L) none L) op (N (N L on L) none L)) oz L) on (N (N L none (N (N (N L ol L) os L) none L)) os (N L none (N (N (N (N L ov L) none L) o3 L) none L)))
abbrev o1e:Tr (Zk S):=N (N (N (N (N (N L ox L) om L) none L) op (N (N L on L) none L)) oz L) on (N (N L none (N (N (N L ol L) os L) none L)) os (N L none (N (N (N (N L ov L) none L) o1 L) none L)))
abbrev o1d:Tr (Zk S):=N (N L none (N (N (N L (some (.row 9 .str [] 1 1)) L) none L) none L)) oj (N (N L none (N L none (N L ok L))) none (N L none (N (N (N L (some (.row 9 .str [] 0 0)) L) none L) none L)))
abbrev o1c:Tr (Zk S):=N (N (N (N (N (N L ox L) om L) none L) op (N (N L on L) none L)) oz L) on (N o1C os (N L none (N (N L o3 L) none L)))
abbrev o1b:Tr (Zk S):=N (N (N (N (N (N L ox L) om L) none L) op (N (N L on L) none L)) oz L) on (N o1C os (N L none (N (N L o1 L) none L)))
abbrev o1a:Tr (Zk S):=N (N (N (N (N L none (N (N L ov L) oi L)) none L) on (N (N (N L ox L) none L) none L)) oe (N (N (N L none (N L oe L)) oe L) ou (N (N L os L) none L))) on (N (N L oe (N L none (N L oi L))) o4 L)
abbrev o19:Tr (Zk S):=N (N (N L oe (N L none (N L oi L))) o9 L) ou (N (N (N (N L none (N L oe L)) oe L) ou (N (N L os L) none L)) on (N (N (N (N L ox L) none L) none L) none (N L none (N (N L oi L) none (N L ow L)))))
abbrev o18:Tr (Zk S):=N (N (N L oe (N L none (N L oi L))) o7 L) ou (N (N (N (N L none (N L oe L)) oe L) ou (N (N L os L) none L)) on (N (N (N (N L ox L) none L) none L) none (N L none (N (N L oi L) none (N L ow L)))))
abbrev o17:Tr (Zk S):=N (N (N L oe (N L none (N L oi L))) o9 L) ou (N (N (N (N L none (N L oe L)) oe L) ou (N (N L os L) none L)) on (N (N (N (N L ox L) none L) none L) none (N L none (N (N (N L ov L) oi L) none L))))
abbrev o16:Tr (Zk S):=N (N (N L oe (N L none (N L oi L))) o7 L) ou (N (N (N (N L none (N L oe L)) oe L) ou (N (N L os L) none L)) on (N (N (N (N L ox L) none L) none L) none (N L none (N (N (N L ov L) oi L) none L))))
abbrev v15:Tr (TV S):=N (N (N L (some (.ptr 44 0)) L) none (N (N L none (N L vH L)) (some (.ptr 57 0)) L)) (some (.yld 48)) (N (N (N L none (N L (some (.rs 71 0)) L)) none L) (some (.ptr 43 0)) (N (N L none (N L vH L)) vH L))
abbrev v14:Tr (TV S):=N (N (N L (some (.ptr 42 0)) L) none (N (N L none (N L vH L)) (some (.ptr 55 0)) L)) (some (.yld 46)) (N (N (N L none (N L (some (.rs 69 0)) L)) none L) (some (.ptr 41 0)) (N (N L none (N L vH L)) vH L))
abbrev o13:Tr (Zk S):=N (N (N (N (N (N (N L ow L) none L) none (N L oi L)) none L) on (N (N (N L ox L) none L) none L)) oe (N (N (N L none (N L oe L)) oe L) ou (N (N L os L) none L))) on (N (N L oe (N L none (N L oi L))) o4 L)
abbrev o12:Tr (Zk S):=N (N (N (N (N (N L ox L) om L) none L) op (N (N L on L) none L)) oz (N L none (N (N (N (N L ow L) none L) none L) none L))) on (N (N L none (N (N (N L ol L) os L) none L)) os (N L none (N (N L o3 L) none L)))
abbrev o11:Tr (Zk S):=N (N (N (N (N (N L ox L) om L) none L) op (N (N L on L) none L)) oz (N L none (N (N (N (N L ow L) none L) none L) none L))) on (N (N L none (N (N (N L ol L) os L) none L)) os (N L none (N (N L o1 L) none L)))
abbrev o10:Tr (Zk S):=N (N (N (N (N L none (N L oi L)) none L) on (N (N (N L ox L) none L) none L)) oe (N (N (N L none (N L oe L)) oe L) ou (N (N L os L) none L))) on (N (N (N L none (N (N (N L ov L) none L) none L)) oe (N L none (N L oi L))) o4 L)
abbrev oZ:Tr (Zk S):=N (N (N (N L none (N (N (N L ov L) none L) none L)) oe (N L none (N L oi L))) o9 L) ou (N (N (N (N L none (N L oe L)) oe L) ou (N (N L os L) none L)) on (N (N (N (N L ox L) none L) none L) none (N L none (N (N L oi L) none L))))
abbrev oY:Tr (Zk S):=N (N (N (N L none (N (N (N L ov L) none L) none L)) oe (N L none (N L oi L))) o7 L) ou (N (N (N (N L none (N L oe L)) oe L) ou (N (N L os L) none L)) on (N (N (N (N L ox L) none L) none L) none (N L none (N (N L oi L) none L))))
abbrev vX:Tr (TV S):=N (N (N (N L none (N L none (N (N L vF L) none L))) none L) none (N (N L none v1V) none L)) none (N (N (N L vH v1V) (some (.ptr 1 0)) (N L vH L)) vF (N L (some (.ptr 2 0)) L))
abbrev oW:Tr (Zk S):=N (N (N (N (N L none (N L oi L)) none L) on (N (N (N L ox L) none L) none L)) oe (N (N (N L none (N L oe L)) oe L) ou (N (N L os L) none L))) on (N (N L oe (N L none (N L oi L))) o4 (N L none (N (N (N (N L ow L) none L) none L) none L)))
abbrev oV:Tr (Zk S):=N (N (N L oe (N L none (N L oi L))) o9 (N L none (N (N (N (N L ow L) none L) none L) none L))) ou (N (N (N (N L none (N L oe L)) oe L) ou (N (N L os L) none L)) on (N (N (N (N L ox L) none L) none L) none (N L none (N (N L oi L) none L))))
abbrev oU:Tr (Zk S):=N (N (N L oe (N L none (N L oi L))) o7 (N L none (N (N (N (N L ow L) none L) none L) none L))) ou (N (N (N (N L none (N L oe L)) oe L) ou (N (N L os L) none L)) on (N (N (N (N L ox L) none L) none L) none (N L none (N (N L oi L) none L))))
abbrev vT:Tr (TV S):=N (N (N v1V none (N (N L vH L) none L)) none (N (N L vH L) none L)) none (N (N (N L vH (N (N L vH L) none L)) (some (.ptr 1 0)) (N (N L vH L) none L)) vF (N L (some (.ptr 2 0)) (N (N (N L vF L) none L) none L)))
abbrev oS:Tr (Zk S):=N (N (N (N (N (N L none (N L oi L)) none L) on (N (N (N L ox L) none L) none L)) oe (N (N (N L none (N L oe L)) oe L) ou (N (N L os L) none L))) on (N (N L oe (N L none (N L oi L))) o4 L)) ob (N o1y oj o1F)
abbrev oR:Tr (Zk S):=N (N (N (N (N (N L none (N L oi L)) none L) on (N (N (N L ox L) none L) none L)) oe (N (N (N L none (N L oe L)) oe L) ou (N (N L os L) none L))) on (N (N L oe (N L none (N L oi L))) o4 L)) ob (N o1x oj o1F)
abbrev oQ:Tr (Zk S):=N (N (N (N L oe (N L none (N L oi L))) o9 L) ou (N (N (N (N L none (N L oe L)) oe L) ou (N (N L os L) none L)) on (N (N (N (N L ox L) none L) none L) none (N L none (N (N L oi L) none L))))) oa (N (N (N (N (N (N L ox L) om L) none L) op (N (N L on L) none L)) oz L) on (N (N L none (N (N (N L ol L) os L) none L)) os (N L none (N (N L o3 L) none L))))
abbrev oP:Tr (Zk S):=N (N (N (N L oe (N L none (N L oi L))) o7 L) ou (N (N (N (N L none (N L oe L)) oe L) ou (N (N L os L) none L)) on (N (N (N (N L ox L) none L) none L) none (N L none (N (N L oi L) none L))))) oa (N (N (N (N (N (N L ox L) om L) none L) op (N (N L on L) none L)) oz L) on (N (N L none (N (N (N L ol L) os L) none L)) os (N L none (N (N L o3 L) none L))))
abbrev oO:Tr (Zk S):=N (N (N (N L oe (N L none (N L oi L))) o9 L) ou (N (N (N (N L none (N L oe L)) oe L) ou (N (N L os L) none L)) on (N (N (N (N L ox L) none L) none L) none (N L none (N (N L oi L) none L))))) oa (N (N (N (N (N (N L ox L) om L) none L) op (N (N L on L) none L)) oz L) on (N (N L none (N (N (N L ol L) os L) none L)) os (N L none (N (N L o1 L) none L))))
abbrev oN:Tr (Zk S):=N (N (N (N L oe (N L none (N L oi L))) o7 L) ou (N (N (N (N L none (N L oe L)) oe L) ou (N (N L os L) none L)) on (N (N (N (N L ox L) none L) none L) none (N L none (N (N L oi L) none L))))) oa (N (N (N (N (N (N L ox L) om L) none L) op (N (N L on L) none L)) oz L) on (N (N L none (N (N (N L ol L) os L) none L)) os (N L none (N (N L o1 L) none L))))
abbrev oM:Tr (Zk S):=N (N (N (N L on (N (N (N L ox L) none L) none L)) oe (N (N L oe L) ou (N (N L os L) none L))) on (N (N L oe (N L none (N L oi L))) o4 L)) ob (N (N (N (N L none (N L (some (.loop 57 (N (N (N (N L (some (.ptr 9 0)) L) (some (.ptr 7 0)) (N L vI (N (N L vd L) none L))) vg (N (N L (some (.ptr 11 0)) L) (some (.ptr 0 0)) (N L none (N L vI L)))) vH (N (N (N L (some (.ptr 10 0)) (N L vI L)) (some (.ptr 6 0)) (N L (some (.ptr 34 0)) L)) vF (N (N L (some (.ptr 19 0)) L) (some (.ptr 8 0)) L))) (44::[]) .skip .skip 0 .normal (0::(57::[])) (0::(1::(0::(1::(1::(1::(1::(1::[])))))))))) L)) os L) ou (N L none (N (N L os L) none L))) oj o1F)
abbrev oL:Tr (Zk S):=N (N (N (N L oe (N L none (N L oi L))) o7 L) ou (N (N (N L oe L) ou (N (N L os L) none L)) on (N (N (N (N L ox L) none L) none L) none L))) oa (N (N (N (N (N (N L ox L) om L) none L) op (N (N L on L) none L)) oz L) on (N (N L none (N (N L os L) none L)) os (N L none (N (N L (some (.loop 57 (N (N (N (N L (some (.ptr 7 0)) L) (some (.ptr 5 0)) (N L vI (N (N L vc L) none L))) vg (N (N L (some (.ptr 9 0)) L) (some (.ptr 0 0)) (N L none (N L vI L)))) vH (N (N (N L (some (.ptr 8 0)) (N L vI L)) (some (.ptr 4 0)) (N L (some (.ptr 32 0)) L)) vF (N (N L (some (.ptr 17 0)) L) (some (.ptr 6 0)) L))) (44::[]) .skip .skip 0 .normal (0::(57::[])) (0::(1::(0::(1::(1::(1::(1::(1::[])))))))))) L) none L))))
abbrev oK:Tr (Zk S):=N (N (N (N L on (N (N (N L ox L) none L) none L)) oe (N (N L oe L) ou (N (N L os L) none L))) on (N (N L oe (N L none (N L oi L))) o4 L)) ob (N (N (N (N L none (N L (some (.loop 57 (N (N (N (N L (some (.ptr 9 0)) L) (some (.ptr 7 0)) (N L vI (N (N L vd L) none L))) vg (N (N L (some (.ptr 11 0)) L) (some (.ptr 0 0)) (N L none (N L vI L)))) vH (N (N (N L (some (.ptr 10 0)) (N L vI L)) (some (.ptr 6 0)) (N L (some (.ptr 34 0)) L)) (some .sl0) (N (N L (some (.ptr 19 0)) L) (some (.ptr 8 0)) L))) (44::[]) .skip .skip 0 .normal (0::(57::[])) (0::(1::(0::(1::(1::(1::(1::(1::[])))))))))) L)) os L) ou (N L none (N (N L os L) none L))) oj o1F)
abbrev oJ:Tr (Zk S):=N (N (N (N L oe (N L none (N L oi L))) o7 L) ou (N (N (N L oe L) ou (N (N L os L) none L)) on (N (N (N (N L ox L) none L) none L) none L))) oa (N (N (N (N (N (N L ox L) om L) none L) op (N (N L on L) none L)) oz L) on (N (N L none (N (N L os L) none L)) os (N L none (N (N L (some (.loop 57 (N (N (N (N L (some (.ptr 7 0)) L) (some (.ptr 5 0)) (N L vI (N (N L vc L) none L))) vg (N (N L (some (.ptr 9 0)) L) (some (.ptr 0 0)) (N L none (N L vI L)))) vH (N (N (N L (some (.ptr 8 0)) (N L vI L)) (some (.ptr 4 0)) (N L (some (.ptr 32 0)) L)) (some .sl0) (N (N L (some (.ptr 17 0)) L) (some (.ptr 6 0)) L))) (44::[]) .skip .skip 0 .normal (0::(57::[])) (0::(1::(0::(1::(1::(1::(1::(1::[])))))))))) L) none L))))
def q0 {R:Type}:Prs S R:=ZjZ
theorem q1 {R:Type}:Z8Z X (q0 (R:=R)):=Zk0 X
def q2:List (Nat×F7 S):=[]
theorem q3:ZaC X (q2):=trivial
abbrev q4 {R:Type}:Z2G S R:=ZiW
theorem q5 {R:Type}:Z4b X (q4 (R:=R)):=Zjx X
def q6:Key:=⟨[80,2,1,50,2,1,14],80,none,[0,0,1,0,1],0,17⟩
def q7:StT S:=⟨(N (N (N (N L vH L) none L) (some (.fn (.func 51) [] [(.ptr 0 0),(.ptr 1 0)])) L) (some (.sl (.int .i64) [])) v1U),(N (N L os L) os L),17⟩
def q8:Way S:=⟨.ret,⟨v1V,(N (N L os L) os L),38⟩,[.int,.int,.int]⟩
def q9:Way S:=⟨(.exit 0),⟨L,(N (N L os L) os L),18⟩,[.int,.int]⟩
def qa:LE S:=⟨q6,q7,[.int,(.lst (.int .i64)),.int,.int,.int],[q8,q9]⟩
def qb (x:tqW):(Int⊕Unit)->((Int×Int×Int)⊕(Int×Int)):=Sum.elim (fun y0=>(.inl (y0,x.u3,x.v4))) (fun y1=>(.inr (x.u3,x.v4)))
def qc {R:Type} (x:tqW) (k:((Int×Int×Int)⊕(Int×Int))->Option R):Option R:=(X2T x.1 x.2.1 x.u3 x.v4 x.u2).bind (Sum.elim (fun y0=>k (.inl (y0,x.u3,x.v4))) (fun y1=>k (.inr (x.u3,x.v4))))
def qd (x:tqW) (v:Int):tqW:=(x.1,x.2.1,v,x.u3,x.v4)
theorem qe (x:tqW):LE.step X qa q2 q0 q4 12 x=WB x.1 x.2.1 x.u3 x.v4 x.u2 (fun w0=>(Sum.inl (x.1,x.2.1,w0,x.u3,x.v4))) (fun p0=>(Sum.inr (.inl (p0,x.u3,x.v4)))) (Sum.inr (.inr (x.u3,x.v4))):=by kernel_rfl
theorem qg {R:Type} (x:tqW) (k:((Int×Int×Int)⊕(Int×Int))->Option R) (r:R) (h:qc x k=some r):∃o,Z66 (LE.step X qa q2 q0 q4 12) x o/\k o=some r:=by
 obtain⟨o,h1,h2⟩:=Z0 h;exact⟨qb x o,Zk6 (st:=fun(x:tqW)=>Wx x.1 x.2.1 x.u3 x.v4) (prj:=fun x=>x.u2) (emb:=qd) (embO:=qb) (fun x=>(qe x).trans (by unfold Wx WB;simp only[ZjX,ZjO,ZjY,Option.map_some,Option.map_none];rfl)) (fun _ _=>rfl) (fun _ _=>rfl) (fun _ _ _=>rfl) (fun _ _ _=>rfl) (fun _=>rfl) (Z25.1 h1),by first|exact h2|(rcases o with o|o<;>exact h2)⟩
def qh {R:Type}:Z2G S R:=LE.ls X qa qc q4
theorem qi {R:Type}:Z4b X (qh (R:=R)):=Zka xok q3 (e:=qa) q1 q5 qg q5
theorem qj (x0 x1:Int) (x2:List Int):Zkc X q2 [(.int .i64),(.int .i64),(.sl (.int .i64))] [.bool] q0 qh 12 14 (x0,x1,x2,())=X1q x0 x1 x2:=by kernel_rfl
def qk:F7 S:=⟨[(.int .i64),(.int .i64),(.sl (.int .i64))],[.bool],fun xs=>W8 xs.1 xs.2.1 xs.u2⟩
theorem ql:Zaq X 14 qk:=Zk9 (Zk8 xok q3 q1 qi 12 14) fun xs _ h=>((qj xs.1 xs.2.1 xs.u2).trans (X3w xs.1 xs.2.1 xs.u2).symm).trans h
def qq:Key:=⟨[17],17,none,[0,0,1,0,1,1],0,4⟩
def qr:StT S:=⟨(N (N (N (N L (some (.iter 3)) L) (some (.int .i32 0)) L) none L) vB L),o1W,4⟩
def qs:Way S:=⟨.ret,⟨(N L none (N L vI L)),o1W,23⟩,[.bool,.str,.nat]⟩
def qt:Way S:=⟨(.exit 0),⟨(N (N (N L (some (.int .i32 0)) L) none L) vB L),o1W,6⟩,[.int,.str,.str,.nat]⟩
def qu:LE S:=⟨qq,qr,[.int,.str,.str,.nat],[qs,qt]⟩
def qv (x:tqY):((Bool×Nat)⊕(Int×Nat))->tqF:=Sum.elim (fun y0=>(.inl (y0.1,x.u2,y0.2))) (fun y1=>(.inr (y1.1,x.2.1,x.u2,y1.2)))
def qw {R:Type} (x:tqY) (k:tqF->Option R):Option R:=(X3m x.2.1 x.u2 (x.1,x.v3)).bind (Sum.elim (fun y0=>k (.inl (y0.1,x.u2,y0.2))) (fun y1=>k (.inr (y1.1,x.2.1,x.u2,y1.2))))
def qx (x:tqY) (v:(Int×Nat)):tqY:=(v.1,x.2.1,x.u2,v.2)
theorem qy (x:tqY):LE.step X qu q2 q0 q4 12 x=X1g x.2.1 x.u2 x.1 x.v3 (fun w0 w1=>(Sum.inl (w0,x.2.1,x.u2,w1))) (fun p0 p1=>(Sum.inr (.inl (p0,x.u2,p1)))) (fun p0 p1=>(Sum.inr (.inr (p0,x.2.1,x.u2,p1)))):=by kernel_rfl
theorem qA {R:Type} (x:tqY) (k:tqF->Option R) (r:R) (h:qw x k=some r):∃o,Z66 (LE.step X qu q2 q0 q4 12) x o/\k o=some r:=by
 obtain⟨o,h1,h2⟩:=Z0 h;exact⟨qv x o,Zk6 (st:=fun(x:tqY)=>X1e x.2.1 x.u2) (prj:=fun x=>(x.1,x.v3)) (emb:=qx) (embO:=qv) (fun x=>(qy x).trans (by unfold X1e X1g;simp only[ZjX,ZjO,ZjY,Option.map_some,Option.map_none];rfl)) (fun _ _=>rfl) (fun _ _=>rfl) (fun _ _ _=>rfl) (fun _ _ _=>rfl) (fun _=>rfl) (Z25.1 h1),by first|exact h2|(rcases o with o|o<;>exact h2)⟩
def qB {R:Type}:Z2G S R:=LE.ls X qu qw q4
theorem qC {R:Type}:Z4b X (qB (R:=R)):=Zka xok q3 (e:=qu) q1 q5 qA q5
theorem qD (x0:ByteArray):Zkc X q2 [.str] [.bool] q0 qB 12 17 (x0,())=X3y x0:=by kernel_rfl
def qE:F7 S:=⟨[.str],[.bool],fun xs=>X3y xs.1⟩
theorem qF:Zaq X 17 qE:=Zk9 (Zk8 xok q3 q1 qC 12 17) fun xs _ h=>(qD xs.1).trans h
def qG:List (Nat×F7 S):=[(14,qk)]
theorem qH:ZaC X (qG):=⟨ql,trivial⟩
theorem qK (x0:CoRecord) (x1:Zt):Zkc X qG [(.st 20),(.st 21)] [(.int .i64)] q0 q4 12 22 (x0,x1,())=X2d x0 x1:=by kernel_rfl
def qL:F7 S:=⟨[(.st 20),(.st 21)],[(.int .i64)],fun xs=>X3b xs.1 xs.2.1⟩
theorem qM:Zaq X 22 qL:=Zk9 (Zk8 xok qH q1 q5 12 22) fun xs _ h=>((qK xs.1 xs.2.1).trans (X4l xs.1 xs.2.1).symm).trans h
def qN:StT S:=⟨(N (N L (some (.fn (.func 16) [] [(.ptr 0 0)])) L) (some (.sl (.st 18) [])) L),(N L oj L),1⟩
def qO:Way S:=⟨.ret,⟨(N L vh L),(N L oj L),1⟩,[.int,.int,(.st 20)]⟩
def qP:PE S:=⟨15,2,qN,[(.lst (.st 18)),(.st 20)],[qO]⟩
def qQ:List (Nat×F7 S):=[(14,qk),(17,qE),(22,qL)]
theorem qR:ZaC X qQ:=⟨ql,qF,qM,trivial⟩
def qU:Key:=⟨[52,2,1,18,5,3,16,3,4,15],52,none,[0,0,1,0,1],0,42⟩
def qV:StT S:=⟨(N (N (N (N L vH L) none L) (some (.fn (.func 19) [] [(.ptr 18 0)])) L) (some (.sl (.st 18) [])) v1U),o1N,42⟩
def qW:Way S:=⟨.ret,⟨v1V,(N o1O none (N L none (N (N (N L ok L) none L) none L))),61⟩,[.int,(.st 18),(.st 18)]⟩
def qX:Way S:=⟨(.exit 0),⟨L,o1N,43⟩,[(.st 18)]⟩
def qY:LE S:=⟨qU,qV,[.int,(.lst (.st 18)),.int,(.st 18)],[qW,qX]⟩
def qZ (x:tqR):((Int×Zj)⊕Unit)->((Int×Zj×Zj)⊕Zj):=Sum.elim (fun y0=>(.inl (y0.1,y0.2,x.v3))) (fun y1=>(.inr x.v3))
def q10 {R:Type} (x:tqR) (k:((Int×Zj×Zj)⊕Zj)->Option R):Option R:=(Xk x.1 x.2.1 x.v3 x.u2).bind (Sum.elim (fun y0=>k (.inl (y0.1,y0.2,x.v3))) (fun y1=>k (.inr x.v3)))
def q11 (x:tqR) (v:Int):tqR:=(x.1,x.2.1,v,x.v3)
theorem q12 (x:tqR):LE.step X qY qQ q0 q4 12 x=Xi x.1 x.2.1 x.v3 x.u2 (fun w0=>(Sum.inl (x.1,x.2.1,w0,x.v3))) (fun p0 p1=>(Sum.inr (.inl (p0,p1,x.v3)))) (Sum.inr (.inr x.v3)):=by kernel_rfl
theorem q14 {R:Type} (x:tqR) (k:((Int×Zj×Zj)⊕Zj)->Option R) (r:R) (h:q10 x k=some r):∃o,Z66 (LE.step X qY qQ q0 q4 12) x o/\k o=some r:=by
 obtain⟨o,h1,h2⟩:=Z0 h;exact⟨qZ x o,Zk6 (st:=fun(x:tqR)=>X8 x.1 x.2.1 x.v3) (prj:=fun x=>x.u2) (emb:=q11) (embO:=qZ) (fun x=>(q12 x).trans (by unfold X8 Xi;simp only[ZjX,ZjO,ZjY,Option.map_some,Option.map_none];rfl)) (fun _ _=>rfl) (fun _ _=>rfl) (fun _ _ _=>rfl) (fun _ _ _=>rfl) (fun _=>rfl) (Z25.1 h1),by first|exact h2|(rcases o with o|o<;>exact h2)⟩
def q15 {R:Type}:Z2G S R:=LE.ls X qY q10 q4
theorem q16 {R:Type}:Z4b X (q15 (R:=R)):=Zka xok qR (e:=qY) q1 q5 q14 q5
def q17:Key:=⟨[15],15,none,[0,0,1,0,1],0,6⟩
def q18:StT S:=⟨(N (N (N L none (N L vH L)) (some (.fn (.func 16) [] [(.ptr 0 0)])) (N (N L (some (.sl (.st 18) [])) L) none L)) none v1V),(N L oj L),6⟩
def q19:Way S:=⟨.ret,⟨v1P,(N L oj o1S),32⟩,[.int,.int,(.st 20),(.st 18),(.st 18)]⟩
def q1a:Way S:=⟨.ret,⟨v1P,(N o1O oj o1S),68⟩,[.int,.int,(.st 18),(.st 20),(.st 18),(.st 18)]⟩
def q1b:Way S:=⟨.ret,⟨v1P,(N (N (N (N o1X none L) none (N (N L none (N L ok L)) none L)) none L) oj o1S),82⟩,[.int,.int,(.lst (.int .i64)),(.st 18),(.st 20),(.st 18),(.st 18)]⟩
def q1c:Way S:=⟨.ret,⟨v1P,(N (N (N (N o1X none o1X) none (N (N L none (N L ok L)) none L)) none L) oj o1S),82⟩,[.int,.int,(.lst (.int .i64)),(.lst (.int .i64)),(.st 18),(.st 20),(.st 18),(.st 18)]⟩
def q1d:Way S:=⟨.ret,⟨v1P,(N L oj (N L none (N (N (N L ok L) ok L) none (N L none (N (N L oq L) none L))))),65⟩,[.int,.int,(.st 20),(.st 18),(.st 18),(.lst (.int .i64))]⟩
def q1e:Way S:=⟨.ret,⟨v1P,(N L oj (N L none (N (N (N L ok L) ok L) none (N (N L none (N L oq L)) none (N (N L oq L) none L))))),65⟩,[.int,.int,(.st 20),(.st 18),(.st 18),(.lst (.int .i64)),(.lst (.int .i64))]⟩
def q1f:Way S:=⟨(.exit 0),⟨L,(N L oj L),7⟩,[(.st 20)]⟩
def q1g:LE S:=⟨q17,q18,[.int,(.lst (.st 18)),.int,(.st 20)],[q19,q1a,q1b,q1c,q1d,q1e,q1f]⟩
def q1h (x:tqS):((Int×Int×Zj×Zj)⊕(Int×Int×Zj×Zj×Zj)⊕(Int×Int×(List Int)×Zj×Zj×Zj)⊕(Int×Int×(List Int)×(List Int)×Zj×Zj×Zj)⊕(Int×Int×Zj×Zj×(List Int))⊕(Int×Int×Zj×Zj×(List Int)×(List Int))⊕Unit)->tq4:=Sum.elim (fun y0=>(.inl (y0.1,y0.2.1,x.v3,y0.u2,y0.v3))) (Sum.elim (fun y1=>(.inr (.inl (y1.1,y1.2.1,y1.u2,x.v3,y1.u3,y1.v4)))) (Sum.elim (fun y2=>(.inr (.inr (.inl (y2.1,y2.2.1,y2.u2,y2.u3,x.v3,y2.u4,y2.v5))))) (Sum.elim (fun y3=>(.inr (.inr (.inr (.inl (y3.1,y3.2.1,y3.u2,y3.u3,y3.u4,x.v3,y3.u5,y3.v6)))))) (Sum.elim (fun y4=>(.inr (.inr (.inr (.inr (.inl (y4.1,y4.2.1,x.v3,y4.u2,y4.u3,y4.v4))))))) (Sum.elim (fun y5=>(.inr (.inr (.inr (.inr (.inr (.inl (y5.1,y5.2.1,x.v3,y5.u2,y5.u3,y5.u4,y5.v5)))))))) (fun y6=>(.inr (.inr (.inr (.inr (.inr (.inr x.v3))))))))))))
def q1i {R:Type} (x:tqS) (k:tq4->Option R):Option R:=(W9 x.2.1 x.u2 x.v3 x.1).bind (Sum.elim (fun y0=>k (.inl (y0.1,y0.2.1,x.v3,y0.u2,y0.v3))) (Sum.elim (fun y1=>k (.inr (.inl (y1.1,y1.2.1,y1.u2,x.v3,y1.u3,y1.v4)))) (Sum.elim (fun y2=>k (.inr (.inr (.inl (y2.1,y2.2.1,y2.u2,y2.u3,x.v3,y2.u4,y2.v5))))) (Sum.elim (fun y3=>k (.inr (.inr (.inr (.inl (y3.1,y3.2.1,y3.u2,y3.u3,y3.u4,x.v3,y3.u5,y3.v6)))))) (Sum.elim (fun y4=>k (.inr (.inr (.inr (.inr (.inl (y4.1,y4.2.1,x.v3,y4.u2,y4.u3,y4.v4))))))) (Sum.elim (fun y5=>k (.inr (.inr (.inr (.inr (.inr (.inl (y5.1,y5.2.1,x.v3,y5.u2,y5.u3,y5.u4,y5.v5)))))))) (fun y6=>k (.inr (.inr (.inr (.inr (.inr (.inr x.v3)))))))))))))
def q1j (x:tqS) (v:Int):tqS:=(v,x.2.1,x.u2,x.v3)
theorem q1k (x:tqS):LE.step X q1g qQ q0 q15 12 x=Xh x.2.1 x.u2 x.v3 x.1 (fun w0=>(Sum.inl (w0,x.2.1,x.u2,x.v3))) (fun p0 p1 p2 p3=>(Sum.inr (.inl (p0,p1,x.v3,p2,p3)))) (fun p0 p1 p2 p3 p4=>(Sum.inr (.inr (.inl (p0,p1,p2,x.v3,p3,p4))))) (fun p0 p1 p2 p3 p4 p5=>(Sum.inr (.inr (.inr (.inl (p0,p1,p2,p3,x.v3,p4,p5)))))) (fun p0 p1 p2 p3 p4 p5 p6=>(Sum.inr (.inr (.inr (.inr (.inl (p0,p1,p2,p3,p4,x.v3,p5,p6))))))) (fun p0 p1 p2 p3 p4=>(Sum.inr (.inr (.inr (.inr (.inr (.inl (p0,p1,x.v3,p2,p3,p4)))))))) (fun p0 p1 p2 p3 p4 p5=>(Sum.inr (.inr (.inr (.inr (.inr (.inr (.inl (p0,p1,x.v3,p2,p3,p4,p5))))))))) (Sum.inr (.inr (.inr (.inr (.inr (.inr (.inr x.v3))))))):=by kernel_rfl
theorem q1m {R:Type} (x:tqS) (k:tq4->Option R) (r:R) (h:q1i x k=some r):∃o,Z66 (LE.step X q1g qQ q0 q15 12) x o/\k o=some r:=by
 obtain⟨o,h1,h2⟩:=Z0 h;exact⟨q1h x o,Zk6 (st:=fun(x:tqS)=>Xn x.2.1 x.u2 x.v3) (prj:=fun x=>x.1) (emb:=q1j) (embO:=q1h) (fun x=>(q1k x).trans (by unfold Xn Xh;simp only[ZjX,ZjO,ZjY,Option.map_some,Option.map_none];rfl)) (fun _ _=>rfl) (fun _ _=>rfl) (fun _ _ _=>rfl) (fun _ _ _=>rfl) (fun _=>rfl) (Z25.1 h1),by first|exact h2|(rcases o with o|o|o|o|o|o|o<;>exact h2)⟩
def q1n {R:Type}:Z2G S R:=LE.ls X q1g q1i q15
theorem q1o {R:Type}:Z4b X (q1n (R:=R)):=Zka xok qR (e:=q1g) q1 q16 q1m q16
theorem q1p (x:((List Zj)×CoRecord)):PE.step X qP qQ q0 q1n 12 x=Xr x.1 x.2:=by kernel_rfl
theorem q1q:ZcA X qP XN:=Zkb (ZjB xok qR q1 q1o 12) fun x _ h=>((q1p x).trans (X1z x).symm).trans h
def q1r {R:Type}:Prs S R:=PE.ps X qP (fun x q=>(XN x).bind q) q0
theorem q1s {R:Type}:Z8Z X (q1r (R:=R)):=Zk3 (e:=qP) q1q q1
def q1t:StT S:=⟨(N (N L (some (.fn (.func 21) [] [(.ptr 0 0)])) L) vD L),(N L oj L),1⟩
def q1v:PE S:=⟨20,2,q1t,[(.lst (.st 19)),(.st 20)],[qO]⟩
def q1A:Key:=⟨[20],20,none,[0,0,1,0,1],0,6⟩
def q1B:StT S:=⟨(N (N (N L none (N L vH L)) (some (.fn (.func 21) [] [(.ptr 0 0)])) (N (N L vD L) none L)) none v1V),(N L oj L),6⟩
def q1C:Way S:=⟨.ret,⟨v1P,(N L oj (N L none (N (N (N L ol L) ol L) none L))),30⟩,[.int,.int,(.st 20),(.st 19),(.st 19)]⟩
def q1E:LE S:=⟨q1A,q1B,[.int,(.lst (.st 19)),.int,(.st 20)],[q1C,q1f]⟩
def q1F (x:tqT):((Int×Int×Zn×Zn)⊕Unit)->tqJ:=Sum.elim (fun y0=>(.inl (y0.1,y0.2.1,x.v3,y0.u2,y0.v3))) (fun y1=>(.inr x.v3))
def q1G {R:Type} (x:tqT) (k:tqJ->Option R):Option R:=(Wk x.2.1 x.u2 x.v3 x.1).bind (Sum.elim (fun y0=>k (.inl (y0.1,y0.2.1,x.v3,y0.u2,y0.v3))) (fun y1=>k (.inr x.v3)))
def q1H (x:tqT) (v:Int):tqT:=(v,x.2.1,x.u2,x.v3)
theorem q1I (x:tqT):LE.step X q1E qQ q1r q4 12 x=Xl x.2.1 x.u2 x.v3 x.1 (fun w0=>(Sum.inl (w0,x.2.1,x.u2,x.v3))) (fun p0 p1 p2 p3=>(Sum.inr (.inl (p0,p1,x.v3,p2,p3)))) (Sum.inr (.inr x.v3)):=by kernel_rfl
theorem q1K {R:Type} (x:tqT) (k:tqJ->Option R) (r:R) (h:q1G x k=some r):∃o,Z66 (LE.step X q1E qQ q1r q4 12) x o/\k o=some r:=by
 obtain⟨o,h1,h2⟩:=Z0 h;exact⟨q1F x o,Zk6 (st:=fun(x:tqT)=>Xq x.2.1 x.u2 x.v3) (prj:=fun x=>x.1) (emb:=q1H) (embO:=q1F) (fun x=>(q1I x).trans (by unfold Xq Xl;simp only[ZjX,ZjO,ZjY,Option.map_some,Option.map_none];rfl)) (fun _ _=>rfl) (fun _ _=>rfl) (fun _ _ _=>rfl) (fun _ _ _=>rfl) (fun _=>rfl) (Z25.1 h1),by first|exact h2|(rcases o with o|o<;>exact h2)⟩
def q1L {R:Type}:Z2G S R:=LE.ls X q1E q1G q4
theorem q1M {R:Type}:Z4b X (q1L (R:=R)):=Zka xok qR (e:=q1E) q1s q5 q1K q5
theorem q1N (x:((List Zn)×CoRecord)):PE.step X q1v qQ q1r q1L 12 x=Xt x.1 x.2:=by kernel_rfl
theorem q1O:ZcA X q1v XV:=Zkb (ZjB xok qR q1s q1M 12) fun x _ h=>((q1N x).trans (X1H x).symm).trans h
def q1P {R:Type}:Prs S R:=PE.ps X q1v (fun x q=>(XV x).bind q) q1r
theorem q1Q {R:Type}:Z8Z X (q1P (R:=R)):=Zk3 (e:=q1v) q1O q1s
def q1R:StT S:=⟨(N (N L (some (.fn (.func 23) [] [(.ptr 0 0)])) L) vD L),(N L os L),1⟩
def q1S:Way S:=⟨.ret,⟨(N L vh L),(N L os L),1⟩,[.int,.int,.int]⟩
def q1T:PE S:=⟨20,2,q1R,[(.lst (.st 19)),.int],[q1S]⟩
def q1Z:StT S:=⟨(N (N (N L none (N L vH L)) (some (.fn (.func 23) [] [(.ptr 0 0)])) (N (N L vD L) none L)) none v1V),(N L os L),6⟩
def q20:Way S:=⟨.ret,⟨v1P,(N L os (N L none (N (N (N L ol L) ol L) none L))),38⟩,[.int,.int,.int,(.st 19),(.st 19)]⟩
def q21:Way S:=⟨(.exit 0),⟨L,(N L os L),7⟩,[.int]⟩
def q22:LE S:=⟨q1A,q1Z,[.int,(.lst (.st 19)),.int,.int],[q20,q21]⟩
def q23 (x:X6v):tqO->tqO:=Sum.elim (fun y0=>(.inl (y0.1,y0.2.1,y0.u2,y0.u3,y0.v4))) (fun y1=>(.inr y1))
def q24 {R:Type} (x:X6v) (k:tqO->Option R):Option R:=(Wl x.2.1 x.u2 (x.1,x.v3)).bind (Sum.elim (fun y0=>k (.inl (y0.1,y0.2.1,y0.u2,y0.u3,y0.v4))) (fun y1=>k (.inr y1)))
def q25 (x:X6v) (v:(Int×Int)):X6v:=(v.1,x.2.1,x.u2,v.2)
theorem q26 (x:X6v):LE.step X q22 qQ q1P q4 12 x=Xm x.2.1 x.u2 x.1 x.v3 (fun w0 w1=>(Sum.inl (w0,x.2.1,x.u2,w1))) (fun p0 p1 p2 p3 p4=>(Sum.inr (.inl (p0,p1,p2,p3,p4)))) (fun p0=>(Sum.inr (.inr p0))):=by kernel_rfl
theorem q28 {R:Type} (x:X6v) (k:tqO->Option R) (r:R) (h:q24 x k=some r):∃o,Z66 (LE.step X q22 qQ q1P q4 12) x o/\k o=some r:=by
 obtain⟨o,h1,h2⟩:=Z0 h;exact⟨q23 x o,Zk6 (st:=fun(x:X6v)=>X7 x.2.1 x.u2) (prj:=fun x=>(x.1,x.v3)) (emb:=q25) (embO:=q23) (fun x=>(q26 x).trans (by unfold X7 Xm;simp only[ZjX,ZjO,ZjY,Option.map_some,Option.map_none];rfl)) (fun _ _=>rfl) (fun _ _=>rfl) (fun _ _ _=>rfl) (fun _ _ _=>rfl) (fun _=>rfl) (Z25.1 h1),by first|exact h2|(rcases o with o|o<;>exact h2)⟩
def q29 {R:Type}:Z2G S R:=LE.ls X q22 q24 q4
theorem q2a {R:Type}:Z4b X (q29 (R:=R)):=Zka xok qR (e:=q22) q1Q q5 q28 q5
theorem q2b (x:((List Zn)×Int)):PE.step X q1T qQ q1P q29 12 x=Xu x.1 x.2:=by kernel_rfl
theorem q2c:ZcA X q1T XW:=Zkb (ZjB xok qR q1Q q2a 12) fun x _ h=>((q2b x).trans (X1J x).symm).trans h
def q2d {R:Type}:Prs S R:=PE.ps X q1T (fun x q=>(XW x).bind q) q1P
theorem q2e {R:Type}:Z8Z X (q2d (R:=R)):=Zk3 (e:=q1T) q2c q1Q
theorem q2g:ZaC X (qQ):=⟨ql,qF,qM,trivial⟩
theorem q2j (x0:CoRecord):Zkc X qQ [(.st 20)] [(.int .i64),(.int .i64),(.int .i64)] q2d q4 12 4 (x0,())=X1V x0:=by kernel_rfl
def q2k:F7 S:=⟨[(.st 20)],[(.int .i64),(.int .i64),(.int .i64)],fun xs=>X2R xs.1⟩
theorem q2l:Zaq X 4 q2k:=Zk9 (Zk8 xok q2g q2e q5 12 4) fun xs _ h=>((q2j xs.1).trans (X3N xs.1).symm).trans h
theorem q2q (x0 x1 x2:Int):Zkc X q2 [(.int .i64),(.int .i64),(.int .i64)] [.bool] q2d q4 12 24 (x0,x1,x2,())=X2L x0 x1 x2:=by kernel_rfl
def q2r:F7 S:=⟨[(.int .i64),(.int .i64),(.int .i64)],[.bool],fun xs=>X2Y xs.1 xs.2.1 xs.u2⟩
theorem q2s:Zaq X 24 q2r:=Zk9 (Zk8 xok q3 q2e q5 12 24) fun xs _ h=>((q2q xs.1 xs.2.1 xs.u2).trans (X4Y xs.1 xs.2.1 xs.u2).symm).trans h
theorem q2x (x0 x1 x2:Int):Zkc X q2 [(.int .i64),(.int .i64),(.int .i64)] [.bool] q2d q4 12 81 (x0,x1,x2,())=X3e x0 x1 x2:=by kernel_rfl
def q2y:F7 S:=⟨[(.int .i64),(.int .i64),(.int .i64)],[.bool],fun xs=>X3e xs.1 xs.2.1 xs.u2⟩
theorem q2z:Zaq X 81 q2y:=Zk9 (Zk8 xok q3 q2e q5 12 81) fun xs _ h=>(q2x xs.1 xs.2.1 xs.u2).trans h
def q2A:List (Nat×F7 S):=[(81,q2y)]
theorem q2B:ZaC X (q2A):=⟨q2z,trivial⟩
def q2E:Key:=⟨[53],53,none,[0,0,1,0,1,1],0,6⟩
def q2F:StT S:=⟨(N (N (N L vH L) none L) vB L),L,6⟩
def q2G:Way S:=⟨.ret,⟨(N L none (N L vI L)),L,43⟩,[.bool]⟩
def q2H:Way S:=⟨(.exit 0),⟨L,L,10⟩,[]⟩
def q2I:LE S:=⟨q2E,q2F,[.int,.str],[q2G,q2H]⟩
def q2J (x:(Int×ByteArray)):(Bool⊕Unit)->(Bool⊕Unit):=Sum.elim (fun y0=>(.inl y0)) (fun y1=>(.inr ()))
def q2K {R:Type} (x:(Int×ByteArray)) (k:(Bool⊕Unit)->Option R):Option R:=(X3p x.2 x.1).bind (Sum.elim (fun y0=>k (.inl y0)) (fun y1=>k (.inr ())))
def q2L (x:(Int×ByteArray)) (v:Int):(Int×ByteArray):=(v,x.2)
theorem q2M (x:(Int×ByteArray)):LE.step X q2I q2A q2d q4 12 x=X1m x.2 x.1 (fun w0=>(Sum.inl (w0,x.2))) (fun p0=>(Sum.inr (.inl p0))) (Sum.inr (.inr ())):=by kernel_rfl
theorem q2O {R:Type} (x:(Int×ByteArray)) (k:(Bool⊕Unit)->Option R) (r:R) (h:q2K x k=some r):∃o,Z66 (LE.step X q2I q2A q2d q4 12) x o/\k o=some r:=by
 obtain⟨o,h1,h2⟩:=Z0 h;exact⟨q2J x o,Zk6 (st:=fun(x:(Int×ByteArray))=>X1f x.2) (prj:=fun x=>x.1) (emb:=q2L) (embO:=q2J) (fun x=>(q2M x).trans (by unfold X1f X1m;simp only[ZjX,ZjO,ZjY,Option.map_some,Option.map_none];rfl)) (fun _ _=>rfl) (fun _ _=>rfl) (fun _ _ _=>rfl) (fun _ _ _=>rfl) (fun _=>rfl) (Z25.1 h1),by first|exact h2|(rcases o with o|o<;>exact h2)⟩
def q2P {R:Type}:Z2G S R:=LE.ls X q2I q2K q4
theorem q2Q {R:Type}:Z4b X (q2P (R:=R)):=Zka xok q2B (e:=q2I) q2e q5 q2O q5
theorem q2R (x0:ByteArray):Zkc X q2A [.str] [.bool] q2d q2P 12 53 (x0,())=X3d x0:=by kernel_rfl
def q2S:F7 S:=⟨[.str],[.bool],fun xs=>X3d xs.1⟩
theorem q2T:Zaq X 53 q2S:=Zk9 (Zk8 xok q2B q2e q2Q 12 53) fun xs _ h=>(q2R xs.1).trans h
def q2Y:Key:=⟨[54],54,none,[0,0,1,0,1],0,2⟩
def q2Z:StT S:=⟨(N (N L vB (N L vH L)) (some (.sl .str [])) L),L,2⟩
def q30:Way S:=⟨.ret,⟨v1V,L,14⟩,[.int]⟩
def q31:Way S:=⟨(.exit 0),⟨L,L,6⟩,[]⟩
def q32:LE S:=⟨q2Y,q2Z,[.str,.int,(.lst .str)],[q30,q31]⟩
def q33 (x:tqX):(Int⊕Unit)->(Int⊕Unit):=Sum.elim (fun y0=>(.inl y0)) (fun y1=>(.inr ()))
def q34 {R:Type} (x:tqX) (k:(Int⊕Unit)->Option R):Option R:=(X2v x.1 x.v2 x.2.1).bind (Sum.elim (fun y0=>k (.inl y0)) (fun y1=>k (.inr ())))
def q35 (x:tqX) (v:Int):tqX:=(x.1,v,x.v2)
theorem q36 (x:tqX):LE.step X q32 q2 q2d q4 12 x=X10 x.1 x.v2 x.2.1 (fun w0=>(Sum.inl (x.1,w0,x.v2))) (fun p0=>(Sum.inr (.inl p0))) (Sum.inr (.inr ())):=by kernel_rfl
theorem q38 {R:Type} (x:tqX) (k:(Int⊕Unit)->Option R) (r:R) (h:q34 x k=some r):∃o,Z66 (LE.step X q32 q2 q2d q4 12) x o/\k o=some r:=by
 obtain⟨o,h1,h2⟩:=Z0 h;exact⟨q33 x o,Zk6 (st:=fun(x:tqX)=>Ww x.1 x.v2) (prj:=fun x=>x.2.1) (emb:=q35) (embO:=q33) (fun x=>(q36 x).trans (by unfold Ww X10;simp only[ZjX,ZjO,ZjY,Option.map_some,Option.map_none];rfl)) (fun _ _=>rfl) (fun _ _=>rfl) (fun _ _ _=>rfl) (fun _ _ _=>rfl) (fun _=>rfl) (Z25.1 h1),by first|exact h2|(rcases o with o|o<;>exact h2)⟩
def q39 {R:Type}:Z2G S R:=LE.ls X q32 q34 q4
theorem q3a {R:Type}:Z4b X (q39 (R:=R)):=Zka xok q3 (e:=q32) q2e q5 q38 q5
theorem q3b (x0:List ByteArray) (x1:ByteArray):Zkc X q2 [(.sl .str),.str] [(.int .i64)] q2d q39 12 54 (x0,x1,())=X3q x0 x1:=by kernel_rfl
def q3c:F7 S:=⟨[(.sl .str),.str],[(.int .i64)],fun xs=>X3q xs.1 xs.2.1⟩
theorem q3d:Zaq X 54 q3c:=Zk9 (Zk8 xok q3 q2e q3a 12 54) fun xs _ h=>(q3b xs.1 xs.2.1).trans h
def q3e:List (Nat×F7 S):=[(53,q2S),(54,q3c)]
theorem q3f:ZaC X (q3e):=⟨q2T,q3d,trivial⟩
theorem q3i (x0:ByteArray) (x1:List ByteArray):Zkc X q3e [.str,(.sl .str)] [(.int .i64)] q2d q4 12 25 (x0,x1,())=X2V x0 x1:=by kernel_rfl
def q3j:F7 S:=⟨[.str,(.sl .str)],[(.int .i64)],fun xs=>X2V xs.1 xs.2.1⟩
theorem q3k:Zaq X 25 q3j:=Zk9 (Zk8 xok q3f q2e q5 12 25) fun xs _ h=>(q3i xs.1 xs.2.1).trans h
def q3p:Key:=⟨[82],82,none,[0,0,1,0,1,1],0,3⟩
def q3q:StT S:=⟨(N (N (N (N L vH L) none L) vH L) vG (N (N (N L vH L) none L) vH L)),L,3⟩
def q3r:Way S:=⟨.ret,⟨(N L none (N L none (N L vH L))),L,28⟩,[.int]⟩
def q3s:Way S:=⟨(.exit 0),⟨(N v1U none L),L,7⟩,[.int]⟩
def q3t:LE S:=⟨q3p,q3q,[.int,.int,(.lst (.st 5)),.int,.int],[q3r,q3s]⟩
def q3u (x:tqV):(Int⊕Int)->(Int⊕Int):=Sum.elim (fun y0=>(.inl y0)) (fun y1=>(.inr y1))
def q3v {R:Type} (x:tqV) (k:(Int⊕Int)->Option R):Option R:=(X34 x.2.1 x.u2 x.v4 (x.1,x.u3)).bind (Sum.elim (fun y0=>k (.inl y0)) (fun y1=>k (.inr y1)))
def q3w (x:tqV) (v:(Int×Int)):tqV:=(v.1,x.2.1,x.u2,v.2,x.v4)
theorem q3x (x:tqV):LE.step X q3t q2A q2d q4 12 x=WJ x.2.1 x.u2 x.v4 x.1 x.u3 (fun w0 w1=>(Sum.inl (w0,x.2.1,x.u2,w1,x.v4))) (fun p0=>(Sum.inr (.inl p0))) (fun p0=>(Sum.inr (.inr p0))):=by kernel_rfl
theorem q3z {R:Type} (x:tqV) (k:(Int⊕Int)->Option R) (r:R) (h:q3v x k=some r):∃o,Z66 (LE.step X q3t q2A q2d q4 12) x o/\k o=some r:=by
 obtain⟨o,h1,h2⟩:=Z0 h;exact⟨q3u x o,Zk6 (st:=fun(x:tqV)=>WE x.2.1 x.u2 x.v4) (prj:=fun x=>(x.1,x.u3)) (emb:=q3w) (embO:=q3u) (fun x=>(q3x x).trans (by unfold WE WJ;simp only[ZjX,ZjO,ZjY,Option.map_some,Option.map_none];rfl)) (fun _ _=>rfl) (fun _ _=>rfl) (fun _ _ _=>rfl) (fun _ _ _=>rfl) (fun _=>rfl) (Z25.1 h1),by first|exact h2|(rcases o with o|o<;>exact h2)⟩
def q3A {R:Type}:Z2G S R:=LE.ls X q3t q3v q4
theorem q3B {R:Type}:Z4b X (q3A (R:=R)):=Zka xok q2B (e:=q3t) q2e q5 q3z q5
theorem q3C (x0:List ZZ) (x1 x2:Int):Zkc X q2A [(.sl (.st 5)),(.int .i64),(.int .i64)] [(.int .i64)] q2d q3A 12 82 (x0,x1,x2,())=X2K x0 x1 x2:=by kernel_rfl
def q3D:F7 S:=⟨[(.sl (.st 5)),(.int .i64),(.int .i64)],[(.int .i64)],fun xs=>X2K xs.1 xs.2.1 xs.u2⟩
theorem q3E:Zaq X 82 q3D:=Zk9 (Zk8 xok q2B q2e q3B 12 82) fun xs _ h=>(q3C xs.1 xs.2.1 xs.u2).trans h
def q3F:List (Nat×F7 S):=[(82,q3D)]
theorem q3G:ZaC X (q3F):=⟨q3E,trivial⟩
theorem q3J (x0:ZZ) (x1 x2:Int):Zkc X q3F [(.st 5),(.int .i64),(.int .i64)] [(.int .i64)] q2d q4 12 55 (x0,x1,x2,())=X3r x0 x1 x2:=by kernel_rfl
def q3K:F7 S:=⟨[(.st 5),(.int .i64),(.int .i64)],[(.int .i64)],fun xs=>X3r xs.1 xs.2.1 xs.u2⟩
theorem q3L:Zaq X 55 q3K:=Zk9 (Zk8 xok q3G q2e q5 12 55) fun xs _ h=>(q3J xs.1 xs.2.1 xs.u2).trans h
def q3M:List (Nat×F7 S):=[(24,q2r),(55,q3K)]
theorem q3N:ZaC X (q3M):=⟨q2s,q3L,trivial⟩
theorem q3Q (x0:CoRecord) (x1 x2:Int) (x3:ZZ):Zkc X q3M [(.st 20),(.int .i64),(.int .i64),(.st 5)] [(.int .i64)] q2d q4 12 26 (x0,x1,x2,x3,())=X2g x0 x1 x2 x3:=by kernel_rfl
def q3R:F7 S:=⟨[(.st 20),(.int .i64),(.int .i64),(.st 5)],[(.int .i64)],fun xs=>X3j xs.1 xs.2.1 xs.u2 xs.u3⟩
theorem q3S:Zaq X 26 q3R:=Zk9 (Zk8 xok q3N q2e q5 12 26) fun xs _ h=>((q3Q xs.1 xs.2.1 xs.u2 xs.u3).trans (X4r xs.1 xs.2.1 xs.u2 xs.u3).symm).trans h
def q3T:List (Nat×F7 S):=[(24,q2r),(25,q3j),(26,q3R)]
theorem q3U:ZaC X (q3T):=⟨q2s,q3k,q3S,trivial⟩
def q3X:Key:=⟨[5],5,none,[0,0,1,0,1,1,1],0,17⟩
def q3Y:StT S:=⟨(N (N L (some (.ptr 0 0)) (N L (some (.rs 17 0)) L)) none (N L none (N L vH L))),o1Q,18⟩
def q3Z:Way S:=⟨.ret,⟨v1R,o1d,66⟩,[.int,.int,.int,(.lst .str),(.st 20),(.st 18),(.lst .str)]⟩
def q40:Way S:=⟨.ret,⟨v1R,o1d,65⟩,[.int,.int,.int,(.lst .str),(.st 20),(.st 18),(.lst .str)]⟩
def q41:Way S:=⟨(.exit 0),⟨(N (N L (some (.ptr 0 0)) L) none L),o1Q,23⟩,[(.lst .str),(.st 20)]⟩
def q42:LE S:=⟨q3X,q3Y,[.int,(.lst .str),(.st 20)],[q3Z,q40,q41]⟩
def q43 (x:tqZ):((Int×Int×Int×(List ByteArray)×Zj×(List ByteArray))⊕(Int×Int×Int×(List ByteArray)×Zj×(List ByteArray))⊕(List ByteArray))->tq9:=Sum.elim (fun y0=>(.inl (y0.1,y0.2.1,y0.u2,y0.u3,x.v2,y0.u4,y0.v5))) (Sum.elim (fun y1=>(.inr (.inl (y1.1,y1.2.1,y1.u2,y1.u3,x.v2,y1.u4,y1.v5)))) (fun y2=>(.inr (.inr (y2,x.v2)))))
def q44 {R:Type} (x:tqZ) (k:tq9->Option R):Option R:=(X2x x.v2 (x.1,x.2.1)).bind (Sum.elim (fun y0=>k (.inl (y0.1,y0.2.1,y0.u2,y0.u3,x.v2,y0.u4,y0.v5))) (Sum.elim (fun y1=>k (.inr (.inl (y1.1,y1.2.1,y1.u2,y1.u3,x.v2,y1.u4,y1.v5)))) (fun y2=>k (.inr (.inr (y2,x.v2))))))
def q45 (x:tqZ) (v:(Int×(List ByteArray))):tqZ:=(v.1,v.2,x.v2)
theorem q46 (x:tqZ):LE.step X q42 q3T q2d q4 12 x=X13 x.v2 x.1 x.2.1 (fun w0 w1=>(Sum.inl (w0,w1,x.v2))) (fun p0 p1 p2 p3 p4 p5=>(Sum.inr (.inl (p0,p1,p2,p3,x.v2,p4,p5)))) (fun p0 p1 p2 p3 p4 p5=>(Sum.inr (.inr (.inl (p0,p1,p2,p3,x.v2,p4,p5))))) (fun p0=>(Sum.inr (.inr (.inr (p0,x.v2))))):=by kernel_rfl
theorem q48 {R:Type} (x:tqZ) (k:tq9->Option R) (r:R) (h:q44 x k=some r):∃o,Z66 (LE.step X q42 q3T q2d q4 12) x o/\k o=some r:=by
 obtain⟨o,h1,h2⟩:=Z0 h;exact⟨q43 x o,Zk6 (st:=fun(x:tqZ)=>X1r x.v2) (prj:=fun x=>(x.1,x.2.1)) (emb:=q45) (embO:=q43) (fun x=>(q46 x).trans (by unfold X1r X13;simp only[ZjX,ZjO,ZjY,Option.map_some,Option.map_none];rfl)) (fun _ _=>rfl) (fun _ _=>rfl) (fun _ _ _=>rfl) (fun _ _ _=>rfl) (fun _=>rfl) (Z25.1 h1),by first|exact h2|(rcases o with o|o|o<;>exact h2)⟩
def q49 {R:Type}:Z2G S R:=LE.ls X q42 q44 q4
theorem q4a {R:Type}:Z4b X (q49 (R:=R)):=Zka xok q3U (e:=q42) q2e q5 q48 q5
def q4b:Key:=⟨[5],5,none,[0,0,1,0,1,1,1,1],2,24⟩
def q4c:StT S:=⟨(N (N L (some (.ptr 0 0)) (N (N L vH L) none L)) none L),o1Q,24⟩
def q4d:Way S:=⟨.ret,⟨v1R,(N (N L none (N (N (N L oC L) none L) none L)) oj (N L none (N (N (N (N L ol L) none L) none L) none L))),52⟩,[.int,.int,.int,(.lst .str),(.st 20),(.st 19)]⟩
def q4e:Way S:=⟨(.exit 2),⟨(N (N L (some (.ptr 0 0)) L) none L),o1Q,29⟩,[(.lst .str),(.st 20)]⟩
def q4f:LE S:=⟨q4b,q4c,[.int,(.lst .str),(.st 20)],[q4d,q4e]⟩
def q4g (x:tqZ):((Int×Int×Int×Zn)⊕Unit)->tqv:=Sum.elim (fun y0=>(.inl (y0.1,y0.2.1,y0.u2,x.2.1,x.v2,y0.v3))) (fun y1=>(.inr (x.2.1,x.v2)))
def q4h {R:Type} (x:tqZ) (k:tqv->Option R):Option R:=(X1O x.v2 x.1).bind (Sum.elim (fun y0=>k (.inl (y0.1,y0.2.1,y0.u2,x.2.1,x.v2,y0.v3))) (fun y1=>k (.inr (x.2.1,x.v2))))
def q4i (x:tqZ) (v:Int):tqZ:=(v,x.2.1,x.v2)
theorem q4j (x:tqZ):LE.step X q4f q3T q2d q49 12 x=X14 x.v2 x.1 (fun w0=>(Sum.inl (w0,x.2.1,x.v2))) (fun p0 p1 p2 p3=>(Sum.inr (.inl (p0,p1,p2,x.2.1,x.v2,p3)))) (Sum.inr (.inr (x.2.1,x.v2))):=by kernel_rfl
theorem q4l {R:Type} (x:tqZ) (k:tqv->Option R) (r:R) (h:q4h x k=some r):∃o,Z66 (LE.step X q4f q3T q2d q49 12) x o/\k o=some r:=by
 obtain⟨o,h1,h2⟩:=Z0 h;exact⟨q4g x o,Zk6 (st:=fun(x:tqZ)=>X1s x.v2) (prj:=fun x=>x.1) (emb:=q4i) (embO:=q4g) (fun x=>(q4j x).trans (by unfold X1s X14;simp only[ZjX,ZjO,ZjY,Option.map_some,Option.map_none];rfl)) (fun _ _=>rfl) (fun _ _=>rfl) (fun _ _ _=>rfl) (fun _ _ _=>rfl) (fun _=>rfl) (Z25.1 h1),by first|exact h2|(rcases o with o|o<;>exact h2)⟩
def q4m {R:Type}:Z2G S R:=LE.ls X q4f q4h q49
theorem q4n {R:Type}:Z4b X (q4m (R:=R)):=Zka xok q3U (e:=q4f) q2e q4a q4l q4a
def q4o:Key:=⟨[5],5,none,[0,0,1,0,1,1,1,1,1,1],4,31⟩
def q4p:StT S:=⟨(N (N L (some (.ptr 0 0)) (N L none (N L vH L))) none (N (N L none (N L vH L)) none L)),o1Q,31⟩
def q4q:Way S:=⟨.ret,⟨v1R,o1Q,59⟩,[.int,.int,.int,(.lst .str),(.st 20)]⟩
def q4r:Way S:=⟨(.exit 4),⟨L,o1Q,36⟩,[(.lst .str),(.st 20)]⟩
def q4s:LE S:=⟨q4o,q4p,[.int,.int,(.lst .str),(.st 20)],[q4q,q4r]⟩
def q4t (x:tqQ):((Int×Int×Int)⊕Unit)->tqx:=Sum.elim (fun y0=>(.inl (y0.1,y0.2.1,y0.v2,x.u2,x.v3))) (fun y1=>(.inr (x.u2,x.v3)))
def q4u {R:Type} (x:tqQ) (k:tqx->Option R):Option R:=(X1P x.v3 (x.1,x.2.1)).bind (Sum.elim (fun y0=>k (.inl (y0.1,y0.2.1,y0.v2,x.u2,x.v3))) (fun y1=>k (.inr (x.u2,x.v3))))
def q4v (x:tqQ) (v:(Int×Int)):tqQ:=(v.1,v.2,x.u2,x.v3)
theorem q4w (x:tqQ):LE.step X q4s q3T q2d q4m 12 x=X15 x.v3 x.1 x.2.1 (fun w0 w1=>(Sum.inl (w0,w1,x.u2,x.v3))) (fun p0 p1 p2=>(Sum.inr (.inl (p0,p1,p2,x.u2,x.v3)))) (Sum.inr (.inr (x.u2,x.v3))):=by kernel_rfl
theorem q4y {R:Type} (x:tqQ) (k:tqx->Option R) (r:R) (h:q4u x k=some r):∃o,Z66 (LE.step X q4s q3T q2d q4m 12) x o/\k o=some r:=by
 obtain⟨o,h1,h2⟩:=Z0 h;exact⟨q4t x o,Zk6 (st:=fun(x:tqQ)=>X1t x.v3) (prj:=fun x=>(x.1,x.2.1)) (emb:=q4v) (embO:=q4t) (fun x=>(q4w x).trans (by unfold X1t X15;simp only[ZjX,ZjO,ZjY,Option.map_some,Option.map_none];rfl)) (fun _ _=>rfl) (fun _ _=>rfl) (fun _ _ _=>rfl) (fun _ _ _=>rfl) (fun _=>rfl) (Z25.1 h1),by first|exact h2|(rcases o with o|o<;>exact h2)⟩
def q4z {R:Type}:Z2G S R:=LE.ls X q4s q4u q4m
theorem q4A {R:Type}:Z4b X (q4z (R:=R)):=Zka xok q3U (e:=q4s) q2e q4n q4y q4n
theorem q4B (x0:CoRecord):Zkc X q3T [(.st 20)] [(.int .i64),(.int .i64),(.int .i64)] q2d q4z 12 5 (x0,())=X25 x0:=by kernel_rfl
def q4C:F7 S:=⟨[(.st 20)],[(.int .i64),(.int .i64),(.int .i64)],fun xs=>X2W xs.1⟩
theorem q4D:Zaq X 5 q4C:=Zk9 (Zk8 xok q3U q2e q4A 12 5) fun xs _ h=>((q4B xs.1).trans (X41 xs.1).symm).trans h
def q4E:StT S:=⟨(N (N L (some (.fn (.func 28) [] [(.ptr 0 0)])) L) vE L),(N L oj L),1⟩
def q4G:PE S:=⟨27,2,q4E,[(.lst (.st 21)),(.st 20)],[qO]⟩
def q4H:List (Nat×F7 S):=[(4,q2k),(22,qL)]
theorem q4I:ZaC X q4H:=⟨q2l,qM,trivial⟩
def q4L:Key:=⟨[27],27,none,[0,0,1,0,1],0,6⟩
def q4M:StT S:=⟨(N (N (N L none (N L vH L)) (some (.fn (.func 28) [] [(.ptr 0 0)])) (N (N L vE L) none L)) none v1V),(N L oj L),6⟩
def q4N:Way S:=⟨.ret,⟨v1P,(N L oj (N L none (N (N (N L om L) om L) none L))),30⟩,[.int,.int,(.st 20),(.st 21),(.st 21)]⟩
def q4P:LE S:=⟨q4L,q4M,[.int,(.lst (.st 21)),.int,(.st 20)],[q4N,q1f]⟩
def q4Q (x:tqU):((Int×Int×Zt×Zt)⊕Unit)->tqL:=Sum.elim (fun y0=>(.inl (y0.1,y0.2.1,x.v3,y0.u2,y0.v3))) (fun y1=>(.inr x.v3))
def q4R {R:Type} (x:tqU) (k:tqL->Option R):Option R:=(Wu x.2.1 x.u2 x.v3 x.1).bind (Sum.elim (fun y0=>k (.inl (y0.1,y0.2.1,x.v3,y0.u2,y0.v3))) (fun y1=>k (.inr x.v3)))
def q4S (x:tqU) (v:Int):tqU:=(v,x.2.1,x.u2,x.v3)
theorem q4T (x:tqU):LE.step X q4P q4H q2d q4 12 x=Xo x.2.1 x.u2 x.v3 x.1 (fun w0=>(Sum.inl (w0,x.2.1,x.u2,x.v3))) (fun p0 p1 p2 p3=>(Sum.inr (.inl (p0,p1,x.v3,p2,p3)))) (Sum.inr (.inr x.v3)):=by kernel_rfl
theorem q4V {R:Type} (x:tqU) (k:tqL->Option R) (r:R) (h:q4R x k=some r):∃o,Z66 (LE.step X q4P q4H q2d q4 12) x o/\k o=some r:=by
 obtain⟨o,h1,h2⟩:=Z0 h;exact⟨q4Q x o,Zk6 (st:=fun(x:tqU)=>Xs x.2.1 x.u2 x.v3) (prj:=fun x=>x.1) (emb:=q4S) (embO:=q4Q) (fun x=>(q4T x).trans (by unfold Xs Xo;simp only[ZjX,ZjO,ZjY,Option.map_some,Option.map_none];rfl)) (fun _ _=>rfl) (fun _ _=>rfl) (fun _ _ _=>rfl) (fun _ _ _=>rfl) (fun _=>rfl) (Z25.1 h1),by first|exact h2|(rcases o with o|o<;>exact h2)⟩
def q4W {R:Type}:Z2G S R:=LE.ls X q4P q4R q4
theorem q4X {R:Type}:Z4b X (q4W (R:=R)):=Zka xok q4I (e:=q4P) q2e q5 q4V q5
theorem q4Y (x:((List Zt)×CoRecord)):PE.step X q4G q4H q2d q4W 12 x=XB x.1 x.2:=by kernel_rfl
theorem q4Z:ZcA X q4G XY:=Zkb (ZjB xok q4I q2e q4X 12) fun x _ h=>((q4Y x).trans (X1X x).symm).trans h
def q50 {R:Type}:Prs S R:=PE.ps X q4G (fun x q=>(XY x).bind q) q2d
theorem q51 {R:Type}:Z8Z X (q50 (R:=R)):=Zk3 (e:=q4G) q4Z q2e
theorem q53:ZaC X (q4H):=⟨q2l,qM,trivial⟩
theorem q56 (x0:CoRecord) (x1:List Zt):Zkc X q4H [(.st 20),(.sl (.st 21))] [(.int .i64),(.int .i64)] q50 q4 12 6 (x0,x1,())=WY x0 x1:=by kernel_rfl
def q57:F7 S:=⟨[(.st 20),(.sl (.st 21))],[(.int .i64),(.int .i64)],fun xs=>X1U xs.1 xs.2.1⟩
theorem q58:Zaq X 6 q57:=Zk9 (Zk8 xok q53 q51 q5 12 6) fun xs _ h=>((q56 xs.1 xs.2.1).trans (X38 xs.1 xs.2.1).symm).trans h
def q59:List (Nat×F7 S):=[(5,q4C),(26,q3R)]
theorem q5a:ZaC X (q59):=⟨q4D,q3S,trivial⟩
def q5d:Key:=⟨[7],7,none,[0,0,1,0,1,1,1,1],0,22⟩
def q5e:StT S:=⟨(N (N L vE (N (N L vH L) none L)) none (N L (some (.ptr 0 0)) L)),(N L oj L),22⟩
def q5f:Way S:=⟨.ret,⟨v1P,(N L oj L),50⟩,[.int,.int,(.st 20)]⟩
def q5g:Way S:=⟨(.exit 0),⟨L,(N L oj L),26⟩,[(.st 20)]⟩
def q5h:LE S:=⟨q5d,q5e,[(.lst (.st 21)),.int,(.st 20)],[q5f,q5g]⟩
def q5i (x:X6x):((Int×Int)⊕Unit)->((Int×Int×CoRecord)⊕CoRecord):=Sum.elim (fun y0=>(.inl (y0.1,y0.2,x.v2))) (fun y1=>(.inr x.v2))
def q5j {R:Type} (x:X6x) (k:((Int×Int×CoRecord)⊕CoRecord)->Option R):Option R:=(X1d x.1 x.v2 x.2.1).bind (Sum.elim (fun y0=>k (.inl (y0.1,y0.2,x.v2))) (fun y1=>k (.inr x.v2)))
def q5k (x:X6x) (v:Int):X6x:=(x.1,v,x.v2)
theorem q5l (x:X6x):LE.step X q5h q59 q50 q4 12 x=We x.1 x.v2 x.2.1 (fun w0=>(Sum.inl (x.1,w0,x.v2))) (fun p0 p1=>(Sum.inr (.inl (p0,p1,x.v2)))) (Sum.inr (.inr x.v2)):=by kernel_rfl
theorem q5n {R:Type} (x:X6x) (k:((Int×Int×CoRecord)⊕CoRecord)->Option R) (r:R) (h:q5j x k=some r):∃o,Z66 (LE.step X q5h q59 q50 q4 12) x o/\k o=some r:=by
 obtain⟨o,h1,h2⟩:=Z0 h;exact⟨q5i x o,Zk6 (st:=fun(x:X6x)=>WC x.1 x.v2) (prj:=fun x=>x.2.1) (emb:=q5k) (embO:=q5i) (fun x=>(q5l x).trans (by unfold WC We;simp only[ZjX,ZjO,ZjY,Option.map_some,Option.map_none];rfl)) (fun _ _=>rfl) (fun _ _=>rfl) (fun _ _ _=>rfl) (fun _ _ _=>rfl) (fun _=>rfl) (Z25.1 h1),by first|exact h2|(rcases o with o|o<;>exact h2)⟩
def q5o {R:Type}:Z2G S R:=LE.ls X q5h q5j q4
theorem q5p {R:Type}:Z4b X (q5o (R:=R)):=Zka xok q5a (e:=q5h) q51 q5 q5n q5
theorem q5q (x0:CoRecord) (x1:List Zt):Zkc X q59 [(.st 20),(.sl (.st 21))] [(.int .i64),(.int .i64)] q50 q5o 12 7 (x0,x1,())=X12 x0 x1:=by kernel_rfl
def q5r:F7 S:=⟨[(.st 20),(.sl (.st 21))],[(.int .i64),(.int .i64)],fun xs=>WW xs.1 xs.2.1⟩
theorem q5s:Zaq X 7 q5r:=Zk9 (Zk8 xok q5a q51 q5p 12 7) fun xs _ h=>((q5q xs.1 xs.2.1).trans (X3f xs.1 xs.2.1).symm).trans h
def q5t:List (Nat×F7 S):=[(6,q57)]
theorem q5u:ZaC X (q5t):=⟨q58,trivial⟩
theorem q5x (x0:CoRecord) (x1:List Zt):Zkc X q5t [(.st 20),(.sl (.st 21))] [(.st 22),(.int .i64)] q50 q4 12 29 (x0,x1,())=X1W x0 x1:=by kernel_rfl
def q5y:F7 S:=⟨[(.st 20),(.sl (.st 21))],[(.st 22),(.int .i64)],fun xs=>X2B xs.1 xs.2.1⟩
theorem q5z:Zaq X 29 q5y:=Zk9 (Zk8 xok q5u q51 q5 12 29) fun xs _ h=>((q5x xs.1 xs.2.1).trans (X3Q xs.1 xs.2.1).symm).trans h
theorem q5E (x0:ZZ):Zkc X q2 [(.st 5)] [.bool] q50 q4 12 84 (x0,())=XX x0:=by kernel_rfl
def q5F:F7 S:=⟨[(.st 5)],[.bool],fun xs=>X1N xs.1⟩
theorem q5G:Zaq X 84 q5F:=Zk9 (Zk8 xok q3 q51 q5 12 84) fun xs _ h=>((q5E xs.1).trans (X2k xs.1).symm).trans h
def q5H:List (Nat×F7 S):=[(84,q5F)]
theorem q5I:ZaC X (q5H):=⟨q5G,trivial⟩
def q5L:Key:=⟨[58],58,none,[0,0,1,1,1,0,0,1,1,0,0,1,0,1,1],2,33⟩
def q5M:StT S:=⟨vT,(N (N L oe L) on (N L oe L)),33⟩
def q5N:Way S:=⟨(.exit 2),⟨v1n,(N (N L oe L) on (N L oe L)),34⟩,[.int,.int,.int,(.lst (.st 25)),(.arr (.st 5)),(.st 22),(.arr (.st 5))]⟩
def q5O:LE S:=⟨q5L,q5M,[.int,.int,.int,.int,.int,.int,(.lst (.st 25)),(.lst (.st 25)),(.arr (.st 5)),(.st 22),(.arr (.st 5))],[q5N]⟩
def q5P (x:tql):(Nat->ZZ)->tqw:=fun y0=>(x.2.1,x.u3,x.u5,x.u6,y0,x.u9,x.v10)
def q5Q {R:Type} (x:tql) (k:tqw->Option R):Option R:=(Wh x.1 x.2.1 x.u2 x.u3 x.u5 x.u6 x.u7 x.u9 x.v10 (x.u4,x.u8)).bind (fun y0=>k (x.2.1,x.u3,x.u5,x.u6,y0,x.u9,x.v10))
def q5R (x:tql) (v:(Int×(Nat->ZZ))):tql:=(x.1,x.2.1,x.u2,x.u3,v.1,x.u5,x.u6,x.u7,v.2,x.u9,x.v10)
theorem q5S (x:tql):LE.step X q5O q5H q50 q4 12 x=Xc x.1 x.2.1 x.u2 x.u3 x.u5 x.u6 x.u7 x.u9 x.v10 x.u4 x.u8 (fun w0 w1=>(Sum.inl (x.1,x.2.1,x.u2,x.u3,w0,x.u5,x.u6,x.u7,w1,x.u9,x.v10))) (fun p0=>(Sum.inr (x.2.1,x.u3,x.u5,x.u6,p0,x.u9,x.v10))):=by kernel_rfl
theorem q5U {R:Type} (x:tql) (k:tqw->Option R) (r:R) (h:q5Q x k=some r):∃o,Z66 (LE.step X q5O q5H q50 q4 12) x o/\k o=some r:=by
 obtain⟨o,h1,h2⟩:=Z0 h;exact⟨q5P x o,Zk6 (st:=fun(x:tql)=>Xw x.1 x.2.1 x.u2 x.u3 x.u5 x.u6 x.u7 x.u9 x.v10) (prj:=fun x=>(x.u4,x.u8)) (emb:=q5R) (embO:=q5P) (fun x=>(q5S x).trans (by unfold Xw Xc;simp only[ZjX,ZjO,ZjY,Option.map_some,Option.map_none];rfl)) (fun _ _=>rfl) (fun _ _=>rfl) (fun _ _ _=>rfl) (fun _ _ _=>rfl) (fun _=>rfl) (Z25.1 h1),by first|exact h2|(rcases o with o<;>exact h2)⟩
def q5V {R:Type}:Z2G S R:=LE.ls X q5O q5Q q4
theorem q5W {R:Type}:Z4b X (q5V (R:=R)):=Zka xok q5I (e:=q5O) q51 q5 q5U q5
def q5X:Key:=⟨[58],58,none,[0,0,1,1,1,0,0,1,1,0,0,1,0,1,1],2,19⟩
def q5Y:StT S:=⟨vT,(N (N L oe L) on (N L oe L)),19⟩
def q5Z:Way S:=⟨(.exit 2),⟨v1n,(N (N L oe L) on (N L oe L)),20⟩,[.int,.int,.int,(.lst (.st 25)),(.arr (.st 5)),(.st 22),(.arr (.st 5))]⟩
def q60:LE S:=⟨q5X,q5Y,[.int,.int,.int,.int,.int,.int,(.lst (.st 25)),(.lst (.st 25)),(.arr (.st 5)),(.st 22),(.arr (.st 5))],[q5Z]⟩
def q62 {R:Type} (x:tql) (k:tqw->Option R):Option R:=(X1a x.1 x.2.1 x.u2 x.u3 x.u5 x.u6 x.u7 x.u9 x.v10 (x.u4,x.u8)).bind (fun y0=>k (x.2.1,x.u3,x.u5,x.u6,y0,x.u9,x.v10))
theorem q64 (x:tql):LE.step X q60 q5H q50 q5V 12 x=WU x.1 x.2.1 x.u2 x.u3 x.u5 x.u6 x.u7 x.u9 x.v10 x.u4 x.u8 (fun w0 w1=>(Sum.inl (x.1,x.2.1,x.u2,x.u3,w0,x.u5,x.u6,x.u7,w1,x.u9,x.v10))) (fun p0=>(Sum.inr (x.2.1,x.u3,x.u5,x.u6,p0,x.u9,x.v10))):=by kernel_rfl
theorem q66 {R:Type} (x:tql) (k:tqw->Option R) (r:R) (h:q62 x k=some r):∃o,Z66 (LE.step X q60 q5H q50 q5V 12) x o/\k o=some r:=by
 obtain⟨o,h1,h2⟩:=Z0 h;exact⟨q5P x o,Zk6 (st:=fun(x:tql)=>X1h x.1 x.2.1 x.u2 x.u3 x.u5 x.u6 x.u7 x.u9 x.v10) (prj:=fun x=>(x.u4,x.u8)) (emb:=q5R) (embO:=q5P) (fun x=>(q64 x).trans (by unfold X1h WU Xc;simp only[ZjX,ZjO,ZjY,Option.map_some,Option.map_none];rfl)) (fun _ _=>rfl) (fun _ _=>rfl) (fun _ _ _=>rfl) (fun _ _ _=>rfl) (fun _=>rfl) (Z25.1 h1),by first|exact h2|(rcases o with o<;>exact h2)⟩
def q67 {R:Type}:Z2G S R:=LE.ls X q60 q62 q5V
theorem q68 {R:Type}:Z4b X (q67 (R:=R)):=Zka xok q5I (e:=q60) q51 q5W q66 q5W
def q69:Key:=⟨[58],58,none,[0,0,1,0,1,1],0,11⟩
def q6a:StT S:=⟨v1n,(N (N L oe L) on (N L oe L)),11⟩
def q6b:Way S:=⟨(.exit 0),⟨(N L none (N v1T vF (N L (some (.ptr 2 0)) L))),(N (N L oe L) on (N L oe L)),12⟩,[.int,(.lst (.st 25)),(.arr (.st 5)),(.st 22),(.arr (.st 5))]⟩
def q6c:LE S:=⟨q69,q6a,[.int,.int,.int,(.lst (.st 25)),(.arr (.st 5)),(.st 22),(.arr (.st 5))],[q6b]⟩
def q6d (x:tqw):(Nat->ZZ)->tqz:=fun y0=>(x.2.1,x.u3,y0,x.u5,x.v6)
def q6e {R:Type} (x:tqw) (k:tqz->Option R):Option R:=(Wg x.1 x.2.1 x.u3 x.u5 x.v6 (x.u2,x.u4)).bind (fun y0=>k (x.2.1,x.u3,y0,x.u5,x.v6))
def q6f (x:tqw) (v:(Int×(Nat->ZZ))):tqw:=(x.1,x.2.1,v.1,x.u3,v.2,x.u5,x.v6)
theorem q6g (x:tqw):LE.step X q6c q5H q50 q67 12 x=XJ x.1 x.2.1 x.u3 x.u5 x.v6 x.u2 x.u4 (fun w0 w1=>(Sum.inl (x.1,x.2.1,w0,x.u3,w1,x.u5,x.v6))) (fun p0=>(Sum.inr (x.2.1,x.u3,p0,x.u5,x.v6))):=by kernel_rfl
theorem q6i {R:Type} (x:tqw) (k:tqz->Option R) (r:R) (h:q6e x k=some r):∃o,Z66 (LE.step X q6c q5H q50 q67 12) x o/\k o=some r:=by
 obtain⟨o,h1,h2⟩:=Z0 h;exact⟨q6d x o,Zk6 (st:=fun(x:tqw)=>Xv x.1 x.2.1 x.u3 x.u5 x.v6) (prj:=fun x=>(x.u2,x.u4)) (emb:=q6f) (embO:=q6d) (fun x=>(q6g x).trans (by unfold Xv XJ;simp only[ZjX,ZjO,ZjY,Option.map_some,Option.map_none];rfl)) (fun _ _=>rfl) (fun _ _=>rfl) (fun _ _ _=>rfl) (fun _ _ _=>rfl) (fun _=>rfl) (Z25.1 h1),by first|exact h2|(rcases o with o<;>exact h2)⟩
def q6j {R:Type}:Z2G S R:=LE.ls X q6c q6e q67
theorem q6k {R:Type}:Z4b X (q6j (R:=R)):=Zka xok q5I (e:=q6c) q51 q68 q6i q68
def q6l:Key:=⟨[58],58,none,[0,0,1,1,0,0,1,0,0,1,0,1,1,1],6,38⟩
def q6m:StT S:=⟨vX,(N (N L oe L) on (N L oe L)),38⟩
def q6n:Way S:=⟨(.exit 6),⟨v1u,(N (N L oe L) on (N L oe L)),39⟩,[.int,.int,(.lst (.st 25)),(.arr (.st 5)),(.st 22),(.arr (.st 5))]⟩
def q6o:LE S:=⟨q6l,q6m,[(.lst (.st 25)),.int,.int,.int,.int,(.lst (.st 25)),(.arr (.st 5)),(.st 22),(.arr (.st 5))],[q6n]⟩
def q6p (x:tqq):(Nat->ZZ)->tqy:=fun y0=>(x.u2,x.u4,x.u5,y0,x.u7,x.v8)
def q6q {R:Type} (x:tqq) (k:tqy->Option R):Option R:=(Wj x.1 x.u2 x.u3 x.u4 x.u5 x.u7 x.v8 (x.2.1,x.u6)).bind (fun y0=>k (x.u2,x.u4,x.u5,y0,x.u7,x.v8))
def q6r (x:tqq) (v:(Int×(Nat->ZZ))):tqq:=(x.1,v.1,x.u2,x.u3,x.u4,x.u5,v.2,x.u7,x.v8)
theorem q6s (x:tqq):LE.step X q6o q5H q50 q6j 12 x=Xd x.1 x.u2 x.u3 x.u4 x.u5 x.u7 x.v8 x.2.1 x.u6 (fun w0 w1=>(Sum.inl (x.1,w0,x.u2,x.u3,x.u4,x.u5,w1,x.u7,x.v8))) (fun p0=>(Sum.inr (x.u2,x.u4,x.u5,p0,x.u7,x.v8))):=by kernel_rfl
theorem q6u {R:Type} (x:tqq) (k:tqy->Option R) (r:R) (h:q6q x k=some r):∃o,Z66 (LE.step X q6o q5H q50 q6j 12) x o/\k o=some r:=by
 obtain⟨o,h1,h2⟩:=Z0 h;exact⟨q6p x o,Zk6 (st:=fun(x:tqq)=>Xy x.1 x.u2 x.u3 x.u4 x.u5 x.u7 x.v8) (prj:=fun x=>(x.2.1,x.u6)) (emb:=q6r) (embO:=q6p) (fun x=>(q6s x).trans (by unfold Xy Xd;simp only[ZjX,ZjO,ZjY,Option.map_some,Option.map_none];rfl)) (fun _ _=>rfl) (fun _ _=>rfl) (fun _ _ _=>rfl) (fun _ _ _=>rfl) (fun _=>rfl) (Z25.1 h1),by first|exact h2|(rcases o with o<;>exact h2)⟩
def q6v {R:Type}:Z2G S R:=LE.ls X q6o q6q q6j
theorem q6w {R:Type}:Z4b X (q6v (R:=R)):=Zka xok q5I (e:=q6o) q51 q6k q6u q6k
def q6x:Key:=⟨[58],58,none,[0,0,1,1,0,0,1,0,0,1,0,1,1,1],6,24⟩
def q6y:StT S:=⟨vX,(N (N L oe L) on (N L oe L)),24⟩
def q6z:Way S:=⟨(.exit 6),⟨v1u,(N (N L oe L) on (N L oe L)),25⟩,[.int,.int,(.lst (.st 25)),(.arr (.st 5)),(.st 22),(.arr (.st 5))]⟩
def q6A:LE S:=⟨q6x,q6y,[(.lst (.st 25)),.int,.int,.int,.int,(.lst (.st 25)),(.arr (.st 5)),(.st 22),(.arr (.st 5))],[q6z]⟩
def q6C {R:Type} (x:tqq) (k:tqy->Option R):Option R:=(X1b x.1 x.u2 x.u3 x.u4 x.u5 x.u7 x.v8 (x.2.1,x.u6)).bind (fun y0=>k (x.u2,x.u4,x.u5,y0,x.u7,x.v8))
theorem q6E (x:tqq):LE.step X q6A q5H q50 q6v 12 x=WV x.1 x.u2 x.u3 x.u4 x.u5 x.u7 x.v8 x.2.1 x.u6 (fun w0 w1=>(Sum.inl (x.1,w0,x.u2,x.u3,x.u4,x.u5,w1,x.u7,x.v8))) (fun p0=>(Sum.inr (x.u2,x.u4,x.u5,p0,x.u7,x.v8))):=by kernel_rfl
theorem q6G {R:Type} (x:tqq) (k:tqy->Option R) (r:R) (h:q6C x k=some r):∃o,Z66 (LE.step X q6A q5H q50 q6v 12) x o/\k o=some r:=by
 obtain⟨o,h1,h2⟩:=Z0 h;exact⟨q6p x o,Zk6 (st:=fun(x:tqq)=>X1i x.1 x.u2 x.u3 x.u4 x.u5 x.u7 x.v8) (prj:=fun x=>(x.2.1,x.u6)) (emb:=q6r) (embO:=q6p) (fun x=>(q6E x).trans (by unfold X1i WV Xd;simp only[ZjX,ZjO,ZjY,Option.map_some,Option.map_none];rfl)) (fun _ _=>rfl) (fun _ _=>rfl) (fun _ _ _=>rfl) (fun _ _ _=>rfl) (fun _=>rfl) (Z25.1 h1),by first|exact h2|(rcases o with o<;>exact h2)⟩
def q6H {R:Type}:Z2G S R:=LE.ls X q6A q6C q6v
theorem q6I {R:Type}:Z4b X (q6H (R:=R)):=Zka xok q5I (e:=q6A) q51 q6w q6G q6w
def q6J:Key:=⟨[58],58,none,[0,0,1,0,1,1,1],4,15⟩
def q6K:StT S:=⟨v1u,(N (N L oe L) on (N L oe L)),15⟩
def q6L:Way S:=⟨(.exit 4),⟨(N L none (N v1T none (N L (some (.ptr 2 0)) L))),(N (N L oe L) on (N L oe L)),17⟩,[.int,(.arr (.st 5)),(.st 22),(.arr (.st 5))]⟩
def q6M:LE S:=⟨q6J,q6K,[.int,.int,(.lst (.st 25)),(.arr (.st 5)),(.st 22),(.arr (.st 5))],[q6L]⟩
def q6N (x:tqy):(Nat->ZZ)->tqN:=fun y0=>(x.1,y0,x.u4,x.v5)
def q6O {R:Type} (x:tqy) (k:tqN->Option R):Option R:=(Wi x.1 x.u2 x.u4 x.v5 (x.2.1,x.u3)).bind (fun y0=>k (x.1,y0,x.u4,x.v5))
def q6P (x:tqy) (v:(Int×(Nat->ZZ))):tqy:=(x.1,v.1,x.u2,v.2,x.u4,x.v5)
theorem q6Q (x:tqy):LE.step X q6M q5H q50 q6H 12 x=XK x.1 x.u2 x.u4 x.v5 x.2.1 x.u3 (fun w0 w1=>(Sum.inl (x.1,w0,x.u2,w1,x.u4,x.v5))) (fun p0=>(Sum.inr (x.1,p0,x.u4,x.v5))):=by kernel_rfl
theorem q6S {R:Type} (x:tqy) (k:tqN->Option R) (r:R) (h:q6O x k=some r):∃o,Z66 (LE.step X q6M q5H q50 q6H 12) x o/\k o=some r:=by
 obtain⟨o,h1,h2⟩:=Z0 h;exact⟨q6N x o,Zk6 (st:=fun(x:tqy)=>Xx x.1 x.u2 x.u4 x.v5) (prj:=fun x=>(x.2.1,x.u3)) (emb:=q6P) (embO:=q6N) (fun x=>(q6Q x).trans (by unfold Xx XK;simp only[ZjX,ZjO,ZjY,Option.map_some,Option.map_none];rfl)) (fun _ _=>rfl) (fun _ _=>rfl) (fun _ _ _=>rfl) (fun _ _ _=>rfl) (fun _=>rfl) (Z25.1 h1),by first|exact h2|(rcases o with o<;>exact h2)⟩
def q6T {R:Type}:Z2G S R:=LE.ls X q6M q6O q6H
theorem q6U {R:Type}:Z4b X (q6T (R:=R)):=Zka xok q5I (e:=q6M) q51 q6I q6S q6I
def q6V:Key:=⟨[101,2,1,83,3,25,58],101,none,[0,0,1,0,1],0,34⟩
def q6W:StT S:=⟨(N (N (N (N L vH L) none L) (some (.fn (.func 84) [] [])) L) vG v1U),L,34⟩
def q6X:Way S:=⟨.ret,⟨v1V,L,45⟩,[.int]⟩
def q6Y:Way S:=⟨(.exit 0),⟨L,L,35⟩,[]⟩
def q6Z:LE S:=⟨q6V,q6W,[.int,(.lst (.st 5)),.int],[q6X,q6Y]⟩
def q70 (x:X6y):(Int⊕Unit)->(Int⊕Unit):=Sum.elim (fun y0=>(.inl y0)) (fun y1=>(.inr ()))
def q71 {R:Type} (x:X6y) (k:(Int⊕Unit)->Option R):Option R:=(X1c x.1 x.2.1 x.v2).bind (Sum.elim (fun y0=>k (.inl y0)) (fun y1=>k (.inr ())))
def q72 (x:X6y) (v:Int):X6y:=(x.1,x.2.1,v)
theorem q73 (x:X6y):LE.step X q6Z q5H q50 q6T 12 x=XM x.1 x.2.1 x.v2 (fun w0=>(Sum.inl (x.1,x.2.1,w0))) (fun p0=>(Sum.inr (.inl p0))) (Sum.inr (.inr ())):=by kernel_rfl
theorem q75 {R:Type} (x:X6y) (k:(Int⊕Unit)->Option R) (r:R) (h:q71 x k=some r):∃o,Z66 (LE.step X q6Z q5H q50 q6T 12) x o/\k o=some r:=by
 obtain⟨o,h1,h2⟩:=Z0 h;exact⟨q70 x o,Zk6 (st:=fun(x:X6y)=>Xz x.1 x.2.1) (prj:=fun x=>x.v2) (emb:=q72) (embO:=q70) (fun x=>(q73 x).trans (by unfold Xz XM;simp only[ZjX,ZjO,ZjY,Option.map_some,Option.map_none];rfl)) (fun _ _=>rfl) (fun _ _=>rfl) (fun _ _ _=>rfl) (fun _ _ _=>rfl) (fun _=>rfl) (Z25.1 h1),by first|exact h2|(rcases o with o|o<;>exact h2)⟩
def q76 {R:Type}:Z2G S R:=LE.ls X q6Z q71 q6T
theorem q77 {R:Type}:Z4b X (q76 (R:=R)):=Zka xok q5I (e:=q6Z) q51 q6U q75 q6U
theorem q78 (x0:Z9) (x1:Nat->ZZ) (x2:List Z8):Zkc X q5H [(.st 22),(.arr 10 (.st 5)),(.sl (.st 25))] [(.arr 10 (.st 5)),.bool] q50 q76 12 58 (x0,x1,x2,())=W2 x0 x1 x2:=by kernel_rfl
def q79:F7 S:=⟨[(.st 22),(.arr 10 (.st 5)),(.sl (.st 25))],[(.arr 10 (.st 5)),.bool],fun xs=>XC xs.1 xs.2.1 xs.u2⟩
theorem q7a:Zaq X 58 q79:=Zk9 (Zk8 xok q5I q51 q77 12 58) fun xs _ h=>((q78 xs.1 xs.2.1 xs.u2).trans (X2C xs.1 xs.2.1 xs.u2).symm).trans h
def q7b:StT S:=⟨(N v1G vH (N (N L (some (.ptr 4 0)) L) vF L)),o1J,6⟩
def q7c:Way S:=⟨.ret,⟨(N L vI L),o1J,6⟩,[.bool,(.st 22),.bool,(.st 22),(.st 22)]⟩
def q7d:Way S:=⟨.ret,⟨(N L vI L),o1K,6⟩,[.bool,(.st 22),.bool,(.st 22),(.st 22)]⟩
def q7e:PE S:=⟨57,6,q7b,[(.arr (.st 5)),.int,(.lst (.st 25)),(.st 22),.bool,(.st 22),(.st 22)],[q7c,q7d]⟩
def q7f:List (Nat×F7 S):=[(58,q79)]
theorem q7g:ZaC X q7f:=⟨q7a,trivial⟩
abbrev q7h (ih:tqt->Option tqk) {R:Type}:Z2G S R:=ZiW
theorem q7i (ih:tqt->Option tqk) (hih:ZcA X q7e ih) {R:Type}:Z4b X (q7h ih (R:=R)):=Zjx X
def q7j:Key:=⟨[85,0,57],85,none,[0,0,1,1],0,69⟩
def q7k:StT S:=⟨v14,oL,70⟩
def q7l:Way S:=⟨.ret,⟨L,(N o16 oa o1b),166⟩,[(.arr (.st 5)),(.st 25),(.st 22),.bool,(.arr (.st 5)),(.arr (.st 5)),.bool,.int,(.st 22),(.lst (.st 19)),(.lst (.st 25)),(.st 25),(.lst (.st 19)),(.st 21),(.lst (.st 25)),(.st 22),(.st 22),(.st 19),.int,(.lst (.st 25)),.int,.bool,(.arr (.st 5)),.bool,.int,.bool,(.lst (.st 25))]⟩
def q7m:Way S:=⟨.ret,⟨L,(N o17 oa o1b),166⟩,[(.arr (.st 5)),(.st 25),(.st 22),.bool,(.arr (.st 5)),(.arr (.st 5)),.bool,.int,(.st 22),(.lst (.st 19)),(.lst (.st 25)),(.st 25),(.lst (.st 19)),(.st 21),(.lst (.st 25)),(.st 22),(.st 22),(.st 19),.int,(.lst (.st 25)),.int,.bool,(.arr (.st 5)),.bool,.int,.bool,(.lst (.st 25))]⟩
def q7n:Way S:=⟨.ret,⟨L,oN,159⟩,[(.arr (.st 5)),(.st 25),(.st 22),.bool,(.arr (.st 5)),(.arr (.st 5)),.bool,.int,(.st 22),(.lst (.st 19)),(.st 25),(.lst (.st 19)),(.st 21),(.lst (.st 25)),(.st 22),(.st 22),(.st 19),.int,.int,.bool,(.arr (.st 5)),.bool,.int,.bool,(.lst (.st 25))]⟩
def q7o:Way S:=⟨.ret,⟨L,oO,159⟩,[(.arr (.st 5)),(.st 25),(.st 22),.bool,(.arr (.st 5)),(.arr (.st 5)),.bool,.int,(.st 22),(.lst (.st 19)),(.st 25),(.lst (.st 19)),(.st 21),(.lst (.st 25)),(.st 22),(.st 22),(.st 19),.int,.int,.bool,(.arr (.st 5)),.bool,.int,.bool,(.lst (.st 25))]⟩
def q7p:Way S:=⟨.ret,⟨L,(N oU oa o1e),151⟩,[(.arr (.st 5)),(.st 25),(.st 22),(.lst (.st 25)),.bool,(.arr (.st 5)),(.arr (.st 5)),.bool,.int,(.st 22),(.lst (.st 19)),(.st 25),(.lst (.st 19)),(.st 21),(.lst (.st 25)),(.st 22),(.st 22),(.st 19),.int,.int,(.lst (.st 25)),.bool,(.arr (.st 5)),.bool,.int,.bool,(.lst (.st 25))]⟩
def q7q:Way S:=⟨.ret,⟨L,(N oV oa o1e),151⟩,[(.arr (.st 5)),(.st 25),(.st 22),(.lst (.st 25)),.bool,(.arr (.st 5)),(.arr (.st 5)),.bool,.int,(.st 22),(.lst (.st 19)),(.st 25),(.lst (.st 19)),(.st 21),(.lst (.st 25)),(.st 22),(.st 22),(.st 19),.int,.int,(.lst (.st 25)),.bool,(.arr (.st 5)),.bool,.int,.bool,(.lst (.st 25))]⟩
def q7r:Way S:=⟨.ret,⟨L,oN,144⟩,[(.arr (.st 5)),(.st 25),(.st 22),.bool,(.arr (.st 5)),(.arr (.st 5)),.bool,.int,(.st 22),(.lst (.st 19)),(.st 25),(.lst (.st 19)),(.st 21),(.lst (.st 25)),(.st 22),(.st 22),(.st 19),.int,.int,.bool,(.arr (.st 5)),.bool,.int,.bool,(.lst (.st 25))]⟩
def q7s:Way S:=⟨.ret,⟨L,oO,144⟩,[(.arr (.st 5)),(.st 25),(.st 22),.bool,(.arr (.st 5)),(.arr (.st 5)),.bool,.int,(.st 22),(.lst (.st 19)),(.st 25),(.lst (.st 19)),(.st 21),(.lst (.st 25)),(.st 22),(.st 22),(.st 19),.int,.int,.bool,(.arr (.st 5)),.bool,.int,.bool,(.lst (.st 25))]⟩
def q7t:Way S:=⟨.ret,⟨L,(N oY oa o11),152⟩,[(.lst (.st 25)),(.arr (.st 5)),(.st 25),(.st 22),.bool,(.arr (.st 5)),(.arr (.st 5)),.bool,.int,(.st 22),(.lst (.st 19)),(.st 25),(.lst (.st 19)),(.st 21),(.lst (.st 25)),(.st 22),(.lst (.st 25)),(.st 22),(.st 19),.int,.int,.bool,(.arr (.st 5)),.bool,.int,.bool,(.lst (.st 25))]⟩
def q7u:Way S:=⟨.ret,⟨L,(N oZ oa o11),152⟩,[(.lst (.st 25)),(.arr (.st 5)),(.st 25),(.st 22),.bool,(.arr (.st 5)),(.arr (.st 5)),.bool,.int,(.st 22),(.lst (.st 19)),(.st 25),(.lst (.st 19)),(.st 21),(.lst (.st 25)),(.st 22),(.lst (.st 25)),(.st 22),(.st 19),.int,.int,.bool,(.arr (.st 5)),.bool,.int,.bool,(.lst (.st 25))]⟩
def q7v:Way S:=⟨.ret,⟨L,oN,145⟩,[(.arr (.st 5)),(.st 25),(.st 22),.bool,(.arr (.st 5)),(.arr (.st 5)),.bool,.int,(.st 22),(.lst (.st 19)),(.st 25),(.lst (.st 19)),(.st 21),(.lst (.st 25)),(.st 22),(.st 22),(.st 19),.int,.int,.bool,(.arr (.st 5)),.bool,.int,.bool,(.lst (.st 25))]⟩
def q7w:Way S:=⟨.ret,⟨L,oO,145⟩,[(.arr (.st 5)),(.st 25),(.st 22),.bool,(.arr (.st 5)),(.arr (.st 5)),.bool,.int,(.st 22),(.lst (.st 19)),(.st 25),(.lst (.st 19)),(.st 21),(.lst (.st 25)),(.st 22),(.st 22),(.st 19),.int,.int,.bool,(.arr (.st 5)),.bool,.int,.bool,(.lst (.st 25))]⟩
def q7x:Way S:=⟨.ret,⟨L,(N o18 oa o1g),137⟩,[(.arr (.st 5)),(.st 25),(.st 22),.bool,(.arr (.st 5)),(.arr (.st 5)),.bool,.int,(.st 22),(.lst (.st 19)),(.st 25),(.lst (.st 25)),(.lst (.st 25)),(.lst (.st 19)),(.st 21),(.lst (.st 25)),(.st 22),(.st 22),(.st 19),.int,.int,.bool,(.arr (.st 5)),.bool,.int,.bool,(.lst (.st 25))]⟩
def q7y:Way S:=⟨.ret,⟨L,(N o19 oa o1g),137⟩,[(.arr (.st 5)),(.st 25),(.st 22),.bool,(.arr (.st 5)),(.arr (.st 5)),.bool,.int,(.st 22),(.lst (.st 19)),(.st 25),(.lst (.st 25)),(.lst (.st 25)),(.lst (.st 19)),(.st 21),(.lst (.st 25)),(.st 22),(.st 22),(.st 19),.int,.int,.bool,(.arr (.st 5)),.bool,.int,.bool,(.lst (.st 25))]⟩
def q7z:Way S:=⟨.ret,⟨L,oN,130⟩,[(.arr (.st 5)),(.st 25),(.st 22),.bool,(.arr (.st 5)),(.arr (.st 5)),.bool,.int,(.st 22),(.lst (.st 19)),(.st 25),(.lst (.st 19)),(.st 21),(.lst (.st 25)),(.st 22),(.st 22),(.st 19),.int,.int,.bool,(.arr (.st 5)),.bool,.int,.bool,(.lst (.st 25))]⟩
def q7A:Way S:=⟨.ret,⟨L,oO,130⟩,[(.arr (.st 5)),(.st 25),(.st 22),.bool,(.arr (.st 5)),(.arr (.st 5)),.bool,.int,(.st 22),(.lst (.st 19)),(.st 25),(.lst (.st 19)),(.st 21),(.lst (.st 25)),(.st 22),(.st 22),(.st 19),.int,.int,.bool,(.arr (.st 5)),.bool,.int,.bool,(.lst (.st 25))]⟩
def q7B:Way S:=⟨(.exit 0),⟨L,oL,71⟩,[(.arr (.st 5)),(.st 25),(.st 22),.bool,(.arr (.st 5)),.bool,.int,(.st 22),(.lst (.st 19)),(.lst (.st 19)),(.st 21),(.lst (.st 25)),(.st 22),(.st 22),.int,.int,.bool,(.arr (.st 5)),.bool,.int,.bool,(.lst (.st 25))]⟩
def q7C:LE S:=⟨q7j,q7k,[.int,.int,.int,(.arr (.st 5)),(.st 25),(.st 22),.bool,(.arr (.st 5)),.bool,.int,(.st 22),(.lst (.st 19)),(.lst (.st 19)),(.st 21),(.lst (.st 25)),(.st 22),(.st 22),.int,.int,.bool,(.arr (.st 5)),.bool,.int,.bool,(.lst (.st 25))],[q7l,q7m,q7n,q7o,q7p,q7q,q7r,q7s,q7t,q7u,q7v,q7w,q7x,q7y,q7z,q7A,q7B]⟩
def q7D (x:tq7):(tqb⊕tqb⊕tqp⊕tqp⊕tqc⊕tqc⊕tqp⊕tqp⊕tqd⊕tqd⊕tqp⊕tqp⊕tqh⊕tqh⊕tqs⊕tqs⊕(Z8×Z9×Bool×Z9×Z9))->tq0:=Sum.elim (fun y0=>(.inl (x.u3,y0.1,y0.2.1,y0.u2,y0.u3,x.u7,y0.u4,x.u9,y0.u5,x.u11,y0.u6,y0.u7,x.u12,x.u13,x.u14,x.u15,y0.u8,y0.u9,x.u17,y0.v10,x.u18,x.u19,x.u20,x.u21,x.u22,x.u23,x.v24))) (Sum.elim (fun y1=>(.inr (.inl (x.u3,y1.1,y1.2.1,y1.u2,y1.u3,x.u7,y1.u4,x.u9,y1.u5,x.u11,y1.u6,y1.u7,x.u12,x.u13,x.u14,x.u15,y1.u8,y1.u9,x.u17,y1.v10,x.u18,x.u19,x.u20,x.u21,x.u22,x.u23,x.v24)))) (Sum.elim (fun y2=>(.inr (.inr (.inl (x.u3,y2.1,y2.2.1,y2.u2,y2.u3,x.u7,y2.u4,x.u9,y2.u5,x.u11,y2.u6,x.u12,x.u13,x.u14,x.u15,y2.u7,y2.v8,x.u17,x.u18,x.u19,x.u20,x.u21,x.u22,x.u23,x.v24))))) (Sum.elim (fun y3=>(.inr (.inr (.inr (.inl (x.u3,y3.1,y3.2.1,y3.u2,y3.u3,x.u7,y3.u4,x.u9,y3.u5,x.u11,y3.u6,x.u12,x.u13,x.u14,x.u15,y3.u7,y3.v8,x.u17,x.u18,x.u19,x.u20,x.u21,x.u22,x.u23,x.v24)))))) (Sum.elim (fun y4=>(.inr (.inr (.inr (.inr (.inl (x.u3,y4.1,y4.2.1,y4.u2,y4.u3,y4.u4,x.u7,y4.u5,x.u9,y4.u6,x.u11,y4.u7,x.u12,x.u13,x.u14,x.u15,y4.u8,y4.u9,x.u17,x.u18,y4.v10,x.u19,x.u20,x.u21,x.u22,x.u23,x.v24))))))) (Sum.elim (fun y5=>(.inr (.inr (.inr (.inr (.inr (.inl (x.u3,y5.1,y5.2.1,y5.u2,y5.u3,y5.u4,x.u7,y5.u5,x.u9,y5.u6,x.u11,y5.u7,x.u12,x.u13,x.u14,x.u15,y5.u8,y5.u9,x.u17,x.u18,y5.v10,x.u19,x.u20,x.u21,x.u22,x.u23,x.v24)))))))) (Sum.elim (fun y6=>(.inr (.inr (.inr (.inr (.inr (.inr (.inl (x.u3,y6.1,y6.2.1,y6.u2,y6.u3,x.u7,y6.u4,x.u9,y6.u5,x.u11,y6.u6,x.u12,x.u13,x.u14,x.u15,y6.u7,y6.v8,x.u17,x.u18,x.u19,x.u20,x.u21,x.u22,x.u23,x.v24))))))))) (Sum.elim (fun y7=>(.inr (.inr (.inr (.inr (.inr (.inr (.inr (.inl (x.u3,y7.1,y7.2.1,y7.u2,y7.u3,x.u7,y7.u4,x.u9,y7.u5,x.u11,y7.u6,x.u12,x.u13,x.u14,x.u15,y7.u7,y7.v8,x.u17,x.u18,x.u19,x.u20,x.u21,x.u22,x.u23,x.v24)))))))))) (Sum.elim (fun y8=>(.inr (.inr (.inr (.inr (.inr (.inr (.inr (.inr (.inl (y8.1,x.u3,y8.2.1,y8.u2,y8.u3,y8.u4,x.u7,y8.u5,x.u9,y8.u6,x.u11,y8.u7,x.u12,x.u13,x.u14,x.u15,y8.u8,y8.u9,y8.v10,x.u17,x.u18,x.u19,x.u20,x.u21,x.u22,x.u23,x.v24))))))))))) (Sum.elim (fun y9=>(.inr (.inr (.inr (.inr (.inr (.inr (.inr (.inr (.inr (.inl (y9.1,x.u3,y9.2.1,y9.u2,y9.u3,y9.u4,x.u7,y9.u5,x.u9,y9.u6,x.u11,y9.u7,x.u12,x.u13,x.u14,x.u15,y9.u8,y9.u9,y9.v10,x.u17,x.u18,x.u19,x.u20,x.u21,x.u22,x.u23,x.v24)))))))))))) (Sum.elim (fun y10=>(.inr (.inr (.inr (.inr (.inr (.inr (.inr (.inr (.inr (.inr (.inl (x.u3,y10.1,y10.2.1,y10.u2,y10.u3,x.u7,y10.u4,x.u9,y10.u5,x.u11,y10.u6,x.u12,x.u13,x.u14,x.u15,y10.u7,y10.v8,x.u17,x.u18,x.u19,x.u20,x.u21,x.u22,x.u23,x.v24))))))))))))) (Sum.elim (fun y11=>(.inr (.inr (.inr (.inr (.inr (.inr (.inr (.inr (.inr (.inr (.inr (.inl (x.u3,y11.1,y11.2.1,y11.u2,y11.u3,x.u7,y11.u4,x.u9,y11.u5,x.u11,y11.u6,x.u12,x.u13,x.u14,x.u15,y11.u7,y11.v8,x.u17,x.u18,x.u19,x.u20,x.u21,x.u22,x.u23,x.v24)))))))))))))) (Sum.elim (fun y12=>(.inr (.inr (.inr (.inr (.inr (.inr (.inr (.inr (.inr (.inr (.inr (.inr (.inl (x.u3,y12.1,y12.2.1,y12.u2,x.u3,x.u7,y12.u3,x.u9,y12.u4,x.u11,y12.u5,y12.u6,y12.u7,x.u12,x.u13,x.u14,x.u15,y12.u8,y12.v9,x.u17,x.u18,x.u19,x.u20,x.u21,x.u22,x.u23,x.v24))))))))))))))) (Sum.elim (fun y13=>(.inr (.inr (.inr (.inr (.inr (.inr (.inr (.inr (.inr (.inr (.inr (.inr (.inr (.inl (x.u3,y13.1,y13.2.1,y13.u2,x.u3,x.u7,y13.u3,x.u9,y13.u4,x.u11,y13.u5,y13.u6,y13.u7,x.u12,x.u13,x.u14,x.u15,y13.u8,y13.v9,x.u17,x.u18,x.u19,x.u20,x.u21,x.u22,x.u23,x.v24)))))))))))))))) (Sum.elim (fun y14=>(.inr (.inr (.inr (.inr (.inr (.inr (.inr (.inr (.inr (.inr (.inr (.inr (.inr (.inr (.inl (x.u3,y14.1,y14.2.1,y14.u2,x.u3,x.u7,y14.u3,x.u9,y14.u4,x.u11,y14.u5,x.u12,x.u13,x.u14,x.u15,y14.u6,y14.v7,x.u17,x.u18,x.u19,x.u20,x.u21,x.u22,x.u23,x.v24))))))))))))))))) (Sum.elim (fun y15=>(.inr (.inr (.inr (.inr (.inr (.inr (.inr (.inr (.inr (.inr (.inr (.inr (.inr (.inr (.inr (.inl (x.u3,y15.1,y15.2.1,y15.u2,x.u3,x.u7,y15.u3,x.u9,y15.u4,x.u11,y15.u5,x.u12,x.u13,x.u14,x.u15,y15.u6,y15.v7,x.u17,x.u18,x.u19,x.u20,x.u21,x.u22,x.u23,x.v24)))))))))))))))))) (fun y16=>(.inr (.inr (.inr (.inr (.inr (.inr (.inr (.inr (.inr (.inr (.inr (.inr (.inr (.inr (.inr (.inr (x.u3,y16.1,y16.2.1,y16.u2,x.u7,x.u8,x.u9,y16.u3,x.u11,x.u12,x.u13,x.u14,x.u15,y16.v4,x.u17,x.u18,x.u19,x.u20,x.u21,x.u22,x.u23,x.v24)))))))))))))))))))))))))))))))))
def q7E (ih:tqt->Option tqk) {R:Type} (x:tq7) (k:tq0->Option R):Option R:=(XF ih x.1 x.u3 x.u7 x.u8 x.u9 x.u11 x.u12 x.u13 x.u14 x.u15 x.u17 x.u18 x.u19 x.u20 x.u21 x.u22 x.u23 x.v24 (x.2.1,x.u2,x.u4,x.u5,x.u6,x.u10,x.u16)).bind (Sum.elim (fun y0=>k (.inl (x.u3,y0.1,y0.2.1,y0.u2,y0.u3,x.u7,y0.u4,x.u9,y0.u5,x.u11,y0.u6,y0.u7,x.u12,x.u13,x.u14,x.u15,y0.u8,y0.u9,x.u17,y0.v10,x.u18,x.u19,x.u20,x.u21,x.u22,x.u23,x.v24))) (Sum.elim (fun y1=>k (.inr (.inl (x.u3,y1.1,y1.2.1,y1.u2,y1.u3,x.u7,y1.u4,x.u9,y1.u5,x.u11,y1.u6,y1.u7,x.u12,x.u13,x.u14,x.u15,y1.u8,y1.u9,x.u17,y1.v10,x.u18,x.u19,x.u20,x.u21,x.u22,x.u23,x.v24)))) (Sum.elim (fun y2=>k (.inr (.inr (.inl (x.u3,y2.1,y2.2.1,y2.u2,y2.u3,x.u7,y2.u4,x.u9,y2.u5,x.u11,y2.u6,x.u12,x.u13,x.u14,x.u15,y2.u7,y2.v8,x.u17,x.u18,x.u19,x.u20,x.u21,x.u22,x.u23,x.v24))))) (Sum.elim (fun y3=>k (.inr (.inr (.inr (.inl (x.u3,y3.1,y3.2.1,y3.u2,y3.u3,x.u7,y3.u4,x.u9,y3.u5,x.u11,y3.u6,x.u12,x.u13,x.u14,x.u15,y3.u7,y3.v8,x.u17,x.u18,x.u19,x.u20,x.u21,x.u22,x.u23,x.v24)))))) (Sum.elim (fun y4=>k (.inr (.inr (.inr (.inr (.inl (x.u3,y4.1,y4.2.1,y4.u2,y4.u3,y4.u4,x.u7,y4.u5,x.u9,y4.u6,x.u11,y4.u7,x.u12,x.u13,x.u14,x.u15,y4.u8,y4.u9,x.u17,x.u18,y4.v10,x.u19,x.u20,x.u21,x.u22,x.u23,x.v24))))))) (Sum.elim (fun y5=>k (.inr (.inr (.inr (.inr (.inr (.inl (x.u3,y5.1,y5.2.1,y5.u2,y5.u3,y5.u4,x.u7,y5.u5,x.u9,y5.u6,x.u11,y5.u7,x.u12,x.u13,x.u14,x.u15,y5.u8,y5.u9,x.u17,x.u18,y5.v10,x.u19,x.u20,x.u21,x.u22,x.u23,x.v24)))))))) (Sum.elim (fun y6=>k (.inr (.inr (.inr (.inr (.inr (.inr (.inl (x.u3,y6.1,y6.2.1,y6.u2,y6.u3,x.u7,y6.u4,x.u9,y6.u5,x.u11,y6.u6,x.u12,x.u13,x.u14,x.u15,y6.u7,y6.v8,x.u17,x.u18,x.u19,x.u20,x.u21,x.u22,x.u23,x.v24))))))))) (Sum.elim (fun y7=>k (.inr (.inr (.inr (.inr (.inr (.inr (.inr (.inl (x.u3,y7.1,y7.2.1,y7.u2,y7.u3,x.u7,y7.u4,x.u9,y7.u5,x.u11,y7.u6,x.u12,x.u13,x.u14,x.u15,y7.u7,y7.v8,x.u17,x.u18,x.u19,x.u20,x.u21,x.u22,x.u23,x.v24)))))))))) (Sum.elim (fun y8=>k (.inr (.inr (.inr (.inr (.inr (.inr (.inr (.inr (.inl (y8.1,x.u3,y8.2.1,y8.u2,y8.u3,y8.u4,x.u7,y8.u5,x.u9,y8.u6,x.u11,y8.u7,x.u12,x.u13,x.u14,x.u15,y8.u8,y8.u9,y8.v10,x.u17,x.u18,x.u19,x.u20,x.u21,x.u22,x.u23,x.v24))))))))))) (Sum.elim (fun y9=>k (.inr (.inr (.inr (.inr (.inr (.inr (.inr (.inr (.inr (.inl (y9.1,x.u3,y9.2.1,y9.u2,y9.u3,y9.u4,x.u7,y9.u5,x.u9,y9.u6,x.u11,y9.u7,x.u12,x.u13,x.u14,x.u15,y9.u8,y9.u9,y9.v10,x.u17,x.u18,x.u19,x.u20,x.u21,x.u22,x.u23,x.v24)))))))))))) (Sum.elim (fun y10=>k (.inr (.inr (.inr (.inr (.inr (.inr (.inr (.inr (.inr (.inr (.inl (x.u3,y10.1,y10.2.1,y10.u2,y10.u3,x.u7,y10.u4,x.u9,y10.u5,x.u11,y10.u6,x.u12,x.u13,x.u14,x.u15,y10.u7,y10.v8,x.u17,x.u18,x.u19,x.u20,x.u21,x.u22,x.u23,x.v24))))))))))))) (Sum.elim (fun y11=>k (.inr (.inr (.inr (.inr (.inr (.inr (.inr (.inr (.inr (.inr (.inr (.inl (x.u3,y11.1,y11.2.1,y11.u2,y11.u3,x.u7,y11.u4,x.u9,y11.u5,x.u11,y11.u6,x.u12,x.u13,x.u14,x.u15,y11.u7,y11.v8,x.u17,x.u18,x.u19,x.u20,x.u21,x.u22,x.u23,x.v24)))))))))))))) (Sum.elim (fun y12=>k (.inr (.inr (.inr (.inr (.inr (.inr (.inr (.inr (.inr (.inr (.inr (.inr (.inl (x.u3,y12.1,y12.2.1,y12.u2,x.u3,x.u7,y12.u3,x.u9,y12.u4,x.u11,y12.u5,y12.u6,y12.u7,x.u12,x.u13,x.u14,x.u15,y12.u8,y12.v9,x.u17,x.u18,x.u19,x.u20,x.u21,x.u22,x.u23,x.v24))))))))))))))) (Sum.elim (fun y13=>k (.inr (.inr (.inr (.inr (.inr (.inr (.inr (.inr (.inr (.inr (.inr (.inr (.inr (.inl (x.u3,y13.1,y13.2.1,y13.u2,x.u3,x.u7,y13.u3,x.u9,y13.u4,x.u11,y13.u5,y13.u6,y13.u7,x.u12,x.u13,x.u14,x.u15,y13.u8,y13.v9,x.u17,x.u18,x.u19,x.u20,x.u21,x.u22,x.u23,x.v24)))))))))))))))) (Sum.elim (fun y14=>k (.inr (.inr (.inr (.inr (.inr (.inr (.inr (.inr (.inr (.inr (.inr (.inr (.inr (.inr (.inl (x.u3,y14.1,y14.2.1,y14.u2,x.u3,x.u7,y14.u3,x.u9,y14.u4,x.u11,y14.u5,x.u12,x.u13,x.u14,x.u15,y14.u6,y14.v7,x.u17,x.u18,x.u19,x.u20,x.u21,x.u22,x.u23,x.v24))))))))))))))))) (Sum.elim (fun y15=>k (.inr (.inr (.inr (.inr (.inr (.inr (.inr (.inr (.inr (.inr (.inr (.inr (.inr (.inr (.inr (.inl (x.u3,y15.1,y15.2.1,y15.u2,x.u3,x.u7,y15.u3,x.u9,y15.u4,x.u11,y15.u5,x.u12,x.u13,x.u14,x.u15,y15.u6,y15.v7,x.u17,x.u18,x.u19,x.u20,x.u21,x.u22,x.u23,x.v24)))))))))))))))))) (fun y16=>k (.inr (.inr (.inr (.inr (.inr (.inr (.inr (.inr (.inr (.inr (.inr (.inr (.inr (.inr (.inr (.inr (x.u3,y16.1,y16.2.1,y16.u2,x.u7,x.u8,x.u9,y16.u3,x.u11,x.u12,x.u13,x.u14,x.u15,y16.v4,x.u17,x.u18,x.u19,x.u20,x.u21,x.u22,x.u23,x.v24))))))))))))))))))))))))))))))))))
def q7F (x:tq7) (v:(Int×Int×Z8×Z9×Bool×Z9×Z9)):tq7:=(x.1,v.1,v.2.1,x.u3,v.u2,v.u3,v.u4,x.u7,x.u8,x.u9,v.u5,x.u11,x.u12,x.u13,x.u14,x.u15,v.v6,x.u17,x.u18,x.u19,x.u20,x.u21,x.u22,x.u23,x.v24)
theorem q7G (ih:tqt->Option tqk) (x:tq7):LE.step X q7C q7f (PE.ps X q7e (fun x q=>(ih x).bind q) q50) (q7h ih) 12 x=X1 ih x.1 x.u3 x.u7 x.u8 x.u9 x.u11 x.u12 x.u13 x.u14 x.u15 x.u17 x.u18 x.u19 x.u20 x.u21 x.u22 x.u23 x.v24 x.2.1 x.u2 x.u4 x.u5 x.u6 x.u10 x.u16 (fun w0 w1 w2 w3 w4 w5 w6=>(Sum.inl (x.1,w0,w1,x.u3,w2,w3,w4,x.u7,x.u8,x.u9,w5,x.u11,x.u12,x.u13,x.u14,x.u15,w6,x.u17,x.u18,x.u19,x.u20,x.u21,x.u22,x.u23,x.v24))) (fun p0 p1 p2 p3 p4 p5 p6 p7 p8 p9 p10=>(Sum.inr (.inl (x.u3,p0,p1,p2,p3,x.u7,p4,x.u9,p5,x.u11,p6,p7,x.u12,x.u13,x.u14,x.u15,p8,p9,x.u17,p10,x.u18,x.u19,x.u20,x.u21,x.u22,x.u23,x.v24)))) (fun p0 p1 p2 p3 p4 p5 p6 p7 p8 p9 p10=>(Sum.inr (.inr (.inl (x.u3,p0,p1,p2,p3,x.u7,p4,x.u9,p5,x.u11,p6,p7,x.u12,x.u13,x.u14,x.u15,p8,p9,x.u17,p10,x.u18,x.u19,x.u20,x.u21,x.u22,x.u23,x.v24))))) (fun p0 p1 p2 p3 p4 p5 p6 p7 p8=>(Sum.inr (.inr (.inr (.inl (x.u3,p0,p1,p2,p3,x.u7,p4,x.u9,p5,x.u11,p6,x.u12,x.u13,x.u14,x.u15,p7,p8,x.u17,x.u18,x.u19,x.u20,x.u21,x.u22,x.u23,x.v24)))))) (fun p0 p1 p2 p3 p4 p5 p6 p7 p8=>(Sum.inr (.inr (.inr (.inr (.inl (x.u3,p0,p1,p2,p3,x.u7,p4,x.u9,p5,x.u11,p6,x.u12,x.u13,x.u14,x.u15,p7,p8,x.u17,x.u18,x.u19,x.u20,x.u21,x.u22,x.u23,x.v24))))))) (fun p0 p1 p2 p3 p4 p5 p6 p7 p8 p9 p10=>(Sum.inr (.inr (.inr (.inr (.inr (.inl (x.u3,p0,p1,p2,p3,p4,x.u7,p5,x.u9,p6,x.u11,p7,x.u12,x.u13,x.u14,x.u15,p8,p9,x.u17,x.u18,p10,x.u19,x.u20,x.u21,x.u22,x.u23,x.v24)))))))) (fun p0 p1 p2 p3 p4 p5 p6 p7 p8 p9 p10=>(Sum.inr (.inr (.inr (.inr (.inr (.inr (.inl (x.u3,p0,p1,p2,p3,p4,x.u7,p5,x.u9,p6,x.u11,p7,x.u12,x.u13,x.u14,x.u15,p8,p9,x.u17,x.u18,p10,x.u19,x.u20,x.u21,x.u22,x.u23,x.v24))))))))) (fun p0 p1 p2 p3 p4 p5 p6 p7 p8=>(Sum.inr (.inr (.inr (.inr (.inr (.inr (.inr (.inl (x.u3,p0,p1,p2,p3,x.u7,p4,x.u9,p5,x.u11,p6,x.u12,x.u13,x.u14,x.u15,p7,p8,x.u17,x.u18,x.u19,x.u20,x.u21,x.u22,x.u23,x.v24)))))))))) (fun p0 p1 p2 p3 p4 p5 p6 p7 p8=>(Sum.inr (.inr (.inr (.inr (.inr (.inr (.inr (.inr (.inl (x.u3,p0,p1,p2,p3,x.u7,p4,x.u9,p5,x.u11,p6,x.u12,x.u13,x.u14,x.u15,p7,p8,x.u17,x.u18,x.u19,x.u20,x.u21,x.u22,x.u23,x.v24))))))))))) (fun p0 p1 p2 p3 p4 p5 p6 p7 p8 p9 p10=>(Sum.inr (.inr (.inr (.inr (.inr (.inr (.inr (.inr (.inr (.inl (p0,x.u3,p1,p2,p3,p4,x.u7,p5,x.u9,p6,x.u11,p7,x.u12,x.u13,x.u14,x.u15,p8,p9,p10,x.u17,x.u18,x.u19,x.u20,x.u21,x.u22,x.u23,x.v24)))))))))))) (fun p0 p1 p2 p3 p4 p5 p6 p7 p8 p9 p10=>(Sum.inr (.inr (.inr (.inr (.inr (.inr (.inr (.inr (.inr (.inr (.inl (p0,x.u3,p1,p2,p3,p4,x.u7,p5,x.u9,p6,x.u11,p7,x.u12,x.u13,x.u14,x.u15,p8,p9,p10,x.u17,x.u18,x.u19,x.u20,x.u21,x.u22,x.u23,x.v24))))))))))))) (fun p0 p1 p2 p3 p4 p5 p6 p7 p8=>(Sum.inr (.inr (.inr (.inr (.inr (.inr (.inr (.inr (.inr (.inr (.inr (.inl (x.u3,p0,p1,p2,p3,x.u7,p4,x.u9,p5,x.u11,p6,x.u12,x.u13,x.u14,x.u15,p7,p8,x.u17,x.u18,x.u19,x.u20,x.u21,x.u22,x.u23,x.v24)))))))))))))) (fun p0 p1 p2 p3 p4 p5 p6 p7 p8=>(Sum.inr (.inr (.inr (.inr (.inr (.inr (.inr (.inr (.inr (.inr (.inr (.inr (.inl (x.u3,p0,p1,p2,p3,x.u7,p4,x.u9,p5,x.u11,p6,x.u12,x.u13,x.u14,x.u15,p7,p8,x.u17,x.u18,x.u19,x.u20,x.u21,x.u22,x.u23,x.v24))))))))))))))) (fun p0 p1 p2 p3 p4 p5 p6 p7 p8 p9=>(Sum.inr (.inr (.inr (.inr (.inr (.inr (.inr (.inr (.inr (.inr (.inr (.inr (.inr (.inl (x.u3,p0,p1,p2,x.u3,x.u7,p3,x.u9,p4,x.u11,p5,p6,p7,x.u12,x.u13,x.u14,x.u15,p8,p9,x.u17,x.u18,x.u19,x.u20,x.u21,x.u22,x.u23,x.v24)))))))))))))))) (fun p0 p1 p2 p3 p4 p5 p6 p7 p8 p9=>(Sum.inr (.inr (.inr (.inr (.inr (.inr (.inr (.inr (.inr (.inr (.inr (.inr (.inr (.inr (.inl (x.u3,p0,p1,p2,x.u3,x.u7,p3,x.u9,p4,x.u11,p5,p6,p7,x.u12,x.u13,x.u14,x.u15,p8,p9,x.u17,x.u18,x.u19,x.u20,x.u21,x.u22,x.u23,x.v24))))))))))))))))) (fun p0 p1 p2 p3 p4 p5 p6 p7=>(Sum.inr (.inr (.inr (.inr (.inr (.inr (.inr (.inr (.inr (.inr (.inr (.inr (.inr (.inr (.inr (.inl (x.u3,p0,p1,p2,x.u3,x.u7,p3,x.u9,p4,x.u11,p5,x.u12,x.u13,x.u14,x.u15,p6,p7,x.u17,x.u18,x.u19,x.u20,x.u21,x.u22,x.u23,x.v24)))))))))))))))))) (fun p0 p1 p2 p3 p4 p5 p6 p7=>(Sum.inr (.inr (.inr (.inr (.inr (.inr (.inr (.inr (.inr (.inr (.inr (.inr (.inr (.inr (.inr (.inr (.inl (x.u3,p0,p1,p2,x.u3,x.u7,p3,x.u9,p4,x.u11,p5,x.u12,x.u13,x.u14,x.u15,p6,p7,x.u17,x.u18,x.u19,x.u20,x.u21,x.u22,x.u23,x.v24))))))))))))))))))) (fun p0 p1 p2 p3 p4=>(Sum.inr (.inr (.inr (.inr (.inr (.inr (.inr (.inr (.inr (.inr (.inr (.inr (.inr (.inr (.inr (.inr (.inr (x.u3,p0,p1,p2,x.u7,x.u8,x.u9,p3,x.u11,x.u12,x.u13,x.u14,x.u15,p4,x.u17,x.u18,x.u19,x.u20,x.u21,x.u22,x.u23,x.v24))))))))))))))))))):=by kernel_rfl
theorem q7I (ih:tqt->Option tqk) {R:Type} (x:tq7) (k:tq0->Option R) (r:R) (h:q7E ih x k=some r):∃o,Z66 (LE.step X q7C q7f (PE.ps X q7e (fun x q=>(ih x).bind q) q50) (q7h ih) 12) x o/\k o=some r:=by
 obtain⟨o,h1,h2⟩:=Z0 h;exact⟨q7D x o,Zk6 (st:=fun(x:tq7)=>X9 ih x.1 x.u3 x.u7 x.u8 x.u9 x.u11 x.u12 x.u13 x.u14 x.u15 x.u17 x.u18 x.u19 x.u20 x.u21 x.u22 x.u23 x.v24) (prj:=fun x=>(x.2.1,x.u2,x.u4,x.u5,x.u6,x.u10,x.u16)) (emb:=q7F) (embO:=q7D) (fun x=>(q7G ih x).trans (by unfold X9 X1;simp only[ZjX,ZjO,ZjY,Option.map_some,Option.map_none];rfl)) (fun _ _=>rfl) (fun _ _=>rfl) (fun _ _ _=>rfl) (fun _ _ _=>rfl) (fun _=>rfl) (Z25.1 h1),by first|exact h2|(rcases o with o|o|o|o|o|o|o|o|o|o|o|o|o|o|o|o|o<;>exact h2)⟩
def q7J (ih:tqt->Option tqk) {R:Type}:Z2G S R:=LE.ls X q7C (q7E ih) (q7h ih)
theorem q7K (ih:tqt->Option tqk) (hih:ZcA X q7e ih) {R:Type}:Z4b X (q7J ih (R:=R)):=Zka xok q7g (e:=q7C) (Zk3 (e:=q7e) hih q51) (q7i ih hih) (q7I ih) (q7i ih hih)
theorem q7L (ih:tqt->Option tqk) (x:((Nat->ZZ)×Int×(List Z8)×Z9×Bool×Z9×Z9)):PE.step X q7e q7f (PE.ps X q7e (fun x q=>(ih x).bind q) q50) (q7J ih) 12 x=Xe ih x.1 x.2.1 x.u2 x.u3 x.u4 x.u5 x.v6:=by kernel_rfl
theorem q7M:ZcA X q7e XP:=Zk4 (X:=X) (e:=q7e) (t:=X4) fun ih hih=>Zkb (ZjB xok q7g (Zk3 (e:=q7e) hih q51) (q7K ih hih) 12) fun x _ h=>(q7L ih x).trans h
def q7N {R:Type}:Prs S R:=PE.ps X q7e (fun x q=>(XP x).bind q) q50
theorem q7O {R:Type}:Z8Z X (q7N (R:=R)):=Zk3 (e:=q7e) q7M q51
def q7P:StT S:=⟨(N v1G vH (N (N L (some (.ptr 4 0)) L) (some .sl0) L)),o1J,6⟩
def q7S:PE S:=⟨57,6,q7P,[(.arr (.st 5)),.int,(.st 22),.bool,(.st 22),(.st 22)],[q7c,q7d]⟩
def q7Y:StT S:=⟨v14,oJ,70⟩
def q7Z:Way S:=⟨.ret,⟨L,(N o16 oa o1c),166⟩,[(.arr (.st 5)),(.st 25),(.st 22),.bool,(.arr (.st 5)),(.arr (.st 5)),.bool,.int,(.st 22),(.lst (.st 19)),(.lst (.st 25)),(.st 25),(.lst (.st 19)),(.st 21),(.lst (.st 25)),(.st 22),(.st 22),(.st 19),.int,(.lst (.st 25)),.int,.bool,(.arr (.st 5)),.bool,.int,.bool]⟩
def q80:Way S:=⟨.ret,⟨L,(N o17 oa o1c),166⟩,[(.arr (.st 5)),(.st 25),(.st 22),.bool,(.arr (.st 5)),(.arr (.st 5)),.bool,.int,(.st 22),(.lst (.st 19)),(.lst (.st 25)),(.st 25),(.lst (.st 19)),(.st 21),(.lst (.st 25)),(.st 22),(.st 22),(.st 19),.int,(.lst (.st 25)),.int,.bool,(.arr (.st 5)),.bool,.int,.bool]⟩
def q81:Way S:=⟨.ret,⟨L,oP,159⟩,[(.arr (.st 5)),(.st 25),(.st 22),.bool,(.arr (.st 5)),(.arr (.st 5)),.bool,.int,(.st 22),(.lst (.st 19)),(.st 25),(.lst (.st 19)),(.st 21),(.lst (.st 25)),(.st 22),(.st 22),(.st 19),.int,.int,.bool,(.arr (.st 5)),.bool,.int,.bool]⟩
def q82:Way S:=⟨.ret,⟨L,oQ,159⟩,[(.arr (.st 5)),(.st 25),(.st 22),.bool,(.arr (.st 5)),(.arr (.st 5)),.bool,.int,(.st 22),(.lst (.st 19)),(.st 25),(.lst (.st 19)),(.st 21),(.lst (.st 25)),(.st 22),(.st 22),(.st 19),.int,.int,.bool,(.arr (.st 5)),.bool,.int,.bool]⟩
def q83:Way S:=⟨.ret,⟨L,(N oU oa o1f),151⟩,[(.arr (.st 5)),(.st 25),(.st 22),(.lst (.st 25)),.bool,(.arr (.st 5)),(.arr (.st 5)),.bool,.int,(.st 22),(.lst (.st 19)),(.st 25),(.lst (.st 19)),(.st 21),(.lst (.st 25)),(.st 22),(.st 22),(.st 19),.int,.int,(.lst (.st 25)),.bool,(.arr (.st 5)),.bool,.int,.bool]⟩
def q84:Way S:=⟨.ret,⟨L,(N oV oa o1f),151⟩,[(.arr (.st 5)),(.st 25),(.st 22),(.lst (.st 25)),.bool,(.arr (.st 5)),(.arr (.st 5)),.bool,.int,(.st 22),(.lst (.st 19)),(.st 25),(.lst (.st 19)),(.st 21),(.lst (.st 25)),(.st 22),(.st 22),(.st 19),.int,.int,(.lst (.st 25)),.bool,(.arr (.st 5)),.bool,.int,.bool]⟩
def q85:Way S:=⟨.ret,⟨L,oP,144⟩,[(.arr (.st 5)),(.st 25),(.st 22),.bool,(.arr (.st 5)),(.arr (.st 5)),.bool,.int,(.st 22),(.lst (.st 19)),(.st 25),(.lst (.st 19)),(.st 21),(.lst (.st 25)),(.st 22),(.st 22),(.st 19),.int,.int,.bool,(.arr (.st 5)),.bool,.int,.bool]⟩
def q86:Way S:=⟨.ret,⟨L,oQ,144⟩,[(.arr (.st 5)),(.st 25),(.st 22),.bool,(.arr (.st 5)),(.arr (.st 5)),.bool,.int,(.st 22),(.lst (.st 19)),(.st 25),(.lst (.st 19)),(.st 21),(.lst (.st 25)),(.st 22),(.st 22),(.st 19),.int,.int,.bool,(.arr (.st 5)),.bool,.int,.bool]⟩
def q87:Way S:=⟨.ret,⟨L,(N oY oa o12),152⟩,[(.lst (.st 25)),(.arr (.st 5)),(.st 25),(.st 22),.bool,(.arr (.st 5)),(.arr (.st 5)),.bool,.int,(.st 22),(.lst (.st 19)),(.st 25),(.lst (.st 19)),(.st 21),(.lst (.st 25)),(.st 22),(.lst (.st 25)),(.st 22),(.st 19),.int,.int,.bool,(.arr (.st 5)),.bool,.int,.bool]⟩
def q88:Way S:=⟨.ret,⟨L,(N oZ oa o12),152⟩,[(.lst (.st 25)),(.arr (.st 5)),(.st 25),(.st 22),.bool,(.arr (.st 5)),(.arr (.st 5)),.bool,.int,(.st 22),(.lst (.st 19)),(.st 25),(.lst (.st 19)),(.st 21),(.lst (.st 25)),(.st 22),(.lst (.st 25)),(.st 22),(.st 19),.int,.int,.bool,(.arr (.st 5)),.bool,.int,.bool]⟩
def q89:Way S:=⟨.ret,⟨L,oP,145⟩,[(.arr (.st 5)),(.st 25),(.st 22),.bool,(.arr (.st 5)),(.arr (.st 5)),.bool,.int,(.st 22),(.lst (.st 19)),(.st 25),(.lst (.st 19)),(.st 21),(.lst (.st 25)),(.st 22),(.st 22),(.st 19),.int,.int,.bool,(.arr (.st 5)),.bool,.int,.bool]⟩
def q8a:Way S:=⟨.ret,⟨L,oQ,145⟩,[(.arr (.st 5)),(.st 25),(.st 22),.bool,(.arr (.st 5)),(.arr (.st 5)),.bool,.int,(.st 22),(.lst (.st 19)),(.st 25),(.lst (.st 19)),(.st 21),(.lst (.st 25)),(.st 22),(.st 22),(.st 19),.int,.int,.bool,(.arr (.st 5)),.bool,.int,.bool]⟩
def q8b:Way S:=⟨.ret,⟨L,(N o18 oa o1h),137⟩,[(.arr (.st 5)),(.st 25),(.st 22),.bool,(.arr (.st 5)),(.arr (.st 5)),.bool,.int,(.st 22),(.lst (.st 19)),(.st 25),(.lst (.st 25)),(.lst (.st 25)),(.lst (.st 19)),(.st 21),(.lst (.st 25)),(.st 22),(.st 22),(.st 19),.int,.int,.bool,(.arr (.st 5)),.bool,.int,.bool]⟩
def q8c:Way S:=⟨.ret,⟨L,(N o19 oa o1h),137⟩,[(.arr (.st 5)),(.st 25),(.st 22),.bool,(.arr (.st 5)),(.arr (.st 5)),.bool,.int,(.st 22),(.lst (.st 19)),(.st 25),(.lst (.st 25)),(.lst (.st 25)),(.lst (.st 19)),(.st 21),(.lst (.st 25)),(.st 22),(.st 22),(.st 19),.int,.int,.bool,(.arr (.st 5)),.bool,.int,.bool]⟩
def q8d:Way S:=⟨.ret,⟨L,oP,130⟩,[(.arr (.st 5)),(.st 25),(.st 22),.bool,(.arr (.st 5)),(.arr (.st 5)),.bool,.int,(.st 22),(.lst (.st 19)),(.st 25),(.lst (.st 19)),(.st 21),(.lst (.st 25)),(.st 22),(.st 22),(.st 19),.int,.int,.bool,(.arr (.st 5)),.bool,.int,.bool]⟩
def q8e:Way S:=⟨.ret,⟨L,oQ,130⟩,[(.arr (.st 5)),(.st 25),(.st 22),.bool,(.arr (.st 5)),(.arr (.st 5)),.bool,.int,(.st 22),(.lst (.st 19)),(.st 25),(.lst (.st 19)),(.st 21),(.lst (.st 25)),(.st 22),(.st 22),(.st 19),.int,.int,.bool,(.arr (.st 5)),.bool,.int,.bool]⟩
def q8f:Way S:=⟨(.exit 0),⟨L,oJ,71⟩,[(.arr (.st 5)),(.st 25),(.st 22),.bool,(.arr (.st 5)),.bool,.int,(.st 22),(.lst (.st 19)),(.lst (.st 19)),(.st 21),(.lst (.st 25)),(.st 22),(.st 22),.int,.int,.bool,(.arr (.st 5)),.bool,.int,.bool]⟩
def q8g:LE S:=⟨q7j,q7Y,[.int,.int,.int,(.arr (.st 5)),(.st 25),(.st 22),.bool,(.arr (.st 5)),.bool,.int,(.st 22),(.lst (.st 19)),(.lst (.st 19)),(.st 21),(.lst (.st 25)),(.st 22),(.st 22),.int,.int,.bool,(.arr (.st 5)),.bool,.int,.bool],[q7Z,q80,q81,q82,q83,q84,q85,q86,q87,q88,q89,q8a,q8b,q8c,q8d,q8e,q8f]⟩
def q8h (x:tq8):(tqb⊕tqb⊕tqp⊕tqp⊕tqc⊕tqc⊕tqp⊕tqp⊕tqd⊕tqd⊕tqp⊕tqp⊕tqh⊕tqh⊕tqs⊕tqs⊕(Z8×Z9×Bool×Z9×Z9))->tq1:=Sum.elim (fun y0=>(.inl (x.u3,y0.1,y0.2.1,y0.u2,y0.u3,x.u7,y0.u4,x.u9,y0.u5,x.u11,y0.u6,y0.u7,x.u12,x.u13,x.u14,x.u15,y0.u8,y0.u9,x.u17,y0.v10,x.u18,x.u19,x.u20,x.u21,x.u22,x.v23))) (Sum.elim (fun y1=>(.inr (.inl (x.u3,y1.1,y1.2.1,y1.u2,y1.u3,x.u7,y1.u4,x.u9,y1.u5,x.u11,y1.u6,y1.u7,x.u12,x.u13,x.u14,x.u15,y1.u8,y1.u9,x.u17,y1.v10,x.u18,x.u19,x.u20,x.u21,x.u22,x.v23)))) (Sum.elim (fun y2=>(.inr (.inr (.inl (x.u3,y2.1,y2.2.1,y2.u2,y2.u3,x.u7,y2.u4,x.u9,y2.u5,x.u11,y2.u6,x.u12,x.u13,x.u14,x.u15,y2.u7,y2.v8,x.u17,x.u18,x.u19,x.u20,x.u21,x.u22,x.v23))))) (Sum.elim (fun y3=>(.inr (.inr (.inr (.inl (x.u3,y3.1,y3.2.1,y3.u2,y3.u3,x.u7,y3.u4,x.u9,y3.u5,x.u11,y3.u6,x.u12,x.u13,x.u14,x.u15,y3.u7,y3.v8,x.u17,x.u18,x.u19,x.u20,x.u21,x.u22,x.v23)))))) (Sum.elim (fun y4=>(.inr (.inr (.inr (.inr (.inl (x.u3,y4.1,y4.2.1,y4.u2,y4.u3,y4.u4,x.u7,y4.u5,x.u9,y4.u6,x.u11,y4.u7,x.u12,x.u13,x.u14,x.u15,y4.u8,y4.u9,x.u17,x.u18,y4.v10,x.u19,x.u20,x.u21,x.u22,x.v23))))))) (Sum.elim (fun y5=>(.inr (.inr (.inr (.inr (.inr (.inl (x.u3,y5.1,y5.2.1,y5.u2,y5.u3,y5.u4,x.u7,y5.u5,x.u9,y5.u6,x.u11,y5.u7,x.u12,x.u13,x.u14,x.u15,y5.u8,y5.u9,x.u17,x.u18,y5.v10,x.u19,x.u20,x.u21,x.u22,x.v23)))))))) (Sum.elim (fun y6=>(.inr (.inr (.inr (.inr (.inr (.inr (.inl (x.u3,y6.1,y6.2.1,y6.u2,y6.u3,x.u7,y6.u4,x.u9,y6.u5,x.u11,y6.u6,x.u12,x.u13,x.u14,x.u15,y6.u7,y6.v8,x.u17,x.u18,x.u19,x.u20,x.u21,x.u22,x.v23))))))))) (Sum.elim (fun y7=>(.inr (.inr (.inr (.inr (.inr (.inr (.inr (.inl (x.u3,y7.1,y7.2.1,y7.u2,y7.u3,x.u7,y7.u4,x.u9,y7.u5,x.u11,y7.u6,x.u12,x.u13,x.u14,x.u15,y7.u7,y7.v8,x.u17,x.u18,x.u19,x.u20,x.u21,x.u22,x.v23)))))))))) (Sum.elim (fun y8=>(.inr (.inr (.inr (.inr (.inr (.inr (.inr (.inr (.inl (y8.1,x.u3,y8.2.1,y8.u2,y8.u3,y8.u4,x.u7,y8.u5,x.u9,y8.u6,x.u11,y8.u7,x.u12,x.u13,x.u14,x.u15,y8.u8,y8.u9,y8.v10,x.u17,x.u18,x.u19,x.u20,x.u21,x.u22,x.v23))))))))))) (Sum.elim (fun y9=>(.inr (.inr (.inr (.inr (.inr (.inr (.inr (.inr (.inr (.inl (y9.1,x.u3,y9.2.1,y9.u2,y9.u3,y9.u4,x.u7,y9.u5,x.u9,y9.u6,x.u11,y9.u7,x.u12,x.u13,x.u14,x.u15,y9.u8,y9.u9,y9.v10,x.u17,x.u18,x.u19,x.u20,x.u21,x.u22,x.v23)))))))))))) (Sum.elim (fun y10=>(.inr (.inr (.inr (.inr (.inr (.inr (.inr (.inr (.inr (.inr (.inl (x.u3,y10.1,y10.2.1,y10.u2,y10.u3,x.u7,y10.u4,x.u9,y10.u5,x.u11,y10.u6,x.u12,x.u13,x.u14,x.u15,y10.u7,y10.v8,x.u17,x.u18,x.u19,x.u20,x.u21,x.u22,x.v23))))))))))))) (Sum.elim (fun y11=>(.inr (.inr (.inr (.inr (.inr (.inr (.inr (.inr (.inr (.inr (.inr (.inl (x.u3,y11.1,y11.2.1,y11.u2,y11.u3,x.u7,y11.u4,x.u9,y11.u5,x.u11,y11.u6,x.u12,x.u13,x.u14,x.u15,y11.u7,y11.v8,x.u17,x.u18,x.u19,x.u20,x.u21,x.u22,x.v23)))))))))))))) (Sum.elim (fun y12=>(.inr (.inr (.inr (.inr (.inr (.inr (.inr (.inr (.inr (.inr (.inr (.inr (.inl (x.u3,y12.1,y12.2.1,y12.u2,x.u3,x.u7,y12.u3,x.u9,y12.u4,x.u11,y12.u5,y12.u6,y12.u7,x.u12,x.u13,x.u14,x.u15,y12.u8,y12.v9,x.u17,x.u18,x.u19,x.u20,x.u21,x.u22,x.v23))))))))))))))) (Sum.elim (fun y13=>(.inr (.inr (.inr (.inr (.inr (.inr (.inr (.inr (.inr (.inr (.inr (.inr (.inr (.inl (x.u3,y13.1,y13.2.1,y13.u2,x.u3,x.u7,y13.u3,x.u9,y13.u4,x.u11,y13.u5,y13.u6,y13.u7,x.u12,x.u13,x.u14,x.u15,y13.u8,y13.v9,x.u17,x.u18,x.u19,x.u20,x.u21,x.u22,x.v23)))))))))))))))) (Sum.elim (fun y14=>(.inr (.inr (.inr (.inr (.inr (.inr (.inr (.inr (.inr (.inr (.inr (.inr (.inr (.inr (.inl (x.u3,y14.1,y14.2.1,y14.u2,x.u3,x.u7,y14.u3,x.u9,y14.u4,x.u11,y14.u5,x.u12,x.u13,x.u14,x.u15,y14.u6,y14.v7,x.u17,x.u18,x.u19,x.u20,x.u21,x.u22,x.v23))))))))))))))))) (Sum.elim (fun y15=>(.inr (.inr (.inr (.inr (.inr (.inr (.inr (.inr (.inr (.inr (.inr (.inr (.inr (.inr (.inr (.inl (x.u3,y15.1,y15.2.1,y15.u2,x.u3,x.u7,y15.u3,x.u9,y15.u4,x.u11,y15.u5,x.u12,x.u13,x.u14,x.u15,y15.u6,y15.v7,x.u17,x.u18,x.u19,x.u20,x.u21,x.u22,x.v23)))))))))))))))))) (fun y16=>(.inr (.inr (.inr (.inr (.inr (.inr (.inr (.inr (.inr (.inr (.inr (.inr (.inr (.inr (.inr (.inr (x.u3,y16.1,y16.2.1,y16.u2,x.u7,x.u8,x.u9,y16.u3,x.u11,x.u12,x.u13,x.u14,x.u15,y16.v4,x.u17,x.u18,x.u19,x.u20,x.u21,x.u22,x.v23)))))))))))))))))))))))))))))))))
def q8i {R:Type} (x:tq8) (k:tq1->Option R):Option R:=(X1j x.1 x.u3 x.u7 x.u8 x.u9 x.u11 x.u12 x.u13 x.u14 x.u15 x.u17 x.u18 x.u19 x.u20 x.u21 x.u22 x.v23 (x.2.1,x.u2,x.u4,x.u5,x.u6,x.u10,x.u16)).bind (Sum.elim (fun y0=>k (.inl (x.u3,y0.1,y0.2.1,y0.u2,y0.u3,x.u7,y0.u4,x.u9,y0.u5,x.u11,y0.u6,y0.u7,x.u12,x.u13,x.u14,x.u15,y0.u8,y0.u9,x.u17,y0.v10,x.u18,x.u19,x.u20,x.u21,x.u22,x.v23))) (Sum.elim (fun y1=>k (.inr (.inl (x.u3,y1.1,y1.2.1,y1.u2,y1.u3,x.u7,y1.u4,x.u9,y1.u5,x.u11,y1.u6,y1.u7,x.u12,x.u13,x.u14,x.u15,y1.u8,y1.u9,x.u17,y1.v10,x.u18,x.u19,x.u20,x.u21,x.u22,x.v23)))) (Sum.elim (fun y2=>k (.inr (.inr (.inl (x.u3,y2.1,y2.2.1,y2.u2,y2.u3,x.u7,y2.u4,x.u9,y2.u5,x.u11,y2.u6,x.u12,x.u13,x.u14,x.u15,y2.u7,y2.v8,x.u17,x.u18,x.u19,x.u20,x.u21,x.u22,x.v23))))) (Sum.elim (fun y3=>k (.inr (.inr (.inr (.inl (x.u3,y3.1,y3.2.1,y3.u2,y3.u3,x.u7,y3.u4,x.u9,y3.u5,x.u11,y3.u6,x.u12,x.u13,x.u14,x.u15,y3.u7,y3.v8,x.u17,x.u18,x.u19,x.u20,x.u21,x.u22,x.v23)))))) (Sum.elim (fun y4=>k (.inr (.inr (.inr (.inr (.inl (x.u3,y4.1,y4.2.1,y4.u2,y4.u3,y4.u4,x.u7,y4.u5,x.u9,y4.u6,x.u11,y4.u7,x.u12,x.u13,x.u14,x.u15,y4.u8,y4.u9,x.u17,x.u18,y4.v10,x.u19,x.u20,x.u21,x.u22,x.v23))))))) (Sum.elim (fun y5=>k (.inr (.inr (.inr (.inr (.inr (.inl (x.u3,y5.1,y5.2.1,y5.u2,y5.u3,y5.u4,x.u7,y5.u5,x.u9,y5.u6,x.u11,y5.u7,x.u12,x.u13,x.u14,x.u15,y5.u8,y5.u9,x.u17,x.u18,y5.v10,x.u19,x.u20,x.u21,x.u22,x.v23)))))))) (Sum.elim (fun y6=>k (.inr (.inr (.inr (.inr (.inr (.inr (.inl (x.u3,y6.1,y6.2.1,y6.u2,y6.u3,x.u7,y6.u4,x.u9,y6.u5,x.u11,y6.u6,x.u12,x.u13,x.u14,x.u15,y6.u7,y6.v8,x.u17,x.u18,x.u19,x.u20,x.u21,x.u22,x.v23))))))))) (Sum.elim (fun y7=>k (.inr (.inr (.inr (.inr (.inr (.inr (.inr (.inl (x.u3,y7.1,y7.2.1,y7.u2,y7.u3,x.u7,y7.u4,x.u9,y7.u5,x.u11,y7.u6,x.u12,x.u13,x.u14,x.u15,y7.u7,y7.v8,x.u17,x.u18,x.u19,x.u20,x.u21,x.u22,x.v23)))))))))) (Sum.elim (fun y8=>k (.inr (.inr (.inr (.inr (.inr (.inr (.inr (.inr (.inl (y8.1,x.u3,y8.2.1,y8.u2,y8.u3,y8.u4,x.u7,y8.u5,x.u9,y8.u6,x.u11,y8.u7,x.u12,x.u13,x.u14,x.u15,y8.u8,y8.u9,y8.v10,x.u17,x.u18,x.u19,x.u20,x.u21,x.u22,x.v23))))))))))) (Sum.elim (fun y9=>k (.inr (.inr (.inr (.inr (.inr (.inr (.inr (.inr (.inr (.inl (y9.1,x.u3,y9.2.1,y9.u2,y9.u3,y9.u4,x.u7,y9.u5,x.u9,y9.u6,x.u11,y9.u7,x.u12,x.u13,x.u14,x.u15,y9.u8,y9.u9,y9.v10,x.u17,x.u18,x.u19,x.u20,x.u21,x.u22,x.v23)))))))))))) (Sum.elim (fun y10=>k (.inr (.inr (.inr (.inr (.inr (.inr (.inr (.inr (.inr (.inr (.inl (x.u3,y10.1,y10.2.1,y10.u2,y10.u3,x.u7,y10.u4,x.u9,y10.u5,x.u11,y10.u6,x.u12,x.u13,x.u14,x.u15,y10.u7,y10.v8,x.u17,x.u18,x.u19,x.u20,x.u21,x.u22,x.v23))))))))))))) (Sum.elim (fun y11=>k (.inr (.inr (.inr (.inr (.inr (.inr (.inr (.inr (.inr (.inr (.inr (.inl (x.u3,y11.1,y11.2.1,y11.u2,y11.u3,x.u7,y11.u4,x.u9,y11.u5,x.u11,y11.u6,x.u12,x.u13,x.u14,x.u15,y11.u7,y11.v8,x.u17,x.u18,x.u19,x.u20,x.u21,x.u22,x.v23)))))))))))))) (Sum.elim (fun y12=>k (.inr (.inr (.inr (.inr (.inr (.inr (.inr (.inr (.inr (.inr (.inr (.inr (.inl (x.u3,y12.1,y12.2.1,y12.u2,x.u3,x.u7,y12.u3,x.u9,y12.u4,x.u11,y12.u5,y12.u6,y12.u7,x.u12,x.u13,x.u14,x.u15,y12.u8,y12.v9,x.u17,x.u18,x.u19,x.u20,x.u21,x.u22,x.v23))))))))))))))) (Sum.elim (fun y13=>k (.inr (.inr (.inr (.inr (.inr (.inr (.inr (.inr (.inr (.inr (.inr (.inr (.inr (.inl (x.u3,y13.1,y13.2.1,y13.u2,x.u3,x.u7,y13.u3,x.u9,y13.u4,x.u11,y13.u5,y13.u6,y13.u7,x.u12,x.u13,x.u14,x.u15,y13.u8,y13.v9,x.u17,x.u18,x.u19,x.u20,x.u21,x.u22,x.v23)))))))))))))))) (Sum.elim (fun y14=>k (.inr (.inr (.inr (.inr (.inr (.inr (.inr (.inr (.inr (.inr (.inr (.inr (.inr (.inr (.inl (x.u3,y14.1,y14.2.1,y14.u2,x.u3,x.u7,y14.u3,x.u9,y14.u4,x.u11,y14.u5,x.u12,x.u13,x.u14,x.u15,y14.u6,y14.v7,x.u17,x.u18,x.u19,x.u20,x.u21,x.u22,x.v23))))))))))))))))) (Sum.elim (fun y15=>k (.inr (.inr (.inr (.inr (.inr (.inr (.inr (.inr (.inr (.inr (.inr (.inr (.inr (.inr (.inr (.inl (x.u3,y15.1,y15.2.1,y15.u2,x.u3,x.u7,y15.u3,x.u9,y15.u4,x.u11,y15.u5,x.u12,x.u13,x.u14,x.u15,y15.u6,y15.v7,x.u17,x.u18,x.u19,x.u20,x.u21,x.u22,x.v23)))))))))))))))))) (fun y16=>k (.inr (.inr (.inr (.inr (.inr (.inr (.inr (.inr (.inr (.inr (.inr (.inr (.inr (.inr (.inr (.inr (x.u3,y16.1,y16.2.1,y16.u2,x.u7,x.u8,x.u9,y16.u3,x.u11,x.u12,x.u13,x.u14,x.u15,y16.v4,x.u17,x.u18,x.u19,x.u20,x.u21,x.u22,x.v23))))))))))))))))))))))))))))))))))
def q8j (x:tq8) (v:(Int×Int×Z8×Z9×Bool×Z9×Z9)):tq8:=(x.1,v.1,v.2.1,x.u3,v.u2,v.u3,v.u4,x.u7,x.u8,x.u9,v.u5,x.u11,x.u12,x.u13,x.u14,x.u15,v.v6,x.u17,x.u18,x.u19,x.u20,x.u21,x.u22,x.v23)
theorem q8k (x:tq8):LE.step X q8g q7f q7N q4 12 x=W3 x.1 x.u3 x.u7 x.u8 x.u9 x.u11 x.u12 x.u13 x.u14 x.u15 x.u17 x.u18 x.u19 x.u20 x.u21 x.u22 x.v23 x.2.1 x.u2 x.u4 x.u5 x.u6 x.u10 x.u16 (fun w0 w1 w2 w3 w4 w5 w6=>(Sum.inl (x.1,w0,w1,x.u3,w2,w3,w4,x.u7,x.u8,x.u9,w5,x.u11,x.u12,x.u13,x.u14,x.u15,w6,x.u17,x.u18,x.u19,x.u20,x.u21,x.u22,x.v23))) (fun p0 p1 p2 p3 p4 p5 p6 p7 p8 p9 p10=>(Sum.inr (.inl (x.u3,p0,p1,p2,p3,x.u7,p4,x.u9,p5,x.u11,p6,p7,x.u12,x.u13,x.u14,x.u15,p8,p9,x.u17,p10,x.u18,x.u19,x.u20,x.u21,x.u22,x.v23)))) (fun p0 p1 p2 p3 p4 p5 p6 p7 p8 p9 p10=>(Sum.inr (.inr (.inl (x.u3,p0,p1,p2,p3,x.u7,p4,x.u9,p5,x.u11,p6,p7,x.u12,x.u13,x.u14,x.u15,p8,p9,x.u17,p10,x.u18,x.u19,x.u20,x.u21,x.u22,x.v23))))) (fun p0 p1 p2 p3 p4 p5 p6 p7 p8=>(Sum.inr (.inr (.inr (.inl (x.u3,p0,p1,p2,p3,x.u7,p4,x.u9,p5,x.u11,p6,x.u12,x.u13,x.u14,x.u15,p7,p8,x.u17,x.u18,x.u19,x.u20,x.u21,x.u22,x.v23)))))) (fun p0 p1 p2 p3 p4 p5 p6 p7 p8=>(Sum.inr (.inr (.inr (.inr (.inl (x.u3,p0,p1,p2,p3,x.u7,p4,x.u9,p5,x.u11,p6,x.u12,x.u13,x.u14,x.u15,p7,p8,x.u17,x.u18,x.u19,x.u20,x.u21,x.u22,x.v23))))))) (fun p0 p1 p2 p3 p4 p5 p6 p7 p8 p9 p10=>(Sum.inr (.inr (.inr (.inr (.inr (.inl (x.u3,p0,p1,p2,p3,p4,x.u7,p5,x.u9,p6,x.u11,p7,x.u12,x.u13,x.u14,x.u15,p8,p9,x.u17,x.u18,p10,x.u19,x.u20,x.u21,x.u22,x.v23)))))))) (fun p0 p1 p2 p3 p4 p5 p6 p7 p8 p9 p10=>(Sum.inr (.inr (.inr (.inr (.inr (.inr (.inl (x.u3,p0,p1,p2,p3,p4,x.u7,p5,x.u9,p6,x.u11,p7,x.u12,x.u13,x.u14,x.u15,p8,p9,x.u17,x.u18,p10,x.u19,x.u20,x.u21,x.u22,x.v23))))))))) (fun p0 p1 p2 p3 p4 p5 p6 p7 p8=>(Sum.inr (.inr (.inr (.inr (.inr (.inr (.inr (.inl (x.u3,p0,p1,p2,p3,x.u7,p4,x.u9,p5,x.u11,p6,x.u12,x.u13,x.u14,x.u15,p7,p8,x.u17,x.u18,x.u19,x.u20,x.u21,x.u22,x.v23)))))))))) (fun p0 p1 p2 p3 p4 p5 p6 p7 p8=>(Sum.inr (.inr (.inr (.inr (.inr (.inr (.inr (.inr (.inl (x.u3,p0,p1,p2,p3,x.u7,p4,x.u9,p5,x.u11,p6,x.u12,x.u13,x.u14,x.u15,p7,p8,x.u17,x.u18,x.u19,x.u20,x.u21,x.u22,x.v23))))))))))) (fun p0 p1 p2 p3 p4 p5 p6 p7 p8 p9 p10=>(Sum.inr (.inr (.inr (.inr (.inr (.inr (.inr (.inr (.inr (.inl (p0,x.u3,p1,p2,p3,p4,x.u7,p5,x.u9,p6,x.u11,p7,x.u12,x.u13,x.u14,x.u15,p8,p9,p10,x.u17,x.u18,x.u19,x.u20,x.u21,x.u22,x.v23)))))))))))) (fun p0 p1 p2 p3 p4 p5 p6 p7 p8 p9 p10=>(Sum.inr (.inr (.inr (.inr (.inr (.inr (.inr (.inr (.inr (.inr (.inl (p0,x.u3,p1,p2,p3,p4,x.u7,p5,x.u9,p6,x.u11,p7,x.u12,x.u13,x.u14,x.u15,p8,p9,p10,x.u17,x.u18,x.u19,x.u20,x.u21,x.u22,x.v23))))))))))))) (fun p0 p1 p2 p3 p4 p5 p6 p7 p8=>(Sum.inr (.inr (.inr (.inr (.inr (.inr (.inr (.inr (.inr (.inr (.inr (.inl (x.u3,p0,p1,p2,p3,x.u7,p4,x.u9,p5,x.u11,p6,x.u12,x.u13,x.u14,x.u15,p7,p8,x.u17,x.u18,x.u19,x.u20,x.u21,x.u22,x.v23)))))))))))))) (fun p0 p1 p2 p3 p4 p5 p6 p7 p8=>(Sum.inr (.inr (.inr (.inr (.inr (.inr (.inr (.inr (.inr (.inr (.inr (.inr (.inl (x.u3,p0,p1,p2,p3,x.u7,p4,x.u9,p5,x.u11,p6,x.u12,x.u13,x.u14,x.u15,p7,p8,x.u17,x.u18,x.u19,x.u20,x.u21,x.u22,x.v23))))))))))))))) (fun p0 p1 p2 p3 p4 p5 p6 p7 p8 p9=>(Sum.inr (.inr (.inr (.inr (.inr (.inr (.inr (.inr (.inr (.inr (.inr (.inr (.inr (.inl (x.u3,p0,p1,p2,x.u3,x.u7,p3,x.u9,p4,x.u11,p5,p6,p7,x.u12,x.u13,x.u14,x.u15,p8,p9,x.u17,x.u18,x.u19,x.u20,x.u21,x.u22,x.v23)))))))))))))))) (fun p0 p1 p2 p3 p4 p5 p6 p7 p8 p9=>(Sum.inr (.inr (.inr (.inr (.inr (.inr (.inr (.inr (.inr (.inr (.inr (.inr (.inr (.inr (.inl (x.u3,p0,p1,p2,x.u3,x.u7,p3,x.u9,p4,x.u11,p5,p6,p7,x.u12,x.u13,x.u14,x.u15,p8,p9,x.u17,x.u18,x.u19,x.u20,x.u21,x.u22,x.v23))))))))))))))))) (fun p0 p1 p2 p3 p4 p5 p6 p7=>(Sum.inr (.inr (.inr (.inr (.inr (.inr (.inr (.inr (.inr (.inr (.inr (.inr (.inr (.inr (.inr (.inl (x.u3,p0,p1,p2,x.u3,x.u7,p3,x.u9,p4,x.u11,p5,x.u12,x.u13,x.u14,x.u15,p6,p7,x.u17,x.u18,x.u19,x.u20,x.u21,x.u22,x.v23)))))))))))))))))) (fun p0 p1 p2 p3 p4 p5 p6 p7=>(Sum.inr (.inr (.inr (.inr (.inr (.inr (.inr (.inr (.inr (.inr (.inr (.inr (.inr (.inr (.inr (.inr (.inl (x.u3,p0,p1,p2,x.u3,x.u7,p3,x.u9,p4,x.u11,p5,x.u12,x.u13,x.u14,x.u15,p6,p7,x.u17,x.u18,x.u19,x.u20,x.u21,x.u22,x.v23))))))))))))))))))) (fun p0 p1 p2 p3 p4=>(Sum.inr (.inr (.inr (.inr (.inr (.inr (.inr (.inr (.inr (.inr (.inr (.inr (.inr (.inr (.inr (.inr (.inr (x.u3,p0,p1,p2,x.u7,x.u8,x.u9,p3,x.u11,x.u12,x.u13,x.u14,x.u15,p4,x.u17,x.u18,x.u19,x.u20,x.u21,x.u22,x.v23))))))))))))))))))):=by kernel_rfl
theorem q8m {R:Type} (x:tq8) (k:tq1->Option R) (r:R) (h:q8i x k=some r):∃o,Z66 (LE.step X q8g q7f q7N q4 12) x o/\k o=some r:=by
 obtain⟨o,h1,h2⟩:=Z0 h;exact⟨q8h x o,Zk6 (st:=fun(x:tq8)=>Wm x.1 x.u3 x.u7 x.u8 x.u9 x.u11 x.u12 x.u13 x.u14 x.u15 x.u17 x.u18 x.u19 x.u20 x.u21 x.u22 x.v23) (prj:=fun x=>(x.2.1,x.u2,x.u4,x.u5,x.u6,x.u10,x.u16)) (emb:=q8j) (embO:=q8h) (fun x=>(q8k x).trans (by unfold Wm W3 X1;simp only[ZjX,ZjO,ZjY,Option.map_some,Option.map_none];rfl)) (fun _ _=>rfl) (fun _ _=>rfl) (fun _ _ _=>rfl) (fun _ _ _=>rfl) (fun _=>rfl) (Z25.1 h1),by first|exact h2|(rcases o with o|o|o|o|o|o|o|o|o|o|o|o|o|o|o|o|o<;>exact h2)⟩
def q8n {R:Type}:Z2G S R:=LE.ls X q8g q8i q4
theorem q8o {R:Type}:Z4b X (q8n (R:=R)):=Zka xok q7g (e:=q8g) q7O q5 q8m q5
theorem q8p (x:((Nat->ZZ)×Int×Z9×Bool×Z9×Z9)):PE.step X q7S q7f q7N q8n 12 x=XT x.1 x.2.1 x.u2 x.u3 x.u4 x.v5:=by kernel_rfl
theorem q8q:ZcA X q7S XO:=Zkb (ZjB xok q7g q7O q8o 12) fun x _ h=>((q8p x).trans (X1B x).symm).trans h
def q8r {R:Type}:Prs S R:=PE.ps X q7S (fun x q=>(XO x).bind q) q7N
theorem q8s {R:Type}:Z8Z X (q8r (R:=R)):=Zk3 (e:=q7S) q8q q7O
def q8t:StT S:=⟨(N (N L (some (.ptr 1 0)) L) (some (.yld 3)) L),(N (N (N L o8 L) on L) ou (N L on L)),4⟩
def q8u:Way S:=⟨.ret,⟨(N L (some (.tup [])) L),(N (N (N L o8 L) on L) ou (N L on L)),4⟩,[(.st 22),(.st 22),.bool,(.st 22)]⟩
def q8v:Way S:=⟨.ret,⟨(N L (some (.tup [])) L),(N (N (N L (some (.loop 30 (N (N L (some (.ptr 2 0)) L) (some (.agg [(.stc 22 (T.dflt 22))])) (N (N L (some (.fn (.func 56) [] [(.ptr 1 0)])) L) (some (.ptr 0 0)) L)) (5::[]) .skip .skip 0 .ret (0::(30::[])) (0::(1::(0::(1::[])))))) L) on L) ou (N L on L)),4⟩,[(.st 22),(.st 22),.bool,(.st 22)]⟩
def q8w:PE S:=⟨56,2,q8t,[(.st 22),(.st 22),.bool,(.st 22)],[q8u,q8v]⟩
def q8B:Key:=⟨[56],56,none,[0,0,1,0,1,1],0,11⟩
def q8C:StT S:=⟨(N (N (N L (some (.ptr 5 0)) (N L vH L)) (some (.ptr 1 0)) (N (N L vD L) none L)) none (N L (some (.ptr 4 0)) (N (N L vH L) none L))),o1L,11⟩
def q8D:Way S:=⟨(.exit 0),⟨(N (N (N L (some (.ptr 5 0)) L) (some (.ptr 1 0)) L) none (N L (some (.ptr 4 0)) L)),o1L,12⟩,[(.st 22),(.st 22),(.arr (.st 5)),.bool,(.st 22)]⟩
def q8E:LE S:=⟨q8B,q8C,[.int,(.lst (.st 19)),.int,(.st 22),(.st 22),(.arr (.st 5)),.bool,(.st 22)],[q8D]⟩
def q8F (x:tqu):(Nat->ZZ)->tqA:=fun y0=>(x.u3,x.u4,y0,x.u6,x.v7)
def q8G {R:Type} (x:tqu) (k:tqA->Option R):Option R:=(XS x.2.1 x.u2 x.u3 x.u4 x.u6 x.v7 (x.1,x.u5)).bind (fun y0=>k (x.u3,x.u4,y0,x.u6,x.v7))
def q8H (x:tqu) (v:(Int×(Nat->ZZ))):tqu:=(v.1,x.2.1,x.u2,x.u3,x.u4,v.2,x.u6,x.v7)
theorem q8I (x:tqu):LE.step X q8E q7f q50 q4 12 x=X6 x.2.1 x.u2 x.u3 x.u4 x.u6 x.v7 x.1 x.u5 (fun w0 w1=>(Sum.inl (w0,x.2.1,x.u2,x.u3,x.u4,w1,x.u6,x.v7))) (fun p0=>(Sum.inr (x.u3,x.u4,p0,x.u6,x.v7))):=by kernel_rfl
theorem q8K {R:Type} (x:tqu) (k:tqA->Option R) (r:R) (h:q8G x k=some r):∃o,Z66 (LE.step X q8E q7f q50 q4 12) x o/\k o=some r:=by
 obtain⟨o,h1,h2⟩:=Z0 h;exact⟨q8F x o,Zk6 (st:=fun(x:tqu)=>Xg x.2.1 x.u2 x.u3 x.u4 x.u6 x.v7) (prj:=fun x=>(x.1,x.u5)) (emb:=q8H) (embO:=q8F) (fun x=>(q8I x).trans (by unfold Xg X6;simp only[ZjX,ZjO,ZjY,Option.map_some,Option.map_none];rfl)) (fun _ _=>rfl) (fun _ _=>rfl) (fun _ _ _=>rfl) (fun _ _ _=>rfl) (fun _=>rfl) (Z25.1 h1),by first|exact h2|(rcases o with o<;>exact h2)⟩
def q8L {R:Type}:Z2G S R:=LE.ls X q8E q8G q4
theorem q8M {R:Type}:Z4b X (q8L (R:=R)):=Zka xok q7g (e:=q8E) q51 q5 q8K q5
theorem q8N (x:(Z9×Z9×Bool×Z9)):PE.step X q8w q7f q8r q8L 12 x=XD x.1 x.2.1 x.u2 x.v3:=by kernel_rfl
theorem q8O:ZcA X q8w WA:=Zkb (ZjB xok q7g q8s q8M 12) fun x _ h=>((q8N x).trans (X1Z x).symm).trans h
def q8P {R:Type}:Prs S R:=PE.ps X q8w (fun x q=>(WA x).bind q) q8r
theorem q8Q {R:Type}:Z8Z X (q8P (R:=R)):=Zk3 (e:=q8w) q8O q8s
theorem q8S:ZaC X (q7f):=⟨q7a,trivial⟩
theorem q8V (x0:Z9):Zkc X q7f [(.st 22)] [.bool] q8P q4 12 30 (x0,())=Wd x0:=by kernel_rfl
def q8W:F7 S:=⟨[(.st 22)],[.bool],fun xs=>WZ xs.1⟩
theorem q8X:Zaq X 30 q8W:=Zk9 (Zk8 xok q8S q8Q q5 12 30) fun xs _ h=>((q8V xs.1).trans (X2H xs.1).symm).trans h
def q8Y:List (Nat×F7 S):=[(29,q5y),(30,q8W)]
theorem q8Z:ZaC X (q8Y):=⟨q5z,q8X,trivial⟩
theorem q92 (x0:CoRecord) (x1:List Zt):Zkc X q8Y [(.st 20),(.sl (.st 21))] [.bool,(.int .i64)] q8P q4 12 8 (x0,x1,())=X1T x0 x1:=by kernel_rfl
def q93:F7 S:=⟨[(.st 20),(.sl (.st 21))],[.bool,(.int .i64)],fun xs=>X3n xs.1 xs.2.1⟩
theorem q94:Zaq X 8 q93:=Zk9 (Zk8 xok q8Z q8Q q5 12 8) fun xs _ h=>((q92 xs.1 xs.2.1).trans (X3L xs.1 xs.2.1).symm).trans h
def q99:Key:=⟨[35],35,none,[0,0,1,0,1,1],0,4⟩
def q9a:StT S:=⟨(N (N (N L (some (.ptr 2 0)) L) (some (.ptr 0 0)) L) none v1T),o1t,6⟩
def q9b:Way S:=⟨(.exit 0),⟨(N (N (N L (some (.ptr 2 0)) L) none L) none (N L (some (.ptr 1 0)) L)),o1t,11⟩,[(.lst (.int .i64)),(.st 20),(.lst (.int .i64))]⟩
def q9c:LE S:=⟨q99,q9a,[.int,(.lst (.int .i64)),(.st 20),(.lst (.int .i64))],[q9b]⟩
def q9d (x:tqP):((List Int)×(List Int))->((List Int)×CoRecord×(List Int)):=fun y0=>(y0.1,x.u2,y0.2)
def q9e {R:Type} (x:tqP) (k:((List Int)×CoRecord×(List Int))->Option R):Option R:=(X2y x.u2 (x.1,x.2.1,x.v3)).bind (fun y0=>k (y0.1,x.u2,y0.2))
def q9f (x:tqP) (v:(Int×(List Int)×(List Int))):tqP:=(v.1,v.2.1,x.u2,v.v2)
theorem q9g (x:tqP):LE.step X q9c q2 q8P q4 12 x=X18 x.u2 x.1 x.2.1 x.v3 (fun w0 w1 w2=>(Sum.inl (w0,w1,x.u2,w2))) (fun p0 p1=>(Sum.inr (p0,x.u2,p1))):=by kernel_rfl
theorem q9i {R:Type} (x:tqP) (k:((List Int)×CoRecord×(List Int))->Option R) (r:R) (h:q9e x k=some r):∃o,Z66 (LE.step X q9c q2 q8P q4 12) x o/\k o=some r:=by
 obtain⟨o,h1,h2⟩:=Z0 h;exact⟨q9d x o,Zk6 (st:=fun(x:tqP)=>WT x.u2) (prj:=fun x=>(x.1,x.2.1,x.v3)) (emb:=q9f) (embO:=q9d) (fun x=>(q9g x).trans (by unfold WT X18;simp only[ZjX,ZjO,ZjY,Option.map_some,Option.map_none];rfl)) (fun _ _=>rfl) (fun _ _=>rfl) (fun _ _ _=>rfl) (fun _ _ _=>rfl) (fun _=>rfl) (Z25.1 h1),by first|exact h2|(rcases o with o<;>exact h2)⟩
def q9j {R:Type}:Z2G S R:=LE.ls X q9c q9e q4
theorem q9k {R:Type}:Z4b X (q9j (R:=R)):=Zka xok q3 (e:=q9c) q8Q q5 q9i q5
theorem q9l (x0:CoRecord):Zkc X q2 [(.st 20)] [(.st 24)] q8P q9j 12 35 (x0,())=X26 x0:=by kernel_rfl
def q9m:F7 S:=⟨[(.st 20)],[(.st 24)],fun xs=>X2Z xs.1⟩
theorem q9n:Zaq X 35 q9m:=Zk9 (Zk8 xok q3 q8Q q9k 12 35) fun xs _ h=>((q9l xs.1).trans (X45 xs.1).symm).trans h
def q9s:Key:=⟨[61],61,none,[0,0,1,0,1,0,1,0,0,1,0,1,1],2,21⟩
def q9t:StT S:=⟨(N (N L (some (.ptr 0 0)) (N L vH L)) none (N (N L vI L) (some (.ptr 1 0)) L)),o1l,23⟩
def q9u:Way S:=⟨(.exit 2),⟨v1E,o1l,29⟩,[.bool,(.lst (.int .i64)),(.lst (.st 23)),(.lst (.int .i64))]⟩
def q9v:LE S:=⟨q9s,q9t,[.int,.bool,(.lst (.int .i64)),(.lst (.st 23)),(.lst (.int .i64))],[q9u]⟩
def q9w (x:tqD):X71->tqH:=fun y0=>(y0.1,y0.2.1,x.u3,y0.v2)
def q9x {R:Type} (x:tqD) (k:tqH->Option R):Option R:=(X2p (x.1,x.2.1,x.u2,x.v4)).bind (fun y0=>k (y0.1,y0.2.1,x.u3,y0.v2))
def q9y (x:tqD) (v:(Int×Bool×(List Int)×(List Int))):tqD:=(v.1,v.2.1,v.u2,x.u3,v.v3)
theorem q9z (x:tqD):LE.step X q9v q2 q8P q4 12 x=WL x.1 x.2.1 x.u2 x.v4 (fun w0 w1 w2 w3=>(Sum.inl (w0,w1,w2,x.u3,w3))) (fun p0 p1 p2=>(Sum.inr (p0,p1,x.u3,p2))):=by kernel_rfl
theorem q9B {R:Type} (x:tqD) (k:tqH->Option R) (r:R) (h:q9x x k=some r):∃o,Z66 (LE.step X q9v q2 q8P q4 12) x o/\k o=some r:=by
 obtain⟨o,h1,h2⟩:=Z0 h;exact⟨q9w x o,Zk6 (st:=fun(x:tqD)=>WF) (prj:=fun x=>(x.1,x.2.1,x.u2,x.v4)) (emb:=q9y) (embO:=q9w) (fun x=>(q9z x).trans (by unfold WF WL;simp only[ZjX,ZjO,ZjY,Option.map_some,Option.map_none];rfl)) (fun _ _=>rfl) (fun _ _=>rfl) (fun _ _ _=>rfl) (fun _ _ _=>rfl) (fun _=>rfl) (Z25.1 h1),by first|exact h2|(rcases o with o<;>exact h2)⟩
def q9C {R:Type}:Z2G S R:=LE.ls X q9v q9x q4
theorem q9D {R:Type}:Z4b X (q9C (R:=R)):=Zka xok q3 (e:=q9v) q8Q q5 q9B q5
def q9E:Key:=⟨[61],61,none,[0,0,1,0,1,1,0,1,0,0,1,0,1,1],4,30⟩
def q9F:StT S:=⟨(N (N L (some (.ptr 0 0)) L) none (N (N L vI L) (some (.ptr 1 0)) (N L vH L))),o1i,32⟩
def q9G:Way S:=⟨(.exit 4),⟨v1E,o1i,37⟩,[.bool,(.lst (.int .i64)),(.lst (.st 23)),(.lst (.int .i64))]⟩
def q9H:LE S:=⟨q9E,q9F,[.bool,.int,(.lst (.int .i64)),(.lst (.st 23)),(.lst (.int .i64))],[q9G]⟩
def q9I (x:tqE):X71->tqH:=fun y0=>(y0.1,y0.2.1,x.u3,y0.v2)
def q9J {R:Type} (x:tqE) (k:tqH->Option R):Option R:=(X2q x.u3 (x.1,x.2.1,x.u2,x.v4)).bind (fun y0=>k (y0.1,y0.2.1,x.u3,y0.v2))
def q9K (x:tqE) (v:(Bool×Int×(List Int)×(List Int))):tqE:=(v.1,v.2.1,v.u2,x.u3,v.v3)
theorem q9L (x:tqE):LE.step X q9H q2 q8P q9C 12 x=WM x.u3 x.1 x.2.1 x.u2 x.v4 (fun w0 w1 w2 w3=>(Sum.inl (w0,w1,w2,x.u3,w3))) (fun p0 p1 p2=>(Sum.inr (p0,p1,x.u3,p2))):=by kernel_rfl
theorem q9N {R:Type} (x:tqE) (k:tqH->Option R) (r:R) (h:q9J x k=some r):∃o,Z66 (LE.step X q9H q2 q8P q9C 12) x o/\k o=some r:=by
 obtain⟨o,h1,h2⟩:=Z0 h;exact⟨q9I x o,Zk6 (st:=fun(x:tqE)=>WG x.u3) (prj:=fun x=>(x.1,x.2.1,x.u2,x.v4)) (emb:=q9K) (embO:=q9I) (fun x=>(q9L x).trans (by unfold WG WM;simp only[ZjX,ZjO,ZjY,Option.map_some,Option.map_none];rfl)) (fun _ _=>rfl) (fun _ _=>rfl) (fun _ _ _=>rfl) (fun _ _ _=>rfl) (fun _=>rfl) (Z25.1 h1),by first|exact h2|(rcases o with o<;>exact h2)⟩
def q9O {R:Type}:Z2G S R:=LE.ls X q9H q9J q9C
theorem q9P {R:Type}:Z4b X (q9O (R:=R)):=Zka xok q3 (e:=q9H) q8Q q9D q9N q9D
def q9Q:Key:=⟨[61],61,none,[0,0,1,1,1,1,0,1,0,0,1,0,1,1],6,38⟩
def q9R:StT S:=⟨(N (N L (some (.ptr 0 0)) L) none (N (N (N L vH L) vI L) (some (.ptr 1 0)) L)),o1q,40⟩
def q9S:Way S:=⟨.ret,⟨v1I,o1r,59⟩,[.bool,(.lst (.int .i64)),(.lst (.st 23)),(.lst (.st 23)),(.lst (.int .i64))]⟩
def q9T:Way S:=⟨(.exit 6),⟨v1E,o1q,45⟩,[.bool,(.lst (.int .i64)),(.lst (.st 23)),(.lst (.int .i64))]⟩
def q9U:LE S:=⟨q9Q,q9R,[.int,.bool,(.lst (.int .i64)),(.lst (.st 23)),(.lst (.int .i64))],[q9S,q9T]⟩
def q9V (x:tqD):(Bool⊕Unit)->tqg:=Sum.elim (fun y0=>(.inl (y0,x.u2,x.u3,x.u3,x.v4))) (fun y1=>(.inr (x.2.1,x.u2,x.u3,x.v4)))
def q9W {R:Type} (x:tqD) (k:tqg->Option R):Option R:=(X2r x.u2 x.v4 x.1).bind (Sum.elim (fun y0=>k (.inl (y0,x.u2,x.u3,x.u3,x.v4))) (fun y1=>k (.inr (x.2.1,x.u2,x.u3,x.v4))))
def q9X (x:tqD) (v:Int):tqD:=(v,x.2.1,x.u2,x.u3,x.v4)
theorem q9Y (x:tqD):LE.step X q9U q2 q8P q9O 12 x=WN x.u2 x.v4 x.1 (fun w0=>(Sum.inl (w0,x.2.1,x.u2,x.u3,x.v4))) (fun p0=>(Sum.inr (.inl (p0,x.u2,x.u3,x.u3,x.v4)))) (Sum.inr (.inr (x.2.1,x.u2,x.u3,x.v4))):=by kernel_rfl
theorem qa0 {R:Type} (x:tqD) (k:tqg->Option R) (r:R) (h:q9W x k=some r):∃o,Z66 (LE.step X q9U q2 q8P q9O 12) x o/\k o=some r:=by
 obtain⟨o,h1,h2⟩:=Z0 h;exact⟨q9V x o,Zk6 (st:=fun(x:tqD)=>WH x.u2 x.v4) (prj:=fun x=>x.1) (emb:=q9X) (embO:=q9V) (fun x=>(q9Y x).trans (by unfold WH WN;simp only[ZjX,ZjO,ZjY,Option.map_some,Option.map_none];rfl)) (fun _ _=>rfl) (fun _ _=>rfl) (fun _ _ _=>rfl) (fun _ _ _=>rfl) (fun _=>rfl) (Z25.1 h1),by first|exact h2|(rcases o with o|o<;>exact h2)⟩
def qa1 {R:Type}:Z2G S R:=LE.ls X q9U q9W q9O
theorem qa2 {R:Type}:Z4b X (qa1 (R:=R)):=Zka xok q3 (e:=q9U) q8Q q9P qa0 q9P
def qa3:Key:=⟨[61],61,none,[0,0,1,0,1,1],0,16⟩
def qa4:StT S:=⟨v1E,o1m,18⟩
def qa6:Way S:=⟨(.exit 0),⟨(N (N L (some (.ptr 0 0)) L) none (N L (some (.ptr 1 0)) L)),o1m,19⟩,[(.lst (.int .i64)),(.lst (.st 23)),(.lst (.int .i64))]⟩
def qa7:LE S:=⟨qa3,qa4,[.bool,(.lst (.int .i64)),(.lst (.st 23)),(.lst (.int .i64))],[q9S,qa6]⟩
def qa8 (x:tqH):(X71⊕((List Int)×(List Int)))->tqi:=Sum.elim (fun y0=>(.inl (y0.1,y0.2.1,x.u2,x.u2,y0.v2))) (fun y1=>(.inr (y1.1,x.u2,y1.2)))
def qa9 {R:Type} (x:tqH) (k:tqi->Option R):Option R:=(X2o x.u2 (x.1,x.2.1,x.v3)).bind (Sum.elim (fun y0=>k (.inl (y0.1,y0.2.1,x.u2,x.u2,y0.v2))) (fun y1=>k (.inr (y1.1,x.u2,y1.2))))
def qaa (x:tqH) (v:X71):tqH:=(v.1,v.2.1,x.u2,v.v2)
theorem qab (x:tqH):LE.step X qa7 q2 q8P qa1 12 x=WK x.u2 x.1 x.2.1 x.v3 (fun w0 w1 w2=>(Sum.inl (w0,w1,x.u2,w2))) (fun p0 p1 p2=>(Sum.inr (.inl (p0,p1,x.u2,x.u2,p2)))) (fun p0 p1=>(Sum.inr (.inr (p0,x.u2,p1)))):=by kernel_rfl
theorem qad {R:Type} (x:tqH) (k:tqi->Option R) (r:R) (h:qa9 x k=some r):∃o,Z66 (LE.step X qa7 q2 q8P qa1 12) x o/\k o=some r:=by
 obtain⟨o,h1,h2⟩:=Z0 h;exact⟨qa8 x o,Zk6 (st:=fun(x:tqH)=>Wc x.u2) (prj:=fun x=>(x.1,x.2.1,x.v3)) (emb:=qaa) (embO:=qa8) (fun x=>(qab x).trans (by unfold Wc WK;simp only[ZjX,ZjO,ZjY,Option.map_some,Option.map_none];rfl)) (fun _ _=>rfl) (fun _ _=>rfl) (fun _ _ _=>rfl) (fun _ _ _=>rfl) (fun _=>rfl) (Z25.1 h1),by first|exact h2|(rcases o with o|o<;>exact h2)⟩
def qae {R:Type}:Z2G S R:=LE.ls X qa7 qa9 qa1
theorem qaf {R:Type}:Z4b X (qae (R:=R)):=Zka xok q3 (e:=qa7) q8Q qa2 qad qa2
theorem qag (x0:Z7):Zkc X q2 [(.st 24)] [(.st 24),.bool] q8P qae 12 61 (x0,())=X1G x0:=by kernel_rfl
def qah:F7 S:=⟨[(.st 24)],[(.st 24),.bool],fun xs=>X37 xs.1⟩
theorem qai:Zaq X 61 qah:=Zk9 (Zk8 xok q3 q8Q qaf 12 61) fun xs _ h=>((qag xs.1).trans (X3E xs.1).symm).trans h
def qan:Key:=⟨[62],62,none,[0,0,1,0,1,1,1],0,12⟩
def qao:StT S:=⟨(N (N (N (N L (some (.rs 12 0)) L) (some (.ptr 0 0)) L) vH (N (N L vH L) none L)) none (N (N (N L vH L) none L) vH (N (N L vH L) none L))),o1D,13⟩
def qap:Way S:=⟨(.exit 0),⟨(N (N (N (N L (some (.rs 12 0)) L) none L) none L) none L),o1D,18⟩,[(.st 20),(.lst (.st 23))]⟩
def qaq:LE S:=⟨qan,qao,[.int,.int,.int,.int,.int,(.st 20),(.lst (.st 23))],[qap]⟩
def qar (x:tqC):(List Z6)->(CoRecord×(List Z6)):=fun y0=>(x.u5,y0)
def qas {R:Type} (x:tqC) (k:(CoRecord×(List Z6))->Option R):Option R:=(X1S x.1 x.u3 x.u5 (x.2.1,x.u2,x.u4,x.v6)).bind (fun y0=>k (x.u5,y0))
def qat (x:tqC) (v:(Int×Int×Int×(List Z6))):tqC:=(x.1,v.1,v.2.1,x.u3,v.u2,x.u5,v.v3)
theorem qau (x:tqC):LE.step X qaq q2 q8P q4 12 x=Wf x.1 x.u3 x.u5 x.2.1 x.u2 x.u4 x.v6 (fun w0 w1 w2 w3=>(Sum.inl (x.1,w0,w1,x.u3,w2,x.u5,w3))) (fun p0=>(Sum.inr (x.u5,p0))):=by kernel_rfl
theorem qaw {R:Type} (x:tqC) (k:(CoRecord×(List Z6))->Option R) (r:R) (h:qas x k=some r):∃o,Z66 (LE.step X qaq q2 q8P q4 12) x o/\k o=some r:=by
 obtain⟨o,h1,h2⟩:=Z0 h;exact⟨qar x o,Zk6 (st:=fun(x:tqC)=>W1 x.1 x.u3 x.u5) (prj:=fun x=>(x.2.1,x.u2,x.u4,x.v6)) (emb:=qat) (embO:=qar) (fun x=>(qau x).trans (by unfold W1 Wf;simp only[ZjX,ZjO,ZjY,Option.map_some,Option.map_none];rfl)) (fun _ _=>rfl) (fun _ _=>rfl) (fun _ _ _=>rfl) (fun _ _ _=>rfl) (fun _=>rfl) (Z25.1 h1),by first|exact h2|(rcases o with o<;>exact h2)⟩
def qax {R:Type}:Z2G S R:=LE.ls X qaq qas q4
theorem qay {R:Type}:Z4b X (qax (R:=R)):=Zka xok q3 (e:=qaq) q8Q q5 qaw q5
theorem qaz (x0:CoRecord) (x1 x2:Int):Zkc X q2 [(.st 20),(.int .i64),(.int .i64)] [(.sl (.st 23))] q8P qax 12 62 (x0,x1,x2,())=X19 x0 x1 x2:=by kernel_rfl
def qaA:F7 S:=⟨[(.st 20),(.int .i64),(.int .i64)],[(.sl (.st 23))],fun xs=>X27 xs.1 xs.2.1 xs.u2⟩
theorem qaB:Zaq X 62 qaA:=Zk9 (Zk8 xok q3 q8Q qay 12 62) fun xs _ h=>((qaz xs.1 xs.2.1 xs.u2).trans (X3k xs.1 xs.2.1 xs.u2).symm).trans h
theorem qaG (x0:Z7) (x1:Z6) (x2:ZZ):Zkc X q2 [(.st 24),(.st 23),(.st 5)] [(.st 24)] q8P q4 12 63 (x0,x1,x2,())=X2t x0 x1 x2:=by kernel_rfl
def qaH:F7 S:=⟨[(.st 24),(.st 23),(.st 5)],[(.st 24)],fun xs=>X4h xs.1 xs.2.1 xs.u2⟩
theorem qaI:Zaq X 63 qaH:=Zk9 (Zk8 xok q3 q8Q q5 12 63) fun xs _ h=>((qaG xs.1 xs.2.1 xs.u2).trans (X4D xs.1 xs.2.1 xs.u2).symm).trans h
def qaJ (ih:tqM->Option (List Z7)):List (Nat×F7 S):=[(61,qah),(62,qaA),(63,qaH),(34,⟨[(.st 20),(.sl (.st 21)),(.st 24)],[(.sl (.st 24))],ih⟩)]
theorem qaK (ih:tqM->Option (List Z7)) (hih:Zaq X 34 ⟨[(.st 20),(.sl (.st 21)),(.st 24)],[(.sl (.st 24))],ih⟩):ZaC X (qaJ ih):=⟨qai,qaB,qaI,hih,trivial⟩
abbrev qaL (ih:tqM->Option (List Z7)) {R:Type}:Z2G S R:=ZiW
theorem qaM (ih:tqM->Option (List Z7)) (hih:Zaq X 34 ⟨[(.st 20),(.sl (.st 21)),(.st 24)],[(.sl (.st 24))],ih⟩) {R:Type}:Z4b X (qaL ih (R:=R)):=Zjx X
def qaN:Key:=⟨[34],34,none,[0,0,1,0,1,1,1,1,1,1],0,28⟩
def qaO:StT S:=⟨(N (N (N L (some (.ptr 0 0)) L) vE (N (N L (some (.sl (.st 23) [])) L) (some (.ptr 1 0)) L)) none (N (N (N L (some (.rs 28 0)) L) none L) none (N (N L vH L) none L))),o1o,29⟩
def qaP:Way S:=⟨(.exit 0),⟨(N L none (N (N (N L (some (.rs 28 0)) L) none L) none L)),o1o,33⟩,[(.st 24),(.st 20),(.lst (.st 24))]⟩
def qaQ:LE S:=⟨qaN,qaO,[(.lst (.st 21)),(.lst (.st 23)),.int,(.st 24),(.st 20),(.lst (.st 24))],[qaP]⟩
def qaR (x:tqr):(List Z7)->tqK:=fun y0=>(x.u3,x.u4,y0)
def qaS (ih:tqM->Option (List Z7)) {R:Type} (x:tqr) (k:tqK->Option R):Option R:=(X2j ih x.1 x.2.1 x.u3 x.u4 (x.u2,x.v5)).bind (fun y0=>k (x.u3,x.u4,y0))
def qaT (x:tqr) (v:(Int×(List Z7))):tqr:=(x.1,x.2.1,v.1,x.u3,x.u4,v.2)
theorem qaU (ih:tqM->Option (List Z7)) (x:tqr):LE.step X qaQ (qaJ ih) q8P (qaL ih) 12 x=WS ih x.1 x.2.1 x.u3 x.u4 x.u2 x.v5 (fun w0 w1=>(Sum.inl (x.1,x.2.1,w0,x.u3,x.u4,w1))) (fun p0=>(Sum.inr (x.u3,x.u4,p0))):=by kernel_rfl
theorem qaW (ih:tqM->Option (List Z7)) {R:Type} (x:tqr) (k:tqK->Option R) (r:R) (h:qaS ih x k=some r):∃o,Z66 (LE.step X qaQ (qaJ ih) q8P (qaL ih) 12) x o/\k o=some r:=by
 obtain⟨o,h1,h2⟩:=Z0 h;exact⟨qaR x o,Zk6 (st:=fun(x:tqr)=>WX ih x.1 x.2.1 x.u3 x.u4) (prj:=fun x=>(x.u2,x.v5)) (emb:=qaT) (embO:=qaR) (fun x=>(qaU ih x).trans (by unfold WX WS;simp only[ZjX,ZjO,ZjY,Option.map_some,Option.map_none];rfl)) (fun _ _=>rfl) (fun _ _=>rfl) (fun _ _ _=>rfl) (fun _ _ _=>rfl) (fun _=>rfl) (Z25.1 h1),by first|exact h2|(rcases o with o<;>exact h2)⟩
def qaX (ih:tqM->Option (List Z7)) {R:Type}:Z2G S R:=LE.ls X qaQ (qaS ih) (qaL ih)
theorem qaY (ih:tqM->Option (List Z7)) (hih:Zaq X 34 ⟨[(.st 20),(.sl (.st 21)),(.st 24)],[(.sl (.st 24))],ih⟩) {R:Type}:Z4b X (qaX ih (R:=R)):=Zka xok (qaK ih hih) (e:=qaQ) q8Q (qaM ih hih) (qaW ih) (qaM ih hih)
theorem qaZ (ih:tqM->Option (List Z7)) (x0:CoRecord) (x1:List Zt) (x2:Z7):Zkc X (qaJ ih) [(.st 20),(.sl (.st 21)),(.st 24)] [(.sl (.st 24))] q8P (qaX ih) 12 34 (x0,x1,x2,())=X1v ih x0 x1 x2:=by kernel_rfl
def qb0:F7 S:=⟨[(.st 20),(.sl (.st 21)),(.st 24)],[(.sl (.st 24))],fun xs=>X4g xs.1 xs.2.1 xs.u2⟩
theorem qb1:Zaq X 34 qb0:=ZkO (X:=X) (g:=34) (pts:=[(.st 20),(.sl (.st 21)),(.st 24)]) (rts:=[(.sl (.st 24))]) (t:=Wt) fun ih hih=>Zk9 (Zk8 xok (qaK ih hih) q8Q (qaY ih hih) 12 34) fun xs _ h=>(qaZ ih xs.1 xs.2.1 xs.u2).trans h
def qb2:List (Nat×F7 S):=[(35,q9m),(34,qb0)]
theorem qb3:ZaC X (qb2):=⟨q9n,qb1,trivial⟩
theorem qb6 (x0:CoRecord) (x1:List Zt):Zkc X qb2 [(.st 20),(.sl (.st 21))] [.bool] q8P q4 12 31 (x0,x1,())=X2f x0 x1:=by kernel_rfl
def qb7:F7 S:=⟨[(.st 20),(.sl (.st 21))],[.bool],fun xs=>X3h xs.1 xs.2.1⟩
theorem qb8:Zaq X 31 qb7:=Zk9 (Zk8 xok qb3 q8Q q5 12 31) fun xs _ h=>((qb6 xs.1 xs.2.1).trans (X4o xs.1 xs.2.1).symm).trans h
def qb9:List (Nat×F7 S):=[(7,q5r),(31,qb7)]
theorem qba:ZaC X (qb9):=⟨q5s,qb8,trivial⟩
theorem qbd (x0:CoRecord) (x1:List Zt):Zkc X qb9 [(.st 20),(.sl (.st 21))] [.bool,(.int .i64)] q8P q4 12 9 (x0,x1,())=X24 x0 x1:=by kernel_rfl
def qbe:F7 S:=⟨[(.st 20),(.sl (.st 21))],[.bool,(.int .i64)],fun xs=>X3t xs.1 xs.2.1⟩
theorem qbf:Zaq X 9 qbe:=Zk9 (Zk8 xok qba q8Q q5 12 9) fun xs _ h=>((qbd xs.1 xs.2.1).trans (X3Z xs.1 xs.2.1).symm).trans h
def qbg:StT S:=⟨(N v1H vH (N (N L (some (.ptr 6 0)) L) vF L)),o1A,8⟩
def qbh:Way S:=⟨.ret,⟨(N L vI L),o1A,8⟩,[.bool,(.st 22),(.arr (.st 5)),(.st 22),.int,.bool,(.lst (.st 21)),.int,(.st 20),.bool,(.st 20)]⟩
def qbi:PE S:=⟨57,6,qbg,[(.arr (.st 5)),.int,(.lst (.st 25)),(.st 22),(.arr (.st 5)),(.st 22),.int,.bool,(.lst (.st 21)),.int,(.st 20),.bool,(.st 20)],[qbh]⟩
abbrev qbl (ih:tqe->Option tqo) {R:Type}:Z2G S R:=ZiW
theorem qbm (ih:tqe->Option tqo) (hih:ZcA X qbi ih) {R:Type}:Z4b X (qbl ih (R:=R)):=Zjx X
def qbn:Key:=⟨[5,2,5,57],10,(some 5),[0,0,1,1,0,1,0,1,0,1,1,1,1,1],2,44⟩
def qbo:StT S:=⟨v1j,o1s,44⟩
def qbp:Way S:=⟨(.exit 2),⟨L,o1s,45⟩,[(.st 22),(.arr (.st 5)),(.st 22),(.arr (.st 5)),.int,.bool,(.lst (.st 21)),.int,(.st 20),.bool,(.st 20)]⟩
def qbq:LE S:=⟨qbn,qbo,[.int,.int,(.st 22),(.arr (.st 5)),(.st 22),(.arr (.st 5)),.int,.bool,(.lst (.st 21)),.int,(.st 20),.bool,(.st 20)],[qbp]⟩
def qbr (x:tqj):(Nat->ZZ)->tqm:=fun y0=>(x.u2,y0,x.u4,x.u5,x.u6,x.u7,x.u8,x.u9,x.u10,x.u11,x.v12)
def qbs (ih:tqe->Option tqo) {R:Type} (x:tqj) (k:tqm->Option R):Option R:=(Wa ih x.1 x.u2 x.u4 x.u5 x.u6 x.u7 x.u8 x.u9 x.u10 x.u11 x.v12 (x.2.1,x.u3)).bind (fun y0=>k (x.u2,y0,x.u4,x.u5,x.u6,x.u7,x.u8,x.u9,x.u10,x.u11,x.v12))
def qbt (x:tqj) (v:(Int×(Nat->ZZ))):tqj:=(x.1,v.1,x.u2,v.2,x.u4,x.u5,x.u6,x.u7,x.u8,x.u9,x.u10,x.u11,x.v12)
theorem qbu (ih:tqe->Option tqo) (x:tqj):LE.step X qbq q7f (PE.ps X qbi (fun x q=>(ih x).bind q) q8P) (qbl ih) 12 x=W6 ih x.1 x.u2 x.u4 x.u5 x.u6 x.u7 x.u8 x.u9 x.u10 x.u11 x.v12 x.2.1 x.u3 (fun w0 w1=>(Sum.inl (x.1,w0,x.u2,w1,x.u4,x.u5,x.u6,x.u7,x.u8,x.u9,x.u10,x.u11,x.v12))) (fun p0=>(Sum.inr (x.u2,p0,x.u4,x.u5,x.u6,x.u7,x.u8,x.u9,x.u10,x.u11,x.v12))):=by kernel_rfl
theorem qbw (ih:tqe->Option tqo) {R:Type} (x:tqj) (k:tqm->Option R) (r:R) (h:qbs ih x k=some r):∃o,Z66 (LE.step X qbq q7f (PE.ps X qbi (fun x q=>(ih x).bind q) q8P) (qbl ih) 12) x o/\k o=some r:=by
 obtain⟨o,h1,h2⟩:=Z0 h;exact⟨qbr x o,Zk6 (st:=fun(x:tqj)=>Wp ih x.1 x.u2 x.u4 x.u5 x.u6 x.u7 x.u8 x.u9 x.u10 x.u11 x.v12) (prj:=fun x=>(x.2.1,x.u3)) (emb:=qbt) (embO:=qbr) (fun x=>(qbu ih x).trans (by unfold Wp W6 X0;simp only[ZjX,ZjO,ZjY,Option.map_some,Option.map_none];rfl)) (fun _ _=>rfl) (fun _ _=>rfl) (fun _ _ _=>rfl) (fun _ _ _=>rfl) (fun _=>rfl) (Z25.1 h1),by first|exact h2|(rcases o with o<;>exact h2)⟩
def qbx (ih:tqe->Option tqo) {R:Type}:Z2G S R:=LE.ls X qbq (qbs ih) (qbl ih)
theorem qby (ih:tqe->Option tqo) (hih:ZcA X qbi ih) {R:Type}:Z4b X (qbx ih (R:=R)):=Zka xok q7g (e:=qbq) (Zk3 (e:=qbi) hih q8Q) (qbm ih hih) (qbw ih) (qbm ih hih)
def qbz:Key:=⟨[5,2,5,57],10,(some 5),[0,0,1,1,0,1,0,1,0,1,1,1,1,1],2,41⟩
def qbA:StT S:=⟨v1j,o1s,41⟩
def qbB:Way S:=⟨(.exit 2),⟨L,o1s,42⟩,[(.st 22),(.arr (.st 5)),(.st 22),(.arr (.st 5)),.int,.bool,(.lst (.st 21)),.int,(.st 20),.bool,(.st 20)]⟩
def qbC:LE S:=⟨qbz,qbA,[.int,.int,(.st 22),(.arr (.st 5)),(.st 22),(.arr (.st 5)),.int,.bool,(.lst (.st 21)),.int,(.st 20),.bool,(.st 20)],[qbB]⟩
def qbE (ih:tqe->Option tqo) {R:Type} (x:tqj) (k:tqm->Option R):Option R:=(Wb ih x.1 x.u2 x.u4 x.u5 x.u6 x.u7 x.u8 x.u9 x.u10 x.u11 x.v12 (x.2.1,x.u3)).bind (fun y0=>k (x.u2,y0,x.u4,x.u5,x.u6,x.u7,x.u8,x.u9,x.u10,x.u11,x.v12))
theorem qbG (ih:tqe->Option tqo) (x:tqj):LE.step X qbC q7f (PE.ps X qbi (fun x q=>(ih x).bind q) q8P) (qbx ih) 12 x=W7 ih x.1 x.u2 x.u4 x.u5 x.u6 x.u7 x.u8 x.u9 x.u10 x.u11 x.v12 x.2.1 x.u3 (fun w0 w1=>(Sum.inl (x.1,w0,x.u2,w1,x.u4,x.u5,x.u6,x.u7,x.u8,x.u9,x.u10,x.u11,x.v12))) (fun p0=>(Sum.inr (x.u2,p0,x.u4,x.u5,x.u6,x.u7,x.u8,x.u9,x.u10,x.u11,x.v12))):=by kernel_rfl
theorem qbI (ih:tqe->Option tqo) {R:Type} (x:tqj) (k:tqm->Option R) (r:R) (h:qbE ih x k=some r):∃o,Z66 (LE.step X qbC q7f (PE.ps X qbi (fun x q=>(ih x).bind q) q8P) (qbx ih) 12) x o/\k o=some r:=by
 obtain⟨o,h1,h2⟩:=Z0 h;exact⟨qbr x o,Zk6 (st:=fun(x:tqj)=>Wq ih x.1 x.u2 x.u4 x.u5 x.u6 x.u7 x.u8 x.u9 x.u10 x.u11 x.v12) (prj:=fun x=>(x.2.1,x.u3)) (emb:=qbt) (embO:=qbr) (fun x=>(qbG ih x).trans (by unfold Wq W7 X0;simp only[ZjX,ZjO,ZjY,Option.map_some,Option.map_none];rfl)) (fun _ _=>rfl) (fun _ _=>rfl) (fun _ _ _=>rfl) (fun _ _ _=>rfl) (fun _=>rfl) (Z25.1 h1),by first|exact h2|(rcases o with o<;>exact h2)⟩
def qbJ (ih:tqe->Option tqo) {R:Type}:Z2G S R:=LE.ls X qbC (qbE ih) (qbx ih)
theorem qbK (ih:tqe->Option tqo) (hih:ZcA X qbi ih) {R:Type}:Z4b X (qbJ ih (R:=R)):=Zka xok q7g (e:=qbC) (Zk3 (e:=qbi) hih q8Q) (qby ih hih) (qbI ih) (qby ih hih)
def qbL:Key:=⟨[85,0,57],85,none,[0,0,1,1],0,71⟩
def qbM:StT S:=⟨v15,oM,72⟩
def qbN:Way S:=⟨.ret,⟨L,(N o1a ob (N (N (N (N L none (N L o0 L)) os L) ou o1C) oj o1F)),168⟩,[(.lst (.st 25)),(.st 25),(.st 22),(.lst (.st 19)),(.arr (.st 5)),(.arr (.st 5)),(.arr (.st 5)),.bool,.int,(.st 22),(.arr (.st 5)),(.st 25),.int,.bool,(.lst (.st 21)),.int,(.st 20),.bool,(.arr (.st 5)),.bool,.int,.bool,(.lst (.st 25)),.int,.bool,(.st 19),.int,(.lst (.st 25)),(.st 20),(.lst (.st 19)),(.st 21),(.lst (.st 25)),(.st 22)]⟩
def qbO:Way S:=⟨.ret,⟨L,oR,161⟩,[(.st 25),(.st 22),(.lst (.st 19)),(.arr (.st 5)),(.arr (.st 5)),(.arr (.st 5)),.bool,.int,(.st 22),(.arr (.st 5)),(.st 25),.int,.bool,(.lst (.st 21)),.int,(.st 20),.bool,(.arr (.st 5)),.bool,.int,.bool,(.lst (.st 25)),.int,.bool,(.st 19),.int,(.st 20),(.lst (.st 19)),(.st 21),(.lst (.st 25)),(.st 22)]⟩
def qbP:Way S:=⟨.ret,⟨L,(N oW ob (N (N (N (N L none (N (N (N L ov L) none L) o0 L)) os L) ou (N L none (N (N (N L ol L) os L) none L))) oj o1F)),153⟩,[(.st 25),(.st 22),(.lst (.st 19)),(.arr (.st 5)),(.arr (.st 5)),(.arr (.st 5)),.bool,.int,(.st 22),(.arr (.st 5)),(.st 25),.int,.bool,(.lst (.st 21)),.int,(.st 20),(.lst (.st 25)),(.lst (.st 25)),.bool,(.arr (.st 5)),.bool,.int,.bool,(.lst (.st 25)),.int,.bool,(.st 19),.int,(.st 20),(.lst (.st 19)),(.st 21),(.lst (.st 25)),(.st 22)]⟩
def qbQ:Way S:=⟨.ret,⟨L,oR,146⟩,[(.st 25),(.st 22),(.lst (.st 19)),(.arr (.st 5)),(.arr (.st 5)),(.arr (.st 5)),.bool,.int,(.st 22),(.arr (.st 5)),(.st 25),.int,.bool,(.lst (.st 21)),.int,(.st 20),.bool,(.arr (.st 5)),.bool,.int,.bool,(.lst (.st 25)),.int,.bool,(.st 19),.int,(.st 20),(.lst (.st 19)),(.st 21),(.lst (.st 25)),(.st 22)]⟩
def qbR:Way S:=⟨.ret,⟨L,(N o10 ob (N o1x oj o1p)),154⟩,[(.st 25),(.st 22),(.lst (.st 19)),(.arr (.st 5)),(.arr (.st 5)),(.arr (.st 5)),.bool,.int,(.st 22),(.lst (.st 25)),(.arr (.st 5)),(.st 25),.int,.bool,(.lst (.st 21)),.int,(.st 20),.bool,(.arr (.st 5)),.bool,.int,.bool,(.lst (.st 25)),.int,.bool,(.st 19),.int,(.st 20),(.lst (.st 19)),(.st 21),(.lst (.st 25)),(.st 22),(.lst (.st 25))]⟩
def qbS:Way S:=⟨.ret,⟨L,oR,147⟩,[(.st 25),(.st 22),(.lst (.st 19)),(.arr (.st 5)),(.arr (.st 5)),(.arr (.st 5)),.bool,.int,(.st 22),(.arr (.st 5)),(.st 25),.int,.bool,(.lst (.st 21)),.int,(.st 20),.bool,(.arr (.st 5)),.bool,.int,.bool,(.lst (.st 25)),.int,.bool,(.st 19),.int,(.st 20),(.lst (.st 19)),(.st 21),(.lst (.st 25)),(.st 22)]⟩
def qbT:Way S:=⟨.ret,⟨L,(N o13 ob (N o1x oj o1z)),139⟩,[(.lst (.st 25)),(.st 25),(.st 22),(.lst (.st 19)),(.arr (.st 5)),(.arr (.st 5)),(.arr (.st 5)),.bool,.int,(.st 22),(.arr (.st 5)),(.st 25),.int,.bool,(.lst (.st 21)),.int,(.st 20),.bool,(.arr (.st 5)),.bool,.int,.bool,(.lst (.st 25)),.int,.bool,(.st 19),.int,(.st 20),(.lst (.st 25)),(.lst (.st 19)),(.st 21),(.lst (.st 25)),(.st 22)]⟩
def qbU:Way S:=⟨.ret,⟨L,oR,132⟩,[(.st 25),(.st 22),(.lst (.st 19)),(.arr (.st 5)),(.arr (.st 5)),(.arr (.st 5)),.bool,.int,(.st 22),(.arr (.st 5)),(.st 25),.int,.bool,(.lst (.st 21)),.int,(.st 20),.bool,(.arr (.st 5)),.bool,.int,.bool,(.lst (.st 25)),.int,.bool,(.st 19),.int,(.st 20),(.lst (.st 19)),(.st 21),(.lst (.st 25)),(.st 22)]⟩
def qbV:Way S:=⟨(.exit 0),⟨L,oM,73⟩,[(.st 22),(.lst (.st 19)),(.arr (.st 5)),(.arr (.st 5)),.bool,.int,(.st 22),(.arr (.st 5)),(.st 25),.int,.bool,(.lst (.st 21)),.int,(.st 20),.bool,(.arr (.st 5)),.bool,.int,.bool,(.lst (.st 25)),.int,.bool,.int,(.st 20),(.lst (.st 19)),(.st 21),(.lst (.st 25)),(.st 22)]⟩
def qbW:LE S:=⟨qbL,qbM,[.int,.int,.int,(.st 22),(.lst (.st 19)),(.arr (.st 5)),(.arr (.st 5)),.bool,.int,(.st 22),(.arr (.st 5)),(.st 25),.int,.bool,(.lst (.st 21)),.int,(.st 20),.bool,(.arr (.st 5)),.bool,.int,.bool,(.lst (.st 25)),.int,.bool,.int,(.st 20),(.lst (.st 19)),(.st 21),(.lst (.st 25)),(.st 22)],[qbN,qbO,qbP,qbQ,qbR,qbS,qbT,qbU,qbV]⟩
def qbX (x:tq5):(((List Z8)×Z8×Z9×(Nat->ZZ)×(Nat->ZZ)×Bool×Z9×Z8×Int×Bool×(List Zt)×Int×CoRecord×Bool×Zn×(List Z8)×CoRecord)⊕tqa⊕(Z8×Z9×(Nat->ZZ)×(Nat->ZZ)×Bool×Z9×Z8×Int×Bool×(List Zt)×Int×CoRecord×(List Z8)×(List Z8)×Bool×Zn×CoRecord)⊕tqa⊕(Z8×Z9×(Nat->ZZ)×(Nat->ZZ)×Bool×Z9×(List Z8)×Z8×Int×Bool×(List Zt)×Int×CoRecord×Bool×Zn×CoRecord×(List Z8))⊕tqa⊕((List Z8)×Z8×Z9×(Nat->ZZ)×Bool×Z9×Z8×Int×Bool×(List Zt)×Int×CoRecord×Bool×Zn×CoRecord×(List Z8))⊕(Z8×Z9×(Nat->ZZ)×Bool×Z9×Z8×Int×Bool×(List Zt)×Int×CoRecord×Bool×Zn×CoRecord)⊕(Z9×(Nat->ZZ)×Z9×Z8×Int×Bool×(List Zt)×Int×CoRecord×Bool×CoRecord))->tq2:=Sum.elim (fun y0=>(.inl (y0.1,y0.2.1,y0.u2,x.u4,y0.u3,y0.u4,x.u6,y0.u5,x.u8,y0.u6,x.u10,y0.u7,y0.u8,y0.u9,y0.u10,y0.u11,y0.u12,x.u17,x.u18,x.u19,x.u20,x.u21,x.u22,x.u23,y0.u13,y0.u14,x.u25,y0.u15,y0.v16,x.u27,x.u28,x.u29,x.v30))) (Sum.elim (fun y1=>(.inr (.inl (y1.1,y1.2.1,x.u4,y1.u2,y1.u3,x.u6,y1.u4,x.u8,y1.u5,x.u10,y1.u6,y1.u7,y1.u8,y1.u9,y1.u10,y1.u11,x.u17,x.u18,x.u19,x.u20,x.u21,x.u22,x.u23,y1.u12,y1.u13,x.u25,y1.v14,x.u27,x.u28,x.u29,x.v30)))) (Sum.elim (fun y2=>(.inr (.inr (.inl (y2.1,y2.2.1,x.u4,y2.u2,y2.u3,x.u6,y2.u4,x.u8,y2.u5,x.u10,y2.u6,y2.u7,y2.u8,y2.u9,y2.u10,y2.u11,y2.u12,y2.u13,x.u17,x.u18,x.u19,x.u20,x.u21,x.u22,x.u23,y2.u14,y2.u15,x.u25,y2.v16,x.u27,x.u28,x.u29,x.v30))))) (Sum.elim (fun y3=>(.inr (.inr (.inr (.inl (y3.1,y3.2.1,x.u4,y3.u2,y3.u3,x.u6,y3.u4,x.u8,y3.u5,x.u10,y3.u6,y3.u7,y3.u8,y3.u9,y3.u10,y3.u11,x.u17,x.u18,x.u19,x.u20,x.u21,x.u22,x.u23,y3.u12,y3.u13,x.u25,y3.v14,x.u27,x.u28,x.u29,x.v30)))))) (Sum.elim (fun y4=>(.inr (.inr (.inr (.inr (.inl (y4.1,y4.2.1,x.u4,y4.u2,y4.u3,x.u6,y4.u4,x.u8,y4.u5,y4.u6,x.u10,y4.u7,y4.u8,y4.u9,y4.u10,y4.u11,y4.u12,x.u17,x.u18,x.u19,x.u20,x.u21,x.u22,x.u23,y4.u13,y4.u14,x.u25,y4.u15,x.u27,x.u28,x.u29,x.v30,y4.v16))))))) (Sum.elim (fun y5=>(.inr (.inr (.inr (.inr (.inr (.inl (y5.1,y5.2.1,x.u4,y5.u2,y5.u3,x.u6,y5.u4,x.u8,y5.u5,x.u10,y5.u6,y5.u7,y5.u8,y5.u9,y5.u10,y5.u11,x.u17,x.u18,x.u19,x.u20,x.u21,x.u22,x.u23,y5.u12,y5.u13,x.u25,y5.v14,x.u27,x.u28,x.u29,x.v30)))))))) (Sum.elim (fun y6=>(.inr (.inr (.inr (.inr (.inr (.inr (.inl (y6.1,y6.2.1,y6.u2,x.u4,y6.u3,x.u10,x.u6,y6.u4,x.u8,y6.u5,x.u10,y6.u6,y6.u7,y6.u8,y6.u9,y6.u10,y6.u11,x.u17,x.u18,x.u19,x.u20,x.u21,x.u22,x.u23,y6.u12,y6.u13,x.u25,y6.u14,y6.v15,x.u27,x.u28,x.u29,x.v30))))))))) (Sum.elim (fun y7=>(.inr (.inr (.inr (.inr (.inr (.inr (.inr (.inl (y7.1,y7.2.1,x.u4,y7.u2,x.u10,x.u6,y7.u3,x.u8,y7.u4,x.u10,y7.u5,y7.u6,y7.u7,y7.u8,y7.u9,y7.u10,x.u17,x.u18,x.u19,x.u20,x.u21,x.u22,x.u23,y7.u11,y7.u12,x.u25,y7.v13,x.u27,x.u28,x.u29,x.v30)))))))))) (fun y8=>(.inr (.inr (.inr (.inr (.inr (.inr (.inr (.inr (y8.1,x.u4,y8.2.1,x.u6,x.u7,x.u8,y8.u2,x.u10,y8.u3,y8.u4,y8.u5,y8.u6,y8.u7,y8.u8,x.u17,x.u18,x.u19,x.u20,x.u21,x.u22,x.u23,y8.u9,x.u25,y8.v10,x.u27,x.u28,x.u29,x.v30)))))))))))))))))
def qbY (ih:tqe->Option tqo) {R:Type} (x:tq5) (k:tq2->Option R):Option R:=(XH ih x.1 x.u4 x.u6 x.u7 x.u8 x.u10 x.u17 x.u18 x.u19 x.u20 x.u21 x.u22 x.u23 x.u25 x.u27 x.u28 x.u29 x.v30 (x.2.1,x.u2,x.u3,x.u5,x.u9,x.u11,x.u12,x.u13,x.u14,x.u15,x.u16,x.u24,x.u26)).bind (Sum.elim (fun y0=>k (.inl (y0.1,y0.2.1,y0.u2,x.u4,y0.u3,y0.u4,x.u6,y0.u5,x.u8,y0.u6,x.u10,y0.u7,y0.u8,y0.u9,y0.u10,y0.u11,y0.u12,x.u17,x.u18,x.u19,x.u20,x.u21,x.u22,x.u23,y0.u13,y0.u14,x.u25,y0.u15,y0.v16,x.u27,x.u28,x.u29,x.v30))) (Sum.elim (fun y1=>k (.inr (.inl (y1.1,y1.2.1,x.u4,y1.u2,y1.u3,x.u6,y1.u4,x.u8,y1.u5,x.u10,y1.u6,y1.u7,y1.u8,y1.u9,y1.u10,y1.u11,x.u17,x.u18,x.u19,x.u20,x.u21,x.u22,x.u23,y1.u12,y1.u13,x.u25,y1.v14,x.u27,x.u28,x.u29,x.v30)))) (Sum.elim (fun y2=>k (.inr (.inr (.inl (y2.1,y2.2.1,x.u4,y2.u2,y2.u3,x.u6,y2.u4,x.u8,y2.u5,x.u10,y2.u6,y2.u7,y2.u8,y2.u9,y2.u10,y2.u11,y2.u12,y2.u13,x.u17,x.u18,x.u19,x.u20,x.u21,x.u22,x.u23,y2.u14,y2.u15,x.u25,y2.v16,x.u27,x.u28,x.u29,x.v30))))) (Sum.elim (fun y3=>k (.inr (.inr (.inr (.inl (y3.1,y3.2.1,x.u4,y3.u2,y3.u3,x.u6,y3.u4,x.u8,y3.u5,x.u10,y3.u6,y3.u7,y3.u8,y3.u9,y3.u10,y3.u11,x.u17,x.u18,x.u19,x.u20,x.u21,x.u22,x.u23,y3.u12,y3.u13,x.u25,y3.v14,x.u27,x.u28,x.u29,x.v30)))))) (Sum.elim (fun y4=>k (.inr (.inr (.inr (.inr (.inl (y4.1,y4.2.1,x.u4,y4.u2,y4.u3,x.u6,y4.u4,x.u8,y4.u5,y4.u6,x.u10,y4.u7,y4.u8,y4.u9,y4.u10,y4.u11,y4.u12,x.u17,x.u18,x.u19,x.u20,x.u21,x.u22,x.u23,y4.u13,y4.u14,x.u25,y4.u15,x.u27,x.u28,x.u29,x.v30,y4.v16))))))) (Sum.elim (fun y5=>k (.inr (.inr (.inr (.inr (.inr (.inl (y5.1,y5.2.1,x.u4,y5.u2,y5.u3,x.u6,y5.u4,x.u8,y5.u5,x.u10,y5.u6,y5.u7,y5.u8,y5.u9,y5.u10,y5.u11,x.u17,x.u18,x.u19,x.u20,x.u21,x.u22,x.u23,y5.u12,y5.u13,x.u25,y5.v14,x.u27,x.u28,x.u29,x.v30)))))))) (Sum.elim (fun y6=>k (.inr (.inr (.inr (.inr (.inr (.inr (.inl (y6.1,y6.2.1,y6.u2,x.u4,y6.u3,x.u10,x.u6,y6.u4,x.u8,y6.u5,x.u10,y6.u6,y6.u7,y6.u8,y6.u9,y6.u10,y6.u11,x.u17,x.u18,x.u19,x.u20,x.u21,x.u22,x.u23,y6.u12,y6.u13,x.u25,y6.u14,y6.v15,x.u27,x.u28,x.u29,x.v30))))))))) (Sum.elim (fun y7=>k (.inr (.inr (.inr (.inr (.inr (.inr (.inr (.inl (y7.1,y7.2.1,x.u4,y7.u2,x.u10,x.u6,y7.u3,x.u8,y7.u4,x.u10,y7.u5,y7.u6,y7.u7,y7.u8,y7.u9,y7.u10,x.u17,x.u18,x.u19,x.u20,x.u21,x.u22,x.u23,y7.u11,y7.u12,x.u25,y7.v13,x.u27,x.u28,x.u29,x.v30)))))))))) (fun y8=>k (.inr (.inr (.inr (.inr (.inr (.inr (.inr (.inr (y8.1,x.u4,y8.2.1,x.u6,x.u7,x.u8,y8.u2,x.u10,y8.u3,y8.u4,y8.u5,y8.u6,y8.u7,y8.u8,x.u17,x.u18,x.u19,x.u20,x.u21,x.u22,x.u23,y8.u9,x.u25,y8.v10,x.u27,x.u28,x.u29,x.v30))))))))))))))))))
def qbZ (x:tq5) (v:(Int×Int×Z9×(Nat->ZZ)×Z9×Z8×Int×Bool×(List Zt)×Int×CoRecord×Bool×CoRecord)):tq5:=(x.1,v.1,v.2.1,v.u2,x.u4,v.u3,x.u6,x.u7,x.u8,v.u4,x.u10,v.u5,v.u6,v.u7,v.u8,v.u9,v.u10,x.u17,x.u18,x.u19,x.u20,x.u21,x.u22,x.u23,v.u11,x.u25,v.v12,x.u27,x.u28,x.u29,x.v30)
theorem qc0 (ih:tqe->Option tqo) (x:tq5):LE.step X qbW q7f (PE.ps X qbi (fun x q=>(ih x).bind q) q8P) (qbJ ih) 12 x=X2 ih x.1 x.u4 x.u6 x.u7 x.u8 x.u10 x.u17 x.u18 x.u19 x.u20 x.u21 x.u22 x.u23 x.u25 x.u27 x.u28 x.u29 x.v30 x.2.1 x.u2 x.u3 x.u5 x.u9 x.u11 x.u12 x.u13 x.u14 x.u15 x.u16 x.u24 x.u26 (fun w0 w1 w2 w3 w4 w5 w6 w7 w8 w9 w10 w11 w12=>(Sum.inl (x.1,w0,w1,w2,x.u4,w3,x.u6,x.u7,x.u8,w4,x.u10,w5,w6,w7,w8,w9,w10,x.u17,x.u18,x.u19,x.u20,x.u21,x.u22,x.u23,w11,x.u25,w12,x.u27,x.u28,x.u29,x.v30))) (fun p0 p1 p2 p3 p4 p5 p6 p7 p8 p9 p10 p11 p12 p13 p14 p15 p16=>(Sum.inr (.inl (p0,p1,p2,x.u4,p3,p4,x.u6,p5,x.u8,p6,x.u10,p7,p8,p9,p10,p11,p12,x.u17,x.u18,x.u19,x.u20,x.u21,x.u22,x.u23,p13,p14,x.u25,p15,p16,x.u27,x.u28,x.u29,x.v30)))) (fun p0 p1 p2 p3 p4 p5 p6 p7 p8 p9 p10 p11 p12 p13 p14=>(Sum.inr (.inr (.inl (p0,p1,x.u4,p2,p3,x.u6,p4,x.u8,p5,x.u10,p6,p7,p8,p9,p10,p11,x.u17,x.u18,x.u19,x.u20,x.u21,x.u22,x.u23,p12,p13,x.u25,p14,x.u27,x.u28,x.u29,x.v30))))) (fun p0 p1 p2 p3 p4 p5 p6 p7 p8 p9 p10 p11 p12 p13 p14 p15 p16=>(Sum.inr (.inr (.inr (.inl (p0,p1,x.u4,p2,p3,x.u6,p4,x.u8,p5,x.u10,p6,p7,p8,p9,p10,p11,p12,p13,x.u17,x.u18,x.u19,x.u20,x.u21,x.u22,x.u23,p14,p15,x.u25,p16,x.u27,x.u28,x.u29,x.v30)))))) (fun p0 p1 p2 p3 p4 p5 p6 p7 p8 p9 p10 p11 p12 p13 p14=>(Sum.inr (.inr (.inr (.inr (.inl (p0,p1,x.u4,p2,p3,x.u6,p4,x.u8,p5,x.u10,p6,p7,p8,p9,p10,p11,x.u17,x.u18,x.u19,x.u20,x.u21,x.u22,x.u23,p12,p13,x.u25,p14,x.u27,x.u28,x.u29,x.v30))))))) (fun p0 p1 p2 p3 p4 p5 p6 p7 p8 p9 p10 p11 p12 p13 p14 p15 p16=>(Sum.inr (.inr (.inr (.inr (.inr (.inl (p0,p1,x.u4,p2,p3,x.u6,p4,x.u8,p5,p6,x.u10,p7,p8,p9,p10,p11,p12,x.u17,x.u18,x.u19,x.u20,x.u21,x.u22,x.u23,p13,p14,x.u25,p15,x.u27,x.u28,x.u29,x.v30,p16)))))))) (fun p0 p1 p2 p3 p4 p5 p6 p7 p8 p9 p10 p11 p12 p13 p14=>(Sum.inr (.inr (.inr (.inr (.inr (.inr (.inl (p0,p1,x.u4,p2,p3,x.u6,p4,x.u8,p5,x.u10,p6,p7,p8,p9,p10,p11,x.u17,x.u18,x.u19,x.u20,x.u21,x.u22,x.u23,p12,p13,x.u25,p14,x.u27,x.u28,x.u29,x.v30))))))))) (fun p0 p1 p2 p3 p4 p5 p6 p7 p8 p9 p10 p11 p12 p13 p14 p15=>(Sum.inr (.inr (.inr (.inr (.inr (.inr (.inr (.inl (p0,p1,p2,x.u4,p3,x.u10,x.u6,p4,x.u8,p5,x.u10,p6,p7,p8,p9,p10,p11,x.u17,x.u18,x.u19,x.u20,x.u21,x.u22,x.u23,p12,p13,x.u25,p14,p15,x.u27,x.u28,x.u29,x.v30)))))))))) (fun p0 p1 p2 p3 p4 p5 p6 p7 p8 p9 p10 p11 p12 p13=>(Sum.inr (.inr (.inr (.inr (.inr (.inr (.inr (.inr (.inl (p0,p1,x.u4,p2,x.u10,x.u6,p3,x.u8,p4,x.u10,p5,p6,p7,p8,p9,p10,x.u17,x.u18,x.u19,x.u20,x.u21,x.u22,x.u23,p11,p12,x.u25,p13,x.u27,x.u28,x.u29,x.v30))))))))))) (fun p0 p1 p2 p3 p4 p5 p6 p7 p8 p9 p10=>(Sum.inr (.inr (.inr (.inr (.inr (.inr (.inr (.inr (.inr (p0,x.u4,p1,x.u6,x.u7,x.u8,p2,x.u10,p3,p4,p5,p6,p7,p8,x.u17,x.u18,x.u19,x.u20,x.u21,x.u22,x.u23,p9,x.u25,p10,x.u27,x.u28,x.u29,x.v30))))))))))):=by kernel_rfl
theorem qc2 (ih:tqe->Option tqo) {R:Type} (x:tq5) (k:tq2->Option R) (r:R) (h:qbY ih x k=some r):∃o,Z66 (LE.step X qbW q7f (PE.ps X qbi (fun x q=>(ih x).bind q) q8P) (qbJ ih) 12) x o/\k o=some r:=by
 obtain⟨o,h1,h2⟩:=Z0 h;exact⟨qbX x o,Zk6 (st:=fun(x:tq5)=>Xb ih x.1 x.u4 x.u6 x.u7 x.u8 x.u10 x.u17 x.u18 x.u19 x.u20 x.u21 x.u22 x.u23 x.u25 x.u27 x.u28 x.u29 x.v30) (prj:=fun x=>(x.2.1,x.u2,x.u3,x.u5,x.u9,x.u11,x.u12,x.u13,x.u14,x.u15,x.u16,x.u24,x.u26)) (emb:=qbZ) (embO:=qbX) (fun x=>(qc0 ih x).trans (by unfold Xb X2;simp only[ZjX,ZjO,ZjY,Option.map_some,Option.map_none];rfl)) (fun _ _=>rfl) (fun _ _=>rfl) (fun _ _ _=>rfl) (fun _ _ _=>rfl) (fun _=>rfl) (Z25.1 h1),by first|exact h2|(rcases o with o|o|o|o|o|o|o|o|o<;>exact h2)⟩
def qc3 (ih:tqe->Option tqo) {R:Type}:Z2G S R:=LE.ls X qbW (qbY ih) (qbJ ih)
theorem qc4 (ih:tqe->Option tqo) (hih:ZcA X qbi ih) {R:Type}:Z4b X (qc3 ih (R:=R)):=Zka xok q7g (e:=qbW) (Zk3 (e:=qbi) hih q8Q) (qbK ih hih) (qc2 ih) (qbK ih hih)
theorem qc5 (ih:tqe->Option tqo) (x:((Nat->ZZ)×Int×(List Z8)×Z9×(Nat->ZZ)×Z9×Int×Bool×(List Zt)×Int×CoRecord×Bool×CoRecord)):PE.step X qbi q7f (PE.ps X qbi (fun x q=>(ih x).bind q) q8P) (qc3 ih) 12 x=Xf ih x.1 x.2.1 x.u2 x.u3 x.u4 x.u5 x.u6 x.u7 x.u8 x.u9 x.u10 x.u11 x.v12:=by kernel_rfl
theorem qc6:ZcA X qbi XR:=Zk4 (X:=X) (e:=qbi) (t:=X5) fun ih hih=>Zkb (ZjB xok q7g (Zk3 (e:=qbi) hih q8Q) (qc4 ih hih) 12) fun x _ h=>(qc5 ih x).trans h
def qc7 {R:Type}:Prs S R:=PE.ps X qbi (fun x q=>(XR x).bind q) q8P
theorem qc8 {R:Type}:Z8Z X (qc7 (R:=R)):=Zk3 (e:=qbi) qc6 q8Q
def qc9:StT S:=⟨(N v1H vH (N (N L (some (.ptr 6 0)) L) (some .sl0) L)),o1A,8⟩
def qcb:PE S:=⟨57,6,qc9,[(.arr (.st 5)),.int,(.st 22),(.arr (.st 5)),(.st 22),.int,.bool,(.lst (.st 21)),.int,(.st 20),.bool,(.st 20)],[qbh]⟩
def qcl {R:Type} (x:tqj) (k:tqm->Option R):Option R:=(XG x.1 x.u2 x.u4 x.u5 x.u6 x.u7 x.u8 x.u9 x.u10 x.u11 x.v12 (x.2.1,x.u3)).bind (fun y0=>k (x.u2,y0,x.u4,x.u5,x.u6,x.u7,x.u8,x.u9,x.u10,x.u11,x.v12))
theorem qcn (x:tqj):LE.step X qbq q7f q8P q4 12 x=X0 x.1 x.u2 x.u4 x.u5 x.u6 x.u7 x.u8 x.u9 x.u10 x.u11 x.v12 x.2.1 x.u3 (fun w0 w1=>(Sum.inl (x.1,w0,x.u2,w1,x.u4,x.u5,x.u6,x.u7,x.u8,x.u9,x.u10,x.u11,x.v12))) (fun p0=>(Sum.inr (x.u2,p0,x.u4,x.u5,x.u6,x.u7,x.u8,x.u9,x.u10,x.u11,x.v12))):=by kernel_rfl
theorem qcp {R:Type} (x:tqj) (k:tqm->Option R) (r:R) (h:qcl x k=some r):∃o,Z66 (LE.step X qbq q7f q8P q4 12) x o/\k o=some r:=by
 obtain⟨o,h1,h2⟩:=Z0 h;exact⟨qbr x o,Zk6 (st:=fun(x:tqj)=>Xa x.1 x.u2 x.u4 x.u5 x.u6 x.u7 x.u8 x.u9 x.u10 x.u11 x.v12) (prj:=fun x=>(x.2.1,x.u3)) (emb:=qbt) (embO:=qbr) (fun x=>(qcn x).trans (by unfold Xa X0;simp only[ZjX,ZjO,ZjY,Option.map_some,Option.map_none];rfl)) (fun _ _=>rfl) (fun _ _=>rfl) (fun _ _ _=>rfl) (fun _ _ _=>rfl) (fun _=>rfl) (Z25.1 h1),by first|exact h2|(rcases o with o<;>exact h2)⟩
def qcq {R:Type}:Z2G S R:=LE.ls X qbq qcl q4
theorem qcr {R:Type}:Z4b X (qcq (R:=R)):=Zka xok q7g (e:=qbq) q8Q q5 qcp q5
def qcx {R:Type} (x:tqj) (k:tqm->Option R):Option R:=(X1k x.1 x.u2 x.u4 x.u5 x.u6 x.u7 x.u8 x.u9 x.u10 x.u11 x.v12 (x.2.1,x.u3)).bind (fun y0=>k (x.u2,y0,x.u4,x.u5,x.u6,x.u7,x.u8,x.u9,x.u10,x.u11,x.v12))
theorem qcz (x:tqj):LE.step X qbC q7f q8P qcq 12 x=W4 x.1 x.u2 x.u4 x.u5 x.u6 x.u7 x.u8 x.u9 x.u10 x.u11 x.v12 x.2.1 x.u3 (fun w0 w1=>(Sum.inl (x.1,w0,x.u2,w1,x.u4,x.u5,x.u6,x.u7,x.u8,x.u9,x.u10,x.u11,x.v12))) (fun p0=>(Sum.inr (x.u2,p0,x.u4,x.u5,x.u6,x.u7,x.u8,x.u9,x.u10,x.u11,x.v12))):=by kernel_rfl
theorem qcB {R:Type} (x:tqj) (k:tqm->Option R) (r:R) (h:qcx x k=some r):∃o,Z66 (LE.step X qbC q7f q8P qcq 12) x o/\k o=some r:=by
 obtain⟨o,h1,h2⟩:=Z0 h;exact⟨qbr x o,Zk6 (st:=fun(x:tqj)=>Wn x.1 x.u2 x.u4 x.u5 x.u6 x.u7 x.u8 x.u9 x.u10 x.u11 x.v12) (prj:=fun x=>(x.2.1,x.u3)) (emb:=qbt) (embO:=qbr) (fun x=>(qcz x).trans (by unfold Wn W4 X0;simp only[ZjX,ZjO,ZjY,Option.map_some,Option.map_none];rfl)) (fun _ _=>rfl) (fun _ _=>rfl) (fun _ _ _=>rfl) (fun _ _ _=>rfl) (fun _=>rfl) (Z25.1 h1),by first|exact h2|(rcases o with o<;>exact h2)⟩
def qcC {R:Type}:Z2G S R:=LE.ls X qbC qcx qcq
theorem qcD {R:Type}:Z4b X (qcC (R:=R)):=Zka xok q7g (e:=qbC) q8Q qcr qcB qcr
def qcF:StT S:=⟨v15,oK,72⟩
def qcG:Way S:=⟨.ret,⟨L,(N o1a ob (N (N (N (N L none (N L o2 L)) os L) ou o1C) oj o1F)),168⟩,[(.lst (.st 25)),(.st 25),(.st 22),(.lst (.st 19)),(.arr (.st 5)),(.arr (.st 5)),(.arr (.st 5)),.bool,.int,(.st 22),(.arr (.st 5)),(.st 25),.int,.bool,(.lst (.st 21)),.int,(.st 20),.bool,(.arr (.st 5)),.bool,.int,.bool,.int,.bool,(.st 19),.int,(.lst (.st 25)),(.st 20),(.lst (.st 19)),(.st 21),(.lst (.st 25)),(.st 22)]⟩
def qcH:Way S:=⟨.ret,⟨L,oS,161⟩,[(.st 25),(.st 22),(.lst (.st 19)),(.arr (.st 5)),(.arr (.st 5)),(.arr (.st 5)),.bool,.int,(.st 22),(.arr (.st 5)),(.st 25),.int,.bool,(.lst (.st 21)),.int,(.st 20),.bool,(.arr (.st 5)),.bool,.int,.bool,.int,.bool,(.st 19),.int,(.st 20),(.lst (.st 19)),(.st 21),(.lst (.st 25)),(.st 22)]⟩
def qcI:Way S:=⟨.ret,⟨L,(N oW ob (N (N (N (N L none (N (N (N L ov L) none L) o2 L)) os L) ou (N L none (N (N (N L ol L) os L) none L))) oj o1F)),153⟩,[(.st 25),(.st 22),(.lst (.st 19)),(.arr (.st 5)),(.arr (.st 5)),(.arr (.st 5)),.bool,.int,(.st 22),(.arr (.st 5)),(.st 25),.int,.bool,(.lst (.st 21)),.int,(.st 20),(.lst (.st 25)),(.lst (.st 25)),.bool,(.arr (.st 5)),.bool,.int,.bool,.int,.bool,(.st 19),.int,(.st 20),(.lst (.st 19)),(.st 21),(.lst (.st 25)),(.st 22)]⟩
def qcJ:Way S:=⟨.ret,⟨L,oS,146⟩,[(.st 25),(.st 22),(.lst (.st 19)),(.arr (.st 5)),(.arr (.st 5)),(.arr (.st 5)),.bool,.int,(.st 22),(.arr (.st 5)),(.st 25),.int,.bool,(.lst (.st 21)),.int,(.st 20),.bool,(.arr (.st 5)),.bool,.int,.bool,.int,.bool,(.st 19),.int,(.st 20),(.lst (.st 19)),(.st 21),(.lst (.st 25)),(.st 22)]⟩
def qcK:Way S:=⟨.ret,⟨L,(N o10 ob (N o1y oj o1p)),154⟩,[(.st 25),(.st 22),(.lst (.st 19)),(.arr (.st 5)),(.arr (.st 5)),(.arr (.st 5)),.bool,.int,(.st 22),(.lst (.st 25)),(.arr (.st 5)),(.st 25),.int,.bool,(.lst (.st 21)),.int,(.st 20),.bool,(.arr (.st 5)),.bool,.int,.bool,.int,.bool,(.st 19),.int,(.st 20),(.lst (.st 19)),(.st 21),(.lst (.st 25)),(.st 22),(.lst (.st 25))]⟩
def qcL:Way S:=⟨.ret,⟨L,oS,147⟩,[(.st 25),(.st 22),(.lst (.st 19)),(.arr (.st 5)),(.arr (.st 5)),(.arr (.st 5)),.bool,.int,(.st 22),(.arr (.st 5)),(.st 25),.int,.bool,(.lst (.st 21)),.int,(.st 20),.bool,(.arr (.st 5)),.bool,.int,.bool,.int,.bool,(.st 19),.int,(.st 20),(.lst (.st 19)),(.st 21),(.lst (.st 25)),(.st 22)]⟩
def qcM:Way S:=⟨.ret,⟨L,(N o13 ob (N o1y oj o1z)),139⟩,[(.lst (.st 25)),(.st 25),(.st 22),(.lst (.st 19)),(.arr (.st 5)),(.arr (.st 5)),(.arr (.st 5)),.bool,.int,(.st 22),(.arr (.st 5)),(.st 25),.int,.bool,(.lst (.st 21)),.int,(.st 20),.bool,(.arr (.st 5)),.bool,.int,.bool,.int,.bool,(.st 19),.int,(.st 20),(.lst (.st 25)),(.lst (.st 19)),(.st 21),(.lst (.st 25)),(.st 22)]⟩
def qcN:Way S:=⟨.ret,⟨L,oS,132⟩,[(.st 25),(.st 22),(.lst (.st 19)),(.arr (.st 5)),(.arr (.st 5)),(.arr (.st 5)),.bool,.int,(.st 22),(.arr (.st 5)),(.st 25),.int,.bool,(.lst (.st 21)),.int,(.st 20),.bool,(.arr (.st 5)),.bool,.int,.bool,.int,.bool,(.st 19),.int,(.st 20),(.lst (.st 19)),(.st 21),(.lst (.st 25)),(.st 22)]⟩
def qcO:Way S:=⟨(.exit 0),⟨L,oK,73⟩,[(.st 22),(.lst (.st 19)),(.arr (.st 5)),(.arr (.st 5)),.bool,.int,(.st 22),(.arr (.st 5)),(.st 25),.int,.bool,(.lst (.st 21)),.int,(.st 20),.bool,(.arr (.st 5)),.bool,.int,.bool,.int,.bool,.int,(.st 20),(.lst (.st 19)),(.st 21),(.lst (.st 25)),(.st 22)]⟩
def qcP:LE S:=⟨qbL,qcF,[.int,.int,.int,(.st 22),(.lst (.st 19)),(.arr (.st 5)),(.arr (.st 5)),.bool,.int,(.st 22),(.arr (.st 5)),(.st 25),.int,.bool,(.lst (.st 21)),.int,(.st 20),.bool,(.arr (.st 5)),.bool,.int,.bool,.int,.bool,.int,(.st 20),(.lst (.st 19)),(.st 21),(.lst (.st 25)),(.st 22)],[qcG,qcH,qcI,qcJ,qcK,qcL,qcM,qcN,qcO]⟩
def qcQ (x:tq6):(((List Z8)×Z8×Z9×(Nat->ZZ)×(Nat->ZZ)×Bool×Z9×Z8×Int×Bool×(List Zt)×Int×CoRecord×Bool×Zn×(List Z8)×CoRecord)⊕tqa⊕(Z8×Z9×(Nat->ZZ)×(Nat->ZZ)×Bool×Z9×Z8×Int×Bool×(List Zt)×Int×CoRecord×(List Z8)×(List Z8)×Bool×Zn×CoRecord)⊕tqa⊕(Z8×Z9×(Nat->ZZ)×(Nat->ZZ)×Bool×Z9×(List Z8)×Z8×Int×Bool×(List Zt)×Int×CoRecord×Bool×Zn×CoRecord×(List Z8))⊕tqa⊕((List Z8)×Z8×Z9×(Nat->ZZ)×Bool×Z9×Z8×Int×Bool×(List Zt)×Int×CoRecord×Bool×Zn×CoRecord×(List Z8))⊕(Z8×Z9×(Nat->ZZ)×Bool×Z9×Z8×Int×Bool×(List Zt)×Int×CoRecord×Bool×Zn×CoRecord)⊕(Z9×(Nat->ZZ)×Z9×Z8×Int×Bool×(List Zt)×Int×CoRecord×Bool×CoRecord))->tq3:=Sum.elim (fun y0=>(.inl (y0.1,y0.2.1,y0.u2,x.u4,y0.u3,y0.u4,x.u6,y0.u5,x.u8,y0.u6,x.u10,y0.u7,y0.u8,y0.u9,y0.u10,y0.u11,y0.u12,x.u17,x.u18,x.u19,x.u20,x.u21,x.u22,y0.u13,y0.u14,x.u24,y0.u15,y0.v16,x.u26,x.u27,x.u28,x.v29))) (Sum.elim (fun y1=>(.inr (.inl (y1.1,y1.2.1,x.u4,y1.u2,y1.u3,x.u6,y1.u4,x.u8,y1.u5,x.u10,y1.u6,y1.u7,y1.u8,y1.u9,y1.u10,y1.u11,x.u17,x.u18,x.u19,x.u20,x.u21,x.u22,y1.u12,y1.u13,x.u24,y1.v14,x.u26,x.u27,x.u28,x.v29)))) (Sum.elim (fun y2=>(.inr (.inr (.inl (y2.1,y2.2.1,x.u4,y2.u2,y2.u3,x.u6,y2.u4,x.u8,y2.u5,x.u10,y2.u6,y2.u7,y2.u8,y2.u9,y2.u10,y2.u11,y2.u12,y2.u13,x.u17,x.u18,x.u19,x.u20,x.u21,x.u22,y2.u14,y2.u15,x.u24,y2.v16,x.u26,x.u27,x.u28,x.v29))))) (Sum.elim (fun y3=>(.inr (.inr (.inr (.inl (y3.1,y3.2.1,x.u4,y3.u2,y3.u3,x.u6,y3.u4,x.u8,y3.u5,x.u10,y3.u6,y3.u7,y3.u8,y3.u9,y3.u10,y3.u11,x.u17,x.u18,x.u19,x.u20,x.u21,x.u22,y3.u12,y3.u13,x.u24,y3.v14,x.u26,x.u27,x.u28,x.v29)))))) (Sum.elim (fun y4=>(.inr (.inr (.inr (.inr (.inl (y4.1,y4.2.1,x.u4,y4.u2,y4.u3,x.u6,y4.u4,x.u8,y4.u5,y4.u6,x.u10,y4.u7,y4.u8,y4.u9,y4.u10,y4.u11,y4.u12,x.u17,x.u18,x.u19,x.u20,x.u21,x.u22,y4.u13,y4.u14,x.u24,y4.u15,x.u26,x.u27,x.u28,x.v29,y4.v16))))))) (Sum.elim (fun y5=>(.inr (.inr (.inr (.inr (.inr (.inl (y5.1,y5.2.1,x.u4,y5.u2,y5.u3,x.u6,y5.u4,x.u8,y5.u5,x.u10,y5.u6,y5.u7,y5.u8,y5.u9,y5.u10,y5.u11,x.u17,x.u18,x.u19,x.u20,x.u21,x.u22,y5.u12,y5.u13,x.u24,y5.v14,x.u26,x.u27,x.u28,x.v29)))))))) (Sum.elim (fun y6=>(.inr (.inr (.inr (.inr (.inr (.inr (.inl (y6.1,y6.2.1,y6.u2,x.u4,y6.u3,x.u10,x.u6,y6.u4,x.u8,y6.u5,x.u10,y6.u6,y6.u7,y6.u8,y6.u9,y6.u10,y6.u11,x.u17,x.u18,x.u19,x.u20,x.u21,x.u22,y6.u12,y6.u13,x.u24,y6.u14,y6.v15,x.u26,x.u27,x.u28,x.v29))))))))) (Sum.elim (fun y7=>(.inr (.inr (.inr (.inr (.inr (.inr (.inr (.inl (y7.1,y7.2.1,x.u4,y7.u2,x.u10,x.u6,y7.u3,x.u8,y7.u4,x.u10,y7.u5,y7.u6,y7.u7,y7.u8,y7.u9,y7.u10,x.u17,x.u18,x.u19,x.u20,x.u21,x.u22,y7.u11,y7.u12,x.u24,y7.v13,x.u26,x.u27,x.u28,x.v29)))))))))) (fun y8=>(.inr (.inr (.inr (.inr (.inr (.inr (.inr (.inr (y8.1,x.u4,y8.2.1,x.u6,x.u7,x.u8,y8.u2,x.u10,y8.u3,y8.u4,y8.u5,y8.u6,y8.u7,y8.u8,x.u17,x.u18,x.u19,x.u20,x.u21,x.u22,y8.u9,x.u24,y8.v10,x.u26,x.u27,x.u28,x.v29)))))))))))))))))
def qcR {R:Type} (x:tq6) (k:tq3->Option R):Option R:=(X1l x.1 x.u4 x.u6 x.u7 x.u8 x.u10 x.u17 x.u18 x.u19 x.u20 x.u21 x.u22 x.u24 x.u26 x.u27 x.u28 x.v29 (x.2.1,x.u2,x.u3,x.u5,x.u9,x.u11,x.u12,x.u13,x.u14,x.u15,x.u16,x.u23,x.u25)).bind (Sum.elim (fun y0=>k (.inl (y0.1,y0.2.1,y0.u2,x.u4,y0.u3,y0.u4,x.u6,y0.u5,x.u8,y0.u6,x.u10,y0.u7,y0.u8,y0.u9,y0.u10,y0.u11,y0.u12,x.u17,x.u18,x.u19,x.u20,x.u21,x.u22,y0.u13,y0.u14,x.u24,y0.u15,y0.v16,x.u26,x.u27,x.u28,x.v29))) (Sum.elim (fun y1=>k (.inr (.inl (y1.1,y1.2.1,x.u4,y1.u2,y1.u3,x.u6,y1.u4,x.u8,y1.u5,x.u10,y1.u6,y1.u7,y1.u8,y1.u9,y1.u10,y1.u11,x.u17,x.u18,x.u19,x.u20,x.u21,x.u22,y1.u12,y1.u13,x.u24,y1.v14,x.u26,x.u27,x.u28,x.v29)))) (Sum.elim (fun y2=>k (.inr (.inr (.inl (y2.1,y2.2.1,x.u4,y2.u2,y2.u3,x.u6,y2.u4,x.u8,y2.u5,x.u10,y2.u6,y2.u7,y2.u8,y2.u9,y2.u10,y2.u11,y2.u12,y2.u13,x.u17,x.u18,x.u19,x.u20,x.u21,x.u22,y2.u14,y2.u15,x.u24,y2.v16,x.u26,x.u27,x.u28,x.v29))))) (Sum.elim (fun y3=>k (.inr (.inr (.inr (.inl (y3.1,y3.2.1,x.u4,y3.u2,y3.u3,x.u6,y3.u4,x.u8,y3.u5,x.u10,y3.u6,y3.u7,y3.u8,y3.u9,y3.u10,y3.u11,x.u17,x.u18,x.u19,x.u20,x.u21,x.u22,y3.u12,y3.u13,x.u24,y3.v14,x.u26,x.u27,x.u28,x.v29)))))) (Sum.elim (fun y4=>k (.inr (.inr (.inr (.inr (.inl (y4.1,y4.2.1,x.u4,y4.u2,y4.u3,x.u6,y4.u4,x.u8,y4.u5,y4.u6,x.u10,y4.u7,y4.u8,y4.u9,y4.u10,y4.u11,y4.u12,x.u17,x.u18,x.u19,x.u20,x.u21,x.u22,y4.u13,y4.u14,x.u24,y4.u15,x.u26,x.u27,x.u28,x.v29,y4.v16))))))) (Sum.elim (fun y5=>k (.inr (.inr (.inr (.inr (.inr (.inl (y5.1,y5.2.1,x.u4,y5.u2,y5.u3,x.u6,y5.u4,x.u8,y5.u5,x.u10,y5.u6,y5.u7,y5.u8,y5.u9,y5.u10,y5.u11,x.u17,x.u18,x.u19,x.u20,x.u21,x.u22,y5.u12,y5.u13,x.u24,y5.v14,x.u26,x.u27,x.u28,x.v29)))))))) (Sum.elim (fun y6=>k (.inr (.inr (.inr (.inr (.inr (.inr (.inl (y6.1,y6.2.1,y6.u2,x.u4,y6.u3,x.u10,x.u6,y6.u4,x.u8,y6.u5,x.u10,y6.u6,y6.u7,y6.u8,y6.u9,y6.u10,y6.u11,x.u17,x.u18,x.u19,x.u20,x.u21,x.u22,y6.u12,y6.u13,x.u24,y6.u14,y6.v15,x.u26,x.u27,x.u28,x.v29))))))))) (Sum.elim (fun y7=>k (.inr (.inr (.inr (.inr (.inr (.inr (.inr (.inl (y7.1,y7.2.1,x.u4,y7.u2,x.u10,x.u6,y7.u3,x.u8,y7.u4,x.u10,y7.u5,y7.u6,y7.u7,y7.u8,y7.u9,y7.u10,x.u17,x.u18,x.u19,x.u20,x.u21,x.u22,y7.u11,y7.u12,x.u24,y7.v13,x.u26,x.u27,x.u28,x.v29)))))))))) (fun y8=>k (.inr (.inr (.inr (.inr (.inr (.inr (.inr (.inr (y8.1,x.u4,y8.2.1,x.u6,x.u7,x.u8,y8.u2,x.u10,y8.u3,y8.u4,y8.u5,y8.u6,y8.u7,y8.u8,x.u17,x.u18,x.u19,x.u20,x.u21,x.u22,y8.u9,x.u24,y8.v10,x.u26,x.u27,x.u28,x.v29))))))))))))))))))
def qcS (x:tq6) (v:(Int×Int×Z9×(Nat->ZZ)×Z9×Z8×Int×Bool×(List Zt)×Int×CoRecord×Bool×CoRecord)):tq6:=(x.1,v.1,v.2.1,v.u2,x.u4,v.u3,x.u6,x.u7,x.u8,v.u4,x.u10,v.u5,v.u6,v.u7,v.u8,v.u9,v.u10,x.u17,x.u18,x.u19,x.u20,x.u21,x.u22,v.u11,x.u24,v.v12,x.u26,x.u27,x.u28,x.v29)
end
end Nore
