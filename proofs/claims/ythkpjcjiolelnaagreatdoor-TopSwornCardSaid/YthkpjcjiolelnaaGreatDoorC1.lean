/- The code comes to the plain functions. -/
import Derived.Test.YthkpjcjiolelnaaGreatDoorY
import Derived.Test.YthkpjcjiolelnaaGreatDoorD
set_option linter.unusedSectionVars false
set_option linter.unusedVariables false
set_option linter.unusedSimpArgs false
set_option maxRecDepth 100000
open Go Go.Ab Go.Proofs Go.Proofs.YthkpjcjiolelnaaGreatDoor
open Go.Ab.Tr renaming node->N,leaf->L
namespace Prod
abbrev v2 {a b s:Type} (x:a×b×s):=x.2.2
abbrev AV {a b r s:Type} (x:a×b×r×s):=x.2.2.1
abbrev v3 {a b c s:Type} (x:a×b×c×s):=x.2.2.2
abbrev A4 {a b c r s:Type} (x:a×b×c×r×s):=x.2.2.2.1
abbrev v4 {a b c d s:Type} (x:a×b×c×d×s):=x.2.2.2.2
abbrev BA {a b c d r s:Type} (x:a×b×c×d×r×s):=x.2.2.2.2.1
abbrev v5 {a b c d e s:Type} (x:a×b×c×d×e×s):=x.2.2.2.2.2
abbrev BM {a b c d e r s:Type} (x:a×b×c×d×e×r×s):=x.2.2.2.2.2.1
abbrev v6 {a b c d e f s:Type} (x:a×b×c×d×e×f×s):=x.2.2.2.2.2.2
abbrev Bg {a b c d e f r s:Type} (x:a×b×c×d×e×f×r×s):=x.2.2.2.2.2.2.1
abbrev Jt {a b c d e f g s:Type} (x:a×b×c×d×e×f×g×s):=x.2.2.2.2.2.2.2
abbrev BT {a b c d e f g r s:Type} (x:a×b×c×d×e×f×g×r×s):=x.2.2.2.2.2.2.2.1
abbrev FI {a b c d e f g h s:Type} (x:a×b×c×d×e×f×g×h×s):=x.2.2.2.2.2.2.2.2
abbrev u8 {a b c d e f g h r s:Type} (x:a×b×c×d×e×f×g×h×r×s):=x.2.2.2.2.2.2.2.2.1
abbrev v9 {a b c d e f g h i s:Type} (x:a×b×c×d×e×f×g×h×i×s):=x.2.2.2.2.2.2.2.2.2
abbrev CJ {a b c d e f g h i r s:Type} (x:a×b×c×d×e×f×g×h×i×r×s):=x.2.2.2.2.2.2.2.2.2.1
abbrev v10 {a b c d e f g h i j s:Type} (x:a×b×c×d×e×f×g×h×i×j×s):=x.2.2.2.2.2.2.2.2.2.2
abbrev LK {a b c d e f g h i j r s:Type} (x:a×b×c×d×e×f×g×h×i×j×r×s):=x.2.2.2.2.2.2.2.2.2.2.1
abbrev v11 {a b c d e f g h i j k s:Type} (x:a×b×c×d×e×f×g×h×i×j×k×s):=x.2.2.2.2.2.2.2.2.2.2.2
abbrev Dv {a b c d e f g h i j k r s:Type} (x:a×b×c×d×e×f×g×h×i×j×k×r×s):=x.2.2.2.2.2.2.2.2.2.2.2.1
abbrev Dw {a b c d e f g h i j k l r s:Type} (x:a×b×c×d×e×f×g×h×i×j×k×l×r×s):=x.2.2.2.2.2.2.2.2.2.2.2.2.1
abbrev Dx {a b c d e f g h i j k l m r s:Type} (x:a×b×c×d×e×f×g×h×i×j×k×l×m×r×s):=x.2.2.2.2.2.2.2.2.2.2.2.2.2.1
abbrev Dy {a b c d e f g h i j k l m n r s:Type} (x:a×b×c×d×e×f×g×h×i×j×k×l×m×n×r×s):=x.2.2.2.2.2.2.2.2.2.2.2.2.2.2.1
abbrev Dz {a b c d e f g h i j k l m n o r s:Type} (x:a×b×c×d×e×f×g×h×i×j×k×l×m×n×o×r×s):=x.2.2.2.2.2.2.2.2.2.2.2.2.2.2.2.1
abbrev u16 {a b c d e f g h i j k l m n o p r s:Type} (x:a×b×c×d×e×f×g×h×i×j×k×l×m×n×o×p×r×s):=x.2.2.2.2.2.2.2.2.2.2.2.2.2.2.2.2.1
abbrev EA {a b c d e f g h i j k l m n o p q r s:Type} (x:a×b×c×d×e×f×g×h×i×j×k×l×m×n×o×p×q×r×s):=x.2.2.2.2.2.2.2.2.2.2.2.2.2.2.2.2.2.1
abbrev EB {a b c d e f g h i j k l m n o p q t r s:Type} (x:a×b×c×d×e×f×g×h×i×j×k×l×m×n×o×p×q×t×r×s):=x.2.2.2.2.2.2.2.2.2.2.2.2.2.2.2.2.2.2.1
abbrev EC {a b c d e f g h i j k l m n o p q t u r s:Type} (x:a×b×c×d×e×f×g×h×i×j×k×l×m×n×o×p×q×t×u×r×s):=x.2.2.2.2.2.2.2.2.2.2.2.2.2.2.2.2.2.2.2.1
abbrev ED {a b c d e f g h i j k l m n o p q t u v r s:Type} (x:a×b×c×d×e×f×g×h×i×j×k×l×m×n×o×p×q×t×u×v×r×s):=x.2.2.2.2.2.2.2.2.2.2.2.2.2.2.2.2.2.2.2.2.1
abbrev EE {a b c d e f g h i j k l m n o p q t u v w r s:Type} (x:a×b×c×d×e×f×g×h×i×j×k×l×m×n×o×p×q×t×u×v×w×r×s):=x.2.2.2.2.2.2.2.2.2.2.2.2.2.2.2.2.2.2.2.2.2.1
abbrev Dp {a b c d e f g h i j k l m n o p q t u v w x r s:Type} (x:a×b×c×d×e×f×g×h×i×j×k×l×m×n×o×p×q×t×u×v×w×x×r×s):=x.2.2.2.2.2.2.2.2.2.2.2.2.2.2.2.2.2.2.2.2.2.2.1
abbrev v23 {a b c d e f g h i j k l m n o p q t u v w x y s:Type} (x:a×b×c×d×e×f×g×h×i×j×k×l×m×n×o×p×q×t×u×v×w×x×y×s):=x.2.2.2.2.2.2.2.2.2.2.2.2.2.2.2.2.2.2.2.2.2.2.2
abbrev HB {a b c d e f g h i j k l m n o p q t u v w x y r s:Type} (x:a×b×c×d×e×f×g×h×i×j×k×l×m×n×o×p×q×t×u×v×w×x×y×r×s):=x.2.2.2.2.2.2.2.2.2.2.2.2.2.2.2.2.2.2.2.2.2.2.2.1
abbrev v24 {a b c d e f g h i j k l m n o p q t u v w x y z s:Type} (x:a×b×c×d×e×f×g×h×i×j×k×l×m×n×o×p×q×t×u×v×w×x×y×z×s):=x.2.2.2.2.2.2.2.2.2.2.2.2.2.2.2.2.2.2.2.2.2.2.2.2
end Prod
namespace Nore
noncomputable section
abbrev WA:Type:=Int×Int×BQ
abbrev Vz:Type:=Int×A6×CR
abbrev Vy:Type:=Int×(List AE)×Int
abbrev Vx:Type:=Int×(List Ak)×Int
abbrev Vw:Type:=Int×Int×Int×(List Int)
abbrev Vu:Type:=Int×Int×(List Int)×Int
abbrev Vt:Type:=Int×Int×Int×Int×A6
abbrev Vs:Type:=Int×(List AN)×Int×Int
abbrev S4:Type:=Int×ByteArray×ByteArray×Nat
abbrev MD:Type:=Int×(List ByteArray)×AQ
abbrev NA:Type:=Int×(List Int)×Int×Int×Int
abbrev Vr:Type:=Int×(List ByteArray)×BC
abbrev Vq:Type:=ByteArray×Int×(List ByteArray)
abbrev Vp:Type:=Int×Int×(List AE)×Int×Int
abbrev Vo:Type:=Int×(List Aa)×Int×AQ
abbrev Vn:Type:=Int×(List A7)×Int×A7
abbrev Vm:Type:=Int×(List AN)×Int×AQ
abbrev Vl:Type:=Int×(List A9)×Int×AQ
abbrev Vk:Type:=Int×(List A9)×Int×A9
abbrev Vj:Type:=Int×Int×(List Int)×A6×A6
abbrev Vi:Type:=Int×Int×(List ByteArray)×AQ
abbrev Vh:Type:=Int×Int×Int×Int×A6×BQ
abbrev Vg:Type:=Int×(List Int)×Int×Int×Int×AQ
abbrev Vf:Type:=Int×(List Int)×(List Int)×(List Int)×Int
abbrev Pv:Type:=Int×(List Ak)×Int×Ah×BC
abbrev WO:Type:=Int×Int×Bx×AQ×(List Int)
abbrev Sb:Type:=Int×Int×AE×BK×AE×AE×Bool×Bool
abbrev WN:Type:=Int×Int×Int×Int×AF×(List (Int×Int))
abbrev WM:Type:=Int×(List Int)×Bx×(List Aa)×AQ
abbrev WL:Type:=Int×Ah×BC×CG×(List Ak)
abbrev WK:Type:=Int×Int×Int×Int×(List Int)×Bx×AQ
abbrev aZ:Type:=Int×Int×Int×(List ByteArray)×(List ByteArray)×A7
abbrev WJ:Type:=Int×Int×Bool×Bool×A6×AE×BK×AE×AE
abbrev Sa:Type:=Int×Int×Int×AE×BK×AE×AE×Bool×Int×Bool
abbrev aY:Type:=Int×Int×Int×(List ByteArray)×BC×(List ByteArray)×A7
abbrev WI:Type:=Int×Int×Bool×Bool×Int×A6×Int×AE×BK×AE×AE
abbrev WH:Type:=Int×Int×(List A7)×(List Int)×(List Int)×BC×(List Int)
abbrev S9:Type:=Int×Int×(List AG)×(Nat->AE)×AF×(Nat->AE)
abbrev WG:Type:=Int×Int×AE×AE×BK×(List (Int×Int))×BK×Bool×Bool
abbrev S8:Type:=Int×Int×Int×(List AG)×(Nat->AE)×AF×(Nat->AE)
abbrev S7:Type:=(List Ak)×Int×Int×AE×BK×BQ×AE×AE×Bool×Bool
abbrev WE:Type:=Int×Int×AE×AE×Int×BK×(List (Int×Int))×Int×BK×Bool×Bool
abbrev WD:Type:=(List Ak)×Int×Int×Bool×Bool×A6×AE×BK×BQ×AE×AE
abbrev WC:Type:=Int×(List AN)×Int×AF×AF×(Nat->AE)×Bool×AF
abbrev S6:Type:=((Nat->AE)×Int×(List AG)×AF×Bool×AF×AF)
abbrev aX:Type:=AG×AF×Bool×Bool×AF×AG×AF×AN
abbrev S5:Type:=Int×Int×Int×Int×(List Ak)×(List Aa)×BC×A6×AQ×C5
abbrev Pu:Type:=(List AG)×Int×Int×Int×Int×(List AG)×(Nat->AE)×AF×(Nat->AE)
abbrev KX:Type:=AG×AF×Bool×(Nat->AE)×Bool×AF×AG×AF×AN
abbrev WB:Type:=Int×Int×(List Ak)×Int×AE×AE×BK×(List (Int×Int))×BK×Bool×Bool×BQ
abbrev Pt:Type:=Int×Int×Int×Int×Int×Int×(List AG)×(List AG)×(Nat->AE)×AF×(Nat->AE)
abbrev S3:Type:=((Bool×AF×Bool×AF×AF)⊕(Bool×AF×Bool×AF×AF))
abbrev aW:Type:=AG×AF×Bool×Bool×AF×AG×(List AG)×(List AG)×AF×AN
abbrev aV:Type:=(List AG)×AG×AF×Bool×(Nat->AE)×Bool×AF×AG×(List AG)×AF×AN
abbrev aU:Type:=AG×AF×(List AG)×Bool×(Nat->AE)×Bool×AF×AG×AF×AN×(List AG)
abbrev aT:Type:=AG×AF×Bool×(Nat->AE)×Bool×AF×(List AG)×AG×AF×AN×(List AG)
abbrev Ve:Type:=Int×Int×Int×(Nat->AE)×AG×AF×Bool×(Nat->AE)×Bool×Int×AF×(List AN)×(List AN)×Aa×(List AG)×AF×AF×Int×Int×Bool×(Nat->AE)×Bool×Int×Bool
abbrev ON:Type:=(Nat->AE)×AG×AF×Bool×(Nat->AE)×(Nat->AE)×Bool×Int×AF×(List AN)×AG×(List AN)×Aa×(List AG)×AF×AF×AN×Int×Int×Bool×(Nat->AE)×Bool×Int×Bool
abbrev S2:Type:=Int×Int×Int×(Nat->AE)×AG×AF×Bool×(Nat->AE)×Bool×Int×AF×(List AN)×(List AN)×Aa×(List AG)×AF×AF×Int×Int×Bool×(Nat->AE)×Bool×Int×Bool×(List AG)
abbrev OM:Type:=(Nat->AE)×AG×AF×Bool×(Nat->AE)×(Nat->AE)×Bool×Int×AF×(List AN)×AG×(List AN)×Aa×(List AG)×AF×AF×AN×Int×Int×Bool×(Nat->AE)×Bool×Int×Bool×(List AG)
abbrev Gb:Option (AJ S):=some (.bool false)
abbrev Be:Option (AJ S):=some (.int .i64 0)
abbrev v12:Option (AJ S):=some (.AR (.st 35) [])
abbrev v11:Option (AJ S):=some (.AR (.st 19) [])
abbrev v10:Option (AJ S):=some (.AR (.st 29) [])
abbrev KZ:Option (AJ S):=some (.AR (.int .i64) [])
abbrev Zu:Option (A3 S):=some (.row 9 .str [] 0 0)
abbrev Zt:Option (A3 S):=some (.row 9 .str [] 1 1)
abbrev pC:Option (A3 S):=some (.row 9 .str [] 1 0)
abbrev bC:Option (AJ S):=some (.str ByteArray.empty)
abbrev Pn:Option (A3 S):=some (.cells 211 [(.map 8)])
abbrev ID:Option (A3 S):=some (.cells 217 [(.B2 3)])
abbrev Aea:Option (A3 S):=some (.cells 197 [(.B2 12)])
abbrev Zs:Option (A3 S):=some (.cells 197 [(.B2 16)])
abbrev SO:Option (A3 S):=some (.cells 197 [(.B2 13)])
abbrev AsK:Option (A3 S):=some (.row 63 (.st 28) [] 1 0)
abbrev VY:Option (A3 S):=some (.row 63 (.st 28) [] 0 0)
abbrev F7:Option (A3 S):=some (.row 83 (.st 19) [] 1 0)
abbrev MC:Option (A3 S):=some (.row 226 (.st 35) [] 0 0)
abbrev MB:Option (A3 S):=some (.row 226 (.st 35) [] 1 1)
abbrev DZ:Option (A3 S):=some (.cells 4 [(.bool false)])
abbrev AsJ:Option (A3 S):=some (.Ez ByteArray.empty 0)
abbrev C4:Option (A3 S):=some (.cells 3 [(.int .i64 0)])
abbrev Ga:Option (A3 S):=some (.row 3 (.int .i64) [] 1 0)
abbrev rR:Option (AJ S):=some (.agg [(.BR 31 (T.Bi 31))])
abbrev JS:Option (A3 S):=some (.cells 219 [(.AR (.st 35) [])])
abbrev rQ:Option (AJ S):=some (.fn (.func 138) [] [(.ptr 3 0)])
abbrev VX:Option (A3 S):=some (.map (.int .i64) (.int .i64) [])
abbrev rO:Option (AJ S):=some (.fn (.func 138) [] [(.ptr 6 0)])
abbrev GM:Option (A3 S):=some (.cells 28 [(.BR 5 (T.Bi 5))])
abbrev GD:Option (A3 S):=some (.cells 32 [(.BR 2 (T.Bi 2))])
abbrev AsM:Option (A3 S):=some (.cells 46 [(.BR 27 (T.Bi 27))])
abbrev IT:Option (A3 S):=some (.cells 63 [(.BR 28 (T.Bi 28))])
abbrev SS:Option (A3 S):=some (.cells 37 [(.BR 24 (T.Bi 24))])
abbrev LH:Option (A3 S):=some (.cells 34 [(.BR 23 (T.Bi 23))])
abbrev H2:Option (A3 S):=some (.cells 30 [(.BR 22 (T.Bi 22))])
abbrev IE:Option (A3 S):=some (.cells 83 [(.BR 19 (T.Bi 19))])
abbrev JT:Option (A3 S):=some (.cells 71 [(.BR 18 (T.Bi 18))])
abbrev os:Option (A3 S):=some (.cells 25 [(.BR 20 (T.Bi 20))])
abbrev or:Option (A3 S):=some (.cells 226 [(.BR 35 (T.Bi 35))])
abbrev CM:Option (A3 S):=some (.cells 141 [(.BR 34 (T.Bi 34))])
abbrev op:Option (A3 S):=some (.cells 121 [(.BR 31 (T.Bi 31))])
abbrev Mw:Option (A3 S):=some (.cells 135 [(.BR 33 (T.Bi 33))])
abbrev on:Option (A3 S):=some (.cells 127 [(.BR 32 (T.Bi 32))])
abbrev SQ:Option (A3 S):=some (.cells 148 [(.BR 21 (T.Bi 21))])
abbrev bE:Option (AJ S):=some (.Ap [(.int .i64 0),(.int .i64 0)])
abbrev ok:Option (A3 S):=some (.cells 199 [(.fn (.func 126) [] [])])
abbrev Zv:Option (A3 S):=some (.cells 163 [(.fn (.func 138) [] [(.ptr 1 0)])])
abbrev VZ:Option (A3 S):=some (.cells 163 [(.fn (.func 138) [] [(.ptr 3 0)])])
abbrev SP:Option (A3 S):=some (.cells 152 [(.fn (.func 123) [] [(.ptr 0 0)])])
abbrev Po:Option (A3 S):=some (.cells 163 [(.fn (.func 138) [] [(.ptr 4 0)])])
abbrev of:Option (A3 S):=some (.cells 163 [(.fn (.func 138) [] [(.ptr 6 0)])])
abbrev WS:Option (AJ S):=some (.agg [(.arr (.st 5) 10 (fun _=>H3 T (.st 5)))])
abbrev WR:Option (AJ S):=some (.fn (.func 176) [] [(.ptr 4 0),(.ptr 2 0),(.ptr 0 0)])
abbrev CQ:Option (A3 S):=some (.cells 171 [(.arr (.st 5) 10 (fun _=>H3 T (.st 5)))])
abbrev bD:Option (AJ S):=some (.fn (.func 200) [] [(.ptr 40 0),(.ptr 41 0),(.ptr 42 0)])
abbrev Fz:Option (A3 S):=some (.cells 218 [(.fn (.func 148) [] [(.ptr 5 0),(.ptr 4 0),(.ptr 0 0)])])
abbrev Gw:Option (A3 S):=some (.cells 137 [(.fn (.func 176) [] [(.ptr 7 0),(.ptr 5 0),(.ptr 3 0)])])
abbrev Hk:Option (A3 S):=some (.loop 75 (N (N L (some (.ptr 2 0)) L) (some (.agg [(.BR 34 (T.Bi 34))])) (N (N L (some (.fn (.func 147) [] [(.ptr 5 0)])) L) (some (.ptr 1 0)) L)) (5::[]) .skip .skip 0 .ret (0::(75::[])) (0::(1::(0::(1::[])))))
abbrev JR:Option (A3 S):=some (.loop 75 (N (N L (some (.ptr 2 0)) L) (some (.agg [(.BR 34 (T.Bi 34))])) (N (N L (some (.fn (.func 147) [] [(.ptr 1 0)])) L) (some (.ptr 0 0)) L)) (5::[]) .skip .skip 0 .normal (0::(75::[])) (0::(1::(0::(1::[])))))
abbrev GL:Option (A3 S):=some (.loop 75 (N (N L (some (.ptr 2 0)) L) (some (.agg [(.BR 34 (T.Bi 34))])) (N (N L (some (.fn (.func 147) [] [(.ptr 5 0)])) L) (some (.ptr 1 0)) L)) (5::[]) .skip .skip 0 .normal (0::(75::[])) (0::(1::(0::(1::[])))))
abbrev Fi:Option (A3 S):=some (.loop 124 (N (N (N L (some (.ptr 1 0)) L) (some (.ptr 8 0)) L) (some (.B2 13)) (N (N (N L (some (.fn (.func 176) [] [(.ptr 7 0),(.ptr 5 0),(.ptr 3 0)])) L) (some (.ptr 14 0)) L) (some (.ptr 2 0)) L)) (9::[]) .skip .skip 0 .busy (0::(124::(0::(76::[])))) (0::(1::(1::(0::(1::[]))))))
abbrev Fh:Option (A3 S):=some (.loop 124 (N (N (N L (some (.ptr 1 0)) L) (some (.ptr 8 0)) L) (some (.B2 13)) (N (N (N L (some (.fn (.func 176) [] [(.ptr 7 0),(.ptr 5 0),(.ptr 3 0)])) L) (some (.ptr 14 0)) L) (some (.ptr 2 0)) L)) (9::[]) .skip .skip 0 .normal (0::(124::(0::(76::[])))) (0::(1::(1::(0::(1::[]))))))
abbrev DL:Option (A3 S):=some (.loop 76 (N (N (N L (some (.ptr 9 0)) L) (some (.fn (.func 123) [] [(.ptr 0 0)])) (N L (some (.ptr 11 0)) L)) (some (.fn (.func 124) [] [(.ptr 8 0),(.ptr 2 0),(.ptr 1 0)])) (N (N (N L (some (.fn (.func 124) [] [(.ptr 8 0),(.ptr 2 0),(.ptr 1 0)])) L) (some (.ptr 10 0)) L) none L)) (9::[]) .skip .skip 0 .normal (0::(76::[])) (0::(1::(0::(1::[])))))
abbrev Bs:Option (A3 S):=some (.loop 94 (N (N (N (N L (some (.ptr 9 0)) L) (some (.ptr 5 0)) L) WR (N (N (N L WR L) none L) (some (.ptr 6 0)) L)) rR (N L Gb (N L (some .Aq) L))) (18::[]) .skip .skip 0 .normal (0::(94::[])) (0::(1::(0::(1::(1::[]))))))
abbrev BN:Option (A3 S):=some (.loop 148 (N (N (N (N L (some (.ptr 7 0)) L) (some (.ptr 5 0)) (N L Gb (N (N L bD L) none L))) WS (N (N L (some (.ptr 9 0)) L) (some (.ptr 0 0)) (N L none (N L Gb L)))) Be (N (N (N L (some (.ptr 8 0)) (N L Gb L)) (some (.ptr 4 0)) (N L (some (.ptr 32 0)) L)) (some .FX) (N (N L (some (.ptr 17 0)) L) (some (.ptr 6 0)) L))) (44::[]) .skip .skip 0 .ret (0::(148::[])) (0::(1::(0::(1::(1::(1::(1::(1::[])))))))))
abbrev Bp:Option (A3 S):=some (.loop 148 (N (N (N (N L (some (.ptr 7 0)) L) (some (.ptr 5 0)) (N L Gb (N (N L bD L) none L))) WS (N (N L (some (.ptr 9 0)) L) (some (.ptr 0 0)) (N L none (N L Gb L)))) Be (N (N (N L (some (.ptr 8 0)) (N L Gb L)) (some (.ptr 4 0)) (N L (some (.ptr 32 0)) L)) v12 (N (N L (some (.ptr 17 0)) L) (some (.ptr 6 0)) L))) (44::[]) .skip .skip 0 .ret (0::(148::[])) (0::(1::(0::(1::(1::(1::(1::(1::[])))))))))
abbrev VW:Tr (A3 S):=N (N (N L Ga L) none L) none L
abbrev pB:Tr (A3 S):=N (N (N L AsJ L) none L) none L
abbrev Pm:Tr (A3 S):=N (N L none (N L Ga L)) none L
abbrev Sd:Tr (AJ S):=N (N (N L Be L) none L) Be L
abbrev Sc:Tr (AJ S):=N (N L none (N L Be L)) none L
abbrev Ip:Tr (AJ S):=N (N (N L Be L) none L) none L
abbrev v28:Tr (AJ S):=N L none (N (N L Be L) none L)
abbrev Pw:Tr (AJ S):=N (N L Be L) (some (.ptr 1 0)) L
abbrev Zr:Tr (A3 S):=N L none (N (N (N L JT L) JT L) none L)
abbrev v25:Tr (AJ S):=N (N (N L Be L) none L) none (N L Be L)
abbrev SN:Tr (A3 S):=N L none (N (N L none (N L SQ L)) none L)
abbrev Pl:Tr (A3 S):=N (N L none (N (N (N L pC L) none L) none L)) os L
abbrev v22:Tr (AJ S):=N (N (N L Be L) none L) none (N (N L Be L) Be L)
abbrev v21:Tr (AJ S):=N (N L none (N L Be L)) none (N (N L Be L) none L)
abbrev Ae9:Tr (A3 S):=N (N L none (N (N L none (N L JT L)) none L)) none L
abbrev AdP:Tr (A3 S):=N L none (N L none (N (N (N L JT L) none L) none L))
abbrev AdO:Tr (A3 S):=N (N (N L JR L) CM (N L CQ L)) DZ (N (N L ID L) CM L)
abbrev AsI:Tr (A3 S):=N (N (N L Hk L) DZ (N L CM L)) Fz (N (N L ID L) CM L)
abbrev pA:Tr (A3 S):=N (N (N L GL L) DZ (N L CM L)) Fz (N (N L ID L) CM L)
abbrev Aia:Tr (AJ S):=N (N (N L Be L) none L) (some (.ptr 0 0)) (N L Be L)
abbrev Ai9:Tr (AJ S):=N (N L (some (.ptr 5 0)) L) WS (N L (some (.ptr 0 0)) L)
abbrev o9:Tr (A3 S):=N (N (N L Ga L) none L) none Pm
abbrev AdN:Tr (A3 S):=N (N (N (N (N (N L pC L) none L) none L) none L) none L) H2 L
abbrev AdM:Tr (A3 S):=N L none (N L none SN)
abbrev Ai8:Tr (AJ S):=N Ip none (N L none (N L Be L))
abbrev Ai7:Tr (AJ S):=N L (some (.Ap [(.agg [(.BR 5 (T.Bi 5))]),(.bool false)])) L
abbrev AdL:Tr (A3 S):=N (N (N L Ga L) none L) none (N L none (N L none (N (N L Ga L) none L)))
abbrev AdK:Tr (A3 S):=N (N L none (N L Ga L)) none (N L none Pm)
abbrev Ai6:Tr (AJ S):=N Sc none (N L v10 (N (N L Be L) none L))
abbrev AdJ:Tr (A3 S):=N (N (N (N (N L GD L) none L) none L) GD (N (N L none (N L GD L)) none L)) on L
abbrev AdI:Tr (A3 S):=N (N (N (N L of L) ok L) DZ (N L Po L)) GD (N (N (N L Gw L) GM L) op (N L GM L))
abbrev AdH:Tr (A3 S):=N VW none SN
abbrev rN:Tr (AJ S):=N L none (N (N (N L Be L) (some (.ptr 1 0)) (N L Be L)) v12 (N L (some (.ptr 2 0)) L))
abbrev o8:Tr (A3 S):=N (N (N L Ga (N L none (N (N L Ga L) none L))) none L) none Pm
abbrev AdG:Tr (A3 S):=N (N L LH L) H2 (N L (some (.cells 41 [(.BR 25 (T.Bi 25))])) (N L (some (.row 78 (.st 29) [] 1 0)) L))
abbrev AdF:Tr (A3 S):=N (N (N (N L Ga L) none L) none Pm) H2 (N VW none L)
abbrev o7:Tr (A3 S):=N (N (N L none (N L none (N (N (N (N L AsK L) none L) none L) none L))) H2 (N L none (N L none (N L none (N L GD L))))) os (N L AsM L)
abbrev o6:Tr (A3 S):=N (N (N (N L Ga L) none (N (N L none (N L Ga L)) none (N (N L SQ L) none L))) none L) none SN
abbrev AdE:Tr (A3 S):=N (N L none (N (N (N L Zt L) none L) none L)) os (N (N L none (N L none (N L JT L))) none (N L none (N (N (N L Zu L) none L) none L)))
abbrev rM:Tr (AJ S):=N (N v28 none L) none (N (N (N L Be L) (some (.ptr 1 0)) (N (N L Be L) none L)) v12 (N L (some (.ptr 2 0)) L))
abbrev Zm:Tr (A3 S):=N (N (N (N (N (N L Zt L) none L) none L) none L) none L) H2 (N (N L none (N (N L none (N L Zu L)) none L)) none (N (N L none (N (N L SQ L) none L)) none L))
abbrev Ae8:Tr (A3 S):=N (N (N (N (N (N (N L MB L) F7 L) IT L) none L) JS (N (N L CM L) none L)) ID L) CM (N (N L none (N (N (N L IE L) C4 L) none L)) C4 (N L none (N (N L BN L) none L)))
abbrev Ae7:Tr (A3 S):=N (N (N (N (N (N (N L MB L) F7 L) IT L) none L) JS (N (N L CM L) none L)) ID L) CM (N (N L none (N (N (N L IE L) C4 L) none L)) C4 (N L none (N (N L Bp L) none L)))
abbrev Ae6:Tr (A3 S):=N (N (N (N L of L) ok (N L DZ L)) DZ (N (N L SP L) Po (N L DL L))) GD (N (N (N (N L Fi L) Gw L) GM L) op (N (N (N (N (N L Mw L) none L) none L) GM L) GM (N L SO L)))
abbrev Ae5:Tr (A3 S):=N (N (N (N (N (N L F7 L) IT L) none L) JS (N (N L CM L) none L)) ID L) CM (N (N L none (N (N (N L IE L) C4 L) none L)) C4 (N L none (N (N (N (N L MB L) none L) BN L) none L)))
abbrev Ae4:Tr (A3 S):=N (N (N (N (N (N L F7 L) IT L) none L) JS (N (N L CM L) none L)) ID L) CM (N (N L none (N (N (N L IE L) C4 L) none L)) C4 (N L none (N (N (N (N L MB L) none L) Bp L) none L)))
abbrev Ae3:Tr (A3 S):=N (N (N (N (N (N L F7 L) IT L) none L) JS (N (N L CM L) none L)) ID L) CM (N (N L none (N (N (N L IE L) C4 L) none (N (N (N L MC L) none L) none L))) C4 (N L none (N (N L BN L) none L)))
abbrev Ae2:Tr (A3 S):=N (N (N (N (N (N L F7 L) IT L) none L) JS (N (N L CM L) none L)) ID L) CM (N (N L none (N (N (N L IE L) C4 L) none (N (N (N L MC L) none L) none L))) C4 (N L none (N (N L Bp L) none L)))
abbrev Ae1:Tr (A3 S):=N (N (N L CQ (N L none (N L or L))) Hk L) DZ (N (N (N (N L none (N L CQ L)) CQ L) DZ (N (N L C4 L) none L)) CM (N (N (N (N L F7 L) none L) none L) none (N L none (N (N L or L) none (N L MC L)))))
abbrev Ae0:Tr (A3 S):=N (N (N L CQ (N L none (N L or L))) GL L) DZ (N (N (N (N L none (N L CQ L)) CQ L) DZ (N (N L C4 L) none L)) CM (N (N (N (N L F7 L) none L) none L) none (N L none (N (N L or L) none (N L MC L)))))
abbrev AdZ:Tr (A3 S):=N (N (N L CQ (N L none (N L or L))) Hk L) DZ (N (N (N (N L none (N L CQ L)) CQ L) DZ (N (N L C4 L) none L)) CM (N (N (N (N L F7 L) none L) none L) none (N L none (N (N (N L MB L) or L) none L))))
abbrev AdY:Tr (A3 S):=N (N (N L CQ (N L none (N L or L))) GL L) DZ (N (N (N (N L none (N L CQ L)) CQ L) DZ (N (N L C4 L) none L)) CM (N (N (N (N L F7 L) none L) none L) none (N L none (N (N (N L MB L) or L) none L))))
abbrev Aid:Tr (AJ S):=N (N (N L (some (.ptr 42 0)) L) none (N (N L none (N L Be L)) (some (.ptr 55 0)) L)) (some (.B2 46)) (N (N (N L none (N L (some (.rs 69 0)) L)) none L) (some (.ptr 41 0)) (N (N L none (N L Be L)) Be L))
abbrev AdX:Tr (A3 S):=N (N (N (N (N (N L F7 L) IT L) none L) JS (N (N L CM L) none L)) ID (N L none (N (N (N (N L MC L) none L) none L) none L))) CM (N (N L none (N (N (N L IE L) C4 L) none L)) C4 (N L none (N (N L BN L) none L)))
abbrev AdW:Tr (A3 S):=N (N (N (N (N (N L F7 L) IT L) none L) JS (N (N L CM L) none L)) ID (N L none (N (N (N (N L MC L) none L) none L) none L))) CM (N (N L none (N (N (N L IE L) C4 L) none L)) C4 (N L none (N (N L Bp L) none L)))
abbrev AdV:Tr (A3 S):=N (N (N (N L none (N (N (N L MB L) none L) none L)) CQ (N L none (N L or L))) Hk L) DZ (N (N (N (N L none (N L CQ L)) CQ L) DZ (N (N L C4 L) none L)) CM (N (N (N (N L F7 L) none L) none L) none (N L none (N (N L or L) none L))))
abbrev AdU:Tr (A3 S):=N (N (N (N L none (N (N (N L MB L) none L) none L)) CQ (N L none (N L or L))) GL L) DZ (N (N (N (N L none (N L CQ L)) CQ L) DZ (N (N L C4 L) none L)) CM (N (N (N (N L F7 L) none L) none L) none (N L none (N (N L or L) none L))))
abbrev AdT:Tr (A3 S):=N (N (N L CQ (N L none (N L or L))) Hk (N L none (N (N (N (N L MC L) none L) none L) none L))) DZ (N (N (N (N L none (N L CQ L)) CQ L) DZ (N (N L C4 L) none L)) CM (N (N (N (N L F7 L) none L) none L) none (N L none (N (N L or L) none L))))
abbrev AdS:Tr (A3 S):=N (N (N L CQ (N L none (N L or L))) GL (N L none (N (N (N (N L MC L) none L) none L) none L))) DZ (N (N (N (N L none (N L CQ L)) CQ L) DZ (N (N L C4 L) none L)) CM (N (N (N (N L F7 L) none L) none L) none (N L none (N (N L or L) none L))))
abbrev Aic:Tr (AJ S):=N (N (N (N L none (N L none (N (N L v12 L) none L))) none L) none (N (N L none v28) none L)) none (N (N (N L Be v28) (some (.ptr 1 0)) (N L Be L)) v12 (N L (some (.ptr 2 0)) L))
abbrev Aib:Tr (AJ S):=N (N (N v28 none (N (N L Be L) none L)) none (N (N L Be L) none L)) none (N (N (N L Be (N (N L Be L) none L)) (some (.ptr 1 0)) (N (N L Be L) none L)) v12 (N L (some (.ptr 2 0)) (N (N (N L v12 L) none L) none L)))
abbrev Zq:Tr (A3 S):=N (N (N (N L CQ (N L none (N L or L))) Hk L) DZ (N (N (N (N L none (N L CQ L)) CQ L) DZ (N (N L C4 L) none L)) CM (N (N (N (N L F7 L) none L) none L) none (N L none (N (N L or L) none L))))) Fz (N (N (N (N (N (N L F7 L) IT L) none L) JS (N (N L CM L) none L)) ID L) CM (N (N L none (N (N (N L IE L) C4 L) none L)) C4 (N L none (N (N L BN L) none L))))
abbrev Zp:Tr (A3 S):=N (N (N (N L CQ (N L none (N L or L))) GL L) DZ (N (N (N (N L none (N L CQ L)) CQ L) DZ (N (N L C4 L) none L)) CM (N (N (N (N L F7 L) none L) none L) none (N L none (N (N L or L) none L))))) Fz (N (N (N (N (N (N L F7 L) IT L) none L) JS (N (N L CM L) none L)) ID L) CM (N (N L none (N (N (N L IE L) C4 L) none L)) C4 (N L none (N (N L BN L) none L))))
abbrev Zo:Tr (A3 S):=N (N (N (N L CQ (N L none (N L or L))) Hk L) DZ (N (N (N (N L none (N L CQ L)) CQ L) DZ (N (N L C4 L) none L)) CM (N (N (N (N L F7 L) none L) none L) none (N L none (N (N L or L) none L))))) Fz (N (N (N (N (N (N L F7 L) IT L) none L) JS (N (N L CM L) none L)) ID L) CM (N (N L none (N (N (N L IE L) C4 L) none L)) C4 (N L none (N (N L Bp L) none L))))
abbrev Zn:Tr (A3 S):=N (N (N (N L CQ (N L none (N L or L))) GL L) DZ (N (N (N (N L none (N L CQ L)) CQ L) DZ (N (N L C4 L) none L)) CM (N (N (N (N L F7 L) none L) none L) none (N L none (N (N L or L) none L))))) Fz (N (N (N (N (N (N L F7 L) IT L) none L) JS (N (N L CM L) none L)) ID L) CM (N (N L none (N (N (N L IE L) C4 L) none L)) C4 (N L none (N (N L Bp L) none L))))
abbrev AdR:Tr (A3 S):=N (N (N (N (N L (some (.loop 176 (N (N (N (N L rQ L) (some (.ptr 0 0)) L) (some (.ptr 4 0)) L) (some (.B2 12)) (N (N L (some (.ptr 13 0)) L) (some (.ptr 2 0)) L)) (8::[]) .skip .skip 0 .normal (0::(176::(0::(94::[])))) (0::(1::(1::[]))))) L) none L) GM L) GM (N (N L Pn L) op (N L Aea L))) ok (N (N (N L VX L) VZ (N L Bs L)) Zv (N L DZ L))
abbrev AdQ:Tr (A3 S):=N (N (N L GM L) GM (N (N L Pn L) op L)) ok (N (N (N L VX L) VZ (N L (some (.loop 94 (N (N (N (N L (some (.ptr 9 0)) L) (some (.ptr 5 0)) L) WR (N (N (N L WR L) none L) (some (.ptr 6 0)) L)) rR (N L Gb (N L (some .Aq) L))) (18::[]) .skip .skip 0 .busy (0::(94::[])) (0::(1::(0::(1::(1::[]))))))) L)) Zv (N L DZ (N L none (N L none (N L Mw L)))))
abbrev AdD:Tr (A3 S):=N (N (N (N L of L) ok (N (N L (some (.loop 176 (N (N (N (N L rO L) (some (.ptr 3 0)) L) (some (.ptr 7 0)) L) (some (.B2 16)) (N (N L (some (.ptr 17 0)) L) (some (.ptr 5 0)) L)) (8::[]) .skip .skip 0 .normal (0::(176::(0::(124::(0::(76::[])))))) (0::(1::(1::[]))))) L) DZ L)) DZ (N (N (N L Zs L) SP L) Po (N L DL L))) GD (N (N (N (N L Fh L) Gw L) GM L) op (N (N L GM L) GM (N L SO L)))
abbrev AdC:Tr (A3 S):=N (N (N (N L CQ (N L none (N L or L))) GL L) DZ (N (N (N L CQ L) DZ (N (N L C4 L) none L)) CM (N (N (N (N L F7 L) none L) none L) none L))) Fz (N (N (N (N (N (N L F7 L) IT L) none L) JS (N (N L CM L) none L)) ID L) CM (N (N L none (N (N L C4 L) none L)) C4 (N L none (N (N L (some (.loop 148 (N (N (N (N L (some (.ptr 7 0)) L) (some (.ptr 5 0)) (N L Gb (N (N L bD L) none L))) WS (N (N L (some (.ptr 9 0)) L) (some (.ptr 0 0)) (N L none (N L Gb L)))) Be (N (N (N L (some (.ptr 8 0)) (N L Gb L)) (some (.ptr 4 0)) (N L (some (.ptr 32 0)) L)) v12 (N (N L (some (.ptr 17 0)) L) (some (.ptr 6 0)) L))) (44::[]) .skip .skip 0 .normal (0::(148::[])) (0::(1::(0::(1::(1::(1::(1::(1::[])))))))))) L) none L))))
abbrev AdB:Tr (A3 S):=N (N (N (N L CQ (N L none (N L or L))) GL L) DZ (N (N (N L CQ L) DZ (N (N L C4 L) none L)) CM (N (N (N (N L F7 L) none L) none L) none L))) Fz (N (N (N (N (N (N L F7 L) IT L) none L) JS (N (N L CM L) none L)) ID L) CM (N (N L none (N (N L C4 L) none L)) C4 (N L none (N (N L (some (.loop 148 (N (N (N (N L (some (.ptr 7 0)) L) (some (.ptr 5 0)) (N L Gb (N (N L bD L) none L))) WS (N (N L (some (.ptr 9 0)) L) (some (.ptr 0 0)) (N L none (N L Gb L)))) Be (N (N (N L (some (.ptr 8 0)) (N L Gb L)) (some (.ptr 4 0)) (N L (some (.ptr 32 0)) L)) (some .FX) (N (N L (some (.ptr 17 0)) L) (some (.ptr 6 0)) L))) (44::[]) .skip .skip 0 .normal (0::(148::[])) (0::(1::(0::(1::(1::(1::(1::(1::[])))))))))) L) none L))))
abbrev Zl:Tr (A3 S):=N (N (N (N (N L (some (.loop 176 (N (N (N (N L rQ L) (some (.ptr 0 0)) L) (some (.ptr 4 0)) L) (some (.B2 12)) (N (N L (some (.ptr 13 0)) L) (some (.ptr 2 0)) L)) (8::[]) .skip .skip 0 .busy (0::(176::(0::(94::[])))) (0::(1::(1::[]))))) L) none L) GM L) GM (N (N (N (N L C4 L) none L) Pn L) op (N L Aea L))) ok (N (N (N L VX L) VZ (N (N (N L (some (.loop 176 (N (N (N (N L rQ L) (some (.ptr 0 0)) L) (some (.ptr 4 0)) (N (N L (some (.fn (.func 138) [] [(.ptr 1 0)])) L) (some (.ptr 33 0)) L)) (some (.B2 12)) (N (N (N L Be L) (some (.ptr 13 0)) L) (some (.ptr 2 0)) L)) (10::[]) .skip .skip 2 .normal (2::(15::(5::(3::(138::(0::(176::(0::(94::[]))))))))) (0::(1::(0::(1::(0::(1::(1::[]))))))))) L) none L) Bs L)) Zv (N L DZ L))
abbrev AdA:Tr (A3 S):=N (N (N (N L of L) ok (N (N L (some (.loop 176 (N (N (N (N L rO L) (some (.ptr 3 0)) L) (some (.ptr 7 0)) L) (some (.B2 16)) (N (N L (some (.ptr 17 0)) L) (some (.ptr 5 0)) L)) (8::[]) .skip .skip 0 .busy (0::(176::(0::(124::(0::(76::[])))))) (0::(1::(1::[]))))) L) DZ L)) DZ (N (N (N L Zs L) SP L) Po (N (N (N L C4 L) none L) DL L))) GD (N (N (N (N L Fh L) Gw (N (N L (some (.loop 176 (N (N (N (N L rO L) (some (.ptr 3 0)) L) (some (.ptr 7 0)) (N (N L (some (.fn (.func 138) [] [(.ptr 4 0)])) L) (some (.ptr 37 0)) L)) (some (.B2 16)) (N (N (N L Be L) (some (.ptr 17 0)) L) (some (.ptr 5 0)) L)) (10::[]) .skip .skip 2 .normal (2::(19::(5::(3::(138::(0::(176::(0::(124::(0::(76::[]))))))))))) (0::(1::(0::(1::(0::(1::(1::[]))))))))) L) none L)) GM L) op (N (N L GM L) GM (N L SO L)))
def JU {R:Type}:Ed S R:=Ad8
theorem z5 {tab:List (Nat×Fx1 S)} (ht:Cf X tab) {pts rts:List Az} {AP:Ed S (G7 S rts)} (a:GC X AP) {ls:Bo S (G7 S rts)} (b:CB X ls) {g:Nat} {F:Gu S pts->Option (G7 S rts)} (e:∀xs,VM X tab pts rts AP ls 12 g xs=F xs:=by intro;kernel_rfl):B6 X g ⟨pts,rts,F⟩:=Z5 (Z4 Gc ht a b 12 g) fun xs _ h=>(e xs).trans h
theorem Cw {tab:List (Nat×Fx1 S)} (ht:Cf X tab) {pts rts:List Az} {AP:Ed S (G7 S rts)} (a:GC X AP) {ls:Bo S (G7 S rts)} (b:CB X ls) {g:Nat} {F G:Gu S pts->Option (G7 S rts)} (s:∀xs,F xs=G xs) (e:∀xs,VM X tab pts rts AP ls 12 g xs=G xs:=by intro;kernel_rfl):B6 X g ⟨pts,rts,F⟩:=Z5 (Z4 Gc ht a b 12 g) fun xs _ h=>((e xs).trans (s xs).symm).trans h
theorem z9 {tab:List (Nat×Fx1 S)} (ht:Cf X tab) {e:Dc S} {AP:Ed S (EU S (e.outs.map (·.ts)))} (c:GC X AP) {ls:Bo S (EU S (e.outs.map (·.ts)))} (hls:CB X ls) {F G:Dl S e.ts->Option (EU S (e.outs.map (·.ts)))} (s:∀x,F x=G x) (k:∀x,e.step X tab AP ls 12 x=G x:=by intro;kernel_rfl):Fe X e F:=oB (oI Gc ht c hls 12) fun x _ h=>((k x).trans (s x).symm).trans h
theorem DR {R:Type} {tab:List (Nat×Fx1 S)} (ht:Cf X tab) {e:LE S} {u:Ed S (Dl S e.ts⊕EU S (e.outs.map (·.ts)))} (a:GC X u) {z:Bo S (Dl S e.ts⊕EU S (e.outs.map (·.ts)))} (b:CB X z) {σ ω:Type} {emb:Dl S e.ts->σ->Dl S e.ts} (out:∀{T:Type},Dl S e.ts->(EU S (e.outs.map (·.ts))->T)->ω->T) {st:Dl S e.ts->σ->Option (σ⊕ω)} {prj:Dl S e.ts->σ} (q:Dl S e.ts->∀(ρ:Type),(σ->ρ)->(ω->ρ)->Option ρ) (i:∀x,q x _ (fun w=>Sum.inl (emb x w)) (fun o=>Sum.inr (out x id o))=(st x (prj x)).map (Sum.map (emb x) (out x id))) {ls:Bo S R} (hls:CB X ls) (c:∀x v,st (emb x v)=st x:=by intros;rfl) (d:∀x v,prj (emb x v)=v:=by intros;rfl) (g:∀x v w,emb (emb x v) w=emb x w:=by intros;rfl) (l:∀x v w,out (emb x v) id w=out x id w:=by intros;rfl) (f:∀x,emb x (prj x)=x:=by intros;rfl) (j:∀x (k:EU S (e.outs.map (·.ts))->Option R) o,out x k o=k (out x id o):=by intro x k o;repeat' first|rfl|(rcases o with o|o)) (k:∀x,e.step X tab u z 12 x=q x _ (fun w=>Sum.inl (emb x w)) (fun o=>Sum.inr (out x id o)):=by intro;kernel_rfl) : CB X (e.ls X (fun x k=>(CC (st x) (prj x)).bind (out x k)) ls) :=Mq Gc ht (e:=e) a b out (fun x=>(k x).trans (i x)) hls c d g l f j
theorem Bq {R:Type}:GC X (JU (R:=R)):=Aol X
def Pp:List (Nat×Fx1 S):=[]
theorem Dn:Cf X (Pp):=trivial
abbrev Dh {R:Type}:Bo S R:=ZW
theorem BO {R:Type}:CB X (Dh (R:=R)):=oG X
def qN:Fx1 S:=⟨[(.int .i64),(.int .i64),(.int .i64)],[.bool],fun xs=>NO xs.1 xs.2.1 xs.AV⟩
theorem AgW:B6 X 21 qN:=Cw Dn Bq BO fun xs=>fN xs.1 xs.2.1 xs.AV
def AhX:Fx1 S:=⟨[(.int .i64),(.int .i64),(.int .i64)],[.bool],fun xs=>NM xs.1 xs.2.1 xs.AV⟩
theorem AAt:B6 X 82 AhX:=z5 Dn Bq BO
def AhY:List (Nat×Fx1 S):=[(82,AhX)]
theorem Va:Cf X (AhY):=⟨AAt,trivial⟩
def qr:Key:=⟨[79],79,none,[0,0,1,0,1,1],0,6⟩
def AhZ:Ay S:=⟨(N (N (N L Be L) none L) bC L),L,6⟩
def AAu:Way S:=⟨.ret,⟨(N L none (N L Gb L)),L,43⟩,[.bool]⟩
def AAv:Way S:=⟨(.exit 0),⟨L,L,10⟩,[]⟩
def rF:LE S:=⟨qr,AhZ,[.int,.str],[AAu,AAv]⟩
def rG {T:Type} (x:(Int×ByteArray)) (k:(Bool⊕Unit)->T):(Bool⊕Unit)->T:=Sum.elim (fun d=>k (.inl d)) (fun e=>k (.inr ()))
def Ai0 (x:(Int×ByteArray)) (v:Int):(Int×ByteArray):=(v,x.2)
theorem AAw (x:(Int×ByteArray)):LE.step X rF AhY JU Dh 12 x=TE x.2 x.1 (fun w=>Sum.inl (Ai0 x w)) (fun o=>Sum.inr (rG x id o)):=by kernel_rfl
def AAx {R:Type}:Bo S R:=LE.ls X rF (fun x k=>(tK x.2 x.1).bind (rG x k)) Dh
theorem Aw7 {R:Type}:CB X (AAx (R:=R)):=Mq Gc Va (e:=rF) Bq BO (st:=fun(x:(Int×ByteArray))=>QM x.2) (prj:=fun(x:(Int×ByteArray))=>x.1) (emb:=Ai0) rG (fun x=>(AAw x).trans (by unfold QM TE;simp only[Cq,Cp,Cr,As,C8];rfl)) BO
def AfT:Fx1 S:=⟨[.str],[.bool],fun xs=>Wx xs.1⟩
theorem Aw8:B6 X 79 AfT:=z5 Va Bq Aw7
def Aw9:Key:=⟨[80],80,none,[0,0,1,0,1],0,2⟩
def Awa:Ay S:=⟨(N (N L bC (N L Be L)) (some (.AR .str [])) L),L,2⟩
def Awb:Way S:=⟨.ret,⟨v28,L,14⟩,[.int]⟩
def Awc:Way S:=⟨(.exit 0),⟨L,L,6⟩,[]⟩
def AfU:LE S:=⟨Aw9,Awa,[.str,.int,(.AT .str)],[Awb,Awc]⟩
def AfV {T:Type} (x:Vq) (k:(Int⊕Unit)->T):(Int⊕Unit)->T:=Sum.elim (fun d=>k (.inl d)) (fun e=>k (.inr ()))
def Awd (x:Vq) (v:Int):Vq:=(x.1,v,x.v2)
def Awe {R:Type}:Bo S R:=LE.ls X AfU (fun x k=>(eK x.1 x.v2 x.2.1).bind (AfV x k)) Dh
theorem Awf {R:Type}:CB X (Awe (R:=R)):=DR Dn (e:=AfU) Bq BO (st:=fun(x:Vq)=>OU x.1 x.v2) (prj:=fun(x:Vq)=>x.2.1) (emb:=Awd) AfV (fun x _=>Sy x.1 x.v2 x.2.1) (by intro;unfold OU Sy;simp only[Cq,Cp,Cr,As,C8];rfl) BO
def AfW:Fx1 S:=⟨[(.AR .str),.str],[(.int .i64)],fun xs=>fE xs.1 xs.2.1⟩
theorem Awg:B6 X 80 AfW:=z5 Dn Bq Awf
def Awh:List (Nat×Fx1 S):=[(79,AfT),(80,AfW)]
theorem Awi:Cf X (Awh):=⟨Aw8,Awg,trivial⟩
def pD:Fx1 S:=⟨[.str,(.AR .str)],[(.int .i64)],fun xs=>TV xs.1 xs.2.1⟩
theorem Aee:B6 X 22 pD:=z5 Awi Bq BO
def AsO:Key:=⟨[133],133,none,[0,0,1,0,1,1],0,3⟩
def At2:Ay S:=⟨(N Sd (some (.AR (.st 5) [])) Sd),L,3⟩
def At3:Way S:=⟨.ret,⟨(N L none (N L none (N L Be L))),L,28⟩,[.int]⟩
def At4:Way S:=⟨(.exit 0),⟨(N Ip none L),L,7⟩,[.int]⟩
def Aen:LE S:=⟨AsO,At2,[.int,.int,(.AT (.st 5)),.int,.int],[At3,At4]⟩
def Aeo {T:Type} (x:Vp) (k:(Int⊕Int)->T):(Int⊕Int)->T:=Sum.elim (fun e=>k (.inl e)) (fun d=>k (.inr d))
def At5 (x:Vp) (v:(Int×Int)):Vp:=(v.1,x.2.1,x.AV,v.2,x.v4)
def At6 {R:Type}:Bo S R:=LE.ls X Aen (fun x k=>(tR x.2.1 x.AV x.v4 (x.1,x.A4)).bind (Aeo x k)) Dh
theorem At7 {R:Type}:CB X (At6 (R:=R)):=DR Va (e:=Aen) Bq BO (st:=fun(x:Vp)=>QP x.2.1 x.AV x.v4) (prj:=fun(x:Vp)=>(x.1,x.A4)) (emb:=At5) Aeo (fun x _=>TI x.2.1 x.AV x.v4 x.1 x.A4) (by intro;unfold QP TI;simp only[Cq,Cp,Cr,As,C8];rfl) BO
def Aep:Fx1 S:=⟨[(.AR (.st 5)),(.int .i64),(.int .i64)],[(.int .i64)],fun xs=>Wp xs.1 xs.2.1 xs.AV⟩
theorem At8:B6 X 133 Aep:=z5 Va Bq At7
def At9:List (Nat×Fx1 S):=[(133,Aep)]
theorem Ata:Cf X (At9):=⟨At8,trivial⟩
def pE:Fx1 S:=⟨[(.st 5),(.int .i64),(.int .i64)],[(.int .i64)],fun xs=>MI xs.1 xs.2.1 xs.AV⟩
theorem Aeq:B6 X 81 pE:=z5 Ata Bq BO
def Atb:List (Nat×Fx1 S):=[(21,qN),(81,pE)]
theorem Atc:Cf X (Atb):=⟨AgW,Aeq,trivial⟩
def Aer:Fx1 S:=⟨[(.st 20),(.int .i64),(.int .i64),(.st 5)],[(.int .i64)],fun xs=>XG xs.1 xs.2.1 xs.AV xs.A4⟩
theorem Atd:B6 X 23 Aer:=Cw Atc Bq BO fun xs=>uU xs.1 xs.2.1 xs.AV xs.A4
def AsP:List (Nat×Fx1 S):=[(21,qN),(22,pD),(23,Aer)]
theorem Zw:Cf X (AsP):=⟨AgW,Aee,Atd,trivial⟩
def AsQ:Key:=⟨[4],4,none,[0,0,1,0,1,1,1],0,17⟩
def AsR:Ay S:=⟨(N (N L (some (.ptr 0 0)) (N L (some (.rs 17 0)) L)) none (N L none (N L Be L))),Pl,18⟩
def AsS:Way S:=⟨.ret,⟨v22,AdE,66⟩,[.int,.int,.int,(.AT .str),(.st 20),(.st 18),(.AT .str)]⟩
def AsT:Way S:=⟨.ret,⟨v22,AdE,65⟩,[.int,.int,.int,(.AT .str),(.st 20),(.st 18),(.AT .str)]⟩
def AsU:Way S:=⟨(.exit 0),⟨(N (N L (some (.ptr 0 0)) L) none L),Pl,23⟩,[(.AT .str),(.st 20)]⟩
def Aef:LE S:=⟨AsQ,AsR,[.int,(.AT .str),(.st 20)],[AsS,AsT,AsU]⟩
def Aeg {T:Type} (x:MD) (k:((Int×Int×Int×(List ByteArray)×AQ×A9×(List ByteArray))⊕(Int×Int×Int×(List ByteArray)×AQ×A9×(List ByteArray))⊕((List ByteArray)×AQ))->T):((Int×Int×Int×(List ByteArray)×A9×(List ByteArray))⊕(Int×Int×Int×(List ByteArray)×A9×(List ByteArray))⊕(List ByteArray))->T:=Sum.elim (fun e=>k (.inl (e.1,e.2.1,e.AV,e.A4,x.v2,e.BA,e.v5))) (Sum.elim (fun d=>k (.inr (.inl (d.1,d.2.1,d.AV,d.A4,x.v2,d.BA,d.v5)))) (fun i=>k (.inr (.inr (i,x.v2)))))
def AsV (x:MD) (v:(Int×(List ByteArray))):MD:=(v.1,v.2,x.v2)
def Aeh {R:Type}:Bo S R:=LE.ls X Aef (fun x k=>(eM x.v2 (x.1,x.2.1)).bind (Aeg x k)) Dh
theorem Aei {R:Type}:CB X (Aeh (R:=R)):=DR Zw (e:=Aef) Bq BO (st:=fun(x:MD)=>TO x.v2) (prj:=fun(x:MD)=>(x.1,x.2.1)) (emb:=AsV) Aeg (fun x _=>TA x.v2 x.1 x.2.1) (by intro;unfold TO TA;simp only[Cq,Cp,Cr,As,C8];rfl) BO
def AsW:Key:=⟨[4],4,none,[0,0,1,0,1,1,1,1],2,24⟩
def AsX:Ay S:=⟨(N (N L (some (.ptr 0 0)) (N (N L Be L) none L)) none L),Pl,24⟩
def AsY:Way S:=⟨.ret,⟨v22,(N (N L none (N (N (N L pC L) none L) none L)) os (N L none (N (N (N (N L IE L) none L) none L) none L))),52⟩,[.int,.int,.int,(.AT .str),(.st 20),(.st 19)]⟩
def AsZ:Way S:=⟨(.exit 2),⟨(N (N L (some (.ptr 0 0)) L) none L),Pl,29⟩,[(.AT .str),(.st 20)]⟩
def Aej:LE S:=⟨AsW,AsX,[.int,(.AT .str),(.st 20)],[AsY,AsZ]⟩
def Aek {T:Type} (x:MD) (k:((Int×Int×Int×(List ByteArray)×AQ×AN)⊕((List ByteArray)×AQ))->T):((Int×Int×Int×AN)⊕Unit)->T:=Sum.elim (fun d=>k (.inl (d.1,d.2.1,d.AV,x.2.1,x.v2,d.v3))) (fun e=>k (.inr (x.2.1,x.v2)))
def At0 (x:MD) (v:Int):MD:=(v,x.2.1,x.v2)
def Ael {R:Type}:Bo S R:=LE.ls X Aej (fun x k=>(We x.v2 x.1).bind (Aek x k)) Aeh
theorem Aem {R:Type}:CB X (Ael (R:=R)):=DR Zw (e:=Aej) Bq Aei (st:=fun(x:MD)=>TP x.v2) (prj:=fun(x:MD)=>x.1) (emb:=At0) Aek (fun x _=>TB x.v2 x.1) (by intro;unfold TP TB;simp only[Cq,Cp,Cr,As,C8];rfl) Aei
def At1:Key:=⟨[4],4,none,[0,0,1,0,1,1,1,1,1,1],4,31⟩
def Ate:Ay S:=⟨(N (N L (some (.ptr 0 0)) (N L none (N L Be L))) none Sc),Pl,31⟩
def Atf:Way S:=⟨.ret,⟨v22,Pl,59⟩,[.int,.int,.int,(.AT .str),(.st 20)]⟩
def Aes:Way S:=⟨(.exit 4),⟨L,Pl,36⟩,[(.AT .str),(.st 20)]⟩
def Aet:LE S:=⟨At1,Ate,[.int,.int,(.AT .str),(.st 20)],[Atf,Aes]⟩
def Aeu {T:Type} (x:Vi) (k:((Int×Int×Int×(List ByteArray)×AQ)⊕((List ByteArray)×AQ))->T):((Int×Int×Int)⊕Unit)->T:=Sum.elim (fun d=>k (.inl (d.1,d.2.1,d.v2,x.AV,x.v3))) (fun e=>k (.inr (x.AV,x.v3)))
def Atg (x:Vi) (v:(Int×Int)):Vi:=(v.1,v.2,x.AV,x.v3)
def Ath {R:Type}:Bo S R:=LE.ls X Aet (fun x k=>(Wf x.v3 (x.1,x.2.1)).bind (Aeu x k)) Ael
theorem Ati {R:Type}:CB X (Ath (R:=R)):=DR Zw (e:=Aet) Bq Aem (st:=fun(x:Vi)=>TQ x.v3) (prj:=fun(x:Vi)=>(x.1,x.2.1)) (emb:=Atg) Aeu (fun x _=>TC x.v3 x.1 x.2.1) (by intro;unfold TQ TC;simp only[Cq,Cp,Cr,As,C8];rfl) Aem
def pG:Fx1 S:=⟨[(.st 20)],[(.int .i64),(.int .i64),(.int .i64)],fun xs=>XF xs.1⟩
theorem AeB:B6 X 4 pG:=Cw Zw Bq Ati fun xs=>uY xs.1
def pH:Fx1 S:=⟨[(.int .i64),(.int .i64),(.int .i64)],[.bool],fun xs=>LR xs.1 xs.2.1 xs.AV⟩
theorem AeC:B6 X 25 pH:=Cw Dn Bq BO fun xs=>vF xs.1 xs.2.1 xs.AV
def Ats:List (Nat×Fx1 S):=[(25,pH),(81,pE),(22,pD)]
theorem AeD:Cf X (Ats):=⟨AeC,Aeq,Aee,trivial⟩
def Att:Key:=⟨[24],24,none,[0,0,1,0,1,1,1,1,1,1],0,31⟩
def Atu:Ay S:=⟨(N (N (N (N L (some (.rs 31 0)) L) none L) (some (.ptr 0 0)) L) none Ip),AdN,32⟩
def Atv:Way S:=⟨.ret,⟨v22,Zm,85⟩,[.int,.int,.int,(.AT .str),(.st 22),(.AT .str),(.st 21)]⟩
def Atw:Way S:=⟨.ret,⟨v22,Zm,89⟩,[.int,.int,.int,(.AT .str),(.st 22),(.AT .str),(.st 21)]⟩
def Atx:Way S:=⟨.ret,⟨v22,Zm,88⟩,[.int,.int,.int,(.AT .str),(.st 22),(.AT .str),(.st 21)]⟩
def Aty:Way S:=⟨.ret,⟨v22,Zm,84⟩,[.int,.int,.int,(.AT .str),(.st 22),(.AT .str),(.st 21)]⟩
def Atz:Way S:=⟨(.exit 0),⟨L,AdN,37⟩,[(.AT .str),(.st 22)]⟩
def AeE:LE S:=⟨Att,Atu,[.int,(.AT .str),(.st 22)],[Atv,Atw,Atx,Aty,Atz]⟩
def AeF {T:Type} (x:Vr) (k:(aY⊕aY⊕aY⊕aY⊕((List ByteArray)×BC))->T):(aZ⊕aZ⊕aZ⊕aZ⊕(List ByteArray))->T:=Sum.elim (fun i=>k (.inl (i.1,i.2.1,i.AV,i.A4,x.v2,i.BA,i.v5))) (Sum.elim (fun e=>k (.inr (.inl (e.1,e.2.1,e.AV,e.A4,x.v2,e.BA,e.v5)))) (Sum.elim (fun d=>k (.inr (.inr (.inl (d.1,d.2.1,d.AV,d.A4,x.v2,d.BA,d.v5))))) (Sum.elim (fun j=>k (.inr (.inr (.inr (.inl (j.1,j.2.1,j.AV,j.A4,x.v2,j.BA,j.v5)))))) (fun l=>k (.inr (.inr (.inr (.inr (l,x.v2)))))))))
def AtA (x:Vr) (v:(Int×(List ByteArray))):Vr:=(v.1,v.2,x.v2)
def AtB {R:Type}:Bo S R:=LE.ls X AeE (fun x k=>(eL x.v2 (x.1,x.2.1)).bind (AeF x k)) Dh
theorem AtC {R:Type}:CB X (AtB (R:=R)):=DR AeD (e:=AeE) Bq BO (st:=fun(x:Vr)=>QR x.v2) (prj:=fun(x:Vr)=>(x.1,x.2.1)) (emb:=AtA) AeF (fun x _=>Sz x.v2 x.1 x.2.1) (by intro;unfold QR Sz;simp only[Cq,Cp,Cr,As,C8];rfl) BO
def Aev:Fx1 S:=⟨[(.st 22)],[(.int .i64),(.int .i64),(.int .i64)],fun xs=>XD xs.1⟩
theorem Atj:B6 X 24 Aev:=Cw AeD Bq AtC fun xs=>uW xs.1
def Aew:Fx1 S:=⟨[(.st 2),(.int .i64)],[.bool],fun xs=>QU xs.1 xs.2.1⟩
theorem Atk:B6 X 26 Aew:=z5 Va Bq BO
def Atl:List (Nat×Fx1 S):=[(24,Aev),(25,pH),(26,Aew)]
theorem pF:Cf X (Atl):=⟨Atj,AeC,Atk,trivial⟩
def Atm:Key:=⟨[5],5,none,[0,0,1,0,1,1,1,1,1],0,54⟩
def Atn:Ay S:=⟨Ai6,(N (N L LH L) H2 L),54⟩
def Ato:Way S:=⟨.ret,⟨Ai8,(N (N L LH L) H2 L),72⟩,[.int,.int,(.st 23),(.st 22)]⟩
def Atp:Way S:=⟨(.exit 0),⟨(N L none v28),(N (N L LH L) H2 L),62⟩,[.int,(.st 23),(.st 22)]⟩
def Aex:LE S:=⟨Atm,Atn,[.int,(.AT (.st 29)),.int,(.st 23),(.st 22)],[Ato,Atp]⟩
def Zx {T:Type} (x:Pv) (k:((Int×Int×Ah×BC)⊕(Int×Ah×BC))->T):((Int×Int)⊕Unit)->T:=Sum.elim (fun d=>k (.inl (d.1,d.2,x.A4,x.v4))) (fun e=>k (.inr (x.AV,x.A4,x.v4)))
def Aey (x:Pv) (v:Int):Pv:=(v,x.2.1,x.AV,x.A4,x.v4)
def Aez {R:Type}:Bo S R:=LE.ls X Aex (fun x k=>(Iq x.2.1 x.AV x.1).bind (Zx x k)) Dh
theorem AeA {R:Type}:CB X (Aez (R:=R)):=DR pF (e:=Aex) Bq BO (st:=fun(x:Pv)=>cY x.2.1 x.AV) (prj:=fun(x:Pv)=>x.1) (emb:=Aey) Zx (fun x _=>Su x.2.1 x.AV x.1) (by intro;unfold cY Su;simp only[Cq,Cp,Cr,As,C8];rfl) BO
def Atq:Key:=⟨[5],5,none,[0,0,1,0,1,1,1,1,1],0,53⟩
def Atr:Ay S:=⟨Ai6,(N (N L LH L) H2 L),53⟩
def AtD:Way S:=⟨.ret,⟨Ai8,(N (N L LH L) H2 L),71⟩,[.int,.int,(.st 23),(.st 22)]⟩
def AtE:Way S:=⟨(.exit 0),⟨(N L none v28),(N (N L LH L) H2 L),61⟩,[.int,(.st 23),(.st 22)]⟩
def AeG:LE S:=⟨Atq,Atr,[.int,(.AT (.st 29)),.int,(.st 23),(.st 22)],[AtD,AtE]⟩
def AtF {R:Type}:Bo S R:=LE.ls X AeG (fun x k=>(K9 x.2.1 x.AV x.1).bind (Zx x k)) Aez
theorem AtG {R:Type}:CB X (AtF (R:=R)):=DR pF (e:=AeG) Bq AeA (st:=fun(x:Pv)=>cZ x.2.1 x.AV) (prj:=fun(x:Pv)=>x.1) (emb:=Aey) Zx (fun x _=>dB x.2.1 x.AV x.1) (by intro;unfold cZ dB Su;simp only[Cq,Cp,Cr,As,C8];rfl) AeA
def pI:Fx1 S:=⟨[(.st 22),(.st 23),(.AR (.st 29))],[(.int .i64),(.int .i64)],fun xs=>Wk xs.1 xs.2.1 xs.AV⟩
theorem AeO:B6 X 5 pI:=Cw pF Bq AtG fun xs=>tS xs.1 xs.2.1 xs.AV
def V1:Fx1 S:=⟨[(.int .i64),(.int .i64)],[(.st 5)],fun xs=>O3 xs.1 xs.2.1⟩
theorem Zy:B6 X 50 V1:=Cw Dn Bq BO fun xs=>Ws xs.1 xs.2.1
def AeP:Fx1 S:=⟨[(.AR (.int .u16)),(.int .i64)],[(.int .i64)],fun xs=>XK xs.1 xs.2.1⟩
theorem AtT:B6 X 57 AeP:=Cw Dn Bq BO fun xs=>uR xs.1 xs.2.1
def AeQ:Fx1 S:=⟨[(.st 5),(.int .i64)],[(.int .i64)],fun xs=>Wz xs.1 xs.2.1⟩
theorem AtU:B6 X 56 AeQ:=Cw Dn Bq BO fun xs=>e1 xs.1 xs.2.1
def AtV:List (Nat×Fx1 S):=[(50,V1),(57,AeP),(56,AeQ)]
theorem pK:Cf X (AtV):=⟨Zy,AtT,AtU,trivial⟩
def AtH:Key:=⟨[9],9,none,[0,0,1,0,1,0,0,1,0,0,1,0,1,1,1],2,23⟩
def AtI:Ay S:=⟨(N (N Pw none (N (N L Be L) (some (.rs 23 0)) L)) none Aia),(N (N Pm SS L) os L),24⟩
def AtJ:Way S:=⟨(.exit 2),⟨(N (N Pw none (N L (some (.rs 23 0)) L)) none Aia),(N (N Pm SS L) os L),29⟩,[.int,.int,.int,(.AT (.int .i64)),(.st 24),(.st 20)]⟩
def AeH:LE S:=⟨AtH,AtI,[.int,.int,.int,.int,(.AT (.int .i64)),(.st 24),(.st 20)],[AtJ]⟩
def AeI {T:Type} (x:WK) (k:(Int×Int×Int×(List Int)×Bx×AQ)->T):Int->T:=fun d=>k (x.1,d,x.A4,x.BA,x.BM,x.v6)
def AtK (x:WK) (v:(Int×Int)):WK:=(x.1,v.1,v.2,x.A4,x.BA,x.BM,x.v6)
def AeJ {R:Type}:Bo S R:=LE.ls X AeH (fun x k=>(dZ x.v6 (x.2.1,x.AV)).bind (AeI x k)) Dh
theorem AeK {R:Type}:CB X (AeJ (R:=R)):=DR pK (e:=AeH) Bq BO (st:=fun(x:WK)=>QJ x.v6) (prj:=fun(x:WK)=>(x.2.1,x.AV)) (emb:=AtK) AeI (fun x _=>TG x.v6 x.2.1 x.AV) (by intro;unfold QJ TG;simp only[Cq,Cp,Cr,As,C8];rfl) BO
def AtL:Key:=⟨[9],9,none,[0,0,1,0,1,1,1],0,6⟩
def AtM:Ay S:=⟨(N (N Pw none (N L (some (.rs 6 0)) L)) none (N L (some (.ptr 0 0)) (N L Be L))),(N (N L SS L) os (N L none (N L Ga L))),7⟩
def AtN:Way S:=⟨(.exit 0),⟨(N (N L none (N L (some (.rs 6 0)) L)) none L),(N (N L SS L) os (N L none (N L Ga L))),12⟩,[(.st 24),(.st 20),(.AT (.int .i64))]⟩
def AeL:LE S:=⟨AtL,AtM,[.int,.int,(.st 24),(.st 20),(.AT (.int .i64))],[AtN]⟩
def AeM {T:Type} (x:WO) (k:(Bx×AQ×(List Int))->T):(List Int)->T:=fun d=>k (x.AV,x.A4,d)
def AtO (x:WO) (v:(Int×Int×(List Int))):WO:=(v.1,v.2.1,x.AV,x.A4,v.v2)
def AtP {R:Type}:Bo S R:=LE.ls X AeL (fun x k=>(dY x.AV x.A4 (x.1,x.2.1,x.v4)).bind (AeM x k)) AeJ
theorem AtQ {R:Type}:CB X (AtP (R:=R)):=DR pK (e:=AeL) Bq AeK (st:=fun(x:WO)=>QI x.AV x.A4) (prj:=fun(x:WO)=>(x.1,x.2.1,x.v4)) (emb:=AtO) AeM (fun x _=>Sx x.AV x.A4 x.1 x.2.1 x.v4) (by intro;unfold QI Sx;simp only[Cq,Cp,Cr,As,C8];rfl) AeK
def pJ:Fx1 S:=⟨[(.st 20),(.st 24)],[(.AR (.int .i64))],fun xs=>O0 xs.1 xs.2.1⟩
theorem AeN:B6 X 9 pJ:=Cw pK Bq AtQ fun xs=>uF xs.1 xs.2.1
def AtS:Key:=⟨[15],15,none,[0,0,1,0,1,1],0,10⟩
def AtW:Ay S:=⟨(N (N (N L Be L) KZ (N (N L Be L) none L)) none (N (N L (some (.ptr 0 0)) L) Be (N (N L Be L) none L))),(N L os L),10⟩
def AtX:Way S:=⟨(.exit 0),⟨(N v28 none L),(N L os L),14⟩,[.int,(.st 20)]⟩
def AeR:LE S:=⟨AtS,AtW,[.int,(.AT (.int .i64)),.int,.int,.int,(.st 20)],[AtX]⟩
def AeS {T:Type} (x:Vg) (k:(Int×AQ)->T):Int->T:=fun d=>k (d,x.v5)
def AtY (x:Vg) (v:(Int×Int)):Vg:=(x.1,x.2.1,v.1,x.A4,v.2,x.v5)
def AtZ {R:Type}:Bo S R:=LE.ls X AeR (fun x k=>(eJ x.1 x.2.1 x.A4 x.v5 (x.AV,x.BA)).bind (AeS x k)) Dh
theorem Au0 {R:Type}:CB X (AtZ (R:=R)):=DR Dn (e:=AeR) Bq BO (st:=fun(x:Vg)=>QQ x.1 x.2.1 x.A4 x.v5) (prj:=fun(x:Vg)=>(x.AV,x.BA)) (emb:=AtY) AeS (fun x _=>TJ x.1 x.2.1 x.A4 x.v5 x.AV x.BA) (by intro;unfold QQ TJ;simp only[Cq,Cp,Cr,As,C8];rfl) BO
def pL:Fx1 S:=⟨[(.st 20),(.AR (.int .i64)),(.int .i64),(.int .i64)],[(.int .i64)],fun xs=>Q4 xs.1 xs.2.1 xs.AV xs.A4⟩
theorem AeZ:B6 X 15 pL:=Cw Dn Bq Au0 fun xs=>uL xs.1 xs.2.1 xs.AV xs.A4
def Zz:Fx1 S:=⟨[(.st 2),(.int .u16),(.int .u16)],[(.st 2)],fun xs=>T2 xs.1 xs.2.1 xs.AV⟩
theorem pM:B6 X 11 Zz:=Cw Dn Bq BO fun xs=>uP xs.1 xs.2.1 xs.AV
def Af0:Fx1 S:=⟨[(.st 5),(.int .i64)],[(.int .i64)],fun xs=>Q3 xs.1 xs.2.1⟩
theorem Au8:B6 X 73 Af0:=Cw Dn Bq BO fun xs=>uK xs.1 xs.2.1
def Au9:List (Nat×Fx1 S):=[(73,Af0)]
theorem Af1:Cf X (Au9):=⟨Au8,trivial⟩
def aA:Fx1 S:=⟨[(.st 22),(.st 23),(.st 25)],[(.st 30)],fun xs=>Q2 xs.1 xs.2.1 xs.AV⟩
theorem pN:B6 X 17 aA:=Cw Af1 Bq BO fun xs=>uJ xs.1 xs.2.1 xs.AV
def AeT:Fx1 S:=⟨[(.st 22),(.st 23),(.st 25)],[(.st 30)],fun xs=>XI xs.1 xs.2.1 xs.AV⟩
theorem Au1:B6 X 58 AeT:=Cw Af1 Bq BO fun xs=>uO xs.1 xs.2.1 xs.AV
def AeU:Fx1 S:=⟨[(.st 2),(.st 2)],[(.st 2)],fun xs=>AiW xs.1 xs.2.1⟩
theorem Au2:B6 X 70 AeU:=z5 Dn Bq BO
def AeV:Fx1 S:=⟨[(.st 2)],[(.st 2)],fun xs=>AiE xs.1⟩
theorem Au3:B6 X 212 AeV:=z5 Dn Bq BO
def AeW (ih:(Int×Unit)->Option (A6)):List (Nat×Fx1 S):=[(212,AeV),(179,⟨[(.int .i64)],[(.st 2)],ih⟩)]
theorem Au4 (ih:(Int×Unit)->Option (A6)) (d:B6 X 179 ⟨[(.int .i64)],[(.st 2)],ih⟩):Cf X (AeW ih):=⟨Au3,d,trivial⟩
abbrev AeX (ih:(Int×Unit)->Option (A6)) {R:Type}:Bo S R:=ZW
theorem Au5 (ih:(Int×Unit)->Option (A6)) (d:B6 X 179 ⟨[(.int .i64)],[(.st 2)],ih⟩) {R:Type}:CB X (AeX ih (R:=R)):=oG X
theorem Au6 (ih:(Int×Unit)->Option (A6)) (d:Int):VM X (AeW ih) [(.int .i64)] [(.st 2)] JU (AeX ih) 12 179 (d,())=eV ih d:=by kernel_rfl
def AeY:Fx1 S:=⟨[(.int .i64)],[(.st 2)],fun xs=>TT xs.1⟩
theorem Au7:B6 X 179 AeY:=AoQ (X:=X) (g:=179) (pts:=[(.int .i64)]) (rts:=[(.st 2)]) (t:=TN) fun ih d=>Z5 (Z4 Gc (Au4 ih d) Bq (Au5 ih d) 12 179) fun xs _ h=>(Au6 ih xs.1).trans h
def Af2:Fx1 S:=⟨[(.st 2),(.st 2)],[(.int .i64)],fun xs=>AiV xs.1 xs.2.1⟩
theorem Aua:B6 X 178 Af2:=z5 Dn Bq BO
def Af3:List (Nat×Fx1 S):=[(179,AeY),(178,Af2)]
theorem Af4:Cf X (Af3):=⟨Au7,Aua,trivial⟩
def Aub:Key:=⟨[130],130,none,[0,0,0,1,1],0,3⟩
def Aul:Ay S:=⟨(N (N (N L Be L) (some (.ptr 0 0)) L) none L),(N L GD L),3⟩
def Aum:Way S:=⟨(.exit 0),⟨Ip,(N L GD L),17⟩,[.int,(.st 2)]⟩
def pP:LE S:=⟨Aub,Aul,[.int,(.st 2)],[Aum]⟩
def pQ {T:Type} (x:(Int×A6)) (k:(Int×A6)->T):Int->T:=fun d=>k (d,x.2)
def Afa (x:(Int×A6)) (v:Int):(Int×A6):=(v,x.2)
theorem Aun (x:(Int×A6)):LE.step X pP Af3 JU Dh 12 x=Wg x.2 x.1 (fun w=>Sum.inl (Afa x w)) (fun o=>Sum.inr (pQ x id o)):=by kernel_rfl
def Auo {R:Type}:Bo S R:=LE.ls X pP (fun x k=>(dK x.2 x.1).bind (pQ x k)) Dh
theorem Aup {R:Type}:CB X (Auo (R:=R)):=Mq Gc Af4 (e:=pP) Bq BO (st:=fun(x:(Int×A6))=>OS x.2) (prj:=fun(x:(Int×A6))=>x.1) (emb:=Afa) pQ (fun x=>(Aun x).trans (by unfold OS Wg;simp only[Cq,Cp,Cr,As,C8];rfl)) BO
def Afb:Fx1 S:=⟨[(.st 2)],[(.int .i64)],fun xs=>Wq xs.1⟩
theorem Auq:B6 X 130 Afb:=z5 Af4 Bq Aup
def Aur:Key:=⟨[129],129,none,[0,0,0,1,1],0,2⟩
def Aus:Ay S:=⟨(N (N L Be (N L Be L)) Be L),L,2⟩
def Aut:Way S:=⟨(.exit 0),⟨Sc,L,16⟩,[.int]⟩
def pR:LE S:=⟨Aur,Aus,[.int,.int,.int],[Aut]⟩
def pS {T:Type} (x:(Int×Int×Int)) (k:Int->T):Int->T:=fun d=>k d
def Afc (x:(Int×Int×Int)) (v:Int):(Int×Int×Int):=(x.1,v,x.v2)
theorem Auu (x:(Int×Int×Int)):LE.step X pR Pp JU Dh 12 x=TH x.1 x.v2 x.2.1 (fun w=>Sum.inl (Afc x w)) (fun o=>Sum.inr (pS x id o)):=by kernel_rfl
def Auv {R:Type}:Bo S R:=LE.ls X pR (fun x k=>(eC x.1 x.v2 x.2.1).bind (pS x k)) Dh
theorem Auw {R:Type}:CB X (Auv (R:=R)):=Mq Gc Dn (e:=pR) Bq BO (st:=fun(x:(Int×Int×Int))=>QK x.1 x.v2) (prj:=fun(x:(Int×Int×Int))=>x.2.1) (emb:=Afc) pS (fun x=>(Auu x).trans (by unfold QK TH;simp only[Cq,Cp,Cr,As,C8];rfl)) BO
def Afd:Fx1 S:=⟨[(.int .i64),(.int .i64)],[(.int .i64)],fun xs=>Wv xs.1 xs.2.1⟩
theorem Auc:B6 X 129 Afd:=Cw Dn Bq Auw fun xs=>uH xs.1 xs.2.1
def pO:Fx1 S:=⟨[(.st 2)],[(.int .i64)],fun xs=>XB xs.1⟩
theorem Af5:B6 X 131 pO:=Cw Dn Bq BO fun xs=>fC xs.1
def Aud:List (Nat×Fx1 S):=[(130,Afb),(129,Afd),(131,pO)]
theorem Aue:Cf X (Aud):=⟨Auq,Auc,Af5,trivial⟩
def Af6:Fx1 S:=⟨[(.st 2),(.int .i64),(.int .i64)],[.bool],fun xs=>XE xs.1 xs.2.1 xs.AV⟩
theorem Auf:B6 X 71 Af6:=Cw Aue Bq BO fun xs=>uX xs.1 xs.2.1 xs.AV
def Aug:List (Nat×Fx1 S):=[(131,pO)]
theorem Af7:Cf X (Aug):=⟨Af5,trivial⟩
def Auh:Key:=⟨[72],72,none,[0,0,1,0,1,1],0,6⟩
def Aui:Ay S:=⟨(N Sd none Sd),(N L GD L),6⟩
def Auj:Way S:=⟨(.exit 0),⟨(N Sd none L),(N L GD L),20⟩,[.int,.int,(.st 2)]⟩
def Af8:LE S:=⟨Auh,Aui,[.int,.int,.int,.int,(.st 2)],[Auj]⟩
def Af9 {T:Type} (x:Vt) (k:(Int×Int×A6)->T):Int->T:=fun d=>k (x.1,d,x.v4)
def Auk (x:Vt) (v:(Int×Int)):Vt:=(x.1,v.1,v.2,x.A4,x.v4)
def Aux {R:Type}:Bo S R:=LE.ls X Af8 (fun x k=>(tU x.1 x.A4 (x.2.1,x.AV)).bind (Af9 x k)) Dh
theorem Auy {R:Type}:CB X (Aux (R:=R)):=DR Af7 (e:=Af8) Bq BO (st:=fun(x:Vt)=>QN x.1 x.A4) (prj:=fun(x:Vt)=>(x.2.1,x.AV)) (emb:=Auk) Af9 (fun x _=>TF x.1 x.A4 x.2.1 x.AV) (by intro;unfold QN TF;simp only[Cq,Cp,Cr,As,C8];rfl) BO
def Afe:Fx1 S:=⟨[(.st 2),(.int .i64),(.int .i64)],[.bool],fun xs=>XL xs.1 xs.2.1 xs.AV⟩
theorem Auz:B6 X 72 Afe:=Cw Af7 Bq Auy fun xs=>uS xs.1 xs.2.1 xs.AV
def AuA:List (Nat×Fx1 S):=[(70,AeU),(71,Af6),(72,Afe)]
theorem AuB:Cf X (AuA):=⟨Au2,Auf,Auz,trivial⟩
def aB:Fx1 S:=⟨[(.st 23),(.st 2),(.st 30),.bool],[.bool],fun xs=>O4 xs.1 xs.2.1 xs.AV xs.A4⟩
theorem pW:B6 X 16 aB:=Cw AuB Bq BO fun xs=>fI xs.1 xs.2.1 xs.AV xs.A4
def AuL:List (Nat×Fx1 S):=[(11,Zz),(17,aA),(58,AeT),(16,aB)]
theorem Afi:Cf X (AuL):=⟨pM,pN,Au1,pW,trivial⟩
def AuM:Key:=⟨[10],10,none,[0,0,1,0,1,1],0,6⟩
def AuN:Ay S:=⟨(N (N (N (N L (some (.rs 6 0)) L) (some (.ptr 0 0)) L) none (N L (some (.ptr 2 0)) L)) none (N Pw none L)),AdG,7⟩
def AuO:Way S:=⟨(.exit 0),⟨(N (N (N (N L (some (.rs 6 0)) L) none L) none L) none L),AdG,18⟩,[(.st 23),(.st 22),(.st 25),(.AT (.st 29))]⟩
def Afj:LE S:=⟨AuM,AuN,[.int,(.st 23),(.st 22),(.st 25),(.AT (.st 29))],[AuO]⟩
def Afk {T:Type} (x:WL) (k:(Ah×BC×CG×(List Ak))->T):(List Ak)->T:=fun d=>k (x.2.1,x.AV,x.A4,d)
def AuP (x:WL) (v:(Int×(List Ak))):WL:=(v.1,x.2.1,x.AV,x.A4,v.2)
def AuQ {R:Type}:Bo S R:=LE.ls X Afj (fun x k=>(eU x.2.1 x.AV x.A4 (x.1,x.v4)).bind (Afk x k)) Dh
theorem AuR {R:Type}:CB X (AuQ (R:=R)):=DR Afi (e:=Afj) Bq BO (st:=fun(x:WL)=>OX x.2.1 x.AV x.A4) (prj:=fun(x:WL)=>(x.1,x.v4)) (emb:=AuP) Afk (fun x _=>QO x.2.1 x.AV x.A4 x.1 x.v4) (by intro;unfold OX QO;simp only[Cq,Cp,Cr,As,C8];rfl) BO
def pX:Fx1 S:=⟨[(.st 22),(.st 23),(.st 25)],[(.AR (.st 29))],fun xs=>XJ xs.1 xs.2.1 xs.AV⟩
theorem Afl:B6 X 10 pX:=Cw Afi Bq AuR fun xs=>uQ xs.1 xs.2.1 xs.AV
def AuS:Key:=⟨[174,2,1,117,2,1,60],174,none,[0,0,1,0,1],0,17⟩
def AuT:Ay S:=⟨(N (N (N (N L Be L) none L) (some (.fn (.func 118) [] [(.ptr 0 0),(.ptr 1 0)])) L) KZ Ip),(N (N L C4 L) C4 L),17⟩
def pY:Way S:=⟨.ret,⟨v28,(N (N L C4 L) C4 L),38⟩,[.int,.int,.int]⟩
def pZ:Way S:=⟨(.exit 0),⟨L,(N (N L C4 L) C4 L),18⟩,[.int,.int]⟩
def Aff:LE S:=⟨AuS,AuT,[.int,(.AT (.int .i64)),.int,.int,.int],[pY,pZ]⟩
def SU {T:Type} (x:NA) (k:((Int×Int×Int)⊕(Int×Int))->T):(Int⊕Unit)->T:=Sum.elim (fun d=>k (.inl (d,x.A4,x.v4))) (fun e=>k (.inr (x.A4,x.v4)))
def pT (x:NA) (v:Int):NA:=(x.1,x.2.1,v,x.A4,x.v4)
def AuC {R:Type}:Bo S R:=LE.ls X Aff (fun x k=>(tD x.1 x.2.1 x.A4 x.v4 x.AV).bind (SU x k)) Dh
theorem AuD {R:Type}:CB X (AuC (R:=R)):=DR Dn (e:=Aff) Bq BO (st:=fun(x:NA)=>eS x.1 x.2.1 x.A4 x.v4) (prj:=fun(x:NA)=>x.AV) (emb:=pT) SU (fun x _=>MM x.1 x.2.1 x.A4 x.v4 x.AV) (by intro;unfold eS MM;simp only[Cq,Cp,Cr,As,C8];rfl) BO
def V2:Fx1 S:=⟨[(.int .i64),(.int .i64),(.AR (.int .i64))],[.bool],fun xs=>Ha xs.1 xs.2.1 xs.AV⟩
theorem V3:B6 X 60 V2:=Cw Dn Bq AuD fun xs=>uB xs.1 xs.2.1 xs.AV
def AuE:Key:=⟨[144],144,none,[0,0,1,0,1,1],0,4⟩
def AuF:Ay S:=⟨(N (N (N (N L (some (.iter 3)) L) (some (.int .i32 0)) L) none L) bC L),pB,4⟩
def AuG:Way S:=⟨.ret,⟨(N L none (N L Gb L)),pB,23⟩,[.bool,.str,.nat]⟩
def AuH:Way S:=⟨(.exit 0),⟨(N (N (N L (some (.int .i32 0)) L) none L) bC L),pB,6⟩,[.int,.str,.str,.nat]⟩
def Afg:LE S:=⟨AuE,AuF,[.int,.str,.str,.nat],[AuG,AuH]⟩
def Afh {T:Type} (x:S4) (k:((Bool×ByteArray×Nat)⊕S4)->T):((Bool×Nat)⊕(Int×Nat))->T:=Sum.elim (fun e=>k (.inl (e.1,x.AV,e.2))) (fun d=>k (.inr (d.1,x.2.1,x.AV,d.2)))
def AuI (x:S4) (v:(Int×Nat)):S4:=(v.1,x.2.1,x.AV,v.2)
def AuJ {R:Type}:Bo S R:=LE.ls X Afg (fun x k=>(tH x.2.1 x.AV (x.1,x.v3)).bind (Afh x k)) Dh
theorem AuK {R:Type}:CB X (AuJ (R:=R)):=DR Dn (e:=Afg) Bq BO (st:=fun(x:S4)=>QL x.2.1 x.AV) (prj:=fun(x:S4)=>(x.1,x.v3)) (emb:=AuI) Afh (fun x _=>TD x.2.1 x.AV x.1 x.v3) (by intro;unfold QL TD;simp only[Cq,Cp,Cr,As,C8];rfl) BO
def pU:Fx1 S:=⟨[.str],[.bool],fun xs=>Ww xs.1⟩
theorem pV:B6 X 144 pU:=z5 Dn Bq AuK
def AuU:List (Nat×Fx1 S):=[(60,V2),(144,pU)]
theorem p4:Cf X (AuU):=⟨V3,pV,trivial⟩
def AuV:Key:=⟨[197,2,1,145,5,12,97],197,none,[0,0,1,0,1],0,79⟩
def AuW:Ay S:=⟨(N (N (N (N L Be L) none L) (some (.fn (.func 146) [] [(.ptr 54 0)])) L) (some (.AR (.st 21) [])) Ip),AdM,79⟩
def AuX:Way S:=⟨.ret,⟨v28,(N L none (N (N (N L none (N L none (N (N L SQ L) none L))) none L) none SN)),98⟩,[.int,(.st 21),(.st 21)]⟩
def AuY:Way S:=⟨(.exit 0),⟨L,AdM,80⟩,[(.st 21)]⟩
def Afm:LE S:=⟨AuV,AuW,[.int,(.AT (.st 21)),.int,(.st 21)],[AuX,AuY]⟩
def Afn {T:Type} (x:Vn) (k:((Int×A7×A7)⊕A7)->T):((Int×A7)⊕Unit)->T:=Sum.elim (fun d=>k (.inl (d.1,d.2,x.v3))) (fun e=>k (.inr x.v3))
def Avb (x:Vn) (v:Int):Vn:=(x.1,x.2.1,v,x.v3)
def Aft {R:Type}:Bo S R:=LE.ls X Afm (fun x k=>(Wj x.1 x.2.1 x.v3 x.AV).bind (Afn x k)) Dh
theorem Afu {R:Type}:CB X (Aft (R:=R)):=DR p4 (e:=Afm) Bq BO (st:=fun(x:Vn)=>QT x.1 x.2.1 x.v3) (prj:=fun(x:Vn)=>x.AV) (emb:=Avb) Afn (fun x _=>TL x.1 x.2.1 x.v3 x.AV) (by intro;unfold QT TL;simp only[Cq,Cp,Cr,As,C8];rfl) BO
def Avc:Key:=⟨[97],97,none,[0,0,1,0,1,1],1,50⟩
def Avd:Ay S:=⟨(N (N (N L none Sc) (some (.ptr 0 0)) L) none (N (N L none Sc) none (N (N (N L none (N L (some (.AR (.st 21) [])) L)) none L) none L))),AdF,50⟩
def Ave:Way S:=⟨.ret,⟨v22,(N o9 H2 AdH),66⟩,[.int,.int,.int,(.AT (.int .i64)),(.AT (.int .i64)),(.st 22),(.AT (.int .i64)),(.st 21)]⟩
def Avf:Way S:=⟨.ret,⟨v22,(N o9 H2 (N (N (N (N L Ga L) none (N L none (N (N L SQ L) none L))) none L) none SN)),102⟩,[.int,.int,.int,(.AT (.int .i64)),(.AT (.int .i64)),(.st 22),(.AT (.int .i64)),(.st 21),(.st 21)]⟩
def Avg:Way S:=⟨.ret,⟨v22,(N o9 H2 o6),117⟩,[.int,.int,.int,(.AT (.int .i64)),(.AT (.int .i64)),(.st 22),(.AT (.int .i64)),(.AT (.int .i64)),(.st 21),(.st 21)]⟩
def Avh:Way S:=⟨.ret,⟨v22,(N (N (N (N L Ga L) none L) none AdK) H2 o6),117⟩,[.int,.int,.int,(.AT (.int .i64)),(.AT (.int .i64)),(.AT (.int .i64)),(.st 22),(.AT (.int .i64)),(.AT (.int .i64)),(.st 21),(.st 21)]⟩
def Avi:Way S:=⟨.ret,⟨v22,(N (N (N (N L Ga L) none (N L none (N L none (N L none (N L Ga L))))) none AdK) H2 o6),130⟩,[.int,.int,.int,(.AT (.int .i64)),(.AT (.int .i64)),(.AT (.int .i64)),(.AT (.int .i64)),(.st 22),(.AT (.int .i64)),(.AT (.int .i64)),(.st 21),(.st 21)]⟩
def Avj:Way S:=⟨.ret,⟨v22,(N o8 H2 AdH),100⟩,[.int,.int,.int,(.AT (.int .i64)),(.AT (.int .i64)),(.AT (.int .i64)),(.st 22),(.AT (.int .i64)),(.st 21)]⟩
def Avk:Way S:=⟨.ret,⟨v22,(N o8 H2 (N AdL none SN)),100⟩,[.int,.int,.int,(.AT (.int .i64)),(.AT (.int .i64)),(.AT (.int .i64)),(.st 22),(.AT (.int .i64)),(.AT (.int .i64)),(.st 21)]⟩
def Avl:Way S:=⟨.ret,⟨v22,(N o8 H2 (N AdL none (N (N L none Pm) none (N (N L none (N L SQ L)) none L)))),113⟩,[.int,.int,.int,(.AT (.int .i64)),(.AT (.int .i64)),(.AT (.int .i64)),(.st 22),(.AT (.int .i64)),(.AT (.int .i64)),(.AT (.int .i64)),(.st 21)]⟩
def Avm:Way S:=⟨(.exit 1),⟨L,AdF,51⟩,[(.AT (.int .i64)),(.AT (.int .i64)),(.st 22),(.AT (.int .i64))]⟩
def Afv:LE S:=⟨Avc,Avd,[.int,.int,(.AT (.st 21)),(.AT (.int .i64)),(.AT (.int .i64)),(.st 22),(.AT (.int .i64))],[Ave,Avf,Avg,Avh,Avi,Avj,Avk,Avl,Avm]⟩
def Afw {T:Type} (x:WH) (k:((Int×Int×Int×(List Int)×(List Int)×BC×(List Int)×A7)⊕(Int×Int×Int×(List Int)×(List Int)×BC×(List Int)×A7×A7)⊕(Int×Int×Int×(List Int)×(List Int)×BC×(List Int)×(List Int)×A7×A7)⊕(Int×Int×Int×(List Int)×(List Int)×(List Int)×BC×(List Int)×(List Int)×A7×A7)⊕(Int×Int×Int×(List Int)×(List Int)×(List Int)×(List Int)×BC×(List Int)×(List Int)×A7×A7)⊕(Int×Int×Int×(List Int)×(List Int)×(List Int)×BC×(List Int)×A7)⊕(Int×Int×Int×(List Int)×(List Int)×(List Int)×BC×(List Int)×(List Int)×A7)⊕(Int×Int×Int×(List Int)×(List Int)×(List Int)×BC×(List Int)×(List Int)×(List Int)×A7)⊕((List Int)×(List Int)×BC×(List Int)))->T):((Int×Int×Int×A7)⊕(Int×Int×Int×A7×A7)⊕(Int×Int×Int×(List Int)×A7×A7)⊕(Int×Int×Int×(List Int)×(List Int)×A7×A7)⊕(Int×Int×Int×(List Int)×(List Int)×(List Int)×A7×A7)⊕(Int×Int×Int×(List Int)×A7)⊕(Int×Int×Int×(List Int)×(List Int)×A7)⊕(Int×Int×Int×(List Int)×(List Int)×(List Int)×A7)⊕Unit)->T:=Sum.elim (fun z=>k (.inl (z.1,z.2.1,z.AV,x.A4,x.BA,x.BM,x.v6,z.v3))) (Sum.elim (fun u=>k (.inr (.inl (u.1,u.2.1,u.AV,x.A4,x.BA,x.BM,x.v6,u.A4,u.v4)))) (Sum.elim (fun l=>k (.inr (.inr (.inl (l.1,l.2.1,l.AV,x.A4,x.BA,x.BM,x.v6,l.A4,l.BA,l.v5))))) (Sum.elim (fun i=>k (.inr (.inr (.inr (.inl (i.1,i.2.1,i.AV,x.A4,x.BA,i.A4,x.BM,x.v6,i.BA,i.BM,i.v6)))))) (Sum.elim (fun d=>k (.inr (.inr (.inr (.inr (.inl (d.1,d.2.1,d.AV,x.A4,d.A4,x.BA,d.BA,x.BM,x.v6,d.BM,d.Bg,d.Jt))))))) (Sum.elim (fun q=>k (.inr (.inr (.inr (.inr (.inr (.inl (q.1,q.2.1,q.AV,x.A4,q.A4,x.BA,x.BM,x.v6,q.v4)))))))) (Sum.elim (fun j=>k (.inr (.inr (.inr (.inr (.inr (.inr (.inl (j.1,j.2.1,j.AV,x.A4,j.A4,x.BA,x.BM,x.v6,j.BA,j.v5))))))))) (Sum.elim (fun e=>k (.inr (.inr (.inr (.inr (.inr (.inr (.inr (.inl (e.1,e.2.1,e.AV,x.A4,e.A4,x.BA,x.BM,x.v6,e.BA,e.BM,e.v6)))))))))) (fun C=>k (.inr (.inr (.inr (.inr (.inr (.inr (.inr (.inr (x.A4,x.BA,x.BM,x.v6)))))))))))))))))
def Avn (x:WH) (v:Int):WH:=(x.1,v,x.AV,x.A4,x.BA,x.BM,x.v6)
def Avo {R:Type}:Bo S R:=LE.ls X Afv (fun x k=>(eO x.1 x.AV x.BM x.2.1).bind (Afw x k)) Aft
theorem Avp {R:Type}:CB X (Avo (R:=R)):=DR p4 (e:=Afv) Bq Afu (st:=fun(x:WH)=>QS x.1 x.AV x.BM) (prj:=fun(x:WH)=>x.2.1) (emb:=Avn) Afw (fun x _=>TK x.1 x.AV x.BM x.2.1) (by intro;unfold QS TK;simp only[Cq,Cp,Cr,As,C8];rfl) Afu
def Afx:Fx1 S:=⟨[(.st 22)],[(.int .i64),(.int .i64),(.int .i64)],fun xs=>XN xs.1⟩
theorem Avq:B6 X 97 Afx:=Cw p4 Bq Avp fun xs=>u3 xs.1
def Avr:List (Nat×Fx1 S):=[(60,V2)]
theorem Avs:Cf X (Avr):=⟨V3,trivial⟩
def Afo:Fx1 S:=⟨[(.st 29)],[.bool],fun xs=>Wi xs.1⟩
theorem AuZ:B6 X 173 Afo:=Cw Avs Bq BO fun xs=>tM xs.1
def Av0:List (Nat×Fx1 S):=[(97,Afx),(60,V2),(173,Afo)]
theorem Afp:Cf X (Av0):=⟨Avq,V3,AuZ,trivial⟩
def Av1:Key:=⟨[172,1,10,116],172,none,[0,0,1,0,1],0,54⟩
def Av2:Ay S:=⟨(N (N (N (N L Be L) none L) (some (.fn (.func 173) [] [])) L) v10 Ip),L,54⟩
def Av3:Way S:=⟨.ret,⟨v28,L,65⟩,[.int]⟩
def Av4:Way S:=⟨(.exit 0),⟨L,L,55⟩,[]⟩
def Afq:LE S:=⟨Av1,Av2,[.int,(.AT (.st 29)),.int],[Av3,Av4]⟩
def Afr {T:Type} (x:Vx) (k:(Int⊕Unit)->T):(Int⊕Unit)->T:=Sum.elim (fun d=>k (.inl d)) (fun e=>k (.inr ()))
def Av5 (x:Vx) (v:Int):Vx:=(x.1,x.2.1,v)
def Av6 {R:Type}:Bo S R:=LE.ls X Afq (fun x k=>(dQ x.1 x.2.1 x.v2).bind (Afr x k)) Dh
theorem Av7 {R:Type}:CB X (Av6 (R:=R)):=DR Afp (e:=Afq) Bq BO (st:=fun(x:Vx)=>WF x.1 x.2.1) (prj:=fun(x:Vx)=>x.v2) (emb:=Av5) Afr (fun x _=>Sp x.1 x.2.1 x.v2) (by intro;unfold WF Sp;simp only[Cq,Cp,Cr,As,C8];rfl) BO
def Afs:Fx1 S:=⟨[(.st 22),(.st 23),(.AR (.st 29))],[(.int .i64),(.int .i64)],fun xs=>Wu xs.1 xs.2.1 xs.AV⟩
theorem Av8:B6 X 116 Afs:=Cw Afp Bq Av7 fun xs=>tF xs.1 xs.2.1 xs.AV
def Av9:List (Nat×Fx1 S):=[(116,Afs)]
theorem Ava:Cf X (Av9):=⟨Av8,trivial⟩
def aC:Fx1 S:=⟨[(.st 22),(.st 23),(.AR (.st 29))],[(.st 31),(.int .i64)],fun xs=>T4 xs.1 xs.2.1 xs.AV⟩
theorem aD:B6 X 59 aC:=Cw Ava Bq BO fun xs=>vG xs.1 xs.2.1 xs.AV
def p5:Fx1 S:=⟨[(.int .i64),(.int .i64)],[(.st 32)],fun xs=>tG xs.1 xs.2.1⟩
theorem p6:B6 X 122 p5:=Cw Dn Bq BO fun xs=>Aiq xs.1 xs.2.1
def V4:Fx1 S:=⟨[(.st 31),(.st 2)],[(.st 2)],fun xs=>OW xs.1 xs.2.1⟩
theorem V5:B6 X 64 V4:=Cw Dn Bq BO fun xs=>tO xs.1 xs.2.1
def AvE:Key:=⟨[174,2,1,117,2,1,182],174,none,[0,0,1,0,1],0,17⟩
def AvF:Ay S:=⟨(N (N (N (N L Be L) none L) (some (.fn (.func 213) [] [(.ptr 0 0),(.ptr 1 0)])) L) KZ Ip),(N (N L C4 L) C4 L),17⟩
def AfE:LE S:=⟨AvE,AvF,[.int,(.AT (.int .i64)),.int,.int,.int],[pY,pZ]⟩
def AvG {R:Type}:Bo S R:=LE.ls X AfE (fun x k=>(uE x.1 x.2.1 x.A4 x.v4 x.AV).bind (SU x k)) Dh
theorem AvH {R:Type}:CB X (AvG (R:=R)):=DR Dn (e:=AfE) Bq BO (st:=fun(x:NA)=>fB x.1 x.2.1 x.A4 x.v4) (prj:=fun(x:NA)=>x.AV) (emb:=pT) SU (fun x _=>eT x.1 x.2.1 x.A4 x.v4 x.AV) (by intro;unfold fB eT MM;simp only[Cq,Cp,Cr,As,C8];rfl) BO
def AfF:Fx1 S:=⟨[(.int .i64),(.int .i64),(.AR (.int .i64))],[.bool],fun xs=>u6 xs.1 xs.2.1 xs.AV⟩
theorem AvI:B6 X 182 AfF:=z5 Dn Bq AvH
def Afy:Fx1 S:=⟨[],[(.arr 8 (.st 2))],fun xs=>Air⟩
theorem Avt:B6 X 183 Afy:=z5 Dn Bq BO
def Avu:List (Nat×Fx1 S):=[(182,AfF),(183,Afy)]
theorem Afz:Cf X (Avu):=⟨AvI,Avt,trivial⟩
def Avv:Key:=⟨[134],134,none,[0,0,1,0,1,1,1],0,14⟩
def Avw:Ay S:=⟨(N (N Ip none L) none (N (N L (some (.ptr 9 0)) L) (some (.ptr 0 0)) (N L none (N L Be L)))),(N (N (N L Ga L) none (N (N L GD L) none L)) GD L),14⟩
def Avx:Way S:=⟨(.exit 0),⟨(N L none (N (N L (some (.ptr 9 0)) L) (some (.ptr 0 0)) L)),(N (N (N L Ga L) none (N (N L GD L) none L)) GD L),15⟩,[(.AT (.int .i64)),(.st 2),(.st 2)]⟩
def AfA:LE S:=⟨Avv,Avw,[.int,.int,(.AT (.int .i64)),(.st 2),(.st 2)],[Avx]⟩
def AfB {T:Type} (x:Vj) (k:((List Int)×A6×A6)->T):A6->T:=fun d=>k (x.AV,d,x.v4)
def Avy (x:Vj) (v:(Int×A6)):Vj:=(v.1,x.2.1,x.AV,v.2,x.v4)
def Avz {R:Type}:Bo S R:=LE.ls X AfA (fun x k=>(tP x.2.1 x.AV x.v4 (x.1,x.A4)).bind (AfB x k)) Dh
theorem AvA {R:Type}:CB X (Avz (R:=R)):=DR Afz (e:=AfA) Bq BO (st:=fun(x:Vj)=>eH x.2.1 x.AV x.v4) (prj:=fun(x:Vj)=>(x.1,x.A4)) (emb:=Avy) AfB (fun x _=>dS x.2.1 x.AV x.v4 x.1 x.A4) (by intro;unfold eH dS;simp only[Cq,Cp,Cr,As,C8];rfl) BO
def AfC:Fx1 S:=⟨[(.int .i64)],[(.st 2),(.int .i64)],fun xs=>fD xs.1⟩
theorem AvB:B6 X 134 AfC:=z5 Afz Bq AvA
def AvC:List (Nat×Fx1 S):=[(134,AfC)]
theorem AfD:Cf X (AvC):=⟨AvB,trivial⟩
def AvD:Key:=⟨[84],84,none,[0,0,1,0,1,1],0,7⟩
def AvJ:Ay S:=⟨(N (N (N (N (N L Be L) none L) (some (.ptr 1 0)) L) none L) none (N L (some (.ptr 0 0)) L)),(N (N L GD L) on L),7⟩
def AvK:Way S:=⟨.ret,⟨(N L none (N (N L Gb L) none L)),AdJ,93⟩,[.bool,(.st 2),(.st 2),(.st 2),(.st 32)]⟩
def AvL:Way S:=⟨.ret,⟨(N L none (N (N L Gb L) none L)),AdJ,90⟩,[.bool,(.st 2),(.st 2),(.st 2),(.st 32)]⟩
def AvM:Way S:=⟨(.exit 0),⟨L,(N (N L GD L) on L),8⟩,[(.st 2),(.st 32)]⟩
def AfG:LE S:=⟨AvD,AvJ,[.int,(.st 2),(.st 32)],[AvK,AvL,AvM]⟩
def AfH {T:Type} (x:Vz) (k:((Bool×A6×A6×A6×CR)⊕(Bool×A6×A6×A6×CR)⊕(A6×CR))->T):((Bool×A6×A6)⊕(Bool×A6×A6)⊕Unit)->T:=Sum.elim (fun e=>k (.inl (e.1,e.2.1,x.2.1,e.v2,x.v2))) (Sum.elim (fun d=>k (.inr (.inl (d.1,d.2.1,x.2.1,d.v2,x.v2)))) (fun i=>k (.inr (.inr (x.2.1,x.v2)))))
def AvN (x:Vz) (v:Int):Vz:=(v,x.2.1,x.v2)
def AvO {R:Type}:Bo S R:=LE.ls X AfG (fun x k=>(tN x.2.1 x.v2 x.1).bind (AfH x k)) Dh
theorem AvP {R:Type}:CB X (AvO (R:=R)):=DR AfD (e:=AfG) Bq BO (st:=fun(x:Vz)=>eG x.2.1 x.v2) (prj:=fun(x:Vz)=>x.1) (emb:=AvN) AfH (fun x _=>dR x.2.1 x.v2 x.1) (by intro;unfold eG dR;simp only[Cq,Cp,Cr,As,C8];rfl) BO
def aF:Fx1 S:=⟨[(.st 32),(.st 2)],[.bool],fun xs=>vI xs.1 xs.2.1⟩
theorem aG:B6 X 84 aF:=Cw AfD Bq AvP fun xs=>AiG xs.1 xs.2.1
def Aw1:Key:=⟨[83],83,none,[0,0,1,0,1,1,1],0,24⟩
def Aw2:Ay S:=⟨(N v25 none v25),(N (N L GD L) Mw L),24⟩
def Aw3:Way S:=⟨(.exit 0),⟨(N v25 none L),(N (N L GD L) Mw L),33⟩,[.int,.int,(.st 2),(.st 33)]⟩
def AfR:LE S:=⟨Aw1,Aw2,[.int,.int,.int,.int,(.st 2),(.st 33)],[Aw3]⟩
def AfS {T:Type} (x:Vh) (k:(Int×Int×A6×BQ)->T):Int->T:=fun d=>k (d,x.2.1,x.BA,x.v5)
def Aw4 (x:Vh) (v:(Int×Int)):Vh:=(v.1,x.2.1,v.2,x.A4,x.BA,x.v5)
def Aw5 {R:Type}:Bo S R:=LE.ls X AfR (fun x k=>(tA x.2.1 x.A4 (x.1,x.AV)).bind (AfS x k)) Dh
theorem Aw6 {R:Type}:CB X (Aw5 (R:=R)):=DR Dn (e:=AfR) Bq BO (st:=fun(x:Vh)=>QC x.2.1 x.A4) (prj:=fun(x:Vh)=>(x.1,x.AV)) (emb:=Aw4) AfS (fun x _=>Sv x.2.1 x.A4 x.1 x.AV) (by intro;unfold QC Sv;simp only[Cq,Cp,Cr,As,C8];rfl) BO
def SV:Fx1 S:=⟨[(.st 33),(.st 2)],[.bool],fun xs=>OZ xs.1 xs.2.1⟩
theorem SW:B6 X 83 SV:=Cw Dn Bq Aw6 fun xs=>uD xs.1 xs.2.1
def V6:Fx1 S:=⟨[(.int .i64),(.int .i64)],[(.st 33)],fun xs=>NG xs.1 xs.2.1⟩
theorem V7:B6 X 126 V6:=Cw Dn Bq BO fun xs=>W8 xs.1 xs.2.1
def AvQ:Ay S:=⟨(N (N L (some (.fn (.func 123) [] [(.ptr 0 0)])) L) (some (.fn (.func 124) [] [(.ptr 8 0),(.ptr 2 0),(.ptr 1 0)])) L),AdI,9⟩
def AvR:Way S:=⟨.ret,⟨Ai7,AdI,9⟩,[(.st 5),.bool,.bool,(.st 2),(.st 5),(.st 31),(.st 5)]⟩
def p7:Dc S:=⟨76,2,AvQ,[.bool,(.st 2),(.st 5),(.st 31),(.st 5)],[AvR]⟩
def AfI:List (Nat×Fx1 S):=[(59,aC),(60,V2),(122,p5),(64,V4),(84,aF),(83,SV),(126,V6)]
theorem aE:Cf X AfI:=⟨aD,V3,p6,V5,aG,SW,V7,trivial⟩
def AvS:Key:=⟨[16,5,5,40,5,3,138,2,19,5,3,138,0,176,0,124,0,76],124,(some 16),[0,0,1,0,0,1,0,1,1,0,1],2,72⟩
def AvT:Ay S:=⟨(N (N (N L (some (.ptr 1 0)) (N L v10 L)) none (N L (some (.ptr 66 0)) (N L Be L))) none (N (N L (some (.ptr 14 0)) (N L Be L)) (some (.ptr 2 0)) L)),Ae6,72⟩
def AvU:Way S:=⟨(.exit 1),⟨L,(N (N (N (N L of L) ok (N L DZ (N (N (N L (some (.cells 78 [(.BR 29 (T.Bi 29))])) L) none L) none L))) DZ (N (N L SP L) Po (N L DL L))) GD (N (N (N (N L Fi L) Gw L) GM L) op (N (N (N (N (N L Mw L) none L) none L) GM L) GM (N L SO L)))),93⟩,[.bool,(.st 29),.bool,(.st 2),(.st 5),(.st 31),(.st 33),(.st 5),(.st 5)]⟩
def AvV:Way S:=⟨(.exit 2),⟨(N (N L none (N L (some (.ptr 66 0)) L)) none (N (N L (some (.ptr 14 0)) L) none L)),Ae6,73⟩,[.bool,.bool,(.st 2),(.st 5),(.st 31),(.st 33),(.st 5),(.st 5)]⟩
def AfJ:LE S:=⟨AvS,AvT,[(.AT (.st 29)),.int,.int,.bool,.bool,(.st 2),(.st 5),(.st 31),(.st 33),(.st 5),(.st 5)],[AvU,AvV]⟩
def AfK {T:Type} (x:WD) (k:((Bool×Ak×Bool×A6×AE×BK×BQ×AE×AE)⊕(Bool×Bool×A6×AE×BK×BQ×AE×AE))->T):(Ak⊕Unit)->T:=Sum.elim (fun d=>k (.inl (x.A4,d,x.BA,x.BM,x.Bg,x.BT,x.u8,x.CJ,x.v10))) (fun e=>k (.inr (x.A4,x.BA,x.BM,x.Bg,x.BT,x.u8,x.CJ,x.v10)))
def AvW (x:WD) (v:Int):WD:=(x.1,v,x.AV,x.A4,x.BA,x.BM,x.Bg,x.BT,x.u8,x.CJ,x.v10)
def AfL {R:Type}:Bo S R:=LE.ls X AfJ (fun x k=>(cN x.1 x.AV x.BA x.BT x.u8 x.2.1).bind (AfK x k)) Dh
theorem AfM {R:Type}:CB X (AfL (R:=R)):=DR aE (e:=AfJ) Bq BO (st:=fun(x:WD)=>RE x.1 x.AV x.BA x.BT x.u8) (prj:=fun(x:WD)=>x.2.1) (emb:=AvW) AfK (fun x _=>Od x.1 x.AV x.BA x.BT x.u8 x.2.1) (by intro;unfold RE Od;simp only[Cq,Cp,Cr,As,C8];rfl) BO
def AvX:Key:=⟨[138,2,19,5,3,138,0,176,0,124,0,76],138,none,[0,0,1],0,48⟩
def AvY:Ay S:=⟨(N (N L (some (.ptr 4 0)) (N (N L Be L) none L)) (some (.B2 40)) v28),AdA,48⟩
def AvZ:Way S:=⟨(.exit 0),⟨L,AdA,49⟩,[.bool,.bool,.int,(.st 2),.int,(.st 5),(.st 31),(.st 5),(.st 5)]⟩
def AfN:LE S:=⟨AvX,AvY,[.int,.int,.bool,.bool,.int,(.st 2),.int,(.st 5),(.st 31),(.st 5),(.st 5)],[AvZ]⟩
def AfO {T:Type} (x:WI) (k:(Bool×Bool×Int×A6×Int×AE×BK×AE×AE)->T):(Bool×AE)->T:=fun d=>k (d.1,x.A4,x.BA,x.BM,x.Bg,x.BT,x.u8,d.2,x.v10)
def Aw0 (x:WI) (v:(Int×Bool×AE)):WI:=(x.1,v.1,v.2.1,x.A4,x.BA,x.BM,x.Bg,x.BT,x.u8,v.v2,x.v10)
def AfP {R:Type}:Bo S R:=LE.ls X AfN (fun x k=>(WX x.1 x.A4 x.BA x.BM x.BT x.u8 (x.2.1,x.AV,x.CJ)).bind (AfO x k)) AfL
theorem AfQ {R:Type}:CB X (AfP (R:=R)):=DR aE (e:=AfN) Bq AfM (st:=fun(x:WI)=>RD x.1 x.A4 x.BA x.BM x.BT x.u8) (prj:=fun(x:WI)=>(x.2.1,x.AV,x.CJ)) (emb:=Aw0) AfO (fun x _=>Th x.1 x.A4 x.BA x.BM x.BT x.u8 x.2.1 x.AV x.CJ) (by intro;unfold RD Th;simp only[Cq,Cp,Cr,As,C8];rfl) AfM
def Awj:Key:=⟨[138,0,176,0,124,0,76],138,none,[0,0,1],0,27⟩
def Awk:Ay S:=⟨(N (N L (some (.ptr 6 0)) (N (N L Be L) none L)) (some (.B2 19)) v28),AdD,27⟩
def Awl:Way S:=⟨(.exit 0),⟨L,AdD,28⟩,[.bool,.bool,(.st 2),(.st 5),(.st 31),(.st 5),(.st 5)]⟩
def AfX:LE S:=⟨Awj,Awk,[.int,.int,.bool,.bool,(.st 2),(.st 5),(.st 31),(.st 5),(.st 5)],[Awl]⟩
def AfY {T:Type} (x:WJ) (k:(Bool×Bool×A6×AE×BK×AE×AE)->T):(Bool×AE)->T:=fun d=>k (d.1,x.A4,x.BA,x.BM,x.Bg,d.2,x.FI)
def Awm (x:WJ) (v:(Int×Bool×AE)):WJ:=(x.1,v.1,v.2.1,x.A4,x.BA,x.BM,x.Bg,v.v2,x.FI)
def Awn {R:Type}:Bo S R:=LE.ls X AfX (fun x k=>(cM x.1 x.A4 x.BA x.BM x.Bg x.FI (x.2.1,x.AV,x.BT)).bind (AfY x k)) AfP
theorem Awo {R:Type}:CB X (Awn (R:=R)):=DR aE (e:=AfX) Bq AfQ (st:=fun(x:WJ)=>RC x.1 x.A4 x.BA x.BM x.Bg x.FI) (prj:=fun(x:WJ)=>(x.2.1,x.AV,x.BT)) (emb:=Awm) AfY (fun x _=>Tg x.1 x.A4 x.BA x.BM x.Bg x.FI x.2.1 x.AV x.BT) (by intro;unfold RC Tg;simp only[Cq,Cp,Cr,As,C8];rfl) AfQ
theorem Awy:Fe X p7 QF:=z9 aE Bq Awo sR
def Ag1 {R:Type}:Ed S R:=Dc.AP X p7 (fun x q=>(QF x).bind q) JU
theorem My {R:Type}:GC X (Ag1 (R:=R)):=JM (e:=p7) Awy Bq
theorem Awz:Cf X (AfI):=⟨aD,V3,p6,V5,aG,SW,V7,trivial⟩
def qC:Fx1 S:=⟨[(.st 22),(.st 23),(.AR (.st 29)),(.st 2),.bool],[(.int .i64),(.int .i64)],fun xs=>Q5 xs.1 xs.2.1 xs.AV xs.A4 xs.BA⟩
theorem eX:B6 X 12 qC:=Cw Awz My BO fun xs=>u5 xs.1 xs.2.1 xs.AV xs.A4 xs.BA
def AwA:List (Nat×Fx1 S):=[(50,V1)]
theorem AwB:Cf X (AwA):=⟨Zy,trivial⟩
def qD:Fx1 S:=⟨[(.int .i64),(.int .i64),(.int .i64)],[(.st 28)],fun xs=>XP xs.1 xs.2.1 xs.AV⟩
theorem Ag2:B6 X 14 qD:=Cw AwB My BO fun xs=>vJ xs.1 xs.2.1 xs.AV
def AwC:Key:=⟨[174,2,1,117,2,1,100],174,none,[0,0,1,0,1],0,17⟩
def AwD:Ay S:=⟨(N (N (N (N L Be L) none L) (some (.fn (.func 152) [] [(.ptr 0 0),(.ptr 1 0)])) L) KZ Ip),(N (N L C4 L) C4 L),17⟩
def Ag3:LE S:=⟨AwC,AwD,[.int,(.AT (.int .i64)),.int,.int,.int],[pY,pZ]⟩
def Awp {R:Type}:Bo S R:=LE.ls X Ag3 (fun x k=>(tB x.1 x.2.1 x.A4 x.v4 x.AV).bind (SU x k)) Dh
theorem Awq {R:Type}:CB X (Awp (R:=R)):=DR Dn (e:=Ag3) My BO (st:=fun(x:NA)=>QH x.1 x.2.1 x.A4 x.v4) (prj:=fun(x:NA)=>x.AV) (emb:=pT) SU (fun x _=>Sw x.1 x.2.1 x.A4 x.v4 x.AV) (by intro;unfold QH Sw MM;simp only[Cq,Cp,Cr,As,C8];rfl) BO
def p8:Fx1 S:=⟨[(.int .i64),(.int .i64),(.AR (.int .i64))],[.bool],fun xs=>K5 xs.1 xs.2.1 xs.AV⟩
theorem p9:B6 X 100 p8:=Cw Dn My Awq fun xs=>eR xs.1 xs.2.1 xs.AV
def Awr:List (Nat×Fx1 S):=[(100,p8)]
theorem Aws:Cf X (Awr):=⟨p9,trivial⟩
def aH:Fx1 S:=⟨[(.st 20),(.st 28)],[(.int .i64)],fun xs=>QZ xs.1 xs.2.1⟩
theorem V8:B6 X 127 aH:=Cw Aws My BO fun xs=>uN xs.1 xs.2.1
def Awt:Ay S:=⟨(N (N L (some (.fn (.func 155) [] [(.ptr 0 0)])) L) (some (.AR (.st 18) [])) L),(N L os L),1⟩
def qA:Way S:=⟨.ret,⟨(N L bE L),(N L os L),1⟩,[.int,.int,(.st 20)]⟩
def qB:Dc S:=⟨154,2,Awt,[(.AT (.st 18)),(.st 20)],[qA]⟩
def AfZ:List (Nat×Fx1 S):=[(100,p8),(144,pU),(127,aH)]
theorem Pq:Cf X AfZ:=⟨p9,pV,V8,trivial⟩
def Awu:Key:=⟨[202,2,1,156,5,3,155,3,4,154],202,none,[0,0,1,0,1],0,42⟩
def Awv:Ay S:=⟨(N (N (N (N L Be L) none L) (some (.fn (.func 157) [] [(.ptr 18 0)])) L) (some (.AR (.st 18) [])) Ip),AdP,42⟩
def Aww:Way S:=⟨.ret,⟨v28,(N Ae9 none (N L none (N (N (N L JT L) none L) none L))),61⟩,[.int,(.st 18),(.st 18)]⟩
def Awx:Way S:=⟨(.exit 0),⟨L,AdP,43⟩,[(.st 18)]⟩
def Ag0:LE S:=⟨Awu,Awv,[.int,(.AT (.st 18)),.int,(.st 18)],[Aww,Awx]⟩
def Ag4 {T:Type} (x:Vk) (k:((Int×A9×A9)⊕A9)->T):((Int×A9)⊕Unit)->T:=Sum.elim (fun d=>k (.inl (d.1,d.2,x.v3))) (fun e=>k (.inr x.v3))
def AwE (x:Vk) (v:Int):Vk:=(x.1,x.2.1,v,x.v3)
def Ag5 {R:Type}:Bo S R:=LE.ls X Ag0 (fun x k=>(Tn x.1 x.2.1 x.v3 x.AV).bind (Ag4 x k)) Dh
theorem Ag6 {R:Type}:CB X (Ag5 (R:=R)):=DR Pq (e:=Ag0) My BO (st:=fun(x:Vk)=>Qg x.1 x.2.1 x.v3) (prj:=fun(x:Vk)=>x.AV) (emb:=AwE) Ag4 (fun x _=>Tm x.1 x.2.1 x.v3 x.AV) (by intro;unfold Qg Tm;simp only[Cq,Cp,Cr,As,C8];rfl) BO
def AwF:Key:=⟨[154],154,none,[0,0,1,0,1],0,6⟩
def AwG:Ay S:=⟨(N (N (N L none (N L Be L)) (some (.fn (.func 155) [] [(.ptr 0 0)])) (N (N L (some (.AR (.st 18) [])) L) none L)) none v28),(N L os L),6⟩
def AwH:Way S:=⟨.ret,⟨v21,(N L os Zr),32⟩,[.int,.int,(.st 20),(.st 18),(.st 18)]⟩
def AwI:Way S:=⟨.ret,⟨v21,(N Ae9 os Zr),68⟩,[.int,.int,(.st 18),(.st 20),(.st 18),(.st 18)]⟩
def AwJ:Way S:=⟨.ret,⟨v21,(N (N (N (N VW none L) none (N (N L none (N L JT L)) none L)) none L) os Zr),82⟩,[.int,.int,(.AT (.int .i64)),(.st 18),(.st 20),(.st 18),(.st 18)]⟩
def AwW:Way S:=⟨.ret,⟨v21,(N (N (N (N VW none VW) none (N (N L none (N L JT L)) none L)) none L) os Zr),82⟩,[.int,.int,(.AT (.int .i64)),(.AT (.int .i64)),(.st 18),(.st 20),(.st 18),(.st 18)]⟩
def AwX:Way S:=⟨.ret,⟨v21,(N L os (N L none (N (N (N L JT L) JT L) none (N L none (N (N L Ga L) none L))))),65⟩,[.int,.int,(.st 20),(.st 18),(.st 18),(.AT (.int .i64))]⟩
def AwY:Way S:=⟨.ret,⟨v21,(N L os (N L none (N (N (N L JT L) JT L) none (N (N L none (N L Ga L)) none (N (N L Ga L) none L))))),65⟩,[.int,.int,(.st 20),(.st 18),(.st 18),(.AT (.int .i64)),(.AT (.int .i64))]⟩
def qG:Way S:=⟨(.exit 0),⟨L,(N L os L),7⟩,[(.st 20)]⟩
def Agb:LE S:=⟨AwF,AwG,[.int,(.AT (.st 18)),.int,(.st 20)],[AwH,AwI,AwJ,AwW,AwX,AwY,qG]⟩
def Agc {T:Type} (x:Vl) (k:((Int×Int×AQ×A9×A9)⊕(Int×Int×A9×AQ×A9×A9)⊕(Int×Int×(List Int)×A9×AQ×A9×A9)⊕(Int×Int×(List Int)×(List Int)×A9×AQ×A9×A9)⊕(Int×Int×AQ×A9×A9×(List Int))⊕(Int×Int×AQ×A9×A9×(List Int)×(List Int))⊕AQ)->T):((Int×Int×A9×A9)⊕(Int×Int×A9×A9×A9)⊕(Int×Int×(List Int)×A9×A9×A9)⊕(Int×Int×(List Int)×(List Int)×A9×A9×A9)⊕(Int×Int×A9×A9×(List Int))⊕(Int×Int×A9×A9×(List Int)×(List Int))⊕Unit)->T:=Sum.elim (fun q=>k (.inl (q.1,q.2.1,x.v3,q.AV,q.v3))) (Sum.elim (fun j=>k (.inr (.inl (j.1,j.2.1,j.AV,x.v3,j.A4,j.v4)))) (Sum.elim (fun i=>k (.inr (.inr (.inl (i.1,i.2.1,i.AV,i.A4,x.v3,i.BA,i.v5))))) (Sum.elim (fun d=>k (.inr (.inr (.inr (.inl (d.1,d.2.1,d.AV,d.A4,d.BA,x.v3,d.BM,d.v6)))))) (Sum.elim (fun l=>k (.inr (.inr (.inr (.inr (.inl (l.1,l.2.1,x.v3,l.AV,l.A4,l.v4))))))) (Sum.elim (fun e=>k (.inr (.inr (.inr (.inr (.inr (.inl (e.1,e.2.1,x.v3,e.AV,e.A4,e.BA,e.v5)))))))) (fun u=>k (.inr (.inr (.inr (.inr (.inr (.inr x.v3))))))))))))
def AwZ (x:Vl) (v:Int):Vl:=(v,x.2.1,x.AV,x.v3)
def Ax0 {R:Type}:Bo S R:=LE.ls X Agb (fun x k=>(bJ x.2.1 x.AV x.v3 x.1).bind (Agc x k)) Ag5
theorem Ax1 {R:Type}:CB X (Ax0 (R:=R)):=DR Pq (e:=Agb) My Ag6 (st:=fun(x:Vl)=>Tq x.2.1 x.AV x.v3) (prj:=fun(x:Vl)=>x.1) (emb:=AwZ) Agc (fun x _=>Tl x.2.1 x.AV x.v3 x.1) (by intro;unfold Tq Tl;simp only[Cq,Cp,Cr,As,C8];rfl) Ag6
theorem Ax2:Fe X qB Sl:=z9 Pq My Ax1 sL
def Agd {R:Type}:Ed S R:=Dc.AP X qB (fun x q=>(Sl x).bind q) Ag1
theorem qH {R:Type}:GC X (Agd (R:=R)):=JM (e:=qB) Ax2 My
def Ax3:Ay S:=⟨(N (N L (some (.fn (.func 159) [] [(.ptr 0 0)])) L) v11 L),(N L os L),1⟩
def qI:Dc S:=⟨158,2,Ax3,[(.AT (.st 19)),(.st 20)],[qA]⟩
def Age:Key:=⟨[158],158,none,[0,0,1,0,1],0,6⟩
def Ax4:Ay S:=⟨(N (N (N L none (N L Be L)) (some (.fn (.func 159) [] [(.ptr 0 0)])) (N (N L v11 L) none L)) none v28),(N L os L),6⟩
def Ax5:Way S:=⟨.ret,⟨v21,(N L os (N L none (N (N (N L IE L) IE L) none L))),30⟩,[.int,.int,(.st 20),(.st 19),(.st 19)]⟩
def Agf:LE S:=⟨Age,Ax4,[.int,(.AT (.st 19)),.int,(.st 20)],[Ax5,qG]⟩
def Ag7 {T:Type} (x:Vm) (k:((Int×Int×AQ×AN×AN)⊕AQ)->T):((Int×Int×AN×AN)⊕Unit)->T:=Sum.elim (fun d=>k (.inl (d.1,d.2.1,x.v3,d.AV,d.v3))) (fun e=>k (.inr x.v3))
def AwK (x:Vm) (v:Int):Vm:=(v,x.2.1,x.AV,x.v3)
def AwL {R:Type}:Bo S R:=LE.ls X Agf (fun x k=>(WP x.2.1 x.AV x.v3 x.1).bind (Ag7 x k)) Dh
theorem AwM {R:Type}:CB X (AwL (R:=R)):=DR Pq (e:=Agf) qH BO (st:=fun(x:Vm)=>Tv x.2.1 x.AV x.v3) (prj:=fun(x:Vm)=>x.1) (emb:=AwK) Ag7 (fun x _=>To x.2.1 x.AV x.v3 x.1) (by intro;unfold Tv To;simp only[Cq,Cp,Cr,As,C8];rfl) BO
theorem AwN:Fe X qI Sq:=z9 Pq qH AwM sH
def Ag8 {R:Type}:Ed S R:=Dc.AP X qI (fun x q=>(Sq x).bind q) Agd
theorem qE {R:Type}:GC X (Ag8 (R:=R)):=JM (e:=qI) AwN qH
def AwO:Ay S:=⟨(N (N L (some (.fn (.func 160) [] [(.ptr 0 0)])) L) v11 L),(N L C4 L),1⟩
def AwP:Way S:=⟨.ret,⟨(N L bE L),(N L C4 L),1⟩,[.int,.int,.int]⟩
def qF:Dc S:=⟨158,2,AwO,[(.AT (.st 19)),.int],[AwP]⟩
def AwQ:Ay S:=⟨(N (N (N L none (N L Be L)) (some (.fn (.func 160) [] [(.ptr 0 0)])) (N (N L v11 L) none L)) none v28),(N L C4 L),6⟩
def AwR:Way S:=⟨.ret,⟨v21,(N L C4 (N L none (N (N (N L IE L) IE L) none L))),38⟩,[.int,.int,.int,(.st 19),(.st 19)]⟩
def AwS:Way S:=⟨(.exit 0),⟨L,(N L C4 L),7⟩,[.int]⟩
def Ag9:LE S:=⟨Age,AwQ,[.int,(.AT (.st 19)),.int,.int],[AwR,AwS]⟩
def Aga {T:Type} (x:Vs) (k:((Int×Int×Int×AN×AN)⊕Int)->T):((Int×Int×Int×AN×AN)⊕Int)->T:=Sum.elim (fun d=>k (.inl (d.1,d.2.1,d.AV,d.A4,d.v4))) (fun e=>k (.inr e))
def AwT (x:Vs) (v:(Int×Int)):Vs:=(v.1,x.2.1,x.AV,v.2)
def AwU {R:Type}:Bo S R:=LE.ls X Ag9 (fun x k=>(bM x.2.1 x.AV (x.1,x.v3)).bind (Aga x k)) Dh
theorem AwV {R:Type}:CB X (AwU (R:=R)):=DR Pq (e:=Ag9) qE BO (st:=fun(x:Vs)=>Oa x.2.1 x.AV) (prj:=fun(x:Vs)=>(x.1,x.v3)) (emb:=AwT) Aga (fun x _=>Tp x.2.1 x.AV x.1 x.v3) (by intro;unfold Oa Tp;simp only[Cq,Cp,Cr,As,C8];rfl) BO
theorem qJ:Fe X qF Sr:=z9 Pq qE AwV sI
def aI {R:Type}:Ed S R:=Dc.AP X qF (fun x q=>(Sr x).bind q) Ag8
theorem SX {R:Type}:GC X (aI (R:=R)):=JM (e:=qF) qJ qE
theorem qK:Cf X (AfZ):=⟨p9,pV,V8,trivial⟩
def Agg:Fx1 S:=⟨[(.st 20)],[(.int .i64),(.int .i64),(.int .i64)],fun xs=>Wy xs.1⟩
theorem Agl:B6 X 104 Agg:=Cw qK SX BO fun xs=>uI xs.1
def Axe:Ay S:=⟨(N (N L (some (.fn (.func 181) [] [(.ptr 0 0)])) L) (some (.AR (.st 28) [])) L),(N L os L),1⟩
def qM:Dc S:=⟨180,2,Axe,[(.AT (.st 28)),(.st 20)],[qA]⟩
def Agm:List (Nat×Fx1 S):=[(104,Agg),(127,aH)]
theorem Agn:Cf X Agm:=⟨Agl,V8,trivial⟩
def Axf:Key:=⟨[180],180,none,[0,0,1,0,1],0,6⟩
def Axg:Ay S:=⟨(N (N (N L none (N L Be L)) (some (.fn (.func 181) [] [(.ptr 0 0)])) (N (N L (some (.AR (.st 28) [])) L) none L)) none v28),(N L os L),6⟩
def Axh:Way S:=⟨.ret,⟨v21,(N L os (N L none (N (N (N L IT L) IT L) none L))),30⟩,[.int,.int,(.st 20),(.st 28),(.st 28)]⟩
def Ago:LE S:=⟨Axf,Axg,[.int,(.AT (.st 28)),.int,(.st 20)],[Axh,qG]⟩
def Agp {T:Type} (x:Vo) (k:((Int×Int×AQ×Aa×Aa)⊕AQ)->T):((Int×Int×Aa×Aa)⊕Unit)->T:=Sum.elim (fun d=>k (.inl (d.1,d.2.1,x.v3,d.AV,d.v3))) (fun e=>k (.inr x.v3))
def Axi (x:Vo) (v:Int):Vo:=(v,x.2.1,x.AV,x.v3)
def Axj {R:Type}:Bo S R:=LE.ls X Ago (fun x k=>(bP x.2.1 x.AV x.v3 x.1).bind (Agp x k)) Dh
theorem Axk {R:Type}:CB X (Axj (R:=R)):=DR Agn (e:=Ago) SX BO (st:=fun(x:Vo)=>Te x.2.1 x.AV x.v3) (prj:=fun(x:Vo)=>x.1) (emb:=Axi) Agp (fun x _=>Tt x.2.1 x.AV x.v3 x.1) (by intro;unfold Te Tt;simp only[Cq,Cp,Cr,As,C8];rfl) BO
theorem Axl:Fe X qM Ss:=z9 Agn SX Axk sN
def aK {R:Type}:Ed S R:=Dc.AP X qM (fun x q=>(Ss x).bind q) aI
theorem Ik {R:Type}:GC X (aK (R:=R)):=JM (e:=qM) Axl SX
theorem Axm:Cf X (Agm):=⟨Agl,V8,trivial⟩
def Agh:Fx1 S:=⟨[(.st 20),(.AR (.st 28))],[(.int .i64),(.int .i64)],fun xs=>Wm xs.1 xs.2.1⟩
theorem Ax6:B6 X 132 Agh:=Cw Axm Ik BO fun xs=>tE xs.1 xs.2.1
def Ax7:List (Nat×Fx1 S):=[(132,Agh)]
theorem Ax8:Cf X (Ax7):=⟨Ax6,trivial⟩
def qL:Fx1 S:=⟨[(.st 20),(.AR (.st 28))],[(.st 34),(.int .i64)],fun xs=>T0 xs.1 xs.2.1⟩
theorem Agi:B6 X 74 qL:=Cw Ax8 Ik BO fun xs=>X72 xs.1 xs.2.1
def Agj:Fx1 S:=⟨[(.st 5)],[.bool],fun xs=>cX xs.1⟩
theorem Ax9:B6 X 199 Agj:=Cw Dn Ik BO fun xs=>sQ xs.1
def Axa:List (Nat×Fx1 S):=[(199,Agj)]
theorem OK:Cf X (Axa):=⟨Ax9,trivial⟩
def Axb:Key:=⟨[149],149,none,[0,0,1,1,1,0,0,1,1,0,0,1,0,1,1],2,33⟩
def Axc:Ay S:=⟨Aib,(N (N L CQ L) CM (N L CQ L)),33⟩
def Axd:Way S:=⟨(.exit 2),⟨rM,(N (N L CQ L) CM (N L CQ L)),34⟩,[.int,.int,.int,(.AT (.st 35)),(.arr (.st 5)),(.st 34),(.arr (.st 5))]⟩
def Agk:LE S:=⟨Axb,Axc,[.int,.int,.int,.int,.int,.int,(.AT (.st 35)),(.AT (.st 35)),(.arr (.st 5)),(.st 34),(.arr (.st 5))],[Axd]⟩
def aJ {T:Type} (x:Pt) (k:S8->T):(Nat->AE)->T:=fun d=>k (x.2.1,x.A4,x.BM,x.Bg,d,x.CJ,x.v10)
def Agq (x:Pt) (v:(Int×(Nat->AE))):Pt:=(x.1,x.2.1,x.AV,x.A4,v.1,x.BM,x.Bg,x.BT,v.2,x.CJ,x.v10)
def Agr {R:Type}:Bo S R:=LE.ls X Agk (fun x k=>(W0 x.1 x.2.1 x.AV x.A4 x.BM x.Bg x.BT x.CJ x.v10 (x.BA,x.u8)).bind (aJ x k)) Dh
theorem Ags {R:Type}:CB X (Agr (R:=R)):=DR OK (e:=Agk) Ik BO (st:=fun(x:Pt)=>Ql x.1 x.2.1 x.AV x.A4 x.BM x.Bg x.BT x.CJ x.v10) (prj:=fun(x:Pt)=>(x.BA,x.u8)) (emb:=Agq) aJ (fun x _=>Oe x.1 x.2.1 x.AV x.A4 x.BM x.Bg x.BT x.CJ x.v10 x.BA x.u8) (by intro;unfold Ql Oe;simp only[Cq,Cp,Cr,As,C8];rfl) BO
def Axn:Key:=⟨[149],149,none,[0,0,1,1,1,0,0,1,1,0,0,1,0,1,1],2,19⟩
def Axo:Ay S:=⟨Aib,(N (N L CQ L) CM (N L CQ L)),19⟩
def Axp:Way S:=⟨(.exit 2),⟨rM,(N (N L CQ L) CM (N L CQ L)),20⟩,[.int,.int,.int,(.AT (.st 35)),(.arr (.st 5)),(.st 34),(.arr (.st 5))]⟩
def Agt:LE S:=⟨Axn,Axo,[.int,.int,.int,.int,.int,.int,(.AT (.st 35)),(.AT (.st 35)),(.arr (.st 5)),(.st 34),(.arr (.st 5))],[Axp]⟩
def AgE {R:Type}:Bo S R:=LE.ls X Agt (fun x k=>(cA x.1 x.2.1 x.AV x.A4 x.BM x.Bg x.BT x.CJ x.v10 (x.BA,x.u8)).bind (aJ x k)) Agr
theorem AgF {R:Type}:CB X (AgE (R:=R)):=DR OK (e:=Agt) Ik Ags (st:=fun(x:Pt)=>cG x.1 x.2.1 x.AV x.A4 x.BM x.Bg x.BT x.CJ x.v10) (prj:=fun(x:Pt)=>(x.BA,x.u8)) (emb:=Agq) aJ (fun x _=>cO x.1 x.2.1 x.AV x.A4 x.BM x.Bg x.BT x.CJ x.v10 x.BA x.u8) (by intro;unfold cG cO Oe;simp only[Cq,Cp,Cr,As,C8];rfl) Ags
def AxB:Key:=⟨[149],149,none,[0,0,1,0,1,1],0,11⟩
def AxC:Ay S:=⟨rM,(N (N L CQ L) CM (N L CQ L)),11⟩
def AxD:Way S:=⟨(.exit 0),⟨(N L none (N Pw v12 (N L (some (.ptr 2 0)) L))),(N (N L CQ L) CM (N L CQ L)),12⟩,[.int,(.AT (.st 35)),(.arr (.st 5)),(.st 34),(.arr (.st 5))]⟩
def AgG:LE S:=⟨AxB,AxC,[.int,.int,.int,(.AT (.st 35)),(.arr (.st 5)),(.st 34),(.arr (.st 5))],[AxD]⟩
def AgH {T:Type} (x:S8) (k:(Int×(List AG)×(Nat->AE)×AF×(Nat->AE))->T):(Nat->AE)->T:=fun d=>k (x.2.1,x.A4,d,x.BM,x.v6)
def AxE (x:S8) (v:(Int×(Nat->AE))):S8:=(x.1,x.2.1,v.1,x.A4,v.2,x.BM,x.v6)
def AgI {R:Type}:Bo S R:=LE.ls X AgG (fun x k=>(WZ x.1 x.2.1 x.A4 x.BM x.v6 (x.AV,x.BA)).bind (AgH x k)) AgE
theorem AgJ {R:Type}:CB X (AgI (R:=R)):=DR OK (e:=AgG) Ik AgF (st:=fun(x:S8)=>Qk x.1 x.2.1 x.A4 x.BM x.v6) (prj:=fun(x:S8)=>(x.AV,x.BA)) (emb:=AxE) AgH (fun x _=>Sg x.1 x.2.1 x.A4 x.BM x.v6 x.AV x.BA) (by intro;unfold Qk Sg;simp only[Cq,Cp,Cr,As,C8];rfl) AgF
def AxF:Key:=⟨[149],149,none,[0,0,1,1,0,0,1,0,0,1,0,1,1,1],6,38⟩
def AxG:Ay S:=⟨Aic,(N (N L CQ L) CM (N L CQ L)),38⟩
def AxH:Way S:=⟨(.exit 6),⟨rN,(N (N L CQ L) CM (N L CQ L)),39⟩,[.int,.int,(.AT (.st 35)),(.arr (.st 5)),(.st 34),(.arr (.st 5))]⟩
def AgK:LE S:=⟨AxF,AxG,[(.AT (.st 35)),.int,.int,.int,.int,(.AT (.st 35)),(.arr (.st 5)),(.st 34),(.arr (.st 5))],[AxH]⟩
def aL {T:Type} (x:Pu) (k:S9->T):(Nat->AE)->T:=fun d=>k (x.AV,x.BA,x.BM,d,x.BT,x.FI)
def AgL (x:Pu) (v:(Int×(Nat->AE))):Pu:=(x.1,v.1,x.AV,x.A4,x.BA,x.BM,v.2,x.BT,x.FI)
def AgM {R:Type}:Bo S R:=LE.ls X AgK (fun x k=>(W2 x.1 x.AV x.A4 x.BA x.BM x.BT x.FI (x.2.1,x.Bg)).bind (aL x k)) AgI
theorem AgN {R:Type}:CB X (AgM (R:=R)):=DR OK (e:=AgK) Ik AgJ (st:=fun(x:Pu)=>Qn x.1 x.AV x.A4 x.BA x.BM x.BT x.FI) (prj:=fun(x:Pu)=>(x.2.1,x.Bg)) (emb:=AgL) aL (fun x _=>Of x.1 x.AV x.A4 x.BA x.BM x.BT x.FI x.2.1 x.Bg) (by intro;unfold Qn Of;simp only[Cq,Cp,Cr,As,C8];rfl) AgJ
def AxI:Key:=⟨[149],149,none,[0,0,1,1,0,0,1,0,0,1,0,1,1,1],6,24⟩
def AxJ:Ay S:=⟨Aic,(N (N L CQ L) CM (N L CQ L)),24⟩
def AxK:Way S:=⟨(.exit 6),⟨rN,(N (N L CQ L) CM (N L CQ L)),25⟩,[.int,.int,(.AT (.st 35)),(.arr (.st 5)),(.st 34),(.arr (.st 5))]⟩
def AgO:LE S:=⟨AxI,AxJ,[(.AT (.st 35)),.int,.int,.int,.int,(.AT (.st 35)),(.arr (.st 5)),(.st 34),(.arr (.st 5))],[AxK]⟩
def Agu {R:Type}:Bo S R:=LE.ls X AgO (fun x k=>(cB x.1 x.AV x.A4 x.BA x.BM x.BT x.FI (x.2.1,x.Bg)).bind (aL x k)) AgM
theorem Agv {R:Type}:CB X (Agu (R:=R)):=DR OK (e:=AgO) Ik AgN (st:=fun(x:Pu)=>cH x.1 x.AV x.A4 x.BA x.BM x.BT x.FI) (prj:=fun(x:Pu)=>(x.2.1,x.Bg)) (emb:=AgL) aL (fun x _=>cP x.1 x.AV x.A4 x.BA x.BM x.BT x.FI x.2.1 x.Bg) (by intro;unfold cH cP Of;simp only[Cq,Cp,Cr,As,C8];rfl) AgN
def Axq:Key:=⟨[149],149,none,[0,0,1,0,1,1,1],4,15⟩
def Axr:Ay S:=⟨rN,(N (N L CQ L) CM (N L CQ L)),15⟩
def Axs:Way S:=⟨(.exit 4),⟨(N L none (N Pw none (N L (some (.ptr 2 0)) L))),(N (N L CQ L) CM (N L CQ L)),17⟩,[.int,(.arr (.st 5)),(.st 34),(.arr (.st 5))]⟩
def Agw:LE S:=⟨Axq,Axr,[.int,.int,(.AT (.st 35)),(.arr (.st 5)),(.st 34),(.arr (.st 5))],[Axs]⟩
def Agx {T:Type} (x:S9) (k:(Int×(Nat->AE)×AF×(Nat->AE))->T):(Nat->AE)->T:=fun d=>k (x.1,d,x.BA,x.v5)
def Axt (x:S9) (v:(Int×(Nat->AE))):S9:=(x.1,v.1,x.AV,v.2,x.BA,x.v5)
def Agy {R:Type}:Bo S R:=LE.ls X Agw (fun x k=>(W1 x.1 x.AV x.BA x.v5 (x.2.1,x.A4)).bind (Agx x k)) Agu
theorem Agz {R:Type}:CB X (Agy (R:=R)):=DR OK (e:=Agw) Ik Agv (st:=fun(x:S9)=>Qm x.1 x.AV x.BA x.v5) (prj:=fun(x:S9)=>(x.2.1,x.A4)) (emb:=Axt) Agx (fun x _=>Sh x.1 x.AV x.BA x.v5 x.2.1 x.A4) (by intro;unfold Qm Sh;simp only[Cq,Cp,Cr,As,C8];rfl) Agv
def Axu:Key:=⟨[220,2,1,198,3,25,149],220,none,[0,0,1,0,1],0,34⟩
def Axv:Ay S:=⟨(N (N (N (N L Be L) none L) (some (.fn (.func 199) [] [])) L) (some (.AR (.st 5) [])) Ip),L,34⟩
def Axw:Way S:=⟨.ret,⟨v28,L,45⟩,[.int]⟩
def Axx:Way S:=⟨(.exit 0),⟨L,L,35⟩,[]⟩
def AgA:LE S:=⟨Axu,Axv,[.int,(.AT (.st 5)),.int],[Axw,Axx]⟩
def AgB {T:Type} (x:Vy) (k:(Int⊕Unit)->T):(Int⊕Unit)->T:=Sum.elim (fun d=>k (.inl d)) (fun e=>k (.inr ()))
def Axy (x:Vy) (v:Int):Vy:=(x.1,x.2.1,v)
def Axz {R:Type}:Bo S R:=LE.ls X AgA (fun x k=>(cC x.1 x.2.1 x.v2).bind (AgB x k)) Agy
theorem AxA {R:Type}:CB X (Axz (R:=R)):=DR OK (e:=AgA) Ik Agz (st:=fun(x:Vy)=>Qo x.1 x.2.1) (prj:=fun(x:Vy)=>x.v2) (emb:=Axy) AgB (fun x _=>Si x.1 x.2.1 x.v2) (by intro;unfold Qo Si;simp only[Cq,Cp,Cr,As,C8];rfl) Agz
def AgC:Fx1 S:=⟨[(.st 34),(.arr 10 (.st 5)),(.AR (.st 35))],[(.arr 10 (.st 5)),.bool],fun xs=>QB xs.1 xs.2.1 xs.AV⟩
theorem AgD:B6 X 149 AgC:=Cw OK Ik AxA fun xs=>s4 xs.1 xs.2.1 xs.AV
def AxL:Ay S:=⟨(N Ai9 Be (N (N L (some (.ptr 4 0)) L) v12 L)),pA,6⟩
def AgP:Way S:=⟨.ret,⟨(N L Gb L),pA,6⟩,[.bool,(.st 34),.bool,(.st 34),(.st 34)]⟩
def AgQ:Way S:=⟨.ret,⟨(N L Gb L),AsI,6⟩,[.bool,(.st 34),.bool,(.st 34),(.st 34)]⟩
def LI:Dc S:=⟨148,6,AxL,[(.arr (.st 5)),.int,(.AT (.st 35)),(.st 34),.bool,(.st 34),(.st 34)],[AgP,AgQ]⟩
def aM:List (Nat×Fx1 S):=[(149,AgC)]
theorem SY:Cf X aM:=⟨AgD,trivial⟩
abbrev qO (ih:S6->Option S3) {R:Type}:Bo S R:=ZW
theorem AgR (ih:S6->Option S3) (d:Fe X LI ih) {R:Type}:CB X (qO ih (R:=R)):=oG X
def AgS:Key:=⟨[200,0,148],200,none,[0,0,1,1],0,69⟩
def AxM:Ay S:=⟨Aid,AdC,70⟩
def Ay4:Way S:=⟨.ret,⟨L,(N AdY Fz Ae2),166⟩,[(.arr (.st 5)),(.st 35),(.st 34),.bool,(.arr (.st 5)),(.arr (.st 5)),.bool,.int,(.st 34),(.AT (.st 19)),(.AT (.st 35)),(.st 35),(.AT (.st 19)),(.st 28),(.AT (.st 35)),(.st 34),(.st 34),(.st 19),.int,(.AT (.st 35)),.int,.bool,(.arr (.st 5)),.bool,.int,.bool,(.AT (.st 35))]⟩
def Ay5:Way S:=⟨.ret,⟨L,(N AdZ Fz Ae2),166⟩,[(.arr (.st 5)),(.st 35),(.st 34),.bool,(.arr (.st 5)),(.arr (.st 5)),.bool,.int,(.st 34),(.AT (.st 19)),(.AT (.st 35)),(.st 35),(.AT (.st 19)),(.st 28),(.AT (.st 35)),(.st 34),(.st 34),(.st 19),.int,(.AT (.st 35)),.int,.bool,(.arr (.st 5)),.bool,.int,.bool,(.AT (.st 35))]⟩
def Ay6:Way S:=⟨.ret,⟨L,Zn,159⟩,[(.arr (.st 5)),(.st 35),(.st 34),.bool,(.arr (.st 5)),(.arr (.st 5)),.bool,.int,(.st 34),(.AT (.st 19)),(.st 35),(.AT (.st 19)),(.st 28),(.AT (.st 35)),(.st 34),(.st 34),(.st 19),.int,.int,.bool,(.arr (.st 5)),.bool,.int,.bool,(.AT (.st 35))]⟩
def Ay7:Way S:=⟨.ret,⟨L,Zo,159⟩,[(.arr (.st 5)),(.st 35),(.st 34),.bool,(.arr (.st 5)),(.arr (.st 5)),.bool,.int,(.st 34),(.AT (.st 19)),(.st 35),(.AT (.st 19)),(.st 28),(.AT (.st 35)),(.st 34),(.st 34),(.st 19),.int,.int,.bool,(.arr (.st 5)),.bool,.int,.bool,(.AT (.st 35))]⟩
def Ay8:Way S:=⟨.ret,⟨L,(N AdS Fz Ae4),151⟩,[(.arr (.st 5)),(.st 35),(.st 34),(.AT (.st 35)),.bool,(.arr (.st 5)),(.arr (.st 5)),.bool,.int,(.st 34),(.AT (.st 19)),(.st 35),(.AT (.st 19)),(.st 28),(.AT (.st 35)),(.st 34),(.st 34),(.st 19),.int,.int,(.AT (.st 35)),.bool,(.arr (.st 5)),.bool,.int,.bool,(.AT (.st 35))]⟩
def Ay9:Way S:=⟨.ret,⟨L,(N AdT Fz Ae4),151⟩,[(.arr (.st 5)),(.st 35),(.st 34),(.AT (.st 35)),.bool,(.arr (.st 5)),(.arr (.st 5)),.bool,.int,(.st 34),(.AT (.st 19)),(.st 35),(.AT (.st 19)),(.st 28),(.AT (.st 35)),(.st 34),(.st 34),(.st 19),.int,.int,(.AT (.st 35)),.bool,(.arr (.st 5)),.bool,.int,.bool,(.AT (.st 35))]⟩
def Aya:Way S:=⟨.ret,⟨L,Zn,144⟩,[(.arr (.st 5)),(.st 35),(.st 34),.bool,(.arr (.st 5)),(.arr (.st 5)),.bool,.int,(.st 34),(.AT (.st 19)),(.st 35),(.AT (.st 19)),(.st 28),(.AT (.st 35)),(.st 34),(.st 34),(.st 19),.int,.int,.bool,(.arr (.st 5)),.bool,.int,.bool,(.AT (.st 35))]⟩
def Ayb:Way S:=⟨.ret,⟨L,Zo,144⟩,[(.arr (.st 5)),(.st 35),(.st 34),.bool,(.arr (.st 5)),(.arr (.st 5)),.bool,.int,(.st 34),(.AT (.st 19)),(.st 35),(.AT (.st 19)),(.st 28),(.AT (.st 35)),(.st 34),(.st 34),(.st 19),.int,.int,.bool,(.arr (.st 5)),.bool,.int,.bool,(.AT (.st 35))]⟩
def Ayc:Way S:=⟨.ret,⟨L,(N AdU Fz AdW),152⟩,[(.AT (.st 35)),(.arr (.st 5)),(.st 35),(.st 34),.bool,(.arr (.st 5)),(.arr (.st 5)),.bool,.int,(.st 34),(.AT (.st 19)),(.st 35),(.AT (.st 19)),(.st 28),(.AT (.st 35)),(.st 34),(.AT (.st 35)),(.st 34),(.st 19),.int,.int,.bool,(.arr (.st 5)),.bool,.int,.bool,(.AT (.st 35))]⟩
def Ayd:Way S:=⟨.ret,⟨L,(N AdV Fz AdW),152⟩,[(.AT (.st 35)),(.arr (.st 5)),(.st 35),(.st 34),.bool,(.arr (.st 5)),(.arr (.st 5)),.bool,.int,(.st 34),(.AT (.st 19)),(.st 35),(.AT (.st 19)),(.st 28),(.AT (.st 35)),(.st 34),(.AT (.st 35)),(.st 34),(.st 19),.int,.int,.bool,(.arr (.st 5)),.bool,.int,.bool,(.AT (.st 35))]⟩
def Aye:Way S:=⟨.ret,⟨L,Zn,145⟩,[(.arr (.st 5)),(.st 35),(.st 34),.bool,(.arr (.st 5)),(.arr (.st 5)),.bool,.int,(.st 34),(.AT (.st 19)),(.st 35),(.AT (.st 19)),(.st 28),(.AT (.st 35)),(.st 34),(.st 34),(.st 19),.int,.int,.bool,(.arr (.st 5)),.bool,.int,.bool,(.AT (.st 35))]⟩
def Ayf:Way S:=⟨.ret,⟨L,Zo,145⟩,[(.arr (.st 5)),(.st 35),(.st 34),.bool,(.arr (.st 5)),(.arr (.st 5)),.bool,.int,(.st 34),(.AT (.st 19)),(.st 35),(.AT (.st 19)),(.st 28),(.AT (.st 35)),(.st 34),(.st 34),(.st 19),.int,.int,.bool,(.arr (.st 5)),.bool,.int,.bool,(.AT (.st 35))]⟩
def Ayg:Way S:=⟨.ret,⟨L,(N Ae0 Fz Ae7),137⟩,[(.arr (.st 5)),(.st 35),(.st 34),.bool,(.arr (.st 5)),(.arr (.st 5)),.bool,.int,(.st 34),(.AT (.st 19)),(.st 35),(.AT (.st 35)),(.AT (.st 35)),(.AT (.st 19)),(.st 28),(.AT (.st 35)),(.st 34),(.st 34),(.st 19),.int,.int,.bool,(.arr (.st 5)),.bool,.int,.bool,(.AT (.st 35))]⟩
def Ayh:Way S:=⟨.ret,⟨L,(N Ae1 Fz Ae7),137⟩,[(.arr (.st 5)),(.st 35),(.st 34),.bool,(.arr (.st 5)),(.arr (.st 5)),.bool,.int,(.st 34),(.AT (.st 19)),(.st 35),(.AT (.st 35)),(.AT (.st 35)),(.AT (.st 19)),(.st 28),(.AT (.st 35)),(.st 34),(.st 34),(.st 19),.int,.int,.bool,(.arr (.st 5)),.bool,.int,.bool,(.AT (.st 35))]⟩
def Ayi:Way S:=⟨.ret,⟨L,Zn,130⟩,[(.arr (.st 5)),(.st 35),(.st 34),.bool,(.arr (.st 5)),(.arr (.st 5)),.bool,.int,(.st 34),(.AT (.st 19)),(.st 35),(.AT (.st 19)),(.st 28),(.AT (.st 35)),(.st 34),(.st 34),(.st 19),.int,.int,.bool,(.arr (.st 5)),.bool,.int,.bool,(.AT (.st 35))]⟩
def Ayj:Way S:=⟨.ret,⟨L,Zo,130⟩,[(.arr (.st 5)),(.st 35),(.st 34),.bool,(.arr (.st 5)),(.arr (.st 5)),.bool,.int,(.st 34),(.AT (.st 19)),(.st 35),(.AT (.st 19)),(.st 28),(.AT (.st 35)),(.st 34),(.st 34),(.st 19),.int,.int,.bool,(.arr (.st 5)),.bool,.int,.bool,(.AT (.st 35))]⟩
def Ayk:Way S:=⟨(.exit 0),⟨L,AdC,71⟩,[(.arr (.st 5)),(.st 35),(.st 34),.bool,(.arr (.st 5)),.bool,.int,(.st 34),(.AT (.st 19)),(.AT (.st 19)),(.st 28),(.AT (.st 35)),(.st 34),(.st 34),.int,.int,.bool,(.arr (.st 5)),.bool,.int,.bool,(.AT (.st 35))]⟩
def qR:LE S:=⟨AgS,AxM,[.int,.int,.int,(.arr (.st 5)),(.st 35),(.st 34),.bool,(.arr (.st 5)),.bool,.int,(.st 34),(.AT (.st 19)),(.AT (.st 19)),(.st 28),(.AT (.st 35)),(.st 34),(.st 34),.int,.int,.bool,(.arr (.st 5)),.bool,.int,.bool,(.AT (.st 35))],[Ay4,Ay5,Ay6,Ay7,Ay8,Ay9,Aya,Ayb,Ayc,Ayd,Aye,Ayf,Ayg,Ayh,Ayi,Ayj,Ayk]⟩
def qS {T:Type} (x:S2) (k:(((Nat->AE)×AG×AF×Bool×(Nat->AE)×(Nat->AE)×Bool×Int×AF×(List AN)×(List AG)×AG×(List AN)×Aa×(List AG)×AF×AF×AN×Int×(List AG)×Int×Bool×(Nat->AE)×Bool×Int×Bool×(List AG))⊕((Nat->AE)×AG×AF×Bool×(Nat->AE)×(Nat->AE)×Bool×Int×AF×(List AN)×(List AG)×AG×(List AN)×Aa×(List AG)×AF×AF×AN×Int×(List AG)×Int×Bool×(Nat->AE)×Bool×Int×Bool×(List AG))⊕OM⊕OM⊕((Nat->AE)×AG×AF×(List AG)×Bool×(Nat->AE)×(Nat->AE)×Bool×Int×AF×(List AN)×AG×(List AN)×Aa×(List AG)×AF×AF×AN×Int×Int×(List AG)×Bool×(Nat->AE)×Bool×Int×Bool×(List AG))⊕((Nat->AE)×AG×AF×(List AG)×Bool×(Nat->AE)×(Nat->AE)×Bool×Int×AF×(List AN)×AG×(List AN)×Aa×(List AG)×AF×AF×AN×Int×Int×(List AG)×Bool×(Nat->AE)×Bool×Int×Bool×(List AG))⊕OM⊕OM⊕((List AG)×(Nat->AE)×AG×AF×Bool×(Nat->AE)×(Nat->AE)×Bool×Int×AF×(List AN)×AG×(List AN)×Aa×(List AG)×AF×(List AG)×AF×AN×Int×Int×Bool×(Nat->AE)×Bool×Int×Bool×(List AG))⊕((List AG)×(Nat->AE)×AG×AF×Bool×(Nat->AE)×(Nat->AE)×Bool×Int×AF×(List AN)×AG×(List AN)×Aa×(List AG)×AF×(List AG)×AF×AN×Int×Int×Bool×(Nat->AE)×Bool×Int×Bool×(List AG))⊕OM⊕OM⊕((Nat->AE)×AG×AF×Bool×(Nat->AE)×(Nat->AE)×Bool×Int×AF×(List AN)×AG×(List AG)×(List AG)×(List AN)×Aa×(List AG)×AF×AF×AN×Int×Int×Bool×(Nat->AE)×Bool×Int×Bool×(List AG))⊕((Nat->AE)×AG×AF×Bool×(Nat->AE)×(Nat->AE)×Bool×Int×AF×(List AN)×AG×(List AG)×(List AG)×(List AN)×Aa×(List AG)×AF×AF×AN×Int×Int×Bool×(Nat->AE)×Bool×Int×Bool×(List AG))⊕OM⊕OM⊕((Nat->AE)×AG×AF×Bool×(Nat->AE)×Bool×Int×AF×(List AN)×(List AN)×Aa×(List AG)×AF×AF×Int×Int×Bool×(Nat->AE)×Bool×Int×Bool×(List AG)))->T):(aT⊕aT⊕KX⊕KX⊕aU⊕aU⊕KX⊕KX⊕aV⊕aV⊕KX⊕KX⊕aW⊕aW⊕aX⊕aX⊕(AG×AF×Bool×AF×AF))->T:=Sum.elim (fun C=>k (.inl (x.A4,C.1,C.2.1,C.AV,C.A4,x.BT,C.BA,x.CJ,C.BM,x.Dv,C.Bg,C.BT,x.Dw,x.Dx,x.Dy,x.Dz,C.u8,C.CJ,x.EA,C.v10,x.EB,x.EC,x.ED,x.EE,x.Dp,x.HB,x.v24))) (Sum.elim (fun I=>k (.inr (.inl (x.A4,I.1,I.2.1,I.AV,I.A4,x.BT,I.BA,x.CJ,I.BM,x.Dv,I.Bg,I.BT,x.Dw,x.Dx,x.Dy,x.Dz,I.u8,I.CJ,x.EA,I.v10,x.EB,x.EC,x.ED,x.EE,x.Dp,x.HB,x.v24)))) (Sum.elim (fun Q=>k (.inr (.inr (.inl (x.A4,Q.1,Q.2.1,Q.AV,Q.A4,x.BT,Q.BA,x.CJ,Q.BM,x.Dv,Q.Bg,x.Dw,x.Dx,x.Dy,x.Dz,Q.BT,Q.FI,x.EA,x.EB,x.EC,x.ED,x.EE,x.Dp,x.HB,x.v24))))) (Sum.elim (fun W=>k (.inr (.inr (.inr (.inl (x.A4,W.1,W.2.1,W.AV,W.A4,x.BT,W.BA,x.CJ,W.BM,x.Dv,W.Bg,x.Dw,x.Dx,x.Dy,x.Dz,W.BT,W.FI,x.EA,x.EB,x.EC,x.ED,x.EE,x.Dp,x.HB,x.v24)))))) (Sum.elim (fun J=>k (.inr (.inr (.inr (.inr (.inl (x.A4,J.1,J.2.1,J.AV,J.A4,J.BA,x.BT,J.BM,x.CJ,J.Bg,x.Dv,J.BT,x.Dw,x.Dx,x.Dy,x.Dz,J.u8,J.CJ,x.EA,x.EB,J.v10,x.EC,x.ED,x.EE,x.Dp,x.HB,x.v24))))))) (Sum.elim (fun M=>k (.inr (.inr (.inr (.inr (.inr (.inl (x.A4,M.1,M.2.1,M.AV,M.A4,M.BA,x.BT,M.BM,x.CJ,M.Bg,x.Dv,M.BT,x.Dw,x.Dx,x.Dy,x.Dz,M.u8,M.CJ,x.EA,x.EB,M.v10,x.EC,x.ED,x.EE,x.Dp,x.HB,x.v24)))))))) (Sum.elim (fun O=>k (.inr (.inr (.inr (.inr (.inr (.inr (.inl (x.A4,O.1,O.2.1,O.AV,O.A4,x.BT,O.BA,x.CJ,O.BM,x.Dv,O.Bg,x.Dw,x.Dx,x.Dy,x.Dz,O.BT,O.FI,x.EA,x.EB,x.EC,x.ED,x.EE,x.Dp,x.HB,x.v24))))))))) (Sum.elim (fun U=>k (.inr (.inr (.inr (.inr (.inr (.inr (.inr (.inl (x.A4,U.1,U.2.1,U.AV,U.A4,x.BT,U.BA,x.CJ,U.BM,x.Dv,U.Bg,x.Dw,x.Dx,x.Dy,x.Dz,U.BT,U.FI,x.EA,x.EB,x.EC,x.ED,x.EE,x.Dp,x.HB,x.v24)))))))))) (Sum.elim (fun u=>k (.inr (.inr (.inr (.inr (.inr (.inr (.inr (.inr (.inl (u.1,x.A4,u.2.1,u.AV,u.A4,u.BA,x.BT,u.BM,x.CJ,u.Bg,x.Dv,u.BT,x.Dw,x.Dx,x.Dy,x.Dz,u.u8,u.CJ,u.v10,x.EA,x.EB,x.EC,x.ED,x.EE,x.Dp,x.HB,x.v24))))))))))) (Sum.elim (fun K=>k (.inr (.inr (.inr (.inr (.inr (.inr (.inr (.inr (.inr (.inl (K.1,x.A4,K.2.1,K.AV,K.A4,K.BA,x.BT,K.BM,x.CJ,K.Bg,x.Dv,K.BT,x.Dw,x.Dx,x.Dy,x.Dz,K.u8,K.CJ,K.v10,x.EA,x.EB,x.EC,x.ED,x.EE,x.Dp,x.HB,x.v24)))))))))))) (Sum.elim (fun j=>k (.inr (.inr (.inr (.inr (.inr (.inr (.inr (.inr (.inr (.inr (.inl (x.A4,j.1,j.2.1,j.AV,j.A4,x.BT,j.BA,x.CJ,j.BM,x.Dv,j.Bg,x.Dw,x.Dx,x.Dy,x.Dz,j.BT,j.FI,x.EA,x.EB,x.EC,x.ED,x.EE,x.Dp,x.HB,x.v24))))))))))))) (Sum.elim (fun i=>k (.inr (.inr (.inr (.inr (.inr (.inr (.inr (.inr (.inr (.inr (.inr (.inl (x.A4,i.1,i.2.1,i.AV,i.A4,x.BT,i.BA,x.CJ,i.BM,x.Dv,i.Bg,x.Dw,x.Dx,x.Dy,x.Dz,i.BT,i.FI,x.EA,x.EB,x.EC,x.ED,x.EE,x.Dp,x.HB,x.v24)))))))))))))) (Sum.elim (fun d=>k (.inr (.inr (.inr (.inr (.inr (.inr (.inr (.inr (.inr (.inr (.inr (.inr (.inl (x.A4,d.1,d.2.1,d.AV,x.A4,x.BT,d.A4,x.CJ,d.BA,x.Dv,d.BM,d.Bg,d.BT,x.Dw,x.Dx,x.Dy,x.Dz,d.u8,d.v9,x.EA,x.EB,x.EC,x.ED,x.EE,x.Dp,x.HB,x.v24))))))))))))))) (Sum.elim (fun e=>k (.inr (.inr (.inr (.inr (.inr (.inr (.inr (.inr (.inr (.inr (.inr (.inr (.inr (.inl (x.A4,e.1,e.2.1,e.AV,x.A4,x.BT,e.A4,x.CJ,e.BA,x.Dv,e.BM,e.Bg,e.BT,x.Dw,x.Dx,x.Dy,x.Dz,e.u8,e.v9,x.EA,x.EB,x.EC,x.ED,x.EE,x.Dp,x.HB,x.v24)))))))))))))))) (Sum.elim (fun q=>k (.inr (.inr (.inr (.inr (.inr (.inr (.inr (.inr (.inr (.inr (.inr (.inr (.inr (.inr (.inl (x.A4,q.1,q.2.1,q.AV,x.A4,x.BT,q.A4,x.CJ,q.BA,x.Dv,q.BM,x.Dw,x.Dx,x.Dy,x.Dz,q.Bg,q.Jt,x.EA,x.EB,x.EC,x.ED,x.EE,x.Dp,x.HB,x.v24))))))))))))))))) (Sum.elim (fun l=>k (.inr (.inr (.inr (.inr (.inr (.inr (.inr (.inr (.inr (.inr (.inr (.inr (.inr (.inr (.inr (.inl (x.A4,l.1,l.2.1,l.AV,x.A4,x.BT,l.A4,x.CJ,l.BA,x.Dv,l.BM,x.Dw,x.Dx,x.Dy,x.Dz,l.Bg,l.Jt,x.EA,x.EB,x.EC,x.ED,x.EE,x.Dp,x.HB,x.v24)))))))))))))))))) (fun z=>k (.inr (.inr (.inr (.inr (.inr (.inr (.inr (.inr (.inr (.inr (.inr (.inr (.inr (.inr (.inr (.inr (x.A4,z.1,z.2.1,z.AV,x.BT,x.u8,x.CJ,z.A4,x.Dv,x.Dw,x.Dx,x.Dy,x.Dz,z.v4,x.EA,x.EB,x.EC,x.ED,x.EE,x.Dp,x.HB,x.v24)))))))))))))))))))))))))))))))))
def AgT (x:S2) (v:(Int×Int×AG×AF×Bool×AF×AF)):S2:=(x.1,v.1,v.2.1,x.A4,v.AV,v.A4,v.BA,x.BT,x.u8,x.CJ,v.BM,x.Dv,x.Dw,x.Dx,x.Dy,x.Dz,v.v6,x.EA,x.EB,x.EC,x.ED,x.EE,x.Dp,x.HB,x.v24)
theorem Ayl (ih:S6->Option S3) (x:S2):LE.step X qR aM (Dc.AP X LI (fun x q=>(ih x).bind q) aK) (qO ih) 12 x=NH ih x.1 x.A4 x.BT x.u8 x.CJ x.Dv x.Dw x.Dx x.Dy x.Dz x.EA x.EB x.EC x.ED x.EE x.Dp x.HB x.v24 x.2.1 x.AV x.BA x.BM x.Bg x.LK x.u16 (fun w=>Sum.inl (AgT x w)) (fun o=>Sum.inr (qS x id o)):=by kernel_rfl
def AgU (ih:S6->Option S3) {R:Type}:Bo S R:=LE.ls X qR (fun x k=>(XV ih x.1 x.A4 x.BT x.u8 x.CJ x.Dv x.Dw x.Dx x.Dy x.Dz x.EA x.EB x.EC x.ED x.EE x.Dp x.HB x.v24 (x.2.1,x.AV,x.BA,x.BM,x.Bg,x.LK,x.u16)).bind (qS x k)) (qO ih)
theorem Aym (ih:S6->Option S3) (d:Fe X LI ih) {R:Type}:CB X (AgU ih (R:=R)):=Mq Gc SY (e:=qR) (JM (e:=LI) d Ik) (AgR ih d) (st:=fun(x:S2)=>Qr ih x.1 x.A4 x.BT x.u8 x.CJ x.Dv x.Dw x.Dx x.Dy x.Dz x.EA x.EB x.EC x.ED x.EE x.Dp x.HB x.v24) (prj:=fun(x:S2)=>(x.2.1,x.AV,x.BA,x.BM,x.Bg,x.LK,x.u16)) (emb:=AgT) qS (fun x=>(Ayl ih x).trans (by unfold Qr NH;simp only[Cq,Cp,Cr,As,C8];rfl)) (AgR ih d)
theorem Ayn (ih:S6->Option S3) (x:((Nat->AE)×Int×(List AG)×AF×Bool×AF×AF)):Dc.step X LI aM (Dc.AP X LI (fun x q=>(ih x).bind q) aK) (AgU ih) 12 x=Qw ih x.1 x.2.1 x.AV x.A4 x.BA x.BM x.v6:=by kernel_rfl
theorem Ayo:Fe X LI Sn:=Aon (X:=X) (e:=LI) (t:=NL) fun ih d=>oB (oI Gc SY (JM (e:=LI) d Ik) (Aym ih d) 12) fun x _ h=>(Ayn ih x).trans h
def AgV {R:Type}:Ed S R:=Dc.AP X LI (fun x q=>(Sn x).bind q) aK
theorem qP {R:Type}:GC X (AgV (R:=R)):=JM (e:=LI) Ayo Ik
def AxN:Ay S:=⟨(N Ai9 Be (N (N L (some (.ptr 4 0)) L) (some .FX) L)),pA,6⟩
def qQ:Dc S:=⟨148,6,AxN,[(.arr (.st 5)),.int,(.st 34),.bool,(.st 34),(.st 34)],[AgP,AgQ]⟩
def AxO:Ay S:=⟨Aid,AdB,70⟩
def AxP:Way S:=⟨.ret,⟨L,(N AdY Fz Ae3),166⟩,[(.arr (.st 5)),(.st 35),(.st 34),.bool,(.arr (.st 5)),(.arr (.st 5)),.bool,.int,(.st 34),(.AT (.st 19)),(.AT (.st 35)),(.st 35),(.AT (.st 19)),(.st 28),(.AT (.st 35)),(.st 34),(.st 34),(.st 19),.int,(.AT (.st 35)),.int,.bool,(.arr (.st 5)),.bool,.int,.bool]⟩
def AxQ:Way S:=⟨.ret,⟨L,(N AdZ Fz Ae3),166⟩,[(.arr (.st 5)),(.st 35),(.st 34),.bool,(.arr (.st 5)),(.arr (.st 5)),.bool,.int,(.st 34),(.AT (.st 19)),(.AT (.st 35)),(.st 35),(.AT (.st 19)),(.st 28),(.AT (.st 35)),(.st 34),(.st 34),(.st 19),.int,(.AT (.st 35)),.int,.bool,(.arr (.st 5)),.bool,.int,.bool]⟩
def AxR:Way S:=⟨.ret,⟨L,Zp,159⟩,[(.arr (.st 5)),(.st 35),(.st 34),.bool,(.arr (.st 5)),(.arr (.st 5)),.bool,.int,(.st 34),(.AT (.st 19)),(.st 35),(.AT (.st 19)),(.st 28),(.AT (.st 35)),(.st 34),(.st 34),(.st 19),.int,.int,.bool,(.arr (.st 5)),.bool,.int,.bool]⟩
def AxS:Way S:=⟨.ret,⟨L,Zq,159⟩,[(.arr (.st 5)),(.st 35),(.st 34),.bool,(.arr (.st 5)),(.arr (.st 5)),.bool,.int,(.st 34),(.AT (.st 19)),(.st 35),(.AT (.st 19)),(.st 28),(.AT (.st 35)),(.st 34),(.st 34),(.st 19),.int,.int,.bool,(.arr (.st 5)),.bool,.int,.bool]⟩
def AxT:Way S:=⟨.ret,⟨L,(N AdS Fz Ae5),151⟩,[(.arr (.st 5)),(.st 35),(.st 34),(.AT (.st 35)),.bool,(.arr (.st 5)),(.arr (.st 5)),.bool,.int,(.st 34),(.AT (.st 19)),(.st 35),(.AT (.st 19)),(.st 28),(.AT (.st 35)),(.st 34),(.st 34),(.st 19),.int,.int,(.AT (.st 35)),.bool,(.arr (.st 5)),.bool,.int,.bool]⟩
def AxU:Way S:=⟨.ret,⟨L,(N AdT Fz Ae5),151⟩,[(.arr (.st 5)),(.st 35),(.st 34),(.AT (.st 35)),.bool,(.arr (.st 5)),(.arr (.st 5)),.bool,.int,(.st 34),(.AT (.st 19)),(.st 35),(.AT (.st 19)),(.st 28),(.AT (.st 35)),(.st 34),(.st 34),(.st 19),.int,.int,(.AT (.st 35)),.bool,(.arr (.st 5)),.bool,.int,.bool]⟩
def AxV:Way S:=⟨.ret,⟨L,Zp,144⟩,[(.arr (.st 5)),(.st 35),(.st 34),.bool,(.arr (.st 5)),(.arr (.st 5)),.bool,.int,(.st 34),(.AT (.st 19)),(.st 35),(.AT (.st 19)),(.st 28),(.AT (.st 35)),(.st 34),(.st 34),(.st 19),.int,.int,.bool,(.arr (.st 5)),.bool,.int,.bool]⟩
def AxW:Way S:=⟨.ret,⟨L,Zq,144⟩,[(.arr (.st 5)),(.st 35),(.st 34),.bool,(.arr (.st 5)),(.arr (.st 5)),.bool,.int,(.st 34),(.AT (.st 19)),(.st 35),(.AT (.st 19)),(.st 28),(.AT (.st 35)),(.st 34),(.st 34),(.st 19),.int,.int,.bool,(.arr (.st 5)),.bool,.int,.bool]⟩
def AxX:Way S:=⟨.ret,⟨L,(N AdU Fz AdX),152⟩,[(.AT (.st 35)),(.arr (.st 5)),(.st 35),(.st 34),.bool,(.arr (.st 5)),(.arr (.st 5)),.bool,.int,(.st 34),(.AT (.st 19)),(.st 35),(.AT (.st 19)),(.st 28),(.AT (.st 35)),(.st 34),(.AT (.st 35)),(.st 34),(.st 19),.int,.int,.bool,(.arr (.st 5)),.bool,.int,.bool]⟩
def AxY:Way S:=⟨.ret,⟨L,(N AdV Fz AdX),152⟩,[(.AT (.st 35)),(.arr (.st 5)),(.st 35),(.st 34),.bool,(.arr (.st 5)),(.arr (.st 5)),.bool,.int,(.st 34),(.AT (.st 19)),(.st 35),(.AT (.st 19)),(.st 28),(.AT (.st 35)),(.st 34),(.AT (.st 35)),(.st 34),(.st 19),.int,.int,.bool,(.arr (.st 5)),.bool,.int,.bool]⟩
def AxZ:Way S:=⟨.ret,⟨L,Zp,145⟩,[(.arr (.st 5)),(.st 35),(.st 34),.bool,(.arr (.st 5)),(.arr (.st 5)),.bool,.int,(.st 34),(.AT (.st 19)),(.st 35),(.AT (.st 19)),(.st 28),(.AT (.st 35)),(.st 34),(.st 34),(.st 19),.int,.int,.bool,(.arr (.st 5)),.bool,.int,.bool]⟩
def Ay0:Way S:=⟨.ret,⟨L,Zq,145⟩,[(.arr (.st 5)),(.st 35),(.st 34),.bool,(.arr (.st 5)),(.arr (.st 5)),.bool,.int,(.st 34),(.AT (.st 19)),(.st 35),(.AT (.st 19)),(.st 28),(.AT (.st 35)),(.st 34),(.st 34),(.st 19),.int,.int,.bool,(.arr (.st 5)),.bool,.int,.bool]⟩
def Ay1:Way S:=⟨.ret,⟨L,(N Ae0 Fz Ae8),137⟩,[(.arr (.st 5)),(.st 35),(.st 34),.bool,(.arr (.st 5)),(.arr (.st 5)),.bool,.int,(.st 34),(.AT (.st 19)),(.st 35),(.AT (.st 35)),(.AT (.st 35)),(.AT (.st 19)),(.st 28),(.AT (.st 35)),(.st 34),(.st 34),(.st 19),.int,.int,.bool,(.arr (.st 5)),.bool,.int,.bool]⟩
def Ay2:Way S:=⟨.ret,⟨L,(N Ae1 Fz Ae8),137⟩,[(.arr (.st 5)),(.st 35),(.st 34),.bool,(.arr (.st 5)),(.arr (.st 5)),.bool,.int,(.st 34),(.AT (.st 19)),(.st 35),(.AT (.st 35)),(.AT (.st 35)),(.AT (.st 19)),(.st 28),(.AT (.st 35)),(.st 34),(.st 34),(.st 19),.int,.int,.bool,(.arr (.st 5)),.bool,.int,.bool]⟩
def Ay3:Way S:=⟨.ret,⟨L,Zp,130⟩,[(.arr (.st 5)),(.st 35),(.st 34),.bool,(.arr (.st 5)),(.arr (.st 5)),.bool,.int,(.st 34),(.AT (.st 19)),(.st 35),(.AT (.st 19)),(.st 28),(.AT (.st 35)),(.st 34),(.st 34),(.st 19),.int,.int,.bool,(.arr (.st 5)),.bool,.int,.bool]⟩
def Ayp:Way S:=⟨.ret,⟨L,Zq,130⟩,[(.arr (.st 5)),(.st 35),(.st 34),.bool,(.arr (.st 5)),(.arr (.st 5)),.bool,.int,(.st 34),(.AT (.st 19)),(.st 35),(.AT (.st 19)),(.st 28),(.AT (.st 35)),(.st 34),(.st 34),(.st 19),.int,.int,.bool,(.arr (.st 5)),.bool,.int,.bool]⟩
def Ayq:Way S:=⟨(.exit 0),⟨L,AdB,71⟩,[(.arr (.st 5)),(.st 35),(.st 34),.bool,(.arr (.st 5)),.bool,.int,(.st 34),(.AT (.st 19)),(.AT (.st 19)),(.st 28),(.AT (.st 35)),(.st 34),(.st 34),.int,.int,.bool,(.arr (.st 5)),.bool,.int,.bool]⟩
def AgX:LE S:=⟨AgS,AxO,[.int,.int,.int,(.arr (.st 5)),(.st 35),(.st 34),.bool,(.arr (.st 5)),.bool,.int,(.st 34),(.AT (.st 19)),(.AT (.st 19)),(.st 28),(.AT (.st 35)),(.st 34),(.st 34),.int,.int,.bool,(.arr (.st 5)),.bool,.int,.bool],[AxP,AxQ,AxR,AxS,AxT,AxU,AxV,AxW,AxX,AxY,AxZ,Ay0,Ay1,Ay2,Ay3,Ayp,Ayq]⟩
def AgY {T:Type} (x:Ve) (k:(((Nat->AE)×AG×AF×Bool×(Nat->AE)×(Nat->AE)×Bool×Int×AF×(List AN)×(List AG)×AG×(List AN)×Aa×(List AG)×AF×AF×AN×Int×(List AG)×Int×Bool×(Nat->AE)×Bool×Int×Bool)⊕((Nat->AE)×AG×AF×Bool×(Nat->AE)×(Nat->AE)×Bool×Int×AF×(List AN)×(List AG)×AG×(List AN)×Aa×(List AG)×AF×AF×AN×Int×(List AG)×Int×Bool×(Nat->AE)×Bool×Int×Bool)⊕ON⊕ON⊕((Nat->AE)×AG×AF×(List AG)×Bool×(Nat->AE)×(Nat->AE)×Bool×Int×AF×(List AN)×AG×(List AN)×Aa×(List AG)×AF×AF×AN×Int×Int×(List AG)×Bool×(Nat->AE)×Bool×Int×Bool)⊕((Nat->AE)×AG×AF×(List AG)×Bool×(Nat->AE)×(Nat->AE)×Bool×Int×AF×(List AN)×AG×(List AN)×Aa×(List AG)×AF×AF×AN×Int×Int×(List AG)×Bool×(Nat->AE)×Bool×Int×Bool)⊕ON⊕ON⊕((List AG)×(Nat->AE)×AG×AF×Bool×(Nat->AE)×(Nat->AE)×Bool×Int×AF×(List AN)×AG×(List AN)×Aa×(List AG)×AF×(List AG)×AF×AN×Int×Int×Bool×(Nat->AE)×Bool×Int×Bool)⊕((List AG)×(Nat->AE)×AG×AF×Bool×(Nat->AE)×(Nat->AE)×Bool×Int×AF×(List AN)×AG×(List AN)×Aa×(List AG)×AF×(List AG)×AF×AN×Int×Int×Bool×(Nat->AE)×Bool×Int×Bool)⊕ON⊕ON⊕((Nat->AE)×AG×AF×Bool×(Nat->AE)×(Nat->AE)×Bool×Int×AF×(List AN)×AG×(List AG)×(List AG)×(List AN)×Aa×(List AG)×AF×AF×AN×Int×Int×Bool×(Nat->AE)×Bool×Int×Bool)⊕((Nat->AE)×AG×AF×Bool×(Nat->AE)×(Nat->AE)×Bool×Int×AF×(List AN)×AG×(List AG)×(List AG)×(List AN)×Aa×(List AG)×AF×AF×AN×Int×Int×Bool×(Nat->AE)×Bool×Int×Bool)⊕ON⊕ON⊕((Nat->AE)×AG×AF×Bool×(Nat->AE)×Bool×Int×AF×(List AN)×(List AN)×Aa×(List AG)×AF×AF×Int×Int×Bool×(Nat->AE)×Bool×Int×Bool))->T):(aT⊕aT⊕KX⊕KX⊕aU⊕aU⊕KX⊕KX⊕aV⊕aV⊕KX⊕KX⊕aW⊕aW⊕aX⊕aX⊕(AG×AF×Bool×AF×AF))->T:=Sum.elim (fun C=>k (.inl (x.A4,C.1,C.2.1,C.AV,C.A4,x.BT,C.BA,x.CJ,C.BM,x.Dv,C.Bg,C.BT,x.Dw,x.Dx,x.Dy,x.Dz,C.u8,C.CJ,x.EA,C.v10,x.EB,x.EC,x.ED,x.EE,x.Dp,x.v23))) (Sum.elim (fun I=>k (.inr (.inl (x.A4,I.1,I.2.1,I.AV,I.A4,x.BT,I.BA,x.CJ,I.BM,x.Dv,I.Bg,I.BT,x.Dw,x.Dx,x.Dy,x.Dz,I.u8,I.CJ,x.EA,I.v10,x.EB,x.EC,x.ED,x.EE,x.Dp,x.v23)))) (Sum.elim (fun Q=>k (.inr (.inr (.inl (x.A4,Q.1,Q.2.1,Q.AV,Q.A4,x.BT,Q.BA,x.CJ,Q.BM,x.Dv,Q.Bg,x.Dw,x.Dx,x.Dy,x.Dz,Q.BT,Q.FI,x.EA,x.EB,x.EC,x.ED,x.EE,x.Dp,x.v23))))) (Sum.elim (fun W=>k (.inr (.inr (.inr (.inl (x.A4,W.1,W.2.1,W.AV,W.A4,x.BT,W.BA,x.CJ,W.BM,x.Dv,W.Bg,x.Dw,x.Dx,x.Dy,x.Dz,W.BT,W.FI,x.EA,x.EB,x.EC,x.ED,x.EE,x.Dp,x.v23)))))) (Sum.elim (fun J=>k (.inr (.inr (.inr (.inr (.inl (x.A4,J.1,J.2.1,J.AV,J.A4,J.BA,x.BT,J.BM,x.CJ,J.Bg,x.Dv,J.BT,x.Dw,x.Dx,x.Dy,x.Dz,J.u8,J.CJ,x.EA,x.EB,J.v10,x.EC,x.ED,x.EE,x.Dp,x.v23))))))) (Sum.elim (fun M=>k (.inr (.inr (.inr (.inr (.inr (.inl (x.A4,M.1,M.2.1,M.AV,M.A4,M.BA,x.BT,M.BM,x.CJ,M.Bg,x.Dv,M.BT,x.Dw,x.Dx,x.Dy,x.Dz,M.u8,M.CJ,x.EA,x.EB,M.v10,x.EC,x.ED,x.EE,x.Dp,x.v23)))))))) (Sum.elim (fun O=>k (.inr (.inr (.inr (.inr (.inr (.inr (.inl (x.A4,O.1,O.2.1,O.AV,O.A4,x.BT,O.BA,x.CJ,O.BM,x.Dv,O.Bg,x.Dw,x.Dx,x.Dy,x.Dz,O.BT,O.FI,x.EA,x.EB,x.EC,x.ED,x.EE,x.Dp,x.v23))))))))) (Sum.elim (fun U=>k (.inr (.inr (.inr (.inr (.inr (.inr (.inr (.inl (x.A4,U.1,U.2.1,U.AV,U.A4,x.BT,U.BA,x.CJ,U.BM,x.Dv,U.Bg,x.Dw,x.Dx,x.Dy,x.Dz,U.BT,U.FI,x.EA,x.EB,x.EC,x.ED,x.EE,x.Dp,x.v23)))))))))) (Sum.elim (fun u=>k (.inr (.inr (.inr (.inr (.inr (.inr (.inr (.inr (.inl (u.1,x.A4,u.2.1,u.AV,u.A4,u.BA,x.BT,u.BM,x.CJ,u.Bg,x.Dv,u.BT,x.Dw,x.Dx,x.Dy,x.Dz,u.u8,u.CJ,u.v10,x.EA,x.EB,x.EC,x.ED,x.EE,x.Dp,x.v23))))))))))) (Sum.elim (fun K=>k (.inr (.inr (.inr (.inr (.inr (.inr (.inr (.inr (.inr (.inl (K.1,x.A4,K.2.1,K.AV,K.A4,K.BA,x.BT,K.BM,x.CJ,K.Bg,x.Dv,K.BT,x.Dw,x.Dx,x.Dy,x.Dz,K.u8,K.CJ,K.v10,x.EA,x.EB,x.EC,x.ED,x.EE,x.Dp,x.v23)))))))))))) (Sum.elim (fun j=>k (.inr (.inr (.inr (.inr (.inr (.inr (.inr (.inr (.inr (.inr (.inl (x.A4,j.1,j.2.1,j.AV,j.A4,x.BT,j.BA,x.CJ,j.BM,x.Dv,j.Bg,x.Dw,x.Dx,x.Dy,x.Dz,j.BT,j.FI,x.EA,x.EB,x.EC,x.ED,x.EE,x.Dp,x.v23))))))))))))) (Sum.elim (fun i=>k (.inr (.inr (.inr (.inr (.inr (.inr (.inr (.inr (.inr (.inr (.inr (.inl (x.A4,i.1,i.2.1,i.AV,i.A4,x.BT,i.BA,x.CJ,i.BM,x.Dv,i.Bg,x.Dw,x.Dx,x.Dy,x.Dz,i.BT,i.FI,x.EA,x.EB,x.EC,x.ED,x.EE,x.Dp,x.v23)))))))))))))) (Sum.elim (fun d=>k (.inr (.inr (.inr (.inr (.inr (.inr (.inr (.inr (.inr (.inr (.inr (.inr (.inl (x.A4,d.1,d.2.1,d.AV,x.A4,x.BT,d.A4,x.CJ,d.BA,x.Dv,d.BM,d.Bg,d.BT,x.Dw,x.Dx,x.Dy,x.Dz,d.u8,d.v9,x.EA,x.EB,x.EC,x.ED,x.EE,x.Dp,x.v23))))))))))))))) (Sum.elim (fun e=>k (.inr (.inr (.inr (.inr (.inr (.inr (.inr (.inr (.inr (.inr (.inr (.inr (.inr (.inl (x.A4,e.1,e.2.1,e.AV,x.A4,x.BT,e.A4,x.CJ,e.BA,x.Dv,e.BM,e.Bg,e.BT,x.Dw,x.Dx,x.Dy,x.Dz,e.u8,e.v9,x.EA,x.EB,x.EC,x.ED,x.EE,x.Dp,x.v23)))))))))))))))) (Sum.elim (fun q=>k (.inr (.inr (.inr (.inr (.inr (.inr (.inr (.inr (.inr (.inr (.inr (.inr (.inr (.inr (.inl (x.A4,q.1,q.2.1,q.AV,x.A4,x.BT,q.A4,x.CJ,q.BA,x.Dv,q.BM,x.Dw,x.Dx,x.Dy,x.Dz,q.Bg,q.Jt,x.EA,x.EB,x.EC,x.ED,x.EE,x.Dp,x.v23))))))))))))))))) (Sum.elim (fun l=>k (.inr (.inr (.inr (.inr (.inr (.inr (.inr (.inr (.inr (.inr (.inr (.inr (.inr (.inr (.inr (.inl (x.A4,l.1,l.2.1,l.AV,x.A4,x.BT,l.A4,x.CJ,l.BA,x.Dv,l.BM,x.Dw,x.Dx,x.Dy,x.Dz,l.Bg,l.Jt,x.EA,x.EB,x.EC,x.ED,x.EE,x.Dp,x.v23)))))))))))))))))) (fun z=>k (.inr (.inr (.inr (.inr (.inr (.inr (.inr (.inr (.inr (.inr (.inr (.inr (.inr (.inr (.inr (.inr (x.A4,z.1,z.2.1,z.AV,x.BT,x.u8,x.CJ,z.A4,x.Dv,x.Dw,x.Dx,x.Dy,x.Dz,z.v4,x.EA,x.EB,x.EC,x.ED,x.EE,x.Dp,x.v23)))))))))))))))))))))))))))))))))
def Ayr (x:Ve) (v:(Int×Int×AG×AF×Bool×AF×AF)):Ve:=(x.1,v.1,v.2.1,x.A4,v.AV,v.A4,v.BA,x.BT,x.u8,x.CJ,v.BM,x.Dv,x.Dw,x.Dx,x.Dy,x.Dz,v.v6,x.EA,x.EB,x.EC,x.ED,x.EE,x.Dp,x.v23)
def Ays {R:Type}:Bo S R:=LE.ls X AgX (fun x k=>(sF x.1 x.A4 x.BT x.u8 x.CJ x.Dv x.Dw x.Dx x.Dy x.Dz x.EA x.EB x.EC x.ED x.EE x.Dp x.v23 (x.2.1,x.AV,x.BA,x.BM,x.Bg,x.LK,x.u16)).bind (AgY x k)) Dh
theorem Ayt {R:Type}:CB X (Ays (R:=R)):=DR SY (e:=AgX) qP BO (st:=fun(x:Ve)=>bN x.1 x.A4 x.BT x.u8 x.CJ x.Dv x.Dw x.Dx x.Dy x.Dz x.EA x.EB x.EC x.ED x.EE x.Dp x.v23) (prj:=fun(x:Ve)=>(x.2.1,x.AV,x.BA,x.BM,x.Bg,x.LK,x.u16)) (emb:=Ayr) AgY (fun x _=>bY x.1 x.A4 x.BT x.u8 x.CJ x.Dv x.Dw x.Dx x.Dy x.Dz x.EA x.EB x.EC x.ED x.EE x.Dp x.v23 x.2.1 x.AV x.BA x.BM x.Bg x.LK x.u16) (by intro;unfold bN bY NH;simp only[Cq,Cp,Cr,As,C8];rfl) BO
theorem Ayu:Fe X qQ Sm:=z9 SY qP Ayt sM
def Ah3 {R:Type}:Ed S R:=Dc.AP X qQ (fun x q=>(Sm x).bind q) AgV
theorem Ah4 {R:Type}:GC X (Ah3 (R:=R)):=JM (e:=qQ) Ayu qP
def AyD:Ay S:=⟨(N (N L (some (.ptr 1 0)) L) (some (.B2 3)) L),(N (N (N L JR L) CM L) DZ (N L CM L)),4⟩
def AyE:Way S:=⟨.ret,⟨(N L (some (.Ap [])) L),(N (N (N L JR L) CM L) DZ (N L CM L)),4⟩,[(.st 34),(.st 34),.bool,(.st 34)]⟩
def AyF:Way S:=⟨.ret,⟨(N L (some (.Ap [])) L),(N (N (N L (some (.loop 75 (N (N L (some (.ptr 2 0)) L) (some (.agg [(.BR 34 (T.Bi 34))])) (N (N L (some (.fn (.func 147) [] [(.ptr 1 0)])) L) (some (.ptr 0 0)) L)) (5::[]) .skip .skip 0 .ret (0::(75::[])) (0::(1::(0::(1::[])))))) L) CM L) DZ (N L CM L)),4⟩,[(.st 34),(.st 34),.bool,(.st 34)]⟩
def qU:Dc S:=⟨147,2,AyD,[(.st 34),(.st 34),.bool,(.st 34)],[AyE,AyF]⟩
def AyG:Key:=⟨[147],147,none,[0,0,1,0,1,1],0,11⟩
def AyH:Ay S:=⟨(N (N (N L (some (.ptr 5 0)) (N L Be L)) (some (.ptr 1 0)) (N (N L v11 L) none L)) none (N L (some (.ptr 4 0)) (N (N L Be L) none L))),AdO,11⟩
def AyI:Way S:=⟨(.exit 0),⟨(N (N (N L (some (.ptr 5 0)) L) (some (.ptr 1 0)) L) none (N L (some (.ptr 4 0)) L)),AdO,12⟩,[(.st 34),(.st 34),(.arr (.st 5)),.bool,(.st 34)]⟩
def Ah5:LE S:=⟨AyG,AyH,[.int,(.AT (.st 19)),.int,(.st 34),(.st 34),(.arr (.st 5)),.bool,(.st 34)],[AyI]⟩
def Ah6 {T:Type} (x:WC) (k:(AF×AF×(Nat->AE)×Bool×AF)->T):(Nat->AE)->T:=fun d=>k (x.A4,x.BA,d,x.Bg,x.Jt)
def AyJ (x:WC) (v:(Int×(Nat->AE))):WC:=(v.1,x.2.1,x.AV,x.A4,x.BA,v.2,x.Bg,x.Jt)
def AyK {R:Type}:Bo S R:=LE.ls X Ah5 (fun x k=>(W3 x.2.1 x.AV x.A4 x.BA x.Bg x.Jt (x.1,x.BM)).bind (Ah6 x k)) Dh
theorem AyL {R:Type}:CB X (AyK (R:=R)):=DR SY (e:=Ah5) Ik BO (st:=fun(x:WC)=>Qx x.2.1 x.AV x.A4 x.BA x.Bg x.Jt) (prj:=fun(x:WC)=>(x.1,x.BM)) (emb:=AyJ) Ah6 (fun x _=>Tu x.2.1 x.AV x.A4 x.BA x.Bg x.Jt x.1 x.BM) (by intro;unfold Qx Tu;simp only[Cq,Cp,Cr,As,C8];rfl) BO
theorem AyM:Fe X qU W7:=z9 SY Ah4 AyL sO
def Ah7 {R:Type}:Ed S R:=Dc.AP X qU (fun x q=>(W7 x).bind q) Ah3
theorem Il {R:Type}:GC X (Ah7 (R:=R)):=JM (e:=qU) AyM Ah4
theorem AyN:Cf X (aM):=⟨AgD,trivial⟩
def aN:Fx1 S:=⟨[(.st 34)],[.bool],fun xs=>MN xs.1⟩
theorem qT:B6 X 75 aN:=Cw AyN Il BO fun xs=>s8 xs.1
def Ayv:List (Nat×Fx1 S):=[(74,qL),(127,aH),(75,aN)]
theorem Ayw:Cf X (Ayv):=⟨Agi,V8,qT,trivial⟩
def AgZ:Fx1 S:=⟨[(.st 20),(.AR (.st 28)),(.st 28)],[(.st 34),(.int .i64)],fun xs=>XH xs.1 xs.2.1 xs.AV⟩
theorem Ayx:B6 X 68 AgZ:=Cw Ayw Il BO fun xs=>uM xs.1 xs.2.1 xs.AV
def Ah0:Fx1 S:=⟨[(.st 34),(.AR (.st 28))],[(.st 34)],fun xs=>Wd xs.1 xs.2.1⟩
theorem Ayy:B6 X 153 Ah0:=Cw Dn Il BO fun xs=>sY xs.1 xs.2.1
def Ayz:List (Nat×Fx1 S):=[(153,Ah0),(75,aN)]
theorem Ah1:Cf X (Ayz):=⟨Ayy,qT,trivial⟩
def AyA:Key:=⟨[101],101,none,[0,0,1,0,1,1],0,12⟩
def AyB:Ay S:=⟨(N (N (N (N L (some (.map 2)) L) (some (.ptr 0 0)) L) Be Ip) none (N L Be (N (N (N L Be L) none L) (some .Aq) L))),(N L CM (N L VX L)),12⟩
def AyC:Way S:=⟨(.exit 0),⟨(N (N (N (N L (some (.map 2)) L) none L) none L) none (N L none (N L (some .Aq) L))),(N L CM (N L VX L)),13⟩,[(.st 34),(.mp (.int .i64) (.int .i64))]⟩
def Ah2:LE S:=⟨AyA,AyB,[.int,.int,.int,.int,(.st 34),(.mp (.int .i64) (.int .i64))],[AyC]⟩
def Ah8 {T:Type} (x:WN) (k:(AF×(List (Int×Int)))->T):(List (Int×Int))->T:=fun d=>k (x.BA,d)
def AyO (x:WN) (v:(Int×(List (Int×Int)))):WN:=(x.1,x.2.1,x.AV,v.1,x.BA,v.2)
def AyP {R:Type}:Bo S R:=LE.ls X Ah2 (fun x k=>(cD x.1 x.2.1 x.AV x.BA (x.A4,x.v5)).bind (Ah8 x k)) Dh
theorem AyQ {R:Type}:CB X (AyP (R:=R)):=DR Ah1 (e:=Ah2) Il BO (st:=fun(x:WN)=>Qp x.1 x.2.1 x.AV x.BA) (prj:=fun(x:WN)=>(x.A4,x.v5)) (emb:=AyO) Ah8 (fun x _=>Sj x.1 x.2.1 x.AV x.BA x.A4 x.v5) (by intro;unfold Qp Sj;simp only[Cq,Cp,Cr,As,C8];rfl) BO
def Ah9:Fx1 S:=⟨[(.st 34),(.int .i64),(.int .i64)],[(.AR (.int .i64))],fun xs=>Wc xs.1 xs.2.1 xs.AV⟩
theorem AyR:B6 X 101 Ah9:=Cw Ah1 Il AyQ fun xs=>s5 xs.1 xs.2.1 xs.AV
def AyX:Key:=⟨[177],177,none,[0,0,1,0,1],0,4⟩
def AyY:Ay S:=⟨(N Sd KZ Ip),L,4⟩
def Ahe:Way S:=⟨.ret,⟨v28,L,15⟩,[.int]⟩
def AyZ:Way S:=⟨(.exit 0),⟨L,L,5⟩,[]⟩
def Ahf:LE S:=⟨AyX,AyY,[.int,.int,(.AT (.int .i64)),.int],[Ahe,AyZ]⟩
def Ahg {T:Type} (x:Vu) (k:(Int⊕Unit)->T):(Int⊕Unit)->T:=Sum.elim (fun d=>k (.inl d)) (fun e=>k (.inr ()))
def Az0 (x:Vu) (v:Int):Vu:=(x.1,x.2.1,x.AV,v)
def Az1 {R:Type}:Bo S R:=LE.ls X Ahf (fun x k=>(cE x.1 x.2.1 x.AV x.v3).bind (Ahg x k)) Dh
theorem Az2 {R:Type}:CB X (Az1 (R:=R)):=DR Dn (e:=Ahf) Il BO (st:=fun(x:Vu)=>Qq x.1 x.2.1 x.AV) (prj:=fun(x:Vu)=>x.v3) (emb:=Az0) Ahg (fun x _=>Sk x.1 x.2.1 x.AV x.v3) (by intro;unfold Qq Sk;simp only[Cq,Cp,Cr,As,C8];rfl) BO
def Ahh:Fx1 S:=⟨[(.AR (.int .i64)),(.int .i64)],[(.int .i64)],fun xs=>Wh xs.1 xs.2.1⟩
theorem Az3:B6 X 177 Ahh:=Cw Dn Il Az2 fun xs=>s6 xs.1 xs.2.1
def Az4:List (Nat×Fx1 S):=[(177,Ahh)]
theorem Az5:Cf X (Az4):=⟨Az3,trivial⟩
def Ahi:Fx1 S:=⟨[(.AR (.int .i64)),(.int .i64)],[.bool],fun xs=>Wa xs.1 xs.2.1⟩
theorem Az6:B6 X 128 Ahi:=Cw Az5 Il BO fun xs=>sW xs.1 xs.2.1
def Az7:List (Nat×Fx1 S):=[(101,Ah9),(128,Ahi)]
theorem Az8:Cf X (Az7):=⟨AyR,Az6,trivial⟩
def Aha:Fx1 S:=⟨[(.st 34),(.st 28)],[(.int .i64)],fun xs=>Wb xs.1 xs.2.1⟩
theorem AyS:B6 X 69 Aha:=Cw Az8 Il BO fun xs=>sZ xs.1 xs.2.1
def AyT:List (Nat×Fx1 S):=[(68,AgZ),(69,Aha)]
theorem AyU:Cf X (AyT):=⟨Ayx,AyS,trivial⟩
def qV:Fx1 S:=⟨[(.st 20),(.AR (.st 28)),(.st 28)],[(.int .i64),(.int .i64)],fun xs=>TX xs.1 xs.2.1 xs.AV⟩
theorem Ahb:B6 X 13 qV:=Cw AyU Il BO fun xs=>tV xs.1 xs.2.1 xs.AV
def qW:Fx1 S:=⟨[(.AR (.st 28)),(.int .i64),(.int .i64),(.int .i64)],[(.AR (.st 28))],fun xs=>XM xs.1 xs.2.1 xs.AV xs.A4⟩
theorem Ahc:B6 X 19 qW:=Cw Dn Il BO fun xs=>uT xs.1 xs.2.1 xs.AV xs.A4
def AyV:List (Nat×Fx1 S):=[(74,qL),(75,aN)]
theorem AyW:Cf X (AyV):=⟨Agi,qT,trivial⟩
def qX:Fx1 S:=⟨[(.st 20),(.AR (.st 28))],[.bool,(.int .i64)],fun xs=>TZ xs.1 xs.2.1⟩
theorem Ahd:B6 X 18 qX:=Cw AyW Il BO fun xs=>uC xs.1 xs.2.1
def Ahj:Fx1 S:=⟨[(.st 33)],[(.int .i64)],fun xs=>NI xs.1⟩
theorem Ahk:B6 X 77 Ahj:=Cw Dn Il BO fun xs=>tY xs.1
def Ahr:Fx1 S:=⟨[(.st 33)],[(.int .i64)],fun xs=>NJ xs.1⟩
theorem Ahs:B6 X 78 Ahr:=Cw Dn Il BO fun xs=>tZ xs.1
def SZ (F:BQ->Option Int):Fx1 S:=⟨[(.st 33)],[(.int .i64)],fun xs=>F xs.1⟩
def fK (f:Nat):Ay S:=⟨(N (N L (some (.fn (.func f) [] [])) L) (some (.fn (.func 124) [] [(.ptr 7 0),(.ptr 1 0),(.ptr 0 0)])) L),(N (N (N (N L (some (.cells 137 [(.fn (.func 176) [] [(.ptr 6 0),(.ptr 4 0),(.ptr 2 0)])])) L) (some (.cells 28 [(.BR 5 (T.Bi 5))])) L) (some (.cells 121 [(.BR 31 (T.Bi 31))])) (N L (some (.cells 28 [(.BR 5 (T.Bi 5))])) L)) (some (.cells 4 [(.bool false)])) (N (N L (some (.cells 163 [(.fn (.func 138) [] [(.ptr 3 0)])])) L) (some (.cells 199 [(.fn (.func 126) [] [])])) (N L (some (.cells 163 [(.fn (.func 138) [] [(.ptr 5 0)])])) L))),8⟩
def Azl:Way S:=⟨.ret,⟨Ai7,(N (N (N (N L (some (.cells 137 [(.fn (.func 176) [] [(.ptr 6 0),(.ptr 4 0),(.ptr 2 0)])])) L) GM L) op (N L GM L)) DZ (N (N L VZ L) ok (N L (some (.cells 163 [(.fn (.func 138) [] [(.ptr 5 0)])])) L))),8⟩,[(.st 5),.bool,(.st 5),(.st 31),(.st 5),.bool]⟩
def K6 (f:Nat):Dc S:=⟨76,2,(fK f),[(.st 5),(.st 31),(.st 5),.bool],[Azl]⟩
def V9 (f:Nat) (F:BQ->Option Int):List (Nat×Fx1 S):=[(126,V6),(64,V4),(83,SV),(f,SZ F)]
theorem aP {f:Nat} {F:BQ->Option Int} (hf:B6 X f (SZ F)):Cf X (V9 f F):=⟨V7,V5,SW,hf,trivial⟩
def Azm:Key:=⟨[15,5,5,39,5,3,138,2,18,5,3,138,0,176,0,124,0,76],124,(some 15),[0,0,1,0,0,1,0,1,1,0,1],2,71⟩
def Azn (f:Nat):Ay S:=⟨(N (N (N L (some (.ptr 0 0)) (N L (some (.AR (.st 29) [])) L)) none (N L (some (.ptr 65 0)) (N L (some (.int .i64 0)) L))) none (N (N L (some (.ptr 13 0)) (N L (some (.int .i64 0)) L)) (some (.ptr 1 0)) L)),(N (N (N (N (N L (some (.loop 124 (N (N (N L (some (.ptr 0 0)) L) (some (.ptr 7 0)) L) (some (.B2 12)) (N (N (N L (some (.fn (.func 176) [] [(.ptr 6 0),(.ptr 4 0),(.ptr 2 0)])) L) (some (.ptr 13 0)) L) (some (.ptr 1 0)) L)) (9::[]) .skip .skip 0 .busy (0::(124::(0::(76::[])))) (0::(1::(1::(0::(1::[]))))))) L) (some (.cells 137 [(.fn (.func 176) [] [(.ptr 6 0),(.ptr 4 0),(.ptr 2 0)])])) L) (some (.cells 28 [(.BR 5 (T.Bi 5))])) L) (some (.cells 121 [(.BR 31 (T.Bi 31))])) (N (N (N (N (N L (some (.cells 135 [(.BR 33 (T.Bi 33))])) L) none L) none L) (some (.cells 28 [(.BR 5 (T.Bi 5))])) L) (some (.cells 28 [(.BR 5 (T.Bi 5))])) (N L (some (.cells 197 [(.B2 12)])) L))) (some (.cells 4 [(.bool false)])) (N (N (N L (some (.cells 152 [(.fn (.func f) [] [])])) L) (some (.cells 163 [(.fn (.func 138) [] [(.ptr 3 0)])])) (N L (some (.loop 76 (N (N (N L (some (.ptr 8 0)) L) (some (.fn (.func f) [] [])) (N L (some (.ptr 10 0)) L)) (some (.fn (.func 124) [] [(.ptr 7 0),(.ptr 1 0),(.ptr 0 0)])) (N (N (N L (some (.fn (.func 124) [] [(.ptr 7 0),(.ptr 1 0),(.ptr 0 0)])) L) (some (.ptr 9 0)) L) none L)) (9::[]) .skip .skip 0 .normal (0::(76::[])) (0::(1::(0::(1::[])))))) L)) (some (.cells 199 [(.fn (.func 126) [] [])])) (N (N L (some (.cells 4 [(.bool false)])) L) (some (.cells 163 [(.fn (.func 138) [] [(.ptr 5 0)])])) L))),71⟩
def Azo (f:Nat):Way S:=⟨(.exit 1),⟨L,(N (N (N (N (N L (some (.loop 124 (N (N (N L (some (.ptr 0 0)) L) (some (.ptr 7 0)) L) (some (.B2 12)) (N (N (N L (some (.fn (.func 176) [] [(.ptr 6 0),(.ptr 4 0),(.ptr 2 0)])) L) (some (.ptr 13 0)) L) (some (.ptr 1 0)) L)) (9::[]) .skip .skip 0 .busy (0::(124::(0::(76::[])))) (0::(1::(1::(0::(1::[]))))))) L) (some (.cells 137 [(.fn (.func 176) [] [(.ptr 6 0),(.ptr 4 0),(.ptr 2 0)])])) L) (some (.cells 28 [(.BR 5 (T.Bi 5))])) L) (some (.cells 121 [(.BR 31 (T.Bi 31))])) (N (N (N (N (N L (some (.cells 135 [(.BR 33 (T.Bi 33))])) L) none L) none L) (some (.cells 28 [(.BR 5 (T.Bi 5))])) L) (some (.cells 28 [(.BR 5 (T.Bi 5))])) (N L (some (.cells 197 [(.B2 12)])) L))) (some (.cells 4 [(.bool false)])) (N (N (N L (some (.cells 152 [(.fn (.func f) [] [])])) L) (some (.cells 163 [(.fn (.func 138) [] [(.ptr 3 0)])])) (N L (some (.loop 76 (N (N (N L (some (.ptr 8 0)) L) (some (.fn (.func f) [] [])) (N L (some (.ptr 10 0)) L)) (some (.fn (.func 124) [] [(.ptr 7 0),(.ptr 1 0),(.ptr 0 0)])) (N (N (N L (some (.fn (.func 124) [] [(.ptr 7 0),(.ptr 1 0),(.ptr 0 0)])) L) (some (.ptr 9 0)) L) none L)) (9::[]) .skip .skip 0 .normal (0::(76::[])) (0::(1::(0::(1::[])))))) L)) (some (.cells 199 [(.fn (.func 126) [] [])])) (N (N L (some (.cells 4 [(.bool false)])) (N (N (N L (some (.cells 78 [(.BR 29 (T.Bi 29))])) L) none L) none L)) (some (.cells 163 [(.fn (.func 138) [] [(.ptr 5 0)])])) L))),92⟩,[(.st 5),(.st 31),(.st 33),(.st 5),(.st 5),.bool,.bool,(.st 29)]⟩
def Azp (f:Nat):Way S:=⟨(.exit 2),⟨(N (N L none (N L (some (.ptr 65 0)) L)) none (N (N L (some (.ptr 13 0)) L) none L)),(N (N (N (N (N L (some (.loop 124 (N (N (N L (some (.ptr 0 0)) L) (some (.ptr 7 0)) L) (some (.B2 12)) (N (N (N L (some (.fn (.func 176) [] [(.ptr 6 0),(.ptr 4 0),(.ptr 2 0)])) L) (some (.ptr 13 0)) L) (some (.ptr 1 0)) L)) (9::[]) .skip .skip 0 .busy (0::(124::(0::(76::[])))) (0::(1::(1::(0::(1::[]))))))) L) (some (.cells 137 [(.fn (.func 176) [] [(.ptr 6 0),(.ptr 4 0),(.ptr 2 0)])])) L) (some (.cells 28 [(.BR 5 (T.Bi 5))])) L) (some (.cells 121 [(.BR 31 (T.Bi 31))])) (N (N (N (N (N L (some (.cells 135 [(.BR 33 (T.Bi 33))])) L) none L) none L) (some (.cells 28 [(.BR 5 (T.Bi 5))])) L) (some (.cells 28 [(.BR 5 (T.Bi 5))])) (N L (some (.cells 197 [(.B2 12)])) L))) (some (.cells 4 [(.bool false)])) (N (N (N L (some (.cells 152 [(.fn (.func f) [] [])])) L) (some (.cells 163 [(.fn (.func 138) [] [(.ptr 3 0)])])) (N L (some (.loop 76 (N (N (N L (some (.ptr 8 0)) L) (some (.fn (.func f) [] [])) (N L (some (.ptr 10 0)) L)) (some (.fn (.func 124) [] [(.ptr 7 0),(.ptr 1 0),(.ptr 0 0)])) (N (N (N L (some (.fn (.func 124) [] [(.ptr 7 0),(.ptr 1 0),(.ptr 0 0)])) L) (some (.ptr 9 0)) L) none L)) (9::[]) .skip .skip 0 .normal (0::(76::[])) (0::(1::(0::(1::[])))))) L)) (some (.cells 199 [(.fn (.func 126) [] [])])) (N (N L (some (.cells 4 [(.bool false)])) L) (some (.cells 163 [(.fn (.func 138) [] [(.ptr 5 0)])])) L))),72⟩,[(.st 5),(.st 31),(.st 33),(.st 5),(.st 5),.bool,.bool]⟩
def q2 (f:Nat):LE S:=⟨Azm,(Azn f),[(.AT (.st 29)),.int,.int,(.st 5),(.st 31),(.st 33),(.st 5),(.st 5),.bool,.bool],[(Azo f),(Azp f)]⟩
def q3 {T:Type} (x:S7) (k:((AE×BK×BQ×AE×AE×Bool×Bool×Ak)⊕(AE×BK×BQ×AE×AE×Bool×Bool))->T):(Ak⊕Unit)->T:=Sum.elim (fun d=>k (.inl (x.A4,x.BA,x.BM,x.Bg,x.BT,x.u8,x.v9,d))) (fun e=>k (.inr (x.A4,x.BA,x.BM,x.Bg,x.BT,x.u8,x.v9)))
def Aht (x:S7) (v:Int):S7:=(x.1,v,x.AV,x.A4,x.BA,x.BM,x.Bg,x.BT,x.u8,x.v9)
def aQ (f:Nat) (F:BQ->Option Int):Prop:=∀(x:S7),LE.step X (q2 f) (V9 f F) JU Dh 12 x=eP x.1 x.AV x.BA x.BM x.u8 x.2.1 (fun w=>Sum.inl (Aht x w)) (fun o=>Sum.inr (q3 x id o))
def q4 (f:Nat) (F:BQ->Option Int) {R:Type}:Bo S R:=LE.ls X (q2 f) (fun x k=>(fA x.1 x.AV x.BA x.BM x.u8 x.2.1).bind (q3 x k)) Dh
theorem Ahu {f:Nat} {F:BQ->Option Int} (hf:B6 X f (SZ F)) (BS:aQ f F) {R:Type}:CB X (q4 f F (R:=R)):=Mq Gc (aP hf) (e:=(q2 f)) Bq BO (st:=fun(x:S7)=>eY x.1 x.AV x.BA x.BM x.u8) (prj:=fun(x:S7)=>x.2.1) (emb:=Aht) q3 (fun x=>(BS x).trans (by unfold eY eP Od;simp only[Cq,Cp,Cr,As,C8];rfl)) BO
def Azq:Key:=⟨[138,2,18,5,3,138,0,176,0,124,0,76],138,none,[0,0,1],0,47⟩
def Azr (f:Nat):Ay S:=⟨(N (N L (some (.ptr 3 0)) (N (N L (some (.int .i64 0)) L) none L)) (some (.B2 39)) (N L none (N (N L (some (.int .i64 0)) L) none L))),(N (N (N (N (N L (some (.loop 124 (N (N (N L (some (.ptr 0 0)) L) (some (.ptr 7 0)) L) (some (.B2 12)) (N (N (N L (some (.fn (.func 176) [] [(.ptr 6 0),(.ptr 4 0),(.ptr 2 0)])) L) (some (.ptr 13 0)) L) (some (.ptr 1 0)) L)) (9::[]) .skip .skip 0 .normal (0::(124::(0::(76::[])))) (0::(1::(1::(0::(1::[]))))))) L) (some (.cells 137 [(.fn (.func 176) [] [(.ptr 6 0),(.ptr 4 0),(.ptr 2 0)])])) (N (N L (some (.loop 176 (N (N (N (N L (some (.fn (.func 138) [] [(.ptr 5 0)])) L) (some (.ptr 2 0)) L) (some (.ptr 6 0)) (N (N L (some (.fn (.func 138) [] [(.ptr 3 0)])) L) (some (.ptr 36 0)) L)) (some (.B2 15)) (N (N (N L (some (.int .i64 0)) L) (some (.ptr 16 0)) L) (some (.ptr 4 0)) L)) (10::[]) .skip .skip 2 .normal (2::(18::(5::(3::(138::(0::(176::(0::(124::(0::(76::[]))))))))))) (0::(1::(0::(1::(0::(1::(1::[]))))))))) L) none L)) (some (.cells 28 [(.BR 5 (T.Bi 5))])) L) (some (.cells 121 [(.BR 31 (T.Bi 31))])) (N (N L (some (.cells 28 [(.BR 5 (T.Bi 5))])) L) (some (.cells 28 [(.BR 5 (T.Bi 5))])) (N L (some (.cells 197 [(.B2 12)])) L))) (some (.cells 4 [(.bool false)])) (N (N (N (N L (some (.cells 197 [(.B2 15)])) L) (some (.cells 152 [(.fn (.func f) [] [])])) L) (some (.cells 163 [(.fn (.func 138) [] [(.ptr 3 0)])])) (N (N (N L (some (.cells 3 [(.int .i64 0)])) L) none L) (some (.loop 76 (N (N (N L (some (.ptr 8 0)) L) (some (.fn (.func f) [] [])) (N L (some (.ptr 10 0)) L)) (some (.fn (.func 124) [] [(.ptr 7 0),(.ptr 1 0),(.ptr 0 0)])) (N (N (N L (some (.fn (.func 124) [] [(.ptr 7 0),(.ptr 1 0),(.ptr 0 0)])) L) (some (.ptr 9 0)) L) none L)) (9::[]) .skip .skip 0 .normal (0::(76::[])) (0::(1::(0::(1::[])))))) L)) (some (.cells 199 [(.fn (.func 126) [] [])])) (N (N (N L (some (.loop 176 (N (N (N (N L (some (.fn (.func 138) [] [(.ptr 5 0)])) L) (some (.ptr 2 0)) L) (some (.ptr 6 0)) L) (some (.B2 15)) (N (N L (some (.ptr 16 0)) L) (some (.ptr 4 0)) L)) (8::[]) .skip .skip 0 .busy (0::(176::(0::(124::(0::(76::[])))))) (0::(1::(1::[]))))) L) (some (.cells 4 [(.bool false)])) L) (some (.cells 163 [(.fn (.func 138) [] [(.ptr 5 0)])])) L))),47⟩
def Azs (f:Nat):Way S:=⟨(.exit 0),⟨L,(N (N (N (N (N L (some (.loop 124 (N (N (N L (some (.ptr 0 0)) L) (some (.ptr 7 0)) L) (some (.B2 12)) (N (N (N L (some (.fn (.func 176) [] [(.ptr 6 0),(.ptr 4 0),(.ptr 2 0)])) L) (some (.ptr 13 0)) L) (some (.ptr 1 0)) L)) (9::[]) .skip .skip 0 .normal (0::(124::(0::(76::[])))) (0::(1::(1::(0::(1::[]))))))) L) (some (.cells 137 [(.fn (.func 176) [] [(.ptr 6 0),(.ptr 4 0),(.ptr 2 0)])])) (N (N L (some (.loop 176 (N (N (N (N L (some (.fn (.func 138) [] [(.ptr 5 0)])) L) (some (.ptr 2 0)) L) (some (.ptr 6 0)) (N (N L (some (.fn (.func 138) [] [(.ptr 3 0)])) L) (some (.ptr 36 0)) L)) (some (.B2 15)) (N (N (N L (some (.int .i64 0)) L) (some (.ptr 16 0)) L) (some (.ptr 4 0)) L)) (10::[]) .skip .skip 2 .normal (2::(18::(5::(3::(138::(0::(176::(0::(124::(0::(76::[]))))))))))) (0::(1::(0::(1::(0::(1::(1::[]))))))))) L) none L)) (some (.cells 28 [(.BR 5 (T.Bi 5))])) L) (some (.cells 121 [(.BR 31 (T.Bi 31))])) (N (N L (some (.cells 28 [(.BR 5 (T.Bi 5))])) L) (some (.cells 28 [(.BR 5 (T.Bi 5))])) (N L (some (.cells 197 [(.B2 12)])) L))) (some (.cells 4 [(.bool false)])) (N (N (N (N L (some (.cells 197 [(.B2 15)])) L) (some (.cells 152 [(.fn (.func f) [] [])])) L) (some (.cells 163 [(.fn (.func 138) [] [(.ptr 3 0)])])) (N (N (N L (some (.cells 3 [(.int .i64 0)])) L) none L) (some (.loop 76 (N (N (N L (some (.ptr 8 0)) L) (some (.fn (.func f) [] [])) (N L (some (.ptr 10 0)) L)) (some (.fn (.func 124) [] [(.ptr 7 0),(.ptr 1 0),(.ptr 0 0)])) (N (N (N L (some (.fn (.func 124) [] [(.ptr 7 0),(.ptr 1 0),(.ptr 0 0)])) L) (some (.ptr 9 0)) L) none L)) (9::[]) .skip .skip 0 .normal (0::(76::[])) (0::(1::(0::(1::[])))))) L)) (some (.cells 199 [(.fn (.func 126) [] [])])) (N (N (N L (some (.loop 176 (N (N (N (N L (some (.fn (.func 138) [] [(.ptr 5 0)])) L) (some (.ptr 2 0)) L) (some (.ptr 6 0)) L) (some (.B2 15)) (N (N L (some (.ptr 16 0)) L) (some (.ptr 4 0)) L)) (8::[]) .skip .skip 0 .busy (0::(176::(0::(124::(0::(76::[])))))) (0::(1::(1::[]))))) L) (some (.cells 4 [(.bool false)])) L) (some (.cells 163 [(.fn (.func 138) [] [(.ptr 5 0)])])) L))),48⟩,[.int,(.st 5),(.st 31),(.st 5),(.st 5),.bool,.int,.bool]⟩
def q5 (f:Nat):LE S:=⟨Azq,(Azr f),[.int,.int,.int,(.st 5),(.st 31),(.st 5),(.st 5),.bool,.int,.bool],[(Azs f)]⟩
def q6 {T:Type} (x:Sa) (k:(Int×AE×BK×AE×AE×Bool×Int×Bool)->T):(AE×Bool)->T:=fun d=>k (x.AV,x.A4,x.BA,d.1,x.Bg,x.BT,x.u8,d.2)
def Ahv (x:Sa) (v:(Int×AE×Bool)):Sa:=(x.1,v.1,x.AV,x.A4,x.BA,v.2.1,x.Bg,x.BT,x.u8,v.v2)
def q7 (f:Nat) (F:BQ->Option Int):Prop:=∀(x:Sa),LE.step X (q5 f) (V9 f F) JU (q4 f F) 12 x=TS F x.1 x.A4 x.BA x.BT x.u8 x.2.1 x.BM x.v9 (fun w=>Sum.inl (Ahv x w)) (fun o=>Sum.inr (q6 x id o))
def q8 (f:Nat) (F:BQ->Option Int) {R:Type}:Bo S R:=LE.ls X (q5 f) (fun x k=>(Wl F x.1 x.A4 x.BA x.BT x.u8 (x.2.1,x.BM,x.v9)).bind (q6 x k)) (q4 f F)
theorem Ahl {f:Nat} {F:BQ->Option Int} (hf:B6 X f (SZ F)) (BS:aQ f F) (Aw:q7 f F) {R:Type}:CB X (q8 f F (R:=R)):=Mq Gc (aP hf) (e:=(q5 f)) Bq (Ahu hf BS) (st:=fun(x:Sa)=>QW F x.1 x.A4 x.BA x.BT x.u8) (prj:=fun(x:Sa)=>(x.2.1,x.BM,x.v9)) (emb:=Ahv) q6 (fun x=>(Aw x).trans (by unfold QW TS;simp only[Cq,Cp,Cr,As,C8];rfl)) (Ahu hf BS)
def Az9:Key:=⟨[138,0,176,0,124,0,76],138,none,[0,0,1],0,26⟩
def Aza (f:Nat):Ay S:=⟨(N (N L (some (.ptr 5 0)) (N (N L (some (.int .i64 0)) L) none L)) (some (.B2 18)) (N L none (N (N L (some (.int .i64 0)) L) none L))),(N (N (N (N (N L (some (.loop 124 (N (N (N L (some (.ptr 0 0)) L) (some (.ptr 7 0)) L) (some (.B2 12)) (N (N (N L (some (.fn (.func 176) [] [(.ptr 6 0),(.ptr 4 0),(.ptr 2 0)])) L) (some (.ptr 13 0)) L) (some (.ptr 1 0)) L)) (9::[]) .skip .skip 0 .normal (0::(124::(0::(76::[])))) (0::(1::(1::(0::(1::[]))))))) L) (some (.cells 137 [(.fn (.func 176) [] [(.ptr 6 0),(.ptr 4 0),(.ptr 2 0)])])) L) (some (.cells 28 [(.BR 5 (T.Bi 5))])) L) (some (.cells 121 [(.BR 31 (T.Bi 31))])) (N (N L (some (.cells 28 [(.BR 5 (T.Bi 5))])) L) (some (.cells 28 [(.BR 5 (T.Bi 5))])) (N L (some (.cells 197 [(.B2 12)])) L))) (some (.cells 4 [(.bool false)])) (N (N (N (N L (some (.cells 197 [(.B2 15)])) L) (some (.cells 152 [(.fn (.func f) [] [])])) L) (some (.cells 163 [(.fn (.func 138) [] [(.ptr 3 0)])])) (N L (some (.loop 76 (N (N (N L (some (.ptr 8 0)) L) (some (.fn (.func f) [] [])) (N L (some (.ptr 10 0)) L)) (some (.fn (.func 124) [] [(.ptr 7 0),(.ptr 1 0),(.ptr 0 0)])) (N (N (N L (some (.fn (.func 124) [] [(.ptr 7 0),(.ptr 1 0),(.ptr 0 0)])) L) (some (.ptr 9 0)) L) none L)) (9::[]) .skip .skip 0 .normal (0::(76::[])) (0::(1::(0::(1::[])))))) L)) (some (.cells 199 [(.fn (.func 126) [] [])])) (N (N (N L (some (.loop 176 (N (N (N (N L (some (.fn (.func 138) [] [(.ptr 5 0)])) L) (some (.ptr 2 0)) L) (some (.ptr 6 0)) L) (some (.B2 15)) (N (N L (some (.ptr 16 0)) L) (some (.ptr 4 0)) L)) (8::[]) .skip .skip 0 .normal (0::(176::(0::(124::(0::(76::[])))))) (0::(1::(1::[]))))) L) (some (.cells 4 [(.bool false)])) L) (some (.cells 163 [(.fn (.func 138) [] [(.ptr 5 0)])])) L))),26⟩
def Azb (f:Nat):Way S:=⟨(.exit 0),⟨L,(N (N (N (N (N L (some (.loop 124 (N (N (N L (some (.ptr 0 0)) L) (some (.ptr 7 0)) L) (some (.B2 12)) (N (N (N L (some (.fn (.func 176) [] [(.ptr 6 0),(.ptr 4 0),(.ptr 2 0)])) L) (some (.ptr 13 0)) L) (some (.ptr 1 0)) L)) (9::[]) .skip .skip 0 .normal (0::(124::(0::(76::[])))) (0::(1::(1::(0::(1::[]))))))) L) (some (.cells 137 [(.fn (.func 176) [] [(.ptr 6 0),(.ptr 4 0),(.ptr 2 0)])])) L) (some (.cells 28 [(.BR 5 (T.Bi 5))])) L) (some (.cells 121 [(.BR 31 (T.Bi 31))])) (N (N L (some (.cells 28 [(.BR 5 (T.Bi 5))])) L) (some (.cells 28 [(.BR 5 (T.Bi 5))])) (N L (some (.cells 197 [(.B2 12)])) L))) (some (.cells 4 [(.bool false)])) (N (N (N (N L (some (.cells 197 [(.B2 15)])) L) (some (.cells 152 [(.fn (.func f) [] [])])) L) (some (.cells 163 [(.fn (.func 138) [] [(.ptr 3 0)])])) (N L (some (.loop 76 (N (N (N L (some (.ptr 8 0)) L) (some (.fn (.func f) [] [])) (N L (some (.ptr 10 0)) L)) (some (.fn (.func 124) [] [(.ptr 7 0),(.ptr 1 0),(.ptr 0 0)])) (N (N (N L (some (.fn (.func 124) [] [(.ptr 7 0),(.ptr 1 0),(.ptr 0 0)])) L) (some (.ptr 9 0)) L) none L)) (9::[]) .skip .skip 0 .normal (0::(76::[])) (0::(1::(0::(1::[])))))) L)) (some (.cells 199 [(.fn (.func 126) [] [])])) (N (N (N L (some (.loop 176 (N (N (N (N L (some (.fn (.func 138) [] [(.ptr 5 0)])) L) (some (.ptr 2 0)) L) (some (.ptr 6 0)) L) (some (.B2 15)) (N (N L (some (.ptr 16 0)) L) (some (.ptr 4 0)) L)) (8::[]) .skip .skip 0 .normal (0::(176::(0::(124::(0::(76::[])))))) (0::(1::(1::[]))))) L) (some (.cells 4 [(.bool false)])) L) (some (.cells 163 [(.fn (.func 138) [] [(.ptr 5 0)])])) L))),27⟩,[(.st 5),(.st 31),(.st 5),(.st 5),.bool,.bool]⟩
def qY (f:Nat):LE S:=⟨Az9,(Aza f),[.int,.int,(.st 5),(.st 31),(.st 5),(.st 5),.bool,.bool],[(Azb f)]⟩
def qZ {T:Type} (x:Sb) (k:(AE×BK×AE×AE×Bool×Bool)->T):(AE×Bool)->T:=fun d=>k (x.AV,x.A4,d.1,x.BM,x.Bg,d.2)
def Ahm (x:Sb) (v:(Int×AE×Bool)):Sb:=(x.1,v.1,x.AV,x.A4,v.2.1,x.BM,x.Bg,v.v2)
def Ahn (f:Nat) (F:BQ->Option Int):Prop:=∀(x:Sb),LE.step X (qY f) (V9 f F) JU (q8 f F) 12 x=TR F x.1 x.AV x.A4 x.BM x.Bg x.2.1 x.BA x.Jt (fun w=>Sum.inl (Ahm x w)) (fun o=>Sum.inr (qZ x id o))
def Aho (f:Nat) (F:BQ->Option Int) {R:Type}:Bo S R:=LE.ls X (qY f) (fun x k=>(e2 F x.1 x.AV x.A4 x.BM x.Bg (x.2.1,x.BA,x.Jt)).bind (qZ x k)) (q8 f F)
theorem Azc {f:Nat} {F:BQ->Option Int} (hf:B6 X f (SZ F)) (BS:aQ f F) (Aw:q7 f F) (d:Ahn f F) {R:Type}:CB X (Aho f F (R:=R)):=Mq Gc (aP hf) (e:=(qY f)) Bq (Ahl hf BS Aw) (st:=fun(x:Sb)=>QV F x.1 x.AV x.A4 x.BM x.Bg) (prj:=fun(x:Sb)=>(x.2.1,x.BA,x.Jt)) (emb:=Ahm) qZ (fun x=>(d x).trans (by unfold QV TR;simp only[Cq,Cp,Cr,As,C8];rfl)) (Ahl hf BS Aw)
def Azd (f:Nat) (F:BQ->Option Int):Prop:=∀(x:(AE×BK×AE×Bool)),Dc.step X (K6 f) (V9 f F) JU (Aho f F) 12 x=TW F x.1 x.2.1 x.AV x.v3
theorem Wr {f:Nat} {F:BQ->Option Int} (hf:B6 X f (SZ F)) (BS:aQ f F) (Aw:q7 f F) (d:Ahn f F) (c:Azd f F):Fe X (K6 f) (IX F):=oB (oI Gc (aP hf) Bq (Azc hf BS Aw d) 12) fun x _ h=>((c x).trans (u7 F x).symm).trans h
theorem Aze:Fe X (K6 77) (IX NI):=Wr Ahk (fun x=>by kernel_rfl) (fun x=>by kernel_rfl) (fun x=>by kernel_rfl) fun x=>by kernel_rfl
def Ahp {R:Type}:Ed S R:=Dc.AP X (K6 77) (fun x q=>(IX NI x).bind q) Ah7
theorem Azf {R:Type}:GC X (Ahp (R:=R)):=JM (e:=(K6 77)) Aze Il
theorem Azg:Fe X (K6 78) (IX NJ):=Wr Ahs (fun x=>by kernel_rfl) (fun x=>by kernel_rfl) (fun x=>by kernel_rfl) fun x=>by kernel_rfl
def Ahq {R:Type}:Ed S R:=Dc.AP X (K6 78) (fun x q=>(IX NJ x).bind q) Ahp
theorem aO {R:Type}:GC X (Ahq (R:=R)):=JM (e:=(K6 78)) Azg Azf
def Azh:List (Nat×Fx1 S):=[(59,aC),(126,V6),(64,V4),(84,aF),(83,SV),(77,Ahj),(78,Ahr)]
theorem Azi:Cf X (Azh):=⟨aD,V7,V5,aG,SW,Ahk,Ahs,trivial⟩
def q0:Fx1 S:=⟨[(.st 22),(.st 23),(.AR (.st 29))],[(.st 5),(.st 5),(.int .i64)],fun xs=>Gh xs.1 xs.2.1 xs.AV⟩
theorem eW:B6 X 20 q0:=Cw Azi aO BO fun xs=>u4 xs.1 xs.2.1 xs.AV
def Azj:Ay S:=⟨(N (N L (some (.agg [(.BR 24 (T.Bi 24))])) L) (some (.agg [(.BR 20 (T.Bi 20))])) L),L,0⟩
def Azk:Way S:=⟨.ret,⟨(N L (some (.rs 0 0)) L),(N L VY L),1⟩,[(.AT (.st 28))]⟩
def q1:Dc S:=⟨8,2,Azj,[(.st 24),(.st 20)],[Azk]⟩
def Azt:List (Nat×Fx1 S):=[(9,pJ),(15,pL),(50,V1),(4,pG),(5,pI),(10,pX),(11,Zz),(12,qC),(14,qD),(13,qV),(17,aA),(16,aB),(19,qW),(18,qX),(20,q0)]
theorem Ahw:Cf X Azt:=⟨AeN,AeZ,Zy,AeB,AeO,Afl,pM,eX,Ag2,Ahb,pN,pW,Ahc,Ahd,eW,trivial⟩
def Azu:Key:=⟨[8],8,none,[0,0,1,0,1,1,1],0,9⟩
def Azv:Ay S:=⟨(N (N Pw none (N L (some (.rs 9 0)) L)) none (N L (some (.ptr 0 0)) (N L KZ L))),(N (N L SS (N (N L VY L) none L)) os L),10⟩
def Azw:Way S:=⟨(.exit 0),⟨(N (N L none (N L (some (.rs 9 0)) L)) none L),(N (N L SS (N (N L VY L) none L)) os L),21⟩,[(.st 24),(.AT (.st 28)),(.st 20)]⟩
def Ahx:LE S:=⟨Azu,Azv,[.int,(.AT (.int .i64)),(.st 24),(.AT (.st 28)),(.st 20)],[Azw]⟩
def Ahy {T:Type} (x:WM) (k:(Bx×(List Aa)×AQ)->T):(List Aa)->T:=fun d=>k (x.AV,d,x.v4)
def Azx (x:WM) (v:(Int×(List Aa))):WM:=(v.1,x.2.1,x.AV,v.2,x.v4)
def AzL {R:Type}:Bo S R:=LE.ls X Ahx (fun x k=>(eA x.2.1 x.AV x.v4 (x.1,x.A4)).bind (Ahy x k)) Dh
theorem AzM {R:Type}:CB X (AzL (R:=R)):=DR Ahw (e:=Ahx) aO BO (st:=fun(x:WM)=>OV x.2.1 x.AV x.v4) (prj:=fun(x:WM)=>(x.1,x.A4)) (emb:=Azx) Ahy (fun x _=>QG x.2.1 x.AV x.v4 x.1 x.A4) (by intro;unfold OV QG;simp only[Cq,Cp,Cr,As,C8];rfl) BO
theorem AzN:Fe X q1 QX:=z9 Ahw aO AzM uG
def NN {R:Type}:Ed S R:=Dc.AP X q1 (fun x q=>(QX x).bind q) Ahq
theorem Ir {R:Type}:GC X (NN (R:=R)):=JM (e:=q1) AzN aO
def AhE:Fx1 S:=⟨[(.int .i64)],[.bool],fun xs=>Ais xs.1⟩
theorem AzO:B6 X 140 AhE:=z5 Dn Ir BO
def AzP:List (Nat×Fx1 S):=[(140,AhE)]
theorem AzQ:Cf X (AzP):=⟨AzO,trivial⟩
def q9:Fx1 S:=⟨[(.int .i64),(.int .i64)],[(.int .i64)],fun xs=>tL xs.1 xs.2.1⟩
theorem AhF:B6 X 93 q9:=z5 AzQ Ir BO
def AzR:List (Nat×Fx1 S):=[(93,q9)]
theorem AhG:Cf X (AzR):=⟨AhF,trivial⟩
def AzS:Key:=⟨[103],103,none,[0,0,1,0,1],0,4⟩
def AzT:Ay S:=⟨(N (N (N L none (N L Be L)) KZ (N (N L KZ L) none L)) KZ v28),L,4⟩
def Azy:Way S:=⟨.ret,⟨v28,L,27⟩,[.int]⟩
def Azz:Way S:=⟨(.exit 0),⟨(N (N L KZ L) KZ L),L,5⟩,[(.AT (.int .i64)),(.AT (.int .i64))]⟩
def Ahz:LE S:=⟨AzS,AzT,[.int,(.AT (.int .i64)),(.AT (.int .i64)),(.AT (.int .i64)),.int],[Ahe,Azy,Azz]⟩
def AhA {T:Type} (x:Vf) (k:(Int⊕Int⊕((List Int)×(List Int)))->T):(Int⊕Int⊕Unit)->T:=Sum.elim (fun e=>k (.inl e)) (Sum.elim (fun d=>k (.inr (.inl d))) (fun i=>k (.inr (.inr (x.2.1,x.A4)))))
def AzA (x:Vf) (v:Int):Vf:=(v,x.2.1,x.AV,x.A4,x.v4)
def AzB {R:Type}:Bo S R:=LE.ls X Ahz (fun x k=>(sJ x.2.1 x.AV x.A4 x.v4 x.1).bind (AhA x k)) Dh
theorem AzC {R:Type}:CB X (AzB (R:=R)):=DR AhG (e:=Ahz) Ir BO (st:=fun(x:Vf)=>cQ x.2.1 x.AV x.A4 x.v4) (prj:=fun(x:Vf)=>x.1) (emb:=AzA) AhA (fun x _=>cI x.2.1 x.AV x.A4 x.v4 x.1) (by intro;unfold cQ cI;simp only[Cq,Cp,Cr,As,C8];rfl) BO
def AhB:Fx1 S:=⟨[(.AR (.int .i64)),(.AR (.int .i64))],[(.int .i64)],fun xs=>Aim xs.1 xs.2.1⟩
theorem AzD:B6 X 103 AhB:=z5 AhG Ir AzC
def AzE:Key:=⟨[141],141,none,[0,0,1,0,1,1],0,5⟩
def AzF:Ay S:=⟨(N (N (N (N L Be L) Be L) none L) none (N (N (N L Be L) none L) none (N L KZ L))),L,5⟩
def AzG:Way S:=⟨.ret,⟨(N L none (N L Be L)),L,14⟩,[.int]⟩
def AzH:Way S:=⟨(.exit 0),⟨Ip,L,6⟩,[.int]⟩
def AhC:LE S:=⟨AzE,AzF,[.int,.int,.int,(.AT (.int .i64))],[AzG,AzH]⟩
def AhD {T:Type} (x:Vw) (k:(Int⊕Int)->T):(Int⊕Unit)->T:=Sum.elim (fun d=>k (.inl d)) (fun e=>k (.inr x.2.1))
def AzI (x:Vw) (v:Int):Vw:=(x.1,x.2.1,v,x.v3)
def AzJ {R:Type}:Bo S R:=LE.ls X AhC (fun x k=>(tI x.1 x.2.1 x.v3 x.AV).bind (AhD x k)) Dh
theorem AzK {R:Type}:CB X (AzJ (R:=R)):=DR Dn (e:=AhC) Ir BO (st:=fun(x:Vw)=>eQ x.1 x.2.1 x.v3) (prj:=fun(x:Vw)=>x.AV) (emb:=AzI) AhD (fun x _=>eI x.1 x.2.1 x.v3 x.AV) (by intro;unfold eQ eI;simp only[Cq,Cp,Cr,As,C8];rfl) BO
def AhH:Fx1 S:=⟨[(.AR (.int .i64))],[(.int .i64)],fun xs=>vZ xs.1⟩
theorem AzU:B6 X 141 AhH:=Cw Dn Ir AzK fun xs=>AiP xs.1
def AzV:Ay S:=⟨(N (N L WR L) rR (N L Gb L)),(N (N (N L GM L) GM L) ok (N (N L VZ L) Zv L)),5⟩
def W4:Dc S:=⟨94,3,AzV,[(.st 31),.bool,(.st 5),(.st 5)],[]⟩
def T3:List (Nat×Fx1 S):=[(64,V4),(84,aF),(83,SV),(93,q9),(103,AhB),(141,AhH),(59,aC),(126,V6),(122,p5)]
theorem Tf:Cf X T3:=⟨V5,aG,SW,AhF,AzD,AzU,aD,V7,p6,trivial⟩
def AzW:Key:=⟨[12,5,5,36,5,3,138,2,15,5,3,138,0,176,0,94],94,(some 12),[0,0,1,0,1,0,1,0,1,0,1,1],2,69⟩
def AzX:Ay S:=⟨(N (N (N (N L (some (.ptr 9 0)) L) (some (.ptr 5 0)) L) none (N (N L Be L) (some (.ptr 6 0)) (N (N L Be L) none L))) none (N (N (N L (some (.ptr 62 0)) L) none (N (N L v10 L) none L)) none v28)),AdQ,69⟩
def AzY:Way S:=⟨(.exit 2),⟨(N (N (N (N L (some (.ptr 9 0)) L) none L) none (N (N L Be L) none L)) none L),AdQ,70⟩,[.int,(.st 5),(.st 5),(.st 31),(.mp (.int .i64) (.int .i64)),(.st 31),.bool,.bool,(.st 33)]⟩
def AhI:LE S:=⟨AzW,AzX,[.int,.int,(.AT (.st 29)),.int,(.st 5),(.st 5),(.st 31),(.mp (.int .i64) (.int .i64)),(.st 31),.bool,.bool,(.st 33)],[AzY]⟩
def AhJ {T:Type} (x:WB) (k:(Int×AE×AE×BK×(List (Int×Int))×BK×Bool×Bool×BQ)->T):Int->T:=fun d=>k (d,x.BA,x.BM,x.Bg,x.BT,x.u8,x.CJ,x.LK,x.v11)
def AAa (x:WB) (v:(Int×Int)):WB:=(v.1,x.2.1,x.AV,v.2,x.BA,x.BM,x.Bg,x.BT,x.u8,x.CJ,x.LK,x.v11)
def AhP {R:Type}:Bo S R:=LE.ls X AhI (fun x k=>(W6 x.2.1 x.AV x.Bg x.LK x.v11 (x.1,x.A4)).bind (AhJ x k)) Dh
theorem AhQ {R:Type}:CB X (AhP (R:=R)):=DR Tf (e:=AhI) Ir BO (st:=fun(x:WB)=>RB x.2.1 x.AV x.Bg x.LK x.v11) (prj:=fun(x:WB)=>(x.1,x.A4)) (emb:=AAa) AhJ (fun x _=>Td x.2.1 x.AV x.Bg x.LK x.v11 x.1 x.A4) (by intro;unfold RB Td;simp only[Cq,Cp,Cr,As,C8];rfl) BO
def AAb:Key:=⟨[138,2,15,5,3,138,0,176,0,94],138,none,[0,0,1],0,44⟩
def AAc:Ay S:=⟨(N (N L (some (.ptr 1 0)) (N (N L Be L) none L)) (some (.B2 36)) v28),Zl,44⟩
def AAd:Way S:=⟨(.exit 0),⟨L,Zl,45⟩,[(.st 5),(.st 5),.int,(.st 31),(.mp (.int .i64) (.int .i64)),.int,(.st 31),.bool,.bool]⟩
def AhR:LE S:=⟨AAb,AAc,[.int,.int,(.st 5),(.st 5),.int,(.st 31),(.mp (.int .i64) (.int .i64)),.int,(.st 31),.bool,.bool],[AAd]⟩
def AhS {T:Type} (x:WE) (k:(AE×AE×Int×BK×(List (Int×Int))×Int×BK×Bool×Bool)->T):(List (Int×Int))->T:=fun d=>k (x.AV,x.A4,x.BA,x.BM,d,x.BT,x.u8,x.CJ,x.v10)
def AAe (x:WE) (v:(Int×(List (Int×Int)))):WE:=(x.1,v.1,x.AV,x.A4,x.BA,x.BM,v.2,x.BT,x.u8,x.CJ,x.v10)
def bL {R:Type}:Bo S R:=LE.ls X AhR (fun x k=>(W5 x.1 x.A4 x.BA x.BM x.v10 (x.2.1,x.Bg)).bind (AhS x k)) AhP
theorem AhT {R:Type}:CB X (bL (R:=R)):=DR Tf (e:=AhR) Ir AhQ (st:=fun(x:WE)=>RA x.1 x.A4 x.BA x.BM x.v10) (prj:=fun(x:WE)=>(x.2.1,x.Bg)) (emb:=AAe) AhS (fun x _=>Tc x.1 x.A4 x.BA x.BM x.v10 x.2.1 x.Bg) (by intro;unfold RA Tc;simp only[Cq,Cp,Cr,As,C8];rfl) AhQ
def AAf:Key:=⟨[138,0,176,0,94],138,none,[0,0,1],0,23⟩
def AAg:Ay S:=⟨(N (N L (some (.ptr 3 0)) (N (N L Be L) none L)) (some (.B2 15)) v28),AdR,23⟩
def AAh:Way S:=⟨(.exit 0),⟨L,AdR,24⟩,[(.st 5),(.st 5),(.st 31),(.mp (.int .i64) (.int .i64)),(.st 31),.bool,.bool]⟩
def bO:LE S:=⟨AAf,AAg,[.int,.int,(.st 5),(.st 5),(.st 31),(.mp (.int .i64) (.int .i64)),(.st 31),.bool,.bool],[AAh]⟩
def bT {T:Type} (x:WG) (k:(AE×AE×BK×(List (Int×Int))×BK×Bool×Bool)->T):(List (Int×Int))->T:=fun d=>k (x.AV,x.A4,x.BA,d,x.Bg,x.BT,x.FI)
def AAi (x:WG) (v:(Int×(List (Int×Int)))):WG:=(x.1,v.1,x.AV,x.A4,x.BA,v.2,x.Bg,x.BT,x.FI)
def Ob {R:Type}:Bo S R:=LE.ls X bO (fun x k=>(Qy x.1 x.AV x.A4 x.BA x.FI (x.2.1,x.BM)).bind (bT x k)) bL
theorem sK {R:Type}:CB X (Ob (R:=R)):=DR Tf (e:=bO) Ir AhT (st:=fun(x:WG)=>Qz x.1 x.AV x.A4 x.BA x.FI) (prj:=fun(x:WG)=>(x.2.1,x.BM)) (emb:=AAi) bT (fun x _=>Tw x.1 x.AV x.A4 x.BA x.FI x.2.1 x.BM) (by intro;unfold Qz Tw;simp only[Cq,Cp,Cr,As,C8];rfl) AhT
theorem AAj:Fe X W4 dC:=z9 Tf Ir sK Ain
def AAk {R:Type}:Ed S R:=Dc.AP X W4 (fun x q=>(dC x).bind q) NN
theorem rB {R:Type}:GC X (AAk (R:=R)):=JM (e:=W4) AAj Ir
def AAl:List (Nat×Fx1 S):=[(83,SV)]
theorem AhU:Cf X (AAl):=⟨SW,trivial⟩
def AAm:Key:=⟨[135,1,1,87],135,none,[0,0,0,1,1],0,9⟩
def AzZ:Ay S:=⟨(N (N L (some (.fn (.func 136) [] [(.ptr 0 0)])) (N L Be L)) none (N L none (N L Be L))),(N L Mw L),9⟩
def AA0:Way S:=⟨(.exit 0),⟨Sc,(N L Mw L),12⟩,[.int,(.st 33)]⟩
def AhK:LE S:=⟨AAm,AzZ,[.int,.int,(.st 33)],[AA0]⟩
def AhL {T:Type} (x:WA) (k:(Int×BQ)->T):Int->T:=fun d=>k (d,x.v2)
def AA1 (x:WA) (v:(Int×Int)):WA:=(v.1,v.2,x.v2)
def AA2 {R:Type}:Bo S R:=LE.ls X AhK (fun x k=>(cW x.v2 (x.1,x.2.1)).bind (AhL x k)) Dh
theorem AA3 {R:Type}:CB X (AA2 (R:=R)):=DR AhU (e:=AhK) rB BO (st:=fun(x:WA)=>OR x.v2) (prj:=fun(x:WA)=>(x.1,x.2.1)) (emb:=AA1) AhL (fun x _=>QD x.v2 x.1 x.2.1) (by intro;unfold OR QD;simp only[Cq,Cp,Cr,As,C8];rfl) BO
def AA4:Fx1 S:=⟨[(.st 33)],[(.int .i64)],fun xs=>OY xs.1⟩
theorem Aip:B6 X 87 AA4:=Cw AhU rB AA3 fun xs=>tC xs.1
def AA5:Fx1 S:=⟨[(.st 33)],[(.int .i64)],fun xs=>TY xs.1⟩
theorem AiF:B6 X 88 AA5:=Cw Dn rB BO fun xs=>uA xs.1
end
end Nore
