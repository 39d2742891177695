/- The code comes to the plain functions. -/
import Derived.Test.YtdoejdmpmpgmiaaY
import Derived.Test.YtdoejdmpmpgmiaaD
set_option linter.unusedSectionVars false
set_option linter.unusedVariables false
set_option linter.unusedSimpArgs false
set_option maxRecDepth 100000
open Go Go.Ab Go.Proofs Go.Proofs.Ytdoejdmpmpgmiaa
open Go.Ab.Tr renaming node → N, leaf → L
namespace Nore
abbrev t17 : Type := List (ByteArray × Int)
abbrev t16 : Type := Int × Int × (List Point)
abbrev t15 : Type := Int × (List Point) × Point
abbrev t14 : Type := Int × Int × (List Point) × Int
abbrev t13 : Type := Int × (List Point) × Int × Int
abbrev t12 : Type := (Int × Int × Int) ⊕ (Int × Int)
abbrev t11 : Type := Int × ByteArray × ByteArray × Nat
abbrev t10 : Type := ByteArray × Int × (List ByteArray)
abbrev tZ : Type := Int × (List Int) × Int × Int × Int
abbrev tY : Type := Int × Int × (List Span) × Int × Int
abbrev tX : Type := Int × (List ByteArray) × Nat × CtChart
abbrev tW : Type := Int × CtChart × (List ByteArray) × Nat
abbrev tV : Type := (List Int) × Nat × SgMooring × swing_mooring
abbrev tU : Type := Int × Int × (List Int) × Nat × Point × Point
abbrev tT : Type := (Int × Point × Int × (List Int) × Nat) ⊕ Int
abbrev tS : Type := Int × (List Int) × (List Int) × (List Int) × Int
abbrev tR : Type := Int × Int × Int × t17 × CtSand
abbrev tQ : Type := Int × Int × Int × (List CtPaint) × (List Int) × Nat
abbrev tP : Type := (List (Nat → Int)) × Nat × swing_mooring × SgMooring
abbrev tO : Type := Int × (List SgLook) × Int × (List SgLook) × SgMooring
abbrev tN : Type := Int × (List (Nat → Int)) × Int × (Nat → Int) × (Nat → Int)
abbrev tM : Type := (Nat → Int) × Int × (Nat → Int) × (Nat → Int) × (Nat → Int)
abbrev tL : Type := Int × (List CtSand) × Int × CtChart × t17
abbrev tK : Type := Int × Int × (List CtMark) × CtChart × t17
abbrev tJ : Type := (Bool × ByteArray × Nat) ⊕ t11
abbrev tI : Type := CtBox × SgLook × swing_mooring × SgLook × swing_mooring × (Nat → Int)
abbrev tH : Type := Int × (List (Nat → Int)) × Int × SgMooring × (Nat → Int) × swing_mooring
abbrev tG : Type := Int × Int × Int × (List ByteArray) × Nat × CtMark × (List ByteArray) × Nat
abbrev tF : Type := norelaw04_Past × Point × (List Point) × Nat × SgMooring × (List SgLook) × Nat
abbrev tE : Type := Int × (List SgLook) × Int × (List (Nat → Int)) × Nat × swing_mooring × SgMooring
abbrev tD : Type := Int × Int × CtBox × SgLook × swing_mooring × SgLook × swing_mooring × (Nat → Int)
abbrev tC : Type := Int × norelaw04_Past × Point × (List Point) × Nat × SgMooring × (List SgLook) × Nat
abbrev tB : Type := (List (Nat → Int)) × Int × Bool × Int × (List Int) × Nat × SgMooring × swing_mooring
abbrev tA : Type := Int × Int × SgLook × SgLook × (List Int) × Nat × (List Int) × Nat × (List Int) × Nat
abbrev tz : Type := Int × Int × Int × CtBox × SgLook × swing_mooring × SgLook × swing_mooring × (Nat → Int)
abbrev ty : Type := Int × (List (Nat → Int)) × Int × (List (Nat → Int)) × (List Int) × Nat × swing_mooring × (Nat → Int)
abbrev tx : Type := Int × Int × Int × Int × Int × Int × Int × (Nat → Int) × CtBox × SgMooring × SgMooring × swing_mooring
abbrev tw : Type := Int × Point × SgLook × (List Int) × Nat × swing_mooring × Point × (List Int) × Nat × (List Int) × Nat × Point
abbrev tv : Type := (Int × Int × (Nat → Int) × SgMooring × (Nat → Int) × swing_mooring) ⊕ (SgMooring × (Nat → Int) × swing_mooring)
abbrev tu : Type := Int × Int × Int × Int × Int × Int × Int × Int × Int × (Nat → Int) × CtBox × SgMooring × SgMooring × swing_mooring
abbrev tt : Type := Int × Int × Int × Int × Int × Int × Int × Int × Int × Int × (Nat → Int) × CtBox × SgMooring × SgMooring × swing_mooring
abbrev ts : Type := Int × Int × (List Point) × chart_sand × Bool × Int × Bool × chart_sand × Bool × Int × chart_sand × (List Int) × Nat × Point
abbrev tr : Type := Int × chart_sand × Bool × Int × Bool × chart_sand × Bool × Int × chart_sand × Point × chart_side × (List Int) × Nat × Point
abbrev tq : Type := CtBox × SgMooring × (List Point) × Nat × (Nat → Int) × swing_mooring × (List (Nat → Int)) × Bool × (List SgLook) × Int × SgMooring
abbrev tp : Type := Int × Int × CtBox × SgMooring × (List Point) × Nat × (Nat → Int) × swing_mooring × (List (Nat → Int)) × Bool × (List SgLook) × Int × SgMooring
abbrev to : Type := Int × Int × CtBox × SgMooring × (Nat → Int) × swing_mooring × (List Point) × Nat × (List (Nat → Int)) × Bool × (List SgLook) × Int × SgMooring
abbrev tn : Type := Int × Int × CtBox × SgLook × swing_mooring × SgLook × SgLook × Int × swing_mooring × Int × Int × CtBox × swing_mooring × Point × (Nat → Int) × Int
abbrev tm : Type := Int × Int × Int × CtBox × SgMooring × (Nat → Int) × swing_mooring × (List Point) × Nat × (List (Nat → Int)) × Bool × (List SgLook) × Int × SgMooring
abbrev tl : Type := Int × Int × (List Point) × Int × chart_sand × Bool × Int × Bool × chart_sand × Bool × Int × chart_sand × Point × chart_side × (List Int) × Nat × Point
abbrev tk : Type := Int × Int × Int × CtBox × SgLook × swing_mooring × SgLook × SgLook × Int × swing_mooring × Int × Int × CtBox × swing_mooring × Point × (Nat → Int) × Int
abbrev tj : Type := (List (Nat → Int)) × Int × Int × Int × (List (Nat → Int)) × Bool × Int × Int × (List Int) × Nat × SgMooring × (Nat → Int) × (List Int) × Nat × swing_mooring
abbrev ti : Type := (Bool × (List (Nat → Int)) × (List Int) × Nat × swing_mooring × (Nat → Int) × (Nat → Int)) ⊕ ((List (Nat → Int)) × (List Int) × Nat × swing_mooring × (Nat → Int))
abbrev th : Type := (Nat → Int) × CtBox × (List SgLook) × Nat × swing_mooring × SgLook × SgMooring × Int × Bool × (List SgLook) × Bool × (List (Nat → Int)) × Bool × SgMooring × SgLook × (List Point) × Nat
abbrev tg : Type := (Int × Int × Int × (List ByteArray) × Nat × (List ByteArray) × Nat × CtChart) ⊕ (Int × Int × Int × (List ByteArray) × Nat × (List ByteArray) × Nat × CtChart) ⊕ ((List ByteArray) × Nat × CtChart)
abbrev tf : Type := Int × Int × (Nat → Int) × CtBox × (List SgLook) × Nat × swing_mooring × SgLook × SgMooring × Int × Bool × (List SgLook) × Bool × (List (Nat → Int)) × Bool × SgMooring × SgLook × (List Point) × Nat
abbrev te : Type := Int × Int × Int × (Nat → Int) × CtBox × (List SgLook) × Nat × swing_mooring × SgLook × SgMooring × Int × Bool × (List SgLook) × Bool × (List (Nat → Int)) × Bool × SgMooring × SgLook × (List Point) × Nat
abbrev td : Type := (chart_sand × Bool × Int × Bool × chart_sand × Bool × Int × chart_sand × Point × chart_side × (List Int) × Nat × Point) ⊕ (chart_sand × Bool × Int × Bool × chart_sand × Bool × Int × chart_sand × (List Int) × Nat × Point)
abbrev tc : Type := (Int × (List Int) × Nat × (List Int) × Nat × CtPaint) ⊕ (Int × (List Int) × Nat × (List Int) × Nat × (List Int) × Nat × CtPaint) ⊕ (Int × (List Int) × Nat × (List Int) × Nat × (List Int) × Nat × CtPaint) ⊕ ((List Int) × Nat)
abbrev tb : Type := (Int × Int × Int × CtChart × t17 × CtSand) ⊕ (Int × Int × Int × CtChart × t17 × CtSand) ⊕ (Int × Int × Int × CtChart × t17 × CtSand) ⊕ (CtChart × t17)
abbrev ta : Type := (Bool × Point × Point × SgLook × (List Int) × Nat × swing_mooring × Point × (List Int) × Nat × (List Int) × Nat × Point × Point) ⊕ (Point × SgLook × (List Int) × Nat × swing_mooring × Point × (List Int) × Nat × (List Int) × Nat × Point)
abbrev t9 : Type := (CtBox × SgLook × swing_mooring × SgLook × SgLook × Int × swing_mooring × Int × Int × CtBox × swing_mooring × Point × Point × (Nat → Int) × Int) ⊕ (CtBox × SgLook × swing_mooring × SgLook × SgLook × Int × swing_mooring × Int × Int × CtBox × swing_mooring × Point × (Nat → Int) × Int)
abbrev t8 : Type := (CtBox × SgLook × swing_mooring × SgLook × SgLook × Int × swing_mooring × Int × Int × CtBox × swing_mooring × Point × Point × (Nat → Int) × Int) ⊕ tn
abbrev t7 : Type := (Int × Int × Int × (List ByteArray) × Nat × CtMark × CtChart × (List ByteArray) × Nat) ⊕ (Int × Int × Int × (List ByteArray) × Nat × CtMark × CtChart × (List ByteArray) × Nat) ⊕ (Int × Int × Int × (List ByteArray) × Nat × CtMark × CtChart × (List ByteArray) × Nat) ⊕ (CtChart × (List ByteArray) × Nat)
abbrev t6 : Type := Int × Int × (Nat → Int) × CtBox × (List SgLook) × Nat × Int × Bool × (List SgLook) × Bool × (List (Nat → Int)) × Bool × Int × SgMooring × SgLook × Int × Int × swing_mooring × SgLook × Point × (List Point) × Nat × SgMooring × Int × Bool × (List SgLook) × Bool × (List (Nat → Int)) × Bool × SgMooring × SgLook × CtBox
abbrev t5 : Type := Int × Int × Int × (Nat → Int) × CtBox × (List Point) × Nat × (List SgLook) × Nat × Int × Bool × (List SgLook) × Bool × (List (Nat → Int)) × Bool × Int × SgMooring × SgLook × Int × Int × swing_mooring × SgLook × Point × SgMooring × Int × Bool × (List SgLook) × Bool × (List (Nat → Int)) × Bool × SgMooring × SgLook × CtBox
abbrev t4 : Type := (Int × Int × Int × CtMark × CtChart × t17) ⊕ (Int × Int × Int × CtMark × CtChart × t17) ⊕ (Int × Int × Int × CtMark × CtChart × t17 × (List Point) × Nat) ⊕ (Int × Int × Int × CtMark × CtChart × t17 × (List Point) × Nat) ⊕ (CtChart × t17)
abbrev t3 : Type := ((List (Nat → Int)) × Int × Bool × Int × (Nat → Int) × (List Int) × Nat × (List Int) × Nat × SgMooring × (Nat → Int) × (List Int) × Nat × swing_mooring) ⊕ ((List (Nat → Int)) × Int × Bool × Int × (Nat → Int) × (List Int) × Nat × SgMooring × (Nat → Int) × (List Int) × Nat × swing_mooring) ⊕ ((List (Nat → Int)) × Int × Bool × Int × (List Int) × Nat × SgMooring × (Nat → Int) × (List Int) × Nat × swing_mooring)
abbrev t2 : Type := (Int × Int × SgLook × SgLook × (List SgLook) × SgMooring) ⊕ (Int × Int × SgLook × SgLook × (List SgLook) × SgMooring × (List Int) × Nat) ⊕ (Int × Int × SgLook × SgLook × (List SgLook) × SgMooring × (List Int) × Nat × (List Int) × Nat) ⊕ (Int × Int × SgLook × SgLook × (List SgLook) × SgMooring × (List Int) × Nat × (List Int) × Nat × (List Int) × Nat) ⊕ (Int × Int × SgLook × SgLook × (List SgLook) × SgMooring × (List Int) × Nat × (List Int) × Nat × (List Int) × Nat) ⊕ (Int × Int × SgLook × SgLook × (List SgLook) × SgMooring × (List Int) × Nat × (List Int) × Nat × (List Int) × Nat) ⊕ ((List SgLook) × SgMooring)
abbrev t1 : Type := ((List Point) × Nat × (Nat → Int) × CtBox × (List Point) × Nat × (List SgLook) × Nat × Int × Bool × (List SgLook) × Bool × (List (Nat → Int)) × Bool × Int × SgMooring × SgLook × Int × Int × swing_mooring × SgLook × Point × Point × SgMooring × Int × Bool × (List SgLook) × Bool × (List (Nat → Int)) × Bool × SgMooring × SgLook × CtBox) ⊕ ((Nat → Int) × CtBox × (List SgLook) × Nat × Int × Bool × (List SgLook) × Bool × (List (Nat → Int)) × Bool × Int × SgMooring × SgLook × Int × Int × swing_mooring × SgLook × Point × (List Point) × Nat × SgMooring × Int × Bool × (List SgLook) × Bool × (List (Nat → Int)) × Bool × SgMooring × SgLook × CtBox)
abbrev t0 : Type := ((List Point) × Nat × (Nat → Int) × CtBox × (List Point) × Nat × (List SgLook) × Nat × Int × Bool × (List SgLook) × Bool × (List (Nat → Int)) × Bool × Int × SgMooring × SgLook × Int × Int × swing_mooring × SgLook × Point × Point × SgMooring × Int × Bool × (List SgLook) × Bool × (List (Nat → Int)) × Bool × SgMooring × SgLook × CtBox) ⊕ (Int × Int × (Nat → Int) × CtBox × (List Point) × Nat × (List SgLook) × Nat × Int × Bool × (List SgLook) × Bool × (List (Nat → Int)) × Bool × Int × SgMooring × SgLook × Int × Int × swing_mooring × SgLook × Point × SgMooring × Int × Bool × (List SgLook) × Bool × (List (Nat → Int)) × Bool × SgMooring × SgLook × CtBox)
abbrev vJ : Option (TV S) := some (.int .i64 0)
abbrev vI : Option (TV S) := some (.bool false)
abbrev vH : Option (TV S) := some (.sl (.st 2) [])
abbrev vG : Option (TV S) := some (.sl (.st 10) [])
abbrev oF : Option (TObj S) := some (.row 9 .str [] 0 1)
abbrev oE : Option (TObj S) := some (.row 9 .str [] 0 0)
abbrev vD : Option (TV S) := some (.sl (.int .i64) [])
abbrev vC : Option (TV S) := some (.str ByteArray.empty)
abbrev oB : Option (TObj S) := some (.cells 153 [(.map 4)])
abbrev oA : Option (TObj S) := some (.cells 52 [(.rs 13 0)])
abbrev oz : Option (TObj S) := some (.row 46 (.st 2) [] 0 0)
abbrev oy : Option (TObj S) := some (.row 44 (.st 10) [] 0 0)
abbrev ox : Option (TObj S) := some (.map .str (.int .i64) [])
abbrev ow : Option (TObj S) := some (.cells 3 [(.int .i64 0)])
abbrev ov : Option (TObj S) := some (.siter ByteArray.empty 0)
abbrev ou : Option (TObj S) := some (.cells 33 [(.int .i64 0)])
abbrev ot : Option (TObj S) := some (.row 3 (.int .i64) [] 0 0)
abbrev vs : Option (TV S) := some (.sl (.arr 5 (.int .u64)) [])
abbrev vr : Option (TV S) := some (.agg [(.stc 10 (T.dflt 10))])
abbrev vq : Option (TV S) := some (.agg [(.stc 15 (T.dflt 15))])
abbrev op : Option (TObj S) := some (.cells 32 [(.sl (.st 10) [])])
abbrev vo : Option (TV S) := some (.fn (.func 97) [] [(.ptr 5 0)])
abbrev on : Option (TObj S) := some (.cells 29 [(.stc 6 (T.dflt 6))])
abbrev om : Option (TObj S) := some (.cells 31 [(.stc 9 (T.dflt 9))])
abbrev ol : Option (TObj S) := some (.cells 79 [(.stc 7 (T.dflt 7))])
abbrev ok : Option (TObj S) := some (.cells 25 [(.stc 8 (T.dflt 8))])
abbrev oj : Option (TObj S) := some (.cells 46 [(.stc 2 (T.dflt 2))])
abbrev oi : Option (TObj S) := some (.cells 158 [(.stc 4 (T.dflt 4))])
abbrev vh : Option (TV S) := some (.fn (.func 135) [] [(.ptr 23 0)])
abbrev og : Option (TObj S) := some (.cells 184 [(.stc 3 (T.dflt 3))])
abbrev of : Option (TObj S) := some (.cells 44 [(.stc 10 (T.dflt 10))])
abbrev oe : Option (TObj S) := some (.cells 111 [(.stc 14 (T.dflt 14))])
abbrev od : Option (TObj S) := some (.cells 179 [(.stc 17 (T.dflt 17))])
abbrev oc : Option (TObj S) := some (.cells 147 [(.stc 15 (T.dflt 15))])
abbrev vb : Option (TV S) := some (.agg [(.int .i64 0), (.int .i64 0)])
abbrev oa : Option (TObj S) := some (.cells 112 [(.sl (.arr 5 (.int .u64)) [])])
abbrev o9 : Option (TObj S) := some (.cells 109 [(.arr (.int .u64) 5 (fun _ => tdf T (.int .u64)))])
abbrev o8 : Option (TObj S) := some (.cells 111 [.nils, .nils, (.int .i64 0), (.int .i64 0), (.int .i64 0), (.int .i64 0), (.int .i64 0), (.int .i64 0), (.int .i64 0), (.arr (.int .u64) 5 (fun _ => tdf T (.int .u64)))])
abbrev o7 : Option (TObj S) := some (.loop 76 (N (N (N L (some (.ptr 4 0)) L) (some (.ptr 0 0)) (N (N L (some (.fn (.func 108) [] [(.ptr 9 0)])) L) none L)) (some (.agg [(.stc 9 (T.dflt 9))])) (N L (some (.ptr 1 0)) L)) (10 :: (11 :: [])) .skip .skip 0 .normal (0 :: (76 :: [])) (0 :: (1 :: (0 :: (1 :: (1 :: []))))))
abbrev o6 : Option (TObj S) := some (.loop 107 (N (N (N L (some (.ptr 1 0)) L) vr L) (some (.agg [(.stc 14 (T.dflt 14))])) (N (N L (some (.ptr 2 0)) (N L (some (.fn (.func 108) [] [(.ptr 7 0)])) L)) (some (.ptr 0 0)) L)) (13 :: (14 :: [])) .skip .skip 0 .busy (0 :: (107 :: [])) (0 :: (1 :: (0 :: (1 :: [])))))
abbrev o5 : Option (TObj S) := some (.loop 107 (N (N (N L (some (.ptr 1 0)) L) vr L) (some (.agg [(.stc 14 (T.dflt 14))])) (N (N L (some (.ptr 2 0)) (N L (some (.fn (.func 108) [] [(.ptr 7 0)])) L)) (some (.ptr 0 0)) L)) (13 :: (14 :: [])) .skip .skip 0 .normal (0 :: (107 :: [])) (0 :: (1 :: (0 :: (1 :: [])))))
abbrev o4 : Option (TObj S) := some (.loop 21 (N (N (N (N L vs L) none (N (N L vI L) none (N L (some (.fn (.func 108) [] [(.ptr 25 0)])) L))) vG (N L vJ L)) (some (.agg [(.stc 9 (T.dflt 9))])) (N (N (N L (some (.ptr 20 0)) L) (some (.ptr 1 0)) L) (some (.ptr 0 0)) (N L (some (.ptr 10 0)) L))) (28 :: (29 :: [])) .skip .skip 0 .normal (0 :: (21 :: [])) (0 :: (1 :: (0 :: (1 :: (1 :: (1 :: (1 :: []))))))))
abbrev o3 : Option (TObj S) := some (.loop 107 (N (N (N L (some (.ptr 1 0)) L) vr (N (N (N L (some (.fn (.func 108) [] [(.ptr 45 0)])) L) none L) (some (.ptr 38 0)) (N L vJ L))) (some (.agg [(.stc 14 (T.dflt 14))])) (N (N L (some (.ptr 2 0)) (N L (some (.fn (.func 108) [] [(.ptr 7 0)])) L)) (some (.ptr 0 0)) (N L (some (.ptr 40 0)) (N L vb L)))) (18 :: (19 :: [])) .skip .skip 2 .normal (2 :: (11 :: (5 :: (7 :: (108 :: (0 :: (107 :: []))))))) (0 :: (1 :: (0 :: (1 :: (0 :: (1 :: (0 :: (1 :: [])))))))))
abbrev o2 : Option (TObj S) := some (.loop 34 (N (N (N (N L vJ (N L vI L)) (some (.ptr 0 0)) L) vG (N (N (N (N L vI L) none L) vs (N (N L vI L) none L)) (some (.ptr 1 0)) L)) (some (.agg [(.stc 9 (T.dflt 9))])) (N (N (N L (some (.ptr 11 0)) L) none (N L none (N (N L (some (.fn (.func 108) [] [(.ptr 39 0)])) L) none L))) vr (N (N L (some (.ptr 31 0)) L) (some (.ptr 2 0)) L))) (45 :: (46 :: [])) .skip .skip 0 .busy (0 :: (34 :: [])) (0 :: (1 :: (0 :: (1 :: (1 :: (1 :: (1 :: (1 :: (1 :: []))))))))))
abbrev o1 : Option (TObj S) := some (.loop 34 (N (N (N (N L vJ (N L vI L)) (some (.ptr 0 0)) L) vG (N (N (N (N L vI L) none L) vs (N (N L vI L) none L)) (some (.ptr 1 0)) L)) (some (.agg [(.stc 9 (T.dflt 9))])) (N (N (N L (some (.ptr 11 0)) L) none (N L none (N (N L (some (.fn (.func 108) [] [(.ptr 39 0)])) L) none L))) vr (N (N L (some (.ptr 31 0)) L) (some (.ptr 2 0)) L))) (45 :: (46 :: [])) .skip .skip 0 .normal (0 :: (34 :: [])) (0 :: (1 :: (0 :: (1 :: (1 :: (1 :: (1 :: (1 :: (1 :: []))))))))))
abbrev o0 : Option (TObj S) := some (.loop 34 (N (N (N (N L vJ (N L vI L)) (some (.ptr 0 0)) L) vG (N (N (N (N L vI L) none (N L (some (.fn (.func 108) [] [(.ptr 78 0)])) L)) vs (N (N L vI L) none L)) (some (.ptr 1 0)) (N L none (N (N L vJ L) none L)))) (some (.agg [(.stc 9 (T.dflt 9))])) (N (N (N L (some (.ptr 11 0)) L) none (N L (some (.ptr 73 0)) (N (N L (some (.fn (.func 108) [] [(.ptr 39 0)])) L) none L))) vr (N (N L (some (.ptr 31 0)) L) (some (.ptr 2 0)) (N L none (N (N L vb L) none L))))) (50 :: (51 :: [])) .skip .skip 2 .normal (2 :: (44 :: (5 :: (7 :: (108 :: (0 :: (34 :: []))))))) (0 :: (1 :: (0 :: (1 :: (0 :: (1 :: (0 :: (1 :: (1 :: (1 :: (1 :: (1 :: (1 :: []))))))))))))))
abbrev o1w : Tr (TObj S) := N L none (N L none (N L o9 L))
abbrev o1v : Tr (TObj S) := N (N L none (N L ot L)) none L
abbrev o1u : Tr (TObj S) := N L none (N (N L oE L) none L)
abbrev v1t : Tr (TV S) := N (N L none (N L vJ L)) none L
abbrev o1s : Tr (TObj S) := N (N (N L ot L) none L) none L
abbrev v1r : Tr (TV S) := N L none (N (N L vJ L) none L)
abbrev v1q : Tr (TV S) := N (N (N L vJ L) none L) none L
abbrev o1p : Tr (TObj S) := N (N (N L ov L) none L) none L
abbrev v1o : Tr (TV S) := N (N L (some (.ptr 2 0)) L) none L
abbrev o1n : Tr (TObj S) := N L none (N (N (N L o9 L) oe L) none L)
abbrev v1m : Tr (TV S) := N v1q none L
abbrev v1l : Tr (TV S) := N (N (N L vJ L) none L) none (N (N L vJ L) vJ L)
abbrev o1k : Tr (TObj S) := N (N L none (N L oB L)) ok (N (N L ox L) none L)
abbrev v1j : Tr (TV S) := N (N L none (N L vJ L)) none (N (N L vJ L) none L)
abbrev v1i : Tr (TV S) := N (N L vs L) none (N L (some (.ptr 28 0)) (N L vJ L))
abbrev o1h : Tr (TObj S) := N (N L oa (N L none (N L ot L))) oe (N L oA (N L o9 L))
abbrev o1g : Tr (TObj S) := N (N (N (N L on L) none (N L o5 L)) of L) oe (N L o9 L)
abbrev o1f : Tr (TObj S) := N (N L o8 (N (N L on L) none (N L o7 L))) om (N (N L oe L) none L)
abbrev o1e : Tr (TObj S) := N (N L none (N L oB (N (N L oi L) none L))) ok (N (N L ox L) none L)
abbrev o1d : Tr (TObj S) := N (N (N (N (N L of L) none L) none (N (N L of L) none L)) none L) op L
abbrev v1c : Tr (TV S) := N (N (N L vJ L) (some (.ptr 7 0)) L) (some (.yld 11)) (N (N L vJ L) none L)
abbrev v1b : Tr (TV S) := N (N (N L vJ L) (some (.ptr 9 0)) L) (some (.yld 13)) (N (N L vJ L) none L)
abbrev v1a : Tr (TV S) := N (N (N L vJ L) (some (.ptr 39 0)) L) (some (.yld 44)) (N (N L vJ L) none L)
abbrev v19 : Tr (TV S) := N (N (N L vJ L) (some (.ptr 78 0)) L) (some (.yld 83)) (N (N L vJ L) none L)
abbrev v18 : Tr (TV S) := N (N (N L vJ L) (some (.ptr 25 0)) L) (some (.yld 30)) (N (N L vJ L) none L)
abbrev v17 : Tr (TV S) := N (N (N L vJ L) (some (.ptr 45 0)) L) (some (.yld 49)) (N (N L vJ L) none L)
abbrev o16 : Tr (TObj S) := N (N L none (N L oB L)) ok (N (N L ox L) none (N L none (N L none (N L ol L))))
abbrev o15 : Tr (TObj S) := N (N L none (N L none (N (N L ot L) none L))) om (N L none (N (N L oe L) none L))
abbrev o14 : Tr (TObj S) := N (N (N L none (N (N L (some (.row 109 (.arr 5 (.int .u64)) [] 0 0)) L) none L)) oe L) om L
abbrev o13 : Tr (TObj S) := N (N (N L none o1u) none (N L none (N (N L oF L) none L))) ok L
abbrev o12 : Tr (TObj S) := N (N L none (N L oB (N (N L oi L) none L))) ok (N (N L ox L) none (N (N (N L none (N L oz L)) none L) none L))
abbrev o11 : Tr (TObj S) := N (N (N L ot L) none (N L none (N (N L ot L) none L))) none (N (N (N (N L ot L) none L) none (N L og L)) none L)
abbrev o10 : Tr (TObj S) := N (N L (some (.cells 67 [(.stc 12 (T.dflt 12))])) (N (N L oj L) none (N L oz L))) om (N (N L none (N L oy L)) none L)
abbrev oZ : Tr (TObj S) := N (N (N (N (N (N L oE L) none L) none L) none L) none (N L none (N (N L oi L) none L))) ok (N L none (N (N L oF L) none L))
abbrev oY : Tr (TObj S) := N (N L none (N o1s none L)) om (N o1w none (N (N (N (N L ot L) none L) oe L) none L))
abbrev vX : Tr (TV S) := N (N (N (N L vs L) none (N L none (N L vJ L))) none L) none (N (N (N L vI L) (some (.rs 33 0)) L) none (N (N L none (N L vJ L)) (some (.ptr 10 0)) L))
abbrev oW : Tr (TObj S) := N (N L (some (.cells 37 [(.rs 36 0)])) (N (N L none (N L on L)) none L)) om (N (N L none (N (N (N L oz L) o9 L) none L)) none (N (N L oe L) none (N L none (N L o4 L))))
abbrev oV : Tr (TObj S) := N (N L (some (.cells 37 [(.rs 46 0)])) (N (N L none (N L on L)) none L)) om (N (N L none (N (N L o9 L) none L)) none (N (N L oe L) none (N L none (N (N L oz L) o4 L))))
abbrev oU : Tr (TObj S) := N (N (N L oj L) of (N L none o1v)) oe (N (N (N (N L oj L) none (N (N L ot L) none L)) none (N L none o1s)) oj L)
abbrev oT : Tr (TObj S) := N (N (N (N (N (N L o9 L) none L) none (N (N L on L) none L)) none (N (N L oy L) oe L)) of L) om (N (N L none (N L none (N (N L o1 L) none (N L oz L)))) (some (.cells 37 [(.rs 60 0)])) L)
abbrev oS : Tr (TObj S) := N o1d om (N (N (N L none (N L none (N L ot L))) none L) none (N o1v none (N L none (N L none (N L ot L)))))
abbrev oR : Tr (TObj S) := N (N (N (N L on L) none (N L o6 L)) of (N (N (N L none (N L o3 L)) none L) none (N L none (N (N L on L) none L)))) oe (N (N (N L none (N (N L oj L) none L)) none L) o9 (N L none (N (N (N L ow L) none L) none L)))
abbrev oQ : Tr (TObj S) := N (N (N (N (N (N L o9 L) none L) none (N (N L on L) none L)) none (N (N L oy L) oe L)) of L) om (N (N L none (N L none (N (N L o1 L) none L))) (some (.cells 37 [(.rs 50 0)])) (N (N (N L none (N L oz L)) none L) none L))
abbrev oP : Tr (TObj S) := N (N (N (N (N (N L o9 L) none L) none (N (N L on L) none L)) none (N (N L oy (N (N L o0 L) none L)) oe L)) of (N (N L none (N (N (N L oj L) none L) none (N (N L oz L) none L))) none L)) om (N (N L none (N L none (N (N L o2 L) none L))) (some (.cells 37 [(.rs 89 0)])) (N L none (N L none (N (N (N L on L) none L) none L))))
abbrev oO : Tr (TObj S) := N (N (N (N (N (N L o9 L) none L) none (N (N L on L) none L)) none (N (N (N L none (N L oz L)) oy (N (N L o0 L) none L)) oe L)) of (N (N L none (N (N (N L oj L) none L) none L)) none L)) om (N (N L none (N L none (N (N L o2 L) none L))) (some (.cells 37 [(.rs 99 0)])) (N L none (N L none (N (N (N L on L) none L) none L))))
abbrev oN : Tr (TObj S) := N (N (N (N L none (N L oc L)) none (N L none (N L (some (.loop 101 (N (N (N (N (N L vI L) none L) vJ L) (some (.ptr 0 0)) (N (N L none (N L vI L)) none L)) vq (N (N (N L vI L) none (N L none (N L vh L))) (some (.ptr 1 0)) L)) (29 :: []) .skip .skip 1 .normal (1 :: (101 :: [])) (0 :: (1 :: (0 :: (1 :: (1 :: (1 :: [])))))))) L))) ou L) oc (N L none (N L ot (N (N (N L oj L) none L) none L)))
abbrev oM : Tr (TObj S) := N (N (N (N L none (N L oc L)) none (N L none (N L (some (.loop 101 (N (N (N (N (N L vI L) none L) vJ L) (some (.ptr 0 0)) (N (N L none (N L vI L)) none L)) vq (N (N (N L vI L) none (N L none (N L vh L))) (some (.ptr 1 0)) L)) (29 :: []) .skip .skip 1 .busy (1 :: (101 :: [])) (0 :: (1 :: (0 :: (1 :: (1 :: (1 :: [])))))))) L))) ou L) oc (N (N (N (N L none (N L oj L)) none L) none L) none (N (N L none (N L none (N L od L))) ot (N (N (N L oj L) none L) none L)))
abbrev oL : Tr (TObj S) := N (N (N (N L on L) none (N L o6 L)) of (N (N (N L none (N L (some (.loop 107 (N (N (N L (some (.ptr 1 0)) L) vr (N (N (N L (some (.fn (.func 108) [] [(.ptr 45 0)])) L) none L) (some (.ptr 38 0)) (N L vJ L))) (some (.agg [(.stc 14 (T.dflt 14))])) (N (N L (some (.ptr 2 0)) (N L (some (.fn (.func 108) [] [(.ptr 7 0)])) L)) (some (.ptr 0 0)) (N L (some (.ptr 40 0)) (N L vb L)))) (18 :: (19 :: [])) .skip .skip 2 (.exit 2) (2 :: (11 :: (5 :: (7 :: (108 :: (0 :: (107 :: []))))))) (0 :: (1 :: (0 :: (1 :: (0 :: (1 :: (0 :: (1 :: [])))))))))) L)) none L) none (N L none (N (N L on L) none L)))) oe (N (N (N L none (N (N L oj L) none L)) none (N L none (N (N (N L oj L) none L) none L))) o9 (N L none (N (N (N L ow L) none L) none L)))
abbrev oK : Tr (TObj S) := N (N (N (N (N (N (N (N L oz L) none L) o9 L) none L) none (N (N L on L) none L)) none (N (N (N L none (N L (some (.row 46 (.st 2) [] 0 1)) L)) oy (N (N L (some (.loop 34 (N (N (N (N L vJ (N L vI L)) (some (.ptr 0 0)) L) vG (N (N (N (N L vI L) none (N L (some (.fn (.func 108) [] [(.ptr 78 0)])) L)) vs (N (N L vI L) none L)) (some (.ptr 1 0)) v1r)) (some (.agg [(.stc 9 (T.dflt 9))])) (N (N (N L (some (.ptr 11 0)) L) none (N L (some (.ptr 73 0)) (N (N L (some (.fn (.func 108) [] [(.ptr 39 0)])) L) none L))) vr (N (N L (some (.ptr 31 0)) L) (some (.ptr 2 0)) (N L none (N (N L vb L) none L))))) (50 :: (51 :: [])) .skip .skip 2 (.exit 2) (2 :: (44 :: (5 :: (7 :: (108 :: (0 :: (34 :: []))))))) (0 :: (1 :: (0 :: (1 :: (0 :: (1 :: (0 :: (1 :: (1 :: (1 :: (1 :: (1 :: (1 :: []))))))))))))))) L) none L)) oe L)) of (N (N (N L none (N L none (N L oj L))) none (N (N (N L oj L) none L) none L)) none L)) om (N (N L none (N L none (N (N L o2 L) none L))) (some (.cells 37 [(.rs 99 1)])) (N L none (N L none (N (N (N L on L) none L) none L))))
noncomputable def q0 : List (Nat × F7 S) := []
theorem q1 : TabOk X (q0) := trivial
abbrev q2 {R : Type} : Loops S R := noLoops
theorem q3 {R : Type} : LoopsOk X (q2 (R := R)) := noLoops_ok X
def q4 : Key := ⟨[98], 98, none, [0, 0, 1, 0, 1, 1], 0, 4⟩
def q5 : StT S := ⟨(N (N (N (N L (some (.iter 3)) L) (some (.int .i32 0)) L) none L) vC L), o1p, 4⟩
def q6 : Way S := ⟨.ret, ⟨(N L none (N L vI L)), o1p, 23⟩, [.bool, .str, .nat]⟩
def q7 : Way S := ⟨(.exit 0), ⟨(N (N (N L (some (.int .i32 0)) L) none L) vC L), o1p, 6⟩, [.int, .str, .str, .nat]⟩
def q8 : LE S := ⟨q4, q5, [.int, .str, .str, .nat], [q6, q7]⟩
def q9 (x : t11) : ((Bool × Nat) ⊕ (Int × Nat)) → tJ := Sum.elim (fun y0 => (.inl (y0.1, x.2.2.1, y0.2))) (fun y1 => (.inr (y1.1, x.2.1, x.2.2.1, y1.2)))
noncomputable def qa {R : Type} (x : t11) (k : tJ → Option R) : Option R := (chart_Name_L0_run x.2.1 x.2.2.1 (x.1, x.2.2.2)).bind (Sum.elim (fun y0 => k (.inl (y0.1, x.2.2.1, y0.2))) (fun y1 => k (.inr (y1.1, x.2.1, x.2.2.1, y1.2))))
def qb (x : t11) (v : (Int × Nat)) : t11 := (v.1, x.2.1, x.2.2.1, v.2)
theorem qc (x : t11) : LE.step X q8 q0 q2 12 x = chart_Name_L0_step x.2.1 x.2.2.1 x.1 x.2.2.2 (fun w0 w1 => (Sum.inl (w0, x.2.1, x.2.2.1, w1))) (fun p0 p1 => (Sum.inr (.inl (p0, x.2.2.1, p1)))) (fun p0 p1 => (Sum.inr (.inr (p0, x.2.1, x.2.2.1, p1)))):=by kernel_rfl
theorem qe {R : Type} (x : t11) (k : tJ → Option R) (r : R) (h : qa x k = some r) : ∃ o, Runs (LE.step X q8 q0 q2 12) x o ∧ k o = some r := by
  obtain ⟨o, h1, h2⟩ := some_bind h
  exact ⟨q9 x o, small_ok (st := fun (x : t11) => chart_Name_L0_st x.2.1 x.2.2.1) (prj := fun x => (x.1, x.2.2.2)) (emb := qb) (embO := q9) (fun x => (qc x).trans (by unfold chart_Name_L0_st chart_Name_L0_step; simp only [map_cond,map_bindO,map_elim,Option.map_some,Option.map_none]; rfl)) (fun _ _ => rfl) (fun _ _ => rfl) (fun _ _ _ => rfl) (fun _ _ _ => rfl) (fun _ => rfl) (runOf_some.1 h1), by
    first
    | exact h2
    | (rcases o with o | o <;> exact h2)⟩
noncomputable def qf {R : Type} : Loops S R := LE.ls X q8 qa q2
theorem qg {R : Type} : LoopsOk X (qf (R := R)) := loop_ok xok q1 (e := q8) q3 qe q3
theorem qh (x0 : ByteArray) : evFn X q0 [.str] [.bool] qf 12 98 (x0, ()) = chart_Name x0:=by kernel_rfl
noncomputable def qi : F7 S := ⟨[.str], [.bool], fun xs => chart_Name xs.1⟩
theorem qj : FSOk X 98 qi := fsOk_eq (evFn_ok xok q1 qg 12 98) fun xs _ h => (qh xs.1).trans h
noncomputable def qk : List (Nat × F7 S) := []
theorem ql : TabOk X (qk) := trivial
abbrev qm {R : Type} : Loops S R := noLoops
theorem qn {R : Type} : LoopsOk X (qm (R := R)) := noLoops_ok X
def qo : Key := ⟨[127, 2, 1, 102, 2, 1, 124], 127, none, [0, 0, 1, 0, 1], 0, 17⟩
def qp : StT S := ⟨(N (N (N (N L vJ L) none L) (some (.fn (.func 138) [] [(.ptr 0 0), (.ptr 1 0)])) L) vD v1q), (N (N L ow L) ow L), 17⟩
def qq : Way S := ⟨.ret, ⟨v1r, (N (N L ow L) ow L), 38⟩, [.int, .int, .int]⟩
def qr : Way S := ⟨(.exit 0), ⟨L, (N (N L ow L) ow L), 18⟩, [.int, .int]⟩
def qs : LE S := ⟨qo, qp, [.int, (.lst (.int .i64)), .int, .int, .int], [qq, qr]⟩
def qt (x : tZ) : (Int ⊕ Unit) → t12 := Sum.elim (fun y0 => (.inl (y0, x.2.2.2.1, x.2.2.2.2))) (fun y1 => (.inr (x.2.2.2.1, x.2.2.2.2)))
noncomputable def qu {R : Type} (x : tZ) (k : t12 → Option R) : Option R := (chart_out_L0_run x.1 x.2.1 x.2.2.2.1 x.2.2.2.2 x.2.2.1).bind (Sum.elim (fun y0 => k (.inl (y0, x.2.2.2.1, x.2.2.2.2))) (fun y1 => k (.inr (x.2.2.2.1, x.2.2.2.2))))
def qv (x : tZ) (v : Int) : tZ := (x.1, x.2.1, v, x.2.2.2.1, x.2.2.2.2)
theorem qw (x : tZ) : LE.step X qs qk qm 12 x = chart_out_L0_step x.1 x.2.1 x.2.2.2.1 x.2.2.2.2 x.2.2.1 (fun w0 => (Sum.inl (x.1, x.2.1, w0, x.2.2.2.1, x.2.2.2.2))) (fun p0 => (Sum.inr (.inl (p0, x.2.2.2.1, x.2.2.2.2)))) (Sum.inr (.inr (x.2.2.2.1, x.2.2.2.2))):=by kernel_rfl
theorem qy {R : Type} (x : tZ) (k : t12 → Option R) (r : R) (h : qu x k = some r) : ∃ o, Runs (LE.step X qs qk qm 12) x o ∧ k o = some r := by
  obtain ⟨o, h1, h2⟩ := some_bind h
  exact ⟨qt x o, small_ok (st := fun (x : tZ) => chart_out_L0_st x.1 x.2.1 x.2.2.2.1 x.2.2.2.2) (prj := fun x => x.2.2.1) (emb := qv) (embO := qt) (fun x => (qw x).trans (by unfold chart_out_L0_st chart_out_L0_step; simp only [map_cond,map_bindO,map_elim,Option.map_some,Option.map_none]; rfl)) (fun _ _ => rfl) (fun _ _ => rfl) (fun _ _ _ => rfl) (fun _ _ _ => rfl) (fun _ => rfl) (runOf_some.1 h1), by
    first
    | exact h2
    | (rcases o with o | o <;> exact h2)⟩
noncomputable def qz {R : Type} : Loops S R := LE.ls X qs qu qm
theorem qA {R : Type} : LoopsOk X (qz (R := R)) := loop_ok xok ql (e := qs) qn qy qn
theorem qB (x0 : Int) (x1 : Int) (x2 : List Int) : evFn X qk [(.int .i64), (.int .i64), (.sl (.int .i64))] [.bool] qz 12 124 (x0, x1, x2, ()) = chart_out x0 x1 x2:=by kernel_rfl
noncomputable def qC : F7 S := ⟨[(.int .i64), (.int .i64), (.sl (.int .i64))], [.bool], fun xs => chart_out xs.1 xs.2.1 xs.2.2.1⟩
theorem qD : FSOk X 124 qC := fsOk_eq (evFn_ok xok ql qA 12 124) fun xs _ h => (qB xs.1 xs.2.1 xs.2.2.1).trans h
noncomputable def qE : List (Nat × F7 S) := [(124, qC)]
theorem qF : TabOk X (qE) := ⟨qD, trivial⟩
abbrev qG {R : Type} : Loops S R := noLoops
theorem qH {R : Type} : LoopsOk X (qG (R := R)) := noLoops_ok X
def qI : Key := ⟨[137, 2, 1, 122, 2, 1, 99], 137, none, [0, 0, 1, 0, 1], 0, 16⟩
def qJ : StT S := ⟨(N (N (N (N L vJ L) none L) (some (.fn (.func 123) [] [(.ptr 0 0)])) L) vH v1q), (N L ow L), 16⟩
def qK : Way S := ⟨.ret, ⟨v1r, (N (N L none (N (N L none (N L oj L)) none L)) ow (N L none (N o1s none L))), 39⟩, [.int, (.st 2), .int, (.lst (.int .i64)), .nat]⟩
def qL : Way S := ⟨(.exit 0), ⟨L, (N L ow L), 17⟩, [.int]⟩
def qM : LE S := ⟨qI, qJ, [.int, (.lst (.st 2)), .int, .int], [qK, qL]⟩
def qN (x : t13) : ((Int × Point × (List Int) × Nat) ⊕ Unit) → tT := Sum.elim (fun y0 => (.inl (y0.1, y0.2.1, x.2.2.2, y0.2.2.1, y0.2.2.2))) (fun y1 => (.inr x.2.2.2))
noncomputable def qO {R : Type} (x : t13) (k : tT → Option R) : Option R := (chart_far_L0_run x.1 x.2.1 x.2.2.2 x.2.2.1).bind (Sum.elim (fun y0 => k (.inl (y0.1, y0.2.1, x.2.2.2, y0.2.2.1, y0.2.2.2))) (fun y1 => k (.inr x.2.2.2)))
def qP (x : t13) (v : Int) : t13 := (x.1, x.2.1, v, x.2.2.2)
theorem qQ (x : t13) : LE.step X qM qE qG 12 x = chart_far_L0_step x.1 x.2.1 x.2.2.2 x.2.2.1 (fun w0 => (Sum.inl (x.1, x.2.1, w0, x.2.2.2))) (fun p0 p1 p2 p3 => (Sum.inr (.inl (p0, p1, x.2.2.2, p2, p3)))) (Sum.inr (.inr x.2.2.2)):=by kernel_rfl
theorem qS {R : Type} (x : t13) (k : tT → Option R) (r : R) (h : qO x k = some r) : ∃ o, Runs (LE.step X qM qE qG 12) x o ∧ k o = some r := by
  obtain ⟨o, h1, h2⟩ := some_bind h
  exact ⟨qN x o, small_ok (st := fun (x : t13) => chart_far_L0_st x.1 x.2.1 x.2.2.2) (prj := fun x => x.2.2.1) (emb := qP) (embO := qN) (fun x => (qQ x).trans (by unfold chart_far_L0_st chart_far_L0_step; simp only [map_cond,map_bindO,map_elim,Option.map_some,Option.map_none]; rfl)) (fun _ _ => rfl) (fun _ _ => rfl) (fun _ _ _ => rfl) (fun _ _ _ => rfl) (fun _ => rfl) (runOf_some.1 h1), by
    first
    | exact h2
    | (rcases o with o | o <;> exact h2)⟩
noncomputable def qT {R : Type} : Loops S R := LE.ls X qM qO qG
theorem qU {R : Type} : LoopsOk X (qT (R := R)) := loop_ok xok qF (e := qM) qH qS qH
theorem qV (x0 : Int) (x1 : List Point) : evFn X qE [(.int .i64), (.sl (.st 2))] [.bool] qT 12 99 (x0, x1, ()) = chart_far x0 x1:=by kernel_rfl
noncomputable def qW : F7 S := ⟨[(.int .i64), (.sl (.st 2))], [.bool], fun xs => chart_far xs.1 xs.2.1⟩
theorem qX : FSOk X 99 qW := fsOk_eq (evFn_ok xok qF qU 12 99) fun xs _ h => (qV xs.1 xs.2.1).trans h
noncomputable def qY : List (Nat × F7 S) := [(124, qC)]
theorem qZ : TabOk X (qY) := ⟨qD, trivial⟩
abbrev q10 {R : Type} : Loops S R := noLoops
theorem q11 {R : Type} : LoopsOk X (q10 (R := R)) := noLoops_ok X
def q12 : Key := ⟨[100], 100, none, [0, 0, 1, 0, 1, 1, 1], 0, 9⟩
def q13 : StT S := ⟨(N (N (N L vJ (N L vJ L)) none L) none (N (N L none (N L vJ L)) none (N (N L (some (.sl (.st 3) [])) L) none L))), o1s, 9⟩
def q14 : Way S := ⟨.ret, ⟨(N L none (N L vJ L)), (N (N (N L ot L) none L) none (N (N (N (N L ot L) none L) none (N L og L)) none L)), 26⟩, [.int, (.lst (.int .i64)), .nat, (.lst (.int .i64)), .nat, (.st 3)]⟩
def q15 : Way S := ⟨.ret, ⟨(N L none (N L vJ L)), o11, 26⟩, [.int, (.lst (.int .i64)), .nat, (.lst (.int .i64)), .nat, (.lst (.int .i64)), .nat, (.st 3)]⟩
def q16 : Way S := ⟨.ret, ⟨(N L none (N L vJ L)), o11, 31⟩, [.int, (.lst (.int .i64)), .nat, (.lst (.int .i64)), .nat, (.lst (.int .i64)), .nat, (.st 3)]⟩
def q17 : Way S := ⟨(.exit 0), ⟨L, o1s, 10⟩, [(.lst (.int .i64)), .nat]⟩
def q18 : LE S := ⟨q12, q13, [.int, .int, .int, (.lst (.st 3)), (.lst (.int .i64)), .nat], [q14, q15, q16, q17]⟩
def q19 (x : tQ) : ((Int × (List Int) × Nat × CtPaint) ⊕ (Int × (List Int) × Nat × (List Int) × Nat × CtPaint) ⊕ (Int × (List Int) × Nat × (List Int) × Nat × CtPaint) ⊕ Unit) → tc := Sum.elim (fun y0 => (.inl (y0.1, x.2.2.2.2.1, x.2.2.2.2.2, y0.2.1, y0.2.2.1, y0.2.2.2))) (Sum.elim (fun y1 => (.inr (.inl (y1.1, x.2.2.2.2.1, x.2.2.2.2.2, y1.2.1, y1.2.2.1, y1.2.2.2.1, y1.2.2.2.2.1, y1.2.2.2.2.2)))) (Sum.elim (fun y2 => (.inr (.inr (.inl (y2.1, x.2.2.2.2.1, x.2.2.2.2.2, y2.2.1, y2.2.2.1, y2.2.2.2.1, y2.2.2.2.2.1, y2.2.2.2.2.2))))) (fun y3 => (.inr (.inr (.inr (x.2.2.2.2.1, x.2.2.2.2.2)))))))
noncomputable def q1a {R : Type} (x : tQ) (k : tc → Option R) : Option R := (chart_paints_L0_run x.2.1 x.2.2.2.1 x.2.2.2.2.1 x.2.2.2.2.2 (x.1, x.2.2.1)).bind (Sum.elim (fun y0 => k (.inl (y0.1, x.2.2.2.2.1, x.2.2.2.2.2, y0.2.1, y0.2.2.1, y0.2.2.2))) (Sum.elim (fun y1 => k (.inr (.inl (y1.1, x.2.2.2.2.1, x.2.2.2.2.2, y1.2.1, y1.2.2.1, y1.2.2.2.1, y1.2.2.2.2.1, y1.2.2.2.2.2)))) (Sum.elim (fun y2 => k (.inr (.inr (.inl (y2.1, x.2.2.2.2.1, x.2.2.2.2.2, y2.2.1, y2.2.2.1, y2.2.2.2.1, y2.2.2.2.2.1, y2.2.2.2.2.2))))) (fun y3 => k (.inr (.inr (.inr (x.2.2.2.2.1, x.2.2.2.2.2))))))))
def q1b (x : tQ) (v : (Int × Int)) : tQ := (v.1, x.2.1, v.2, x.2.2.2.1, x.2.2.2.2.1, x.2.2.2.2.2)
theorem q1c (x : tQ) : LE.step X q18 qY q10 12 x = chart_paints_L0_step x.2.1 x.2.2.2.1 x.2.2.2.2.1 x.2.2.2.2.2 x.1 x.2.2.1 (fun w0 w1 => (Sum.inl (w0, x.2.1, w1, x.2.2.2.1, x.2.2.2.2.1, x.2.2.2.2.2))) (fun p0 p1 p2 p3 => (Sum.inr (.inl (p0, x.2.2.2.2.1, x.2.2.2.2.2, p1, p2, p3)))) (fun p0 p1 p2 p3 p4 p5 => (Sum.inr (.inr (.inl (p0, x.2.2.2.2.1, x.2.2.2.2.2, p1, p2, p3, p4, p5))))) (fun p0 p1 p2 p3 p4 p5 => (Sum.inr (.inr (.inr (.inl (p0, x.2.2.2.2.1, x.2.2.2.2.2, p1, p2, p3, p4, p5)))))) (Sum.inr (.inr (.inr (.inr (x.2.2.2.2.1, x.2.2.2.2.2))))):=by kernel_rfl
theorem q1e {R : Type} (x : tQ) (k : tc → Option R) (r : R) (h : q1a x k = some r) : ∃ o, Runs (LE.step X q18 qY q10 12) x o ∧ k o = some r := by
  obtain ⟨o, h1, h2⟩ := some_bind h
  exact ⟨q19 x o, small_ok (st := fun (x : tQ) => chart_paints_L0_st x.2.1 x.2.2.2.1 x.2.2.2.2.1 x.2.2.2.2.2) (prj := fun x => (x.1, x.2.2.1)) (emb := q1b) (embO := q19) (fun x => (q1c x).trans (by unfold chart_paints_L0_st chart_paints_L0_step; simp only [map_cond,map_bindO,map_elim,Option.map_some,Option.map_none]; rfl)) (fun _ _ => rfl) (fun _ _ => rfl) (fun _ _ _ => rfl) (fun _ _ _ => rfl) (fun _ => rfl) (runOf_some.1 h1), by
    first
    | exact h2
    | (rcases o with o | o | o | o <;> exact h2)⟩
noncomputable def q1f {R : Type} : Loops S R := LE.ls X q18 q1a q10
theorem q1g {R : Type} : LoopsOk X (q1f (R := R)) := loop_ok xok qZ (e := q18) q11 q1e q11
theorem q1h (x0 : List CtPaint) : evFn X qY [(.sl (.st 3))] [(.int .i64)] q1f 12 100 (x0, ()) = chart_paints x0:=by kernel_rfl
noncomputable def q1i : F7 S := ⟨[(.sl (.st 3))], [(.int .i64)], fun xs => chart_paints xs.1⟩
theorem q1j : FSOk X 100 q1i := fsOk_eq (evFn_ok xok qZ q1g 12 100) fun xs _ h => (q1h xs.1).trans h
noncomputable def q1k : List (Nat × F7 S) := [(124, qC)]
theorem q1l : TabOk X (q1k) := ⟨qD, trivial⟩
abbrev q1m {R : Type} : Loops S R := noLoops
theorem q1n {R : Type} : LoopsOk X (q1m (R := R)) := noLoops_ok X
theorem q1o (x0 : CtBox) (x1 : Int) : evFn X q1k [(.st 6), (.int .i64)] [(.int .i64)] q1m 12 125 (x0, x1, ()) = chart_box x0 x1:=by kernel_rfl
noncomputable def q1p : F7 S := ⟨[(.st 6), (.int .i64)], [(.int .i64)], fun xs => chart_box xs.1 xs.2.1⟩
theorem q1q : FSOk X 125 q1p := fsOk_eq (evFn_ok xok q1l q1n 12 125) fun xs _ h => (q1o xs.1 xs.2.1).trans h
noncomputable def q1r : List (Nat × F7 S) := []
theorem q1s : TabOk X (q1r) := trivial
abbrev q1t {R : Type} : Loops S R := noLoops
theorem q1u {R : Type} : LoopsOk X (q1t (R := R)) := noLoops_ok X
theorem q1v (x0 : Point) (x1 : Point) : evFn X q1r [(.st 2), (.st 2)] [(.st 2)] q1t 12 120 (x0, x1, ()) = chart_from x0 x1:=by kernel_rfl
noncomputable def q1w : F7 S := ⟨[(.st 2), (.st 2)], [(.st 2)], fun xs => chart_from xs.1 xs.2.1⟩
theorem q1x : FSOk X 120 q1w := fsOk_eq (evFn_ok xok q1s q1u 12 120) fun xs _ h => (q1v xs.1 xs.2.1).trans h
noncomputable def q1y : List (Nat × F7 S) := []
theorem q1z : TabOk X (q1y) := trivial
abbrev q1A {R : Type} : Loops S R := noLoops
theorem q1B {R : Type} : LoopsOk X (q1A (R := R)) := noLoops_ok X
theorem q1C (x0 : Point) (x1 : Point) : evFn X q1y [(.st 2), (.st 2)] [(.int .i64)] q1A 12 126 (x0, x1, ()) = chart_left x0 x1:=by kernel_rfl
noncomputable def q1D : F7 S := ⟨[(.st 2), (.st 2)], [(.int .i64)], fun xs => chart_left xs.1 xs.2.1⟩
theorem q1E : FSOk X 126 q1D := fsOk_eq (evFn_ok xok q1z q1B 12 126) fun xs _ h => (q1C xs.1 xs.2.1).trans h
noncomputable def q1F : List (Nat × F7 S) := [(124, qC), (99, qW), (125, q1p), (120, q1w), (126, q1D)]
theorem q1G : TabOk X (q1F) := ⟨qD, qX, q1q, q1x, q1E, trivial⟩
abbrev q1H {R : Type} : Loops S R := noLoops
theorem q1I {R : Type} : LoopsOk X (q1H (R := R)) := noLoops_ok X
def q1J : Key := ⟨[27, 6, 4, 135, 1, 101], 101, (some 27), [0, 0, 1, 0, 1, 0, 1, 0, 1, 0, 1, 1, 1], 3, 66⟩
def q1K : StT S := ⟨(N (N L none (N v1q vJ L)) none (N (N (N (N (N L vH L) none L) none L) (some (.ptr 58 0)) L) (some (.ptr 1 0)) v1m)), oM, 66⟩
def q1L : Way S := ⟨(.exit 3), ⟨(N (N L none (N L vJ L)) none (N (N L (some (.ptr 58 0)) L) (some (.ptr 1 0)) L)), oM, 67⟩, [.int, (.st 15), .bool, .int, .bool, (.st 15), .bool, .int, (.st 15), (.st 2), (.st 17), (.lst (.int .i64)), .nat, (.st 2)]⟩
def q1M : LE S := ⟨q1J, q1K, [.int, .int, (.lst (.st 2)), .int, (.st 15), .bool, .int, .bool, (.st 15), .bool, .int, (.st 15), (.st 2), (.st 17), (.lst (.int .i64)), .nat, (.st 2)], [q1L]⟩
def q1N (x : tl) : Int → tr := fun y0 => (y0, x.2.2.2.2.1, x.2.2.2.2.2.1, x.2.2.2.2.2.2.1, x.2.2.2.2.2.2.2.1, x.2.2.2.2.2.2.2.2.1, x.2.2.2.2.2.2.2.2.2.1, x.2.2.2.2.2.2.2.2.2.2.1, x.2.2.2.2.2.2.2.2.2.2.2.1, x.2.2.2.2.2.2.2.2.2.2.2.2.1, x.2.2.2.2.2.2.2.2.2.2.2.2.2.1, x.2.2.2.2.2.2.2.2.2.2.2.2.2.2.1, x.2.2.2.2.2.2.2.2.2.2.2.2.2.2.2.1, x.2.2.2.2.2.2.2.2.2.2.2.2.2.2.2.2)
noncomputable def q1O {R : Type} (x : tl) (k : tr → Option R) : Option R := (chart_sand_check_L1_run x.1 x.2.2.1 x.2.2.2.2.1 x.2.2.2.2.2.1 x.2.2.2.2.2.2.1 x.2.2.2.2.2.2.2.1 x.2.2.2.2.2.2.2.2.1 x.2.2.2.2.2.2.2.2.2.1 x.2.2.2.2.2.2.2.2.2.2.1 x.2.2.2.2.2.2.2.2.2.2.2.1 x.2.2.2.2.2.2.2.2.2.2.2.2.1 x.2.2.2.2.2.2.2.2.2.2.2.2.2.1 x.2.2.2.2.2.2.2.2.2.2.2.2.2.2.1 x.2.2.2.2.2.2.2.2.2.2.2.2.2.2.2.1 x.2.2.2.2.2.2.2.2.2.2.2.2.2.2.2.2 (x.2.1, x.2.2.2.1)).bind (fun y0 => k (y0, x.2.2.2.2.1, x.2.2.2.2.2.1, x.2.2.2.2.2.2.1, x.2.2.2.2.2.2.2.1, x.2.2.2.2.2.2.2.2.1, x.2.2.2.2.2.2.2.2.2.1, x.2.2.2.2.2.2.2.2.2.2.1, x.2.2.2.2.2.2.2.2.2.2.2.1, x.2.2.2.2.2.2.2.2.2.2.2.2.1, x.2.2.2.2.2.2.2.2.2.2.2.2.2.1, x.2.2.2.2.2.2.2.2.2.2.2.2.2.2.1, x.2.2.2.2.2.2.2.2.2.2.2.2.2.2.2.1, x.2.2.2.2.2.2.2.2.2.2.2.2.2.2.2.2))
def q1P (x : tl) (v : (Int × Int)) : tl := (x.1, v.1, x.2.2.1, v.2, x.2.2.2.2.1, x.2.2.2.2.2.1, x.2.2.2.2.2.2.1, x.2.2.2.2.2.2.2.1, x.2.2.2.2.2.2.2.2.1, x.2.2.2.2.2.2.2.2.2.1, x.2.2.2.2.2.2.2.2.2.2.1, x.2.2.2.2.2.2.2.2.2.2.2.1, x.2.2.2.2.2.2.2.2.2.2.2.2.1, x.2.2.2.2.2.2.2.2.2.2.2.2.2.1, x.2.2.2.2.2.2.2.2.2.2.2.2.2.2.1, x.2.2.2.2.2.2.2.2.2.2.2.2.2.2.2.1, x.2.2.2.2.2.2.2.2.2.2.2.2.2.2.2.2)
theorem q1Q (x : tl) : LE.step X q1M q1F q1H 12 x = chart_sand_check_L1_step x.1 x.2.2.1 x.2.2.2.2.1 x.2.2.2.2.2.1 x.2.2.2.2.2.2.1 x.2.2.2.2.2.2.2.1 x.2.2.2.2.2.2.2.2.1 x.2.2.2.2.2.2.2.2.2.1 x.2.2.2.2.2.2.2.2.2.2.1 x.2.2.2.2.2.2.2.2.2.2.2.1 x.2.2.2.2.2.2.2.2.2.2.2.2.1 x.2.2.2.2.2.2.2.2.2.2.2.2.2.1 x.2.2.2.2.2.2.2.2.2.2.2.2.2.2.1 x.2.2.2.2.2.2.2.2.2.2.2.2.2.2.2.1 x.2.2.2.2.2.2.2.2.2.2.2.2.2.2.2.2 x.2.1 x.2.2.2.1 (fun w0 w1 => (Sum.inl (x.1, w0, x.2.2.1, w1, x.2.2.2.2.1, x.2.2.2.2.2.1, x.2.2.2.2.2.2.1, x.2.2.2.2.2.2.2.1, x.2.2.2.2.2.2.2.2.1, x.2.2.2.2.2.2.2.2.2.1, x.2.2.2.2.2.2.2.2.2.2.1, x.2.2.2.2.2.2.2.2.2.2.2.1, x.2.2.2.2.2.2.2.2.2.2.2.2.1, x.2.2.2.2.2.2.2.2.2.2.2.2.2.1, x.2.2.2.2.2.2.2.2.2.2.2.2.2.2.1, x.2.2.2.2.2.2.2.2.2.2.2.2.2.2.2.1, x.2.2.2.2.2.2.2.2.2.2.2.2.2.2.2.2))) (fun p0 => (Sum.inr (p0, x.2.2.2.2.1, x.2.2.2.2.2.1, x.2.2.2.2.2.2.1, x.2.2.2.2.2.2.2.1, x.2.2.2.2.2.2.2.2.1, x.2.2.2.2.2.2.2.2.2.1, x.2.2.2.2.2.2.2.2.2.2.1, x.2.2.2.2.2.2.2.2.2.2.2.1, x.2.2.2.2.2.2.2.2.2.2.2.2.1, x.2.2.2.2.2.2.2.2.2.2.2.2.2.1, x.2.2.2.2.2.2.2.2.2.2.2.2.2.2.1, x.2.2.2.2.2.2.2.2.2.2.2.2.2.2.2.1, x.2.2.2.2.2.2.2.2.2.2.2.2.2.2.2.2))):=by kernel_rfl
theorem q1S {R : Type} (x : tl) (k : tr → Option R) (r : R) (h : q1O x k = some r) : ∃ o, Runs (LE.step X q1M q1F q1H 12) x o ∧ k o = some r := by
  obtain ⟨o, h1, h2⟩ := some_bind h
  exact ⟨q1N x o, small_ok (st := fun (x : tl) => chart_sand_check_L1_st x.1 x.2.2.1 x.2.2.2.2.1 x.2.2.2.2.2.1 x.2.2.2.2.2.2.1 x.2.2.2.2.2.2.2.1 x.2.2.2.2.2.2.2.2.1 x.2.2.2.2.2.2.2.2.2.1 x.2.2.2.2.2.2.2.2.2.2.1 x.2.2.2.2.2.2.2.2.2.2.2.1 x.2.2.2.2.2.2.2.2.2.2.2.2.1 x.2.2.2.2.2.2.2.2.2.2.2.2.2.1 x.2.2.2.2.2.2.2.2.2.2.2.2.2.2.1 x.2.2.2.2.2.2.2.2.2.2.2.2.2.2.2.1 x.2.2.2.2.2.2.2.2.2.2.2.2.2.2.2.2) (prj := fun x => (x.2.1, x.2.2.2.1)) (emb := q1P) (embO := q1N) (fun x => (q1Q x).trans (by unfold chart_sand_check_L1_st chart_sand_check_L1_step; simp only [map_cond,map_bindO,map_elim,Option.map_some,Option.map_none]; rfl)) (fun _ _ => rfl) (fun _ _ => rfl) (fun _ _ _ => rfl) (fun _ _ _ => rfl) (fun _ => rfl) (runOf_some.1 h1), by
    first
    | exact h2
    | (rcases o with o <;> exact h2)⟩
noncomputable def q1T {R : Type} : Loops S R := LE.ls X q1M q1O q1H
theorem q1U {R : Type} : LoopsOk X (q1T (R := R)) := loop_ok xok q1G (e := q1M) q1I q1S q1I
def q1V : Key := ⟨[135, 1, 101], 135, none, [0, 0, 1, 1], 0, 45⟩
def q1W : StT S := ⟨(N (N (N L (some (.ptr 38 0)) (N (N L vJ L) none L)) none L) (some (.yld 27)) (N v1r none (N (N (N L vH L) none L) none L))), oN, 45⟩
def q1X : Way S := ⟨.ret, ⟨L, (N (N (N (N L none (N L oc L)) none (N L none (N L (some (.loop 101 (N (N (N (N (N L vI L) none L) vJ L) (some (.ptr 0 0)) (N (N L none (N L vI L)) none L)) vq (N (N (N L vI L) none (N L none (N L vh L))) (some (.ptr 1 0)) L)) (29 :: []) .skip .skip 1 .ret (1 :: (101 :: [])) (0 :: (1 :: (0 :: (1 :: (1 :: (1 :: [])))))))) L))) ou L) oc (N (N (N (N L none (N L oj L)) none L) none L) none (N (N L none (N L none (N L od L))) ot (N (N (N L oj L) none L) none L)))), 76⟩, [(.st 15), .bool, .int, .bool, (.st 15), .bool, .int, (.st 15), (.st 2), (.st 17), (.lst (.int .i64)), .nat, (.st 2)]⟩
def q1Y : Way S := ⟨(.exit 0), ⟨L, oN, 46⟩, [(.st 15), .bool, .int, .bool, (.st 15), .bool, .int, (.st 15), (.lst (.int .i64)), .nat, (.st 2)]⟩
def q1Z : LE S := ⟨q1V, q1W, [.int, .int, (.lst (.st 2)), (.st 15), .bool, .int, .bool, (.st 15), .bool, .int, (.st 15), (.lst (.int .i64)), .nat, (.st 2)], [q1X, q1Y]⟩
def q20 (x : ts) : ((Int × Point × chart_side × Point) ⊕ Point) → td := Sum.elim (fun y0 => (.inl (x.2.2.2.1, x.2.2.2.2.1, x.2.2.2.2.2.1, x.2.2.2.2.2.2.1, x.2.2.2.2.2.2.2.1, x.2.2.2.2.2.2.2.2.1, y0.1, x.2.2.2.2.2.2.2.2.2.2.1, y0.2.1, y0.2.2.1, x.2.2.2.2.2.2.2.2.2.2.2.1, x.2.2.2.2.2.2.2.2.2.2.2.2.1, y0.2.2.2))) (fun y1 => (.inr (x.2.2.2.1, x.2.2.2.2.1, x.2.2.2.2.2.1, x.2.2.2.2.2.2.1, x.2.2.2.2.2.2.2.1, x.2.2.2.2.2.2.2.2.1, x.2.2.2.2.2.2.2.2.2.1, x.2.2.2.2.2.2.2.2.2.2.1, x.2.2.2.2.2.2.2.2.2.2.2.1, x.2.2.2.2.2.2.2.2.2.2.2.2.1, y1)))
noncomputable def q21 {R : Type} (x : ts) (k : td → Option R) : Option R := (chart_sand_check_L0_run x.1 x.2.2.1 x.2.2.2.1 x.2.2.2.2.1 x.2.2.2.2.2.1 x.2.2.2.2.2.2.1 x.2.2.2.2.2.2.2.1 x.2.2.2.2.2.2.2.2.1 x.2.2.2.2.2.2.2.2.2.1 x.2.2.2.2.2.2.2.2.2.2.1 x.2.2.2.2.2.2.2.2.2.2.2.1 x.2.2.2.2.2.2.2.2.2.2.2.2.1 (x.2.1, x.2.2.2.2.2.2.2.2.2.2.2.2.2)).bind (Sum.elim (fun y0 => k (.inl (x.2.2.2.1, x.2.2.2.2.1, x.2.2.2.2.2.1, x.2.2.2.2.2.2.1, x.2.2.2.2.2.2.2.1, x.2.2.2.2.2.2.2.2.1, y0.1, x.2.2.2.2.2.2.2.2.2.2.1, y0.2.1, y0.2.2.1, x.2.2.2.2.2.2.2.2.2.2.2.1, x.2.2.2.2.2.2.2.2.2.2.2.2.1, y0.2.2.2))) (fun y1 => k (.inr (x.2.2.2.1, x.2.2.2.2.1, x.2.2.2.2.2.1, x.2.2.2.2.2.2.1, x.2.2.2.2.2.2.2.1, x.2.2.2.2.2.2.2.2.1, x.2.2.2.2.2.2.2.2.2.1, x.2.2.2.2.2.2.2.2.2.2.1, x.2.2.2.2.2.2.2.2.2.2.2.1, x.2.2.2.2.2.2.2.2.2.2.2.2.1, y1))))
def q22 (x : ts) (v : (Int × Point)) : ts := (x.1, v.1, x.2.2.1, x.2.2.2.1, x.2.2.2.2.1, x.2.2.2.2.2.1, x.2.2.2.2.2.2.1, x.2.2.2.2.2.2.2.1, x.2.2.2.2.2.2.2.2.1, x.2.2.2.2.2.2.2.2.2.1, x.2.2.2.2.2.2.2.2.2.2.1, x.2.2.2.2.2.2.2.2.2.2.2.1, x.2.2.2.2.2.2.2.2.2.2.2.2.1, v.2)
theorem q23 (x : ts) : LE.step X q1Z q1F q1T 12 x = chart_sand_check_L0_step x.1 x.2.2.1 x.2.2.2.1 x.2.2.2.2.1 x.2.2.2.2.2.1 x.2.2.2.2.2.2.1 x.2.2.2.2.2.2.2.1 x.2.2.2.2.2.2.2.2.1 x.2.2.2.2.2.2.2.2.2.1 x.2.2.2.2.2.2.2.2.2.2.1 x.2.2.2.2.2.2.2.2.2.2.2.1 x.2.2.2.2.2.2.2.2.2.2.2.2.1 x.2.1 x.2.2.2.2.2.2.2.2.2.2.2.2.2 (fun w0 w1 => (Sum.inl (x.1, w0, x.2.2.1, x.2.2.2.1, x.2.2.2.2.1, x.2.2.2.2.2.1, x.2.2.2.2.2.2.1, x.2.2.2.2.2.2.2.1, x.2.2.2.2.2.2.2.2.1, x.2.2.2.2.2.2.2.2.2.1, x.2.2.2.2.2.2.2.2.2.2.1, x.2.2.2.2.2.2.2.2.2.2.2.1, x.2.2.2.2.2.2.2.2.2.2.2.2.1, w1))) (fun p0 p1 p2 p3 => (Sum.inr (.inl (x.2.2.2.1, x.2.2.2.2.1, x.2.2.2.2.2.1, x.2.2.2.2.2.2.1, x.2.2.2.2.2.2.2.1, x.2.2.2.2.2.2.2.2.1, p0, x.2.2.2.2.2.2.2.2.2.2.1, p1, p2, x.2.2.2.2.2.2.2.2.2.2.2.1, x.2.2.2.2.2.2.2.2.2.2.2.2.1, p3)))) (fun p0 => (Sum.inr (.inr (x.2.2.2.1, x.2.2.2.2.1, x.2.2.2.2.2.1, x.2.2.2.2.2.2.1, x.2.2.2.2.2.2.2.1, x.2.2.2.2.2.2.2.2.1, x.2.2.2.2.2.2.2.2.2.1, x.2.2.2.2.2.2.2.2.2.2.1, x.2.2.2.2.2.2.2.2.2.2.2.1, x.2.2.2.2.2.2.2.2.2.2.2.2.1, p0)))):=by kernel_rfl
theorem q25 {R : Type} (x : ts) (k : td → Option R) (r : R) (h : q21 x k = some r) : ∃ o, Runs (LE.step X q1Z q1F q1T 12) x o ∧ k o = some r := by
  obtain ⟨o, h1, h2⟩ := some_bind h
  exact ⟨q20 x o, small_ok (st := fun (x : ts) => chart_sand_check_L0_st x.1 x.2.2.1 x.2.2.2.1 x.2.2.2.2.1 x.2.2.2.2.2.1 x.2.2.2.2.2.2.1 x.2.2.2.2.2.2.2.1 x.2.2.2.2.2.2.2.2.1 x.2.2.2.2.2.2.2.2.2.1 x.2.2.2.2.2.2.2.2.2.2.1 x.2.2.2.2.2.2.2.2.2.2.2.1 x.2.2.2.2.2.2.2.2.2.2.2.2.1) (prj := fun x => (x.2.1, x.2.2.2.2.2.2.2.2.2.2.2.2.2)) (emb := q22) (embO := q20) (fun x => (q23 x).trans (by unfold chart_sand_check_L0_st chart_sand_check_L0_step; simp only [map_cond,map_bindO,map_elim,Option.map_some,Option.map_none]; rfl)) (fun _ _ => rfl) (fun _ _ => rfl) (fun _ _ _ => rfl) (fun _ _ _ => rfl) (fun _ => rfl) (runOf_some.1 h1), by
    first
    | exact h2
    | (rcases o with o | o <;> exact h2)⟩
noncomputable def q26 {R : Type} : Loops S R := LE.ls X q1Z q21 q1T
theorem q27 {R : Type} : LoopsOk X (q26 (R := R)) := loop_ok xok q1G (e := q1Z) q1U q25 q1U
theorem q28 (x0 : chart_sand) : evFn X q1F [(.st 15)] [(.int .i64)] q26 12 101 (x0, ()) = chart_sand_check x0:=by kernel_rfl
noncomputable def q29 : F7 S := ⟨[(.st 15)], [(.int .i64)], fun xs => chart_sand_check xs.1⟩
theorem q2a : FSOk X 101 q29 := fsOk_eq (evFn_ok xok q1G q27 12 101) fun xs _ h => (q28 xs.1).trans h
noncomputable def q2b : List (Nat × F7 S) := [(98, qi), (99, qW), (100, q1i), (101, q29)]
theorem q2c : TabOk X (q2b) := ⟨qj, qX, q1j, q2a, trivial⟩
abbrev q2d {R : Type} : Loops S R := noLoops
theorem q2e {R : Type} : LoopsOk X (q2d (R := R)) := noLoops_ok X
def q2f : Key := ⟨[60], 60, none, [0, 0, 1, 0, 1, 1, 1, 1], 0, 17⟩
def q2g : StT S := ⟨(N (N v1r (some (.ptr 0 0)) L) none (N v1r none (N (N (N L (some (.sl (.st 4) [])) L) none L) vo L))), o1k, 17⟩
def q2h : Way S := ⟨.ret, ⟨v1l, o1e, 57⟩, [.int, .int, .int, (.st 4), (.st 8), (.mp .str (.int .i64))]⟩
def q2i : Way S := ⟨.ret, ⟨v1l, o1e, 62⟩, [.int, .int, .int, (.st 4), (.st 8), (.mp .str (.int .i64))]⟩
def q2j : Way S := ⟨.ret, ⟨v1l, o12, 63⟩, [.int, .int, .int, (.st 4), (.st 8), (.mp .str (.int .i64)), (.lst (.st 2)), .nat]⟩
def q2k : Way S := ⟨.ret, ⟨v1l, o12, 66⟩, [.int, .int, .int, (.st 4), (.st 8), (.mp .str (.int .i64)), (.lst (.st 2)), .nat]⟩
def q2l : Way S := ⟨(.exit 0), ⟨(N (N L (some (.ptr 0 0)) L) none (N L none (N L vo L))), o1k, 18⟩, [(.st 8), (.mp .str (.int .i64))]⟩
def q2m : LE S := ⟨q2f, q2g, [.int, .int, (.lst (.st 4)), (.st 8), (.mp .str (.int .i64))], [q2h, q2i, q2j, q2k, q2l]⟩
def q2n (x : tK) : ((Int × Int × Int × CtMark × t17) ⊕ (Int × Int × Int × CtMark × t17) ⊕ (Int × Int × Int × CtMark × t17 × (List Point) × Nat) ⊕ (Int × Int × Int × CtMark × t17 × (List Point) × Nat) ⊕ t17) → t4 := Sum.elim (fun y0 => (.inl (y0.1, y0.2.1, y0.2.2.1, y0.2.2.2.1, x.2.2.2.1, y0.2.2.2.2))) (Sum.elim (fun y1 => (.inr (.inl (y1.1, y1.2.1, y1.2.2.1, y1.2.2.2.1, x.2.2.2.1, y1.2.2.2.2)))) (Sum.elim (fun y2 => (.inr (.inr (.inl (y2.1, y2.2.1, y2.2.2.1, y2.2.2.2.1, x.2.2.2.1, y2.2.2.2.2.1, y2.2.2.2.2.2.1, y2.2.2.2.2.2.2))))) (Sum.elim (fun y3 => (.inr (.inr (.inr (.inl (y3.1, y3.2.1, y3.2.2.1, y3.2.2.2.1, x.2.2.2.1, y3.2.2.2.2.1, y3.2.2.2.2.2.1, y3.2.2.2.2.2.2)))))) (fun y4 => (.inr (.inr (.inr (.inr (x.2.2.2.1, y4)))))))))
noncomputable def q2o {R : Type} (x : tK) (k : t4 → Option R) : Option R := (chart_Check_L0_run x.1 x.2.2.1 x.2.2.2.1 (x.2.1, x.2.2.2.2)).bind (Sum.elim (fun y0 => k (.inl (y0.1, y0.2.1, y0.2.2.1, y0.2.2.2.1, x.2.2.2.1, y0.2.2.2.2))) (Sum.elim (fun y1 => k (.inr (.inl (y1.1, y1.2.1, y1.2.2.1, y1.2.2.2.1, x.2.2.2.1, y1.2.2.2.2)))) (Sum.elim (fun y2 => k (.inr (.inr (.inl (y2.1, y2.2.1, y2.2.2.1, y2.2.2.2.1, x.2.2.2.1, y2.2.2.2.2.1, y2.2.2.2.2.2.1, y2.2.2.2.2.2.2))))) (Sum.elim (fun y3 => k (.inr (.inr (.inr (.inl (y3.1, y3.2.1, y3.2.2.1, y3.2.2.2.1, x.2.2.2.1, y3.2.2.2.2.1, y3.2.2.2.2.2.1, y3.2.2.2.2.2.2)))))) (fun y4 => k (.inr (.inr (.inr (.inr (x.2.2.2.1, y4))))))))))
def q2p (x : tK) (v : (Int × t17)) : tK := (x.1, v.1, x.2.2.1, x.2.2.2.1, v.2)
theorem q2q (x : tK) : LE.step X q2m q2b q2d 12 x = chart_Check_L0_step x.1 x.2.2.1 x.2.2.2.1 x.2.1 x.2.2.2.2 (fun w0 w1 => (Sum.inl (x.1, w0, x.2.2.1, x.2.2.2.1, w1))) (fun p0 p1 p2 p3 p4 => (Sum.inr (.inl (p0, p1, p2, p3, x.2.2.2.1, p4)))) (fun p0 p1 p2 p3 p4 => (Sum.inr (.inr (.inl (p0, p1, p2, p3, x.2.2.2.1, p4))))) (fun p0 p1 p2 p3 p4 p5 p6 => (Sum.inr (.inr (.inr (.inl (p0, p1, p2, p3, x.2.2.2.1, p4, p5, p6)))))) (fun p0 p1 p2 p3 p4 p5 p6 => (Sum.inr (.inr (.inr (.inr (.inl (p0, p1, p2, p3, x.2.2.2.1, p4, p5, p6))))))) (fun p0 => (Sum.inr (.inr (.inr (.inr (.inr (x.2.2.2.1, p0))))))):=by kernel_rfl
theorem q2s {R : Type} (x : tK) (k : t4 → Option R) (r : R) (h : q2o x k = some r) : ∃ o, Runs (LE.step X q2m q2b q2d 12) x o ∧ k o = some r := by
  obtain ⟨o, h1, h2⟩ := some_bind h
  exact ⟨q2n x o, small_ok (st := fun (x : tK) => chart_Check_L0_st x.1 x.2.2.1 x.2.2.2.1) (prj := fun x => (x.2.1, x.2.2.2.2)) (emb := q2p) (embO := q2n) (fun x => (q2q x).trans (by unfold chart_Check_L0_st chart_Check_L0_step; simp only [map_cond,map_bindO,map_elim,Option.map_some,Option.map_none]; rfl)) (fun _ _ => rfl) (fun _ _ => rfl) (fun _ _ _ => rfl) (fun _ _ _ => rfl) (fun _ => rfl) (runOf_some.1 h1), by
    first
    | exact h2
    | (rcases o with o | o | o | o | o <;> exact h2)⟩
noncomputable def q2t {R : Type} : Loops S R := LE.ls X q2m q2o q2d
theorem q2u {R : Type} : LoopsOk X (q2t (R := R)) := loop_ok xok q2c (e := q2m) q2e q2s q2e
def q2v : Key := ⟨[60], 60, none, [0, 0, 1, 0, 1, 1, 1, 1, 1, 1], 2, 26⟩
def q2w : StT S := ⟨(N (N L none (N L none v1t)) none (N (N L none (N (N L none (N L (some (.sl (.st 7) [])) L)) none L)) none (N L vo v1t))), o1k, 26⟩
def q2x : Way S := ⟨.ret, ⟨v1l, o16, 58⟩, [.int, .int, .int, (.st 8), (.mp .str (.int .i64)), (.st 7)]⟩
def q2y : Way S := ⟨.ret, ⟨v1l, o16, 63⟩, [.int, .int, .int, (.st 8), (.mp .str (.int .i64)), (.st 7)]⟩
def q2z : Way S := ⟨.ret, ⟨v1l, o16, 67⟩, [.int, .int, .int, (.st 8), (.mp .str (.int .i64)), (.st 7)]⟩
def q2A : Way S := ⟨(.exit 2), ⟨L, o1k, 27⟩, [(.st 8), (.mp .str (.int .i64))]⟩
def q2B : LE S := ⟨q2v, q2w, [.int, (.lst (.st 7)), .int, (.st 8), (.mp .str (.int .i64))], [q2x, q2y, q2z, q2A]⟩
def q2C (x : tL) : (tR ⊕ tR ⊕ tR ⊕ t17) → tb := Sum.elim (fun y0 => (.inl (y0.1, y0.2.1, y0.2.2.1, x.2.2.2.1, y0.2.2.2.1, y0.2.2.2.2))) (Sum.elim (fun y1 => (.inr (.inl (y1.1, y1.2.1, y1.2.2.1, x.2.2.2.1, y1.2.2.2.1, y1.2.2.2.2)))) (Sum.elim (fun y2 => (.inr (.inr (.inl (y2.1, y2.2.1, y2.2.2.1, x.2.2.2.1, y2.2.2.2.1, y2.2.2.2.2))))) (fun y3 => (.inr (.inr (.inr (x.2.2.2.1, y3)))))))
noncomputable def q2D {R : Type} (x : tL) (k : tb → Option R) : Option R := (chart_Check_L1_run x.1 x.2.1 x.2.2.2.1 (x.2.2.1, x.2.2.2.2)).bind (Sum.elim (fun y0 => k (.inl (y0.1, y0.2.1, y0.2.2.1, x.2.2.2.1, y0.2.2.2.1, y0.2.2.2.2))) (Sum.elim (fun y1 => k (.inr (.inl (y1.1, y1.2.1, y1.2.2.1, x.2.2.2.1, y1.2.2.2.1, y1.2.2.2.2)))) (Sum.elim (fun y2 => k (.inr (.inr (.inl (y2.1, y2.2.1, y2.2.2.1, x.2.2.2.1, y2.2.2.2.1, y2.2.2.2.2))))) (fun y3 => k (.inr (.inr (.inr (x.2.2.2.1, y3))))))))
def q2E (x : tL) (v : (Int × t17)) : tL := (x.1, x.2.1, v.1, x.2.2.2.1, v.2)
theorem q2F (x : tL) : LE.step X q2B q2b q2t 12 x = chart_Check_L1_step x.1 x.2.1 x.2.2.2.1 x.2.2.1 x.2.2.2.2 (fun w0 w1 => (Sum.inl (x.1, x.2.1, w0, x.2.2.2.1, w1))) (fun p0 p1 p2 p3 p4 => (Sum.inr (.inl (p0, p1, p2, x.2.2.2.1, p3, p4)))) (fun p0 p1 p2 p3 p4 => (Sum.inr (.inr (.inl (p0, p1, p2, x.2.2.2.1, p3, p4))))) (fun p0 p1 p2 p3 p4 => (Sum.inr (.inr (.inr (.inl (p0, p1, p2, x.2.2.2.1, p3, p4)))))) (fun p0 => (Sum.inr (.inr (.inr (.inr (x.2.2.2.1, p0)))))):=by kernel_rfl
theorem q2H {R : Type} (x : tL) (k : tb → Option R) (r : R) (h : q2D x k = some r) : ∃ o, Runs (LE.step X q2B q2b q2t 12) x o ∧ k o = some r := by
  obtain ⟨o, h1, h2⟩ := some_bind h
  exact ⟨q2C x o, small_ok (st := fun (x : tL) => chart_Check_L1_st x.1 x.2.1 x.2.2.2.1) (prj := fun x => (x.2.2.1, x.2.2.2.2)) (emb := q2E) (embO := q2C) (fun x => (q2F x).trans (by unfold chart_Check_L1_st chart_Check_L1_step; simp only [map_cond,map_bindO,map_elim,Option.map_some,Option.map_none]; rfl)) (fun _ _ => rfl) (fun _ _ => rfl) (fun _ _ _ => rfl) (fun _ _ _ => rfl) (fun _ => rfl) (runOf_some.1 h1), by
    first
    | exact h2
    | (rcases o with o | o | o | o <;> exact h2)⟩
noncomputable def q2I {R : Type} : Loops S R := LE.ls X q2B q2D q2t
theorem q2J {R : Type} : LoopsOk X (q2I (R := R)) := loop_ok xok q2c (e := q2B) q2u q2H q2u
theorem q2K (x0 : CtChart) : evFn X q2b [(.st 8)] [(.int .i64), (.int .i64), (.int .i64)] q2I 12 60 (x0, ()) = chart_Check x0:=by kernel_rfl
noncomputable def q2L : F7 S := ⟨[(.st 8)], [(.int .i64), (.int .i64), (.int .i64)], fun xs => chart_Check xs.1⟩
theorem q2M : FSOk X 60 q2L := fsOk_eq (evFn_ok xok q2c q2J 12 60) fun xs _ h => (q2K xs.1).trans h
noncomputable def q2N : List (Nat × F7 S) := []
theorem q2O : TabOk X (q2N) := trivial
abbrev q2P {R : Type} : Loops S R := noLoops
theorem q2Q {R : Type} : LoopsOk X (q2P (R := R)) := noLoops_ok X
def q2R : Key := ⟨[127, 2, 1, 102, 2, 1, 62], 127, none, [0, 0, 1, 0, 1], 0, 17⟩
def q2S : StT S := ⟨(N (N (N (N L vJ L) none L) (some (.fn (.func 103) [] [(.ptr 0 0), (.ptr 1 0)])) L) vD v1q), (N (N L ow L) ow L), 17⟩
def q2T : Way S := ⟨.ret, ⟨v1r, (N (N L ow L) ow L), 38⟩, [.int, .int, .int]⟩
def q2U : Way S := ⟨(.exit 0), ⟨L, (N (N L ow L) ow L), 18⟩, [.int, .int]⟩
def q2V : LE S := ⟨q2R, q2S, [.int, (.lst (.int .i64)), .int, .int, .int], [q2T, q2U]⟩
def q2W (x : tZ) : (Int ⊕ Unit) → t12 := Sum.elim (fun y0 => (.inl (y0, x.2.2.2.1, x.2.2.2.2))) (fun y1 => (.inr (x.2.2.2.1, x.2.2.2.2)))
noncomputable def q2X {R : Type} (x : tZ) (k : t12 → Option R) : Option R := (swing_outside_L0_run x.1 x.2.1 x.2.2.2.1 x.2.2.2.2 x.2.2.1).bind (Sum.elim (fun y0 => k (.inl (y0, x.2.2.2.1, x.2.2.2.2))) (fun y1 => k (.inr (x.2.2.2.1, x.2.2.2.2))))
def q2Y (x : tZ) (v : Int) : tZ := (x.1, x.2.1, v, x.2.2.2.1, x.2.2.2.2)
theorem q2Z (x : tZ) : LE.step X q2V q2N q2P 12 x = swing_outside_L0_step x.1 x.2.1 x.2.2.2.1 x.2.2.2.2 x.2.2.1 (fun w0 => (Sum.inl (x.1, x.2.1, w0, x.2.2.2.1, x.2.2.2.2))) (fun p0 => (Sum.inr (.inl (p0, x.2.2.2.1, x.2.2.2.2)))) (Sum.inr (.inr (x.2.2.2.1, x.2.2.2.2))):=by kernel_rfl
theorem q31 {R : Type} (x : tZ) (k : t12 → Option R) (r : R) (h : q2X x k = some r) : ∃ o, Runs (LE.step X q2V q2N q2P 12) x o ∧ k o = some r := by
  obtain ⟨o, h1, h2⟩ := some_bind h
  exact ⟨q2W x o, small_ok (st := fun (x : tZ) => swing_outside_L0_st x.1 x.2.1 x.2.2.2.1 x.2.2.2.2) (prj := fun x => x.2.2.1) (emb := q2Y) (embO := q2W) (fun x => (q2Z x).trans (by unfold swing_outside_L0_st swing_outside_L0_step; simp only [map_cond,map_bindO,map_elim,Option.map_some,Option.map_none]; rfl)) (fun _ _ => rfl) (fun _ _ => rfl) (fun _ _ _ => rfl) (fun _ _ _ => rfl) (fun _ => rfl) (runOf_some.1 h1), by
    first
    | exact h2
    | (rcases o with o | o <;> exact h2)⟩
noncomputable def q32 {R : Type} : Loops S R := LE.ls X q2V q2X q2P
theorem q33 {R : Type} : LoopsOk X (q32 (R := R)) := loop_ok xok q2O (e := q2V) q2Q q31 q2Q
theorem q34 (x0 : Int) (x1 : Int) (x2 : List Int) : evFn X q2N [(.int .i64), (.int .i64), (.sl (.int .i64))] [.bool] q32 12 62 (x0, x1, x2, ()) = swing_outside x0 x1 x2:=by kernel_rfl
noncomputable def q35 : F7 S := ⟨[(.int .i64), (.int .i64), (.sl (.int .i64))], [.bool], fun xs => swing_outside xs.1 xs.2.1 xs.2.2.1⟩
theorem q36 : FSOk X 62 q35 := fsOk_eq (evFn_ok xok q2O q33 12 62) fun xs _ h => (q34 xs.1 xs.2.1 xs.2.2.1).trans h
noncomputable def q37 : List (Nat × F7 S) := [(62, q35)]
theorem q38 : TabOk X (q37) := ⟨q36, trivial⟩
abbrev q39 {R : Type} : Loops S R := noLoops
theorem q3a {R : Type} : LoopsOk X (q39 (R := R)) := noLoops_ok X
theorem q3b (x0 : CtBox) : evFn X q37 [(.st 6)] [(.int .i64)] q39 12 61 (x0, ()) = swing_box x0:=by kernel_rfl
noncomputable def q3c : F7 S := ⟨[(.st 6)], [(.int .i64)], fun xs => swing_box xs.1⟩
theorem q3d : FSOk X 61 q3c := fsOk_eq (evFn_ok xok q38 q3a 12 61) fun xs _ h => (q3b xs.1).trans h
noncomputable def q3e : List (Nat × F7 S) := [(60, q2L), (61, q3c), (62, q35)]
theorem q3f : TabOk X (q3e) := ⟨q2M, q3d, q36, trivial⟩
abbrev q3g {R : Type} : Loops S R := noLoops
theorem q3h {R : Type} : LoopsOk X (q3g (R := R)) := noLoops_ok X
theorem q3i (x0 : SgMooring) : evFn X q3e [(.st 9)] [(.int .i64), (.int .i64)] q3g 12 17 (x0, ()) = swing_Check x0:=by kernel_rfl
noncomputable def q3j : F7 S := ⟨[(.st 9)], [(.int .i64), (.int .i64)], fun xs => swing_Check xs.1⟩
theorem q3k : FSOk X 17 q3j := fsOk_eq (evFn_ok xok q3f q3h 12 17) fun xs _ h => (q3i xs.1).trans h
noncomputable def q3l : List (Nat × F7 S) := []
theorem q3m : TabOk X (q3l) := trivial
abbrev q3n {R : Type} : Loops S R := noLoops
theorem q3o {R : Type} : LoopsOk X (q3n (R := R)) := noLoops_ok X
theorem q3p (x0 : Int) (x1 : Int) (x2 : Int) : evFn X q3l [(.int .i64), (.int .i64), (.int .i64)] [.bool] q3n 12 113 (x0, x1, x2, ()) = ref01_in x0 x1 x2:=by kernel_rfl
noncomputable def q3q : F7 S := ⟨[(.int .i64), (.int .i64), (.int .i64)], [.bool], fun xs => ref01_in xs.1 xs.2.1 xs.2.2.1⟩
theorem q3r : FSOk X 113 q3q := fsOk_eq (evFn_ok xok q3m q3o 12 113) fun xs _ h => (q3p xs.1 xs.2.1 xs.2.2.1).trans h
noncomputable def q3s : List (Nat × F7 S) := [(113, q3q)]
theorem q3t : TabOk X (q3s) := ⟨q3r, trivial⟩
abbrev q3u {R : Type} : Loops S R := noLoops
theorem q3v {R : Type} : LoopsOk X (q3u (R := R)) := noLoops_ok X
def q3w : Key := ⟨[128], 128, none, [0, 0, 1, 0, 1, 1], 0, 6⟩
def q3x : StT S := ⟨(N (N (N L vJ L) none L) vC L), L, 6⟩
def q3y : Way S := ⟨.ret, ⟨(N L none (N L vI L)), L, 43⟩, [.bool]⟩
def q3z : Way S := ⟨(.exit 0), ⟨L, L, 10⟩, []⟩
def q3A : LE S := ⟨q3w, q3x, [.int, .str], [q3y, q3z]⟩
def q3B (x : (Int × ByteArray)) : (Bool ⊕ Unit) → (Bool ⊕ Unit) := Sum.elim (fun y0 => (.inl y0)) (fun y1 => (.inr ()))
noncomputable def q3C {R : Type} (x : (Int × ByteArray)) (k : (Bool ⊕ Unit) → Option R) : Option R := (ref01_Name_L0_run x.2 x.1).bind (Sum.elim (fun y0 => k (.inl y0)) (fun y1 => k (.inr ())))
def q3D (x : (Int × ByteArray)) (v : Int) : (Int × ByteArray) := (v, x.2)
theorem q3E (x : (Int × ByteArray)) : LE.step X q3A q3s q3u 12 x = ref01_Name_L0_step x.2 x.1 (fun w0 => (Sum.inl (w0, x.2))) (fun p0 => (Sum.inr (.inl p0))) (Sum.inr (.inr ())):=by kernel_rfl
theorem q3G {R : Type} (x : (Int × ByteArray)) (k : (Bool ⊕ Unit) → Option R) (r : R) (h : q3C x k = some r) : ∃ o, Runs (LE.step X q3A q3s q3u 12) x o ∧ k o = some r := by
  obtain ⟨o, h1, h2⟩ := some_bind h
  exact ⟨q3B x o, small_ok (st := fun (x : (Int × ByteArray)) => ref01_Name_L0_st x.2) (prj := fun x => x.1) (emb := q3D) (embO := q3B) (fun x => (q3E x).trans (by unfold ref01_Name_L0_st ref01_Name_L0_step; simp only [map_cond,map_bindO,map_elim,Option.map_some,Option.map_none]; rfl)) (fun _ _ => rfl) (fun _ _ => rfl) (fun _ _ _ => rfl) (fun _ _ _ => rfl) (fun _ => rfl) (runOf_some.1 h1), by
    first
    | exact h2
    | (rcases o with o | o <;> exact h2)⟩
noncomputable def q3H {R : Type} : Loops S R := LE.ls X q3A q3C q3u
theorem q3I {R : Type} : LoopsOk X (q3H (R := R)) := loop_ok xok q3t (e := q3A) q3v q3G q3v
theorem q3J (x0 : ByteArray) : evFn X q3s [.str] [.bool] q3H 12 128 (x0, ()) = ref01_Name x0:=by kernel_rfl
noncomputable def q3K : F7 S := ⟨[.str], [.bool], fun xs => ref01_Name xs.1⟩
theorem q3L : FSOk X 128 q3K := fsOk_eq (evFn_ok xok q3t q3I 12 128) fun xs _ h => (q3J xs.1).trans h
noncomputable def q3M : List (Nat × F7 S) := []
theorem q3N : TabOk X (q3M) := trivial
abbrev q3O {R : Type} : Loops S R := noLoops
theorem q3P {R : Type} : LoopsOk X (q3O (R := R)) := noLoops_ok X
def q3Q : Key := ⟨[129], 129, none, [0, 0, 1, 0, 1], 0, 2⟩
def q3R : StT S := ⟨(N (N L vC (N L vJ L)) (some (.sl .str [])) L), L, 2⟩
def q3S : Way S := ⟨.ret, ⟨v1r, L, 14⟩, [.int]⟩
def q3T : Way S := ⟨(.exit 0), ⟨L, L, 6⟩, []⟩
def q3U : LE S := ⟨q3Q, q3R, [.str, .int, (.lst .str)], [q3S, q3T]⟩
def q3V (x : t10) : (Int ⊕ Unit) → (Int ⊕ Unit) := Sum.elim (fun y0 => (.inl y0)) (fun y1 => (.inr ()))
noncomputable def q3W {R : Type} (x : t10) (k : (Int ⊕ Unit) → Option R) : Option R := (ref01_Place_L0_run x.1 x.2.2 x.2.1).bind (Sum.elim (fun y0 => k (.inl y0)) (fun y1 => k (.inr ())))
def q3X (x : t10) (v : Int) : t10 := (x.1, v, x.2.2)
theorem q3Y (x : t10) : LE.step X q3U q3M q3O 12 x = ref01_Place_L0_step x.1 x.2.2 x.2.1 (fun w0 => (Sum.inl (x.1, w0, x.2.2))) (fun p0 => (Sum.inr (.inl p0))) (Sum.inr (.inr ())):=by kernel_rfl
theorem q40 {R : Type} (x : t10) (k : (Int ⊕ Unit) → Option R) (r : R) (h : q3W x k = some r) : ∃ o, Runs (LE.step X q3U q3M q3O 12) x o ∧ k o = some r := by
  obtain ⟨o, h1, h2⟩ := some_bind h
  exact ⟨q3V x o, small_ok (st := fun (x : t10) => ref01_Place_L0_st x.1 x.2.2) (prj := fun x => x.2.1) (emb := q3X) (embO := q3V) (fun x => (q3Y x).trans (by unfold ref01_Place_L0_st ref01_Place_L0_step; simp only [map_cond,map_bindO,map_elim,Option.map_some,Option.map_none]; rfl)) (fun _ _ => rfl) (fun _ _ => rfl) (fun _ _ _ => rfl) (fun _ _ _ => rfl) (fun _ => rfl) (runOf_some.1 h1), by
    first
    | exact h2
    | (rcases o with o | o <;> exact h2)⟩
noncomputable def q41 {R : Type} : Loops S R := LE.ls X q3U q3W q3O
theorem q42 {R : Type} : LoopsOk X (q41 (R := R)) := loop_ok xok q3N (e := q3U) q3P q40 q3P
theorem q43 (x0 : List ByteArray) (x1 : ByteArray) : evFn X q3M [(.sl .str), .str] [(.int .i64)] q41 12 129 (x0, x1, ()) = ref01_Place x0 x1:=by kernel_rfl
noncomputable def q44 : F7 S := ⟨[(.sl .str), .str], [(.int .i64)], fun xs => ref01_Place xs.1 xs.2.1⟩
theorem q45 : FSOk X 129 q44 := fsOk_eq (evFn_ok xok q3N q42 12 129) fun xs _ h => (q43 xs.1 xs.2.1).trans h
noncomputable def q46 : List (Nat × F7 S) := [(128, q3K), (129, q44)]
theorem q47 : TabOk X (q46) := ⟨q3L, q45, trivial⟩
abbrev q48 {R : Type} : Loops S R := noLoops
theorem q49 {R : Type} : LoopsOk X (q48 (R := R)) := noLoops_ok X
theorem q4a (x0 : ByteArray) (x1 : List ByteArray) : evFn X q46 [.str, (.sl .str)] [(.int .i64)] q48 12 104 (x0, x1, ()) = ref01_Fresh x0 x1:=by kernel_rfl
noncomputable def q4b : F7 S := ⟨[.str, (.sl .str)], [(.int .i64)], fun xs => ref01_Fresh xs.1 xs.2.1⟩
theorem q4c : FSOk X 104 q4b := fsOk_eq (evFn_ok xok q47 q49 12 104) fun xs _ h => (q4a xs.1 xs.2.1).trans h
noncomputable def q4d : List (Nat × F7 S) := [(113, q3q)]
theorem q4e : TabOk X (q4d) := ⟨q3r, trivial⟩
abbrev q4f {R : Type} : Loops S R := noLoops
theorem q4g {R : Type} : LoopsOk X (q4f (R := R)) := noLoops_ok X
theorem q4h (x0 : Point) (x1 : Int) : evFn X q4d [(.st 2), (.int .i64)] [.bool] q4f 12 78 (x0, x1, ()) = ref01_Within x0 x1:=by kernel_rfl
noncomputable def q4i : F7 S := ⟨[(.st 2), (.int .i64)], [.bool], fun xs => ref01_Within xs.1 xs.2.1⟩
theorem q4j : FSOk X 78 q4i := fsOk_eq (evFn_ok xok q4e q4g 12 78) fun xs _ h => (q4h xs.1 xs.2.1).trans h
noncomputable def q4k : List (Nat × F7 S) := [(113, q3q)]
theorem q4l : TabOk X (q4k) := ⟨q3r, trivial⟩
abbrev q4m {R : Type} : Loops S R := noLoops
theorem q4n {R : Type} : LoopsOk X (q4m (R := R)) := noLoops_ok X
def q4o : Key := ⟨[105], 105, none, [0, 0, 1, 0, 1, 1], 0, 6⟩
def q4p : StT S := ⟨(N (N (N L vJ L) none L) (some (.sl (.st 3) [])) L), L, 6⟩
def q4q : Way S := ⟨.ret, ⟨(N L none (N L vJ L)), L, 27⟩, [.int]⟩
def q4r : Way S := ⟨.ret, ⟨(N L none (N L vJ L)), L, 43⟩, [.int]⟩
def q4s : Way S := ⟨(.exit 0), ⟨L, L, 10⟩, []⟩
def q4t : LE S := ⟨q4o, q4p, [.int, (.lst (.st 3))], [q4q, q4r, q4s]⟩
def q4u (x : (Int × (List CtPaint))) : (Int ⊕ Int ⊕ Unit) → (Int ⊕ Int ⊕ Unit) := Sum.elim (fun y0 => (.inl y0)) (Sum.elim (fun y1 => (.inr (.inl y1))) (fun y2 => (.inr (.inr ()))))
noncomputable def q4v {R : Type} (x : (Int × (List CtPaint))) (k : (Int ⊕ Int ⊕ Unit) → Option R) : Option R := (ref01_paints_L0_run x.2 x.1).bind (Sum.elim (fun y0 => k (.inl y0)) (Sum.elim (fun y1 => k (.inr (.inl y1))) (fun y2 => k (.inr (.inr ())))))
def q4w (x : (Int × (List CtPaint))) (v : Int) : (Int × (List CtPaint)) := (v, x.2)
theorem q4x (x : (Int × (List CtPaint))) : LE.step X q4t q4k q4m 12 x = ref01_paints_L0_step x.2 x.1 (fun w0 => (Sum.inl (w0, x.2))) (fun p0 => (Sum.inr (.inl p0))) (fun p0 => (Sum.inr (.inr (.inl p0)))) (Sum.inr (.inr (.inr ()))):=by kernel_rfl
theorem q4z {R : Type} (x : (Int × (List CtPaint))) (k : (Int ⊕ Int ⊕ Unit) → Option R) (r : R) (h : q4v x k = some r) : ∃ o, Runs (LE.step X q4t q4k q4m 12) x o ∧ k o = some r := by
  obtain ⟨o, h1, h2⟩ := some_bind h
  exact ⟨q4u x o, small_ok (st := fun (x : (Int × (List CtPaint))) => ref01_paints_L0_st x.2) (prj := fun x => x.1) (emb := q4w) (embO := q4u) (fun x => (q4x x).trans (by unfold ref01_paints_L0_st ref01_paints_L0_step; simp only [map_cond,map_bindO,map_elim,Option.map_some,Option.map_none]; rfl)) (fun _ _ => rfl) (fun _ _ => rfl) (fun _ _ _ => rfl) (fun _ _ _ => rfl) (fun _ => rfl) (runOf_some.1 h1), by
    first
    | exact h2
    | (rcases o with o | o | o <;> exact h2)⟩
noncomputable def q4A {R : Type} : Loops S R := LE.ls X q4t q4v q4m
theorem q4B {R : Type} : LoopsOk X (q4A (R := R)) := loop_ok xok q4l (e := q4t) q4n q4z q4n
theorem q4C (x0 : List CtPaint) : evFn X q4k [(.sl (.st 3))] [(.int .i64)] q4A 12 105 (x0, ()) = ref01_paints x0:=by kernel_rfl
noncomputable def q4D : F7 S := ⟨[(.sl (.st 3))], [(.int .i64)], fun xs => ref01_paints xs.1⟩
theorem q4E : FSOk X 105 q4D := fsOk_eq (evFn_ok xok q4l q4B 12 105) fun xs _ h => (q4C xs.1).trans h
noncomputable def q4F : List (Nat × F7 S) := [(113, q3q)]
theorem q4G : TabOk X (q4F) := ⟨q3r, trivial⟩
abbrev q4H {R : Type} : Loops S R := noLoops
theorem q4I {R : Type} : LoopsOk X (q4H (R := R)) := noLoops_ok X
def q4J : Key := ⟨[96], 96, none, [0, 0, 1, 0, 1, 1], 0, 3⟩
def q4K : StT S := ⟨(N (N (N (N L vJ L) none L) vJ L) (some (.sl (.st 5) [])) (N (N (N L vJ L) none L) vJ L)), L, 3⟩
def q4L : Way S := ⟨.ret, ⟨(N L none (N L none (N L vJ L))), L, 28⟩, [.int]⟩
def q4M : Way S := ⟨(.exit 0), ⟨v1m, L, 7⟩, [.int]⟩
def q4N : LE S := ⟨q4J, q4K, [.int, .int, (.lst (.st 5)), .int, .int], [q4L, q4M]⟩
def q4O (x : tY) : (Int ⊕ Int) → (Int ⊕ Int) := Sum.elim (fun y0 => (.inl y0)) (fun y1 => (.inr y1))
noncomputable def q4P {R : Type} (x : tY) (k : (Int ⊕ Int) → Option R) : Option R := (ref01_Spread_L0_run x.2.1 x.2.2.1 x.2.2.2.2 (x.1, x.2.2.2.1)).bind (Sum.elim (fun y0 => k (.inl y0)) (fun y1 => k (.inr y1)))
def q4Q (x : tY) (v : (Int × Int)) : tY := (v.1, x.2.1, x.2.2.1, v.2, x.2.2.2.2)
theorem q4R (x : tY) : LE.step X q4N q4F q4H 12 x = ref01_Spread_L0_step x.2.1 x.2.2.1 x.2.2.2.2 x.1 x.2.2.2.1 (fun w0 w1 => (Sum.inl (w0, x.2.1, x.2.2.1, w1, x.2.2.2.2))) (fun p0 => (Sum.inr (.inl p0))) (fun p0 => (Sum.inr (.inr p0))):=by kernel_rfl
theorem q4T {R : Type} (x : tY) (k : (Int ⊕ Int) → Option R) (r : R) (h : q4P x k = some r) : ∃ o, Runs (LE.step X q4N q4F q4H 12) x o ∧ k o = some r := by
  obtain ⟨o, h1, h2⟩ := some_bind h
  exact ⟨q4O x o, small_ok (st := fun (x : tY) => ref01_Spread_L0_st x.2.1 x.2.2.1 x.2.2.2.2) (prj := fun x => (x.1, x.2.2.2.1)) (emb := q4Q) (embO := q4O) (fun x => (q4R x).trans (by unfold ref01_Spread_L0_st ref01_Spread_L0_step; simp only [map_cond,map_bindO,map_elim,Option.map_some,Option.map_none]; rfl)) (fun _ _ => rfl) (fun _ _ => rfl) (fun _ _ _ => rfl) (fun _ _ _ => rfl) (fun _ => rfl) (runOf_some.1 h1), by
    first
    | exact h2
    | (rcases o with o | o <;> exact h2)⟩
noncomputable def q4U {R : Type} : Loops S R := LE.ls X q4N q4P q4H
theorem q4V {R : Type} : LoopsOk X (q4U (R := R)) := loop_ok xok q4G (e := q4N) q4I q4T q4I
theorem q4W (x0 : List Span) (x1 : Int) (x2 : Int) : evFn X q4F [(.sl (.st 5)), (.int .i64), (.int .i64)] [(.int .i64)] q4U 12 96 (x0, x1, x2, ()) = ref01_Spread x0 x1 x2:=by kernel_rfl
noncomputable def q4X : F7 S := ⟨[(.sl (.st 5)), (.int .i64), (.int .i64)], [(.int .i64)], fun xs => ref01_Spread xs.1 xs.2.1 xs.2.2.1⟩
theorem q4Y : FSOk X 96 q4X := fsOk_eq (evFn_ok xok q4G q4V 12 96) fun xs _ h => (q4W xs.1 xs.2.1 xs.2.2.1).trans h
noncomputable def q4Z : List (Nat × F7 S) := [(96, q4X)]
theorem q50 : TabOk X (q4Z) := ⟨q4Y, trivial⟩
abbrev q51 {R : Type} : Loops S R := noLoops
theorem q52 {R : Type} : LoopsOk X (q51 (R := R)) := noLoops_ok X
theorem q53 (x0 : CtBox) (x1 : Int) (x2 : Int) : evFn X q4Z [(.st 6), (.int .i64), (.int .i64)] [(.int .i64)] q51 12 54 (x0, x1, x2, ()) = ref01_Box x0 x1 x2:=by kernel_rfl
noncomputable def q54 : F7 S := ⟨[(.st 6), (.int .i64), (.int .i64)], [(.int .i64)], fun xs => ref01_Box xs.1 xs.2.1 xs.2.2.1⟩
theorem q55 : FSOk X 54 q54 := fsOk_eq (evFn_ok xok q50 q52 12 54) fun xs _ h => (q53 xs.1 xs.2.1 xs.2.2.1).trans h
noncomputable def q56 : List (Nat × F7 S) := []
theorem q57 : TabOk X (q56) := trivial
abbrev q58 {R : Type} : Loops S R := noLoops
theorem q59 {R : Type} : LoopsOk X (q58 (R := R)) := noLoops_ok X
theorem q5a (x0 : Point) (x1 : Point) : evFn X q56 [(.st 2), (.st 2)] [(.st 2)] q58 12 93 (x0, x1, ()) = ref01_Less x0 x1:=by kernel_rfl
noncomputable def q5b : F7 S := ⟨[(.st 2), (.st 2)], [(.st 2)], fun xs => ref01_Less xs.1 xs.2.1⟩
theorem q5c : FSOk X 93 q5b := fsOk_eq (evFn_ok xok q57 q59 12 93) fun xs _ h => (q5a xs.1 xs.2.1).trans h
noncomputable def q5d : List (Nat × F7 S) := []
theorem q5e : TabOk X (q5d) := trivial
abbrev q5f {R : Type} : Loops S R := noLoops
theorem q5g {R : Type} : LoopsOk X (q5f (R := R)) := noLoops_ok X
theorem q5h (x0 : Point) (x1 : Point) : evFn X q5d [(.st 2), (.st 2)] [(.int .i64)] q5f 12 92 (x0, x1, ()) = ref01_Left x0 x1:=by kernel_rfl
noncomputable def q5i : F7 S := ⟨[(.st 2), (.st 2)], [(.int .i64)], fun xs => ref01_Left xs.1 xs.2.1⟩
theorem q5j : FSOk X 92 q5i := fsOk_eq (evFn_ok xok q5e q5g 12 92) fun xs _ h => (q5h xs.1 xs.2.1).trans h
noncomputable def q5k : List (Nat × F7 S) := [(93, q5b), (92, q5i)]
theorem q5l : TabOk X (q5k) := ⟨q5c, q5j, trivial⟩
abbrev q5m {R : Type} : Loops S R := noLoops
theorem q5n {R : Type} : LoopsOk X (q5m (R := R)) := noLoops_ok X
def q5o : Key := ⟨[130], 130, none, [0, 0, 1, 1, 0, 0, 1, 0, 0, 1, 0, 1], 2, 13⟩
def q5p : StT S := ⟨(N (N (N L vJ L) none (N L vJ L)) vH (N (N L vJ L) none L)), L, 13⟩
def q5q : Way S := ⟨.ret, ⟨(N L none (N L vI L)), L, 48⟩, [.bool]⟩
def q5r : Way S := ⟨(.exit 2), ⟨(N (N (N L vJ L) none L) vH L), L, 17⟩, [.int, (.lst (.st 2))]⟩
def q5s : LE S := ⟨q5o, q5p, [.int, .int, (.lst (.st 2)), .int], [q5q, q5r]⟩
def q5t (x : t14) : (Bool ⊕ Unit) → (Bool ⊕ (Int × (List Point))) := Sum.elim (fun y0 => (.inl y0)) (fun y1 => (.inr (x.1, x.2.2.1)))
noncomputable def q5u {R : Type} (x : t14) (k : (Bool ⊕ (Int × (List Point))) → Option R) : Option R := (ref01_round_L1_run x.1 x.2.2.1 x.2.2.2 x.2.1).bind (Sum.elim (fun y0 => k (.inl y0)) (fun y1 => k (.inr (x.1, x.2.2.1))))
def q5v (x : t14) (v : Int) : t14 := (x.1, v, x.2.2.1, x.2.2.2)
theorem q5w (x : t14) : LE.step X q5s q5k q5m 12 x = ref01_round_L1_step x.1 x.2.2.1 x.2.2.2 x.2.1 (fun w0 => (Sum.inl (x.1, w0, x.2.2.1, x.2.2.2))) (fun p0 => (Sum.inr (.inl p0))) (Sum.inr (.inr (x.1, x.2.2.1))):=by kernel_rfl
theorem q5y {R : Type} (x : t14) (k : (Bool ⊕ (Int × (List Point))) → Option R) (r : R) (h : q5u x k = some r) : ∃ o, Runs (LE.step X q5s q5k q5m 12) x o ∧ k o = some r := by
  obtain ⟨o, h1, h2⟩ := some_bind h
  exact ⟨q5t x o, small_ok (st := fun (x : t14) => ref01_round_L1_st x.1 x.2.2.1 x.2.2.2) (prj := fun x => x.2.1) (emb := q5v) (embO := q5t) (fun x => (q5w x).trans (by unfold ref01_round_L1_st ref01_round_L1_step; simp only [map_cond,map_bindO,map_elim,Option.map_some,Option.map_none]; rfl)) (fun _ _ => rfl) (fun _ _ => rfl) (fun _ _ _ => rfl) (fun _ _ _ => rfl) (fun _ => rfl) (runOf_some.1 h1), by
    first
    | exact h2
    | (rcases o with o | o <;> exact h2)⟩
noncomputable def q5z {R : Type} : Loops S R := LE.ls X q5s q5u q5m
theorem q5A {R : Type} : LoopsOk X (q5z (R := R)) := loop_ok xok q5l (e := q5s) q5n q5y q5n
def q5B : Key := ⟨[130], 130, none, [0, 0, 1, 0, 1], 0, 2⟩
def q5C : StT S := ⟨(N (N (N L vJ L) none L) vH L), L, 2⟩
def q5D : Way S := ⟨.ret, ⟨(N L none (N L vI L)), L, 48⟩, [.bool]⟩
def q5E : Way S := ⟨(.exit 0), ⟨L, L, 6⟩, []⟩
def q5F : LE S := ⟨q5B, q5C, [.int, (.lst (.st 2))], [q5D, q5E]⟩
def q5G (x : (Int × (List Point))) : (Bool ⊕ Unit) → (Bool ⊕ Unit) := Sum.elim (fun y0 => (.inl y0)) (fun y1 => (.inr ()))
noncomputable def q5H {R : Type} (x : (Int × (List Point))) (k : (Bool ⊕ Unit) → Option R) : Option R := (ref01_round_L0_run x.2 x.1).bind (Sum.elim (fun y0 => k (.inl y0)) (fun y1 => k (.inr ())))
def q5I (x : (Int × (List Point))) (v : Int) : (Int × (List Point)) := (v, x.2)
theorem q5J (x : (Int × (List Point))) : LE.step X q5F q5k q5z 12 x = ref01_round_L0_step x.2 x.1 (fun w0 => (Sum.inl (w0, x.2))) (fun p0 => (Sum.inr (.inl p0))) (Sum.inr (.inr ())):=by kernel_rfl
theorem q5L {R : Type} (x : (Int × (List Point))) (k : (Bool ⊕ Unit) → Option R) (r : R) (h : q5H x k = some r) : ∃ o, Runs (LE.step X q5F q5k q5z 12) x o ∧ k o = some r := by
  obtain ⟨o, h1, h2⟩ := some_bind h
  exact ⟨q5G x o, small_ok (st := fun (x : (Int × (List Point))) => ref01_round_L0_st x.2) (prj := fun x => x.1) (emb := q5I) (embO := q5G) (fun x => (q5J x).trans (by unfold ref01_round_L0_st ref01_round_L0_step; simp only [map_cond,map_bindO,map_elim,Option.map_some,Option.map_none]; rfl)) (fun _ _ => rfl) (fun _ _ => rfl) (fun _ _ _ => rfl) (fun _ _ _ => rfl) (fun _ => rfl) (runOf_some.1 h1), by
    first
    | exact h2
    | (rcases o with o | o <;> exact h2)⟩
noncomputable def q5M {R : Type} : Loops S R := LE.ls X q5F q5H q5z
theorem q5N {R : Type} : LoopsOk X (q5M (R := R)) := loop_ok xok q5l (e := q5F) q5A q5L q5A
theorem q5O (x0 : List Point) : evFn X q5k [(.sl (.st 2))] [.bool] q5M 12 130 (x0, ()) = ref01_round x0:=by kernel_rfl
noncomputable def q5P : F7 S := ⟨[(.sl (.st 2))], [.bool], fun xs => ref01_round xs.1⟩
theorem q5Q : FSOk X 130 q5P := fsOk_eq (evFn_ok xok q5l q5N 12 130) fun xs _ h => (q5O xs.1).trans h
noncomputable def q5R : List (Nat × F7 S) := [(113, q3q), (78, q4i), (54, q54), (130, q5P)]
theorem q5S : TabOk X (q5R) := ⟨q3r, q4j, q55, q5Q, trivial⟩
abbrev q5T {R : Type} : Loops S R := noLoops
theorem q5U {R : Type} : LoopsOk X (q5T (R := R)) := noLoops_ok X
def q5V : Key := ⟨[106], 106, none, [0, 0, 1, 0, 1, 1], 0, 8⟩
def q5W : StT S := ⟨(N (N (N L vJ L) (some (.ptr 0 0)) L) none L), (N L ol L), 8⟩
def q5X : Way S := ⟨.ret, ⟨(N L none (N L vJ L)), (N L ol L), 21⟩, [.int, (.st 7)]⟩
def q5Y : Way S := ⟨(.exit 0), ⟨(N (N L (some (.ptr 0 0)) L) none L), (N L ol L), 13⟩, [(.st 7)]⟩
def q5Z : LE S := ⟨q5V, q5W, [.int, (.st 7)], [q5X, q5Y]⟩
def q60 (x : (Int × CtSand)) : (Int ⊕ Unit) → ((Int × CtSand) ⊕ CtSand) := Sum.elim (fun y0 => (.inl (y0, x.2))) (fun y1 => (.inr x.2))
noncomputable def q61 {R : Type} (x : (Int × CtSand)) (k : ((Int × CtSand) ⊕ CtSand) → Option R) : Option R := (ref01_sand_L0_run x.2 x.1).bind (Sum.elim (fun y0 => k (.inl (y0, x.2))) (fun y1 => k (.inr x.2)))
def q62 (x : (Int × CtSand)) (v : Int) : (Int × CtSand) := (v, x.2)
theorem q63 (x : (Int × CtSand)) : LE.step X q5Z q5R q5T 12 x = ref01_sand_L0_step x.2 x.1 (fun w0 => (Sum.inl (w0, x.2))) (fun p0 => (Sum.inr (.inl (p0, x.2)))) (Sum.inr (.inr x.2)):=by kernel_rfl
theorem q65 {R : Type} (x : (Int × CtSand)) (k : ((Int × CtSand) ⊕ CtSand) → Option R) (r : R) (h : q61 x k = some r) : ∃ o, Runs (LE.step X q5Z q5R q5T 12) x o ∧ k o = some r := by
  obtain ⟨o, h1, h2⟩ := some_bind h
  exact ⟨q60 x o, small_ok (st := fun (x : (Int × CtSand)) => ref01_sand_L0_st x.2) (prj := fun x => x.1) (emb := q62) (embO := q60) (fun x => (q63 x).trans (by unfold ref01_sand_L0_st ref01_sand_L0_step; simp only [map_cond,map_bindO,map_elim,Option.map_some,Option.map_none]; rfl)) (fun _ _ => rfl) (fun _ _ => rfl) (fun _ _ _ => rfl) (fun _ _ _ => rfl) (fun _ => rfl) (runOf_some.1 h1), by
    first
    | exact h2
    | (rcases o with o | o <;> exact h2)⟩
noncomputable def q66 {R : Type} : Loops S R := LE.ls X q5Z q61 q5T
theorem q67 {R : Type} : LoopsOk X (q66 (R := R)) := loop_ok xok q5S (e := q5Z) q5U q65 q5U
theorem q68 (x0 : CtSand) : evFn X q5R [(.st 7)] [(.int .i64)] q66 12 106 (x0, ()) = ref01_sand x0:=by kernel_rfl
noncomputable def q69 : F7 S := ⟨[(.st 7)], [(.int .i64)], fun xs => ref01_sand xs.1⟩
theorem q6a : FSOk X 106 q69 := fsOk_eq (evFn_ok xok q5S q67 12 106) fun xs _ h => (q68 xs.1).trans h
noncomputable def q6b : List (Nat × F7 S) := [(104, q4b), (78, q4i), (105, q4D), (106, q69)]
theorem q6c : TabOk X (q6b) := ⟨q4c, q4j, q4E, q6a, trivial⟩
abbrev q6d {R : Type} : Loops S R := noLoops
theorem q6e {R : Type} : LoopsOk X (q6d (R := R)) := noLoops_ok X
def q6f : Key := ⟨[63], 63, none, [0, 0, 1, 0, 1, 1, 1], 0, 10⟩
def q6g : StT S := ⟨(N (N L (some (.ptr 0 0)) (N L (some (.rs 10 0)) L)) none (N L none (N L vJ L))), (N L ok o1u), 11⟩
def q6h : Way S := ⟨.ret, ⟨v1l, oZ, 52⟩, [.int, .int, .int, (.lst .str), .nat, (.st 4), (.st 8), (.lst .str), .nat]⟩
def q6i : Way S := ⟨.ret, ⟨v1l, oZ, 55⟩, [.int, .int, .int, (.lst .str), .nat, (.st 4), (.st 8), (.lst .str), .nat]⟩
def q6j : Way S := ⟨.ret, ⟨v1l, oZ, 51⟩, [.int, .int, .int, (.lst .str), .nat, (.st 4), (.st 8), (.lst .str), .nat]⟩
def q6k : Way S := ⟨(.exit 0), ⟨(N (N L (some (.ptr 0 0)) (N L (some (.rs 10 0)) L)) none L), (N L ok o1u), 16⟩, [(.st 8), (.lst .str), .nat]⟩
def q6l : LE S := ⟨q6f, q6g, [.int, (.st 8), (.lst .str), .nat], [q6h, q6i, q6j, q6k]⟩
def q6m (x : tW) : (tG ⊕ tG ⊕ tG ⊕ ((List ByteArray) × Nat)) → t7 := Sum.elim (fun y0 => (.inl (y0.1, y0.2.1, y0.2.2.1, y0.2.2.2.1, y0.2.2.2.2.1, y0.2.2.2.2.2.1, x.2.1, y0.2.2.2.2.2.2.1, y0.2.2.2.2.2.2.2))) (Sum.elim (fun y1 => (.inr (.inl (y1.1, y1.2.1, y1.2.2.1, y1.2.2.2.1, y1.2.2.2.2.1, y1.2.2.2.2.2.1, x.2.1, y1.2.2.2.2.2.2.1, y1.2.2.2.2.2.2.2)))) (Sum.elim (fun y2 => (.inr (.inr (.inl (y2.1, y2.2.1, y2.2.2.1, y2.2.2.2.1, y2.2.2.2.2.1, y2.2.2.2.2.2.1, x.2.1, y2.2.2.2.2.2.2.1, y2.2.2.2.2.2.2.2))))) (fun y3 => (.inr (.inr (.inr (x.2.1, y3.1, y3.2)))))))
noncomputable def q6n {R : Type} (x : tW) (k : t7 → Option R) : Option R := (ref01_Check_L0_run x.2.1 (x.1, x.2.2.1, x.2.2.2)).bind (Sum.elim (fun y0 => k (.inl (y0.1, y0.2.1, y0.2.2.1, y0.2.2.2.1, y0.2.2.2.2.1, y0.2.2.2.2.2.1, x.2.1, y0.2.2.2.2.2.2.1, y0.2.2.2.2.2.2.2))) (Sum.elim (fun y1 => k (.inr (.inl (y1.1, y1.2.1, y1.2.2.1, y1.2.2.2.1, y1.2.2.2.2.1, y1.2.2.2.2.2.1, x.2.1, y1.2.2.2.2.2.2.1, y1.2.2.2.2.2.2.2)))) (Sum.elim (fun y2 => k (.inr (.inr (.inl (y2.1, y2.2.1, y2.2.2.1, y2.2.2.2.1, y2.2.2.2.2.1, y2.2.2.2.2.2.1, x.2.1, y2.2.2.2.2.2.2.1, y2.2.2.2.2.2.2.2))))) (fun y3 => k (.inr (.inr (.inr (x.2.1, y3.1, y3.2))))))))
def q6o (x : tW) (v : (Int × (List ByteArray) × Nat)) : tW := (v.1, x.2.1, v.2.1, v.2.2)
theorem q6p (x : tW) : LE.step X q6l q6b q6d 12 x = ref01_Check_L0_step x.2.1 x.1 x.2.2.1 x.2.2.2 (fun w0 w1 w2 => (Sum.inl (w0, x.2.1, w1, w2))) (fun p0 p1 p2 p3 p4 p5 p6 p7 => (Sum.inr (.inl (p0, p1, p2, p3, p4, p5, x.2.1, p6, p7)))) (fun p0 p1 p2 p3 p4 p5 p6 p7 => (Sum.inr (.inr (.inl (p0, p1, p2, p3, p4, p5, x.2.1, p6, p7))))) (fun p0 p1 p2 p3 p4 p5 p6 p7 => (Sum.inr (.inr (.inr (.inl (p0, p1, p2, p3, p4, p5, x.2.1, p6, p7)))))) (fun p0 p1 => (Sum.inr (.inr (.inr (.inr (x.2.1, p0, p1)))))):=by kernel_rfl
theorem q6r {R : Type} (x : tW) (k : t7 → Option R) (r : R) (h : q6n x k = some r) : ∃ o, Runs (LE.step X q6l q6b q6d 12) x o ∧ k o = some r := by
  obtain ⟨o, h1, h2⟩ := some_bind h
  exact ⟨q6m x o, small_ok (st := fun (x : tW) => ref01_Check_L0_st x.2.1) (prj := fun x => (x.1, x.2.2.1, x.2.2.2)) (emb := q6o) (embO := q6m) (fun x => (q6p x).trans (by unfold ref01_Check_L0_st ref01_Check_L0_step; simp only [map_cond,map_bindO,map_elim,Option.map_some,Option.map_none]; rfl)) (fun _ _ => rfl) (fun _ _ => rfl) (fun _ _ _ => rfl) (fun _ _ _ => rfl) (fun _ => rfl) (runOf_some.1 h1), by
    first
    | exact h2
    | (rcases o with o | o | o | o <;> exact h2)⟩
noncomputable def q6s {R : Type} : Loops S R := LE.ls X q6l q6n q6d
theorem q6t {R : Type} : LoopsOk X (q6s (R := R)) := loop_ok xok q6c (e := q6l) q6e q6r q6e
def q6u : Key := ⟨[63], 63, none, [0, 0, 1, 0, 1, 1, 1, 1, 1], 2, 21⟩
def q6v : StT S := ⟨(N (N L (some (.ptr 0 0)) (N (N L vJ L) (some (.rs 21 0)) L)) none L), (N (N L none o1u) ok L), 22⟩
def q6w : Way S := ⟨.ret, ⟨v1l, o13, 62⟩, [.int, .int, .int, (.lst .str), .nat, (.lst .str), .nat, (.st 8)]⟩
def q6x : Way S := ⟨.ret, ⟨v1l, o13, 55⟩, [.int, .int, .int, (.lst .str), .nat, (.lst .str), .nat, (.st 8)]⟩
def q6y : Way S := ⟨(.exit 2), ⟨L, (N (N L none o1u) ok L), 27⟩, [(.lst .str), .nat, (.st 8)]⟩
def q6z : LE S := ⟨q6u, q6v, [.int, (.lst .str), .nat, (.st 8)], [q6w, q6x, q6y]⟩
def q6A (x : tX) : ((Int × Int × Int × (List ByteArray) × Nat × (List ByteArray) × Nat) ⊕ (Int × Int × Int × (List ByteArray) × Nat × (List ByteArray) × Nat) ⊕ ((List ByteArray) × Nat)) → tg := Sum.elim (fun y0 => (.inl (y0.1, y0.2.1, y0.2.2.1, y0.2.2.2.1, y0.2.2.2.2.1, y0.2.2.2.2.2.1, y0.2.2.2.2.2.2, x.2.2.2))) (Sum.elim (fun y1 => (.inr (.inl (y1.1, y1.2.1, y1.2.2.1, y1.2.2.2.1, y1.2.2.2.2.1, y1.2.2.2.2.2.1, y1.2.2.2.2.2.2, x.2.2.2)))) (fun y2 => (.inr (.inr (y2.1, y2.2, x.2.2.2)))))
noncomputable def q6B {R : Type} (x : tX) (k : tg → Option R) : Option R := (ref01_Check_L1_run x.2.2.2 (x.1, x.2.1, x.2.2.1)).bind (Sum.elim (fun y0 => k (.inl (y0.1, y0.2.1, y0.2.2.1, y0.2.2.2.1, y0.2.2.2.2.1, y0.2.2.2.2.2.1, y0.2.2.2.2.2.2, x.2.2.2))) (Sum.elim (fun y1 => k (.inr (.inl (y1.1, y1.2.1, y1.2.2.1, y1.2.2.2.1, y1.2.2.2.2.1, y1.2.2.2.2.2.1, y1.2.2.2.2.2.2, x.2.2.2)))) (fun y2 => k (.inr (.inr (y2.1, y2.2, x.2.2.2))))))
def q6C (x : tX) (v : (Int × (List ByteArray) × Nat)) : tX := (v.1, v.2.1, v.2.2, x.2.2.2)
theorem q6D (x : tX) : LE.step X q6z q6b q6s 12 x = ref01_Check_L1_step x.2.2.2 x.1 x.2.1 x.2.2.1 (fun w0 w1 w2 => (Sum.inl (w0, w1, w2, x.2.2.2))) (fun p0 p1 p2 p3 p4 p5 p6 => (Sum.inr (.inl (p0, p1, p2, p3, p4, p5, p6, x.2.2.2)))) (fun p0 p1 p2 p3 p4 p5 p6 => (Sum.inr (.inr (.inl (p0, p1, p2, p3, p4, p5, p6, x.2.2.2))))) (fun p0 p1 => (Sum.inr (.inr (.inr (p0, p1, x.2.2.2))))):=by kernel_rfl
theorem q6F {R : Type} (x : tX) (k : tg → Option R) (r : R) (h : q6B x k = some r) : ∃ o, Runs (LE.step X q6z q6b q6s 12) x o ∧ k o = some r := by
  obtain ⟨o, h1, h2⟩ := some_bind h
  exact ⟨q6A x o, small_ok (st := fun (x : tX) => ref01_Check_L1_st x.2.2.2) (prj := fun x => (x.1, x.2.1, x.2.2.1)) (emb := q6C) (embO := q6A) (fun x => (q6D x).trans (by unfold ref01_Check_L1_st ref01_Check_L1_step; simp only [map_cond,map_bindO,map_elim,Option.map_some,Option.map_none]; rfl)) (fun _ _ => rfl) (fun _ _ => rfl) (fun _ _ _ => rfl) (fun _ _ _ => rfl) (fun _ => rfl) (runOf_some.1 h1), by
    first
    | exact h2
    | (rcases o with o | o | o <;> exact h2)⟩
noncomputable def q6G {R : Type} : Loops S R := LE.ls X q6z q6B q6s
theorem q6H {R : Type} : LoopsOk X (q6G (R := R)) := loop_ok xok q6c (e := q6z) q6t q6F q6t
theorem q6I (x0 : CtChart) : evFn X q6b [(.st 8)] [(.int .i64), (.int .i64), (.int .i64)] q6G 12 63 (x0, ()) = ref01_Check x0:=by kernel_rfl
noncomputable def q6J : F7 S := ⟨[(.st 8)], [(.int .i64), (.int .i64), (.int .i64)], fun xs => ref01_Check xs.1⟩
theorem q6K : FSOk X 63 q6J := fsOk_eq (evFn_ok xok q6c q6H 12 63) fun xs _ h => (q6I xs.1).trans h
noncomputable def q6L : List (Nat × F7 S) := [(96, q4X)]
theorem q6M : TabOk X (q6L) := ⟨q4Y, trivial⟩
abbrev q6N {R : Type} : Loops S R := noLoops
theorem q6O {R : Type} : LoopsOk X (q6N (R := R)) := noLoops_ok X
theorem q6P (x0 : CtBox) : evFn X q6L [(.st 6)] [(.int .i64)] q6N 12 64 (x0, ()) = ref04_box x0:=by kernel_rfl
noncomputable def q6Q : F7 S := ⟨[(.st 6)], [(.int .i64)], fun xs => ref04_box xs.1⟩
theorem q6R : FSOk X 64 q6Q := fsOk_eq (evFn_ok xok q6M q6O 12 64) fun xs _ h => (q6P xs.1).trans h
noncomputable def q6S : List (Nat × F7 S) := [(96, q4X)]
theorem q6T : TabOk X (q6S) := ⟨q4Y, trivial⟩
abbrev q6U {R : Type} : Loops S R := noLoops
theorem q6V {R : Type} : LoopsOk X (q6U (R := R)) := noLoops_ok X
theorem q6W (x0 : Span) (x1 : Int) (x2 : Int) : evFn X q6S [(.st 5), (.int .i64), (.int .i64)] [(.int .i64)] q6U 12 65 (x0, x1, x2, ()) = ref01_Range x0 x1 x2:=by kernel_rfl
noncomputable def q6X : F7 S := ⟨[(.st 5), (.int .i64), (.int .i64)], [(.int .i64)], fun xs => ref01_Range xs.1 xs.2.1 xs.2.2.1⟩
theorem q6Y : FSOk X 65 q6X := fsOk_eq (evFn_ok xok q6T q6V 12 65) fun xs _ h => (q6W xs.1 xs.2.1 xs.2.2.1).trans h
noncomputable def q6Z : List (Nat × F7 S) := []
theorem q70 : TabOk X (q6Z) := trivial
abbrev q71 {R : Type} : Loops S R := noLoops
theorem q72 {R : Type} : LoopsOk X (q71 (R := R)) := noLoops_ok X
theorem q73 (x0 : Int) (x1 : Int) (x2 : Int) : evFn X q6Z [(.int .i64), (.int .i64), (.int .i64)] [.bool] q71 12 66 (x0, x1, x2, ()) = ref04_in x0 x1 x2:=by kernel_rfl
noncomputable def q74 : F7 S := ⟨[(.int .i64), (.int .i64), (.int .i64)], [.bool], fun xs => ref04_in xs.1 xs.2.1 xs.2.2.1⟩
theorem q75 : FSOk X 66 q74 := fsOk_eq (evFn_ok xok q70 q72 12 66) fun xs _ h => (q73 xs.1 xs.2.1 xs.2.2.1).trans h
noncomputable def q76 : List (Nat × F7 S) := [(63, q6J), (64, q6Q), (65, q6X), (66, q74)]
theorem q77 : TabOk X (q76) := ⟨q6K, q6R, q6Y, q75, trivial⟩
abbrev q78 {R : Type} : Loops S R := noLoops
theorem q79 {R : Type} : LoopsOk X (q78 (R := R)) := noLoops_ok X
theorem q7a (x0 : SgMooring) : evFn X q76 [(.st 9)] [(.int .i64), (.int .i64)] q78 12 18 (x0, ()) = ref04_Check x0:=by kernel_rfl
noncomputable def q7b : F7 S := ⟨[(.st 9)], [(.int .i64), (.int .i64)], fun xs => ref04_Check xs.1⟩
theorem q7c : FSOk X 18 q7b := fsOk_eq (evFn_ok xok q77 q79 12 18) fun xs _ h => (q7a xs.1).trans h
noncomputable def q7d : List (Nat × F7 S) := [(17, q3j), (61, q3c), (62, q35)]
theorem q7e : TabOk X (q7d) := ⟨q3k, q3d, q36, trivial⟩
abbrev q7f {R : Type} : Loops S R := noLoops
theorem q7g {R : Type} : LoopsOk X (q7f (R := R)) := noLoops_ok X
def q7h : Key := ⟨[67, 2, 6, 19], 67, none, [0, 0, 1, 0, 1], 0, 27⟩
def q7i : StT S := ⟨(N (N (N L none (N L vJ L)) (some (.fn (.func 68) [] [(.ptr 1 0)])) (N (N L vG L) none L)) none v1r), (N (N L op L) om L), 27⟩
def q7j : Way S := ⟨.ret, ⟨v1j, (N o1d om L), 73⟩, [.int, .int, (.st 10), (.st 10), (.lst (.st 10)), (.st 9)]⟩
def q7k : Way S := ⟨.ret, ⟨v1j, (N o1d om (N L none (N o1v none L))), 73⟩, [.int, .int, (.st 10), (.st 10), (.lst (.st 10)), (.st 9), (.lst (.int .i64)), .nat]⟩
def q7l : Way S := ⟨.ret, ⟨v1j, (N o1d om (N (N (N L none (N L none (N L ot L))) none L) none (N o1v none L))), 73⟩, [.int, .int, (.st 10), (.st 10), (.lst (.st 10)), (.st 9), (.lst (.int .i64)), .nat, (.lst (.int .i64)), .nat]⟩
def q7m : Way S := ⟨.ret, ⟨v1j, oS, 73⟩, [.int, .int, (.st 10), (.st 10), (.lst (.st 10)), (.st 9), (.lst (.int .i64)), .nat, (.lst (.int .i64)), .nat, (.lst (.int .i64)), .nat]⟩
def q7n : Way S := ⟨.ret, ⟨v1j, oS, 91⟩, [.int, .int, (.st 10), (.st 10), (.lst (.st 10)), (.st 9), (.lst (.int .i64)), .nat, (.lst (.int .i64)), .nat, (.lst (.int .i64)), .nat]⟩
def q7o : Way S := ⟨.ret, ⟨v1j, oS, 92⟩, [.int, .int, (.st 10), (.st 10), (.lst (.st 10)), (.st 9), (.lst (.int .i64)), .nat, (.lst (.int .i64)), .nat, (.lst (.int .i64)), .nat]⟩
def q7p : Way S := ⟨(.exit 0), ⟨L, (N (N L op L) om L), 28⟩, [(.lst (.st 10)), (.st 9)]⟩
def q7q : LE S := ⟨q7h, q7i, [.int, (.lst (.st 10)), .int, (.lst (.st 10)), (.st 9)], [q7j, q7k, q7l, q7m, q7n, q7o, q7p]⟩
def q7r (x : tO) : ((Int × Int × SgLook × SgLook) ⊕ (Int × Int × SgLook × SgLook × (List Int) × Nat) ⊕ (Int × Int × SgLook × SgLook × (List Int) × Nat × (List Int) × Nat) ⊕ tA ⊕ tA ⊕ tA ⊕ Unit) → t2 := Sum.elim (fun y0 => (.inl (y0.1, y0.2.1, y0.2.2.1, y0.2.2.2, x.2.2.2.1, x.2.2.2.2))) (Sum.elim (fun y1 => (.inr (.inl (y1.1, y1.2.1, y1.2.2.1, y1.2.2.2.1, x.2.2.2.1, x.2.2.2.2, y1.2.2.2.2.1, y1.2.2.2.2.2)))) (Sum.elim (fun y2 => (.inr (.inr (.inl (y2.1, y2.2.1, y2.2.2.1, y2.2.2.2.1, x.2.2.2.1, x.2.2.2.2, y2.2.2.2.2.1, y2.2.2.2.2.2.1, y2.2.2.2.2.2.2.1, y2.2.2.2.2.2.2.2))))) (Sum.elim (fun y3 => (.inr (.inr (.inr (.inl (y3.1, y3.2.1, y3.2.2.1, y3.2.2.2.1, x.2.2.2.1, x.2.2.2.2, y3.2.2.2.2.1, y3.2.2.2.2.2.1, y3.2.2.2.2.2.2.1, y3.2.2.2.2.2.2.2.1, y3.2.2.2.2.2.2.2.2.1, y3.2.2.2.2.2.2.2.2.2)))))) (Sum.elim (fun y4 => (.inr (.inr (.inr (.inr (.inl (y4.1, y4.2.1, y4.2.2.1, y4.2.2.2.1, x.2.2.2.1, x.2.2.2.2, y4.2.2.2.2.1, y4.2.2.2.2.2.1, y4.2.2.2.2.2.2.1, y4.2.2.2.2.2.2.2.1, y4.2.2.2.2.2.2.2.2.1, y4.2.2.2.2.2.2.2.2.2))))))) (Sum.elim (fun y5 => (.inr (.inr (.inr (.inr (.inr (.inl (y5.1, y5.2.1, y5.2.2.1, y5.2.2.2.1, x.2.2.2.1, x.2.2.2.2, y5.2.2.2.2.1, y5.2.2.2.2.2.1, y5.2.2.2.2.2.2.1, y5.2.2.2.2.2.2.2.1, y5.2.2.2.2.2.2.2.2.1, y5.2.2.2.2.2.2.2.2.2)))))))) (fun y6 => (.inr (.inr (.inr (.inr (.inr (.inr (x.2.2.2.1, x.2.2.2.2)))))))))))))
noncomputable def q7s {R : Type} (x : tO) (k : t2 → Option R) : Option R := (swing_CheckLooks_L0_run x.2.1 x.2.2.1 x.2.2.2.1 x.2.2.2.2 x.1).bind (Sum.elim (fun y0 => k (.inl (y0.1, y0.2.1, y0.2.2.1, y0.2.2.2, x.2.2.2.1, x.2.2.2.2))) (Sum.elim (fun y1 => k (.inr (.inl (y1.1, y1.2.1, y1.2.2.1, y1.2.2.2.1, x.2.2.2.1, x.2.2.2.2, y1.2.2.2.2.1, y1.2.2.2.2.2)))) (Sum.elim (fun y2 => k (.inr (.inr (.inl (y2.1, y2.2.1, y2.2.2.1, y2.2.2.2.1, x.2.2.2.1, x.2.2.2.2, y2.2.2.2.2.1, y2.2.2.2.2.2.1, y2.2.2.2.2.2.2.1, y2.2.2.2.2.2.2.2))))) (Sum.elim (fun y3 => k (.inr (.inr (.inr (.inl (y3.1, y3.2.1, y3.2.2.1, y3.2.2.2.1, x.2.2.2.1, x.2.2.2.2, y3.2.2.2.2.1, y3.2.2.2.2.2.1, y3.2.2.2.2.2.2.1, y3.2.2.2.2.2.2.2.1, y3.2.2.2.2.2.2.2.2.1, y3.2.2.2.2.2.2.2.2.2)))))) (Sum.elim (fun y4 => k (.inr (.inr (.inr (.inr (.inl (y4.1, y4.2.1, y4.2.2.1, y4.2.2.2.1, x.2.2.2.1, x.2.2.2.2, y4.2.2.2.2.1, y4.2.2.2.2.2.1, y4.2.2.2.2.2.2.1, y4.2.2.2.2.2.2.2.1, y4.2.2.2.2.2.2.2.2.1, y4.2.2.2.2.2.2.2.2.2))))))) (Sum.elim (fun y5 => k (.inr (.inr (.inr (.inr (.inr (.inl (y5.1, y5.2.1, y5.2.2.1, y5.2.2.2.1, x.2.2.2.1, x.2.2.2.2, y5.2.2.2.2.1, y5.2.2.2.2.2.1, y5.2.2.2.2.2.2.1, y5.2.2.2.2.2.2.2.1, y5.2.2.2.2.2.2.2.2.1, y5.2.2.2.2.2.2.2.2.2)))))))) (fun y6 => k (.inr (.inr (.inr (.inr (.inr (.inr (x.2.2.2.1, x.2.2.2.2))))))))))))))
def q7t (x : tO) (v : Int) : tO := (v, x.2.1, x.2.2.1, x.2.2.2.1, x.2.2.2.2)
theorem q7u (x : tO) : LE.step X q7q q7d q7f 12 x = swing_CheckLooks_L0_step x.2.1 x.2.2.1 x.2.2.2.1 x.2.2.2.2 x.1 (fun w0 => (Sum.inl (w0, x.2.1, x.2.2.1, x.2.2.2.1, x.2.2.2.2))) (fun p0 p1 p2 p3 => (Sum.inr (.inl (p0, p1, p2, p3, x.2.2.2.1, x.2.2.2.2)))) (fun p0 p1 p2 p3 p4 p5 => (Sum.inr (.inr (.inl (p0, p1, p2, p3, x.2.2.2.1, x.2.2.2.2, p4, p5))))) (fun p0 p1 p2 p3 p4 p5 p6 p7 => (Sum.inr (.inr (.inr (.inl (p0, p1, p2, p3, x.2.2.2.1, x.2.2.2.2, p4, p5, p6, p7)))))) (fun p0 p1 p2 p3 p4 p5 p6 p7 p8 p9 => (Sum.inr (.inr (.inr (.inr (.inl (p0, p1, p2, p3, x.2.2.2.1, x.2.2.2.2, p4, p5, p6, p7, p8, p9))))))) (fun p0 p1 p2 p3 p4 p5 p6 p7 p8 p9 => (Sum.inr (.inr (.inr (.inr (.inr (.inl (p0, p1, p2, p3, x.2.2.2.1, x.2.2.2.2, p4, p5, p6, p7, p8, p9)))))))) (fun p0 p1 p2 p3 p4 p5 p6 p7 p8 p9 => (Sum.inr (.inr (.inr (.inr (.inr (.inr (.inl (p0, p1, p2, p3, x.2.2.2.1, x.2.2.2.2, p4, p5, p6, p7, p8, p9))))))))) (Sum.inr (.inr (.inr (.inr (.inr (.inr (.inr (x.2.2.2.1, x.2.2.2.2)))))))):=by kernel_rfl
theorem q7w {R : Type} (x : tO) (k : t2 → Option R) (r : R) (h : q7s x k = some r) : ∃ o, Runs (LE.step X q7q q7d q7f 12) x o ∧ k o = some r := by
  obtain ⟨o, h1, h2⟩ := some_bind h
  exact ⟨q7r x o, small_ok (st := fun (x : tO) => swing_CheckLooks_L0_st x.2.1 x.2.2.1 x.2.2.2.1 x.2.2.2.2) (prj := fun x => x.1) (emb := q7t) (embO := q7r) (fun x => (q7u x).trans (by unfold swing_CheckLooks_L0_st swing_CheckLooks_L0_step; simp only [map_cond,map_bindO,map_elim,Option.map_some,Option.map_none]; rfl)) (fun _ _ => rfl) (fun _ _ => rfl) (fun _ _ _ => rfl) (fun _ _ _ => rfl) (fun _ => rfl) (runOf_some.1 h1), by
    first
    | exact h2
    | (rcases o with o | o | o | o | o | o | o <;> exact h2)⟩
noncomputable def q7x {R : Type} : Loops S R := LE.ls X q7q q7s q7f
theorem q7y {R : Type} : LoopsOk X (q7x (R := R)) := loop_ok xok q7e (e := q7q) q7g q7w q7g
theorem q7z (x0 : SgMooring) (x1 : List SgLook) : evFn X q7d [(.st 9), (.sl (.st 10))] [(.int .i64), (.int .i64)] q7x 12 19 (x0, x1, ()) = swing_CheckLooks x0 x1:=by kernel_rfl
noncomputable def q7A : F7 S := ⟨[(.st 9), (.sl (.st 10))], [(.int .i64), (.int .i64)], fun xs => swing_CheckLooks xs.1 xs.2.1⟩
theorem q7B : FSOk X 19 q7A := fsOk_eq (evFn_ok xok q7e q7y 12 19) fun xs _ h => (q7z xs.1 xs.2.1).trans h
noncomputable def q7C : List (Nat × F7 S) := []
theorem q7D : TabOk X (q7C) := trivial
abbrev q7E {R : Type} : Loops S R := noLoops
theorem q7F {R : Type} : LoopsOk X (q7E (R := R)) := noLoops_ok X
def q7G : Key := ⟨[108, 0, 76], 108, none, [0, 0, 1, 0, 0, 1, 0, 0, 1, 1], 2, 28⟩
def q7H : StT S := ⟨(N (N (N L vJ L) (some (.ptr 9 0)) (N L vJ L)) (some (.yld 13)) (N (N L vJ L) none L)), o1f, 28⟩
def q7I : Way S := ⟨(.exit 2), ⟨v1b, o1f, 33⟩, [.int, .int, .int, .int, .int, .int, .int, .int, .int, (.arr (.int .u64)), (.st 6), (.st 9), (.st 9), (.st 14)]⟩
def q7J : LE S := ⟨q7G, q7H, [.int, .int, .int, .int, .int, .int, .int, .int, .int, .int, (.arr (.int .u64)), (.st 6), (.st 9), (.st 9), (.st 14)], [q7I]⟩
def q7K (x : tt) : (Int × swing_mooring) → tu := fun y0 => (y0.1, x.2.2.1, x.2.2.2.1, x.2.2.2.2.1, x.2.2.2.2.2.1, x.2.2.2.2.2.2.1, x.2.2.2.2.2.2.2.1, x.2.2.2.2.2.2.2.2.1, x.2.2.2.2.2.2.2.2.2.1, x.2.2.2.2.2.2.2.2.2.2.1, x.2.2.2.2.2.2.2.2.2.2.2.1, x.2.2.2.2.2.2.2.2.2.2.2.2.1, x.2.2.2.2.2.2.2.2.2.2.2.2.2.1, y0.2)
noncomputable def q7L {R : Type} (x : tt) (k : tu → Option R) : Option R := (swing_open_L1_run x.2.2.1 x.2.2.2.1 x.2.2.2.2.1 x.2.2.2.2.2.1 x.2.2.2.2.2.2.1 x.2.2.2.2.2.2.2.1 x.2.2.2.2.2.2.2.2.1 x.2.2.2.2.2.2.2.2.2.1 x.2.2.2.2.2.2.2.2.2.2.1 x.2.2.2.2.2.2.2.2.2.2.2.1 x.2.2.2.2.2.2.2.2.2.2.2.2.1 x.2.2.2.2.2.2.2.2.2.2.2.2.2.1 (x.1, x.2.1, x.2.2.2.2.2.2.2.2.2.2.2.2.2.2)).bind (fun y0 => k (y0.1, x.2.2.1, x.2.2.2.1, x.2.2.2.2.1, x.2.2.2.2.2.1, x.2.2.2.2.2.2.1, x.2.2.2.2.2.2.2.1, x.2.2.2.2.2.2.2.2.1, x.2.2.2.2.2.2.2.2.2.1, x.2.2.2.2.2.2.2.2.2.2.1, x.2.2.2.2.2.2.2.2.2.2.2.1, x.2.2.2.2.2.2.2.2.2.2.2.2.1, x.2.2.2.2.2.2.2.2.2.2.2.2.2.1, y0.2))
def q7M (x : tt) (v : (Int × Int × swing_mooring)) : tt := (v.1, v.2.1, x.2.2.1, x.2.2.2.1, x.2.2.2.2.1, x.2.2.2.2.2.1, x.2.2.2.2.2.2.1, x.2.2.2.2.2.2.2.1, x.2.2.2.2.2.2.2.2.1, x.2.2.2.2.2.2.2.2.2.1, x.2.2.2.2.2.2.2.2.2.2.1, x.2.2.2.2.2.2.2.2.2.2.2.1, x.2.2.2.2.2.2.2.2.2.2.2.2.1, x.2.2.2.2.2.2.2.2.2.2.2.2.2.1, v.2.2)
theorem q7N (x : tt) : LE.step X q7J q7C q7E 12 x = swing_open_L1_step x.2.2.1 x.2.2.2.1 x.2.2.2.2.1 x.2.2.2.2.2.1 x.2.2.2.2.2.2.1 x.2.2.2.2.2.2.2.1 x.2.2.2.2.2.2.2.2.1 x.2.2.2.2.2.2.2.2.2.1 x.2.2.2.2.2.2.2.2.2.2.1 x.2.2.2.2.2.2.2.2.2.2.2.1 x.2.2.2.2.2.2.2.2.2.2.2.2.1 x.2.2.2.2.2.2.2.2.2.2.2.2.2.1 x.1 x.2.1 x.2.2.2.2.2.2.2.2.2.2.2.2.2.2 (fun w0 w1 w2 => (Sum.inl (w0, w1, x.2.2.1, x.2.2.2.1, x.2.2.2.2.1, x.2.2.2.2.2.1, x.2.2.2.2.2.2.1, x.2.2.2.2.2.2.2.1, x.2.2.2.2.2.2.2.2.1, x.2.2.2.2.2.2.2.2.2.1, x.2.2.2.2.2.2.2.2.2.2.1, x.2.2.2.2.2.2.2.2.2.2.2.1, x.2.2.2.2.2.2.2.2.2.2.2.2.1, x.2.2.2.2.2.2.2.2.2.2.2.2.2.1, w2))) (fun p0 p1 => (Sum.inr (p0, x.2.2.1, x.2.2.2.1, x.2.2.2.2.1, x.2.2.2.2.2.1, x.2.2.2.2.2.2.1, x.2.2.2.2.2.2.2.1, x.2.2.2.2.2.2.2.2.1, x.2.2.2.2.2.2.2.2.2.1, x.2.2.2.2.2.2.2.2.2.2.1, x.2.2.2.2.2.2.2.2.2.2.2.1, x.2.2.2.2.2.2.2.2.2.2.2.2.1, x.2.2.2.2.2.2.2.2.2.2.2.2.2.1, p1))):=by kernel_rfl
theorem q7P {R : Type} (x : tt) (k : tu → Option R) (r : R) (h : q7L x k = some r) : ∃ o, Runs (LE.step X q7J q7C q7E 12) x o ∧ k o = some r := by
  obtain ⟨o, h1, h2⟩ := some_bind h
  exact ⟨q7K x o, small_ok (st := fun (x : tt) => swing_open_L1_st x.2.2.1 x.2.2.2.1 x.2.2.2.2.1 x.2.2.2.2.2.1 x.2.2.2.2.2.2.1 x.2.2.2.2.2.2.2.1 x.2.2.2.2.2.2.2.2.1 x.2.2.2.2.2.2.2.2.2.1 x.2.2.2.2.2.2.2.2.2.2.1 x.2.2.2.2.2.2.2.2.2.2.2.1 x.2.2.2.2.2.2.2.2.2.2.2.2.1 x.2.2.2.2.2.2.2.2.2.2.2.2.2.1) (prj := fun x => (x.1, x.2.1, x.2.2.2.2.2.2.2.2.2.2.2.2.2.2)) (emb := q7M) (embO := q7K) (fun x => (q7N x).trans (by unfold swing_open_L1_st swing_open_L1_step; simp only [map_cond,map_bindO,map_elim,Option.map_some,Option.map_none]; rfl)) (fun _ _ => rfl) (fun _ _ => rfl) (fun _ _ _ => rfl) (fun _ _ _ => rfl) (fun _ => rfl) (runOf_some.1 h1), by
    first
    | exact h2
    | (rcases o with o <;> exact h2)⟩
noncomputable def q7Q {R : Type} : Loops S R := LE.ls X q7J q7L q7E
theorem q7R {R : Type} : LoopsOk X (q7Q (R := R)) := loop_ok xok q7D (e := q7J) q7F q7P q7F
def q7S : Key := ⟨[108, 0, 76], 108, none, [0, 0, 1, 1], 0, 19⟩
def q7T : StT S := ⟨v1b, o1f, 19⟩
def q7U : Way S := ⟨(.exit 0), ⟨L, o1f, 24⟩, [.int, .int, .int, .int, .int, .int, .int, (.arr (.int .u64)), (.st 6), (.st 9), (.st 9), (.st 14)]⟩
def q7V : LE S := ⟨q7S, q7T, [.int, .int, .int, .int, .int, .int, .int, .int, .int, (.arr (.int .u64)), (.st 6), (.st 9), (.st 9), (.st 14)], [q7U]⟩
def q7W (x : tu) : swing_mooring → tx := fun y0 => (x.2.2.1, x.2.2.2.1, x.2.2.2.2.1, x.2.2.2.2.2.1, x.2.2.2.2.2.2.1, x.2.2.2.2.2.2.2.1, x.2.2.2.2.2.2.2.2.1, x.2.2.2.2.2.2.2.2.2.1, x.2.2.2.2.2.2.2.2.2.2.1, x.2.2.2.2.2.2.2.2.2.2.2.1, x.2.2.2.2.2.2.2.2.2.2.2.2.1, y0)
noncomputable def q7X {R : Type} (x : tu) (k : tx → Option R) : Option R := (swing_open_L0_run x.2.2.1 x.2.2.2.1 x.2.2.2.2.1 x.2.2.2.2.2.1 x.2.2.2.2.2.2.1 x.2.2.2.2.2.2.2.1 x.2.2.2.2.2.2.2.2.1 x.2.2.2.2.2.2.2.2.2.1 x.2.2.2.2.2.2.2.2.2.2.1 x.2.2.2.2.2.2.2.2.2.2.2.1 x.2.2.2.2.2.2.2.2.2.2.2.2.1 (x.1, x.2.1, x.2.2.2.2.2.2.2.2.2.2.2.2.2)).bind (fun y0 => k (x.2.2.1, x.2.2.2.1, x.2.2.2.2.1, x.2.2.2.2.2.1, x.2.2.2.2.2.2.1, x.2.2.2.2.2.2.2.1, x.2.2.2.2.2.2.2.2.1, x.2.2.2.2.2.2.2.2.2.1, x.2.2.2.2.2.2.2.2.2.2.1, x.2.2.2.2.2.2.2.2.2.2.2.1, x.2.2.2.2.2.2.2.2.2.2.2.2.1, y0))
def q7Y (x : tu) (v : (Int × Int × swing_mooring)) : tu := (v.1, v.2.1, x.2.2.1, x.2.2.2.1, x.2.2.2.2.1, x.2.2.2.2.2.1, x.2.2.2.2.2.2.1, x.2.2.2.2.2.2.2.1, x.2.2.2.2.2.2.2.2.1, x.2.2.2.2.2.2.2.2.2.1, x.2.2.2.2.2.2.2.2.2.2.1, x.2.2.2.2.2.2.2.2.2.2.2.1, x.2.2.2.2.2.2.2.2.2.2.2.2.1, v.2.2)
theorem q7Z (x : tu) : LE.step X q7V q7C q7Q 12 x = swing_open_L0_step x.2.2.1 x.2.2.2.1 x.2.2.2.2.1 x.2.2.2.2.2.1 x.2.2.2.2.2.2.1 x.2.2.2.2.2.2.2.1 x.2.2.2.2.2.2.2.2.1 x.2.2.2.2.2.2.2.2.2.1 x.2.2.2.2.2.2.2.2.2.2.1 x.2.2.2.2.2.2.2.2.2.2.2.1 x.2.2.2.2.2.2.2.2.2.2.2.2.1 x.1 x.2.1 x.2.2.2.2.2.2.2.2.2.2.2.2.2 (fun w0 w1 w2 => (Sum.inl (w0, w1, x.2.2.1, x.2.2.2.1, x.2.2.2.2.1, x.2.2.2.2.2.1, x.2.2.2.2.2.2.1, x.2.2.2.2.2.2.2.1, x.2.2.2.2.2.2.2.2.1, x.2.2.2.2.2.2.2.2.2.1, x.2.2.2.2.2.2.2.2.2.2.1, x.2.2.2.2.2.2.2.2.2.2.2.1, x.2.2.2.2.2.2.2.2.2.2.2.2.1, w2))) (fun p0 => (Sum.inr (x.2.2.1, x.2.2.2.1, x.2.2.2.2.1, x.2.2.2.2.2.1, x.2.2.2.2.2.2.1, x.2.2.2.2.2.2.2.1, x.2.2.2.2.2.2.2.2.1, x.2.2.2.2.2.2.2.2.2.1, x.2.2.2.2.2.2.2.2.2.2.1, x.2.2.2.2.2.2.2.2.2.2.2.1, x.2.2.2.2.2.2.2.2.2.2.2.2.1, p0))):=by kernel_rfl
theorem q81 {R : Type} (x : tu) (k : tx → Option R) (r : R) (h : q7X x k = some r) : ∃ o, Runs (LE.step X q7V q7C q7Q 12) x o ∧ k o = some r := by
  obtain ⟨o, h1, h2⟩ := some_bind h
  exact ⟨q7W x o, small_ok (st := fun (x : tu) => swing_open_L0_st x.2.2.1 x.2.2.2.1 x.2.2.2.2.1 x.2.2.2.2.2.1 x.2.2.2.2.2.2.1 x.2.2.2.2.2.2.2.1 x.2.2.2.2.2.2.2.2.1 x.2.2.2.2.2.2.2.2.2.1 x.2.2.2.2.2.2.2.2.2.2.1 x.2.2.2.2.2.2.2.2.2.2.2.1 x.2.2.2.2.2.2.2.2.2.2.2.2.1) (prj := fun x => (x.1, x.2.1, x.2.2.2.2.2.2.2.2.2.2.2.2.2)) (emb := q7Y) (embO := q7W) (fun x => (q7Z x).trans (by unfold swing_open_L0_st swing_open_L0_step; simp only [map_cond,map_bindO,map_elim,Option.map_some,Option.map_none]; rfl)) (fun _ _ => rfl) (fun _ _ => rfl) (fun _ _ _ => rfl) (fun _ _ _ => rfl) (fun _ => rfl) (runOf_some.1 h1), by
    first
    | exact h2
    | (rcases o with o <;> exact h2)⟩
noncomputable def q82 {R : Type} : Loops S R := LE.ls X q7V q7X q7Q
theorem q83 {R : Type} : LoopsOk X (q82 (R := R)) := loop_ok xok q7D (e := q7V) q7R q81 q7R
theorem q84 (x0 : SgMooring) : evFn X q7C [(.st 9)] [(.st 14)] q82 12 76 (x0, ()) = swing_open x0:=by kernel_rfl
noncomputable def q85 : F7 S := ⟨[(.st 9)], [(.st 14)], fun xs => swing_open xs.1⟩
theorem q86 : FSOk X 76 q85 := fsOk_eq (evFn_ok xok q7D q83 12 76) fun xs _ h => (q84 xs.1).trans h
noncomputable def q87 : List (Nat × F7 S) := []
theorem q88 : TabOk X (q87) := trivial
abbrev q89 {R : Type} : Loops S R := noLoops
theorem q8a {R : Type} : LoopsOk X (q89 (R := R)) := noLoops_ok X
theorem q8b : evFn X q87 [] [(.arr 8 (.st 2))] q89 12 131 (()) = chart_quarter:=by kernel_rfl
noncomputable def q8c : F7 S := ⟨[], [(.arr 8 (.st 2))], fun xs => chart_quarter⟩
theorem q8d : FSOk X 131 q8c := fsOk_eq (evFn_ok xok q88 q8a 12 131) fun xs _ h => (q8b).trans h
noncomputable def q8e : List (Nat × F7 S) := [(124, qC), (131, q8c)]
theorem q8f : TabOk X (q8e) := ⟨qD, q8d, trivial⟩
abbrev q8g {R : Type} : Loops S R := noLoops
theorem q8h {R : Type} : LoopsOk X (q8g (R := R)) := noLoops_ok X
def q8i : Key := ⟨[112], 112, none, [0, 0, 1, 0, 1, 1, 1], 0, 14⟩
def q8j : StT S := ⟨(N v1m none (N (N L (some (.ptr 9 0)) L) (some (.ptr 0 0)) (N L none (N L vJ L)))), (N (N (N L ot L) none (N (N L oj L) none L)) oj L), 14⟩
def q8k : Way S := ⟨(.exit 0), ⟨(N L none (N (N L (some (.ptr 9 0)) L) (some (.ptr 0 0)) L)), (N (N (N L ot L) none (N (N L oj L) none L)) oj L), 15⟩, [(.lst (.int .i64)), .nat, (.st 2), (.st 2)]⟩
def q8l : LE S := ⟨q8i, q8j, [.int, .int, (.lst (.int .i64)), .nat, (.st 2), (.st 2)], [q8k]⟩
def q8m (x : tU) : Point → ((List Int) × Nat × Point × Point) := fun y0 => (x.2.2.1, x.2.2.2.1, y0, x.2.2.2.2.2)
noncomputable def q8n {R : Type} (x : tU) (k : ((List Int) × Nat × Point × Point) → Option R) : Option R := (chart_Vector_L0_run x.2.1 x.2.2.1 x.2.2.2.1 x.2.2.2.2.2 (x.1, x.2.2.2.2.1)).bind (fun y0 => k (x.2.2.1, x.2.2.2.1, y0, x.2.2.2.2.2))
def q8o (x : tU) (v : (Int × Point)) : tU := (v.1, x.2.1, x.2.2.1, x.2.2.2.1, v.2, x.2.2.2.2.2)
theorem q8p (x : tU) : LE.step X q8l q8e q8g 12 x = chart_Vector_L0_step x.2.1 x.2.2.1 x.2.2.2.1 x.2.2.2.2.2 x.1 x.2.2.2.2.1 (fun w0 w1 => (Sum.inl (w0, x.2.1, x.2.2.1, x.2.2.2.1, w1, x.2.2.2.2.2))) (fun p0 => (Sum.inr (x.2.2.1, x.2.2.2.1, p0, x.2.2.2.2.2))):=by kernel_rfl
theorem q8r {R : Type} (x : tU) (k : ((List Int) × Nat × Point × Point) → Option R) (r : R) (h : q8n x k = some r) : ∃ o, Runs (LE.step X q8l q8e q8g 12) x o ∧ k o = some r := by
  obtain ⟨o, h1, h2⟩ := some_bind h
  exact ⟨q8m x o, small_ok (st := fun (x : tU) => chart_Vector_L0_st x.2.1 x.2.2.1 x.2.2.2.1 x.2.2.2.2.2) (prj := fun x => (x.1, x.2.2.2.2.1)) (emb := q8o) (embO := q8m) (fun x => (q8p x).trans (by unfold chart_Vector_L0_st chart_Vector_L0_step; simp only [map_cond,map_bindO,map_elim,Option.map_some,Option.map_none]; rfl)) (fun _ _ => rfl) (fun _ _ => rfl) (fun _ _ _ => rfl) (fun _ _ _ => rfl) (fun _ => rfl) (runOf_some.1 h1), by
    first
    | exact h2
    | (rcases o with o <;> exact h2)⟩
noncomputable def q8s {R : Type} : Loops S R := LE.ls X q8l q8n q8g
theorem q8t {R : Type} : LoopsOk X (q8s (R := R)) := loop_ok xok q8f (e := q8l) q8h q8r q8h
theorem q8u (x0 : Int) : evFn X q8e [(.int .i64)] [(.st 2), (.int .i64)] q8s 12 112 (x0, ()) = chart_Vector x0:=by kernel_rfl
noncomputable def q8v : F7 S := ⟨[(.int .i64)], [(.st 2), (.int .i64)], fun xs => chart_Vector xs.1⟩
theorem q8w : FSOk X 112 q8v := fsOk_eq (evFn_ok xok q8f q8t 12 112) fun xs _ h => (q8u xs.1).trans h
noncomputable def q8x : List (Nat × F7 S) := [(62, q35), (112, q8v)]
theorem q8y : TabOk X (q8x) := ⟨q36, q8w, trivial⟩
abbrev q8z {R : Type} : Loops S R := noLoops
theorem q8A {R : Type} : LoopsOk X (q8z (R := R)) := noLoops_ok X
def q8B : Key := ⟨[77], 77, none, [0, 0, 1, 0, 1, 1, 1, 1, 1, 1], 0, 89⟩
def q8C : StT S := ⟨(N (N (N L none (N L (some (.fn (.func 111) [] [(.ptr 16 0)])) L)) none (N L (some (.ptr 1 0)) L)) none v1t), oU, 89⟩
def q8D : Way S := ⟨.ret, ⟨(N L none (N (N (N L vI L) none L) none L)), (N (N (N L oj (N L none (N L none (N L none (N L oj L))))) of (N L none o1v)) oe (N (N (N (N L oj L) none (N (N L ot L) none L)) none (N L none o1s)) oj (N (N (N L none (N (N (N L oj L) none L) none L)) none L) none L))), 163⟩, [.bool, (.st 2), (.st 2), (.st 10), (.lst (.int .i64)), .nat, (.st 14), (.st 2), (.lst (.int .i64)), .nat, (.lst (.int .i64)), .nat, (.st 2), (.st 2)]⟩
def q8E : Way S := ⟨(.exit 0), ⟨L, oU, 93⟩, [(.st 2), (.st 10), (.lst (.int .i64)), .nat, (.st 14), (.st 2), (.lst (.int .i64)), .nat, (.lst (.int .i64)), .nat, (.st 2)]⟩
def q8F : LE S := ⟨q8B, q8C, [.int, (.st 2), (.st 10), (.lst (.int .i64)), .nat, (.st 14), (.st 2), (.lst (.int .i64)), .nat, (.lst (.int .i64)), .nat, (.st 2)], [q8D, q8E]⟩
def q8G (x : tw) : ((Bool × Point × Point) ⊕ Unit) → ta := Sum.elim (fun y0 => (.inl (y0.1, x.2.1, y0.2.1, x.2.2.1, x.2.2.2.1, x.2.2.2.2.1, x.2.2.2.2.2.1, x.2.2.2.2.2.2.1, x.2.2.2.2.2.2.2.1, x.2.2.2.2.2.2.2.2.1, x.2.2.2.2.2.2.2.2.2.1, x.2.2.2.2.2.2.2.2.2.2.1, x.2.2.2.2.2.2.2.2.2.2.2, y0.2.2))) (fun y1 => (.inr (x.2.1, x.2.2.1, x.2.2.2.1, x.2.2.2.2.1, x.2.2.2.2.2.1, x.2.2.2.2.2.2.1, x.2.2.2.2.2.2.2.1, x.2.2.2.2.2.2.2.2.1, x.2.2.2.2.2.2.2.2.2.1, x.2.2.2.2.2.2.2.2.2.2.1, x.2.2.2.2.2.2.2.2.2.2.2)))
noncomputable def q8H {R : Type} (x : tw) (k : ta → Option R) : Option R := (swing_mooring_lies_L0_run x.2.1 x.2.2.1 x.2.2.2.1 x.2.2.2.2.1 x.2.2.2.2.2.1 x.2.2.2.2.2.2.1 x.2.2.2.2.2.2.2.1 x.2.2.2.2.2.2.2.2.1 x.2.2.2.2.2.2.2.2.2.1 x.2.2.2.2.2.2.2.2.2.2.1 x.2.2.2.2.2.2.2.2.2.2.2 x.1).bind (Sum.elim (fun y0 => k (.inl (y0.1, x.2.1, y0.2.1, x.2.2.1, x.2.2.2.1, x.2.2.2.2.1, x.2.2.2.2.2.1, x.2.2.2.2.2.2.1, x.2.2.2.2.2.2.2.1, x.2.2.2.2.2.2.2.2.1, x.2.2.2.2.2.2.2.2.2.1, x.2.2.2.2.2.2.2.2.2.2.1, x.2.2.2.2.2.2.2.2.2.2.2, y0.2.2))) (fun y1 => k (.inr (x.2.1, x.2.2.1, x.2.2.2.1, x.2.2.2.2.1, x.2.2.2.2.2.1, x.2.2.2.2.2.2.1, x.2.2.2.2.2.2.2.1, x.2.2.2.2.2.2.2.2.1, x.2.2.2.2.2.2.2.2.2.1, x.2.2.2.2.2.2.2.2.2.2.1, x.2.2.2.2.2.2.2.2.2.2.2))))
def q8I (x : tw) (v : Int) : tw := (v, x.2.1, x.2.2.1, x.2.2.2.1, x.2.2.2.2.1, x.2.2.2.2.2.1, x.2.2.2.2.2.2.1, x.2.2.2.2.2.2.2.1, x.2.2.2.2.2.2.2.2.1, x.2.2.2.2.2.2.2.2.2.1, x.2.2.2.2.2.2.2.2.2.2.1, x.2.2.2.2.2.2.2.2.2.2.2)
theorem q8J (x : tw) : LE.step X q8F q8x q8z 12 x = swing_mooring_lies_L0_step x.2.1 x.2.2.1 x.2.2.2.1 x.2.2.2.2.1 x.2.2.2.2.2.1 x.2.2.2.2.2.2.1 x.2.2.2.2.2.2.2.1 x.2.2.2.2.2.2.2.2.1 x.2.2.2.2.2.2.2.2.2.1 x.2.2.2.2.2.2.2.2.2.2.1 x.2.2.2.2.2.2.2.2.2.2.2 x.1 (fun w0 => (Sum.inl (w0, x.2.1, x.2.2.1, x.2.2.2.1, x.2.2.2.2.1, x.2.2.2.2.2.1, x.2.2.2.2.2.2.1, x.2.2.2.2.2.2.2.1, x.2.2.2.2.2.2.2.2.1, x.2.2.2.2.2.2.2.2.2.1, x.2.2.2.2.2.2.2.2.2.2.1, x.2.2.2.2.2.2.2.2.2.2.2))) (fun p0 p1 p2 => (Sum.inr (.inl (p0, x.2.1, p1, x.2.2.1, x.2.2.2.1, x.2.2.2.2.1, x.2.2.2.2.2.1, x.2.2.2.2.2.2.1, x.2.2.2.2.2.2.2.1, x.2.2.2.2.2.2.2.2.1, x.2.2.2.2.2.2.2.2.2.1, x.2.2.2.2.2.2.2.2.2.2.1, x.2.2.2.2.2.2.2.2.2.2.2, p2)))) (Sum.inr (.inr (x.2.1, x.2.2.1, x.2.2.2.1, x.2.2.2.2.1, x.2.2.2.2.2.1, x.2.2.2.2.2.2.1, x.2.2.2.2.2.2.2.1, x.2.2.2.2.2.2.2.2.1, x.2.2.2.2.2.2.2.2.2.1, x.2.2.2.2.2.2.2.2.2.2.1, x.2.2.2.2.2.2.2.2.2.2.2))):=by kernel_rfl
theorem q8L {R : Type} (x : tw) (k : ta → Option R) (r : R) (h : q8H x k = some r) : ∃ o, Runs (LE.step X q8F q8x q8z 12) x o ∧ k o = some r := by
  obtain ⟨o, h1, h2⟩ := some_bind h
  exact ⟨q8G x o, small_ok (st := fun (x : tw) => swing_mooring_lies_L0_st x.2.1 x.2.2.1 x.2.2.2.1 x.2.2.2.2.1 x.2.2.2.2.2.1 x.2.2.2.2.2.2.1 x.2.2.2.2.2.2.2.1 x.2.2.2.2.2.2.2.2.1 x.2.2.2.2.2.2.2.2.2.1 x.2.2.2.2.2.2.2.2.2.2.1 x.2.2.2.2.2.2.2.2.2.2.2) (prj := fun x => x.1) (emb := q8I) (embO := q8G) (fun x => (q8J x).trans (by unfold swing_mooring_lies_L0_st swing_mooring_lies_L0_step; simp only [map_cond,map_bindO,map_elim,Option.map_some,Option.map_none]; rfl)) (fun _ _ => rfl) (fun _ _ => rfl) (fun _ _ _ => rfl) (fun _ _ _ => rfl) (fun _ => rfl) (runOf_some.1 h1), by
    first
    | exact h2
    | (rcases o with o | o <;> exact h2)⟩
noncomputable def q8M {R : Type} : Loops S R := LE.ls X q8F q8H q8z
theorem q8N {R : Type} : LoopsOk X (q8M (R := R)) := loop_ok xok q8y (e := q8F) q8A q8L q8A
theorem q8O (x0 : swing_mooring) (x1 : SgLook) (x2 : Point) (x3 : Point) : evFn X q8x [(.st 14), (.st 10), (.st 2), (.st 2)] [.bool] q8M 12 77 (x0, x1, x2, x3, ()) = swing_mooring_lies x0 x1 x2 x3:=by kernel_rfl
noncomputable def q8P : F7 S := ⟨[(.st 14), (.st 10), (.st 2), (.st 2)], [.bool], fun xs => swing_mooring_lies xs.1 xs.2.1 xs.2.2.1 xs.2.2.2.1⟩
theorem q8Q : FSOk X 77 q8P := fsOk_eq (evFn_ok xok q8y q8N 12 77) fun xs _ h => (q8O xs.1 xs.2.1 xs.2.2.1 xs.2.2.2.1).trans h
noncomputable def q8R : List (Nat × F7 S) := [(77, q8P)]
theorem q8S : TabOk X (q8R) := ⟨q8Q, trivial⟩
abbrev q8T {R : Type} : Loops S R := noLoops
theorem q8U {R : Type} : LoopsOk X (q8T (R := R)) := noLoops_ok X
def q8V : Key := ⟨[108, 2, 11, 5, 7, 108, 0, 107], 108, none, [0, 0, 1, 0, 0, 1, 0, 0, 1, 1], 2, 64⟩
def q8W : StT S := ⟨(N (N (N L vJ L) (some (.ptr 45 0)) (N L vJ L)) (some (.yld 49)) (N (N L vJ L) none L)), oR, 64⟩
def q8X : Way S := ⟨.ret, ⟨L, oL, 98⟩, [(.st 6), (.st 10), (.st 14), (.st 10), (.st 10), .int, (.st 14), .int, .int, (.st 6), (.st 14), (.st 2), (.st 2), (.arr (.int .u64)), .int]⟩
def q8Y : Way S := ⟨(.exit 2), ⟨v17, oR, 69⟩, [.int, .int, (.st 6), (.st 10), (.st 14), (.st 10), (.st 10), .int, (.st 14), .int, .int, (.st 6), (.st 14), (.st 2), (.arr (.int .u64)), .int]⟩
def q8Z : LE S := ⟨q8V, q8W, [.int, .int, .int, (.st 6), (.st 10), (.st 14), (.st 10), (.st 10), .int, (.st 14), .int, .int, (.st 6), (.st 14), (.st 2), (.arr (.int .u64)), .int], [q8X, q8Y]⟩
def q90 (x : tk) : ((Point × (Nat → Int)) ⊕ Int) → t8 := Sum.elim (fun y0 => (.inl (x.2.2.2.1, x.2.2.2.2.1, x.2.2.2.2.2.1, x.2.2.2.2.2.2.1, x.2.2.2.2.2.2.2.1, x.2.2.2.2.2.2.2.2.1, x.2.2.2.2.2.2.2.2.2.1, x.2.2.2.2.2.2.2.2.2.2.1, x.2.2.2.2.2.2.2.2.2.2.2.1, x.2.2.2.2.2.2.2.2.2.2.2.2.1, x.2.2.2.2.2.2.2.2.2.2.2.2.2.1, x.2.2.2.2.2.2.2.2.2.2.2.2.2.2.1, y0.1, y0.2, x.2.2.2.2.2.2.2.2.2.2.2.2.2.2.2.2))) (fun y1 => (.inr (y1, x.2.2.1, x.2.2.2.1, x.2.2.2.2.1, x.2.2.2.2.2.1, x.2.2.2.2.2.2.1, x.2.2.2.2.2.2.2.1, x.2.2.2.2.2.2.2.2.1, x.2.2.2.2.2.2.2.2.2.1, x.2.2.2.2.2.2.2.2.2.2.1, x.2.2.2.2.2.2.2.2.2.2.2.1, x.2.2.2.2.2.2.2.2.2.2.2.2.1, x.2.2.2.2.2.2.2.2.2.2.2.2.2.1, x.2.2.2.2.2.2.2.2.2.2.2.2.2.2.1, x.2.2.2.2.2.2.2.2.2.2.2.2.2.2.2.1, x.2.2.2.2.2.2.2.2.2.2.2.2.2.2.2.2)))
noncomputable def q91 {R : Type} (x : tk) (k : t8 → Option R) : Option R := (swing_mooring_held_L3_run x.2.2.1 x.2.2.2.1 x.2.2.2.2.1 x.2.2.2.2.2.1 x.2.2.2.2.2.2.1 x.2.2.2.2.2.2.2.1 x.2.2.2.2.2.2.2.2.1 x.2.2.2.2.2.2.2.2.2.1 x.2.2.2.2.2.2.2.2.2.2.1 x.2.2.2.2.2.2.2.2.2.2.2.1 x.2.2.2.2.2.2.2.2.2.2.2.2.1 x.2.2.2.2.2.2.2.2.2.2.2.2.2.1 x.2.2.2.2.2.2.2.2.2.2.2.2.2.2.1 x.2.2.2.2.2.2.2.2.2.2.2.2.2.2.2.1 x.2.2.2.2.2.2.2.2.2.2.2.2.2.2.2.2 (x.1, x.2.1)).bind (Sum.elim (fun y0 => k (.inl (x.2.2.2.1, x.2.2.2.2.1, x.2.2.2.2.2.1, x.2.2.2.2.2.2.1, x.2.2.2.2.2.2.2.1, x.2.2.2.2.2.2.2.2.1, x.2.2.2.2.2.2.2.2.2.1, x.2.2.2.2.2.2.2.2.2.2.1, x.2.2.2.2.2.2.2.2.2.2.2.1, x.2.2.2.2.2.2.2.2.2.2.2.2.1, x.2.2.2.2.2.2.2.2.2.2.2.2.2.1, x.2.2.2.2.2.2.2.2.2.2.2.2.2.2.1, y0.1, y0.2, x.2.2.2.2.2.2.2.2.2.2.2.2.2.2.2.2))) (fun y1 => k (.inr (y1, x.2.2.1, x.2.2.2.1, x.2.2.2.2.1, x.2.2.2.2.2.1, x.2.2.2.2.2.2.1, x.2.2.2.2.2.2.2.1, x.2.2.2.2.2.2.2.2.1, x.2.2.2.2.2.2.2.2.2.1, x.2.2.2.2.2.2.2.2.2.2.1, x.2.2.2.2.2.2.2.2.2.2.2.1, x.2.2.2.2.2.2.2.2.2.2.2.2.1, x.2.2.2.2.2.2.2.2.2.2.2.2.2.1, x.2.2.2.2.2.2.2.2.2.2.2.2.2.2.1, x.2.2.2.2.2.2.2.2.2.2.2.2.2.2.2.1, x.2.2.2.2.2.2.2.2.2.2.2.2.2.2.2.2))))
def q92 (x : tk) (v : (Int × Int)) : tk := (v.1, v.2, x.2.2.1, x.2.2.2.1, x.2.2.2.2.1, x.2.2.2.2.2.1, x.2.2.2.2.2.2.1, x.2.2.2.2.2.2.2.1, x.2.2.2.2.2.2.2.2.1, x.2.2.2.2.2.2.2.2.2.1, x.2.2.2.2.2.2.2.2.2.2.1, x.2.2.2.2.2.2.2.2.2.2.2.1, x.2.2.2.2.2.2.2.2.2.2.2.2.1, x.2.2.2.2.2.2.2.2.2.2.2.2.2.1, x.2.2.2.2.2.2.2.2.2.2.2.2.2.2.1, x.2.2.2.2.2.2.2.2.2.2.2.2.2.2.2.1, x.2.2.2.2.2.2.2.2.2.2.2.2.2.2.2.2)
theorem q93 (x : tk) : LE.step X q8Z q8R q8T 12 x = swing_mooring_held_L3_step x.2.2.1 x.2.2.2.1 x.2.2.2.2.1 x.2.2.2.2.2.1 x.2.2.2.2.2.2.1 x.2.2.2.2.2.2.2.1 x.2.2.2.2.2.2.2.2.1 x.2.2.2.2.2.2.2.2.2.1 x.2.2.2.2.2.2.2.2.2.2.1 x.2.2.2.2.2.2.2.2.2.2.2.1 x.2.2.2.2.2.2.2.2.2.2.2.2.1 x.2.2.2.2.2.2.2.2.2.2.2.2.2.1 x.2.2.2.2.2.2.2.2.2.2.2.2.2.2.1 x.2.2.2.2.2.2.2.2.2.2.2.2.2.2.2.1 x.2.2.2.2.2.2.2.2.2.2.2.2.2.2.2.2 x.1 x.2.1 (fun w0 w1 => (Sum.inl (w0, w1, x.2.2.1, x.2.2.2.1, x.2.2.2.2.1, x.2.2.2.2.2.1, x.2.2.2.2.2.2.1, x.2.2.2.2.2.2.2.1, x.2.2.2.2.2.2.2.2.1, x.2.2.2.2.2.2.2.2.2.1, x.2.2.2.2.2.2.2.2.2.2.1, x.2.2.2.2.2.2.2.2.2.2.2.1, x.2.2.2.2.2.2.2.2.2.2.2.2.1, x.2.2.2.2.2.2.2.2.2.2.2.2.2.1, x.2.2.2.2.2.2.2.2.2.2.2.2.2.2.1, x.2.2.2.2.2.2.2.2.2.2.2.2.2.2.2.1, x.2.2.2.2.2.2.2.2.2.2.2.2.2.2.2.2))) (fun p0 p1 => (Sum.inr (.inl (x.2.2.2.1, x.2.2.2.2.1, x.2.2.2.2.2.1, x.2.2.2.2.2.2.1, x.2.2.2.2.2.2.2.1, x.2.2.2.2.2.2.2.2.1, x.2.2.2.2.2.2.2.2.2.1, x.2.2.2.2.2.2.2.2.2.2.1, x.2.2.2.2.2.2.2.2.2.2.2.1, x.2.2.2.2.2.2.2.2.2.2.2.2.1, x.2.2.2.2.2.2.2.2.2.2.2.2.2.1, x.2.2.2.2.2.2.2.2.2.2.2.2.2.2.1, p0, p1, x.2.2.2.2.2.2.2.2.2.2.2.2.2.2.2.2)))) (fun p0 => (Sum.inr (.inr (p0, x.2.2.1, x.2.2.2.1, x.2.2.2.2.1, x.2.2.2.2.2.1, x.2.2.2.2.2.2.1, x.2.2.2.2.2.2.2.1, x.2.2.2.2.2.2.2.2.1, x.2.2.2.2.2.2.2.2.2.1, x.2.2.2.2.2.2.2.2.2.2.1, x.2.2.2.2.2.2.2.2.2.2.2.1, x.2.2.2.2.2.2.2.2.2.2.2.2.1, x.2.2.2.2.2.2.2.2.2.2.2.2.2.1, x.2.2.2.2.2.2.2.2.2.2.2.2.2.2.1, x.2.2.2.2.2.2.2.2.2.2.2.2.2.2.2.1, x.2.2.2.2.2.2.2.2.2.2.2.2.2.2.2.2)))):=by kernel_rfl
theorem q95 {R : Type} (x : tk) (k : t8 → Option R) (r : R) (h : q91 x k = some r) : ∃ o, Runs (LE.step X q8Z q8R q8T 12) x o ∧ k o = some r := by
  obtain ⟨o, h1, h2⟩ := some_bind h
  exact ⟨q90 x o, small_ok (st := fun (x : tk) => swing_mooring_held_L3_st x.2.2.1 x.2.2.2.1 x.2.2.2.2.1 x.2.2.2.2.2.1 x.2.2.2.2.2.2.1 x.2.2.2.2.2.2.2.1 x.2.2.2.2.2.2.2.2.1 x.2.2.2.2.2.2.2.2.2.1 x.2.2.2.2.2.2.2.2.2.2.1 x.2.2.2.2.2.2.2.2.2.2.2.1 x.2.2.2.2.2.2.2.2.2.2.2.2.1 x.2.2.2.2.2.2.2.2.2.2.2.2.2.1 x.2.2.2.2.2.2.2.2.2.2.2.2.2.2.1 x.2.2.2.2.2.2.2.2.2.2.2.2.2.2.2.1 x.2.2.2.2.2.2.2.2.2.2.2.2.2.2.2.2) (prj := fun x => (x.1, x.2.1)) (emb := q92) (embO := q90) (fun x => (q93 x).trans (by unfold swing_mooring_held_L3_st swing_mooring_held_L3_step; simp only [map_cond,map_bindO,map_elim,Option.map_some,Option.map_none]; rfl)) (fun _ _ => rfl) (fun _ _ => rfl) (fun _ _ _ => rfl) (fun _ _ _ => rfl) (fun _ => rfl) (runOf_some.1 h1), by
    first
    | exact h2
    | (rcases o with o | o <;> exact h2)⟩
noncomputable def q96 {R : Type} : Loops S R := LE.ls X q8Z q91 q8T
theorem q97 {R : Type} : LoopsOk X (q96 (R := R)) := loop_ok xok q8S (e := q8Z) q8U q95 q8U
def q98 : Key := ⟨[108, 2, 11, 5, 7, 108, 0, 107], 108, none, [0, 0, 1, 1], 0, 55⟩
def q99 : StT S := ⟨v17, oR, 55⟩
def q9a : Way S := ⟨.ret, ⟨L, oL, 98⟩, [(.st 6), (.st 10), (.st 14), (.st 10), (.st 10), .int, (.st 14), .int, .int, (.st 6), (.st 14), (.st 2), (.st 2), (.arr (.int .u64)), .int]⟩
def q9b : Way S := ⟨(.exit 0), ⟨L, oR, 60⟩, [(.st 6), (.st 10), (.st 14), (.st 10), (.st 10), .int, (.st 14), .int, .int, (.st 6), (.st 14), (.st 2), (.arr (.int .u64)), .int]⟩
def q9c : LE S := ⟨q98, q99, [.int, .int, (.st 6), (.st 10), (.st 14), (.st 10), (.st 10), .int, (.st 14), .int, .int, (.st 6), (.st 14), (.st 2), (.arr (.int .u64)), .int], [q9a, q9b]⟩
def q9d (x : tn) : ((Point × (Nat → Int)) ⊕ Unit) → t9 := Sum.elim (fun y0 => (.inl (x.2.2.1, x.2.2.2.1, x.2.2.2.2.1, x.2.2.2.2.2.1, x.2.2.2.2.2.2.1, x.2.2.2.2.2.2.2.1, x.2.2.2.2.2.2.2.2.1, x.2.2.2.2.2.2.2.2.2.1, x.2.2.2.2.2.2.2.2.2.2.1, x.2.2.2.2.2.2.2.2.2.2.2.1, x.2.2.2.2.2.2.2.2.2.2.2.2.1, x.2.2.2.2.2.2.2.2.2.2.2.2.2.1, y0.1, y0.2, x.2.2.2.2.2.2.2.2.2.2.2.2.2.2.2))) (fun y1 => (.inr (x.2.2.1, x.2.2.2.1, x.2.2.2.2.1, x.2.2.2.2.2.1, x.2.2.2.2.2.2.1, x.2.2.2.2.2.2.2.1, x.2.2.2.2.2.2.2.2.1, x.2.2.2.2.2.2.2.2.2.1, x.2.2.2.2.2.2.2.2.2.2.1, x.2.2.2.2.2.2.2.2.2.2.2.1, x.2.2.2.2.2.2.2.2.2.2.2.2.1, x.2.2.2.2.2.2.2.2.2.2.2.2.2.1, x.2.2.2.2.2.2.2.2.2.2.2.2.2.2.1, x.2.2.2.2.2.2.2.2.2.2.2.2.2.2.2)))
noncomputable def q9e {R : Type} (x : tn) (k : t9 → Option R) : Option R := (swing_mooring_held_L2_run x.2.2.1 x.2.2.2.1 x.2.2.2.2.1 x.2.2.2.2.2.1 x.2.2.2.2.2.2.1 x.2.2.2.2.2.2.2.1 x.2.2.2.2.2.2.2.2.1 x.2.2.2.2.2.2.2.2.2.1 x.2.2.2.2.2.2.2.2.2.2.1 x.2.2.2.2.2.2.2.2.2.2.2.1 x.2.2.2.2.2.2.2.2.2.2.2.2.1 x.2.2.2.2.2.2.2.2.2.2.2.2.2.1 x.2.2.2.2.2.2.2.2.2.2.2.2.2.2.1 x.2.2.2.2.2.2.2.2.2.2.2.2.2.2.2 (x.1, x.2.1)).bind (Sum.elim (fun y0 => k (.inl (x.2.2.1, x.2.2.2.1, x.2.2.2.2.1, x.2.2.2.2.2.1, x.2.2.2.2.2.2.1, x.2.2.2.2.2.2.2.1, x.2.2.2.2.2.2.2.2.1, x.2.2.2.2.2.2.2.2.2.1, x.2.2.2.2.2.2.2.2.2.2.1, x.2.2.2.2.2.2.2.2.2.2.2.1, x.2.2.2.2.2.2.2.2.2.2.2.2.1, x.2.2.2.2.2.2.2.2.2.2.2.2.2.1, y0.1, y0.2, x.2.2.2.2.2.2.2.2.2.2.2.2.2.2.2))) (fun y1 => k (.inr (x.2.2.1, x.2.2.2.1, x.2.2.2.2.1, x.2.2.2.2.2.1, x.2.2.2.2.2.2.1, x.2.2.2.2.2.2.2.1, x.2.2.2.2.2.2.2.2.1, x.2.2.2.2.2.2.2.2.2.1, x.2.2.2.2.2.2.2.2.2.2.1, x.2.2.2.2.2.2.2.2.2.2.2.1, x.2.2.2.2.2.2.2.2.2.2.2.2.1, x.2.2.2.2.2.2.2.2.2.2.2.2.2.1, x.2.2.2.2.2.2.2.2.2.2.2.2.2.2.1, x.2.2.2.2.2.2.2.2.2.2.2.2.2.2.2))))
def q9f (x : tn) (v : (Int × Int)) : tn := (v.1, v.2, x.2.2.1, x.2.2.2.1, x.2.2.2.2.1, x.2.2.2.2.2.1, x.2.2.2.2.2.2.1, x.2.2.2.2.2.2.2.1, x.2.2.2.2.2.2.2.2.1, x.2.2.2.2.2.2.2.2.2.1, x.2.2.2.2.2.2.2.2.2.2.1, x.2.2.2.2.2.2.2.2.2.2.2.1, x.2.2.2.2.2.2.2.2.2.2.2.2.1, x.2.2.2.2.2.2.2.2.2.2.2.2.2.1, x.2.2.2.2.2.2.2.2.2.2.2.2.2.2.1, x.2.2.2.2.2.2.2.2.2.2.2.2.2.2.2)
theorem q9g (x : tn) : LE.step X q9c q8R q96 12 x = swing_mooring_held_L2_step x.2.2.1 x.2.2.2.1 x.2.2.2.2.1 x.2.2.2.2.2.1 x.2.2.2.2.2.2.1 x.2.2.2.2.2.2.2.1 x.2.2.2.2.2.2.2.2.1 x.2.2.2.2.2.2.2.2.2.1 x.2.2.2.2.2.2.2.2.2.2.1 x.2.2.2.2.2.2.2.2.2.2.2.1 x.2.2.2.2.2.2.2.2.2.2.2.2.1 x.2.2.2.2.2.2.2.2.2.2.2.2.2.1 x.2.2.2.2.2.2.2.2.2.2.2.2.2.2.1 x.2.2.2.2.2.2.2.2.2.2.2.2.2.2.2 x.1 x.2.1 (fun w0 w1 => (Sum.inl (w0, w1, x.2.2.1, x.2.2.2.1, x.2.2.2.2.1, x.2.2.2.2.2.1, x.2.2.2.2.2.2.1, x.2.2.2.2.2.2.2.1, x.2.2.2.2.2.2.2.2.1, x.2.2.2.2.2.2.2.2.2.1, x.2.2.2.2.2.2.2.2.2.2.1, x.2.2.2.2.2.2.2.2.2.2.2.1, x.2.2.2.2.2.2.2.2.2.2.2.2.1, x.2.2.2.2.2.2.2.2.2.2.2.2.2.1, x.2.2.2.2.2.2.2.2.2.2.2.2.2.2.1, x.2.2.2.2.2.2.2.2.2.2.2.2.2.2.2))) (fun p0 p1 => (Sum.inr (.inl (x.2.2.1, x.2.2.2.1, x.2.2.2.2.1, x.2.2.2.2.2.1, x.2.2.2.2.2.2.1, x.2.2.2.2.2.2.2.1, x.2.2.2.2.2.2.2.2.1, x.2.2.2.2.2.2.2.2.2.1, x.2.2.2.2.2.2.2.2.2.2.1, x.2.2.2.2.2.2.2.2.2.2.2.1, x.2.2.2.2.2.2.2.2.2.2.2.2.1, x.2.2.2.2.2.2.2.2.2.2.2.2.2.1, p0, p1, x.2.2.2.2.2.2.2.2.2.2.2.2.2.2.2)))) (Sum.inr (.inr (x.2.2.1, x.2.2.2.1, x.2.2.2.2.1, x.2.2.2.2.2.1, x.2.2.2.2.2.2.1, x.2.2.2.2.2.2.2.1, x.2.2.2.2.2.2.2.2.1, x.2.2.2.2.2.2.2.2.2.1, x.2.2.2.2.2.2.2.2.2.2.1, x.2.2.2.2.2.2.2.2.2.2.2.1, x.2.2.2.2.2.2.2.2.2.2.2.2.1, x.2.2.2.2.2.2.2.2.2.2.2.2.2.1, x.2.2.2.2.2.2.2.2.2.2.2.2.2.2.1, x.2.2.2.2.2.2.2.2.2.2.2.2.2.2.2))):=by kernel_rfl
theorem q9i {R : Type} (x : tn) (k : t9 → Option R) (r : R) (h : q9e x k = some r) : ∃ o, Runs (LE.step X q9c q8R q96 12) x o ∧ k o = some r := by
  obtain ⟨o, h1, h2⟩ := some_bind h
  exact ⟨q9d x o, small_ok (st := fun (x : tn) => swing_mooring_held_L2_st x.2.2.1 x.2.2.2.1 x.2.2.2.2.1 x.2.2.2.2.2.1 x.2.2.2.2.2.2.1 x.2.2.2.2.2.2.2.1 x.2.2.2.2.2.2.2.2.1 x.2.2.2.2.2.2.2.2.2.1 x.2.2.2.2.2.2.2.2.2.2.1 x.2.2.2.2.2.2.2.2.2.2.2.1 x.2.2.2.2.2.2.2.2.2.2.2.2.1 x.2.2.2.2.2.2.2.2.2.2.2.2.2.1 x.2.2.2.2.2.2.2.2.2.2.2.2.2.2.1 x.2.2.2.2.2.2.2.2.2.2.2.2.2.2.2) (prj := fun x => (x.1, x.2.1)) (emb := q9f) (embO := q9d) (fun x => (q9g x).trans (by unfold swing_mooring_held_L2_st swing_mooring_held_L2_step; simp only [map_cond,map_bindO,map_elim,Option.map_some,Option.map_none]; rfl)) (fun _ _ => rfl) (fun _ _ => rfl) (fun _ _ _ => rfl) (fun _ _ _ => rfl) (fun _ => rfl) (runOf_some.1 h1), by
    first
    | exact h2
    | (rcases o with o | o <;> exact h2)⟩
noncomputable def q9j {R : Type} : Loops S R := LE.ls X q9c q9e q96
theorem q9k {R : Type} : LoopsOk X (q9j (R := R)) := loop_ok xok q8S (e := q9c) q97 q9i q97
def q9l : Key := ⟨[108, 0, 107], 108, none, [0, 0, 1, 0, 0, 1, 0, 0, 1, 1], 2, 26⟩
def q9m : StT S := ⟨(N (N (N L vJ L) (some (.ptr 7 0)) (N L vJ L)) (some (.yld 11)) (N (N L vJ L) none L)), o1g, 26⟩
def q9n : Way S := ⟨(.exit 2), ⟨v1c, o1g, 31⟩, [.int, .int, (.st 6), (.st 10), (.st 14), (.st 10), (.st 14), (.arr (.int .u64))]⟩
def q9o : LE S := ⟨q9l, q9m, [.int, .int, .int, (.st 6), (.st 10), (.st 14), (.st 10), (.st 14), (.arr (.int .u64))], [q9n]⟩
def q9p (x : tz) : (Int × (Nat → Int)) → tD := fun y0 => (y0.1, x.2.2.1, x.2.2.2.1, x.2.2.2.2.1, x.2.2.2.2.2.1, x.2.2.2.2.2.2.1, x.2.2.2.2.2.2.2.1, y0.2)
noncomputable def q9q {R : Type} (x : tz) (k : tD → Option R) : Option R := (swing_mooring_held_L1_run x.2.2.1 x.2.2.2.1 x.2.2.2.2.1 x.2.2.2.2.2.1 x.2.2.2.2.2.2.1 x.2.2.2.2.2.2.2.1 (x.1, x.2.1, x.2.2.2.2.2.2.2.2)).bind (fun y0 => k (y0.1, x.2.2.1, x.2.2.2.1, x.2.2.2.2.1, x.2.2.2.2.2.1, x.2.2.2.2.2.2.1, x.2.2.2.2.2.2.2.1, y0.2))
def q9r (x : tz) (v : (Int × Int × (Nat → Int))) : tz := (v.1, v.2.1, x.2.2.1, x.2.2.2.1, x.2.2.2.2.1, x.2.2.2.2.2.1, x.2.2.2.2.2.2.1, x.2.2.2.2.2.2.2.1, v.2.2)
theorem q9s (x : tz) : LE.step X q9o q8R q9j 12 x = swing_mooring_held_L1_step x.2.2.1 x.2.2.2.1 x.2.2.2.2.1 x.2.2.2.2.2.1 x.2.2.2.2.2.2.1 x.2.2.2.2.2.2.2.1 x.1 x.2.1 x.2.2.2.2.2.2.2.2 (fun w0 w1 w2 => (Sum.inl (w0, w1, x.2.2.1, x.2.2.2.1, x.2.2.2.2.1, x.2.2.2.2.2.1, x.2.2.2.2.2.2.1, x.2.2.2.2.2.2.2.1, w2))) (fun p0 p1 => (Sum.inr (p0, x.2.2.1, x.2.2.2.1, x.2.2.2.2.1, x.2.2.2.2.2.1, x.2.2.2.2.2.2.1, x.2.2.2.2.2.2.2.1, p1))):=by kernel_rfl
theorem q9u {R : Type} (x : tz) (k : tD → Option R) (r : R) (h : q9q x k = some r) : ∃ o, Runs (LE.step X q9o q8R q9j 12) x o ∧ k o = some r := by
  obtain ⟨o, h1, h2⟩ := some_bind h
  exact ⟨q9p x o, small_ok (st := fun (x : tz) => swing_mooring_held_L1_st x.2.2.1 x.2.2.2.1 x.2.2.2.2.1 x.2.2.2.2.2.1 x.2.2.2.2.2.2.1 x.2.2.2.2.2.2.2.1) (prj := fun x => (x.1, x.2.1, x.2.2.2.2.2.2.2.2)) (emb := q9r) (embO := q9p) (fun x => (q9s x).trans (by unfold swing_mooring_held_L1_st swing_mooring_held_L1_step; simp only [map_cond,map_bindO,map_elim,Option.map_some,Option.map_none]; rfl)) (fun _ _ => rfl) (fun _ _ => rfl) (fun _ _ _ => rfl) (fun _ _ _ => rfl) (fun _ => rfl) (runOf_some.1 h1), by
    first
    | exact h2
    | (rcases o with o <;> exact h2)⟩
noncomputable def q9v {R : Type} : Loops S R := LE.ls X q9o q9q q9j
theorem q9w {R : Type} : LoopsOk X (q9v (R := R)) := loop_ok xok q8S (e := q9o) q9k q9u q9k
def q9x : Key := ⟨[108, 0, 107], 108, none, [0, 0, 1, 1], 0, 17⟩
def q9y : StT S := ⟨v1c, o1g, 17⟩
def q9z : Way S := ⟨(.exit 0), ⟨L, o1g, 22⟩, [(.st 6), (.st 10), (.st 14), (.st 10), (.st 14), (.arr (.int .u64))]⟩
def q9A : LE S := ⟨q9x, q9y, [.int, .int, (.st 6), (.st 10), (.st 14), (.st 10), (.st 14), (.arr (.int .u64))], [q9z]⟩
def q9B (x : tD) : (Nat → Int) → tI := fun y0 => (x.2.2.1, x.2.2.2.1, x.2.2.2.2.1, x.2.2.2.2.2.1, x.2.2.2.2.2.2.1, y0)
noncomputable def q9C {R : Type} (x : tD) (k : tI → Option R) : Option R := (swing_mooring_held_L0_run x.2.2.1 x.2.2.2.1 x.2.2.2.2.1 x.2.2.2.2.2.1 x.2.2.2.2.2.2.1 (x.1, x.2.1, x.2.2.2.2.2.2.2)).bind (fun y0 => k (x.2.2.1, x.2.2.2.1, x.2.2.2.2.1, x.2.2.2.2.2.1, x.2.2.2.2.2.2.1, y0))
def q9D (x : tD) (v : (Int × Int × (Nat → Int))) : tD := (v.1, v.2.1, x.2.2.1, x.2.2.2.1, x.2.2.2.2.1, x.2.2.2.2.2.1, x.2.2.2.2.2.2.1, v.2.2)
theorem q9E (x : tD) : LE.step X q9A q8R q9v 12 x = swing_mooring_held_L0_step x.2.2.1 x.2.2.2.1 x.2.2.2.2.1 x.2.2.2.2.2.1 x.2.2.2.2.2.2.1 x.1 x.2.1 x.2.2.2.2.2.2.2 (fun w0 w1 w2 => (Sum.inl (w0, w1, x.2.2.1, x.2.2.2.1, x.2.2.2.2.1, x.2.2.2.2.2.1, x.2.2.2.2.2.2.1, w2))) (fun p0 => (Sum.inr (x.2.2.1, x.2.2.2.1, x.2.2.2.2.1, x.2.2.2.2.2.1, x.2.2.2.2.2.2.1, p0))):=by kernel_rfl
theorem q9G {R : Type} (x : tD) (k : tI → Option R) (r : R) (h : q9C x k = some r) : ∃ o, Runs (LE.step X q9A q8R q9v 12) x o ∧ k o = some r := by
  obtain ⟨o, h1, h2⟩ := some_bind h
  exact ⟨q9B x o, small_ok (st := fun (x : tD) => swing_mooring_held_L0_st x.2.2.1 x.2.2.2.1 x.2.2.2.2.1 x.2.2.2.2.2.1 x.2.2.2.2.2.2.1) (prj := fun x => (x.1, x.2.1, x.2.2.2.2.2.2.2)) (emb := q9D) (embO := q9B) (fun x => (q9E x).trans (by unfold swing_mooring_held_L0_st swing_mooring_held_L0_step; simp only [map_cond,map_bindO,map_elim,Option.map_some,Option.map_none]; rfl)) (fun _ _ => rfl) (fun _ _ => rfl) (fun _ _ _ => rfl) (fun _ _ _ => rfl) (fun _ => rfl) (runOf_some.1 h1), by
    first
    | exact h2
    | (rcases o with o <;> exact h2)⟩
noncomputable def q9H {R : Type} : Loops S R := LE.ls X q9A q9C q9v
theorem q9I {R : Type} : LoopsOk X (q9H (R := R)) := loop_ok xok q8S (e := q9A) q9w q9G q9w
theorem q9J (x0 : swing_mooring) (x1 : SgLook) : evFn X q8R [(.st 14), (.st 10)] [(.arr 5 (.int .u64))] q9H 12 107 (x0, x1, ()) = swing_mooring_held x0 x1:=by kernel_rfl
noncomputable def q9K : F7 S := ⟨[(.st 14), (.st 10)], [(.arr 5 (.int .u64))], fun xs => swing_mooring_held xs.1 xs.2.1⟩
theorem q9L : FSOk X 107 q9K := fsOk_eq (evFn_ok xok q8S q9I 12 107) fun xs _ h => (q9J xs.1 xs.2.1).trans h
noncomputable def q9M : List (Nat × F7 S) := [(19, q7A), (76, q85), (107, q9K)]
theorem q9N : TabOk X (q9M) := ⟨q7B, q86, q9L, trivial⟩
abbrev q9O {R : Type} : Loops S R := noLoops
theorem q9P {R : Type} : LoopsOk X (q9O (R := R)) := noLoops_ok X
def q9Q : Key := ⟨[70], 70, none, [0, 0, 1, 0, 1, 1, 1], 0, 19⟩
def q9R : StT S := ⟨(N (N v1t none (N L (some (.rs 19 0)) (N (N L vG L) none L))) none (N (N L (some (.ptr 1 0)) L) none v1r)), o14, 20⟩
def q9S : Way S := ⟨(.exit 0), ⟨(N (N L none (N L (some (.rs 19 0)) L)) none (N (N L (some (.ptr 1 0)) L) none L)), o14, 21⟩, [(.lst (.arr 5 (.int .u64))), .nat, (.st 14), (.st 9)]⟩
def q9T : LE S := ⟨q9Q, q9R, [.int, (.lst (.st 10)), .int, (.lst (.arr 5 (.int .u64))), .nat, (.st 14), (.st 9)], [q9S]⟩
def q9U (x : tE) : (List (Nat → Int)) → tP := fun y0 => (y0, x.2.2.2.2.1, x.2.2.2.2.2.1, x.2.2.2.2.2.2)
noncomputable def q9V {R : Type} (x : tE) (k : tP → Option R) : Option R := (swing_enter_L0_run x.2.1 x.2.2.1 x.2.2.2.2.1 x.2.2.2.2.2.1 x.2.2.2.2.2.2 (x.1, x.2.2.2.1)).bind (fun y0 => k (y0, x.2.2.2.2.1, x.2.2.2.2.2.1, x.2.2.2.2.2.2))
def q9W (x : tE) (v : (Int × (List (Nat → Int)))) : tE := (v.1, x.2.1, x.2.2.1, v.2, x.2.2.2.2.1, x.2.2.2.2.2.1, x.2.2.2.2.2.2)
theorem q9X (x : tE) : LE.step X q9T q9M q9O 12 x = swing_enter_L0_step x.2.1 x.2.2.1 x.2.2.2.2.1 x.2.2.2.2.2.1 x.2.2.2.2.2.2 x.1 x.2.2.2.1 (fun w0 w1 => (Sum.inl (w0, x.2.1, x.2.2.1, w1, x.2.2.2.2.1, x.2.2.2.2.2.1, x.2.2.2.2.2.2))) (fun p0 => (Sum.inr (p0, x.2.2.2.2.1, x.2.2.2.2.2.1, x.2.2.2.2.2.2))):=by kernel_rfl
theorem q9Z {R : Type} (x : tE) (k : tP → Option R) (r : R) (h : q9V x k = some r) : ∃ o, Runs (LE.step X q9T q9M q9O 12) x o ∧ k o = some r := by
  obtain ⟨o, h1, h2⟩ := some_bind h
  exact ⟨q9U x o, small_ok (st := fun (x : tE) => swing_enter_L0_st x.2.1 x.2.2.1 x.2.2.2.2.1 x.2.2.2.2.2.1 x.2.2.2.2.2.2) (prj := fun x => (x.1, x.2.2.2.1)) (emb := q9W) (embO := q9U) (fun x => (q9X x).trans (by unfold swing_enter_L0_st swing_enter_L0_step; simp only [map_cond,map_bindO,map_elim,Option.map_some,Option.map_none]; rfl)) (fun _ _ => rfl) (fun _ _ => rfl) (fun _ _ _ => rfl) (fun _ _ _ => rfl) (fun _ => rfl) (runOf_some.1 h1), by
    first
    | exact h2
    | (rcases o with o <;> exact h2)⟩
noncomputable def qa0 {R : Type} : Loops S R := LE.ls X q9T q9V q9O
theorem qa1 {R : Type} : LoopsOk X (qa0 (R := R)) := loop_ok xok q9N (e := q9T) q9P q9Z q9P
theorem qa2 (x0 : SgMooring) (x1 : List SgLook) : evFn X q9M [(.st 9), (.sl (.st 10))] [(.st 14), (.sl (.arr 5 (.int .u64))), (.int .i64)] qa0 12 70 (x0, x1, ()) = swing_enter x0 x1:=by kernel_rfl
noncomputable def qa3 : F7 S := ⟨[(.st 9), (.sl (.st 10))], [(.st 14), (.sl (.arr 5 (.int .u64))), (.int .i64)], fun xs => swing_enter xs.1 xs.2.1⟩
theorem qa4 : FSOk X 70 qa3 := fsOk_eq (evFn_ok xok q9N qa1 12 70) fun xs _ h => (qa2 xs.1 xs.2.1).trans h
noncomputable def qa5 : List (Nat × F7 S) := []
theorem qa6 : TabOk X (qa5) := trivial
abbrev qa7 {R : Type} : Loops S R := noLoops
theorem qa8 {R : Type} : LoopsOk X (qa7 (R := R)) := noLoops_ok X
def qa9 : Key := ⟨[80], 80, none, [0, 0, 1, 0, 1], 0, 5⟩
def qaa : StT S := ⟨(N (N (N (N L (some (.agg [(.arr (.int .u64) 5 (fun _ => tdf T (.int .u64)))])) L) (some (.ptr 1 0)) L) none L) none (N (N (N L vJ L) (some (.ptr 2 0)) L) none L)), (N (N L o9 L) o9 (N L o9 L)), 5⟩
def qab : Way S := ⟨(.exit 0), ⟨(N L none v1o), (N (N L o9 L) o9 (N L o9 L)), 6⟩, [(.arr (.int .u64)), (.arr (.int .u64)), (.arr (.int .u64))]⟩
def qac : LE S := ⟨qa9, qaa, [(.arr (.int .u64)), .int, (.arr (.int .u64)), (.arr (.int .u64)), (.arr (.int .u64))], [qab]⟩
def qad (x : tM) : (Nat → Int) → ((Nat → Int) × (Nat → Int) × (Nat → Int)) := fun y0 => (x.2.2.1, x.2.2.2.1, y0)
noncomputable def qae {R : Type} (x : tM) (k : ((Nat → Int) × (Nat → Int) × (Nat → Int)) → Option R) : Option R := (swing_set_common_L0_run x.1 x.2.2.1 x.2.2.2.1 (x.2.1, x.2.2.2.2)).bind (fun y0 => k (x.2.2.1, x.2.2.2.1, y0))
def qaf (x : tM) (v : (Int × (Nat → Int))) : tM := (x.1, v.1, x.2.2.1, x.2.2.2.1, v.2)
theorem qag (x : tM) : LE.step X qac qa5 qa7 12 x = swing_set_common_L0_step x.1 x.2.2.1 x.2.2.2.1 x.2.1 x.2.2.2.2 (fun w0 w1 => (Sum.inl (x.1, w0, x.2.2.1, x.2.2.2.1, w1))) (fun p0 => (Sum.inr (x.2.2.1, x.2.2.2.1, p0))):=by kernel_rfl
theorem qai {R : Type} (x : tM) (k : ((Nat → Int) × (Nat → Int) × (Nat → Int)) → Option R) (r : R) (h : qae x k = some r) : ∃ o, Runs (LE.step X qac qa5 qa7 12) x o ∧ k o = some r := by
  obtain ⟨o, h1, h2⟩ := some_bind h
  exact ⟨qad x o, small_ok (st := fun (x : tM) => swing_set_common_L0_st x.1 x.2.2.1 x.2.2.2.1) (prj := fun x => (x.2.1, x.2.2.2.2)) (emb := qaf) (embO := qad) (fun x => (qag x).trans (by unfold swing_set_common_L0_st swing_set_common_L0_step; simp only [map_cond,map_bindO,map_elim,Option.map_some,Option.map_none]; rfl)) (fun _ _ => rfl) (fun _ _ => rfl) (fun _ _ _ => rfl) (fun _ _ _ => rfl) (fun _ => rfl) (runOf_some.1 h1), by
    first
    | exact h2
    | (rcases o with o <;> exact h2)⟩
noncomputable def qaj {R : Type} : Loops S R := LE.ls X qac qae qa7
theorem qak {R : Type} : LoopsOk X (qaj (R := R)) := loop_ok xok qa6 (e := qac) qa8 qai qa8
theorem qal (x0 : Nat → Int) (x1 : Nat → Int) : evFn X qa5 [(.arr 5 (.int .u64)), (.arr 5 (.int .u64))] [(.arr 5 (.int .u64))] qaj 12 80 (x0, x1, ()) = swing_set_common x0 x1:=by kernel_rfl
noncomputable def qam : F7 S := ⟨[(.arr 5 (.int .u64)), (.arr 5 (.int .u64))], [(.arr 5 (.int .u64))], fun xs => swing_set_common xs.1 xs.2.1⟩
theorem qan : FSOk X 80 qam := fsOk_eq (evFn_ok xok qa6 qak 12 80) fun xs _ h => (qal xs.1 xs.2.1).trans h
noncomputable def qao : List (Nat × F7 S) := [(80, qam)]
theorem qap : TabOk X (qao) := ⟨qan, trivial⟩
abbrev qaq {R : Type} : Loops S R := noLoops
theorem qar {R : Type} : LoopsOk X (qaq (R := R)) := noLoops_ok X
def qas : Key := ⟨[71], 71, none, [0, 0, 1, 0, 1], 0, 5⟩
def qat : StT S := ⟨(N v1r none (N (N (N L vs L) (some (.ptr 1 0)) L) (some (.ptr 0 0)) (N (N L vJ L) none L))), (N (N L o9 L) o9 L), 5⟩
def qau : Way S := ⟨(.exit 0), ⟨(N L none (N (N L (some (.ptr 1 0)) L) (some (.ptr 0 0)) L)), (N (N L o9 L) o9 L), 6⟩, [(.arr (.int .u64)), (.arr (.int .u64))]⟩
def qav : LE S := ⟨qas, qat, [.int, (.lst (.arr 5 (.int .u64))), .int, (.arr (.int .u64)), (.arr (.int .u64))], [qau]⟩
def qaw (x : tN) : (Nat → Int) → ((Nat → Int) × (Nat → Int)) := fun y0 => (x.2.2.2.1, y0)
noncomputable def qax {R : Type} (x : tN) (k : ((Nat → Int) × (Nat → Int)) → Option R) : Option R := (swing_fold_L0_run x.1 x.2.1 x.2.2.2.1 (x.2.2.1, x.2.2.2.2)).bind (fun y0 => k (x.2.2.2.1, y0))
def qay (x : tN) (v : (Int × (Nat → Int))) : tN := (x.1, x.2.1, v.1, x.2.2.2.1, v.2)
theorem qaz (x : tN) : LE.step X qav qao qaq 12 x = swing_fold_L0_step x.1 x.2.1 x.2.2.2.1 x.2.2.1 x.2.2.2.2 (fun w0 w1 => (Sum.inl (x.1, x.2.1, w0, x.2.2.2.1, w1))) (fun p0 => (Sum.inr (x.2.2.2.1, p0))):=by kernel_rfl
theorem qaB {R : Type} (x : tN) (k : ((Nat → Int) × (Nat → Int)) → Option R) (r : R) (h : qax x k = some r) : ∃ o, Runs (LE.step X qav qao qaq 12) x o ∧ k o = some r := by
  obtain ⟨o, h1, h2⟩ := some_bind h
  exact ⟨qaw x o, small_ok (st := fun (x : tN) => swing_fold_L0_st x.1 x.2.1 x.2.2.2.1) (prj := fun x => (x.2.2.1, x.2.2.2.2)) (emb := qay) (embO := qaw) (fun x => (qaz x).trans (by unfold swing_fold_L0_st swing_fold_L0_step; simp only [map_cond,map_bindO,map_elim,Option.map_some,Option.map_none]; rfl)) (fun _ _ => rfl) (fun _ _ => rfl) (fun _ _ _ => rfl) (fun _ _ _ => rfl) (fun _ => rfl) (runOf_some.1 h1), by
    first
    | exact h2
    | (rcases o with o <;> exact h2)⟩
noncomputable def qaC {R : Type} : Loops S R := LE.ls X qav qax qaq
theorem qaD {R : Type} : LoopsOk X (qaC (R := R)) := loop_ok xok qap (e := qav) qar qaB qar
theorem qaE (x0 : Nat → Int) (x1 : List (Nat → Int)) : evFn X qao [(.arr 5 (.int .u64)), (.sl (.arr 5 (.int .u64)))] [(.arr 5 (.int .u64))] qaC 12 71 (x0, x1, ()) = swing_fold x0 x1:=by kernel_rfl
noncomputable def qaF : F7 S := ⟨[(.arr 5 (.int .u64)), (.sl (.arr 5 (.int .u64)))], [(.arr 5 (.int .u64))], fun xs => swing_fold xs.1 xs.2.1⟩
theorem qaG : FSOk X 71 qaF := fsOk_eq (evFn_ok xok qap qaD 12 71) fun xs _ h => (qaE xs.1 xs.2.1).trans h
noncomputable def qaH : List (Nat × F7 S) := []
theorem qaI : TabOk X (qaH) := trivial
abbrev qaJ {R : Type} : Loops S R := noLoops
theorem qaK {R : Type} : LoopsOk X (qaJ (R := R)) := noLoops_ok X
theorem qaL (x0 : Nat → Int) (x1 : Int) : evFn X qaH [(.arr 5 (.int .u64)), (.int .i64)] [.bool] qaJ 12 73 (x0, x1, ()) = swing_set_has x0 x1:=by kernel_rfl
noncomputable def qaM : F7 S := ⟨[(.arr 5 (.int .u64)), (.int .i64)], [.bool], fun xs => swing_set_has xs.1 xs.2.1⟩
theorem qaN : FSOk X 73 qaM := fsOk_eq (evFn_ok xok qaI qaK 12 73) fun xs _ h => (qaL xs.1 xs.2.1).trans h
noncomputable def qaO : List (Nat × F7 S) := [(70, qa3), (71, qaF), (73, qaM)]
theorem qaP : TabOk X (qaO) := ⟨qa4, qaG, qaN, trivial⟩
abbrev qaQ {R : Type} : Loops S R := noLoops
theorem qaR {R : Type} : LoopsOk X (qaQ (R := R)) := noLoops_ok X
def qaS : Key := ⟨[108, 0, 21], 108, none, [0, 0, 1, 0, 0, 1, 0, 0, 1, 1], 2, 46⟩
def qaT : StT S := ⟨(N (N (N L vJ L) (some (.ptr 25 0)) (N L vJ L)) (some (.yld 30)) (N (N L vJ L) none L)), oV, 47⟩
def qaU : Way S := ⟨(.exit 2), ⟨v18, oV, 52⟩, [.int, .int, (.st 6), (.st 9), (.arr (.int .u64)), (.st 14), (.lst (.st 2)), .nat, (.lst (.arr 5 (.int .u64))), .bool, (.lst (.st 10)), .int, (.st 9)]⟩
def qaV : LE S := ⟨qaS, qaT, [.int, .int, .int, (.st 6), (.st 9), (.arr (.int .u64)), (.st 14), (.lst (.st 2)), .nat, (.lst (.arr 5 (.int .u64))), .bool, (.lst (.st 10)), .int, (.st 9)], [qaU]⟩
def qaW (x : tm) : (Int × (List Point)) → to := fun y0 => (y0.1, x.2.2.1, x.2.2.2.1, x.2.2.2.2.1, x.2.2.2.2.2.1, x.2.2.2.2.2.2.1, y0.2, x.2.2.2.2.2.2.2.2.1, x.2.2.2.2.2.2.2.2.2.1, x.2.2.2.2.2.2.2.2.2.2.1, x.2.2.2.2.2.2.2.2.2.2.2.1, x.2.2.2.2.2.2.2.2.2.2.2.2.1, x.2.2.2.2.2.2.2.2.2.2.2.2.2)
noncomputable def qaX {R : Type} (x : tm) (k : to → Option R) : Option R := (swing_Anchors_L1_run x.2.2.1 x.2.2.2.1 x.2.2.2.2.1 x.2.2.2.2.2.1 x.2.2.2.2.2.2.1 x.2.2.2.2.2.2.2.2.1 x.2.2.2.2.2.2.2.2.2.1 x.2.2.2.2.2.2.2.2.2.2.1 x.2.2.2.2.2.2.2.2.2.2.2.1 x.2.2.2.2.2.2.2.2.2.2.2.2.1 x.2.2.2.2.2.2.2.2.2.2.2.2.2 (x.1, x.2.1, x.2.2.2.2.2.2.2.1)).bind (fun y0 => k (y0.1, x.2.2.1, x.2.2.2.1, x.2.2.2.2.1, x.2.2.2.2.2.1, x.2.2.2.2.2.2.1, y0.2, x.2.2.2.2.2.2.2.2.1, x.2.2.2.2.2.2.2.2.2.1, x.2.2.2.2.2.2.2.2.2.2.1, x.2.2.2.2.2.2.2.2.2.2.2.1, x.2.2.2.2.2.2.2.2.2.2.2.2.1, x.2.2.2.2.2.2.2.2.2.2.2.2.2))
def qaY (x : tm) (v : t16) : tm := (v.1, v.2.1, x.2.2.1, x.2.2.2.1, x.2.2.2.2.1, x.2.2.2.2.2.1, x.2.2.2.2.2.2.1, v.2.2, x.2.2.2.2.2.2.2.2.1, x.2.2.2.2.2.2.2.2.2.1, x.2.2.2.2.2.2.2.2.2.2.1, x.2.2.2.2.2.2.2.2.2.2.2.1, x.2.2.2.2.2.2.2.2.2.2.2.2.1, x.2.2.2.2.2.2.2.2.2.2.2.2.2)
theorem qaZ (x : tm) : LE.step X qaV qaO qaQ 12 x = swing_Anchors_L1_step x.2.2.1 x.2.2.2.1 x.2.2.2.2.1 x.2.2.2.2.2.1 x.2.2.2.2.2.2.1 x.2.2.2.2.2.2.2.2.1 x.2.2.2.2.2.2.2.2.2.1 x.2.2.2.2.2.2.2.2.2.2.1 x.2.2.2.2.2.2.2.2.2.2.2.1 x.2.2.2.2.2.2.2.2.2.2.2.2.1 x.2.2.2.2.2.2.2.2.2.2.2.2.2 x.1 x.2.1 x.2.2.2.2.2.2.2.1 (fun w0 w1 w2 => (Sum.inl (w0, w1, x.2.2.1, x.2.2.2.1, x.2.2.2.2.1, x.2.2.2.2.2.1, x.2.2.2.2.2.2.1, w2, x.2.2.2.2.2.2.2.2.1, x.2.2.2.2.2.2.2.2.2.1, x.2.2.2.2.2.2.2.2.2.2.1, x.2.2.2.2.2.2.2.2.2.2.2.1, x.2.2.2.2.2.2.2.2.2.2.2.2.1, x.2.2.2.2.2.2.2.2.2.2.2.2.2))) (fun p0 p1 => (Sum.inr (p0, x.2.2.1, x.2.2.2.1, x.2.2.2.2.1, x.2.2.2.2.2.1, x.2.2.2.2.2.2.1, p1, x.2.2.2.2.2.2.2.2.1, x.2.2.2.2.2.2.2.2.2.1, x.2.2.2.2.2.2.2.2.2.2.1, x.2.2.2.2.2.2.2.2.2.2.2.1, x.2.2.2.2.2.2.2.2.2.2.2.2.1, x.2.2.2.2.2.2.2.2.2.2.2.2.2))):=by kernel_rfl
theorem qb1 {R : Type} (x : tm) (k : to → Option R) (r : R) (h : qaX x k = some r) : ∃ o, Runs (LE.step X qaV qaO qaQ 12) x o ∧ k o = some r := by
  obtain ⟨o, h1, h2⟩ := some_bind h
  exact ⟨qaW x o, small_ok (st := fun (x : tm) => swing_Anchors_L1_st x.2.2.1 x.2.2.2.1 x.2.2.2.2.1 x.2.2.2.2.2.1 x.2.2.2.2.2.2.1 x.2.2.2.2.2.2.2.2.1 x.2.2.2.2.2.2.2.2.2.1 x.2.2.2.2.2.2.2.2.2.2.1 x.2.2.2.2.2.2.2.2.2.2.2.1 x.2.2.2.2.2.2.2.2.2.2.2.2.1 x.2.2.2.2.2.2.2.2.2.2.2.2.2) (prj := fun x => (x.1, x.2.1, x.2.2.2.2.2.2.2.1)) (emb := qaY) (embO := qaW) (fun x => (qaZ x).trans (by unfold swing_Anchors_L1_st swing_Anchors_L1_step; simp only [map_cond,map_bindO,map_elim,Option.map_some,Option.map_none]; rfl)) (fun _ _ => rfl) (fun _ _ => rfl) (fun _ _ _ => rfl) (fun _ _ _ => rfl) (fun _ => rfl) (runOf_some.1 h1), by
    first
    | exact h2
    | (rcases o with o <;> exact h2)⟩
noncomputable def qb2 {R : Type} : Loops S R := LE.ls X qaV qaX qaQ
theorem qb3 {R : Type} : LoopsOk X (qb2 (R := R)) := loop_ok xok qaP (e := qaV) qaR qb1 qaR
def qb4 : Key := ⟨[108, 0, 21], 108, none, [0, 0, 1, 1], 0, 36⟩
def qb5 : StT S := ⟨v18, oW, 37⟩
def qb6 : Way S := ⟨(.exit 0), ⟨L, oW, 42⟩, [(.st 6), (.st 9), (.lst (.st 2)), .nat, (.arr (.int .u64)), (.st 14), (.lst (.arr 5 (.int .u64))), .bool, (.lst (.st 10)), .int, (.st 9)]⟩
def qb7 : LE S := ⟨qb4, qb5, [.int, .int, (.st 6), (.st 9), (.lst (.st 2)), .nat, (.arr (.int .u64)), (.st 14), (.lst (.arr 5 (.int .u64))), .bool, (.lst (.st 10)), .int, (.st 9)], [qb6]⟩
def qb8 (x : tp) : (List Point) → tq := fun y0 => (x.2.2.1, x.2.2.2.1, y0, x.2.2.2.2.2.1, x.2.2.2.2.2.2.1, x.2.2.2.2.2.2.2.1, x.2.2.2.2.2.2.2.2.1, x.2.2.2.2.2.2.2.2.2.1, x.2.2.2.2.2.2.2.2.2.2.1, x.2.2.2.2.2.2.2.2.2.2.2.1, x.2.2.2.2.2.2.2.2.2.2.2.2)
noncomputable def qb9 {R : Type} (x : tp) (k : tq → Option R) : Option R := (swing_Anchors_L0_run x.2.2.1 x.2.2.2.1 x.2.2.2.2.2.1 x.2.2.2.2.2.2.1 x.2.2.2.2.2.2.2.1 x.2.2.2.2.2.2.2.2.1 x.2.2.2.2.2.2.2.2.2.1 x.2.2.2.2.2.2.2.2.2.2.1 x.2.2.2.2.2.2.2.2.2.2.2.1 x.2.2.2.2.2.2.2.2.2.2.2.2 (x.1, x.2.1, x.2.2.2.2.1)).bind (fun y0 => k (x.2.2.1, x.2.2.2.1, y0, x.2.2.2.2.2.1, x.2.2.2.2.2.2.1, x.2.2.2.2.2.2.2.1, x.2.2.2.2.2.2.2.2.1, x.2.2.2.2.2.2.2.2.2.1, x.2.2.2.2.2.2.2.2.2.2.1, x.2.2.2.2.2.2.2.2.2.2.2.1, x.2.2.2.2.2.2.2.2.2.2.2.2))
def qba (x : tp) (v : t16) : tp := (v.1, v.2.1, x.2.2.1, x.2.2.2.1, v.2.2, x.2.2.2.2.2.1, x.2.2.2.2.2.2.1, x.2.2.2.2.2.2.2.1, x.2.2.2.2.2.2.2.2.1, x.2.2.2.2.2.2.2.2.2.1, x.2.2.2.2.2.2.2.2.2.2.1, x.2.2.2.2.2.2.2.2.2.2.2.1, x.2.2.2.2.2.2.2.2.2.2.2.2)
theorem qbb (x : tp) : LE.step X qb7 qaO qb2 12 x = swing_Anchors_L0_step x.2.2.1 x.2.2.2.1 x.2.2.2.2.2.1 x.2.2.2.2.2.2.1 x.2.2.2.2.2.2.2.1 x.2.2.2.2.2.2.2.2.1 x.2.2.2.2.2.2.2.2.2.1 x.2.2.2.2.2.2.2.2.2.2.1 x.2.2.2.2.2.2.2.2.2.2.2.1 x.2.2.2.2.2.2.2.2.2.2.2.2 x.1 x.2.1 x.2.2.2.2.1 (fun w0 w1 w2 => (Sum.inl (w0, w1, x.2.2.1, x.2.2.2.1, w2, x.2.2.2.2.2.1, x.2.2.2.2.2.2.1, x.2.2.2.2.2.2.2.1, x.2.2.2.2.2.2.2.2.1, x.2.2.2.2.2.2.2.2.2.1, x.2.2.2.2.2.2.2.2.2.2.1, x.2.2.2.2.2.2.2.2.2.2.2.1, x.2.2.2.2.2.2.2.2.2.2.2.2))) (fun p0 => (Sum.inr (x.2.2.1, x.2.2.2.1, p0, x.2.2.2.2.2.1, x.2.2.2.2.2.2.1, x.2.2.2.2.2.2.2.1, x.2.2.2.2.2.2.2.2.1, x.2.2.2.2.2.2.2.2.2.1, x.2.2.2.2.2.2.2.2.2.2.1, x.2.2.2.2.2.2.2.2.2.2.2.1, x.2.2.2.2.2.2.2.2.2.2.2.2))):=by kernel_rfl
theorem qbd {R : Type} (x : tp) (k : tq → Option R) (r : R) (h : qb9 x k = some r) : ∃ o, Runs (LE.step X qb7 qaO qb2 12) x o ∧ k o = some r := by
  obtain ⟨o, h1, h2⟩ := some_bind h
  exact ⟨qb8 x o, small_ok (st := fun (x : tp) => swing_Anchors_L0_st x.2.2.1 x.2.2.2.1 x.2.2.2.2.2.1 x.2.2.2.2.2.2.1 x.2.2.2.2.2.2.2.1 x.2.2.2.2.2.2.2.2.1 x.2.2.2.2.2.2.2.2.2.1 x.2.2.2.2.2.2.2.2.2.2.1 x.2.2.2.2.2.2.2.2.2.2.2.1 x.2.2.2.2.2.2.2.2.2.2.2.2) (prj := fun x => (x.1, x.2.1, x.2.2.2.2.1)) (emb := qba) (embO := qb8) (fun x => (qbb x).trans (by unfold swing_Anchors_L0_st swing_Anchors_L0_step; simp only [map_cond,map_bindO,map_elim,Option.map_some,Option.map_none]; rfl)) (fun _ _ => rfl) (fun _ _ => rfl) (fun _ _ _ => rfl) (fun _ _ _ => rfl) (fun _ => rfl) (runOf_some.1 h1), by
    first
    | exact h2
    | (rcases o with o <;> exact h2)⟩
noncomputable def qbe {R : Type} : Loops S R := LE.ls X qb7 qb9 qb2
theorem qbf {R : Type} : LoopsOk X (qbe (R := R)) := loop_ok xok qaP (e := qb7) qb3 qbd qb3
theorem qbg (x0 : SgMooring) (x1 : List SgLook) : evFn X qaO [(.st 9), (.sl (.st 10))] [(.sl (.st 2)), (.int .i64)] qbe 12 21 (x0, x1, ()) = swing_Anchors x0 x1:=by kernel_rfl
noncomputable def qbh : F7 S := ⟨[(.st 9), (.sl (.st 10))], [(.sl (.st 2)), (.int .i64)], fun xs => swing_Anchors xs.1 xs.2.1⟩
theorem qbi : FSOk X 21 qbh := fsOk_eq (evFn_ok xok qaP qbf 12 21) fun xs _ h => (qbg xs.1 xs.2.1).trans h
noncomputable def qbj : List (Nat × F7 S) := []
theorem qbk : TabOk X (qbj) := trivial
abbrev qbl {R : Type} : Loops S R := noLoops
theorem qbm {R : Type} : LoopsOk X (qbl (R := R)) := noLoops_ok X
theorem qbn (x0 : Point) : evFn X qbj [(.st 2)] [(.st 2)] qbl 12 134 (x0, ()) = ref01_turned x0:=by kernel_rfl
noncomputable def qbo : F7 S := ⟨[(.st 2)], [(.st 2)], fun xs => ref01_turned xs.1⟩
theorem qbp : FSOk X 134 qbo := fsOk_eq (evFn_ok xok qbk qbm 12 134) fun xs _ h => (qbn xs.1).trans h
noncomputable def qbq (ih : (Int × Unit) → Option (Point)) : List (Nat × F7 S) := [(134, qbo), (118, ⟨[(.int .i64)], [(.st 2)], ih⟩)]
theorem qbr (ih : (Int × Unit) → Option (Point)) (hih : FSOk X 118 ⟨[(.int .i64)], [(.st 2)], ih⟩) : TabOk X (qbq ih) := ⟨qbp, hih, trivial⟩
abbrev qbs (ih : (Int × Unit) → Option (Point)) {R : Type} : Loops S R := noLoops
theorem qbt (ih : (Int × Unit) → Option (Point)) (hih : FSOk X 118 ⟨[(.int .i64)], [(.st 2)], ih⟩) {R : Type} : LoopsOk X (qbs ih (R := R)) := noLoops_ok X
theorem qbu (ih : (Int × Unit) → Option (Point)) (x0 : Int) : evFn X (qbq ih) [(.int .i64)] [(.st 2)] (qbs ih) 12 118 (x0, ()) = ref01_Compass_one ih x0:=by kernel_rfl
noncomputable def qbv : F7 S := ⟨[(.int .i64)], [(.st 2)], fun xs => ref01_Compass xs.1⟩
theorem qbw : FSOk X 118 qbv := rec_ok (X := X) (g := 118) (pts := [(.int .i64)]) (rts := [(.st 2)]) (t := ref01_Compass_rec) fun ih hih => fsOk_eq (evFn_ok xok (qbr ih hih) (qbt ih hih) 12 118) fun xs _ h => (qbu ih xs.1).trans h
noncomputable def qbx : List (Nat × F7 S) := [(118, qbv), (92, q5i)]
theorem qby : TabOk X (qbx) := ⟨qbw, q5j, trivial⟩
abbrev qbz {R : Type} : Loops S R := noLoops
theorem qbA {R : Type} : LoopsOk X (qbz (R := R)) := noLoops_ok X
def qbB : Key := ⟨[91], 91, none, [0, 0, 0, 1, 1], 0, 3⟩
def qbC : StT S := ⟨(N (N (N L vJ L) (some (.ptr 0 0)) L) none L), (N L oj L), 3⟩
def qbD : Way S := ⟨(.exit 0), ⟨v1q, (N L oj L), 17⟩, [.int, (.st 2)]⟩
def qbE : LE S := ⟨qbB, qbC, [.int, (.st 2)], [qbD]⟩
def qbF (x : (Int × Point)) : Int → (Int × Point) := fun y0 => (y0, x.2)
noncomputable def qbG {R : Type} (x : (Int × Point)) (k : (Int × Point) → Option R) : Option R := (ref01_Toward_L0_run x.2 x.1).bind (fun y0 => k (y0, x.2))
def qbH (x : (Int × Point)) (v : Int) : (Int × Point) := (v, x.2)
theorem qbI (x : (Int × Point)) : LE.step X qbE qbx qbz 12 x = ref01_Toward_L0_step x.2 x.1 (fun w0 => (Sum.inl (w0, x.2))) (fun p0 => (Sum.inr (p0, x.2))):=by kernel_rfl
theorem qbK {R : Type} (x : (Int × Point)) (k : (Int × Point) → Option R) (r : R) (h : qbG x k = some r) : ∃ o, Runs (LE.step X qbE qbx qbz 12) x o ∧ k o = some r := by
  obtain ⟨o, h1, h2⟩ := some_bind h
  exact ⟨qbF x o, small_ok (st := fun (x : (Int × Point)) => ref01_Toward_L0_st x.2) (prj := fun x => x.1) (emb := qbH) (embO := qbF) (fun x => (qbI x).trans (by unfold ref01_Toward_L0_st ref01_Toward_L0_step; simp only [map_cond,map_bindO,map_elim,Option.map_some,Option.map_none]; rfl)) (fun _ _ => rfl) (fun _ _ => rfl) (fun _ _ _ => rfl) (fun _ _ _ => rfl) (fun _ => rfl) (runOf_some.1 h1), by
    first
    | exact h2
    | (rcases o with o <;> exact h2)⟩
noncomputable def qbL {R : Type} : Loops S R := LE.ls X qbE qbG qbz
theorem qbM {R : Type} : LoopsOk X (qbL (R := R)) := loop_ok xok qby (e := qbE) qbA qbK qbA
theorem qbN (x0 : Point) : evFn X qbx [(.st 2)] [(.int .i64)] qbL 12 91 (x0, ()) = ref01_Toward x0:=by kernel_rfl
noncomputable def qbO : F7 S := ⟨[(.st 2)], [(.int .i64)], fun xs => ref01_Toward xs.1⟩
theorem qbP : FSOk X 91 qbO := fsOk_eq (evFn_ok xok qby qbM 12 91) fun xs _ h => (qbN xs.1).trans h
noncomputable def qbQ : List (Nat × F7 S) := []
theorem qbR : TabOk X (qbQ) := trivial
abbrev qbS {R : Type} : Loops S R := noLoops
theorem qbT {R : Type} : LoopsOk X (qbS (R := R)) := noLoops_ok X
theorem qbU (x0 : Int) (x1 : Int) : evFn X qbQ [(.int .i64), (.int .i64)] [(.st 5)] qbS 12 53 (x0, x1, ()) = law04_span x0 x1:=by kernel_rfl
noncomputable def qbV : F7 S := ⟨[(.int .i64), (.int .i64)], [(.st 5)], fun xs => law04_span xs.1 xs.2.1⟩
theorem qbW : FSOk X 53 qbV := fsOk_eq (evFn_ok xok qbR qbT 12 53) fun xs _ h => (qbU xs.1 xs.2.1).trans h
noncomputable def qbX : List (Nat × F7 S) := [(19, q7A), (62, q35), (76, q85), (77, q8P)]
theorem qbY : TabOk X (qbX) := ⟨q7B, q36, q86, q8Q, trivial⟩
abbrev qbZ {R : Type} : Loops S R := noLoops
theorem qc0 {R : Type} : LoopsOk X (qbZ (R := R)) := noLoops_ok X
theorem qc1 (x0 : SgMooring) (x1 : SgLook) (x2 : Point) (x3 : Point) : evFn X qbX [(.st 9), (.st 10), (.st 2), (.st 2)] [.bool, (.int .i64)] qbZ 12 25 (x0, x1, x2, x3, ()) = swing_Lies x0 x1 x2 x3:=by kernel_rfl
noncomputable def qc2 : F7 S := ⟨[(.st 9), (.st 10), (.st 2), (.st 2)], [.bool, (.int .i64)], fun xs => swing_Lies xs.1 xs.2.1 xs.2.2.1 xs.2.2.2.1⟩
theorem qc3 : FSOk X 25 qc2 := fsOk_eq (evFn_ok xok qbY qc0 12 25) fun xs _ h => (qc1 xs.1 xs.2.1 xs.2.2.1 xs.2.2.2.1).trans h
noncomputable def qc4 : List (Nat × F7 S) := [(70, qa3), (80, qam)]
theorem qc5 : TabOk X (qc4) := ⟨qa4, qan, trivial⟩
abbrev qc6 {R : Type} : Loops S R := noLoops
theorem qc7 {R : Type} : LoopsOk X (qc6 (R := R)) := noLoops_ok X
def qc8 : Key := ⟨[27], 27, none, [0, 0, 1, 0, 1, 1, 1, 1], 0, 23⟩
def qc9 : StT S := ⟨(N (N L none (N (N L (some (.ptr 18 0)) (N L vJ L)) none L)) none (N (N (N L none (N L vs L)) none L) none v1t)), (N L om o1n), 23⟩
def qca : Way S := ⟨.ret, ⟨v1j, (N (N o1w none L) om o1n), 40⟩, [.int, .int, (.arr (.int .u64)), (.st 9), (.arr (.int .u64)), (.st 14)]⟩
def qcb : Way S := ⟨(.exit 0), ⟨L, (N L om o1n), 24⟩, [(.st 9), (.arr (.int .u64)), (.st 14)]⟩
def qcc : LE S := ⟨qc8, qc9, [.int, (.lst (.arr 5 (.int .u64))), .int, (.st 9), (.arr (.int .u64)), (.st 14)], [qca, qcb]⟩
def qcd (x : tH) : ((Int × Int × (Nat → Int) × (Nat → Int)) ⊕ (Nat → Int)) → tv := Sum.elim (fun y0 => (.inl (y0.1, y0.2.1, y0.2.2.1, x.2.2.2.1, y0.2.2.2, x.2.2.2.2.2))) (fun y1 => (.inr (x.2.2.2.1, y1, x.2.2.2.2.2)))
noncomputable def qce {R : Type} (x : tH) (k : tv → Option R) : Option R := (swing_Dragged_L0_run x.1 x.2.1 x.2.2.2.1 x.2.2.2.2.2 (x.2.2.1, x.2.2.2.2.1)).bind (Sum.elim (fun y0 => k (.inl (y0.1, y0.2.1, y0.2.2.1, x.2.2.2.1, y0.2.2.2, x.2.2.2.2.2))) (fun y1 => k (.inr (x.2.2.2.1, y1, x.2.2.2.2.2))))
def qcf (x : tH) (v : (Int × (Nat → Int))) : tH := (x.1, x.2.1, v.1, x.2.2.2.1, v.2, x.2.2.2.2.2)
theorem qcg (x : tH) : LE.step X qcc qc4 qc6 12 x = swing_Dragged_L0_step x.1 x.2.1 x.2.2.2.1 x.2.2.2.2.2 x.2.2.1 x.2.2.2.2.1 (fun w0 w1 => (Sum.inl (x.1, x.2.1, w0, x.2.2.2.1, w1, x.2.2.2.2.2))) (fun p0 p1 p2 p3 => (Sum.inr (.inl (p0, p1, p2, x.2.2.2.1, p3, x.2.2.2.2.2)))) (fun p0 => (Sum.inr (.inr (x.2.2.2.1, p0, x.2.2.2.2.2)))):=by kernel_rfl
theorem qci {R : Type} (x : tH) (k : tv → Option R) (r : R) (h : qce x k = some r) : ∃ o, Runs (LE.step X qcc qc4 qc6 12) x o ∧ k o = some r := by
  obtain ⟨o, h1, h2⟩ := some_bind h
  exact ⟨qcd x o, small_ok (st := fun (x : tH) => swing_Dragged_L0_st x.1 x.2.1 x.2.2.2.1 x.2.2.2.2.2) (prj := fun x => (x.2.2.1, x.2.2.2.2.1)) (emb := qcf) (embO := qcd) (fun x => (qcg x).trans (by unfold swing_Dragged_L0_st swing_Dragged_L0_step; simp only [map_cond,map_bindO,map_elim,Option.map_some,Option.map_none]; rfl)) (fun _ _ => rfl) (fun _ _ => rfl) (fun _ _ _ => rfl) (fun _ _ _ => rfl) (fun _ => rfl) (runOf_some.1 h1), by
    first
    | exact h2
    | (rcases o with o | o <;> exact h2)⟩
noncomputable def qcj {R : Type} : Loops S R := LE.ls X qcc qce qc6
theorem qck {R : Type} : LoopsOk X (qcj (R := R)) := loop_ok xok qc5 (e := qcc) qc7 qci qc7
theorem qcl (x0 : SgMooring) (x1 : List SgLook) : evFn X qc4 [(.st 9), (.sl (.st 10))] [(.int .i64), (.int .i64)] qcj 12 27 (x0, x1, ()) = swing_Dragged x0 x1:=by kernel_rfl
noncomputable def qcm : F7 S := ⟨[(.st 9), (.sl (.st 10))], [(.int .i64), (.int .i64)], fun xs => swing_Dragged xs.1 xs.2.1⟩
theorem qcn : FSOk X 27 qcm := fsOk_eq (evFn_ok xok qc5 qck 12 27) fun xs _ h => (qcl xs.1 xs.2.1).trans h
noncomputable def qco : List (Nat × F7 S) := [(80, qam)]
theorem qcp : TabOk X (qco) := ⟨qan, trivial⟩
abbrev qcq {R : Type} : Loops S R := noLoops
theorem qcr {R : Type} : LoopsOk X (qcq (R := R)) := noLoops_ok X
def qcs : Key := ⟨[82], 82, none, [0, 0, 1, 0, 1, 1, 1], 0, 13⟩
def qct : StT S := ⟨(N (N (N (N (N L vJ L) (some (.fn (.func 115) [] [(.ptr 2 0), (.ptr 1 0), (.ptr 6 0)])) L) none L) none (N L none (N L vs L))) none (N (N L (some (.ptr 2 0)) L) none (N L (some (.ptr 6 0)) (N L vJ L)))), o1h, 14⟩
def qcu : Way S := ⟨.ret, ⟨(N (N L none (N L vI L)) none v1o), (N (N L oa (N L none (N L ot L))) oe (N L oA (N (N (N L o9 L) none L) o9 L))), 27⟩, [.bool, (.lst (.arr 5 (.int .u64))), (.lst (.int .i64)), .nat, (.st 14), (.arr (.int .u64)), (.arr (.int .u64))]⟩
def qcv : Way S := ⟨(.exit 0), ⟨(N L none v1o), o1h, 15⟩, [(.lst (.arr 5 (.int .u64))), (.lst (.int .i64)), .nat, (.st 14), (.arr (.int .u64))]⟩
def qcw : LE S := ⟨qcs, qct, [.int, (.lst (.arr 5 (.int .u64))), .int, (.lst (.arr 5 (.int .u64))), (.lst (.int .i64)), .nat, (.st 14), (.arr (.int .u64))], [qcu, qcv]⟩
def qcx (x : ty) : ((Bool × (List Int) × (Nat → Int) × (Nat → Int)) ⊕ ((List Int) × (Nat → Int))) → ti := Sum.elim (fun y0 => (.inl (y0.1, x.2.2.2.1, y0.2.1, x.2.2.2.2.2.1, x.2.2.2.2.2.2.1, y0.2.2.1, y0.2.2.2))) (fun y1 => (.inr (x.2.2.2.1, y1.1, x.2.2.2.2.2.1, x.2.2.2.2.2.2.1, y1.2)))
noncomputable def qcy {R : Type} (x : ty) (k : ti → Option R) : Option R := (swing_mooring_drags_L0_run x.2.1 x.2.2.1 x.2.2.2.1 x.2.2.2.2.2.1 x.2.2.2.2.2.2.1 (x.1, x.2.2.2.2.1, x.2.2.2.2.2.2.2)).bind (Sum.elim (fun y0 => k (.inl (y0.1, x.2.2.2.1, y0.2.1, x.2.2.2.2.2.1, x.2.2.2.2.2.2.1, y0.2.2.1, y0.2.2.2))) (fun y1 => k (.inr (x.2.2.2.1, y1.1, x.2.2.2.2.2.1, x.2.2.2.2.2.2.1, y1.2))))
def qcz (x : ty) (v : (Int × (List Int) × (Nat → Int))) : ty := (v.1, x.2.1, x.2.2.1, x.2.2.2.1, v.2.1, x.2.2.2.2.2.1, x.2.2.2.2.2.2.1, v.2.2)
theorem qcA (x : ty) : LE.step X qcw qco qcq 12 x = swing_mooring_drags_L0_step x.2.1 x.2.2.1 x.2.2.2.1 x.2.2.2.2.2.1 x.2.2.2.2.2.2.1 x.1 x.2.2.2.2.1 x.2.2.2.2.2.2.2 (fun w0 w1 w2 => (Sum.inl (w0, x.2.1, x.2.2.1, x.2.2.2.1, w1, x.2.2.2.2.2.1, x.2.2.2.2.2.2.1, w2))) (fun p0 p1 p2 p3 => (Sum.inr (.inl (p0, x.2.2.2.1, p1, x.2.2.2.2.2.1, x.2.2.2.2.2.2.1, p2, p3)))) (fun p0 p1 => (Sum.inr (.inr (x.2.2.2.1, p0, x.2.2.2.2.2.1, x.2.2.2.2.2.2.1, p1)))):=by kernel_rfl
theorem qcC {R : Type} (x : ty) (k : ti → Option R) (r : R) (h : qcy x k = some r) : ∃ o, Runs (LE.step X qcw qco qcq 12) x o ∧ k o = some r := by
  obtain ⟨o, h1, h2⟩ := some_bind h
  exact ⟨qcx x o, small_ok (st := fun (x : ty) => swing_mooring_drags_L0_st x.2.1 x.2.2.1 x.2.2.2.1 x.2.2.2.2.2.1 x.2.2.2.2.2.2.1) (prj := fun x => (x.1, x.2.2.2.2.1, x.2.2.2.2.2.2.2)) (emb := qcz) (embO := qcx) (fun x => (qcA x).trans (by unfold swing_mooring_drags_L0_st swing_mooring_drags_L0_step; simp only [map_cond,map_bindO,map_elim,Option.map_some,Option.map_none]; rfl)) (fun _ _ => rfl) (fun _ _ => rfl) (fun _ _ _ => rfl) (fun _ _ _ => rfl) (fun _ => rfl) (runOf_some.1 h1), by
    first
    | exact h2
    | (rcases o with o | o <;> exact h2)⟩
noncomputable def qcD {R : Type} : Loops S R := LE.ls X qcw qcy qcq
theorem qcE {R : Type} : LoopsOk X (qcD (R := R)) := loop_ok xok qcp (e := qcw) qcr qcC qcr
theorem qcF (x0 : swing_mooring) (x1 : List (Nat → Int)) : evFn X qco [(.st 14), (.sl (.arr 5 (.int .u64)))] [(.sl (.int .i64)), .bool] qcD 12 82 (x0, x1, ()) = swing_mooring_drags x0 x1:=by kernel_rfl
noncomputable def qcG : F7 S := ⟨[(.st 14), (.sl (.arr 5 (.int .u64)))], [(.sl (.int .i64)), .bool], fun xs => swing_mooring_drags xs.1 xs.2.1⟩
theorem qcH : FSOk X 82 qcG := fsOk_eq (evFn_ok xok qcp qcE 12 82) fun xs _ h => (qcF xs.1 xs.2.1).trans h
noncomputable def qcI : List (Nat × F7 S) := [(70, qa3), (82, qcG)]
theorem qcJ : TabOk X (qcI) := ⟨qa4, qcH, trivial⟩
abbrev qcK {R : Type} : Loops S R := noLoops
theorem qcL {R : Type} : LoopsOk X (qcK (R := R)) := noLoops_ok X
theorem qcM (x0 : SgMooring) (x1 : List SgLook) : evFn X qcI [(.st 9), (.sl (.st 10))] [(.sl (.int .i64)), (.int .i64)] qcK 12 29 (x0, x1, ()) = swing_Drags x0 x1:=by kernel_rfl
noncomputable def qcN : F7 S := ⟨[(.st 9), (.sl (.st 10))], [(.sl (.int .i64)), (.int .i64)], fun xs => swing_Drags xs.1 xs.2.1⟩
theorem qcO : FSOk X 29 qcN := fsOk_eq (evFn_ok xok qcJ qcL 12 29) fun xs _ h => (qcM xs.1 xs.2.1).trans h
noncomputable def qcP : List (Nat × F7 S) := [(70, qa3), (19, q7A), (71, qaF), (73, qaM), (77, q8P)]
theorem qcQ : TabOk X (qcP) := ⟨qa4, q7B, qaG, qaN, q8Q, trivial⟩
abbrev qcR {R : Type} : Loops S R := noLoops
theorem qcS {R : Type} : LoopsOk X (qcR (R := R)) := noLoops_ok X
def qcT : Key := ⟨[108, 2, 44, 5, 7, 108, 0, 34], 108, none, [0, 0, 1, 0, 0, 1, 0, 0, 1, 1], 2, 99⟩
def qcU : StT S := ⟨(N (N (N L vJ L) (some (.ptr 78 0)) (N L vJ L)) (some (.yld 83)) (N (N L vJ L) none L)), oO, 100⟩
def qcV : Way S := ⟨.ret, ⟨L, oK, 130⟩, [(.lst (.st 2)), .nat, (.arr (.int .u64)), (.st 6), (.lst (.st 2)), .nat, (.lst (.st 10)), .nat, .int, .bool, (.lst (.st 10)), .bool, (.lst (.arr 5 (.int .u64))), .bool, .int, (.st 9), (.st 10), .int, .int, (.st 14), (.st 10), (.st 2), (.st 2), (.st 9), .int, .bool, (.lst (.st 10)), .bool, (.lst (.arr 5 (.int .u64))), .bool, (.st 9), (.st 10), (.st 6)]⟩
def qcW : Way S := ⟨(.exit 2), ⟨v19, oO, 105⟩, [.int, .int, (.arr (.int .u64)), (.st 6), (.lst (.st 2)), .nat, (.lst (.st 10)), .nat, .int, .bool, (.lst (.st 10)), .bool, (.lst (.arr 5 (.int .u64))), .bool, .int, (.st 9), (.st 10), .int, .int, (.st 14), (.st 10), (.st 2), (.st 9), .int, .bool, (.lst (.st 10)), .bool, (.lst (.arr 5 (.int .u64))), .bool, (.st 9), (.st 10), (.st 6)]⟩
def qcX : LE S := ⟨qcT, qcU, [.int, .int, .int, (.arr (.int .u64)), (.st 6), (.lst (.st 2)), .nat, (.lst (.st 10)), .nat, .int, .bool, (.lst (.st 10)), .bool, (.lst (.arr 5 (.int .u64))), .bool, .int, (.st 9), (.st 10), .int, .int, (.st 14), (.st 10), (.st 2), (.st 9), .int, .bool, (.lst (.st 10)), .bool, (.lst (.arr 5 (.int .u64))), .bool, (.st 9), (.st 10), (.st 6)], [qcV, qcW]⟩
def qcY (x : t5) : (((List Point) × Nat × (List Point) × Point) ⊕ Int) → t0 := Sum.elim (fun y0 => (.inl (y0.1, y0.2.1, x.2.2.2.1, x.2.2.2.2.1, y0.2.2.1, x.2.2.2.2.2.2.1, x.2.2.2.2.2.2.2.1, x.2.2.2.2.2.2.2.2.1, x.2.2.2.2.2.2.2.2.2.1, x.2.2.2.2.2.2.2.2.2.2.1, x.2.2.2.2.2.2.2.2.2.2.2.1, x.2.2.2.2.2.2.2.2.2.2.2.2.1, x.2.2.2.2.2.2.2.2.2.2.2.2.2.1, x.2.2.2.2.2.2.2.2.2.2.2.2.2.2.1, x.2.2.2.2.2.2.2.2.2.2.2.2.2.2.2.1, x.2.2.2.2.2.2.2.2.2.2.2.2.2.2.2.2.1, x.2.2.2.2.2.2.2.2.2.2.2.2.2.2.2.2.2.1, x.2.2.2.2.2.2.2.2.2.2.2.2.2.2.2.2.2.2.1, x.2.2.2.2.2.2.2.2.2.2.2.2.2.2.2.2.2.2.2.1, x.2.2.2.2.2.2.2.2.2.2.2.2.2.2.2.2.2.2.2.2.1, x.2.2.2.2.2.2.2.2.2.2.2.2.2.2.2.2.2.2.2.2.2.1, y0.2.2.2, x.2.2.2.2.2.2.2.2.2.2.2.2.2.2.2.2.2.2.2.2.2.2.1, x.2.2.2.2.2.2.2.2.2.2.2.2.2.2.2.2.2.2.2.2.2.2.2.1, x.2.2.2.2.2.2.2.2.2.2.2.2.2.2.2.2.2.2.2.2.2.2.2.2.1, x.2.2.2.2.2.2.2.2.2.2.2.2.2.2.2.2.2.2.2.2.2.2.2.2.2.1, x.2.2.2.2.2.2.2.2.2.2.2.2.2.2.2.2.2.2.2.2.2.2.2.2.2.2.1, x.2.2.2.2.2.2.2.2.2.2.2.2.2.2.2.2.2.2.2.2.2.2.2.2.2.2.2.1, x.2.2.2.2.2.2.2.2.2.2.2.2.2.2.2.2.2.2.2.2.2.2.2.2.2.2.2.2.1, x.2.2.2.2.2.2.2.2.2.2.2.2.2.2.2.2.2.2.2.2.2.2.2.2.2.2.2.2.2.1, x.2.2.2.2.2.2.2.2.2.2.2.2.2.2.2.2.2.2.2.2.2.2.2.2.2.2.2.2.2.2.1, x.2.2.2.2.2.2.2.2.2.2.2.2.2.2.2.2.2.2.2.2.2.2.2.2.2.2.2.2.2.2.2.1, x.2.2.2.2.2.2.2.2.2.2.2.2.2.2.2.2.2.2.2.2.2.2.2.2.2.2.2.2.2.2.2.2))) (fun y1 => (.inr (y1, x.2.2.1, x.2.2.2.1, x.2.2.2.2.1, x.2.2.2.2.2.1, x.2.2.2.2.2.2.1, x.2.2.2.2.2.2.2.1, x.2.2.2.2.2.2.2.2.1, x.2.2.2.2.2.2.2.2.2.1, x.2.2.2.2.2.2.2.2.2.2.1, x.2.2.2.2.2.2.2.2.2.2.2.1, x.2.2.2.2.2.2.2.2.2.2.2.2.1, x.2.2.2.2.2.2.2.2.2.2.2.2.2.1, x.2.2.2.2.2.2.2.2.2.2.2.2.2.2.1, x.2.2.2.2.2.2.2.2.2.2.2.2.2.2.2.1, x.2.2.2.2.2.2.2.2.2.2.2.2.2.2.2.2.1, x.2.2.2.2.2.2.2.2.2.2.2.2.2.2.2.2.2.1, x.2.2.2.2.2.2.2.2.2.2.2.2.2.2.2.2.2.2.1, x.2.2.2.2.2.2.2.2.2.2.2.2.2.2.2.2.2.2.2.1, x.2.2.2.2.2.2.2.2.2.2.2.2.2.2.2.2.2.2.2.2.1, x.2.2.2.2.2.2.2.2.2.2.2.2.2.2.2.2.2.2.2.2.2.1, x.2.2.2.2.2.2.2.2.2.2.2.2.2.2.2.2.2.2.2.2.2.2.1, x.2.2.2.2.2.2.2.2.2.2.2.2.2.2.2.2.2.2.2.2.2.2.2.1, x.2.2.2.2.2.2.2.2.2.2.2.2.2.2.2.2.2.2.2.2.2.2.2.2.1, x.2.2.2.2.2.2.2.2.2.2.2.2.2.2.2.2.2.2.2.2.2.2.2.2.2.1, x.2.2.2.2.2.2.2.2.2.2.2.2.2.2.2.2.2.2.2.2.2.2.2.2.2.2.1, x.2.2.2.2.2.2.2.2.2.2.2.2.2.2.2.2.2.2.2.2.2.2.2.2.2.2.2.1, x.2.2.2.2.2.2.2.2.2.2.2.2.2.2.2.2.2.2.2.2.2.2.2.2.2.2.2.2.1, x.2.2.2.2.2.2.2.2.2.2.2.2.2.2.2.2.2.2.2.2.2.2.2.2.2.2.2.2.2.1, x.2.2.2.2.2.2.2.2.2.2.2.2.2.2.2.2.2.2.2.2.2.2.2.2.2.2.2.2.2.2.1, x.2.2.2.2.2.2.2.2.2.2.2.2.2.2.2.2.2.2.2.2.2.2.2.2.2.2.2.2.2.2.2.1, x.2.2.2.2.2.2.2.2.2.2.2.2.2.2.2.2.2.2.2.2.2.2.2.2.2.2.2.2.2.2.2.2)))
noncomputable def qcZ {R : Type} (x : t5) (k : t0 → Option R) : Option R := (swing_Places_L3_run x.2.2.1 x.2.2.2.1 x.2.2.2.2.1 x.2.2.2.2.2.1 x.2.2.2.2.2.2.1 x.2.2.2.2.2.2.2.1 x.2.2.2.2.2.2.2.2.1 x.2.2.2.2.2.2.2.2.2.1 x.2.2.2.2.2.2.2.2.2.2.1 x.2.2.2.2.2.2.2.2.2.2.2.1 x.2.2.2.2.2.2.2.2.2.2.2.2.1 x.2.2.2.2.2.2.2.2.2.2.2.2.2.1 x.2.2.2.2.2.2.2.2.2.2.2.2.2.2.1 x.2.2.2.2.2.2.2.2.2.2.2.2.2.2.2.1 x.2.2.2.2.2.2.2.2.2.2.2.2.2.2.2.2.1 x.2.2.2.2.2.2.2.2.2.2.2.2.2.2.2.2.2.1 x.2.2.2.2.2.2.2.2.2.2.2.2.2.2.2.2.2.2.1 x.2.2.2.2.2.2.2.2.2.2.2.2.2.2.2.2.2.2.2.1 x.2.2.2.2.2.2.2.2.2.2.2.2.2.2.2.2.2.2.2.2.1 x.2.2.2.2.2.2.2.2.2.2.2.2.2.2.2.2.2.2.2.2.2.1 x.2.2.2.2.2.2.2.2.2.2.2.2.2.2.2.2.2.2.2.2.2.2.1 x.2.2.2.2.2.2.2.2.2.2.2.2.2.2.2.2.2.2.2.2.2.2.2.1 x.2.2.2.2.2.2.2.2.2.2.2.2.2.2.2.2.2.2.2.2.2.2.2.2.1 x.2.2.2.2.2.2.2.2.2.2.2.2.2.2.2.2.2.2.2.2.2.2.2.2.2.1 x.2.2.2.2.2.2.2.2.2.2.2.2.2.2.2.2.2.2.2.2.2.2.2.2.2.2.1 x.2.2.2.2.2.2.2.2.2.2.2.2.2.2.2.2.2.2.2.2.2.2.2.2.2.2.2.1 x.2.2.2.2.2.2.2.2.2.2.2.2.2.2.2.2.2.2.2.2.2.2.2.2.2.2.2.2.1 x.2.2.2.2.2.2.2.2.2.2.2.2.2.2.2.2.2.2.2.2.2.2.2.2.2.2.2.2.2.1 x.2.2.2.2.2.2.2.2.2.2.2.2.2.2.2.2.2.2.2.2.2.2.2.2.2.2.2.2.2.2.1 x.2.2.2.2.2.2.2.2.2.2.2.2.2.2.2.2.2.2.2.2.2.2.2.2.2.2.2.2.2.2.2.1 x.2.2.2.2.2.2.2.2.2.2.2.2.2.2.2.2.2.2.2.2.2.2.2.2.2.2.2.2.2.2.2.2 (x.1, x.2.1)).bind (Sum.elim (fun y0 => k (.inl (y0.1, y0.2.1, x.2.2.2.1, x.2.2.2.2.1, y0.2.2.1, x.2.2.2.2.2.2.1, x.2.2.2.2.2.2.2.1, x.2.2.2.2.2.2.2.2.1, x.2.2.2.2.2.2.2.2.2.1, x.2.2.2.2.2.2.2.2.2.2.1, x.2.2.2.2.2.2.2.2.2.2.2.1, x.2.2.2.2.2.2.2.2.2.2.2.2.1, x.2.2.2.2.2.2.2.2.2.2.2.2.2.1, x.2.2.2.2.2.2.2.2.2.2.2.2.2.2.1, x.2.2.2.2.2.2.2.2.2.2.2.2.2.2.2.1, x.2.2.2.2.2.2.2.2.2.2.2.2.2.2.2.2.1, x.2.2.2.2.2.2.2.2.2.2.2.2.2.2.2.2.2.1, x.2.2.2.2.2.2.2.2.2.2.2.2.2.2.2.2.2.2.1, x.2.2.2.2.2.2.2.2.2.2.2.2.2.2.2.2.2.2.2.1, x.2.2.2.2.2.2.2.2.2.2.2.2.2.2.2.2.2.2.2.2.1, x.2.2.2.2.2.2.2.2.2.2.2.2.2.2.2.2.2.2.2.2.2.1, y0.2.2.2, x.2.2.2.2.2.2.2.2.2.2.2.2.2.2.2.2.2.2.2.2.2.2.1, x.2.2.2.2.2.2.2.2.2.2.2.2.2.2.2.2.2.2.2.2.2.2.2.1, x.2.2.2.2.2.2.2.2.2.2.2.2.2.2.2.2.2.2.2.2.2.2.2.2.1, x.2.2.2.2.2.2.2.2.2.2.2.2.2.2.2.2.2.2.2.2.2.2.2.2.2.1, x.2.2.2.2.2.2.2.2.2.2.2.2.2.2.2.2.2.2.2.2.2.2.2.2.2.2.1, x.2.2.2.2.2.2.2.2.2.2.2.2.2.2.2.2.2.2.2.2.2.2.2.2.2.2.2.1, x.2.2.2.2.2.2.2.2.2.2.2.2.2.2.2.2.2.2.2.2.2.2.2.2.2.2.2.2.1, x.2.2.2.2.2.2.2.2.2.2.2.2.2.2.2.2.2.2.2.2.2.2.2.2.2.2.2.2.2.1, x.2.2.2.2.2.2.2.2.2.2.2.2.2.2.2.2.2.2.2.2.2.2.2.2.2.2.2.2.2.2.1, x.2.2.2.2.2.2.2.2.2.2.2.2.2.2.2.2.2.2.2.2.2.2.2.2.2.2.2.2.2.2.2.1, x.2.2.2.2.2.2.2.2.2.2.2.2.2.2.2.2.2.2.2.2.2.2.2.2.2.2.2.2.2.2.2.2))) (fun y1 => k (.inr (y1, x.2.2.1, x.2.2.2.1, x.2.2.2.2.1, x.2.2.2.2.2.1, x.2.2.2.2.2.2.1, x.2.2.2.2.2.2.2.1, x.2.2.2.2.2.2.2.2.1, x.2.2.2.2.2.2.2.2.2.1, x.2.2.2.2.2.2.2.2.2.2.1, x.2.2.2.2.2.2.2.2.2.2.2.1, x.2.2.2.2.2.2.2.2.2.2.2.2.1, x.2.2.2.2.2.2.2.2.2.2.2.2.2.1, x.2.2.2.2.2.2.2.2.2.2.2.2.2.2.1, x.2.2.2.2.2.2.2.2.2.2.2.2.2.2.2.1, x.2.2.2.2.2.2.2.2.2.2.2.2.2.2.2.2.1, x.2.2.2.2.2.2.2.2.2.2.2.2.2.2.2.2.2.1, x.2.2.2.2.2.2.2.2.2.2.2.2.2.2.2.2.2.2.1, x.2.2.2.2.2.2.2.2.2.2.2.2.2.2.2.2.2.2.2.1, x.2.2.2.2.2.2.2.2.2.2.2.2.2.2.2.2.2.2.2.2.1, x.2.2.2.2.2.2.2.2.2.2.2.2.2.2.2.2.2.2.2.2.2.1, x.2.2.2.2.2.2.2.2.2.2.2.2.2.2.2.2.2.2.2.2.2.2.1, x.2.2.2.2.2.2.2.2.2.2.2.2.2.2.2.2.2.2.2.2.2.2.2.1, x.2.2.2.2.2.2.2.2.2.2.2.2.2.2.2.2.2.2.2.2.2.2.2.2.1, x.2.2.2.2.2.2.2.2.2.2.2.2.2.2.2.2.2.2.2.2.2.2.2.2.2.1, x.2.2.2.2.2.2.2.2.2.2.2.2.2.2.2.2.2.2.2.2.2.2.2.2.2.2.1, x.2.2.2.2.2.2.2.2.2.2.2.2.2.2.2.2.2.2.2.2.2.2.2.2.2.2.2.1, x.2.2.2.2.2.2.2.2.2.2.2.2.2.2.2.2.2.2.2.2.2.2.2.2.2.2.2.2.1, x.2.2.2.2.2.2.2.2.2.2.2.2.2.2.2.2.2.2.2.2.2.2.2.2.2.2.2.2.2.1, x.2.2.2.2.2.2.2.2.2.2.2.2.2.2.2.2.2.2.2.2.2.2.2.2.2.2.2.2.2.2.1, x.2.2.2.2.2.2.2.2.2.2.2.2.2.2.2.2.2.2.2.2.2.2.2.2.2.2.2.2.2.2.2.1, x.2.2.2.2.2.2.2.2.2.2.2.2.2.2.2.2.2.2.2.2.2.2.2.2.2.2.2.2.2.2.2.2))))
def qd0 (x : t5) (v : (Int × Int)) : t5 := (v.1, v.2, x.2.2.1, x.2.2.2.1, x.2.2.2.2.1, x.2.2.2.2.2.1, x.2.2.2.2.2.2.1, x.2.2.2.2.2.2.2.1, x.2.2.2.2.2.2.2.2.1, x.2.2.2.2.2.2.2.2.2.1, x.2.2.2.2.2.2.2.2.2.2.1, x.2.2.2.2.2.2.2.2.2.2.2.1, x.2.2.2.2.2.2.2.2.2.2.2.2.1, x.2.2.2.2.2.2.2.2.2.2.2.2.2.1, x.2.2.2.2.2.2.2.2.2.2.2.2.2.2.1, x.2.2.2.2.2.2.2.2.2.2.2.2.2.2.2.1, x.2.2.2.2.2.2.2.2.2.2.2.2.2.2.2.2.1, x.2.2.2.2.2.2.2.2.2.2.2.2.2.2.2.2.2.1, x.2.2.2.2.2.2.2.2.2.2.2.2.2.2.2.2.2.2.1, x.2.2.2.2.2.2.2.2.2.2.2.2.2.2.2.2.2.2.2.1, x.2.2.2.2.2.2.2.2.2.2.2.2.2.2.2.2.2.2.2.2.1, x.2.2.2.2.2.2.2.2.2.2.2.2.2.2.2.2.2.2.2.2.2.1, x.2.2.2.2.2.2.2.2.2.2.2.2.2.2.2.2.2.2.2.2.2.2.1, x.2.2.2.2.2.2.2.2.2.2.2.2.2.2.2.2.2.2.2.2.2.2.2.1, x.2.2.2.2.2.2.2.2.2.2.2.2.2.2.2.2.2.2.2.2.2.2.2.2.1, x.2.2.2.2.2.2.2.2.2.2.2.2.2.2.2.2.2.2.2.2.2.2.2.2.2.1, x.2.2.2.2.2.2.2.2.2.2.2.2.2.2.2.2.2.2.2.2.2.2.2.2.2.2.1, x.2.2.2.2.2.2.2.2.2.2.2.2.2.2.2.2.2.2.2.2.2.2.2.2.2.2.2.1, x.2.2.2.2.2.2.2.2.2.2.2.2.2.2.2.2.2.2.2.2.2.2.2.2.2.2.2.2.1, x.2.2.2.2.2.2.2.2.2.2.2.2.2.2.2.2.2.2.2.2.2.2.2.2.2.2.2.2.2.1, x.2.2.2.2.2.2.2.2.2.2.2.2.2.2.2.2.2.2.2.2.2.2.2.2.2.2.2.2.2.2.1, x.2.2.2.2.2.2.2.2.2.2.2.2.2.2.2.2.2.2.2.2.2.2.2.2.2.2.2.2.2.2.2.1, x.2.2.2.2.2.2.2.2.2.2.2.2.2.2.2.2.2.2.2.2.2.2.2.2.2.2.2.2.2.2.2.2)
theorem qd1 (x : t5) : LE.step X qcX qcP qcR 12 x = swing_Places_L3_step x.2.2.1 x.2.2.2.1 x.2.2.2.2.1 x.2.2.2.2.2.1 x.2.2.2.2.2.2.1 x.2.2.2.2.2.2.2.1 x.2.2.2.2.2.2.2.2.1 x.2.2.2.2.2.2.2.2.2.1 x.2.2.2.2.2.2.2.2.2.2.1 x.2.2.2.2.2.2.2.2.2.2.2.1 x.2.2.2.2.2.2.2.2.2.2.2.2.1 x.2.2.2.2.2.2.2.2.2.2.2.2.2.1 x.2.2.2.2.2.2.2.2.2.2.2.2.2.2.1 x.2.2.2.2.2.2.2.2.2.2.2.2.2.2.2.1 x.2.2.2.2.2.2.2.2.2.2.2.2.2.2.2.2.1 x.2.2.2.2.2.2.2.2.2.2.2.2.2.2.2.2.2.1 x.2.2.2.2.2.2.2.2.2.2.2.2.2.2.2.2.2.2.1 x.2.2.2.2.2.2.2.2.2.2.2.2.2.2.2.2.2.2.2.1 x.2.2.2.2.2.2.2.2.2.2.2.2.2.2.2.2.2.2.2.2.1 x.2.2.2.2.2.2.2.2.2.2.2.2.2.2.2.2.2.2.2.2.2.1 x.2.2.2.2.2.2.2.2.2.2.2.2.2.2.2.2.2.2.2.2.2.2.1 x.2.2.2.2.2.2.2.2.2.2.2.2.2.2.2.2.2.2.2.2.2.2.2.1 x.2.2.2.2.2.2.2.2.2.2.2.2.2.2.2.2.2.2.2.2.2.2.2.2.1 x.2.2.2.2.2.2.2.2.2.2.2.2.2.2.2.2.2.2.2.2.2.2.2.2.2.1 x.2.2.2.2.2.2.2.2.2.2.2.2.2.2.2.2.2.2.2.2.2.2.2.2.2.2.1 x.2.2.2.2.2.2.2.2.2.2.2.2.2.2.2.2.2.2.2.2.2.2.2.2.2.2.2.1 x.2.2.2.2.2.2.2.2.2.2.2.2.2.2.2.2.2.2.2.2.2.2.2.2.2.2.2.2.1 x.2.2.2.2.2.2.2.2.2.2.2.2.2.2.2.2.2.2.2.2.2.2.2.2.2.2.2.2.2.1 x.2.2.2.2.2.2.2.2.2.2.2.2.2.2.2.2.2.2.2.2.2.2.2.2.2.2.2.2.2.2.1 x.2.2.2.2.2.2.2.2.2.2.2.2.2.2.2.2.2.2.2.2.2.2.2.2.2.2.2.2.2.2.2.1 x.2.2.2.2.2.2.2.2.2.2.2.2.2.2.2.2.2.2.2.2.2.2.2.2.2.2.2.2.2.2.2.2 x.1 x.2.1 (fun w0 w1 => (Sum.inl (w0, w1, x.2.2.1, x.2.2.2.1, x.2.2.2.2.1, x.2.2.2.2.2.1, x.2.2.2.2.2.2.1, x.2.2.2.2.2.2.2.1, x.2.2.2.2.2.2.2.2.1, x.2.2.2.2.2.2.2.2.2.1, x.2.2.2.2.2.2.2.2.2.2.1, x.2.2.2.2.2.2.2.2.2.2.2.1, x.2.2.2.2.2.2.2.2.2.2.2.2.1, x.2.2.2.2.2.2.2.2.2.2.2.2.2.1, x.2.2.2.2.2.2.2.2.2.2.2.2.2.2.1, x.2.2.2.2.2.2.2.2.2.2.2.2.2.2.2.1, x.2.2.2.2.2.2.2.2.2.2.2.2.2.2.2.2.1, x.2.2.2.2.2.2.2.2.2.2.2.2.2.2.2.2.2.1, x.2.2.2.2.2.2.2.2.2.2.2.2.2.2.2.2.2.2.1, x.2.2.2.2.2.2.2.2.2.2.2.2.2.2.2.2.2.2.2.1, x.2.2.2.2.2.2.2.2.2.2.2.2.2.2.2.2.2.2.2.2.1, x.2.2.2.2.2.2.2.2.2.2.2.2.2.2.2.2.2.2.2.2.2.1, x.2.2.2.2.2.2.2.2.2.2.2.2.2.2.2.2.2.2.2.2.2.2.1, x.2.2.2.2.2.2.2.2.2.2.2.2.2.2.2.2.2.2.2.2.2.2.2.1, x.2.2.2.2.2.2.2.2.2.2.2.2.2.2.2.2.2.2.2.2.2.2.2.2.1, x.2.2.2.2.2.2.2.2.2.2.2.2.2.2.2.2.2.2.2.2.2.2.2.2.2.1, x.2.2.2.2.2.2.2.2.2.2.2.2.2.2.2.2.2.2.2.2.2.2.2.2.2.2.1, x.2.2.2.2.2.2.2.2.2.2.2.2.2.2.2.2.2.2.2.2.2.2.2.2.2.2.2.1, x.2.2.2.2.2.2.2.2.2.2.2.2.2.2.2.2.2.2.2.2.2.2.2.2.2.2.2.2.1, x.2.2.2.2.2.2.2.2.2.2.2.2.2.2.2.2.2.2.2.2.2.2.2.2.2.2.2.2.2.1, x.2.2.2.2.2.2.2.2.2.2.2.2.2.2.2.2.2.2.2.2.2.2.2.2.2.2.2.2.2.2.1, x.2.2.2.2.2.2.2.2.2.2.2.2.2.2.2.2.2.2.2.2.2.2.2.2.2.2.2.2.2.2.2.1, x.2.2.2.2.2.2.2.2.2.2.2.2.2.2.2.2.2.2.2.2.2.2.2.2.2.2.2.2.2.2.2.2))) (fun p0 p1 p2 p3 => (Sum.inr (.inl (p0, p1, x.2.2.2.1, x.2.2.2.2.1, p2, x.2.2.2.2.2.2.1, x.2.2.2.2.2.2.2.1, x.2.2.2.2.2.2.2.2.1, x.2.2.2.2.2.2.2.2.2.1, x.2.2.2.2.2.2.2.2.2.2.1, x.2.2.2.2.2.2.2.2.2.2.2.1, x.2.2.2.2.2.2.2.2.2.2.2.2.1, x.2.2.2.2.2.2.2.2.2.2.2.2.2.1, x.2.2.2.2.2.2.2.2.2.2.2.2.2.2.1, x.2.2.2.2.2.2.2.2.2.2.2.2.2.2.2.1, x.2.2.2.2.2.2.2.2.2.2.2.2.2.2.2.2.1, x.2.2.2.2.2.2.2.2.2.2.2.2.2.2.2.2.2.1, x.2.2.2.2.2.2.2.2.2.2.2.2.2.2.2.2.2.2.1, x.2.2.2.2.2.2.2.2.2.2.2.2.2.2.2.2.2.2.2.1, x.2.2.2.2.2.2.2.2.2.2.2.2.2.2.2.2.2.2.2.2.1, x.2.2.2.2.2.2.2.2.2.2.2.2.2.2.2.2.2.2.2.2.2.1, p3, x.2.2.2.2.2.2.2.2.2.2.2.2.2.2.2.2.2.2.2.2.2.2.1, x.2.2.2.2.2.2.2.2.2.2.2.2.2.2.2.2.2.2.2.2.2.2.2.1, x.2.2.2.2.2.2.2.2.2.2.2.2.2.2.2.2.2.2.2.2.2.2.2.2.1, x.2.2.2.2.2.2.2.2.2.2.2.2.2.2.2.2.2.2.2.2.2.2.2.2.2.1, x.2.2.2.2.2.2.2.2.2.2.2.2.2.2.2.2.2.2.2.2.2.2.2.2.2.2.1, x.2.2.2.2.2.2.2.2.2.2.2.2.2.2.2.2.2.2.2.2.2.2.2.2.2.2.2.1, x.2.2.2.2.2.2.2.2.2.2.2.2.2.2.2.2.2.2.2.2.2.2.2.2.2.2.2.2.1, x.2.2.2.2.2.2.2.2.2.2.2.2.2.2.2.2.2.2.2.2.2.2.2.2.2.2.2.2.2.1, x.2.2.2.2.2.2.2.2.2.2.2.2.2.2.2.2.2.2.2.2.2.2.2.2.2.2.2.2.2.2.1, x.2.2.2.2.2.2.2.2.2.2.2.2.2.2.2.2.2.2.2.2.2.2.2.2.2.2.2.2.2.2.2.1, x.2.2.2.2.2.2.2.2.2.2.2.2.2.2.2.2.2.2.2.2.2.2.2.2.2.2.2.2.2.2.2.2)))) (fun p0 => (Sum.inr (.inr (p0, x.2.2.1, x.2.2.2.1, x.2.2.2.2.1, x.2.2.2.2.2.1, x.2.2.2.2.2.2.1, x.2.2.2.2.2.2.2.1, x.2.2.2.2.2.2.2.2.1, x.2.2.2.2.2.2.2.2.2.1, x.2.2.2.2.2.2.2.2.2.2.1, x.2.2.2.2.2.2.2.2.2.2.2.1, x.2.2.2.2.2.2.2.2.2.2.2.2.1, x.2.2.2.2.2.2.2.2.2.2.2.2.2.1, x.2.2.2.2.2.2.2.2.2.2.2.2.2.2.1, x.2.2.2.2.2.2.2.2.2.2.2.2.2.2.2.1, x.2.2.2.2.2.2.2.2.2.2.2.2.2.2.2.2.1, x.2.2.2.2.2.2.2.2.2.2.2.2.2.2.2.2.2.1, x.2.2.2.2.2.2.2.2.2.2.2.2.2.2.2.2.2.2.1, x.2.2.2.2.2.2.2.2.2.2.2.2.2.2.2.2.2.2.2.1, x.2.2.2.2.2.2.2.2.2.2.2.2.2.2.2.2.2.2.2.2.1, x.2.2.2.2.2.2.2.2.2.2.2.2.2.2.2.2.2.2.2.2.2.1, x.2.2.2.2.2.2.2.2.2.2.2.2.2.2.2.2.2.2.2.2.2.2.1, x.2.2.2.2.2.2.2.2.2.2.2.2.2.2.2.2.2.2.2.2.2.2.2.1, x.2.2.2.2.2.2.2.2.2.2.2.2.2.2.2.2.2.2.2.2.2.2.2.2.1, x.2.2.2.2.2.2.2.2.2.2.2.2.2.2.2.2.2.2.2.2.2.2.2.2.2.1, x.2.2.2.2.2.2.2.2.2.2.2.2.2.2.2.2.2.2.2.2.2.2.2.2.2.2.1, x.2.2.2.2.2.2.2.2.2.2.2.2.2.2.2.2.2.2.2.2.2.2.2.2.2.2.2.1, x.2.2.2.2.2.2.2.2.2.2.2.2.2.2.2.2.2.2.2.2.2.2.2.2.2.2.2.2.1, x.2.2.2.2.2.2.2.2.2.2.2.2.2.2.2.2.2.2.2.2.2.2.2.2.2.2.2.2.2.1, x.2.2.2.2.2.2.2.2.2.2.2.2.2.2.2.2.2.2.2.2.2.2.2.2.2.2.2.2.2.2.1, x.2.2.2.2.2.2.2.2.2.2.2.2.2.2.2.2.2.2.2.2.2.2.2.2.2.2.2.2.2.2.2.1, x.2.2.2.2.2.2.2.2.2.2.2.2.2.2.2.2.2.2.2.2.2.2.2.2.2.2.2.2.2.2.2.2)))):=by kernel_rfl
theorem qd3 {R : Type} (x : t5) (k : t0 → Option R) (r : R) (h : qcZ x k = some r) : ∃ o, Runs (LE.step X qcX qcP qcR 12) x o ∧ k o = some r := by
  obtain ⟨o, h1, h2⟩ := some_bind h
  exact ⟨qcY x o, small_ok (st := fun (x : t5) => swing_Places_L3_st x.2.2.1 x.2.2.2.1 x.2.2.2.2.1 x.2.2.2.2.2.1 x.2.2.2.2.2.2.1 x.2.2.2.2.2.2.2.1 x.2.2.2.2.2.2.2.2.1 x.2.2.2.2.2.2.2.2.2.1 x.2.2.2.2.2.2.2.2.2.2.1 x.2.2.2.2.2.2.2.2.2.2.2.1 x.2.2.2.2.2.2.2.2.2.2.2.2.1 x.2.2.2.2.2.2.2.2.2.2.2.2.2.1 x.2.2.2.2.2.2.2.2.2.2.2.2.2.2.1 x.2.2.2.2.2.2.2.2.2.2.2.2.2.2.2.1 x.2.2.2.2.2.2.2.2.2.2.2.2.2.2.2.2.1 x.2.2.2.2.2.2.2.2.2.2.2.2.2.2.2.2.2.1 x.2.2.2.2.2.2.2.2.2.2.2.2.2.2.2.2.2.2.1 x.2.2.2.2.2.2.2.2.2.2.2.2.2.2.2.2.2.2.2.1 x.2.2.2.2.2.2.2.2.2.2.2.2.2.2.2.2.2.2.2.2.1 x.2.2.2.2.2.2.2.2.2.2.2.2.2.2.2.2.2.2.2.2.2.1 x.2.2.2.2.2.2.2.2.2.2.2.2.2.2.2.2.2.2.2.2.2.2.1 x.2.2.2.2.2.2.2.2.2.2.2.2.2.2.2.2.2.2.2.2.2.2.2.1 x.2.2.2.2.2.2.2.2.2.2.2.2.2.2.2.2.2.2.2.2.2.2.2.2.1 x.2.2.2.2.2.2.2.2.2.2.2.2.2.2.2.2.2.2.2.2.2.2.2.2.2.1 x.2.2.2.2.2.2.2.2.2.2.2.2.2.2.2.2.2.2.2.2.2.2.2.2.2.2.1 x.2.2.2.2.2.2.2.2.2.2.2.2.2.2.2.2.2.2.2.2.2.2.2.2.2.2.2.1 x.2.2.2.2.2.2.2.2.2.2.2.2.2.2.2.2.2.2.2.2.2.2.2.2.2.2.2.2.1 x.2.2.2.2.2.2.2.2.2.2.2.2.2.2.2.2.2.2.2.2.2.2.2.2.2.2.2.2.2.1 x.2.2.2.2.2.2.2.2.2.2.2.2.2.2.2.2.2.2.2.2.2.2.2.2.2.2.2.2.2.2.1 x.2.2.2.2.2.2.2.2.2.2.2.2.2.2.2.2.2.2.2.2.2.2.2.2.2.2.2.2.2.2.2.1 x.2.2.2.2.2.2.2.2.2.2.2.2.2.2.2.2.2.2.2.2.2.2.2.2.2.2.2.2.2.2.2.2) (prj := fun x => (x.1, x.2.1)) (emb := qd0) (embO := qcY) (fun x => (qd1 x).trans (by unfold swing_Places_L3_st swing_Places_L3_step; simp only [map_cond,map_bindO,map_elim,Option.map_some,Option.map_none]; rfl)) (fun _ _ => rfl) (fun _ _ => rfl) (fun _ _ _ => rfl) (fun _ _ _ => rfl) (fun _ => rfl) (runOf_some.1 h1), by
    first
    | exact h2
    | (rcases o with o | o <;> exact h2)⟩
noncomputable def qd4 {R : Type} : Loops S R := LE.ls X qcX qcZ qcR
theorem qd5 {R : Type} : LoopsOk X (qd4 (R := R)) := loop_ok xok qcQ (e := qcX) qcS qd3 qcS
def qd6 : Key := ⟨[108, 2, 44, 5, 7, 108, 0, 34], 108, none, [0, 0, 1, 1], 0, 89⟩
def qd7 : StT S := ⟨v19, oP, 90⟩
def qd8 : Way S := ⟨.ret, ⟨L, oK, 130⟩, [(.lst (.st 2)), .nat, (.arr (.int .u64)), (.st 6), (.lst (.st 2)), .nat, (.lst (.st 10)), .nat, .int, .bool, (.lst (.st 10)), .bool, (.lst (.arr 5 (.int .u64))), .bool, .int, (.st 9), (.st 10), .int, .int, (.st 14), (.st 10), (.st 2), (.st 2), (.st 9), .int, .bool, (.lst (.st 10)), .bool, (.lst (.arr 5 (.int .u64))), .bool, (.st 9), (.st 10), (.st 6)]⟩
def qd9 : Way S := ⟨(.exit 0), ⟨L, oP, 95⟩, [(.arr (.int .u64)), (.st 6), (.lst (.st 10)), .nat, .int, .bool, (.lst (.st 10)), .bool, (.lst (.arr 5 (.int .u64))), .bool, .int, (.st 9), (.st 10), .int, .int, (.st 14), (.st 10), (.st 2), (.lst (.st 2)), .nat, (.st 9), .int, .bool, (.lst (.st 10)), .bool, (.lst (.arr 5 (.int .u64))), .bool, (.st 9), (.st 10), (.st 6)]⟩
def qda : LE S := ⟨qd6, qd7, [.int, .int, (.arr (.int .u64)), (.st 6), (.lst (.st 10)), .nat, .int, .bool, (.lst (.st 10)), .bool, (.lst (.arr 5 (.int .u64))), .bool, .int, (.st 9), (.st 10), .int, .int, (.st 14), (.st 10), (.st 2), (.lst (.st 2)), .nat, (.st 9), .int, .bool, (.lst (.st 10)), .bool, (.lst (.arr 5 (.int .u64))), .bool, (.st 9), (.st 10), (.st 6)], [qd8, qd9]⟩
def qdb (x : t6) : (((List Point) × Nat × (List Point) × Point) ⊕ Unit) → t1 := Sum.elim (fun y0 => (.inl (y0.1, y0.2.1, x.2.2.1, x.2.2.2.1, y0.2.2.1, x.2.2.2.2.2.2.2.2.2.2.2.2.2.2.2.2.2.2.2.2.2.1, x.2.2.2.2.1, x.2.2.2.2.2.1, x.2.2.2.2.2.2.1, x.2.2.2.2.2.2.2.1, x.2.2.2.2.2.2.2.2.1, x.2.2.2.2.2.2.2.2.2.1, x.2.2.2.2.2.2.2.2.2.2.1, x.2.2.2.2.2.2.2.2.2.2.2.1, x.2.2.2.2.2.2.2.2.2.2.2.2.1, x.2.2.2.2.2.2.2.2.2.2.2.2.2.1, x.2.2.2.2.2.2.2.2.2.2.2.2.2.2.1, x.2.2.2.2.2.2.2.2.2.2.2.2.2.2.2.1, x.2.2.2.2.2.2.2.2.2.2.2.2.2.2.2.2.1, x.2.2.2.2.2.2.2.2.2.2.2.2.2.2.2.2.2.1, x.2.2.2.2.2.2.2.2.2.2.2.2.2.2.2.2.2.2.1, y0.2.2.2, x.2.2.2.2.2.2.2.2.2.2.2.2.2.2.2.2.2.2.2.1, x.2.2.2.2.2.2.2.2.2.2.2.2.2.2.2.2.2.2.2.2.2.2.1, x.2.2.2.2.2.2.2.2.2.2.2.2.2.2.2.2.2.2.2.2.2.2.2.1, x.2.2.2.2.2.2.2.2.2.2.2.2.2.2.2.2.2.2.2.2.2.2.2.2.1, x.2.2.2.2.2.2.2.2.2.2.2.2.2.2.2.2.2.2.2.2.2.2.2.2.2.1, x.2.2.2.2.2.2.2.2.2.2.2.2.2.2.2.2.2.2.2.2.2.2.2.2.2.2.1, x.2.2.2.2.2.2.2.2.2.2.2.2.2.2.2.2.2.2.2.2.2.2.2.2.2.2.2.1, x.2.2.2.2.2.2.2.2.2.2.2.2.2.2.2.2.2.2.2.2.2.2.2.2.2.2.2.2.1, x.2.2.2.2.2.2.2.2.2.2.2.2.2.2.2.2.2.2.2.2.2.2.2.2.2.2.2.2.2.1, x.2.2.2.2.2.2.2.2.2.2.2.2.2.2.2.2.2.2.2.2.2.2.2.2.2.2.2.2.2.2.1, x.2.2.2.2.2.2.2.2.2.2.2.2.2.2.2.2.2.2.2.2.2.2.2.2.2.2.2.2.2.2.2))) (fun y1 => (.inr (x.2.2.1, x.2.2.2.1, x.2.2.2.2.1, x.2.2.2.2.2.1, x.2.2.2.2.2.2.1, x.2.2.2.2.2.2.2.1, x.2.2.2.2.2.2.2.2.1, x.2.2.2.2.2.2.2.2.2.1, x.2.2.2.2.2.2.2.2.2.2.1, x.2.2.2.2.2.2.2.2.2.2.2.1, x.2.2.2.2.2.2.2.2.2.2.2.2.1, x.2.2.2.2.2.2.2.2.2.2.2.2.2.1, x.2.2.2.2.2.2.2.2.2.2.2.2.2.2.1, x.2.2.2.2.2.2.2.2.2.2.2.2.2.2.2.1, x.2.2.2.2.2.2.2.2.2.2.2.2.2.2.2.2.1, x.2.2.2.2.2.2.2.2.2.2.2.2.2.2.2.2.2.1, x.2.2.2.2.2.2.2.2.2.2.2.2.2.2.2.2.2.2.1, x.2.2.2.2.2.2.2.2.2.2.2.2.2.2.2.2.2.2.2.1, x.2.2.2.2.2.2.2.2.2.2.2.2.2.2.2.2.2.2.2.2.1, x.2.2.2.2.2.2.2.2.2.2.2.2.2.2.2.2.2.2.2.2.2.1, x.2.2.2.2.2.2.2.2.2.2.2.2.2.2.2.2.2.2.2.2.2.2.1, x.2.2.2.2.2.2.2.2.2.2.2.2.2.2.2.2.2.2.2.2.2.2.2.1, x.2.2.2.2.2.2.2.2.2.2.2.2.2.2.2.2.2.2.2.2.2.2.2.2.1, x.2.2.2.2.2.2.2.2.2.2.2.2.2.2.2.2.2.2.2.2.2.2.2.2.2.1, x.2.2.2.2.2.2.2.2.2.2.2.2.2.2.2.2.2.2.2.2.2.2.2.2.2.2.1, x.2.2.2.2.2.2.2.2.2.2.2.2.2.2.2.2.2.2.2.2.2.2.2.2.2.2.2.1, x.2.2.2.2.2.2.2.2.2.2.2.2.2.2.2.2.2.2.2.2.2.2.2.2.2.2.2.2.1, x.2.2.2.2.2.2.2.2.2.2.2.2.2.2.2.2.2.2.2.2.2.2.2.2.2.2.2.2.2.1, x.2.2.2.2.2.2.2.2.2.2.2.2.2.2.2.2.2.2.2.2.2.2.2.2.2.2.2.2.2.2.1, x.2.2.2.2.2.2.2.2.2.2.2.2.2.2.2.2.2.2.2.2.2.2.2.2.2.2.2.2.2.2.2)))
noncomputable def qdc {R : Type} (x : t6) (k : t1 → Option R) : Option R := (swing_Places_L2_run x.2.2.1 x.2.2.2.1 x.2.2.2.2.1 x.2.2.2.2.2.1 x.2.2.2.2.2.2.1 x.2.2.2.2.2.2.2.1 x.2.2.2.2.2.2.2.2.1 x.2.2.2.2.2.2.2.2.2.1 x.2.2.2.2.2.2.2.2.2.2.1 x.2.2.2.2.2.2.2.2.2.2.2.1 x.2.2.2.2.2.2.2.2.2.2.2.2.1 x.2.2.2.2.2.2.2.2.2.2.2.2.2.1 x.2.2.2.2.2.2.2.2.2.2.2.2.2.2.1 x.2.2.2.2.2.2.2.2.2.2.2.2.2.2.2.1 x.2.2.2.2.2.2.2.2.2.2.2.2.2.2.2.2.1 x.2.2.2.2.2.2.2.2.2.2.2.2.2.2.2.2.2.1 x.2.2.2.2.2.2.2.2.2.2.2.2.2.2.2.2.2.2.1 x.2.2.2.2.2.2.2.2.2.2.2.2.2.2.2.2.2.2.2.1 x.2.2.2.2.2.2.2.2.2.2.2.2.2.2.2.2.2.2.2.2.1 x.2.2.2.2.2.2.2.2.2.2.2.2.2.2.2.2.2.2.2.2.2.1 x.2.2.2.2.2.2.2.2.2.2.2.2.2.2.2.2.2.2.2.2.2.2.1 x.2.2.2.2.2.2.2.2.2.2.2.2.2.2.2.2.2.2.2.2.2.2.2.1 x.2.2.2.2.2.2.2.2.2.2.2.2.2.2.2.2.2.2.2.2.2.2.2.2.1 x.2.2.2.2.2.2.2.2.2.2.2.2.2.2.2.2.2.2.2.2.2.2.2.2.2.1 x.2.2.2.2.2.2.2.2.2.2.2.2.2.2.2.2.2.2.2.2.2.2.2.2.2.2.1 x.2.2.2.2.2.2.2.2.2.2.2.2.2.2.2.2.2.2.2.2.2.2.2.2.2.2.2.1 x.2.2.2.2.2.2.2.2.2.2.2.2.2.2.2.2.2.2.2.2.2.2.2.2.2.2.2.2.1 x.2.2.2.2.2.2.2.2.2.2.2.2.2.2.2.2.2.2.2.2.2.2.2.2.2.2.2.2.2.1 x.2.2.2.2.2.2.2.2.2.2.2.2.2.2.2.2.2.2.2.2.2.2.2.2.2.2.2.2.2.2.1 x.2.2.2.2.2.2.2.2.2.2.2.2.2.2.2.2.2.2.2.2.2.2.2.2.2.2.2.2.2.2.2 (x.1, x.2.1)).bind (Sum.elim (fun y0 => k (.inl (y0.1, y0.2.1, x.2.2.1, x.2.2.2.1, y0.2.2.1, x.2.2.2.2.2.2.2.2.2.2.2.2.2.2.2.2.2.2.2.2.2.1, x.2.2.2.2.1, x.2.2.2.2.2.1, x.2.2.2.2.2.2.1, x.2.2.2.2.2.2.2.1, x.2.2.2.2.2.2.2.2.1, x.2.2.2.2.2.2.2.2.2.1, x.2.2.2.2.2.2.2.2.2.2.1, x.2.2.2.2.2.2.2.2.2.2.2.1, x.2.2.2.2.2.2.2.2.2.2.2.2.1, x.2.2.2.2.2.2.2.2.2.2.2.2.2.1, x.2.2.2.2.2.2.2.2.2.2.2.2.2.2.1, x.2.2.2.2.2.2.2.2.2.2.2.2.2.2.2.1, x.2.2.2.2.2.2.2.2.2.2.2.2.2.2.2.2.1, x.2.2.2.2.2.2.2.2.2.2.2.2.2.2.2.2.2.1, x.2.2.2.2.2.2.2.2.2.2.2.2.2.2.2.2.2.2.1, y0.2.2.2, x.2.2.2.2.2.2.2.2.2.2.2.2.2.2.2.2.2.2.2.1, x.2.2.2.2.2.2.2.2.2.2.2.2.2.2.2.2.2.2.2.2.2.2.1, x.2.2.2.2.2.2.2.2.2.2.2.2.2.2.2.2.2.2.2.2.2.2.2.1, x.2.2.2.2.2.2.2.2.2.2.2.2.2.2.2.2.2.2.2.2.2.2.2.2.1, x.2.2.2.2.2.2.2.2.2.2.2.2.2.2.2.2.2.2.2.2.2.2.2.2.2.1, x.2.2.2.2.2.2.2.2.2.2.2.2.2.2.2.2.2.2.2.2.2.2.2.2.2.2.1, x.2.2.2.2.2.2.2.2.2.2.2.2.2.2.2.2.2.2.2.2.2.2.2.2.2.2.2.1, x.2.2.2.2.2.2.2.2.2.2.2.2.2.2.2.2.2.2.2.2.2.2.2.2.2.2.2.2.1, x.2.2.2.2.2.2.2.2.2.2.2.2.2.2.2.2.2.2.2.2.2.2.2.2.2.2.2.2.2.1, x.2.2.2.2.2.2.2.2.2.2.2.2.2.2.2.2.2.2.2.2.2.2.2.2.2.2.2.2.2.2.1, x.2.2.2.2.2.2.2.2.2.2.2.2.2.2.2.2.2.2.2.2.2.2.2.2.2.2.2.2.2.2.2))) (fun y1 => k (.inr (x.2.2.1, x.2.2.2.1, x.2.2.2.2.1, x.2.2.2.2.2.1, x.2.2.2.2.2.2.1, x.2.2.2.2.2.2.2.1, x.2.2.2.2.2.2.2.2.1, x.2.2.2.2.2.2.2.2.2.1, x.2.2.2.2.2.2.2.2.2.2.1, x.2.2.2.2.2.2.2.2.2.2.2.1, x.2.2.2.2.2.2.2.2.2.2.2.2.1, x.2.2.2.2.2.2.2.2.2.2.2.2.2.1, x.2.2.2.2.2.2.2.2.2.2.2.2.2.2.1, x.2.2.2.2.2.2.2.2.2.2.2.2.2.2.2.1, x.2.2.2.2.2.2.2.2.2.2.2.2.2.2.2.2.1, x.2.2.2.2.2.2.2.2.2.2.2.2.2.2.2.2.2.1, x.2.2.2.2.2.2.2.2.2.2.2.2.2.2.2.2.2.2.1, x.2.2.2.2.2.2.2.2.2.2.2.2.2.2.2.2.2.2.2.1, x.2.2.2.2.2.2.2.2.2.2.2.2.2.2.2.2.2.2.2.2.1, x.2.2.2.2.2.2.2.2.2.2.2.2.2.2.2.2.2.2.2.2.2.1, x.2.2.2.2.2.2.2.2.2.2.2.2.2.2.2.2.2.2.2.2.2.2.1, x.2.2.2.2.2.2.2.2.2.2.2.2.2.2.2.2.2.2.2.2.2.2.2.1, x.2.2.2.2.2.2.2.2.2.2.2.2.2.2.2.2.2.2.2.2.2.2.2.2.1, x.2.2.2.2.2.2.2.2.2.2.2.2.2.2.2.2.2.2.2.2.2.2.2.2.2.1, x.2.2.2.2.2.2.2.2.2.2.2.2.2.2.2.2.2.2.2.2.2.2.2.2.2.2.1, x.2.2.2.2.2.2.2.2.2.2.2.2.2.2.2.2.2.2.2.2.2.2.2.2.2.2.2.1, x.2.2.2.2.2.2.2.2.2.2.2.2.2.2.2.2.2.2.2.2.2.2.2.2.2.2.2.2.1, x.2.2.2.2.2.2.2.2.2.2.2.2.2.2.2.2.2.2.2.2.2.2.2.2.2.2.2.2.2.1, x.2.2.2.2.2.2.2.2.2.2.2.2.2.2.2.2.2.2.2.2.2.2.2.2.2.2.2.2.2.2.1, x.2.2.2.2.2.2.2.2.2.2.2.2.2.2.2.2.2.2.2.2.2.2.2.2.2.2.2.2.2.2.2))))
def qdd (x : t6) (v : (Int × Int)) : t6 := (v.1, v.2, x.2.2.1, x.2.2.2.1, x.2.2.2.2.1, x.2.2.2.2.2.1, x.2.2.2.2.2.2.1, x.2.2.2.2.2.2.2.1, x.2.2.2.2.2.2.2.2.1, x.2.2.2.2.2.2.2.2.2.1, x.2.2.2.2.2.2.2.2.2.2.1, x.2.2.2.2.2.2.2.2.2.2.2.1, x.2.2.2.2.2.2.2.2.2.2.2.2.1, x.2.2.2.2.2.2.2.2.2.2.2.2.2.1, x.2.2.2.2.2.2.2.2.2.2.2.2.2.2.1, x.2.2.2.2.2.2.2.2.2.2.2.2.2.2.2.1, x.2.2.2.2.2.2.2.2.2.2.2.2.2.2.2.2.1, x.2.2.2.2.2.2.2.2.2.2.2.2.2.2.2.2.2.1, x.2.2.2.2.2.2.2.2.2.2.2.2.2.2.2.2.2.2.1, x.2.2.2.2.2.2.2.2.2.2.2.2.2.2.2.2.2.2.2.1, x.2.2.2.2.2.2.2.2.2.2.2.2.2.2.2.2.2.2.2.2.1, x.2.2.2.2.2.2.2.2.2.2.2.2.2.2.2.2.2.2.2.2.2.1, x.2.2.2.2.2.2.2.2.2.2.2.2.2.2.2.2.2.2.2.2.2.2.1, x.2.2.2.2.2.2.2.2.2.2.2.2.2.2.2.2.2.2.2.2.2.2.2.1, x.2.2.2.2.2.2.2.2.2.2.2.2.2.2.2.2.2.2.2.2.2.2.2.2.1, x.2.2.2.2.2.2.2.2.2.2.2.2.2.2.2.2.2.2.2.2.2.2.2.2.2.1, x.2.2.2.2.2.2.2.2.2.2.2.2.2.2.2.2.2.2.2.2.2.2.2.2.2.2.1, x.2.2.2.2.2.2.2.2.2.2.2.2.2.2.2.2.2.2.2.2.2.2.2.2.2.2.2.1, x.2.2.2.2.2.2.2.2.2.2.2.2.2.2.2.2.2.2.2.2.2.2.2.2.2.2.2.2.1, x.2.2.2.2.2.2.2.2.2.2.2.2.2.2.2.2.2.2.2.2.2.2.2.2.2.2.2.2.2.1, x.2.2.2.2.2.2.2.2.2.2.2.2.2.2.2.2.2.2.2.2.2.2.2.2.2.2.2.2.2.2.1, x.2.2.2.2.2.2.2.2.2.2.2.2.2.2.2.2.2.2.2.2.2.2.2.2.2.2.2.2.2.2.2)
theorem qde (x : t6) : LE.step X qda qcP qd4 12 x = swing_Places_L2_step x.2.2.1 x.2.2.2.1 x.2.2.2.2.1 x.2.2.2.2.2.1 x.2.2.2.2.2.2.1 x.2.2.2.2.2.2.2.1 x.2.2.2.2.2.2.2.2.1 x.2.2.2.2.2.2.2.2.2.1 x.2.2.2.2.2.2.2.2.2.2.1 x.2.2.2.2.2.2.2.2.2.2.2.1 x.2.2.2.2.2.2.2.2.2.2.2.2.1 x.2.2.2.2.2.2.2.2.2.2.2.2.2.1 x.2.2.2.2.2.2.2.2.2.2.2.2.2.2.1 x.2.2.2.2.2.2.2.2.2.2.2.2.2.2.2.1 x.2.2.2.2.2.2.2.2.2.2.2.2.2.2.2.2.1 x.2.2.2.2.2.2.2.2.2.2.2.2.2.2.2.2.2.1 x.2.2.2.2.2.2.2.2.2.2.2.2.2.2.2.2.2.2.1 x.2.2.2.2.2.2.2.2.2.2.2.2.2.2.2.2.2.2.2.1 x.2.2.2.2.2.2.2.2.2.2.2.2.2.2.2.2.2.2.2.2.1 x.2.2.2.2.2.2.2.2.2.2.2.2.2.2.2.2.2.2.2.2.2.1 x.2.2.2.2.2.2.2.2.2.2.2.2.2.2.2.2.2.2.2.2.2.2.1 x.2.2.2.2.2.2.2.2.2.2.2.2.2.2.2.2.2.2.2.2.2.2.2.1 x.2.2.2.2.2.2.2.2.2.2.2.2.2.2.2.2.2.2.2.2.2.2.2.2.1 x.2.2.2.2.2.2.2.2.2.2.2.2.2.2.2.2.2.2.2.2.2.2.2.2.2.1 x.2.2.2.2.2.2.2.2.2.2.2.2.2.2.2.2.2.2.2.2.2.2.2.2.2.2.1 x.2.2.2.2.2.2.2.2.2.2.2.2.2.2.2.2.2.2.2.2.2.2.2.2.2.2.2.1 x.2.2.2.2.2.2.2.2.2.2.2.2.2.2.2.2.2.2.2.2.2.2.2.2.2.2.2.2.1 x.2.2.2.2.2.2.2.2.2.2.2.2.2.2.2.2.2.2.2.2.2.2.2.2.2.2.2.2.2.1 x.2.2.2.2.2.2.2.2.2.2.2.2.2.2.2.2.2.2.2.2.2.2.2.2.2.2.2.2.2.2.1 x.2.2.2.2.2.2.2.2.2.2.2.2.2.2.2.2.2.2.2.2.2.2.2.2.2.2.2.2.2.2.2 x.1 x.2.1 (fun w0 w1 => (Sum.inl (w0, w1, x.2.2.1, x.2.2.2.1, x.2.2.2.2.1, x.2.2.2.2.2.1, x.2.2.2.2.2.2.1, x.2.2.2.2.2.2.2.1, x.2.2.2.2.2.2.2.2.1, x.2.2.2.2.2.2.2.2.2.1, x.2.2.2.2.2.2.2.2.2.2.1, x.2.2.2.2.2.2.2.2.2.2.2.1, x.2.2.2.2.2.2.2.2.2.2.2.2.1, x.2.2.2.2.2.2.2.2.2.2.2.2.2.1, x.2.2.2.2.2.2.2.2.2.2.2.2.2.2.1, x.2.2.2.2.2.2.2.2.2.2.2.2.2.2.2.1, x.2.2.2.2.2.2.2.2.2.2.2.2.2.2.2.2.1, x.2.2.2.2.2.2.2.2.2.2.2.2.2.2.2.2.2.1, x.2.2.2.2.2.2.2.2.2.2.2.2.2.2.2.2.2.2.1, x.2.2.2.2.2.2.2.2.2.2.2.2.2.2.2.2.2.2.2.1, x.2.2.2.2.2.2.2.2.2.2.2.2.2.2.2.2.2.2.2.2.1, x.2.2.2.2.2.2.2.2.2.2.2.2.2.2.2.2.2.2.2.2.2.1, x.2.2.2.2.2.2.2.2.2.2.2.2.2.2.2.2.2.2.2.2.2.2.1, x.2.2.2.2.2.2.2.2.2.2.2.2.2.2.2.2.2.2.2.2.2.2.2.1, x.2.2.2.2.2.2.2.2.2.2.2.2.2.2.2.2.2.2.2.2.2.2.2.2.1, x.2.2.2.2.2.2.2.2.2.2.2.2.2.2.2.2.2.2.2.2.2.2.2.2.2.1, x.2.2.2.2.2.2.2.2.2.2.2.2.2.2.2.2.2.2.2.2.2.2.2.2.2.2.1, x.2.2.2.2.2.2.2.2.2.2.2.2.2.2.2.2.2.2.2.2.2.2.2.2.2.2.2.1, x.2.2.2.2.2.2.2.2.2.2.2.2.2.2.2.2.2.2.2.2.2.2.2.2.2.2.2.2.1, x.2.2.2.2.2.2.2.2.2.2.2.2.2.2.2.2.2.2.2.2.2.2.2.2.2.2.2.2.2.1, x.2.2.2.2.2.2.2.2.2.2.2.2.2.2.2.2.2.2.2.2.2.2.2.2.2.2.2.2.2.2.1, x.2.2.2.2.2.2.2.2.2.2.2.2.2.2.2.2.2.2.2.2.2.2.2.2.2.2.2.2.2.2.2))) (fun p0 p1 p2 p3 => (Sum.inr (.inl (p0, p1, x.2.2.1, x.2.2.2.1, p2, x.2.2.2.2.2.2.2.2.2.2.2.2.2.2.2.2.2.2.2.2.2.1, x.2.2.2.2.1, x.2.2.2.2.2.1, x.2.2.2.2.2.2.1, x.2.2.2.2.2.2.2.1, x.2.2.2.2.2.2.2.2.1, x.2.2.2.2.2.2.2.2.2.1, x.2.2.2.2.2.2.2.2.2.2.1, x.2.2.2.2.2.2.2.2.2.2.2.1, x.2.2.2.2.2.2.2.2.2.2.2.2.1, x.2.2.2.2.2.2.2.2.2.2.2.2.2.1, x.2.2.2.2.2.2.2.2.2.2.2.2.2.2.1, x.2.2.2.2.2.2.2.2.2.2.2.2.2.2.2.1, x.2.2.2.2.2.2.2.2.2.2.2.2.2.2.2.2.1, x.2.2.2.2.2.2.2.2.2.2.2.2.2.2.2.2.2.1, x.2.2.2.2.2.2.2.2.2.2.2.2.2.2.2.2.2.2.1, p3, x.2.2.2.2.2.2.2.2.2.2.2.2.2.2.2.2.2.2.2.1, x.2.2.2.2.2.2.2.2.2.2.2.2.2.2.2.2.2.2.2.2.2.2.1, x.2.2.2.2.2.2.2.2.2.2.2.2.2.2.2.2.2.2.2.2.2.2.2.1, x.2.2.2.2.2.2.2.2.2.2.2.2.2.2.2.2.2.2.2.2.2.2.2.2.1, x.2.2.2.2.2.2.2.2.2.2.2.2.2.2.2.2.2.2.2.2.2.2.2.2.2.1, x.2.2.2.2.2.2.2.2.2.2.2.2.2.2.2.2.2.2.2.2.2.2.2.2.2.2.1, x.2.2.2.2.2.2.2.2.2.2.2.2.2.2.2.2.2.2.2.2.2.2.2.2.2.2.2.1, x.2.2.2.2.2.2.2.2.2.2.2.2.2.2.2.2.2.2.2.2.2.2.2.2.2.2.2.2.1, x.2.2.2.2.2.2.2.2.2.2.2.2.2.2.2.2.2.2.2.2.2.2.2.2.2.2.2.2.2.1, x.2.2.2.2.2.2.2.2.2.2.2.2.2.2.2.2.2.2.2.2.2.2.2.2.2.2.2.2.2.2.1, x.2.2.2.2.2.2.2.2.2.2.2.2.2.2.2.2.2.2.2.2.2.2.2.2.2.2.2.2.2.2.2)))) (Sum.inr (.inr (x.2.2.1, x.2.2.2.1, x.2.2.2.2.1, x.2.2.2.2.2.1, x.2.2.2.2.2.2.1, x.2.2.2.2.2.2.2.1, x.2.2.2.2.2.2.2.2.1, x.2.2.2.2.2.2.2.2.2.1, x.2.2.2.2.2.2.2.2.2.2.1, x.2.2.2.2.2.2.2.2.2.2.2.1, x.2.2.2.2.2.2.2.2.2.2.2.2.1, x.2.2.2.2.2.2.2.2.2.2.2.2.2.1, x.2.2.2.2.2.2.2.2.2.2.2.2.2.2.1, x.2.2.2.2.2.2.2.2.2.2.2.2.2.2.2.1, x.2.2.2.2.2.2.2.2.2.2.2.2.2.2.2.2.1, x.2.2.2.2.2.2.2.2.2.2.2.2.2.2.2.2.2.1, x.2.2.2.2.2.2.2.2.2.2.2.2.2.2.2.2.2.2.1, x.2.2.2.2.2.2.2.2.2.2.2.2.2.2.2.2.2.2.2.1, x.2.2.2.2.2.2.2.2.2.2.2.2.2.2.2.2.2.2.2.2.1, x.2.2.2.2.2.2.2.2.2.2.2.2.2.2.2.2.2.2.2.2.2.1, x.2.2.2.2.2.2.2.2.2.2.2.2.2.2.2.2.2.2.2.2.2.2.1, x.2.2.2.2.2.2.2.2.2.2.2.2.2.2.2.2.2.2.2.2.2.2.2.1, x.2.2.2.2.2.2.2.2.2.2.2.2.2.2.2.2.2.2.2.2.2.2.2.2.1, x.2.2.2.2.2.2.2.2.2.2.2.2.2.2.2.2.2.2.2.2.2.2.2.2.2.1, x.2.2.2.2.2.2.2.2.2.2.2.2.2.2.2.2.2.2.2.2.2.2.2.2.2.2.1, x.2.2.2.2.2.2.2.2.2.2.2.2.2.2.2.2.2.2.2.2.2.2.2.2.2.2.2.1, x.2.2.2.2.2.2.2.2.2.2.2.2.2.2.2.2.2.2.2.2.2.2.2.2.2.2.2.2.1, x.2.2.2.2.2.2.2.2.2.2.2.2.2.2.2.2.2.2.2.2.2.2.2.2.2.2.2.2.2.1, x.2.2.2.2.2.2.2.2.2.2.2.2.2.2.2.2.2.2.2.2.2.2.2.2.2.2.2.2.2.2.1, x.2.2.2.2.2.2.2.2.2.2.2.2.2.2.2.2.2.2.2.2.2.2.2.2.2.2.2.2.2.2.2))):=by kernel_rfl
theorem qdg {R : Type} (x : t6) (k : t1 → Option R) (r : R) (h : qdc x k = some r) : ∃ o, Runs (LE.step X qda qcP qd4 12) x o ∧ k o = some r := by
  obtain ⟨o, h1, h2⟩ := some_bind h
  exact ⟨qdb x o, small_ok (st := fun (x : t6) => swing_Places_L2_st x.2.2.1 x.2.2.2.1 x.2.2.2.2.1 x.2.2.2.2.2.1 x.2.2.2.2.2.2.1 x.2.2.2.2.2.2.2.1 x.2.2.2.2.2.2.2.2.1 x.2.2.2.2.2.2.2.2.2.1 x.2.2.2.2.2.2.2.2.2.2.1 x.2.2.2.2.2.2.2.2.2.2.2.1 x.2.2.2.2.2.2.2.2.2.2.2.2.1 x.2.2.2.2.2.2.2.2.2.2.2.2.2.1 x.2.2.2.2.2.2.2.2.2.2.2.2.2.2.1 x.2.2.2.2.2.2.2.2.2.2.2.2.2.2.2.1 x.2.2.2.2.2.2.2.2.2.2.2.2.2.2.2.2.1 x.2.2.2.2.2.2.2.2.2.2.2.2.2.2.2.2.2.1 x.2.2.2.2.2.2.2.2.2.2.2.2.2.2.2.2.2.2.1 x.2.2.2.2.2.2.2.2.2.2.2.2.2.2.2.2.2.2.2.1 x.2.2.2.2.2.2.2.2.2.2.2.2.2.2.2.2.2.2.2.2.1 x.2.2.2.2.2.2.2.2.2.2.2.2.2.2.2.2.2.2.2.2.2.1 x.2.2.2.2.2.2.2.2.2.2.2.2.2.2.2.2.2.2.2.2.2.2.1 x.2.2.2.2.2.2.2.2.2.2.2.2.2.2.2.2.2.2.2.2.2.2.2.1 x.2.2.2.2.2.2.2.2.2.2.2.2.2.2.2.2.2.2.2.2.2.2.2.2.1 x.2.2.2.2.2.2.2.2.2.2.2.2.2.2.2.2.2.2.2.2.2.2.2.2.2.1 x.2.2.2.2.2.2.2.2.2.2.2.2.2.2.2.2.2.2.2.2.2.2.2.2.2.2.1 x.2.2.2.2.2.2.2.2.2.2.2.2.2.2.2.2.2.2.2.2.2.2.2.2.2.2.2.1 x.2.2.2.2.2.2.2.2.2.2.2.2.2.2.2.2.2.2.2.2.2.2.2.2.2.2.2.2.1 x.2.2.2.2.2.2.2.2.2.2.2.2.2.2.2.2.2.2.2.2.2.2.2.2.2.2.2.2.2.1 x.2.2.2.2.2.2.2.2.2.2.2.2.2.2.2.2.2.2.2.2.2.2.2.2.2.2.2.2.2.2.1 x.2.2.2.2.2.2.2.2.2.2.2.2.2.2.2.2.2.2.2.2.2.2.2.2.2.2.2.2.2.2.2) (prj := fun x => (x.1, x.2.1)) (emb := qdd) (embO := qdb) (fun x => (qde x).trans (by unfold swing_Places_L2_st swing_Places_L2_step; simp only [map_cond,map_bindO,map_elim,Option.map_some,Option.map_none]; rfl)) (fun _ _ => rfl) (fun _ _ => rfl) (fun _ _ _ => rfl) (fun _ _ _ => rfl) (fun _ => rfl) (runOf_some.1 h1), by
    first
    | exact h2
    | (rcases o with o | o <;> exact h2)⟩
noncomputable def qdh {R : Type} : Loops S R := LE.ls X qda qdc qd4
theorem qdi {R : Type} : LoopsOk X (qdh (R := R)) := loop_ok xok qcQ (e := qda) qd5 qdg qd5
def qdj : Key := ⟨[108, 0, 34], 108, none, [0, 0, 1, 0, 0, 1, 0, 0, 1, 1], 2, 60⟩
def qdk : StT S := ⟨(N (N (N L vJ L) (some (.ptr 39 0)) (N L vJ L)) (some (.yld 44)) (N (N L vJ L) none L)), oT, 61⟩
def qdl : Way S := ⟨(.exit 2), ⟨v1a, oT, 66⟩, [.int, .int, (.arr (.int .u64)), (.st 6), (.lst (.st 10)), .nat, (.st 14), (.st 10), (.st 9), .int, .bool, (.lst (.st 10)), .bool, (.lst (.arr 5 (.int .u64))), .bool, (.st 9), (.st 10), (.lst (.st 2)), .nat]⟩
def qdm : LE S := ⟨qdj, qdk, [.int, .int, .int, (.arr (.int .u64)), (.st 6), (.lst (.st 10)), .nat, (.st 14), (.st 10), (.st 9), .int, .bool, (.lst (.st 10)), .bool, (.lst (.arr 5 (.int .u64))), .bool, (.st 9), (.st 10), (.lst (.st 2)), .nat], [qdl]⟩
def qdn (x : te) : (Int × (List Point)) → tf := fun y0 => (y0.1, x.2.2.1, x.2.2.2.1, x.2.2.2.2.1, x.2.2.2.2.2.1, x.2.2.2.2.2.2.1, x.2.2.2.2.2.2.2.1, x.2.2.2.2.2.2.2.2.1, x.2.2.2.2.2.2.2.2.2.1, x.2.2.2.2.2.2.2.2.2.2.1, x.2.2.2.2.2.2.2.2.2.2.2.1, x.2.2.2.2.2.2.2.2.2.2.2.2.1, x.2.2.2.2.2.2.2.2.2.2.2.2.2.1, x.2.2.2.2.2.2.2.2.2.2.2.2.2.2.1, x.2.2.2.2.2.2.2.2.2.2.2.2.2.2.2.1, x.2.2.2.2.2.2.2.2.2.2.2.2.2.2.2.2.1, x.2.2.2.2.2.2.2.2.2.2.2.2.2.2.2.2.2.1, y0.2, x.2.2.2.2.2.2.2.2.2.2.2.2.2.2.2.2.2.2.2)
noncomputable def qdo {R : Type} (x : te) (k : tf → Option R) : Option R := (swing_Places_L1_run x.2.2.1 x.2.2.2.1 x.2.2.2.2.1 x.2.2.2.2.2.1 x.2.2.2.2.2.2.1 x.2.2.2.2.2.2.2.1 x.2.2.2.2.2.2.2.2.1 x.2.2.2.2.2.2.2.2.2.1 x.2.2.2.2.2.2.2.2.2.2.1 x.2.2.2.2.2.2.2.2.2.2.2.1 x.2.2.2.2.2.2.2.2.2.2.2.2.1 x.2.2.2.2.2.2.2.2.2.2.2.2.2.1 x.2.2.2.2.2.2.2.2.2.2.2.2.2.2.1 x.2.2.2.2.2.2.2.2.2.2.2.2.2.2.2.1 x.2.2.2.2.2.2.2.2.2.2.2.2.2.2.2.2.1 x.2.2.2.2.2.2.2.2.2.2.2.2.2.2.2.2.2.1 x.2.2.2.2.2.2.2.2.2.2.2.2.2.2.2.2.2.2.2 (x.1, x.2.1, x.2.2.2.2.2.2.2.2.2.2.2.2.2.2.2.2.2.2.1)).bind (fun y0 => k (y0.1, x.2.2.1, x.2.2.2.1, x.2.2.2.2.1, x.2.2.2.2.2.1, x.2.2.2.2.2.2.1, x.2.2.2.2.2.2.2.1, x.2.2.2.2.2.2.2.2.1, x.2.2.2.2.2.2.2.2.2.1, x.2.2.2.2.2.2.2.2.2.2.1, x.2.2.2.2.2.2.2.2.2.2.2.1, x.2.2.2.2.2.2.2.2.2.2.2.2.1, x.2.2.2.2.2.2.2.2.2.2.2.2.2.1, x.2.2.2.2.2.2.2.2.2.2.2.2.2.2.1, x.2.2.2.2.2.2.2.2.2.2.2.2.2.2.2.1, x.2.2.2.2.2.2.2.2.2.2.2.2.2.2.2.2.1, x.2.2.2.2.2.2.2.2.2.2.2.2.2.2.2.2.2.1, y0.2, x.2.2.2.2.2.2.2.2.2.2.2.2.2.2.2.2.2.2.2))
def qdp (x : te) (v : t16) : te := (v.1, v.2.1, x.2.2.1, x.2.2.2.1, x.2.2.2.2.1, x.2.2.2.2.2.1, x.2.2.2.2.2.2.1, x.2.2.2.2.2.2.2.1, x.2.2.2.2.2.2.2.2.1, x.2.2.2.2.2.2.2.2.2.1, x.2.2.2.2.2.2.2.2.2.2.1, x.2.2.2.2.2.2.2.2.2.2.2.1, x.2.2.2.2.2.2.2.2.2.2.2.2.1, x.2.2.2.2.2.2.2.2.2.2.2.2.2.1, x.2.2.2.2.2.2.2.2.2.2.2.2.2.2.1, x.2.2.2.2.2.2.2.2.2.2.2.2.2.2.2.1, x.2.2.2.2.2.2.2.2.2.2.2.2.2.2.2.2.1, x.2.2.2.2.2.2.2.2.2.2.2.2.2.2.2.2.2.1, v.2.2, x.2.2.2.2.2.2.2.2.2.2.2.2.2.2.2.2.2.2.2)
theorem qdq (x : te) : LE.step X qdm qcP qdh 12 x = swing_Places_L1_step x.2.2.1 x.2.2.2.1 x.2.2.2.2.1 x.2.2.2.2.2.1 x.2.2.2.2.2.2.1 x.2.2.2.2.2.2.2.1 x.2.2.2.2.2.2.2.2.1 x.2.2.2.2.2.2.2.2.2.1 x.2.2.2.2.2.2.2.2.2.2.1 x.2.2.2.2.2.2.2.2.2.2.2.1 x.2.2.2.2.2.2.2.2.2.2.2.2.1 x.2.2.2.2.2.2.2.2.2.2.2.2.2.1 x.2.2.2.2.2.2.2.2.2.2.2.2.2.2.1 x.2.2.2.2.2.2.2.2.2.2.2.2.2.2.2.1 x.2.2.2.2.2.2.2.2.2.2.2.2.2.2.2.2.1 x.2.2.2.2.2.2.2.2.2.2.2.2.2.2.2.2.2.1 x.2.2.2.2.2.2.2.2.2.2.2.2.2.2.2.2.2.2.2 x.1 x.2.1 x.2.2.2.2.2.2.2.2.2.2.2.2.2.2.2.2.2.2.1 (fun w0 w1 w2 => (Sum.inl (w0, w1, x.2.2.1, x.2.2.2.1, x.2.2.2.2.1, x.2.2.2.2.2.1, x.2.2.2.2.2.2.1, x.2.2.2.2.2.2.2.1, x.2.2.2.2.2.2.2.2.1, x.2.2.2.2.2.2.2.2.2.1, x.2.2.2.2.2.2.2.2.2.2.1, x.2.2.2.2.2.2.2.2.2.2.2.1, x.2.2.2.2.2.2.2.2.2.2.2.2.1, x.2.2.2.2.2.2.2.2.2.2.2.2.2.1, x.2.2.2.2.2.2.2.2.2.2.2.2.2.2.1, x.2.2.2.2.2.2.2.2.2.2.2.2.2.2.2.1, x.2.2.2.2.2.2.2.2.2.2.2.2.2.2.2.2.1, x.2.2.2.2.2.2.2.2.2.2.2.2.2.2.2.2.2.1, w2, x.2.2.2.2.2.2.2.2.2.2.2.2.2.2.2.2.2.2.2))) (fun p0 p1 => (Sum.inr (p0, x.2.2.1, x.2.2.2.1, x.2.2.2.2.1, x.2.2.2.2.2.1, x.2.2.2.2.2.2.1, x.2.2.2.2.2.2.2.1, x.2.2.2.2.2.2.2.2.1, x.2.2.2.2.2.2.2.2.2.1, x.2.2.2.2.2.2.2.2.2.2.1, x.2.2.2.2.2.2.2.2.2.2.2.1, x.2.2.2.2.2.2.2.2.2.2.2.2.1, x.2.2.2.2.2.2.2.2.2.2.2.2.2.1, x.2.2.2.2.2.2.2.2.2.2.2.2.2.2.1, x.2.2.2.2.2.2.2.2.2.2.2.2.2.2.2.1, x.2.2.2.2.2.2.2.2.2.2.2.2.2.2.2.2.1, x.2.2.2.2.2.2.2.2.2.2.2.2.2.2.2.2.2.1, p1, x.2.2.2.2.2.2.2.2.2.2.2.2.2.2.2.2.2.2.2))):=by kernel_rfl
theorem qds {R : Type} (x : te) (k : tf → Option R) (r : R) (h : qdo x k = some r) : ∃ o, Runs (LE.step X qdm qcP qdh 12) x o ∧ k o = some r := by
  obtain ⟨o, h1, h2⟩ := some_bind h
  exact ⟨qdn x o, small_ok (st := fun (x : te) => swing_Places_L1_st x.2.2.1 x.2.2.2.1 x.2.2.2.2.1 x.2.2.2.2.2.1 x.2.2.2.2.2.2.1 x.2.2.2.2.2.2.2.1 x.2.2.2.2.2.2.2.2.1 x.2.2.2.2.2.2.2.2.2.1 x.2.2.2.2.2.2.2.2.2.2.1 x.2.2.2.2.2.2.2.2.2.2.2.1 x.2.2.2.2.2.2.2.2.2.2.2.2.1 x.2.2.2.2.2.2.2.2.2.2.2.2.2.1 x.2.2.2.2.2.2.2.2.2.2.2.2.2.2.1 x.2.2.2.2.2.2.2.2.2.2.2.2.2.2.2.1 x.2.2.2.2.2.2.2.2.2.2.2.2.2.2.2.2.1 x.2.2.2.2.2.2.2.2.2.2.2.2.2.2.2.2.2.1 x.2.2.2.2.2.2.2.2.2.2.2.2.2.2.2.2.2.2.2) (prj := fun x => (x.1, x.2.1, x.2.2.2.2.2.2.2.2.2.2.2.2.2.2.2.2.2.2.1)) (emb := qdp) (embO := qdn) (fun x => (qdq x).trans (by unfold swing_Places_L1_st swing_Places_L1_step; simp only [map_cond,map_bindO,map_elim,Option.map_some,Option.map_none]; rfl)) (fun _ _ => rfl) (fun _ _ => rfl) (fun _ _ _ => rfl) (fun _ _ _ => rfl) (fun _ => rfl) (runOf_some.1 h1), by
    first
    | exact h2
    | (rcases o with o <;> exact h2)⟩
noncomputable def qdt {R : Type} : Loops S R := LE.ls X qdm qdo qdh
theorem qdu {R : Type} : LoopsOk X (qdt (R := R)) := loop_ok xok qcQ (e := qdm) qdi qds qdi
def qdv : Key := ⟨[108, 0, 34], 108, none, [0, 0, 1, 1], 0, 50⟩
def qdw : StT S := ⟨v1a, oQ, 51⟩
def qdx : Way S := ⟨(.exit 0), ⟨L, oQ, 56⟩, [(.arr (.int .u64)), (.st 6), (.lst (.st 10)), .nat, (.st 14), (.st 10), (.st 9), .int, .bool, (.lst (.st 10)), .bool, (.lst (.arr 5 (.int .u64))), .bool, (.st 9), (.st 10), (.lst (.st 2)), .nat]⟩
def qdy : LE S := ⟨qdv, qdw, [.int, .int, (.arr (.int .u64)), (.st 6), (.lst (.st 10)), .nat, (.st 14), (.st 10), (.st 9), .int, .bool, (.lst (.st 10)), .bool, (.lst (.arr 5 (.int .u64))), .bool, (.st 9), (.st 10), (.lst (.st 2)), .nat], [qdx]⟩
def qdz (x : tf) : (List Point) → th := fun y0 => (x.2.2.1, x.2.2.2.1, x.2.2.2.2.1, x.2.2.2.2.2.1, x.2.2.2.2.2.2.1, x.2.2.2.2.2.2.2.1, x.2.2.2.2.2.2.2.2.1, x.2.2.2.2.2.2.2.2.2.1, x.2.2.2.2.2.2.2.2.2.2.1, x.2.2.2.2.2.2.2.2.2.2.2.1, x.2.2.2.2.2.2.2.2.2.2.2.2.1, x.2.2.2.2.2.2.2.2.2.2.2.2.2.1, x.2.2.2.2.2.2.2.2.2.2.2.2.2.2.1, x.2.2.2.2.2.2.2.2.2.2.2.2.2.2.2.1, x.2.2.2.2.2.2.2.2.2.2.2.2.2.2.2.2.1, y0, x.2.2.2.2.2.2.2.2.2.2.2.2.2.2.2.2.2.2)
noncomputable def qdA {R : Type} (x : tf) (k : th → Option R) : Option R := (swing_Places_L0_run x.2.2.1 x.2.2.2.1 x.2.2.2.2.1 x.2.2.2.2.2.1 x.2.2.2.2.2.2.1 x.2.2.2.2.2.2.2.1 x.2.2.2.2.2.2.2.2.1 x.2.2.2.2.2.2.2.2.2.1 x.2.2.2.2.2.2.2.2.2.2.1 x.2.2.2.2.2.2.2.2.2.2.2.1 x.2.2.2.2.2.2.2.2.2.2.2.2.1 x.2.2.2.2.2.2.2.2.2.2.2.2.2.1 x.2.2.2.2.2.2.2.2.2.2.2.2.2.2.1 x.2.2.2.2.2.2.2.2.2.2.2.2.2.2.2.1 x.2.2.2.2.2.2.2.2.2.2.2.2.2.2.2.2.1 x.2.2.2.2.2.2.2.2.2.2.2.2.2.2.2.2.2.2 (x.1, x.2.1, x.2.2.2.2.2.2.2.2.2.2.2.2.2.2.2.2.2.1)).bind (fun y0 => k (x.2.2.1, x.2.2.2.1, x.2.2.2.2.1, x.2.2.2.2.2.1, x.2.2.2.2.2.2.1, x.2.2.2.2.2.2.2.1, x.2.2.2.2.2.2.2.2.1, x.2.2.2.2.2.2.2.2.2.1, x.2.2.2.2.2.2.2.2.2.2.1, x.2.2.2.2.2.2.2.2.2.2.2.1, x.2.2.2.2.2.2.2.2.2.2.2.2.1, x.2.2.2.2.2.2.2.2.2.2.2.2.2.1, x.2.2.2.2.2.2.2.2.2.2.2.2.2.2.1, x.2.2.2.2.2.2.2.2.2.2.2.2.2.2.2.1, x.2.2.2.2.2.2.2.2.2.2.2.2.2.2.2.2.1, y0, x.2.2.2.2.2.2.2.2.2.2.2.2.2.2.2.2.2.2))
def qdB (x : tf) (v : t16) : tf := (v.1, v.2.1, x.2.2.1, x.2.2.2.1, x.2.2.2.2.1, x.2.2.2.2.2.1, x.2.2.2.2.2.2.1, x.2.2.2.2.2.2.2.1, x.2.2.2.2.2.2.2.2.1, x.2.2.2.2.2.2.2.2.2.1, x.2.2.2.2.2.2.2.2.2.2.1, x.2.2.2.2.2.2.2.2.2.2.2.1, x.2.2.2.2.2.2.2.2.2.2.2.2.1, x.2.2.2.2.2.2.2.2.2.2.2.2.2.1, x.2.2.2.2.2.2.2.2.2.2.2.2.2.2.1, x.2.2.2.2.2.2.2.2.2.2.2.2.2.2.2.1, x.2.2.2.2.2.2.2.2.2.2.2.2.2.2.2.2.1, v.2.2, x.2.2.2.2.2.2.2.2.2.2.2.2.2.2.2.2.2.2)
theorem qdC (x : tf) : LE.step X qdy qcP qdt 12 x = swing_Places_L0_step x.2.2.1 x.2.2.2.1 x.2.2.2.2.1 x.2.2.2.2.2.1 x.2.2.2.2.2.2.1 x.2.2.2.2.2.2.2.1 x.2.2.2.2.2.2.2.2.1 x.2.2.2.2.2.2.2.2.2.1 x.2.2.2.2.2.2.2.2.2.2.1 x.2.2.2.2.2.2.2.2.2.2.2.1 x.2.2.2.2.2.2.2.2.2.2.2.2.1 x.2.2.2.2.2.2.2.2.2.2.2.2.2.1 x.2.2.2.2.2.2.2.2.2.2.2.2.2.2.1 x.2.2.2.2.2.2.2.2.2.2.2.2.2.2.2.1 x.2.2.2.2.2.2.2.2.2.2.2.2.2.2.2.2.1 x.2.2.2.2.2.2.2.2.2.2.2.2.2.2.2.2.2.2 x.1 x.2.1 x.2.2.2.2.2.2.2.2.2.2.2.2.2.2.2.2.2.1 (fun w0 w1 w2 => (Sum.inl (w0, w1, x.2.2.1, x.2.2.2.1, x.2.2.2.2.1, x.2.2.2.2.2.1, x.2.2.2.2.2.2.1, x.2.2.2.2.2.2.2.1, x.2.2.2.2.2.2.2.2.1, x.2.2.2.2.2.2.2.2.2.1, x.2.2.2.2.2.2.2.2.2.2.1, x.2.2.2.2.2.2.2.2.2.2.2.1, x.2.2.2.2.2.2.2.2.2.2.2.2.1, x.2.2.2.2.2.2.2.2.2.2.2.2.2.1, x.2.2.2.2.2.2.2.2.2.2.2.2.2.2.1, x.2.2.2.2.2.2.2.2.2.2.2.2.2.2.2.1, x.2.2.2.2.2.2.2.2.2.2.2.2.2.2.2.2.1, w2, x.2.2.2.2.2.2.2.2.2.2.2.2.2.2.2.2.2.2))) (fun p0 => (Sum.inr (x.2.2.1, x.2.2.2.1, x.2.2.2.2.1, x.2.2.2.2.2.1, x.2.2.2.2.2.2.1, x.2.2.2.2.2.2.2.1, x.2.2.2.2.2.2.2.2.1, x.2.2.2.2.2.2.2.2.2.1, x.2.2.2.2.2.2.2.2.2.2.1, x.2.2.2.2.2.2.2.2.2.2.2.1, x.2.2.2.2.2.2.2.2.2.2.2.2.1, x.2.2.2.2.2.2.2.2.2.2.2.2.2.1, x.2.2.2.2.2.2.2.2.2.2.2.2.2.2.1, x.2.2.2.2.2.2.2.2.2.2.2.2.2.2.2.1, x.2.2.2.2.2.2.2.2.2.2.2.2.2.2.2.2.1, p0, x.2.2.2.2.2.2.2.2.2.2.2.2.2.2.2.2.2.2))):=by kernel_rfl
theorem qdE {R : Type} (x : tf) (k : th → Option R) (r : R) (h : qdA x k = some r) : ∃ o, Runs (LE.step X qdy qcP qdt 12) x o ∧ k o = some r := by
  obtain ⟨o, h1, h2⟩ := some_bind h
  exact ⟨qdz x o, small_ok (st := fun (x : tf) => swing_Places_L0_st x.2.2.1 x.2.2.2.1 x.2.2.2.2.1 x.2.2.2.2.2.1 x.2.2.2.2.2.2.1 x.2.2.2.2.2.2.2.1 x.2.2.2.2.2.2.2.2.1 x.2.2.2.2.2.2.2.2.2.1 x.2.2.2.2.2.2.2.2.2.2.1 x.2.2.2.2.2.2.2.2.2.2.2.1 x.2.2.2.2.2.2.2.2.2.2.2.2.1 x.2.2.2.2.2.2.2.2.2.2.2.2.2.1 x.2.2.2.2.2.2.2.2.2.2.2.2.2.2.1 x.2.2.2.2.2.2.2.2.2.2.2.2.2.2.2.1 x.2.2.2.2.2.2.2.2.2.2.2.2.2.2.2.2.1 x.2.2.2.2.2.2.2.2.2.2.2.2.2.2.2.2.2.2) (prj := fun x => (x.1, x.2.1, x.2.2.2.2.2.2.2.2.2.2.2.2.2.2.2.2.2.1)) (emb := qdB) (embO := qdz) (fun x => (qdC x).trans (by unfold swing_Places_L0_st swing_Places_L0_step; simp only [map_cond,map_bindO,map_elim,Option.map_some,Option.map_none]; rfl)) (fun _ _ => rfl) (fun _ _ => rfl) (fun _ _ _ => rfl) (fun _ _ _ => rfl) (fun _ => rfl) (runOf_some.1 h1), by
    first
    | exact h2
    | (rcases o with o <;> exact h2)⟩
noncomputable def qdF {R : Type} : Loops S R := LE.ls X qdy qdA qdt
theorem qdG {R : Type} : LoopsOk X (qdF (R := R)) := loop_ok xok qcQ (e := qdy) qdu qdE qdu
theorem qdH (x0 : SgMooring) (x1 : List SgLook) (x2 : SgLook) : evFn X qcP [(.st 9), (.sl (.st 10)), (.st 10)] [(.sl (.st 2)), (.int .i64)] qdF 12 34 (x0, x1, x2, ()) = swing_Places x0 x1 x2:=by kernel_rfl
noncomputable def qdI : F7 S := ⟨[(.st 9), (.sl (.st 10)), (.st 10)], [(.sl (.st 2)), (.int .i64)], fun xs => swing_Places xs.1 xs.2.1 xs.2.2.1⟩
theorem qdJ : FSOk X 34 qdI := fsOk_eq (evFn_ok xok qcQ qdG 12 34) fun xs _ h => (qdH xs.1 xs.2.1 xs.2.2.1).trans h
noncomputable def qdK : List (Nat × F7 S) := []
theorem qdL : TabOk X (qdK) := trivial
abbrev qdM {R : Type} : Loops S R := noLoops
theorem qdN {R : Type} : LoopsOk X (qdM (R := R)) := noLoops_ok X
theorem qdO (x0 : Int) : evFn X qdK [(.int .i64)] [.bool] qdM 12 132 (x0, ()) = cmp_isNaN_int x0:=by kernel_rfl
noncomputable def qdP : F7 S := ⟨[(.int .i64)], [.bool], fun xs => cmp_isNaN_int xs.1⟩
theorem qdQ : FSOk X 132 qdP := fsOk_eq (evFn_ok xok qdL qdN 12 132) fun xs _ h => (qdO xs.1).trans h
noncomputable def qdR : List (Nat × F7 S) := [(132, qdP)]
theorem qdS : TabOk X (qdR) := ⟨qdQ, trivial⟩
abbrev qdT {R : Type} : Loops S R := noLoops
theorem qdU {R : Type} : LoopsOk X (qdT (R := R)) := noLoops_ok X
theorem qdV (x0 : Int) (x1 : Int) : evFn X qdR [(.int .i64), (.int .i64)] [(.int .i64)] qdT 12 116 (x0, x1, ()) = cmp_Compare_int x0 x1:=by kernel_rfl
noncomputable def qdW : F7 S := ⟨[(.int .i64), (.int .i64)], [(.int .i64)], fun xs => cmp_Compare_int xs.1 xs.2.1⟩
theorem qdX : FSOk X 116 qdW := fsOk_eq (evFn_ok xok qdS qdU 12 116) fun xs _ h => (qdV xs.1 xs.2.1).trans h
noncomputable def qdY : List (Nat × F7 S) := [(116, qdW)]
theorem qdZ : TabOk X (qdY) := ⟨qdX, trivial⟩
abbrev qe0 {R : Type} : Loops S R := noLoops
theorem qe1 {R : Type} : LoopsOk X (qe0 (R := R)) := noLoops_ok X
def qe2 : Key := ⟨[83], 83, none, [0, 0, 1, 0, 1], 0, 4⟩
def qe3 : StT S := ⟨(N (N (N L none (N L vJ L)) vD (N (N L vD L) none L)) vD v1r), L, 4⟩
def qe4 : Way S := ⟨.ret, ⟨v1r, L, 15⟩, [.int]⟩
def qe5 : Way S := ⟨.ret, ⟨v1r, L, 27⟩, [.int]⟩
def qe6 : Way S := ⟨(.exit 0), ⟨(N (N L vD L) vD L), L, 5⟩, [(.lst (.int .i64)), (.lst (.int .i64))]⟩
def qe7 : LE S := ⟨qe2, qe3, [.int, (.lst (.int .i64)), (.lst (.int .i64)), (.lst (.int .i64)), .int], [qe4, qe5, qe6]⟩
def qe8 (x : tS) : (Int ⊕ Int ⊕ Unit) → (Int ⊕ Int ⊕ ((List Int) × (List Int))) := Sum.elim (fun y0 => (.inl y0)) (Sum.elim (fun y1 => (.inr (.inl y1))) (fun y2 => (.inr (.inr (x.2.1, x.2.2.2.1)))))
noncomputable def qe9 {R : Type} (x : tS) (k : (Int ⊕ Int ⊕ ((List Int) × (List Int))) → Option R) : Option R := (slices_Compare_int_int_L0_run x.2.1 x.2.2.1 x.2.2.2.1 x.2.2.2.2 x.1).bind (Sum.elim (fun y0 => k (.inl y0)) (Sum.elim (fun y1 => k (.inr (.inl y1))) (fun y2 => k (.inr (.inr (x.2.1, x.2.2.2.1))))))
def qea (x : tS) (v : Int) : tS := (v, x.2.1, x.2.2.1, x.2.2.2.1, x.2.2.2.2)
theorem qeb (x : tS) : LE.step X qe7 qdY qe0 12 x = slices_Compare_int_int_L0_step x.2.1 x.2.2.1 x.2.2.2.1 x.2.2.2.2 x.1 (fun w0 => (Sum.inl (w0, x.2.1, x.2.2.1, x.2.2.2.1, x.2.2.2.2))) (fun p0 => (Sum.inr (.inl p0))) (fun p0 => (Sum.inr (.inr (.inl p0)))) (Sum.inr (.inr (.inr (x.2.1, x.2.2.2.1)))):=by kernel_rfl
theorem qed {R : Type} (x : tS) (k : (Int ⊕ Int ⊕ ((List Int) × (List Int))) → Option R) (r : R) (h : qe9 x k = some r) : ∃ o, Runs (LE.step X qe7 qdY qe0 12) x o ∧ k o = some r := by
  obtain ⟨o, h1, h2⟩ := some_bind h
  exact ⟨qe8 x o, small_ok (st := fun (x : tS) => slices_Compare_int_int_L0_st x.2.1 x.2.2.1 x.2.2.2.1 x.2.2.2.2) (prj := fun x => x.1) (emb := qea) (embO := qe8) (fun x => (qeb x).trans (by unfold slices_Compare_int_int_L0_st slices_Compare_int_int_L0_step; simp only [map_cond,map_bindO,map_elim,Option.map_some,Option.map_none]; rfl)) (fun _ _ => rfl) (fun _ _ => rfl) (fun _ _ _ => rfl) (fun _ _ _ => rfl) (fun _ => rfl) (runOf_some.1 h1), by
    first
    | exact h2
    | (rcases o with o | o | o <;> exact h2)⟩
noncomputable def qee {R : Type} : Loops S R := LE.ls X qe7 qe9 qe0
theorem qef {R : Type} : LoopsOk X (qee (R := R)) := loop_ok xok qdZ (e := qe7) qe1 qed qe1
theorem qeg (x0 : List Int) (x1 : List Int) : evFn X qdY [(.sl (.int .i64)), (.sl (.int .i64))] [(.int .i64)] qee 12 83 (x0, x1, ()) = slices_Compare_int_int x0 x1:=by kernel_rfl
noncomputable def qeh : F7 S := ⟨[(.sl (.int .i64)), (.sl (.int .i64))], [(.int .i64)], fun xs => slices_Compare_int_int xs.1 xs.2.1⟩
theorem qei : FSOk X 83 qeh := fsOk_eq (evFn_ok xok qdZ qef 12 83) fun xs _ h => (qeg xs.1 xs.2.1).trans h
noncomputable def qej : List (Nat × F7 S) := [(70, qa3), (80, qam), (83, qeh)]
theorem qek : TabOk X (qej) := ⟨qa4, qan, qei, trivial⟩
abbrev qel {R : Type} : Loops S R := noLoops
theorem qem {R : Type} : LoopsOk X (qel (R := R)) := noLoops_ok X
def qen : Key := ⟨[32], 32, none, [0, 0, 1, 0, 1, 1, 1, 0, 0, 1, 1, 0, 0, 1, 0, 1, 1, 1, 1, 0, 1], 2, 33⟩
def qeo : StT S := ⟨(N (N v1i none (N (N (N (N L vJ L) none L) vJ L) none L)) none (N (N (N (N (N L vs L) none L) vI L) (some (.rs 33 0)) L) none (N (N (N (N L vJ L) none L) (some (.rs 34 0)) (N L vJ L)) (some (.ptr 10 0)) L))), oY, 35⟩
def qep : Way S := ⟨(.exit 1), ⟨vX, (N (N (N (N L none (N (N L o9 L) none L)) none L) none (N (N (N (N L ot L) none (N L ot L)) none L) none L)) om (N o1w none (N (N (N (N L (some (.row 3 (.int .i64) [] 0 1)) L) none L) oe L) none L))), 60⟩, [(.lst (.arr 5 (.int .u64))), .int, .bool, .int, (.arr (.int .u64)), (.lst (.int .i64)), .nat, (.lst (.int .i64)), .nat, (.st 9), (.arr (.int .u64)), (.lst (.int .i64)), .nat, (.st 14)]⟩
def qeq : Way S := ⟨(.exit 1), ⟨vX, (N (N (N (N L none (N (N L o9 L) none L)) none L) none (N o1s none L)) om (N o1w none (N (N (N (N L ot L) none L) oe L) none L))), 59⟩, [(.lst (.arr 5 (.int .u64))), .int, .bool, .int, (.arr (.int .u64)), (.lst (.int .i64)), .nat, (.st 9), (.arr (.int .u64)), (.lst (.int .i64)), .nat, (.st 14)]⟩
def qer : Way S := ⟨(.exit 2), ⟨(N (N v1i none L) none (N (N (N L vI L) (some (.rs 33 0)) L) none (N (N L (some (.rs 34 0)) (N L vJ L)) (some (.ptr 10 0)) L))), oY, 36⟩, [(.lst (.arr 5 (.int .u64))), .int, .bool, .int, (.lst (.int .i64)), .nat, (.st 9), (.arr (.int .u64)), (.lst (.int .i64)), .nat, (.st 14)]⟩
def qes : LE S := ⟨qen, qeo, [(.lst (.arr 5 (.int .u64))), .int, .int, .int, (.lst (.arr 5 (.int .u64))), .bool, .int, .int, (.lst (.int .i64)), .nat, (.st 9), (.arr (.int .u64)), (.lst (.int .i64)), .nat, (.st 14)], [qep, qeq, qer]⟩
def qet (x : tj) : (((Nat → Int) × (List Int) × Nat × (Nat → Int) × (List Int)) ⊕ ((Nat → Int) × (Nat → Int) × (List Int)) ⊕ ((Nat → Int) × (List Int))) → t3 := Sum.elim (fun y0 => (.inl (x.1, x.2.1, x.2.2.2.2.2.1, x.2.2.2.2.2.2.2.1, y0.1, x.2.2.2.2.2.2.2.2.1, x.2.2.2.2.2.2.2.2.2.1, y0.2.1, y0.2.2.1, x.2.2.2.2.2.2.2.2.2.2.1, y0.2.2.2.1, y0.2.2.2.2, x.2.2.2.2.2.2.2.2.2.2.2.2.2.1, x.2.2.2.2.2.2.2.2.2.2.2.2.2.2))) (Sum.elim (fun y1 => (.inr (.inl (x.1, x.2.1, x.2.2.2.2.2.1, x.2.2.2.2.2.2.2.1, y1.1, x.2.2.2.2.2.2.2.2.1, x.2.2.2.2.2.2.2.2.2.1, x.2.2.2.2.2.2.2.2.2.2.1, y1.2.1, y1.2.2, x.2.2.2.2.2.2.2.2.2.2.2.2.2.1, x.2.2.2.2.2.2.2.2.2.2.2.2.2.2)))) (fun y2 => (.inr (.inr (x.1, x.2.1, x.2.2.2.2.2.1, x.2.2.2.2.2.2.2.1, x.2.2.2.2.2.2.2.2.1, x.2.2.2.2.2.2.2.2.2.1, x.2.2.2.2.2.2.2.2.2.2.1, y2.1, y2.2, x.2.2.2.2.2.2.2.2.2.2.2.2.2.1, x.2.2.2.2.2.2.2.2.2.2.2.2.2.2)))))
noncomputable def qeu {R : Type} (x : tj) (k : t3 → Option R) : Option R := (swing_Wrong_L1_run x.1 x.2.1 x.2.2.1 x.2.2.2.1 x.2.2.2.2.1 x.2.2.2.2.2.1 x.2.2.2.2.2.2.2.1 x.2.2.2.2.2.2.2.2.1 x.2.2.2.2.2.2.2.2.2.1 x.2.2.2.2.2.2.2.2.2.2.1 x.2.2.2.2.2.2.2.2.2.2.2.2.2.1 x.2.2.2.2.2.2.2.2.2.2.2.2.2.2 (x.2.2.2.2.2.2.1, x.2.2.2.2.2.2.2.2.2.2.2.1, x.2.2.2.2.2.2.2.2.2.2.2.2.1)).bind (Sum.elim (fun y0 => k (.inl (x.1, x.2.1, x.2.2.2.2.2.1, x.2.2.2.2.2.2.2.1, y0.1, x.2.2.2.2.2.2.2.2.1, x.2.2.2.2.2.2.2.2.2.1, y0.2.1, y0.2.2.1, x.2.2.2.2.2.2.2.2.2.2.1, y0.2.2.2.1, y0.2.2.2.2, x.2.2.2.2.2.2.2.2.2.2.2.2.2.1, x.2.2.2.2.2.2.2.2.2.2.2.2.2.2))) (Sum.elim (fun y1 => k (.inr (.inl (x.1, x.2.1, x.2.2.2.2.2.1, x.2.2.2.2.2.2.2.1, y1.1, x.2.2.2.2.2.2.2.2.1, x.2.2.2.2.2.2.2.2.2.1, x.2.2.2.2.2.2.2.2.2.2.1, y1.2.1, y1.2.2, x.2.2.2.2.2.2.2.2.2.2.2.2.2.1, x.2.2.2.2.2.2.2.2.2.2.2.2.2.2)))) (fun y2 => k (.inr (.inr (x.1, x.2.1, x.2.2.2.2.2.1, x.2.2.2.2.2.2.2.1, x.2.2.2.2.2.2.2.2.1, x.2.2.2.2.2.2.2.2.2.1, x.2.2.2.2.2.2.2.2.2.2.1, y2.1, y2.2, x.2.2.2.2.2.2.2.2.2.2.2.2.2.1, x.2.2.2.2.2.2.2.2.2.2.2.2.2.2))))))
def qev (x : tj) (v : (Int × (Nat → Int) × (List Int))) : tj := (x.1, x.2.1, x.2.2.1, x.2.2.2.1, x.2.2.2.2.1, x.2.2.2.2.2.1, v.1, x.2.2.2.2.2.2.2.1, x.2.2.2.2.2.2.2.2.1, x.2.2.2.2.2.2.2.2.2.1, x.2.2.2.2.2.2.2.2.2.2.1, v.2.1, v.2.2, x.2.2.2.2.2.2.2.2.2.2.2.2.2.1, x.2.2.2.2.2.2.2.2.2.2.2.2.2.2)
theorem qew (x : tj) : LE.step X qes qej qel 12 x = swing_Wrong_L1_step x.1 x.2.1 x.2.2.1 x.2.2.2.1 x.2.2.2.2.1 x.2.2.2.2.2.1 x.2.2.2.2.2.2.2.1 x.2.2.2.2.2.2.2.2.1 x.2.2.2.2.2.2.2.2.2.1 x.2.2.2.2.2.2.2.2.2.2.1 x.2.2.2.2.2.2.2.2.2.2.2.2.2.1 x.2.2.2.2.2.2.2.2.2.2.2.2.2.2 x.2.2.2.2.2.2.1 x.2.2.2.2.2.2.2.2.2.2.2.1 x.2.2.2.2.2.2.2.2.2.2.2.2.1 (fun w0 w1 w2 => (Sum.inl (x.1, x.2.1, x.2.2.1, x.2.2.2.1, x.2.2.2.2.1, x.2.2.2.2.2.1, w0, x.2.2.2.2.2.2.2.1, x.2.2.2.2.2.2.2.2.1, x.2.2.2.2.2.2.2.2.2.1, x.2.2.2.2.2.2.2.2.2.2.1, w1, w2, x.2.2.2.2.2.2.2.2.2.2.2.2.2.1, x.2.2.2.2.2.2.2.2.2.2.2.2.2.2))) (fun p0 p1 p2 p3 p4 => (Sum.inr (.inl (x.1, x.2.1, x.2.2.2.2.2.1, x.2.2.2.2.2.2.2.1, p0, x.2.2.2.2.2.2.2.2.1, x.2.2.2.2.2.2.2.2.2.1, p1, p2, x.2.2.2.2.2.2.2.2.2.2.1, p3, p4, x.2.2.2.2.2.2.2.2.2.2.2.2.2.1, x.2.2.2.2.2.2.2.2.2.2.2.2.2.2)))) (fun p0 p1 p2 => (Sum.inr (.inr (.inl (x.1, x.2.1, x.2.2.2.2.2.1, x.2.2.2.2.2.2.2.1, p0, x.2.2.2.2.2.2.2.2.1, x.2.2.2.2.2.2.2.2.2.1, x.2.2.2.2.2.2.2.2.2.2.1, p1, p2, x.2.2.2.2.2.2.2.2.2.2.2.2.2.1, x.2.2.2.2.2.2.2.2.2.2.2.2.2.2))))) (fun p0 p1 => (Sum.inr (.inr (.inr (x.1, x.2.1, x.2.2.2.2.2.1, x.2.2.2.2.2.2.2.1, x.2.2.2.2.2.2.2.2.1, x.2.2.2.2.2.2.2.2.2.1, x.2.2.2.2.2.2.2.2.2.2.1, p0, p1, x.2.2.2.2.2.2.2.2.2.2.2.2.2.1, x.2.2.2.2.2.2.2.2.2.2.2.2.2.2))))):=by kernel_rfl
theorem qey {R : Type} (x : tj) (k : t3 → Option R) (r : R) (h : qeu x k = some r) : ∃ o, Runs (LE.step X qes qej qel 12) x o ∧ k o = some r := by
  obtain ⟨o, h1, h2⟩ := some_bind h
  exact ⟨qet x o, small_ok (st := fun (x : tj) => swing_Wrong_L1_st x.1 x.2.1 x.2.2.1 x.2.2.2.1 x.2.2.2.2.1 x.2.2.2.2.2.1 x.2.2.2.2.2.2.2.1 x.2.2.2.2.2.2.2.2.1 x.2.2.2.2.2.2.2.2.2.1 x.2.2.2.2.2.2.2.2.2.2.1 x.2.2.2.2.2.2.2.2.2.2.2.2.2.1 x.2.2.2.2.2.2.2.2.2.2.2.2.2.2) (prj := fun x => (x.2.2.2.2.2.2.1, x.2.2.2.2.2.2.2.2.2.2.2.1, x.2.2.2.2.2.2.2.2.2.2.2.2.1)) (emb := qev) (embO := qet) (fun x => (qew x).trans (by unfold swing_Wrong_L1_st swing_Wrong_L1_step; simp only [map_cond,map_bindO,map_elim,Option.map_some,Option.map_none]; rfl)) (fun _ _ => rfl) (fun _ _ => rfl) (fun _ _ _ => rfl) (fun _ _ _ => rfl) (fun _ => rfl) (runOf_some.1 h1), by
    first
    | exact h2
    | (rcases o with o | o | o <;> exact h2)⟩
noncomputable def qez {R : Type} : Loops S R := LE.ls X qes qeu qel
theorem qeA {R : Type} : LoopsOk X (qez (R := R)) := loop_ok xok qek (e := qes) qem qey qem
def qeB : Key := ⟨[32], 32, none, [0, 0, 1, 0, 1, 1, 1, 1, 0, 1], 0, 21⟩
def qeC : StT S := ⟨(N (N (N (N L vs L) none (N L none (N L vJ L))) none L) none (N (N (N L vI L) (some (.rs 21 0)) L) none (N (N L none (N L vJ L)) (some (.ptr 10 0)) L))), o15, 22⟩
def qeD : Way S := ⟨(.exit 0), ⟨(N L none (N (N L (some (.rs 21 0)) L) none L)), o15, 23⟩, [(.lst (.int .i64)), .nat, (.st 9), (.st 14)]⟩
def qeE : LE S := ⟨qeB, qeC, [(.lst (.arr 5 (.int .u64))), .int, .bool, .int, (.lst (.int .i64)), .nat, (.st 9), (.st 14)], [qeD]⟩
def qeF (x : tB) : ((List Int) × Nat) → tV := fun y0 => (y0.1, y0.2, x.2.2.2.2.2.2.1, x.2.2.2.2.2.2.2)
noncomputable def qeG {R : Type} (x : tB) (k : tV → Option R) : Option R := (swing_Wrong_L0_run x.1 x.2.2.2.1 x.2.2.2.2.2.2.1 x.2.2.2.2.2.2.2 (x.2.1, x.2.2.1, x.2.2.2.2.1, x.2.2.2.2.2.1)).bind (fun y0 => k (y0.1, y0.2, x.2.2.2.2.2.2.1, x.2.2.2.2.2.2.2))
def qeH (x : tB) (v : (Int × Bool × (List Int) × Nat)) : tB := (x.1, v.1, v.2.1, x.2.2.2.1, v.2.2.1, v.2.2.2, x.2.2.2.2.2.2.1, x.2.2.2.2.2.2.2)
theorem qeI (x : tB) : LE.step X qeE qej qez 12 x = swing_Wrong_L0_step x.1 x.2.2.2.1 x.2.2.2.2.2.2.1 x.2.2.2.2.2.2.2 x.2.1 x.2.2.1 x.2.2.2.2.1 x.2.2.2.2.2.1 (fun w0 w1 w2 w3 => (Sum.inl (x.1, w0, w1, x.2.2.2.1, w2, w3, x.2.2.2.2.2.2.1, x.2.2.2.2.2.2.2))) (fun p0 p1 => (Sum.inr (p0, p1, x.2.2.2.2.2.2.1, x.2.2.2.2.2.2.2))):=by kernel_rfl
theorem qeK {R : Type} (x : tB) (k : tV → Option R) (r : R) (h : qeG x k = some r) : ∃ o, Runs (LE.step X qeE qej qez 12) x o ∧ k o = some r := by
  obtain ⟨o, h1, h2⟩ := some_bind h
  exact ⟨qeF x o, small_ok (st := fun (x : tB) => swing_Wrong_L0_st x.1 x.2.2.2.1 x.2.2.2.2.2.2.1 x.2.2.2.2.2.2.2) (prj := fun x => (x.2.1, x.2.2.1, x.2.2.2.2.1, x.2.2.2.2.2.1)) (emb := qeH) (embO := qeF) (fun x => (qeI x).trans (by unfold swing_Wrong_L0_st swing_Wrong_L0_step; simp only [map_cond,map_bindO,map_elim,Option.map_some,Option.map_none]; rfl)) (fun _ _ => rfl) (fun _ _ => rfl) (fun _ _ _ => rfl) (fun _ _ _ => rfl) (fun _ => rfl) (runOf_some.1 h1), by
    first
    | exact h2
    | (rcases o with o <;> exact h2)⟩
noncomputable def qeL {R : Type} : Loops S R := LE.ls X qeE qeG qez
theorem qeM {R : Type} : LoopsOk X (qeL (R := R)) := loop_ok xok qek (e := qeE) qeA qeK qeA
theorem qeN (x0 : SgMooring) (x1 : List SgLook) : evFn X qej [(.st 9), (.sl (.st 10))] [(.sl (.int .i64)), (.int .i64)] qeL 12 32 (x0, x1, ()) = swing_Wrong x0 x1:=by kernel_rfl
noncomputable def qeO : F7 S := ⟨[(.st 9), (.sl (.st 10))], [(.sl (.int .i64)), (.int .i64)], fun xs => swing_Wrong xs.1 xs.2.1⟩
theorem qeP : FSOk X 32 qeO := fsOk_eq (evFn_ok xok qek qeM 12 32) fun xs _ h => (qeN xs.1 xs.2.1).trans h
noncomputable def qeQ : F7 S := ⟨[], [.bool], fun _ => law04_Awake⟩
theorem qeR : FSOk X 24 qeQ := closedTrue_ok (X := X) (F := law04_Awake) rfl law04_Awake_run
noncomputable def qeS : List (Nat × F7 S) := [(18, q7b)]
theorem qeT : TabOk X (qeS) := ⟨q7c, trivial⟩
abbrev qeU {R : Type} : Loops S R := noLoops
theorem qeV {R : Type} : LoopsOk X (qeU (R := R)) := noLoops_ok X
theorem qeW (x0 : SgMooring) : evFn X qeS [(.st 9)] [.bool] qeU 12 44 (x0, ()) = law04_valid x0:=by kernel_rfl
noncomputable def qeX : F7 S := ⟨[(.st 9)], [.bool], fun xs => law04_valid xs.1⟩
theorem qeY : FSOk X 44 qeX := fsOk_eq (evFn_ok xok qeT qeV 12 44) fun xs _ h => (qeW xs.1).trans h
noncomputable def qeZ : List (Nat × F7 S) := []
theorem qf0 : TabOk X (qeZ) := trivial
abbrev qf1 {R : Type} : Loops S R := noLoops
theorem qf2 {R : Type} : LoopsOk X (qf1 (R := R)) := noLoops_ok X
theorem qf3 (x0 : Span) (x1 : Int) : evFn X qeZ [(.st 5), (.int .i64)] [(.int .i64)] qf1 12 50 (x0, x1, ()) = law04_among x0 x1:=by kernel_rfl
noncomputable def qf4 : F7 S := ⟨[(.st 5), (.int .i64)], [(.int .i64)], fun xs => law04_among xs.1 xs.2.1⟩
theorem qf5 : FSOk X 50 qf4 := fsOk_eq (evFn_ok xok qf0 qf2 12 50) fun xs _ h => (qf3 xs.1 xs.2.1).trans h
noncomputable def qf6 : List (Nat × F7 S) := [(50, qf4)]
theorem qf7 : TabOk X (qf6) := ⟨qf5, trivial⟩
abbrev qf8 {R : Type} : Loops S R := noLoops
theorem qf9 {R : Type} : LoopsOk X (qf8 (R := R)) := noLoops_ok X
theorem qfa (x0 : SgMooring) (x1 : norelaw04_Past) : evFn X qf6 [(.st 9), (.st 12)] [(.st 2)] qf8 12 47 (x0, x1, ()) = law04_Anchored x0 x1:=by kernel_rfl
noncomputable def qfb : F7 S := ⟨[(.st 9), (.st 12)], [(.st 2)], fun xs => law04_Anchored xs.1 xs.2.1⟩
theorem qfc : FSOk X 47 qfb := fsOk_eq (evFn_ok xok qf7 qf9 12 47) fun xs _ h => (qfa xs.1 xs.2.1).trans h
noncomputable def qfd : List (Nat × F7 S) := []
theorem qfe : TabOk X (qfd) := trivial
abbrev qff {R : Type} : Loops S R := noLoops
theorem qfg {R : Type} : LoopsOk X (qff (R := R)) := noLoops_ok X
theorem qfh (x0 : SgMooring) (x1 : Int) (x2 : Int) : evFn X qfd [(.st 9), (.int .i64), (.int .i64)] [(.st 2), .bool] qff 12 90 (x0, x1, x2, ()) = law04_lay x0 x1 x2:=by kernel_rfl
noncomputable def qfi : F7 S := ⟨[(.st 9), (.int .i64), (.int .i64)], [(.st 2), .bool], fun xs => law04_lay xs.1 xs.2.1 xs.2.2.1⟩
theorem qfj : FSOk X 90 qfi := fsOk_eq (evFn_ok xok qfe qfg 12 90) fun xs _ h => (qfh xs.1 xs.2.1 xs.2.2.1).trans h
noncomputable def qfk : List (Nat × F7 S) := []
theorem qfl : TabOk X (qfk) := trivial
abbrev qfm {R : Type} : Loops S R := noLoops
theorem qfn {R : Type} : LoopsOk X (qfm (R := R)) := noLoops_ok X
theorem qfo (x0 : Point) (x1 : Point) : evFn X qfk [(.st 2), (.st 2)] [(.st 2)] qfm 12 59 (x0, x1, ()) = ref01_Plus x0 x1:=by kernel_rfl
noncomputable def qfp : F7 S := ⟨[(.st 2), (.st 2)], [(.st 2)], fun xs => ref01_Plus xs.1 xs.2.1⟩
theorem qfq : FSOk X 59 qfp := fsOk_eq (evFn_ok xok qfl qfn 12 59) fun xs _ h => (qfo xs.1 xs.2.1).trans h
noncomputable def qfr : List (Nat × F7 S) := [(47, qfb), (90, qfi), (59, qfp), (78, q4i), (91, qbO), (53, qbV)]
theorem qfs : TabOk X (qfr) := ⟨qfc, qfj, qfq, q4j, qbP, qbW, trivial⟩
abbrev qft {R : Type} : Loops S R := noLoops
theorem qfu {R : Type} : LoopsOk X (qft (R := R)) := noLoops_ok X
def qfv : Key := ⟨[45], 45, none, [0, 0, 1, 0, 1, 1, 1, 1], 0, 12⟩
def qfw : StT S := ⟨(N (N (N (N L (some (.rs 13 0)) L) (some (.ptr 1 0)) L) none (N (N L vJ L) none L)) none (N (N (N L (some (.ptr 9 0)) L) none L) (some (.ptr 0 0)) (N L (some (.rs 12 0)) L))), o10, 14⟩
def qfx : Way S := ⟨(.exit 0), ⟨(N (N (N (N L (some (.rs 13 0)) L) none L) none L) none (N L none (N L (some (.rs 12 0)) L))), o10, 25⟩, [(.st 12), (.st 2), (.lst (.st 2)), .nat, (.st 9), (.lst (.st 10)), .nat]⟩
def qfy : LE S := ⟨qfv, qfw, [.int, (.st 12), (.st 2), (.lst (.st 2)), .nat, (.st 9), (.lst (.st 10)), .nat], [qfx]⟩
def qfz (x : tC) : ((List Point) × (List SgLook)) → tF := fun y0 => (x.2.1, x.2.2.1, y0.1, x.2.2.2.2.1, x.2.2.2.2.2.1, y0.2, x.2.2.2.2.2.2.2)
noncomputable def qfA {R : Type} (x : tC) (k : tF → Option R) : Option R := (law04_Told_L0_run x.2.1 x.2.2.1 x.2.2.2.2.1 x.2.2.2.2.2.1 x.2.2.2.2.2.2.2 (x.1, x.2.2.2.1, x.2.2.2.2.2.2.1)).bind (fun y0 => k (x.2.1, x.2.2.1, y0.1, x.2.2.2.2.1, x.2.2.2.2.2.1, y0.2, x.2.2.2.2.2.2.2))
def qfB (x : tC) (v : (Int × (List Point) × (List SgLook))) : tC := (v.1, x.2.1, x.2.2.1, v.2.1, x.2.2.2.2.1, x.2.2.2.2.2.1, v.2.2, x.2.2.2.2.2.2.2)
theorem qfC (x : tC) : LE.step X qfy qfr qft 12 x = law04_Told_L0_step x.2.1 x.2.2.1 x.2.2.2.2.1 x.2.2.2.2.2.1 x.2.2.2.2.2.2.2 x.1 x.2.2.2.1 x.2.2.2.2.2.2.1 (fun w0 w1 w2 => (Sum.inl (w0, x.2.1, x.2.2.1, w1, x.2.2.2.2.1, x.2.2.2.2.2.1, w2, x.2.2.2.2.2.2.2))) (fun p0 p1 => (Sum.inr (x.2.1, x.2.2.1, p0, x.2.2.2.2.1, x.2.2.2.2.2.1, p1, x.2.2.2.2.2.2.2))):=by kernel_rfl
theorem qfE {R : Type} (x : tC) (k : tF → Option R) (r : R) (h : qfA x k = some r) : ∃ o, Runs (LE.step X qfy qfr qft 12) x o ∧ k o = some r := by
  obtain ⟨o, h1, h2⟩ := some_bind h
  exact ⟨qfz x o, small_ok (st := fun (x : tC) => law04_Told_L0_st x.2.1 x.2.2.1 x.2.2.2.2.1 x.2.2.2.2.2.1 x.2.2.2.2.2.2.2) (prj := fun x => (x.1, x.2.2.2.1, x.2.2.2.2.2.2.1)) (emb := qfB) (embO := qfz) (fun x => (qfC x).trans (by unfold law04_Told_L0_st law04_Told_L0_step; simp only [map_cond,map_bindO,map_elim,Option.map_some,Option.map_none]; rfl)) (fun _ _ => rfl) (fun _ _ => rfl) (fun _ _ _ => rfl) (fun _ _ _ => rfl) (fun _ => rfl) (runOf_some.1 h1), by
    first
    | exact h2
    | (rcases o with o <;> exact h2)⟩
noncomputable def qfF {R : Type} : Loops S R := LE.ls X qfy qfA qft
theorem qfG {R : Type} : LoopsOk X (qfF (R := R)) := loop_ok xok qfs (e := qfy) qfu qfE qfu
theorem qfH (x0 : SgMooring) (x1 : norelaw04_Past) : evFn X qfr [(.st 9), (.st 12)] [(.sl (.st 10)), (.sl (.st 2))] qfF 12 45 (x0, x1, ()) = law04_Told x0 x1:=by kernel_rfl
noncomputable def qfI : F7 S := ⟨[(.st 9), (.st 12)], [(.sl (.st 10)), (.sl (.st 2))], fun xs => law04_Told xs.1 xs.2.1⟩
theorem qfJ : FSOk X 45 qfI := fsOk_eq (evFn_ok xok qfs qfG 12 45) fun xs _ h => (qfH xs.1 xs.2.1).trans h
noncomputable def qfK : List (Nat × F7 S) := []
theorem qfL : TabOk X (qfK) := trivial
abbrev qfM {R : Type} : Loops S R := noLoops
theorem qfN {R : Type} : LoopsOk X (qfM (R := R)) := noLoops_ok X
def qfO : Key := ⟨[46], 46, none, [0, 0, 1, 0, 1], 0, 3⟩
def qfP : StT S := ⟨(N (N (N L (some (.ptr 0 0)) L) none (N L vJ L)) vH L), (N L oj L), 3⟩
def qfQ : Way S := ⟨.ret, ⟨(N L none (N (N L vI L) none L)), (N L oj L), 14⟩, [.bool, (.st 2)]⟩
def qfR : Way S := ⟨(.exit 0), ⟨L, (N L oj L), 7⟩, [(.st 2)]⟩
def qfS : LE S := ⟨qfO, qfP, [.int, (.lst (.st 2)), (.st 2)], [qfQ, qfR]⟩
def qfT (x : t15) : (Bool ⊕ Unit) → ((Bool × Point) ⊕ Point) := Sum.elim (fun y0 => (.inl (y0, x.2.2))) (fun y1 => (.inr x.2.2))
noncomputable def qfU {R : Type} (x : t15) (k : ((Bool × Point) ⊕ Point) → Option R) : Option R := (law04_has_L0_run x.2.1 x.2.2 x.1).bind (Sum.elim (fun y0 => k (.inl (y0, x.2.2))) (fun y1 => k (.inr x.2.2)))
def qfV (x : t15) (v : Int) : t15 := (v, x.2.1, x.2.2)
theorem qfW (x : t15) : LE.step X qfS qfK qfM 12 x = law04_has_L0_step x.2.1 x.2.2 x.1 (fun w0 => (Sum.inl (w0, x.2.1, x.2.2))) (fun p0 => (Sum.inr (.inl (p0, x.2.2)))) (Sum.inr (.inr x.2.2)):=by kernel_rfl
theorem qfY {R : Type} (x : t15) (k : ((Bool × Point) ⊕ Point) → Option R) (r : R) (h : qfU x k = some r) : ∃ o, Runs (LE.step X qfS qfK qfM 12) x o ∧ k o = some r := by
  obtain ⟨o, h1, h2⟩ := some_bind h
  exact ⟨qfT x o, small_ok (st := fun (x : t15) => law04_has_L0_st x.2.1 x.2.2) (prj := fun x => x.1) (emb := qfV) (embO := qfT) (fun x => (qfW x).trans (by unfold law04_has_L0_st law04_has_L0_step; simp only [map_cond,map_bindO,map_elim,Option.map_some,Option.map_none]; rfl)) (fun _ _ => rfl) (fun _ _ => rfl) (fun _ _ _ => rfl) (fun _ _ _ => rfl) (fun _ => rfl) (runOf_some.1 h1), by
    first
    | exact h2
    | (rcases o with o | o <;> exact h2)⟩
noncomputable def qfZ {R : Type} : Loops S R := LE.ls X qfS qfU qfM
theorem qg0 {R : Type} : LoopsOk X (qfZ (R := R)) := loop_ok xok qfL (e := qfS) qfN qfY qfN
theorem qg1 (x0 : List Point) (x1 : Point) : evFn X qfK [(.sl (.st 2)), (.st 2)] [.bool] qfZ 12 46 (x0, x1, ()) = law04_has x0 x1:=by kernel_rfl
noncomputable def qg2 : F7 S := ⟨[(.sl (.st 2)), (.st 2)], [.bool], fun xs => law04_has xs.1 xs.2.1⟩
theorem qg3 : FSOk X 46 qg2 := fsOk_eq (evFn_ok xok qfL qg0 12 46) fun xs _ h => (qg1 xs.1 xs.2.1).trans h
noncomputable def qg4 : List (Nat × F7 S) := [(44, qeX), (21, qbh), (24, qeQ), (45, qfI), (27, qcm), (29, qcN), (32, qeO), (47, qfb), (46, qg2), (34, qdI), (25, qc2)]
theorem qg5 : TabOk X (qg4) := ⟨qeY, qbi, qeR, qfJ, qcn, qcO, qeP, qfc, qg3, qdJ, qc3, trivial⟩
abbrev qg6 {R : Type} : Loops S R := noLoops
theorem qg7 {R : Type} : LoopsOk X (qg6 (R := R)) := noLoops_ok X
theorem qg8 (x0 : SgMooring) (x1 : norelaw04_Past) : evFn X qg4 [(.st 9), (.st 12)] [.bool] qg6 12 8 (x0, x1, ()) = law04_SwingTrue x0 x1:=by kernel_rfl
noncomputable def qg9 : F7 S := ⟨[(.st 9), (.st 12)], [.bool], fun xs => law04_SwingTrue xs.1 xs.2.1⟩
theorem law04_SwingTrue_fsok : FSOk X 8 qg9 := fsOk_eq (evFn_ok xok qg5 qg7 12 8) fun xs _ h => (qg8 xs.1 xs.2.1).trans h
end Nore
