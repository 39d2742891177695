/- The code comes to the plain functions. -/
import Derived.Test.YtdoejdmpmpgmiaaY
import Derived.Test.YtdoejdmpmpgmiaaD
set_option linter.unusedSectionVars false
set_option linter.unusedVariables false
set_option linter.unusedSimpArgs false
set_option maxRecDepth 100000
open Go Go.Ab Go.Proofs Go.Proofs.Ytdoejdmpmpgmiaa
open Go.Ab.Tr renaming node → N, leaf → L
namespace Nore
abbrev t10 : Type := List (ByteArray × Int)
abbrev tZ : Type := Int × Int × (List Point)
abbrev tY : Type := Int × (List Point) × Point
abbrev tX : Type := Int × Int × (List Point) × Int
abbrev tW : Type := Int × (List Point) × Int × Int
abbrev tV : Type := (Int × Int × Int) ⊕ (Int × Int)
abbrev tU : Type := Int × (List ByteArray) × CtChart
abbrev tT : Type := Int × CtChart × (List ByteArray)
abbrev tS : Type := Int × ByteArray × ByteArray × Nat
abbrev tR : Type := ByteArray × Int × (List ByteArray)
abbrev tQ : Type := Int × (List Int) × Int × Int × Int
abbrev tP : Type := Int × Int × (List Span) × Int × Int
abbrev tO : Type := (List SgLook) × Int × Int × SgMooring
abbrev tN : Type := Int × Int × (List Int) × Point × Point
abbrev tM : Type := Int × Int × Int × (List CtPaint) × (List Int)
abbrev tL : Type := (List (Nat → Int)) × swing_mooring × SgMooring
abbrev tK : Type := Int × Int × Int × t10 × CtSand
abbrev tJ : Type := Int × (List SgLook) × Int × (List SgLook) × SgMooring
abbrev tI : Type := Int × (List (Nat → Int)) × Int × (Nat → Int) × (Nat → Int)
abbrev tH : Type := (Nat → Int) × Int × (Nat → Int) × (Nat → Int) × (Nat → Int)
abbrev tG : Type := Int × Int × Int × (List ByteArray) × CtMark × (List ByteArray)
abbrev tF : Type := Int × (List CtSand) × Int × CtChart × t10
abbrev tE : Type := Int × Int × (List CtMark) × CtChart × t10
abbrev tD : Type := (Bool × ByteArray × Nat) ⊕ tS
abbrev tC : Type := Int × Int × SgLook × SgLook × (List Int) × (List Int) × (List Int)
abbrev tB : Type := CtBox × SgLook × swing_mooring × SgLook × swing_mooring × (Nat → Int)
abbrev tA : Type := Int × (List SgLook) × Int × (List (Nat → Int)) × swing_mooring × SgMooring
abbrev tz : Type := Int × Int × CtBox × SgLook × swing_mooring × SgLook × swing_mooring × (Nat → Int)
abbrev ty : Type := Int × Int × Int × CtBox × SgLook × swing_mooring × SgLook × swing_mooring × (Nat → Int)
abbrev tx : Type := Int × Point × SgLook × (List Int) × swing_mooring × Point × (List Int) × (List Int) × Point
abbrev tw : Type := Int × Int × Int × Int × Int × Int × Int × (Nat → Int) × CtBox × SgMooring × SgMooring × swing_mooring
abbrev tv : Type := Int × Int × Int × Int × Int × Int × Int × Int × Int × (Nat → Int) × CtBox × SgMooring × SgMooring × swing_mooring
abbrev tu : Type := Int × Int × (List Point) × chart_sand × Bool × Int × Bool × chart_sand × Bool × Int × chart_sand × (List Int) × Point
abbrev tt : Type := Int × chart_sand × Bool × Int × Bool × chart_sand × Bool × Int × chart_sand × Point × chart_side × (List Int) × Point
abbrev ts : Type := Int × Int × Int × Int × Int × Int × Int × Int × Int × Int × (Nat → Int) × CtBox × SgMooring × SgMooring × swing_mooring
abbrev tr : Type := Int × (List Point) × (List Point) × norelaw04_Looks × SgMooring × (List SgLook) × (List SgLook) × SgLook × (List SgLook)
abbrev tq : Type := CtBox × SgMooring × (List Point) × (Nat → Int) × swing_mooring × (List (Nat → Int)) × Bool × (List SgLook) × Int × SgMooring
abbrev tp : Type := Int × Int × CtBox × SgMooring × (List Point) × (Nat → Int) × swing_mooring × (List (Nat → Int)) × Bool × (List SgLook) × Int × SgMooring
abbrev to : Type := Int × Int × CtBox × SgMooring × (Nat → Int) × swing_mooring × (List Point) × (List (Nat → Int)) × Bool × (List SgLook) × Int × SgMooring
abbrev tn : Type := Int × Int × Int × CtBox × SgMooring × (Nat → Int) × swing_mooring × (List Point) × (List (Nat → Int)) × Bool × (List SgLook) × Int × SgMooring
abbrev tm : Type := Int × Int × (List Point) × Int × chart_sand × Bool × Int × Bool × chart_sand × Bool × Int × chart_sand × Point × chart_side × (List Int) × Point
abbrev tl : Type := Int × Int × CtBox × SgLook × swing_mooring × SgLook × SgLook × Int × swing_mooring × Int × Int × CtBox × swing_mooring × Point × (Nat → Int) × Int
abbrev tk : Type := Int × (List Point) × (List Point) × (List Point) × (List Point) × norelaw04_Looks × SgMooring × (List SgLook) × (List SgLook) × SgLook × (List SgLook)
abbrev tj : Type := Int × Int × Int × CtBox × SgLook × swing_mooring × SgLook × SgLook × Int × swing_mooring × Int × Int × CtBox × swing_mooring × Point × (Nat → Int) × Int
abbrev ti : Type := (Int × Int × Int × (List ByteArray) × (List ByteArray) × CtChart) ⊕ (Int × Int × Int × (List ByteArray) × (List ByteArray) × CtChart) ⊕ ((List ByteArray) × CtChart)
abbrev th : Type := (Int × (List Int) × (List Int) × CtPaint) ⊕ (Int × (List Int) × (List Int) × (List Int) × CtPaint) ⊕ (Int × (List Int) × (List Int) × (List Int) × CtPaint) ⊕ (List Int)
abbrev tg : Type := (Nat → Int) × CtBox × (List SgLook) × swing_mooring × SgLook × SgMooring × Int × Bool × (List SgLook) × Bool × (List (Nat → Int)) × Bool × SgMooring × SgLook × (List Point)
abbrev tf : Type := (Bool × norelaw04_Looks × SgMooring × (List SgLook) × (List SgLook) × SgLook × (List SgLook)) ⊕ (norelaw04_Looks × SgMooring × (List SgLook) × (List SgLook) × SgLook × (List SgLook))
abbrev te : Type := Int × Int × (Nat → Int) × CtBox × (List SgLook) × swing_mooring × SgLook × SgMooring × Int × Bool × (List SgLook) × Bool × (List (Nat → Int)) × Bool × SgMooring × SgLook × (List Point)
abbrev td : Type := Int × Int × Int × (Nat → Int) × CtBox × (List SgLook) × swing_mooring × SgLook × SgMooring × Int × Bool × (List SgLook) × Bool × (List (Nat → Int)) × Bool × SgMooring × SgLook × (List Point)
abbrev tc : Type := (Bool × Point × Point × SgLook × (List Int) × swing_mooring × Point × (List Int) × (List Int) × Point × Point) ⊕ (Point × SgLook × (List Int) × swing_mooring × Point × (List Int) × (List Int) × Point)
abbrev tb : Type := (chart_sand × Bool × Int × Bool × chart_sand × Bool × Int × chart_sand × Point × chart_side × (List Int) × Point) ⊕ (chart_sand × Bool × Int × Bool × chart_sand × Bool × Int × chart_sand × (List Int) × Point)
abbrev ta : Type := (Bool × norelaw04_Looks × SgMooring × (List SgLook) × (List SgLook) × SgLook × (List SgLook)) ⊕ ((List Point) × (List Point) × norelaw04_Looks × SgMooring × (List SgLook) × (List SgLook) × SgLook × (List SgLook))
abbrev t9 : Type := (Int × Int × Int × CtChart × t10 × CtSand) ⊕ (Int × Int × Int × CtChart × t10 × CtSand) ⊕ (Int × Int × Int × CtChart × t10 × CtSand) ⊕ (CtChart × t10)
abbrev t8 : Type := (Int × Int × Int × (List ByteArray) × CtMark × CtChart × (List ByteArray)) ⊕ (Int × Int × Int × (List ByteArray) × CtMark × CtChart × (List ByteArray)) ⊕ (Int × Int × Int × (List ByteArray) × CtMark × CtChart × (List ByteArray)) ⊕ (CtChart × (List ByteArray))
abbrev t7 : Type := (CtBox × SgLook × swing_mooring × SgLook × SgLook × Int × swing_mooring × Int × Int × CtBox × swing_mooring × Point × Point × (Nat → Int) × Int) ⊕ (CtBox × SgLook × swing_mooring × SgLook × SgLook × Int × swing_mooring × Int × Int × CtBox × swing_mooring × Point × (Nat → Int) × Int)
abbrev t6 : Type := (CtBox × SgLook × swing_mooring × SgLook × SgLook × Int × swing_mooring × Int × Int × CtBox × swing_mooring × Point × Point × (Nat → Int) × Int) ⊕ tl
abbrev t5 : Type := Int × Int × (Nat → Int) × CtBox × (List SgLook) × Int × Bool × (List SgLook) × Bool × (List (Nat → Int)) × Bool × Int × SgMooring × SgLook × Int × Int × swing_mooring × SgLook × Point × (List Point) × SgMooring × Int × Bool × (List SgLook) × Bool × (List (Nat → Int)) × Bool × SgMooring × SgLook × CtBox
abbrev t4 : Type := Int × Int × Int × (Nat → Int) × CtBox × (List Point) × (List SgLook) × Int × Bool × (List SgLook) × Bool × (List (Nat → Int)) × Bool × Int × SgMooring × SgLook × Int × Int × swing_mooring × SgLook × Point × SgMooring × Int × Bool × (List SgLook) × Bool × (List (Nat → Int)) × Bool × SgMooring × SgLook × CtBox
abbrev t3 : Type := (Int × Int × Int × CtMark × CtChart × t10) ⊕ (Int × Int × Int × CtMark × CtChart × t10) ⊕ (Int × Int × Int × CtMark × CtChart × t10 × (List Point)) ⊕ (Int × Int × Int × CtMark × CtChart × t10 × (List Point)) ⊕ (CtChart × t10)
abbrev t2 : Type := (Int × Int × SgLook × SgLook × (List SgLook) × SgMooring) ⊕ (Int × Int × SgLook × SgLook × (List SgLook) × SgMooring × (List Int)) ⊕ (Int × Int × SgLook × SgLook × (List SgLook) × SgMooring × (List Int) × (List Int)) ⊕ (Int × Int × SgLook × SgLook × (List SgLook) × SgMooring × (List Int) × (List Int) × (List Int)) ⊕ (Int × Int × SgLook × SgLook × (List SgLook) × SgMooring × (List Int) × (List Int) × (List Int)) ⊕ (Int × Int × SgLook × SgLook × (List SgLook) × SgMooring × (List Int) × (List Int) × (List Int)) ⊕ ((List SgLook) × SgMooring)
abbrev t1 : Type := ((List Point) × (Nat → Int) × CtBox × (List Point) × (List SgLook) × Int × Bool × (List SgLook) × Bool × (List (Nat → Int)) × Bool × Int × SgMooring × SgLook × Int × Int × swing_mooring × SgLook × Point × Point × SgMooring × Int × Bool × (List SgLook) × Bool × (List (Nat → Int)) × Bool × SgMooring × SgLook × CtBox) ⊕ ((Nat → Int) × CtBox × (List SgLook) × Int × Bool × (List SgLook) × Bool × (List (Nat → Int)) × Bool × Int × SgMooring × SgLook × Int × Int × swing_mooring × SgLook × Point × (List Point) × SgMooring × Int × Bool × (List SgLook) × Bool × (List (Nat → Int)) × Bool × SgMooring × SgLook × CtBox)
abbrev t0 : Type := ((List Point) × (Nat → Int) × CtBox × (List Point) × (List SgLook) × Int × Bool × (List SgLook) × Bool × (List (Nat → Int)) × Bool × Int × SgMooring × SgLook × Int × Int × swing_mooring × SgLook × Point × Point × SgMooring × Int × Bool × (List SgLook) × Bool × (List (Nat → Int)) × Bool × SgMooring × SgLook × CtBox) ⊕ (Int × Int × (Nat → Int) × CtBox × (List Point) × (List SgLook) × Int × Bool × (List SgLook) × Bool × (List (Nat → Int)) × Bool × Int × SgMooring × SgLook × Int × Int × swing_mooring × SgLook × Point × SgMooring × Int × Bool × (List SgLook) × Bool × (List (Nat → Int)) × Bool × SgMooring × SgLook × CtBox)
abbrev vJ : Option (TV S) := some (.int .i64 0)
abbrev vI : Option (TV S) := some (.bool false)
abbrev vH : Option (TV S) := some (.sl (.st 2) [])
abbrev vG : Option (TV S) := some (.sl (.st 10) [])
abbrev oF : Option (TObj S) := some (.row 9 .str [] 1 1)
abbrev oE : Option (TObj S) := some (.row 9 .str [] 0 0)
abbrev oD : Option (TObj S) := some (.row 9 .str [] 1 0)
abbrev vC : Option (TV S) := some (.str ByteArray.empty)
abbrev oB : Option (TObj S) := some (.cells 153 [(.map 4)])
abbrev oA : Option (TObj S) := some (.row 46 (.st 2) [] 1 0)
abbrev oz : Option (TObj S) := some (.row 44 (.st 10) [] 1 2)
abbrev oy : Option (TObj S) := some (.row 44 (.st 10) [] 1 0)
abbrev ox : Option (TObj S) := some (.map .str (.int .i64) [])
abbrev ow : Option (TObj S) := some (.cells 3 [(.int .i64 0)])
abbrev ov : Option (TObj S) := some (.siter ByteArray.empty 0)
abbrev ou : Option (TObj S) := some (.cells 33 [(.int .i64 0)])
abbrev ot : Option (TObj S) := some (.row 3 (.int .i64) [] 1 0)
abbrev vs : Option (TV S) := some (.sl (.arr 5 (.int .u64)) [])
abbrev vr : Option (TV S) := some (.agg [(.stc 10 (T.dflt 10))])
abbrev vq : Option (TV S) := some (.agg [(.stc 15 (T.dflt 15))])
abbrev op : Option (TObj S) := some (.cells 32 [(.sl (.st 10) [])])
abbrev vo : Option (TV S) := some (.fn (.func 97) [] [(.ptr 5 0)])
abbrev on : Option (TObj S) := some (.cells 29 [(.stc 6 (T.dflt 6))])
abbrev om : Option (TObj S) := some (.cells 31 [(.stc 9 (T.dflt 9))])
abbrev ol : Option (TObj S) := some (.cells 79 [(.stc 7 (T.dflt 7))])
abbrev ok : Option (TObj S) := some (.cells 25 [(.stc 8 (T.dflt 8))])
abbrev oj : Option (TObj S) := some (.cells 46 [(.stc 2 (T.dflt 2))])
abbrev oi : Option (TObj S) := some (.cells 158 [(.stc 4 (T.dflt 4))])
abbrev vh : Option (TV S) := some (.fn (.func 135) [] [(.ptr 23 0)])
abbrev og : Option (TObj S) := some (.cells 184 [(.stc 3 (T.dflt 3))])
abbrev of : Option (TObj S) := some (.cells 75 [(.stc 13 (T.dflt 13))])
abbrev oe : Option (TObj S) := some (.cells 44 [(.stc 10 (T.dflt 10))])
abbrev od : Option (TObj S) := some (.cells 111 [(.stc 14 (T.dflt 14))])
abbrev oc : Option (TObj S) := some (.cells 179 [(.stc 17 (T.dflt 17))])
abbrev ob : Option (TObj S) := some (.cells 147 [(.stc 15 (T.dflt 15))])
abbrev va : Option (TV S) := some (.agg [(.int .i64 0), (.int .i64 0)])
abbrev o9 : Option (TObj S) := some (.cells 109 [(.arr (.int .u64) 5 (fun _ => tdf T (.int .u64)))])
abbrev o8 : Option (TObj S) := some (.cells 111 [.nils, .nils, (.int .i64 0), (.int .i64 0), (.int .i64 0), (.int .i64 0), (.int .i64 0), (.int .i64 0), (.int .i64 0), (.arr (.int .u64) 5 (fun _ => tdf T (.int .u64)))])
abbrev o7 : Option (TObj S) := some (.loop 76 (N (N (N L (some (.ptr 4 0)) L) (some (.ptr 0 0)) (N (N L (some (.fn (.func 108) [] [(.ptr 9 0)])) L) none L)) (some (.agg [(.stc 9 (T.dflt 9))])) (N L (some (.ptr 1 0)) L)) (10 :: (11 :: [])) .skip .skip 0 .normal (0 :: (76 :: [])) (0 :: (1 :: (0 :: (1 :: (1 :: []))))))
abbrev o6 : Option (TObj S) := some (.loop 107 (N (N (N L (some (.ptr 1 0)) L) vr L) (some (.agg [(.stc 14 (T.dflt 14))])) (N (N L (some (.ptr 2 0)) (N L (some (.fn (.func 108) [] [(.ptr 7 0)])) L)) (some (.ptr 0 0)) L)) (13 :: (14 :: [])) .skip .skip 0 .busy (0 :: (107 :: [])) (0 :: (1 :: (0 :: (1 :: [])))))
abbrev o5 : Option (TObj S) := some (.loop 107 (N (N (N L (some (.ptr 1 0)) L) vr L) (some (.agg [(.stc 14 (T.dflt 14))])) (N (N L (some (.ptr 2 0)) (N L (some (.fn (.func 108) [] [(.ptr 7 0)])) L)) (some (.ptr 0 0)) L)) (13 :: (14 :: [])) .skip .skip 0 .normal (0 :: (107 :: [])) (0 :: (1 :: (0 :: (1 :: [])))))
abbrev o4 : Option (TObj S) := some (.loop 21 (N (N (N (N L vs L) none (N (N L vI L) none (N L (some (.fn (.func 108) [] [(.ptr 25 0)])) L))) vG (N L vJ L)) (some (.agg [(.stc 9 (T.dflt 9))])) (N (N (N L (some (.ptr 20 0)) L) (some (.ptr 1 0)) L) (some (.ptr 0 0)) (N L (some (.ptr 10 0)) L))) (28 :: (29 :: [])) .skip .skip 0 .normal (0 :: (21 :: [])) (0 :: (1 :: (0 :: (1 :: (1 :: (1 :: (1 :: []))))))))
abbrev o3 : Option (TObj S) := some (.loop 107 (N (N (N L (some (.ptr 1 0)) L) vr (N (N (N L (some (.fn (.func 108) [] [(.ptr 45 0)])) L) none L) (some (.ptr 38 0)) (N L vJ L))) (some (.agg [(.stc 14 (T.dflt 14))])) (N (N L (some (.ptr 2 0)) (N L (some (.fn (.func 108) [] [(.ptr 7 0)])) L)) (some (.ptr 0 0)) (N L (some (.ptr 40 0)) (N L va L)))) (18 :: (19 :: [])) .skip .skip 2 .normal (2 :: (11 :: (5 :: (7 :: (108 :: (0 :: (107 :: []))))))) (0 :: (1 :: (0 :: (1 :: (0 :: (1 :: (0 :: (1 :: [])))))))))
abbrev o2 : Option (TObj S) := some (.loop 34 (N (N (N (N L vJ (N L vI L)) (some (.ptr 0 0)) L) vG (N (N (N (N L vI L) none L) vs (N (N L vI L) none L)) (some (.ptr 1 0)) L)) (some (.agg [(.stc 9 (T.dflt 9))])) (N (N (N L (some (.ptr 11 0)) L) none (N L none (N (N L (some (.fn (.func 108) [] [(.ptr 39 0)])) L) none L))) vr (N (N L (some (.ptr 31 0)) L) (some (.ptr 2 0)) L))) (45 :: (46 :: [])) .skip .skip 0 .busy (0 :: (34 :: [])) (0 :: (1 :: (0 :: (1 :: (1 :: (1 :: (1 :: (1 :: (1 :: []))))))))))
abbrev o1 : Option (TObj S) := some (.loop 34 (N (N (N (N L vJ (N L vI L)) (some (.ptr 0 0)) L) vG (N (N (N (N L vI L) none L) vs (N (N L vI L) none L)) (some (.ptr 1 0)) L)) (some (.agg [(.stc 9 (T.dflt 9))])) (N (N (N L (some (.ptr 11 0)) L) none (N L none (N (N L (some (.fn (.func 108) [] [(.ptr 39 0)])) L) none L))) vr (N (N L (some (.ptr 31 0)) L) (some (.ptr 2 0)) L))) (45 :: (46 :: [])) .skip .skip 0 .normal (0 :: (34 :: [])) (0 :: (1 :: (0 :: (1 :: (1 :: (1 :: (1 :: (1 :: (1 :: []))))))))))
abbrev o0 : Option (TObj S) := some (.loop 34 (N (N (N (N L vJ (N L vI L)) (some (.ptr 0 0)) L) vG (N (N (N (N L vI L) none (N L (some (.fn (.func 108) [] [(.ptr 78 0)])) L)) vs (N (N L vI L) none L)) (some (.ptr 1 0)) (N L none (N (N L vJ L) none L)))) (some (.agg [(.stc 9 (T.dflt 9))])) (N (N (N L (some (.ptr 11 0)) L) none (N L (some (.ptr 73 0)) (N (N L (some (.fn (.func 108) [] [(.ptr 39 0)])) L) none L))) vr (N (N L (some (.ptr 31 0)) L) (some (.ptr 2 0)) (N L none (N (N L va L) none L))))) (50 :: (51 :: [])) .skip .skip 2 .normal (2 :: (44 :: (5 :: (7 :: (108 :: (0 :: (34 :: []))))))) (0 :: (1 :: (0 :: (1 :: (0 :: (1 :: (0 :: (1 :: (1 :: (1 :: (1 :: (1 :: (1 :: []))))))))))))))
abbrev o1o : Tr (TObj S) := N (N L none (N L ot L)) none L
abbrev o1n : Tr (TObj S) := N L none (N (N L oD L) none L)
abbrev v1m : Tr (TV S) := N (N L none (N L vJ L)) none L
abbrev o1l : Tr (TObj S) := N (N (N L ot L) none L) none L
abbrev v1k : Tr (TV S) := N L none (N (N L vJ L) none L)
abbrev v1j : Tr (TV S) := N (N (N L vJ L) none L) none L
abbrev o1i : Tr (TObj S) := N (N (N L ov L) none L) none L
abbrev v1h : Tr (TV S) := N v1j none L
abbrev v1g : Tr (TV S) := N (N (N L vJ L) none L) none (N (N L vJ L) vJ L)
abbrev o1f : Tr (TObj S) := N (N L none (N L oB L)) ok (N (N L ox L) none L)
abbrev v1e : Tr (TV S) := N (N L none (N L vJ L)) none (N (N L vJ L) none L)
abbrev o1d : Tr (TObj S) := N (N (N (N L on L) none (N L o5 L)) oe L) od (N L o9 L)
abbrev o1c : Tr (TObj S) := N (N L o8 (N (N L on L) none (N L o7 L))) om (N (N L od L) none L)
abbrev o1b : Tr (TObj S) := N (N L none (N L oB (N (N L oi L) none L))) ok (N (N L ox L) none L)
abbrev o1a : Tr (TObj S) := N (N (N (N (N L oe L) none L) none (N (N L oe L) none L)) none L) op L
abbrev o19 : Tr (TObj S) := N (N L of L) om (N (N L oz (N (N L oy L) none L)) oe (N (N L oy L) none L))
abbrev v18 : Tr (TV S) := N (N (N L vJ L) (some (.ptr 7 0)) L) (some (.yld 11)) (N (N L vJ L) none L)
abbrev v17 : Tr (TV S) := N (N (N L vJ L) (some (.ptr 9 0)) L) (some (.yld 13)) (N (N L vJ L) none L)
abbrev v16 : Tr (TV S) := N (N (N L vJ L) (some (.ptr 39 0)) L) (some (.yld 44)) (N (N L vJ L) none L)
abbrev v15 : Tr (TV S) := N (N (N L vJ L) (some (.ptr 78 0)) L) (some (.yld 83)) (N (N L vJ L) none L)
abbrev v14 : Tr (TV S) := N (N (N L vJ L) (some (.ptr 25 0)) L) (some (.yld 30)) (N (N L vJ L) none L)
abbrev v13 : Tr (TV S) := N (N (N L vJ L) (some (.ptr 45 0)) L) (some (.yld 49)) (N (N L vJ L) none L)
abbrev o12 : Tr (TObj S) := N (N L none (N L oB L)) ok (N (N L ox L) none (N L none (N L none (N L ol L))))
abbrev o11 : Tr (TObj S) := N (N (N L none (N (N L (some (.row 109 (.arr 5 (.int .u64)) [] 1 0)) L) none L)) od L) om L
abbrev o10 : Tr (TObj S) := N (N (N L none (N L none (N (N L oE L) none L))) none (N L none (N (N L oF L) none L))) ok L
abbrev oZ : Tr (TObj S) := N (N L none (N L oB (N (N L oi L) none L))) ok (N (N L ox L) none (N (N (N L none (N L oA L)) none L) none L))
abbrev oY : Tr (TObj S) := N (N (N L ot L) none (N L none (N (N L ot L) none L))) none (N (N (N (N L ot L) none L) none (N L og L)) none L)
abbrev oX : Tr (TObj S) := N (N (N (N (N (N L oE L) none L) none L) none L) none (N L none (N (N L oi L) none L))) ok (N L none (N (N L oF L) none L))
abbrev oW : Tr (TObj S) := N (N L (some (.cells 37 [(.rs 36 0)])) (N (N L none (N L on L)) none L)) om (N (N L none (N (N (N L oA L) o9 L) none L)) none (N (N L od L) none (N L none (N L o4 L))))
abbrev oV : Tr (TObj S) := N (N L (some (.cells 37 [(.rs 46 0)])) (N (N L none (N L on L)) none L)) om (N (N L none (N (N L o9 L) none L)) none (N (N L od L) none (N L none (N (N L oA L) o4 L))))
abbrev oU : Tr (TObj S) := N (N (N L oj L) oe (N L none o1o)) od (N (N (N (N L oj L) none (N (N L ot L) none L)) none (N L none o1l)) oj L)
abbrev oT : Tr (TObj S) := N (N (N (N (N (N L o9 L) none L) none (N (N L on L) none L)) none (N (N L oy L) od L)) oe L) om (N (N L none (N L none (N (N L o1 L) none (N L oA L)))) (some (.cells 37 [(.rs 60 0)])) L)
abbrev oS : Tr (TObj S) := N o1a om (N (N (N L none (N L none (N L ot L))) none L) none (N o1o none (N L none (N L none (N L ot L)))))
abbrev oR : Tr (TObj S) := N (N (N (N L on L) none (N L o6 L)) oe (N (N (N L none (N L o3 L)) none L) none (N L none (N (N L on L) none L)))) od (N (N (N L none (N (N L oj L) none L)) none L) o9 (N L none (N (N (N L ow L) none L) none L)))
abbrev oQ : Tr (TObj S) := N (N (N (N (N (N L o9 L) none L) none (N (N L on L) none L)) none (N (N L oy L) od L)) oe L) om (N (N L none (N L none (N (N L o1 L) none L))) (some (.cells 37 [(.rs 50 0)])) (N (N (N L none (N L oA L)) none L) none L))
abbrev oP : Tr (TObj S) := N (N (N (N (N (N L o9 L) none L) none (N (N L on L) none L)) none (N (N L oy (N (N L o0 L) none L)) od L)) oe (N (N L none (N (N (N L oj L) none L) none (N (N L oA L) none L))) none L)) om (N (N L none (N L none (N (N L o2 L) none L))) (some (.cells 37 [(.rs 89 0)])) (N L none (N L none (N (N (N L on L) none L) none L))))
abbrev oO : Tr (TObj S) := N (N (N (N (N (N L o9 L) none L) none (N (N L on L) none L)) none (N (N (N L none (N L oA L)) oy (N (N L o0 L) none L)) od L)) oe (N (N L none (N (N (N L oj L) none L) none L)) none L)) om (N (N L none (N L none (N (N L o2 L) none L))) (some (.cells 37 [(.rs 99 0)])) (N L none (N L none (N (N (N L on L) none L) none L))))
abbrev oN : Tr (TObj S) := N (N (N (N L none (N L ob L)) none (N L none (N L (some (.loop 101 (N (N (N (N (N L vI L) none L) vJ L) (some (.ptr 0 0)) (N (N L none (N L vI L)) none L)) vq (N (N (N L vI L) none (N L none (N L vh L))) (some (.ptr 1 0)) L)) (29 :: []) .skip .skip 1 .normal (1 :: (101 :: [])) (0 :: (1 :: (0 :: (1 :: (1 :: (1 :: [])))))))) L))) ou L) ob (N L none (N L ot (N (N (N L oj L) none L) none L)))
abbrev oM : Tr (TObj S) := N (N (N (N L none (N L ob L)) none (N L none (N L (some (.loop 101 (N (N (N (N (N L vI L) none L) vJ L) (some (.ptr 0 0)) (N (N L none (N L vI L)) none L)) vq (N (N (N L vI L) none (N L none (N L vh L))) (some (.ptr 1 0)) L)) (29 :: []) .skip .skip 1 .busy (1 :: (101 :: [])) (0 :: (1 :: (0 :: (1 :: (1 :: (1 :: [])))))))) L))) ou L) ob (N (N (N (N L none (N L oj L)) none L) none L) none (N (N L none (N L none (N L oc L))) ot (N (N (N L oj L) none L) none L)))
abbrev oL : Tr (TObj S) := N (N (N (N L on L) none (N L o6 L)) oe (N (N (N L none (N L (some (.loop 107 (N (N (N L (some (.ptr 1 0)) L) vr (N (N (N L (some (.fn (.func 108) [] [(.ptr 45 0)])) L) none L) (some (.ptr 38 0)) (N L vJ L))) (some (.agg [(.stc 14 (T.dflt 14))])) (N (N L (some (.ptr 2 0)) (N L (some (.fn (.func 108) [] [(.ptr 7 0)])) L)) (some (.ptr 0 0)) (N L (some (.ptr 40 0)) (N L va L)))) (18 :: (19 :: [])) .skip .skip 2 (.exit 2) (2 :: (11 :: (5 :: (7 :: (108 :: (0 :: (107 :: []))))))) (0 :: (1 :: (0 :: (1 :: (0 :: (1 :: (0 :: (1 :: [])))))))))) L)) none L) none (N L none (N (N L on L) none L)))) od (N (N (N L none (N (N L oj L) none L)) none (N L none (N (N (N L oj L) none L) none L))) o9 (N L none (N (N (N L ow L) none L) none L)))
abbrev oK : Tr (TObj S) := N (N (N (N (N (N (N (N L (some (.row 46 (.st 2) [] 0 0)) L) none L) o9 L) none L) none (N (N L on L) none L)) none (N (N (N L none (N L (some (.row 46 (.st 2) [] 1 1)) L)) oy (N (N L (some (.loop 34 (N (N (N (N L vJ (N L vI L)) (some (.ptr 0 0)) L) vG (N (N (N (N L vI L) none (N L (some (.fn (.func 108) [] [(.ptr 78 0)])) L)) vs (N (N L vI L) none L)) (some (.ptr 1 0)) v1k)) (some (.agg [(.stc 9 (T.dflt 9))])) (N (N (N L (some (.ptr 11 0)) L) none (N L (some (.ptr 73 0)) (N (N L (some (.fn (.func 108) [] [(.ptr 39 0)])) L) none L))) vr (N (N L (some (.ptr 31 0)) L) (some (.ptr 2 0)) (N L none (N (N L va L) none L))))) (50 :: (51 :: [])) .skip .skip 2 (.exit 2) (2 :: (44 :: (5 :: (7 :: (108 :: (0 :: (34 :: []))))))) (0 :: (1 :: (0 :: (1 :: (0 :: (1 :: (0 :: (1 :: (1 :: (1 :: (1 :: (1 :: (1 :: []))))))))))))))) L) none L)) od L)) oe (N (N (N L none (N L none (N L oj L))) none (N (N (N L oj L) none L) none L)) none L)) om (N (N L none (N L none (N (N L o2 L) none L))) (some (.cells 37 [(.rs 99 1)])) (N L none (N L none (N (N (N L on L) none L) none L))))
noncomputable def q0 : List (Nat × F7 S) := []
theorem q1 : TabOk X (q0) := trivial
abbrev q2 {R : Type} : Loops S R := noLoops
theorem q3 {R : Type} : LoopsOk X (q2 (R := R)) := noLoops_ok X
def q4 : Key := ⟨[98], 98, none, [0, 0, 1, 0, 1, 1], 0, 4⟩
def q5 : StT S := ⟨(N (N (N (N L (some (.iter 3)) L) (some (.int .i32 0)) L) none L) vC L), o1i, 4⟩
def q6 : Way S := ⟨.ret, ⟨(N L none (N L vI L)), o1i, 23⟩, [.bool, .str, .nat]⟩
def q7 : Way S := ⟨(.exit 0), ⟨(N (N (N L (some (.int .i32 0)) L) none L) vC L), o1i, 6⟩, [.int, .str, .str, .nat]⟩
def q8 : LE S := ⟨q4, q5, [.int, .str, .str, .nat], [q6, q7]⟩
def q9 (x : tS) : ((Bool × Nat) ⊕ (Int × Nat)) → tD := Sum.elim (fun y0 => (.inl (y0.1, x.2.2.1, y0.2))) (fun y1 => (.inr (y1.1, x.2.1, x.2.2.1, y1.2)))
noncomputable def qa {R : Type} (x : tS) (k : tD → Option R) : Option R := (chart_Name_L0_run x.2.1 x.2.2.1 (x.1, x.2.2.2)).bind (Sum.elim (fun y0 => k (.inl (y0.1, x.2.2.1, y0.2))) (fun y1 => k (.inr (y1.1, x.2.1, x.2.2.1, y1.2))))
def qb (x : tS) (v : (Int × Nat)) : tS := (v.1, x.2.1, x.2.2.1, v.2)
theorem qc (x : tS) : LE.step X q8 q0 q2 12 x = chart_Name_L0_step x.2.1 x.2.2.1 x.1 x.2.2.2 (fun w0 w1 => (Sum.inl (w0, x.2.1, x.2.2.1, w1))) (fun p0 p1 => (Sum.inr (.inl (p0, x.2.2.1, p1)))) (fun p0 p1 => (Sum.inr (.inr (p0, x.2.1, x.2.2.1, p1)))):=by kernel_rfl
theorem qe {R : Type} (x : tS) (k : tD → Option R) (r : R) (h : qa x k = some r) : ∃ o, Runs (LE.step X q8 q0 q2 12) x o ∧ k o = some r := by
  obtain ⟨o, h1, h2⟩ := some_bind h
  exact ⟨q9 x o, small_ok (st := fun (x : tS) => chart_Name_L0_st x.2.1 x.2.2.1) (prj := fun x => (x.1, x.2.2.2)) (emb := qb) (embO := q9) (fun x => (qc x).trans (by unfold chart_Name_L0_st chart_Name_L0_step; simp only [map_cond,map_bindO,map_elim,Option.map_some,Option.map_none]; rfl)) (fun _ _ => rfl) (fun _ _ => rfl) (fun _ _ _ => rfl) (fun _ _ _ => rfl) (fun _ => rfl) (runOf_some.1 h1), by
    first
    | exact h2
    | (rcases o with o | o <;> exact h2)⟩
noncomputable def qf {R : Type} : Loops S R := LE.ls X q8 qa q2
theorem qg {R : Type} : LoopsOk X (qf (R := R)) := loop_ok xok q1 (e := q8) q3 qe q3
theorem qh (x0 : ByteArray) : evFn X q0 [.str] [.bool] qf 12 98 (x0, ()) = chart_Name x0:=by kernel_rfl
noncomputable def qi : F7 S := ⟨[.str], [.bool], fun xs => chart_Name xs.1⟩
theorem qj : FSOk X 98 qi := fsOk_eq (evFn_ok xok q1 qg 12 98) fun xs _ h => (qh xs.1).trans h
noncomputable def qk : List (Nat × F7 S) := []
theorem ql : TabOk X (qk) := trivial
abbrev qm {R : Type} : Loops S R := noLoops
theorem qn {R : Type} : LoopsOk X (qm (R := R)) := noLoops_ok X
def qo : Key := ⟨[127, 2, 1, 102, 2, 1, 124], 127, none, [0, 0, 1, 0, 1], 0, 17⟩
def qp : StT S := ⟨(N (N (N (N L vJ L) none L) (some (.fn (.func 138) [] [(.ptr 0 0), (.ptr 1 0)])) L) (some (.sl (.int .i64) [])) v1j), (N (N L ow L) ow L), 17⟩
def qq : Way S := ⟨.ret, ⟨v1k, (N (N L ow L) ow L), 38⟩, [.int, .int, .int]⟩
def qr : Way S := ⟨(.exit 0), ⟨L, (N (N L ow L) ow L), 18⟩, [.int, .int]⟩
def qs : LE S := ⟨qo, qp, [.int, (.lst (.int .i64)), .int, .int, .int], [qq, qr]⟩
def qt (x : tQ) : (Int ⊕ Unit) → tV := Sum.elim (fun y0 => (.inl (y0, x.2.2.2.1, x.2.2.2.2))) (fun y1 => (.inr (x.2.2.2.1, x.2.2.2.2)))
noncomputable def qu {R : Type} (x : tQ) (k : tV → Option R) : Option R := (chart_out_L0_run x.1 x.2.1 x.2.2.2.1 x.2.2.2.2 x.2.2.1).bind (Sum.elim (fun y0 => k (.inl (y0, x.2.2.2.1, x.2.2.2.2))) (fun y1 => k (.inr (x.2.2.2.1, x.2.2.2.2))))
def qv (x : tQ) (v : Int) : tQ := (x.1, x.2.1, v, x.2.2.2.1, x.2.2.2.2)
theorem qw (x : tQ) : LE.step X qs qk qm 12 x = chart_out_L0_step x.1 x.2.1 x.2.2.2.1 x.2.2.2.2 x.2.2.1 (fun w0 => (Sum.inl (x.1, x.2.1, w0, x.2.2.2.1, x.2.2.2.2))) (fun p0 => (Sum.inr (.inl (p0, x.2.2.2.1, x.2.2.2.2)))) (Sum.inr (.inr (x.2.2.2.1, x.2.2.2.2))):=by kernel_rfl
theorem qy {R : Type} (x : tQ) (k : tV → Option R) (r : R) (h : qu x k = some r) : ∃ o, Runs (LE.step X qs qk qm 12) x o ∧ k o = some r := by
  obtain ⟨o, h1, h2⟩ := some_bind h
  exact ⟨qt x o, small_ok (st := fun (x : tQ) => chart_out_L0_st x.1 x.2.1 x.2.2.2.1 x.2.2.2.2) (prj := fun x => x.2.2.1) (emb := qv) (embO := qt) (fun x => (qw x).trans (by unfold chart_out_L0_st chart_out_L0_step; simp only [map_cond,map_bindO,map_elim,Option.map_some,Option.map_none]; rfl)) (fun _ _ => rfl) (fun _ _ => rfl) (fun _ _ _ => rfl) (fun _ _ _ => rfl) (fun _ => rfl) (runOf_some.1 h1), by
    first
    | exact h2
    | (rcases o with o | o <;> exact h2)⟩
noncomputable def qz {R : Type} : Loops S R := LE.ls X qs qu qm
theorem qA {R : Type} : LoopsOk X (qz (R := R)) := loop_ok xok ql (e := qs) qn qy qn
theorem qB (x0 : Int) (x1 : Int) (x2 : List Int) : evFn X qk [(.int .i64), (.int .i64), (.sl (.int .i64))] [.bool] qz 12 124 (x0, x1, x2, ()) = chart_out x0 x1 x2:=by kernel_rfl
noncomputable def qC : F7 S := ⟨[(.int .i64), (.int .i64), (.sl (.int .i64))], [.bool], fun xs => chart_out xs.1 xs.2.1 xs.2.2.1⟩
theorem qD : FSOk X 124 qC := fsOk_eq (evFn_ok xok ql qA 12 124) fun xs _ h => (qB xs.1 xs.2.1 xs.2.2.1).trans h
noncomputable def qE : List (Nat × F7 S) := [(124, qC)]
theorem qF : TabOk X (qE) := ⟨qD, trivial⟩
abbrev qG {R : Type} : Loops S R := noLoops
theorem qH {R : Type} : LoopsOk X (qG (R := R)) := noLoops_ok X
def qI : Key := ⟨[137, 2, 1, 122, 2, 1, 99], 137, none, [0, 0, 1, 0, 1], 0, 16⟩
def qJ : StT S := ⟨(N (N (N (N L vJ L) none L) (some (.fn (.func 123) [] [(.ptr 0 0)])) L) vH v1j), (N L ow L), 16⟩
def qK : Way S := ⟨.ret, ⟨v1k, (N (N L none (N (N L none (N L oj L)) none L)) ow (N L none (N o1l none L))), 39⟩, [.int, (.st 2), .int, (.lst (.int .i64))]⟩
def qL : Way S := ⟨(.exit 0), ⟨L, (N L ow L), 17⟩, [.int]⟩
def qM : LE S := ⟨qI, qJ, [.int, (.lst (.st 2)), .int, .int], [qK, qL]⟩
def qN (x : tW) : ((Int × Point × (List Int)) ⊕ Unit) → ((Int × Point × Int × (List Int)) ⊕ Int) := Sum.elim (fun y0 => (.inl (y0.1, y0.2.1, x.2.2.2, y0.2.2))) (fun y1 => (.inr x.2.2.2))
noncomputable def qO {R : Type} (x : tW) (k : ((Int × Point × Int × (List Int)) ⊕ Int) → Option R) : Option R := (chart_far_L0_run x.1 x.2.1 x.2.2.2 x.2.2.1).bind (Sum.elim (fun y0 => k (.inl (y0.1, y0.2.1, x.2.2.2, y0.2.2))) (fun y1 => k (.inr x.2.2.2)))
def qP (x : tW) (v : Int) : tW := (x.1, x.2.1, v, x.2.2.2)
theorem qQ (x : tW) : LE.step X qM qE qG 12 x = chart_far_L0_step x.1 x.2.1 x.2.2.2 x.2.2.1 (fun w0 => (Sum.inl (x.1, x.2.1, w0, x.2.2.2))) (fun p0 p1 p2 => (Sum.inr (.inl (p0, p1, x.2.2.2, p2)))) (Sum.inr (.inr x.2.2.2)):=by kernel_rfl
theorem qS {R : Type} (x : tW) (k : ((Int × Point × Int × (List Int)) ⊕ Int) → Option R) (r : R) (h : qO x k = some r) : ∃ o, Runs (LE.step X qM qE qG 12) x o ∧ k o = some r := by
  obtain ⟨o, h1, h2⟩ := some_bind h
  exact ⟨qN x o, small_ok (st := fun (x : tW) => chart_far_L0_st x.1 x.2.1 x.2.2.2) (prj := fun x => x.2.2.1) (emb := qP) (embO := qN) (fun x => (qQ x).trans (by unfold chart_far_L0_st chart_far_L0_step; simp only [map_cond,map_bindO,map_elim,Option.map_some,Option.map_none]; rfl)) (fun _ _ => rfl) (fun _ _ => rfl) (fun _ _ _ => rfl) (fun _ _ _ => rfl) (fun _ => rfl) (runOf_some.1 h1), by
    first
    | exact h2
    | (rcases o with o | o <;> exact h2)⟩
noncomputable def qT {R : Type} : Loops S R := LE.ls X qM qO qG
theorem qU {R : Type} : LoopsOk X (qT (R := R)) := loop_ok xok qF (e := qM) qH qS qH
theorem qV (x0 : Int) (x1 : List Point) : evFn X qE [(.int .i64), (.sl (.st 2))] [.bool] qT 12 99 (x0, x1, ()) = chart_far x0 x1:=by kernel_rfl
noncomputable def qW : F7 S := ⟨[(.int .i64), (.sl (.st 2))], [.bool], fun xs => chart_far xs.1 xs.2.1⟩
theorem qX : FSOk X 99 qW := fsOk_eq (evFn_ok xok qF qU 12 99) fun xs _ h => (qV xs.1 xs.2.1).trans h
noncomputable def qY : List (Nat × F7 S) := [(124, qC)]
theorem qZ : TabOk X (qY) := ⟨qD, trivial⟩
abbrev q10 {R : Type} : Loops S R := noLoops
theorem q11 {R : Type} : LoopsOk X (q10 (R := R)) := noLoops_ok X
def q12 : Key := ⟨[100], 100, none, [0, 0, 1, 0, 1, 1, 1], 0, 9⟩
def q13 : StT S := ⟨(N (N (N L vJ (N L vJ L)) none L) none (N (N L none (N L vJ L)) none (N (N L (some (.sl (.st 3) [])) L) none L))), o1l, 9⟩
def q14 : Way S := ⟨.ret, ⟨(N L none (N L vJ L)), (N (N (N L ot L) none L) none (N (N (N (N L ot L) none L) none (N L og L)) none L)), 26⟩, [.int, (.lst (.int .i64)), (.lst (.int .i64)), (.st 3)]⟩
def q15 : Way S := ⟨.ret, ⟨(N L none (N L vJ L)), oY, 26⟩, [.int, (.lst (.int .i64)), (.lst (.int .i64)), (.lst (.int .i64)), (.st 3)]⟩
def q16 : Way S := ⟨.ret, ⟨(N L none (N L vJ L)), oY, 31⟩, [.int, (.lst (.int .i64)), (.lst (.int .i64)), (.lst (.int .i64)), (.st 3)]⟩
def q17 : Way S := ⟨(.exit 0), ⟨L, o1l, 10⟩, [(.lst (.int .i64))]⟩
def q18 : LE S := ⟨q12, q13, [.int, .int, .int, (.lst (.st 3)), (.lst (.int .i64))], [q14, q15, q16, q17]⟩
def q19 (x : tM) : ((Int × (List Int) × CtPaint) ⊕ (Int × (List Int) × (List Int) × CtPaint) ⊕ (Int × (List Int) × (List Int) × CtPaint) ⊕ Unit) → th := Sum.elim (fun y0 => (.inl (y0.1, x.2.2.2.2, y0.2.1, y0.2.2))) (Sum.elim (fun y1 => (.inr (.inl (y1.1, x.2.2.2.2, y1.2.1, y1.2.2.1, y1.2.2.2)))) (Sum.elim (fun y2 => (.inr (.inr (.inl (y2.1, x.2.2.2.2, y2.2.1, y2.2.2.1, y2.2.2.2))))) (fun y3 => (.inr (.inr (.inr x.2.2.2.2))))))
noncomputable def q1a {R : Type} (x : tM) (k : th → Option R) : Option R := (chart_paints_L0_run x.2.1 x.2.2.2.1 x.2.2.2.2 (x.1, x.2.2.1)).bind (Sum.elim (fun y0 => k (.inl (y0.1, x.2.2.2.2, y0.2.1, y0.2.2))) (Sum.elim (fun y1 => k (.inr (.inl (y1.1, x.2.2.2.2, y1.2.1, y1.2.2.1, y1.2.2.2)))) (Sum.elim (fun y2 => k (.inr (.inr (.inl (y2.1, x.2.2.2.2, y2.2.1, y2.2.2.1, y2.2.2.2))))) (fun y3 => k (.inr (.inr (.inr x.2.2.2.2)))))))
def q1b (x : tM) (v : (Int × Int)) : tM := (v.1, x.2.1, v.2, x.2.2.2.1, x.2.2.2.2)
theorem q1c (x : tM) : LE.step X q18 qY q10 12 x = chart_paints_L0_step x.2.1 x.2.2.2.1 x.2.2.2.2 x.1 x.2.2.1 (fun w0 w1 => (Sum.inl (w0, x.2.1, w1, x.2.2.2.1, x.2.2.2.2))) (fun p0 p1 p2 => (Sum.inr (.inl (p0, x.2.2.2.2, p1, p2)))) (fun p0 p1 p2 p3 => (Sum.inr (.inr (.inl (p0, x.2.2.2.2, p1, p2, p3))))) (fun p0 p1 p2 p3 => (Sum.inr (.inr (.inr (.inl (p0, x.2.2.2.2, p1, p2, p3)))))) (Sum.inr (.inr (.inr (.inr x.2.2.2.2)))):=by kernel_rfl
theorem q1e {R : Type} (x : tM) (k : th → Option R) (r : R) (h : q1a x k = some r) : ∃ o, Runs (LE.step X q18 qY q10 12) x o ∧ k o = some r := by
  obtain ⟨o, h1, h2⟩ := some_bind h
  exact ⟨q19 x o, small_ok (st := fun (x : tM) => chart_paints_L0_st x.2.1 x.2.2.2.1 x.2.2.2.2) (prj := fun x => (x.1, x.2.2.1)) (emb := q1b) (embO := q19) (fun x => (q1c x).trans (by unfold chart_paints_L0_st chart_paints_L0_step; simp only [map_cond,map_bindO,map_elim,Option.map_some,Option.map_none]; rfl)) (fun _ _ => rfl) (fun _ _ => rfl) (fun _ _ _ => rfl) (fun _ _ _ => rfl) (fun _ => rfl) (runOf_some.1 h1), by
    first
    | exact h2
    | (rcases o with o | o | o | o <;> exact h2)⟩
noncomputable def q1f {R : Type} : Loops S R := LE.ls X q18 q1a q10
theorem q1g {R : Type} : LoopsOk X (q1f (R := R)) := loop_ok xok qZ (e := q18) q11 q1e q11
theorem q1h (x0 : List CtPaint) : evFn X qY [(.sl (.st 3))] [(.int .i64)] q1f 12 100 (x0, ()) = chart_paints x0:=by kernel_rfl
noncomputable def q1i : F7 S := ⟨[(.sl (.st 3))], [(.int .i64)], fun xs => chart_paints xs.1⟩
theorem q1j : FSOk X 100 q1i := fsOk_eq (evFn_ok xok qZ q1g 12 100) fun xs _ h => (q1h xs.1).trans h
noncomputable def q1k : List (Nat × F7 S) := [(124, qC)]
theorem q1l : TabOk X (q1k) := ⟨qD, trivial⟩
abbrev q1m {R : Type} : Loops S R := noLoops
theorem q1n {R : Type} : LoopsOk X (q1m (R := R)) := noLoops_ok X
theorem q1o (x0 : CtBox) (x1 : Int) : evFn X q1k [(.st 6), (.int .i64)] [(.int .i64)] q1m 12 125 (x0, x1, ()) = chart_box x0 x1:=by kernel_rfl
noncomputable def q1p : F7 S := ⟨[(.st 6), (.int .i64)], [(.int .i64)], fun xs => chart_box xs.1 xs.2.1⟩
theorem q1q : FSOk X 125 q1p := fsOk_eq (evFn_ok xok q1l q1n 12 125) fun xs _ h => (q1o xs.1 xs.2.1).trans h
noncomputable def q1r : List (Nat × F7 S) := []
theorem q1s : TabOk X (q1r) := trivial
abbrev q1t {R : Type} : Loops S R := noLoops
theorem q1u {R : Type} : LoopsOk X (q1t (R := R)) := noLoops_ok X
theorem q1v (x0 : Point) (x1 : Point) : evFn X q1r [(.st 2), (.st 2)] [(.st 2)] q1t 12 120 (x0, x1, ()) = chart_from x0 x1:=by kernel_rfl
noncomputable def q1w : F7 S := ⟨[(.st 2), (.st 2)], [(.st 2)], fun xs => chart_from xs.1 xs.2.1⟩
theorem q1x : FSOk X 120 q1w := fsOk_eq (evFn_ok xok q1s q1u 12 120) fun xs _ h => (q1v xs.1 xs.2.1).trans h
noncomputable def q1y : List (Nat × F7 S) := []
theorem q1z : TabOk X (q1y) := trivial
abbrev q1A {R : Type} : Loops S R := noLoops
theorem q1B {R : Type} : LoopsOk X (q1A (R := R)) := noLoops_ok X
theorem q1C (x0 : Point) (x1 : Point) : evFn X q1y [(.st 2), (.st 2)] [(.int .i64)] q1A 12 126 (x0, x1, ()) = chart_left x0 x1:=by kernel_rfl
noncomputable def q1D : F7 S := ⟨[(.st 2), (.st 2)], [(.int .i64)], fun xs => chart_left xs.1 xs.2.1⟩
theorem q1E : FSOk X 126 q1D := fsOk_eq (evFn_ok xok q1z q1B 12 126) fun xs _ h => (q1C xs.1 xs.2.1).trans h
noncomputable def q1F : List (Nat × F7 S) := [(124, qC), (99, qW), (125, q1p), (120, q1w), (126, q1D)]
theorem q1G : TabOk X (q1F) := ⟨qD, qX, q1q, q1x, q1E, trivial⟩
abbrev q1H {R : Type} : Loops S R := noLoops
theorem q1I {R : Type} : LoopsOk X (q1H (R := R)) := noLoops_ok X
def q1J : Key := ⟨[27, 6, 4, 135, 1, 101], 101, (some 27), [0, 0, 1, 0, 1, 0, 1, 0, 1, 0, 1, 1, 1], 3, 66⟩
def q1K : StT S := ⟨(N (N L none (N v1j vJ L)) none (N (N (N (N (N L vH L) none L) none L) (some (.ptr 58 0)) L) (some (.ptr 1 0)) v1h)), oM, 66⟩
def q1L : Way S := ⟨(.exit 3), ⟨(N (N L none (N L vJ L)) none (N (N L (some (.ptr 58 0)) L) (some (.ptr 1 0)) L)), oM, 67⟩, [.int, (.st 15), .bool, .int, .bool, (.st 15), .bool, .int, (.st 15), (.st 2), (.st 17), (.lst (.int .i64)), (.st 2)]⟩
def q1M : LE S := ⟨q1J, q1K, [.int, .int, (.lst (.st 2)), .int, (.st 15), .bool, .int, .bool, (.st 15), .bool, .int, (.st 15), (.st 2), (.st 17), (.lst (.int .i64)), (.st 2)], [q1L]⟩
def q1N (x : tm) : Int → tt := fun y0 => (y0, x.2.2.2.2.1, x.2.2.2.2.2.1, x.2.2.2.2.2.2.1, x.2.2.2.2.2.2.2.1, x.2.2.2.2.2.2.2.2.1, x.2.2.2.2.2.2.2.2.2.1, x.2.2.2.2.2.2.2.2.2.2.1, x.2.2.2.2.2.2.2.2.2.2.2.1, x.2.2.2.2.2.2.2.2.2.2.2.2.1, x.2.2.2.2.2.2.2.2.2.2.2.2.2.1, x.2.2.2.2.2.2.2.2.2.2.2.2.2.2.1, x.2.2.2.2.2.2.2.2.2.2.2.2.2.2.2)
noncomputable def q1O {R : Type} (x : tm) (k : tt → Option R) : Option R := (chart_sand_check_L1_run x.1 x.2.2.1 x.2.2.2.2.1 x.2.2.2.2.2.1 x.2.2.2.2.2.2.1 x.2.2.2.2.2.2.2.1 x.2.2.2.2.2.2.2.2.1 x.2.2.2.2.2.2.2.2.2.1 x.2.2.2.2.2.2.2.2.2.2.1 x.2.2.2.2.2.2.2.2.2.2.2.1 x.2.2.2.2.2.2.2.2.2.2.2.2.1 x.2.2.2.2.2.2.2.2.2.2.2.2.2.1 x.2.2.2.2.2.2.2.2.2.2.2.2.2.2.1 x.2.2.2.2.2.2.2.2.2.2.2.2.2.2.2 (x.2.1, x.2.2.2.1)).bind (fun y0 => k (y0, x.2.2.2.2.1, x.2.2.2.2.2.1, x.2.2.2.2.2.2.1, x.2.2.2.2.2.2.2.1, x.2.2.2.2.2.2.2.2.1, x.2.2.2.2.2.2.2.2.2.1, x.2.2.2.2.2.2.2.2.2.2.1, x.2.2.2.2.2.2.2.2.2.2.2.1, x.2.2.2.2.2.2.2.2.2.2.2.2.1, x.2.2.2.2.2.2.2.2.2.2.2.2.2.1, x.2.2.2.2.2.2.2.2.2.2.2.2.2.2.1, x.2.2.2.2.2.2.2.2.2.2.2.2.2.2.2))
def q1P (x : tm) (v : (Int × Int)) : tm := (x.1, v.1, x.2.2.1, v.2, x.2.2.2.2.1, x.2.2.2.2.2.1, x.2.2.2.2.2.2.1, x.2.2.2.2.2.2.2.1, x.2.2.2.2.2.2.2.2.1, x.2.2.2.2.2.2.2.2.2.1, x.2.2.2.2.2.2.2.2.2.2.1, x.2.2.2.2.2.2.2.2.2.2.2.1, x.2.2.2.2.2.2.2.2.2.2.2.2.1, x.2.2.2.2.2.2.2.2.2.2.2.2.2.1, x.2.2.2.2.2.2.2.2.2.2.2.2.2.2.1, x.2.2.2.2.2.2.2.2.2.2.2.2.2.2.2)
theorem q1Q (x : tm) : LE.step X q1M q1F q1H 12 x = chart_sand_check_L1_step x.1 x.2.2.1 x.2.2.2.2.1 x.2.2.2.2.2.1 x.2.2.2.2.2.2.1 x.2.2.2.2.2.2.2.1 x.2.2.2.2.2.2.2.2.1 x.2.2.2.2.2.2.2.2.2.1 x.2.2.2.2.2.2.2.2.2.2.1 x.2.2.2.2.2.2.2.2.2.2.2.1 x.2.2.2.2.2.2.2.2.2.2.2.2.1 x.2.2.2.2.2.2.2.2.2.2.2.2.2.1 x.2.2.2.2.2.2.2.2.2.2.2.2.2.2.1 x.2.2.2.2.2.2.2.2.2.2.2.2.2.2.2 x.2.1 x.2.2.2.1 (fun w0 w1 => (Sum.inl (x.1, w0, x.2.2.1, w1, x.2.2.2.2.1, x.2.2.2.2.2.1, x.2.2.2.2.2.2.1, x.2.2.2.2.2.2.2.1, x.2.2.2.2.2.2.2.2.1, x.2.2.2.2.2.2.2.2.2.1, x.2.2.2.2.2.2.2.2.2.2.1, x.2.2.2.2.2.2.2.2.2.2.2.1, x.2.2.2.2.2.2.2.2.2.2.2.2.1, x.2.2.2.2.2.2.2.2.2.2.2.2.2.1, x.2.2.2.2.2.2.2.2.2.2.2.2.2.2.1, x.2.2.2.2.2.2.2.2.2.2.2.2.2.2.2))) (fun p0 => (Sum.inr (p0, x.2.2.2.2.1, x.2.2.2.2.2.1, x.2.2.2.2.2.2.1, x.2.2.2.2.2.2.2.1, x.2.2.2.2.2.2.2.2.1, x.2.2.2.2.2.2.2.2.2.1, x.2.2.2.2.2.2.2.2.2.2.1, x.2.2.2.2.2.2.2.2.2.2.2.1, x.2.2.2.2.2.2.2.2.2.2.2.2.1, x.2.2.2.2.2.2.2.2.2.2.2.2.2.1, x.2.2.2.2.2.2.2.2.2.2.2.2.2.2.1, x.2.2.2.2.2.2.2.2.2.2.2.2.2.2.2))):=by kernel_rfl
theorem q1S {R : Type} (x : tm) (k : tt → Option R) (r : R) (h : q1O x k = some r) : ∃ o, Runs (LE.step X q1M q1F q1H 12) x o ∧ k o = some r := by
  obtain ⟨o, h1, h2⟩ := some_bind h
  exact ⟨q1N x o, small_ok (st := fun (x : tm) => chart_sand_check_L1_st x.1 x.2.2.1 x.2.2.2.2.1 x.2.2.2.2.2.1 x.2.2.2.2.2.2.1 x.2.2.2.2.2.2.2.1 x.2.2.2.2.2.2.2.2.1 x.2.2.2.2.2.2.2.2.2.1 x.2.2.2.2.2.2.2.2.2.2.1 x.2.2.2.2.2.2.2.2.2.2.2.1 x.2.2.2.2.2.2.2.2.2.2.2.2.1 x.2.2.2.2.2.2.2.2.2.2.2.2.2.1 x.2.2.2.2.2.2.2.2.2.2.2.2.2.2.1 x.2.2.2.2.2.2.2.2.2.2.2.2.2.2.2) (prj := fun x => (x.2.1, x.2.2.2.1)) (emb := q1P) (embO := q1N) (fun x => (q1Q x).trans (by unfold chart_sand_check_L1_st chart_sand_check_L1_step; simp only [map_cond,map_bindO,map_elim,Option.map_some,Option.map_none]; rfl)) (fun _ _ => rfl) (fun _ _ => rfl) (fun _ _ _ => rfl) (fun _ _ _ => rfl) (fun _ => rfl) (runOf_some.1 h1), by
    first
    | exact h2
    | (rcases o with o <;> exact h2)⟩
noncomputable def q1T {R : Type} : Loops S R := LE.ls X q1M q1O q1H
theorem q1U {R : Type} : LoopsOk X (q1T (R := R)) := loop_ok xok q1G (e := q1M) q1I q1S q1I
def q1V : Key := ⟨[135, 1, 101], 135, none, [0, 0, 1, 1], 0, 45⟩
def q1W : StT S := ⟨(N (N (N L (some (.ptr 38 0)) (N (N L vJ L) none L)) none L) (some (.yld 27)) (N v1k none (N (N (N L vH L) none L) none L))), oN, 45⟩
def q1X : Way S := ⟨.ret, ⟨L, (N (N (N (N L none (N L ob L)) none (N L none (N L (some (.loop 101 (N (N (N (N (N L vI L) none L) vJ L) (some (.ptr 0 0)) (N (N L none (N L vI L)) none L)) vq (N (N (N L vI L) none (N L none (N L vh L))) (some (.ptr 1 0)) L)) (29 :: []) .skip .skip 1 .ret (1 :: (101 :: [])) (0 :: (1 :: (0 :: (1 :: (1 :: (1 :: [])))))))) L))) ou L) ob (N (N (N (N L none (N L oj L)) none L) none L) none (N (N L none (N L none (N L oc L))) ot (N (N (N L oj L) none L) none L)))), 76⟩, [(.st 15), .bool, .int, .bool, (.st 15), .bool, .int, (.st 15), (.st 2), (.st 17), (.lst (.int .i64)), (.st 2)]⟩
def q1Y : Way S := ⟨(.exit 0), ⟨L, oN, 46⟩, [(.st 15), .bool, .int, .bool, (.st 15), .bool, .int, (.st 15), (.lst (.int .i64)), (.st 2)]⟩
def q1Z : LE S := ⟨q1V, q1W, [.int, .int, (.lst (.st 2)), (.st 15), .bool, .int, .bool, (.st 15), .bool, .int, (.st 15), (.lst (.int .i64)), (.st 2)], [q1X, q1Y]⟩
def q20 (x : tu) : ((Int × Point × chart_side × Point) ⊕ Point) → tb := Sum.elim (fun y0 => (.inl (x.2.2.2.1, x.2.2.2.2.1, x.2.2.2.2.2.1, x.2.2.2.2.2.2.1, x.2.2.2.2.2.2.2.1, x.2.2.2.2.2.2.2.2.1, y0.1, x.2.2.2.2.2.2.2.2.2.2.1, y0.2.1, y0.2.2.1, x.2.2.2.2.2.2.2.2.2.2.2.1, y0.2.2.2))) (fun y1 => (.inr (x.2.2.2.1, x.2.2.2.2.1, x.2.2.2.2.2.1, x.2.2.2.2.2.2.1, x.2.2.2.2.2.2.2.1, x.2.2.2.2.2.2.2.2.1, x.2.2.2.2.2.2.2.2.2.1, x.2.2.2.2.2.2.2.2.2.2.1, x.2.2.2.2.2.2.2.2.2.2.2.1, y1)))
noncomputable def q21 {R : Type} (x : tu) (k : tb → Option R) : Option R := (chart_sand_check_L0_run x.1 x.2.2.1 x.2.2.2.1 x.2.2.2.2.1 x.2.2.2.2.2.1 x.2.2.2.2.2.2.1 x.2.2.2.2.2.2.2.1 x.2.2.2.2.2.2.2.2.1 x.2.2.2.2.2.2.2.2.2.1 x.2.2.2.2.2.2.2.2.2.2.1 x.2.2.2.2.2.2.2.2.2.2.2.1 (x.2.1, x.2.2.2.2.2.2.2.2.2.2.2.2)).bind (Sum.elim (fun y0 => k (.inl (x.2.2.2.1, x.2.2.2.2.1, x.2.2.2.2.2.1, x.2.2.2.2.2.2.1, x.2.2.2.2.2.2.2.1, x.2.2.2.2.2.2.2.2.1, y0.1, x.2.2.2.2.2.2.2.2.2.2.1, y0.2.1, y0.2.2.1, x.2.2.2.2.2.2.2.2.2.2.2.1, y0.2.2.2))) (fun y1 => k (.inr (x.2.2.2.1, x.2.2.2.2.1, x.2.2.2.2.2.1, x.2.2.2.2.2.2.1, x.2.2.2.2.2.2.2.1, x.2.2.2.2.2.2.2.2.1, x.2.2.2.2.2.2.2.2.2.1, x.2.2.2.2.2.2.2.2.2.2.1, x.2.2.2.2.2.2.2.2.2.2.2.1, y1))))
def q22 (x : tu) (v : (Int × Point)) : tu := (x.1, v.1, x.2.2.1, x.2.2.2.1, x.2.2.2.2.1, x.2.2.2.2.2.1, x.2.2.2.2.2.2.1, x.2.2.2.2.2.2.2.1, x.2.2.2.2.2.2.2.2.1, x.2.2.2.2.2.2.2.2.2.1, x.2.2.2.2.2.2.2.2.2.2.1, x.2.2.2.2.2.2.2.2.2.2.2.1, v.2)
theorem q23 (x : tu) : LE.step X q1Z q1F q1T 12 x = chart_sand_check_L0_step x.1 x.2.2.1 x.2.2.2.1 x.2.2.2.2.1 x.2.2.2.2.2.1 x.2.2.2.2.2.2.1 x.2.2.2.2.2.2.2.1 x.2.2.2.2.2.2.2.2.1 x.2.2.2.2.2.2.2.2.2.1 x.2.2.2.2.2.2.2.2.2.2.1 x.2.2.2.2.2.2.2.2.2.2.2.1 x.2.1 x.2.2.2.2.2.2.2.2.2.2.2.2 (fun w0 w1 => (Sum.inl (x.1, w0, x.2.2.1, x.2.2.2.1, x.2.2.2.2.1, x.2.2.2.2.2.1, x.2.2.2.2.2.2.1, x.2.2.2.2.2.2.2.1, x.2.2.2.2.2.2.2.2.1, x.2.2.2.2.2.2.2.2.2.1, x.2.2.2.2.2.2.2.2.2.2.1, x.2.2.2.2.2.2.2.2.2.2.2.1, w1))) (fun p0 p1 p2 p3 => (Sum.inr (.inl (x.2.2.2.1, x.2.2.2.2.1, x.2.2.2.2.2.1, x.2.2.2.2.2.2.1, x.2.2.2.2.2.2.2.1, x.2.2.2.2.2.2.2.2.1, p0, x.2.2.2.2.2.2.2.2.2.2.1, p1, p2, x.2.2.2.2.2.2.2.2.2.2.2.1, p3)))) (fun p0 => (Sum.inr (.inr (x.2.2.2.1, x.2.2.2.2.1, x.2.2.2.2.2.1, x.2.2.2.2.2.2.1, x.2.2.2.2.2.2.2.1, x.2.2.2.2.2.2.2.2.1, x.2.2.2.2.2.2.2.2.2.1, x.2.2.2.2.2.2.2.2.2.2.1, x.2.2.2.2.2.2.2.2.2.2.2.1, p0)))):=by kernel_rfl
theorem q25 {R : Type} (x : tu) (k : tb → Option R) (r : R) (h : q21 x k = some r) : ∃ o, Runs (LE.step X q1Z q1F q1T 12) x o ∧ k o = some r := by
  obtain ⟨o, h1, h2⟩ := some_bind h
  exact ⟨q20 x o, small_ok (st := fun (x : tu) => chart_sand_check_L0_st x.1 x.2.2.1 x.2.2.2.1 x.2.2.2.2.1 x.2.2.2.2.2.1 x.2.2.2.2.2.2.1 x.2.2.2.2.2.2.2.1 x.2.2.2.2.2.2.2.2.1 x.2.2.2.2.2.2.2.2.2.1 x.2.2.2.2.2.2.2.2.2.2.1 x.2.2.2.2.2.2.2.2.2.2.2.1) (prj := fun x => (x.2.1, x.2.2.2.2.2.2.2.2.2.2.2.2)) (emb := q22) (embO := q20) (fun x => (q23 x).trans (by unfold chart_sand_check_L0_st chart_sand_check_L0_step; simp only [map_cond,map_bindO,map_elim,Option.map_some,Option.map_none]; rfl)) (fun _ _ => rfl) (fun _ _ => rfl) (fun _ _ _ => rfl) (fun _ _ _ => rfl) (fun _ => rfl) (runOf_some.1 h1), by
    first
    | exact h2
    | (rcases o with o | o <;> exact h2)⟩
noncomputable def q26 {R : Type} : Loops S R := LE.ls X q1Z q21 q1T
theorem q27 {R : Type} : LoopsOk X (q26 (R := R)) := loop_ok xok q1G (e := q1Z) q1U q25 q1U
theorem q28 (x0 : chart_sand) : evFn X q1F [(.st 15)] [(.int .i64)] q26 12 101 (x0, ()) = chart_sand_check x0:=by kernel_rfl
noncomputable def q29 : F7 S := ⟨[(.st 15)], [(.int .i64)], fun xs => chart_sand_check xs.1⟩
theorem q2a : FSOk X 101 q29 := fsOk_eq (evFn_ok xok q1G q27 12 101) fun xs _ h => (q28 xs.1).trans h
noncomputable def q2b : List (Nat × F7 S) := [(98, qi), (99, qW), (100, q1i), (101, q29)]
theorem q2c : TabOk X (q2b) := ⟨qj, qX, q1j, q2a, trivial⟩
abbrev q2d {R : Type} : Loops S R := noLoops
theorem q2e {R : Type} : LoopsOk X (q2d (R := R)) := noLoops_ok X
def q2f : Key := ⟨[60], 60, none, [0, 0, 1, 0, 1, 1, 1, 1], 0, 17⟩
def q2g : StT S := ⟨(N (N v1k (some (.ptr 0 0)) L) none (N v1k none (N (N (N L (some (.sl (.st 4) [])) L) none L) vo L))), o1f, 17⟩
def q2h : Way S := ⟨.ret, ⟨v1g, o1b, 57⟩, [.int, .int, .int, (.st 4), (.st 8), (.mp .str (.int .i64))]⟩
def q2i : Way S := ⟨.ret, ⟨v1g, o1b, 62⟩, [.int, .int, .int, (.st 4), (.st 8), (.mp .str (.int .i64))]⟩
def q2j : Way S := ⟨.ret, ⟨v1g, oZ, 63⟩, [.int, .int, .int, (.st 4), (.st 8), (.mp .str (.int .i64)), (.lst (.st 2))]⟩
def q2k : Way S := ⟨.ret, ⟨v1g, oZ, 66⟩, [.int, .int, .int, (.st 4), (.st 8), (.mp .str (.int .i64)), (.lst (.st 2))]⟩
def q2l : Way S := ⟨(.exit 0), ⟨(N (N L (some (.ptr 0 0)) L) none (N L none (N L vo L))), o1f, 18⟩, [(.st 8), (.mp .str (.int .i64))]⟩
def q2m : LE S := ⟨q2f, q2g, [.int, .int, (.lst (.st 4)), (.st 8), (.mp .str (.int .i64))], [q2h, q2i, q2j, q2k, q2l]⟩
def q2n (x : tE) : ((Int × Int × Int × CtMark × t10) ⊕ (Int × Int × Int × CtMark × t10) ⊕ (Int × Int × Int × CtMark × t10 × (List Point)) ⊕ (Int × Int × Int × CtMark × t10 × (List Point)) ⊕ t10) → t3 := Sum.elim (fun y0 => (.inl (y0.1, y0.2.1, y0.2.2.1, y0.2.2.2.1, x.2.2.2.1, y0.2.2.2.2))) (Sum.elim (fun y1 => (.inr (.inl (y1.1, y1.2.1, y1.2.2.1, y1.2.2.2.1, x.2.2.2.1, y1.2.2.2.2)))) (Sum.elim (fun y2 => (.inr (.inr (.inl (y2.1, y2.2.1, y2.2.2.1, y2.2.2.2.1, x.2.2.2.1, y2.2.2.2.2.1, y2.2.2.2.2.2))))) (Sum.elim (fun y3 => (.inr (.inr (.inr (.inl (y3.1, y3.2.1, y3.2.2.1, y3.2.2.2.1, x.2.2.2.1, y3.2.2.2.2.1, y3.2.2.2.2.2)))))) (fun y4 => (.inr (.inr (.inr (.inr (x.2.2.2.1, y4)))))))))
noncomputable def q2o {R : Type} (x : tE) (k : t3 → Option R) : Option R := (chart_Check_L0_run x.1 x.2.2.1 x.2.2.2.1 (x.2.1, x.2.2.2.2)).bind (Sum.elim (fun y0 => k (.inl (y0.1, y0.2.1, y0.2.2.1, y0.2.2.2.1, x.2.2.2.1, y0.2.2.2.2))) (Sum.elim (fun y1 => k (.inr (.inl (y1.1, y1.2.1, y1.2.2.1, y1.2.2.2.1, x.2.2.2.1, y1.2.2.2.2)))) (Sum.elim (fun y2 => k (.inr (.inr (.inl (y2.1, y2.2.1, y2.2.2.1, y2.2.2.2.1, x.2.2.2.1, y2.2.2.2.2.1, y2.2.2.2.2.2))))) (Sum.elim (fun y3 => k (.inr (.inr (.inr (.inl (y3.1, y3.2.1, y3.2.2.1, y3.2.2.2.1, x.2.2.2.1, y3.2.2.2.2.1, y3.2.2.2.2.2)))))) (fun y4 => k (.inr (.inr (.inr (.inr (x.2.2.2.1, y4))))))))))
def q2p (x : tE) (v : (Int × t10)) : tE := (x.1, v.1, x.2.2.1, x.2.2.2.1, v.2)
theorem q2q (x : tE) : LE.step X q2m q2b q2d 12 x = chart_Check_L0_step x.1 x.2.2.1 x.2.2.2.1 x.2.1 x.2.2.2.2 (fun w0 w1 => (Sum.inl (x.1, w0, x.2.2.1, x.2.2.2.1, w1))) (fun p0 p1 p2 p3 p4 => (Sum.inr (.inl (p0, p1, p2, p3, x.2.2.2.1, p4)))) (fun p0 p1 p2 p3 p4 => (Sum.inr (.inr (.inl (p0, p1, p2, p3, x.2.2.2.1, p4))))) (fun p0 p1 p2 p3 p4 p5 => (Sum.inr (.inr (.inr (.inl (p0, p1, p2, p3, x.2.2.2.1, p4, p5)))))) (fun p0 p1 p2 p3 p4 p5 => (Sum.inr (.inr (.inr (.inr (.inl (p0, p1, p2, p3, x.2.2.2.1, p4, p5))))))) (fun p0 => (Sum.inr (.inr (.inr (.inr (.inr (x.2.2.2.1, p0))))))):=by kernel_rfl
theorem q2s {R : Type} (x : tE) (k : t3 → Option R) (r : R) (h : q2o x k = some r) : ∃ o, Runs (LE.step X q2m q2b q2d 12) x o ∧ k o = some r := by
  obtain ⟨o, h1, h2⟩ := some_bind h
  exact ⟨q2n x o, small_ok (st := fun (x : tE) => chart_Check_L0_st x.1 x.2.2.1 x.2.2.2.1) (prj := fun x => (x.2.1, x.2.2.2.2)) (emb := q2p) (embO := q2n) (fun x => (q2q x).trans (by unfold chart_Check_L0_st chart_Check_L0_step; simp only [map_cond,map_bindO,map_elim,Option.map_some,Option.map_none]; rfl)) (fun _ _ => rfl) (fun _ _ => rfl) (fun _ _ _ => rfl) (fun _ _ _ => rfl) (fun _ => rfl) (runOf_some.1 h1), by
    first
    | exact h2
    | (rcases o with o | o | o | o | o <;> exact h2)⟩
noncomputable def q2t {R : Type} : Loops S R := LE.ls X q2m q2o q2d
theorem q2u {R : Type} : LoopsOk X (q2t (R := R)) := loop_ok xok q2c (e := q2m) q2e q2s q2e
def q2v : Key := ⟨[60], 60, none, [0, 0, 1, 0, 1, 1, 1, 1, 1, 1], 2, 26⟩
def q2w : StT S := ⟨(N (N L none (N L none v1m)) none (N (N L none (N (N L none (N L (some (.sl (.st 7) [])) L)) none L)) none (N L vo v1m))), o1f, 26⟩
def q2x : Way S := ⟨.ret, ⟨v1g, o12, 58⟩, [.int, .int, .int, (.st 8), (.mp .str (.int .i64)), (.st 7)]⟩
def q2y : Way S := ⟨.ret, ⟨v1g, o12, 63⟩, [.int, .int, .int, (.st 8), (.mp .str (.int .i64)), (.st 7)]⟩
def q2z : Way S := ⟨.ret, ⟨v1g, o12, 67⟩, [.int, .int, .int, (.st 8), (.mp .str (.int .i64)), (.st 7)]⟩
def q2A : Way S := ⟨(.exit 2), ⟨L, o1f, 27⟩, [(.st 8), (.mp .str (.int .i64))]⟩
def q2B : LE S := ⟨q2v, q2w, [.int, (.lst (.st 7)), .int, (.st 8), (.mp .str (.int .i64))], [q2x, q2y, q2z, q2A]⟩
def q2C (x : tF) : (tK ⊕ tK ⊕ tK ⊕ t10) → t9 := Sum.elim (fun y0 => (.inl (y0.1, y0.2.1, y0.2.2.1, x.2.2.2.1, y0.2.2.2.1, y0.2.2.2.2))) (Sum.elim (fun y1 => (.inr (.inl (y1.1, y1.2.1, y1.2.2.1, x.2.2.2.1, y1.2.2.2.1, y1.2.2.2.2)))) (Sum.elim (fun y2 => (.inr (.inr (.inl (y2.1, y2.2.1, y2.2.2.1, x.2.2.2.1, y2.2.2.2.1, y2.2.2.2.2))))) (fun y3 => (.inr (.inr (.inr (x.2.2.2.1, y3)))))))
noncomputable def q2D {R : Type} (x : tF) (k : t9 → Option R) : Option R := (chart_Check_L1_run x.1 x.2.1 x.2.2.2.1 (x.2.2.1, x.2.2.2.2)).bind (Sum.elim (fun y0 => k (.inl (y0.1, y0.2.1, y0.2.2.1, x.2.2.2.1, y0.2.2.2.1, y0.2.2.2.2))) (Sum.elim (fun y1 => k (.inr (.inl (y1.1, y1.2.1, y1.2.2.1, x.2.2.2.1, y1.2.2.2.1, y1.2.2.2.2)))) (Sum.elim (fun y2 => k (.inr (.inr (.inl (y2.1, y2.2.1, y2.2.2.1, x.2.2.2.1, y2.2.2.2.1, y2.2.2.2.2))))) (fun y3 => k (.inr (.inr (.inr (x.2.2.2.1, y3))))))))
def q2E (x : tF) (v : (Int × t10)) : tF := (x.1, x.2.1, v.1, x.2.2.2.1, v.2)
theorem q2F (x : tF) : LE.step X q2B q2b q2t 12 x = chart_Check_L1_step x.1 x.2.1 x.2.2.2.1 x.2.2.1 x.2.2.2.2 (fun w0 w1 => (Sum.inl (x.1, x.2.1, w0, x.2.2.2.1, w1))) (fun p0 p1 p2 p3 p4 => (Sum.inr (.inl (p0, p1, p2, x.2.2.2.1, p3, p4)))) (fun p0 p1 p2 p3 p4 => (Sum.inr (.inr (.inl (p0, p1, p2, x.2.2.2.1, p3, p4))))) (fun p0 p1 p2 p3 p4 => (Sum.inr (.inr (.inr (.inl (p0, p1, p2, x.2.2.2.1, p3, p4)))))) (fun p0 => (Sum.inr (.inr (.inr (.inr (x.2.2.2.1, p0)))))):=by kernel_rfl
theorem q2H {R : Type} (x : tF) (k : t9 → Option R) (r : R) (h : q2D x k = some r) : ∃ o, Runs (LE.step X q2B q2b q2t 12) x o ∧ k o = some r := by
  obtain ⟨o, h1, h2⟩ := some_bind h
  exact ⟨q2C x o, small_ok (st := fun (x : tF) => chart_Check_L1_st x.1 x.2.1 x.2.2.2.1) (prj := fun x => (x.2.2.1, x.2.2.2.2)) (emb := q2E) (embO := q2C) (fun x => (q2F x).trans (by unfold chart_Check_L1_st chart_Check_L1_step; simp only [map_cond,map_bindO,map_elim,Option.map_some,Option.map_none]; rfl)) (fun _ _ => rfl) (fun _ _ => rfl) (fun _ _ _ => rfl) (fun _ _ _ => rfl) (fun _ => rfl) (runOf_some.1 h1), by
    first
    | exact h2
    | (rcases o with o | o | o | o <;> exact h2)⟩
noncomputable def q2I {R : Type} : Loops S R := LE.ls X q2B q2D q2t
theorem q2J {R : Type} : LoopsOk X (q2I (R := R)) := loop_ok xok q2c (e := q2B) q2u q2H q2u
theorem q2K (x0 : CtChart) : evFn X q2b [(.st 8)] [(.int .i64), (.int .i64), (.int .i64)] q2I 12 60 (x0, ()) = chart_Check x0:=by kernel_rfl
noncomputable def q2L : F7 S := ⟨[(.st 8)], [(.int .i64), (.int .i64), (.int .i64)], fun xs => chart_Check xs.1⟩
theorem q2M : FSOk X 60 q2L := fsOk_eq (evFn_ok xok q2c q2J 12 60) fun xs _ h => (q2K xs.1).trans h
noncomputable def q2N : List (Nat × F7 S) := []
theorem q2O : TabOk X (q2N) := trivial
abbrev q2P {R : Type} : Loops S R := noLoops
theorem q2Q {R : Type} : LoopsOk X (q2P (R := R)) := noLoops_ok X
def q2R : Key := ⟨[127, 2, 1, 102, 2, 1, 62], 127, none, [0, 0, 1, 0, 1], 0, 17⟩
def q2S : StT S := ⟨(N (N (N (N L vJ L) none L) (some (.fn (.func 103) [] [(.ptr 0 0), (.ptr 1 0)])) L) (some (.sl (.int .i64) [])) v1j), (N (N L ow L) ow L), 17⟩
def q2T : Way S := ⟨.ret, ⟨v1k, (N (N L ow L) ow L), 38⟩, [.int, .int, .int]⟩
def q2U : Way S := ⟨(.exit 0), ⟨L, (N (N L ow L) ow L), 18⟩, [.int, .int]⟩
def q2V : LE S := ⟨q2R, q2S, [.int, (.lst (.int .i64)), .int, .int, .int], [q2T, q2U]⟩
def q2W (x : tQ) : (Int ⊕ Unit) → tV := Sum.elim (fun y0 => (.inl (y0, x.2.2.2.1, x.2.2.2.2))) (fun y1 => (.inr (x.2.2.2.1, x.2.2.2.2)))
noncomputable def q2X {R : Type} (x : tQ) (k : tV → Option R) : Option R := (swing_outside_L0_run x.1 x.2.1 x.2.2.2.1 x.2.2.2.2 x.2.2.1).bind (Sum.elim (fun y0 => k (.inl (y0, x.2.2.2.1, x.2.2.2.2))) (fun y1 => k (.inr (x.2.2.2.1, x.2.2.2.2))))
def q2Y (x : tQ) (v : Int) : tQ := (x.1, x.2.1, v, x.2.2.2.1, x.2.2.2.2)
theorem q2Z (x : tQ) : LE.step X q2V q2N q2P 12 x = swing_outside_L0_step x.1 x.2.1 x.2.2.2.1 x.2.2.2.2 x.2.2.1 (fun w0 => (Sum.inl (x.1, x.2.1, w0, x.2.2.2.1, x.2.2.2.2))) (fun p0 => (Sum.inr (.inl (p0, x.2.2.2.1, x.2.2.2.2)))) (Sum.inr (.inr (x.2.2.2.1, x.2.2.2.2))):=by kernel_rfl
theorem q31 {R : Type} (x : tQ) (k : tV → Option R) (r : R) (h : q2X x k = some r) : ∃ o, Runs (LE.step X q2V q2N q2P 12) x o ∧ k o = some r := by
  obtain ⟨o, h1, h2⟩ := some_bind h
  exact ⟨q2W x o, small_ok (st := fun (x : tQ) => swing_outside_L0_st x.1 x.2.1 x.2.2.2.1 x.2.2.2.2) (prj := fun x => x.2.2.1) (emb := q2Y) (embO := q2W) (fun x => (q2Z x).trans (by unfold swing_outside_L0_st swing_outside_L0_step; simp only [map_cond,map_bindO,map_elim,Option.map_some,Option.map_none]; rfl)) (fun _ _ => rfl) (fun _ _ => rfl) (fun _ _ _ => rfl) (fun _ _ _ => rfl) (fun _ => rfl) (runOf_some.1 h1), by
    first
    | exact h2
    | (rcases o with o | o <;> exact h2)⟩
noncomputable def q32 {R : Type} : Loops S R := LE.ls X q2V q2X q2P
theorem q33 {R : Type} : LoopsOk X (q32 (R := R)) := loop_ok xok q2O (e := q2V) q2Q q31 q2Q
theorem q34 (x0 : Int) (x1 : Int) (x2 : List Int) : evFn X q2N [(.int .i64), (.int .i64), (.sl (.int .i64))] [.bool] q32 12 62 (x0, x1, x2, ()) = swing_outside x0 x1 x2:=by kernel_rfl
noncomputable def q35 : F7 S := ⟨[(.int .i64), (.int .i64), (.sl (.int .i64))], [.bool], fun xs => swing_outside xs.1 xs.2.1 xs.2.2.1⟩
theorem q36 : FSOk X 62 q35 := fsOk_eq (evFn_ok xok q2O q33 12 62) fun xs _ h => (q34 xs.1 xs.2.1 xs.2.2.1).trans h
noncomputable def q37 : List (Nat × F7 S) := [(62, q35)]
theorem q38 : TabOk X (q37) := ⟨q36, trivial⟩
abbrev q39 {R : Type} : Loops S R := noLoops
theorem q3a {R : Type} : LoopsOk X (q39 (R := R)) := noLoops_ok X
theorem q3b (x0 : CtBox) : evFn X q37 [(.st 6)] [(.int .i64)] q39 12 61 (x0, ()) = swing_box x0:=by kernel_rfl
noncomputable def q3c : F7 S := ⟨[(.st 6)], [(.int .i64)], fun xs => swing_box xs.1⟩
theorem q3d : FSOk X 61 q3c := fsOk_eq (evFn_ok xok q38 q3a 12 61) fun xs _ h => (q3b xs.1).trans h
noncomputable def q3e : List (Nat × F7 S) := [(60, q2L), (61, q3c), (62, q35)]
theorem q3f : TabOk X (q3e) := ⟨q2M, q3d, q36, trivial⟩
abbrev q3g {R : Type} : Loops S R := noLoops
theorem q3h {R : Type} : LoopsOk X (q3g (R := R)) := noLoops_ok X
theorem q3i (x0 : SgMooring) : evFn X q3e [(.st 9)] [(.int .i64), (.int .i64)] q3g 12 17 (x0, ()) = swing_Check x0:=by kernel_rfl
noncomputable def q3j : F7 S := ⟨[(.st 9)], [(.int .i64), (.int .i64)], fun xs => swing_Check xs.1⟩
theorem q3k : FSOk X 17 q3j := fsOk_eq (evFn_ok xok q3f q3h 12 17) fun xs _ h => (q3i xs.1).trans h
noncomputable def q3l : List (Nat × F7 S) := []
theorem q3m : TabOk X (q3l) := trivial
abbrev q3n {R : Type} : Loops S R := noLoops
theorem q3o {R : Type} : LoopsOk X (q3n (R := R)) := noLoops_ok X
theorem q3p (x0 : Int) (x1 : Int) (x2 : Int) : evFn X q3l [(.int .i64), (.int .i64), (.int .i64)] [.bool] q3n 12 113 (x0, x1, x2, ()) = ref01_in x0 x1 x2:=by kernel_rfl
noncomputable def q3q : F7 S := ⟨[(.int .i64), (.int .i64), (.int .i64)], [.bool], fun xs => ref01_in xs.1 xs.2.1 xs.2.2.1⟩
theorem q3r : FSOk X 113 q3q := fsOk_eq (evFn_ok xok q3m q3o 12 113) fun xs _ h => (q3p xs.1 xs.2.1 xs.2.2.1).trans h
noncomputable def q3s : List (Nat × F7 S) := [(113, q3q)]
theorem q3t : TabOk X (q3s) := ⟨q3r, trivial⟩
abbrev q3u {R : Type} : Loops S R := noLoops
theorem q3v {R : Type} : LoopsOk X (q3u (R := R)) := noLoops_ok X
def q3w : Key := ⟨[128], 128, none, [0, 0, 1, 0, 1, 1], 0, 6⟩
def q3x : StT S := ⟨(N (N (N L vJ L) none L) vC L), L, 6⟩
def q3y : Way S := ⟨.ret, ⟨(N L none (N L vI L)), L, 43⟩, [.bool]⟩
def q3z : Way S := ⟨(.exit 0), ⟨L, L, 10⟩, []⟩
def q3A : LE S := ⟨q3w, q3x, [.int, .str], [q3y, q3z]⟩
def q3B (x : (Int × ByteArray)) : (Bool ⊕ Unit) → (Bool ⊕ Unit) := Sum.elim (fun y0 => (.inl y0)) (fun y1 => (.inr ()))
noncomputable def q3C {R : Type} (x : (Int × ByteArray)) (k : (Bool ⊕ Unit) → Option R) : Option R := (ref01_Name_L0_run x.2 x.1).bind (Sum.elim (fun y0 => k (.inl y0)) (fun y1 => k (.inr ())))
def q3D (x : (Int × ByteArray)) (v : Int) : (Int × ByteArray) := (v, x.2)
theorem q3E (x : (Int × ByteArray)) : LE.step X q3A q3s q3u 12 x = ref01_Name_L0_step x.2 x.1 (fun w0 => (Sum.inl (w0, x.2))) (fun p0 => (Sum.inr (.inl p0))) (Sum.inr (.inr ())):=by kernel_rfl
theorem q3G {R : Type} (x : (Int × ByteArray)) (k : (Bool ⊕ Unit) → Option R) (r : R) (h : q3C x k = some r) : ∃ o, Runs (LE.step X q3A q3s q3u 12) x o ∧ k o = some r := by
  obtain ⟨o, h1, h2⟩ := some_bind h
  exact ⟨q3B x o, small_ok (st := fun (x : (Int × ByteArray)) => ref01_Name_L0_st x.2) (prj := fun x => x.1) (emb := q3D) (embO := q3B) (fun x => (q3E x).trans (by unfold ref01_Name_L0_st ref01_Name_L0_step; simp only [map_cond,map_bindO,map_elim,Option.map_some,Option.map_none]; rfl)) (fun _ _ => rfl) (fun _ _ => rfl) (fun _ _ _ => rfl) (fun _ _ _ => rfl) (fun _ => rfl) (runOf_some.1 h1), by
    first
    | exact h2
    | (rcases o with o | o <;> exact h2)⟩
noncomputable def q3H {R : Type} : Loops S R := LE.ls X q3A q3C q3u
theorem q3I {R : Type} : LoopsOk X (q3H (R := R)) := loop_ok xok q3t (e := q3A) q3v q3G q3v
theorem q3J (x0 : ByteArray) : evFn X q3s [.str] [.bool] q3H 12 128 (x0, ()) = ref01_Name x0:=by kernel_rfl
noncomputable def q3K : F7 S := ⟨[.str], [.bool], fun xs => ref01_Name xs.1⟩
theorem q3L : FSOk X 128 q3K := fsOk_eq (evFn_ok xok q3t q3I 12 128) fun xs _ h => (q3J xs.1).trans h
noncomputable def q3M : List (Nat × F7 S) := []
theorem q3N : TabOk X (q3M) := trivial
abbrev q3O {R : Type} : Loops S R := noLoops
theorem q3P {R : Type} : LoopsOk X (q3O (R := R)) := noLoops_ok X
def q3Q : Key := ⟨[129], 129, none, [0, 0, 1, 0, 1], 0, 2⟩
def q3R : StT S := ⟨(N (N L vC (N L vJ L)) (some (.sl .str [])) L), L, 2⟩
def q3S : Way S := ⟨.ret, ⟨v1k, L, 14⟩, [.int]⟩
def q3T : Way S := ⟨(.exit 0), ⟨L, L, 6⟩, []⟩
def q3U : LE S := ⟨q3Q, q3R, [.str, .int, (.lst .str)], [q3S, q3T]⟩
def q3V (x : tR) : (Int ⊕ Unit) → (Int ⊕ Unit) := Sum.elim (fun y0 => (.inl y0)) (fun y1 => (.inr ()))
noncomputable def q3W {R : Type} (x : tR) (k : (Int ⊕ Unit) → Option R) : Option R := (ref01_Place_L0_run x.1 x.2.2 x.2.1).bind (Sum.elim (fun y0 => k (.inl y0)) (fun y1 => k (.inr ())))
def q3X (x : tR) (v : Int) : tR := (x.1, v, x.2.2)
theorem q3Y (x : tR) : LE.step X q3U q3M q3O 12 x = ref01_Place_L0_step x.1 x.2.2 x.2.1 (fun w0 => (Sum.inl (x.1, w0, x.2.2))) (fun p0 => (Sum.inr (.inl p0))) (Sum.inr (.inr ())):=by kernel_rfl
theorem q40 {R : Type} (x : tR) (k : (Int ⊕ Unit) → Option R) (r : R) (h : q3W x k = some r) : ∃ o, Runs (LE.step X q3U q3M q3O 12) x o ∧ k o = some r := by
  obtain ⟨o, h1, h2⟩ := some_bind h
  exact ⟨q3V x o, small_ok (st := fun (x : tR) => ref01_Place_L0_st x.1 x.2.2) (prj := fun x => x.2.1) (emb := q3X) (embO := q3V) (fun x => (q3Y x).trans (by unfold ref01_Place_L0_st ref01_Place_L0_step; simp only [map_cond,map_bindO,map_elim,Option.map_some,Option.map_none]; rfl)) (fun _ _ => rfl) (fun _ _ => rfl) (fun _ _ _ => rfl) (fun _ _ _ => rfl) (fun _ => rfl) (runOf_some.1 h1), by
    first
    | exact h2
    | (rcases o with o | o <;> exact h2)⟩
noncomputable def q41 {R : Type} : Loops S R := LE.ls X q3U q3W q3O
theorem q42 {R : Type} : LoopsOk X (q41 (R := R)) := loop_ok xok q3N (e := q3U) q3P q40 q3P
theorem q43 (x0 : List ByteArray) (x1 : ByteArray) : evFn X q3M [(.sl .str), .str] [(.int .i64)] q41 12 129 (x0, x1, ()) = ref01_Place x0 x1:=by kernel_rfl
noncomputable def q44 : F7 S := ⟨[(.sl .str), .str], [(.int .i64)], fun xs => ref01_Place xs.1 xs.2.1⟩
theorem q45 : FSOk X 129 q44 := fsOk_eq (evFn_ok xok q3N q42 12 129) fun xs _ h => (q43 xs.1 xs.2.1).trans h
noncomputable def q46 : List (Nat × F7 S) := [(128, q3K), (129, q44)]
theorem q47 : TabOk X (q46) := ⟨q3L, q45, trivial⟩
abbrev q48 {R : Type} : Loops S R := noLoops
theorem q49 {R : Type} : LoopsOk X (q48 (R := R)) := noLoops_ok X
theorem q4a (x0 : ByteArray) (x1 : List ByteArray) : evFn X q46 [.str, (.sl .str)] [(.int .i64)] q48 12 104 (x0, x1, ()) = ref01_Fresh x0 x1:=by kernel_rfl
noncomputable def q4b : F7 S := ⟨[.str, (.sl .str)], [(.int .i64)], fun xs => ref01_Fresh xs.1 xs.2.1⟩
theorem q4c : FSOk X 104 q4b := fsOk_eq (evFn_ok xok q47 q49 12 104) fun xs _ h => (q4a xs.1 xs.2.1).trans h
noncomputable def q4d : List (Nat × F7 S) := [(113, q3q)]
theorem q4e : TabOk X (q4d) := ⟨q3r, trivial⟩
abbrev q4f {R : Type} : Loops S R := noLoops
theorem q4g {R : Type} : LoopsOk X (q4f (R := R)) := noLoops_ok X
theorem q4h (x0 : Point) (x1 : Int) : evFn X q4d [(.st 2), (.int .i64)] [.bool] q4f 12 78 (x0, x1, ()) = ref01_Within x0 x1:=by kernel_rfl
noncomputable def q4i : F7 S := ⟨[(.st 2), (.int .i64)], [.bool], fun xs => ref01_Within xs.1 xs.2.1⟩
theorem q4j : FSOk X 78 q4i := fsOk_eq (evFn_ok xok q4e q4g 12 78) fun xs _ h => (q4h xs.1 xs.2.1).trans h
noncomputable def q4k : List (Nat × F7 S) := [(113, q3q)]
theorem q4l : TabOk X (q4k) := ⟨q3r, trivial⟩
abbrev q4m {R : Type} : Loops S R := noLoops
theorem q4n {R : Type} : LoopsOk X (q4m (R := R)) := noLoops_ok X
def q4o : Key := ⟨[105], 105, none, [0, 0, 1, 0, 1, 1], 0, 6⟩
def q4p : StT S := ⟨(N (N (N L vJ L) none L) (some (.sl (.st 3) [])) L), L, 6⟩
def q4q : Way S := ⟨.ret, ⟨(N L none (N L vJ L)), L, 27⟩, [.int]⟩
def q4r : Way S := ⟨.ret, ⟨(N L none (N L vJ L)), L, 43⟩, [.int]⟩
def q4s : Way S := ⟨(.exit 0), ⟨L, L, 10⟩, []⟩
def q4t : LE S := ⟨q4o, q4p, [.int, (.lst (.st 3))], [q4q, q4r, q4s]⟩
def q4u (x : (Int × (List CtPaint))) : (Int ⊕ Int ⊕ Unit) → (Int ⊕ Int ⊕ Unit) := Sum.elim (fun y0 => (.inl y0)) (Sum.elim (fun y1 => (.inr (.inl y1))) (fun y2 => (.inr (.inr ()))))
noncomputable def q4v {R : Type} (x : (Int × (List CtPaint))) (k : (Int ⊕ Int ⊕ Unit) → Option R) : Option R := (ref01_paints_L0_run x.2 x.1).bind (Sum.elim (fun y0 => k (.inl y0)) (Sum.elim (fun y1 => k (.inr (.inl y1))) (fun y2 => k (.inr (.inr ())))))
def q4w (x : (Int × (List CtPaint))) (v : Int) : (Int × (List CtPaint)) := (v, x.2)
theorem q4x (x : (Int × (List CtPaint))) : LE.step X q4t q4k q4m 12 x = ref01_paints_L0_step x.2 x.1 (fun w0 => (Sum.inl (w0, x.2))) (fun p0 => (Sum.inr (.inl p0))) (fun p0 => (Sum.inr (.inr (.inl p0)))) (Sum.inr (.inr (.inr ()))):=by kernel_rfl
theorem q4z {R : Type} (x : (Int × (List CtPaint))) (k : (Int ⊕ Int ⊕ Unit) → Option R) (r : R) (h : q4v x k = some r) : ∃ o, Runs (LE.step X q4t q4k q4m 12) x o ∧ k o = some r := by
  obtain ⟨o, h1, h2⟩ := some_bind h
  exact ⟨q4u x o, small_ok (st := fun (x : (Int × (List CtPaint))) => ref01_paints_L0_st x.2) (prj := fun x => x.1) (emb := q4w) (embO := q4u) (fun x => (q4x x).trans (by unfold ref01_paints_L0_st ref01_paints_L0_step; simp only [map_cond,map_bindO,map_elim,Option.map_some,Option.map_none]; rfl)) (fun _ _ => rfl) (fun _ _ => rfl) (fun _ _ _ => rfl) (fun _ _ _ => rfl) (fun _ => rfl) (runOf_some.1 h1), by
    first
    | exact h2
    | (rcases o with o | o | o <;> exact h2)⟩
noncomputable def q4A {R : Type} : Loops S R := LE.ls X q4t q4v q4m
theorem q4B {R : Type} : LoopsOk X (q4A (R := R)) := loop_ok xok q4l (e := q4t) q4n q4z q4n
theorem q4C (x0 : List CtPaint) : evFn X q4k [(.sl (.st 3))] [(.int .i64)] q4A 12 105 (x0, ()) = ref01_paints x0:=by kernel_rfl
noncomputable def q4D : F7 S := ⟨[(.sl (.st 3))], [(.int .i64)], fun xs => ref01_paints xs.1⟩
theorem q4E : FSOk X 105 q4D := fsOk_eq (evFn_ok xok q4l q4B 12 105) fun xs _ h => (q4C xs.1).trans h
noncomputable def q4F : List (Nat × F7 S) := [(113, q3q)]
theorem q4G : TabOk X (q4F) := ⟨q3r, trivial⟩
abbrev q4H {R : Type} : Loops S R := noLoops
theorem q4I {R : Type} : LoopsOk X (q4H (R := R)) := noLoops_ok X
def q4J : Key := ⟨[96], 96, none, [0, 0, 1, 0, 1, 1], 0, 3⟩
def q4K : StT S := ⟨(N (N (N (N L vJ L) none L) vJ L) (some (.sl (.st 5) [])) (N (N (N L vJ L) none L) vJ L)), L, 3⟩
def q4L : Way S := ⟨.ret, ⟨(N L none (N L none (N L vJ L))), L, 28⟩, [.int]⟩
def q4M : Way S := ⟨(.exit 0), ⟨v1h, L, 7⟩, [.int]⟩
def q4N : LE S := ⟨q4J, q4K, [.int, .int, (.lst (.st 5)), .int, .int], [q4L, q4M]⟩
def q4O (x : tP) : (Int ⊕ Int) → (Int ⊕ Int) := Sum.elim (fun y0 => (.inl y0)) (fun y1 => (.inr y1))
noncomputable def q4P {R : Type} (x : tP) (k : (Int ⊕ Int) → Option R) : Option R := (ref01_Spread_L0_run x.2.1 x.2.2.1 x.2.2.2.2 (x.1, x.2.2.2.1)).bind (Sum.elim (fun y0 => k (.inl y0)) (fun y1 => k (.inr y1)))
def q4Q (x : tP) (v : (Int × Int)) : tP := (v.1, x.2.1, x.2.2.1, v.2, x.2.2.2.2)
theorem q4R (x : tP) : LE.step X q4N q4F q4H 12 x = ref01_Spread_L0_step x.2.1 x.2.2.1 x.2.2.2.2 x.1 x.2.2.2.1 (fun w0 w1 => (Sum.inl (w0, x.2.1, x.2.2.1, w1, x.2.2.2.2))) (fun p0 => (Sum.inr (.inl p0))) (fun p0 => (Sum.inr (.inr p0))):=by kernel_rfl
theorem q4T {R : Type} (x : tP) (k : (Int ⊕ Int) → Option R) (r : R) (h : q4P x k = some r) : ∃ o, Runs (LE.step X q4N q4F q4H 12) x o ∧ k o = some r := by
  obtain ⟨o, h1, h2⟩ := some_bind h
  exact ⟨q4O x o, small_ok (st := fun (x : tP) => ref01_Spread_L0_st x.2.1 x.2.2.1 x.2.2.2.2) (prj := fun x => (x.1, x.2.2.2.1)) (emb := q4Q) (embO := q4O) (fun x => (q4R x).trans (by unfold ref01_Spread_L0_st ref01_Spread_L0_step; simp only [map_cond,map_bindO,map_elim,Option.map_some,Option.map_none]; rfl)) (fun _ _ => rfl) (fun _ _ => rfl) (fun _ _ _ => rfl) (fun _ _ _ => rfl) (fun _ => rfl) (runOf_some.1 h1), by
    first
    | exact h2
    | (rcases o with o | o <;> exact h2)⟩
noncomputable def q4U {R : Type} : Loops S R := LE.ls X q4N q4P q4H
theorem q4V {R : Type} : LoopsOk X (q4U (R := R)) := loop_ok xok q4G (e := q4N) q4I q4T q4I
theorem q4W (x0 : List Span) (x1 : Int) (x2 : Int) : evFn X q4F [(.sl (.st 5)), (.int .i64), (.int .i64)] [(.int .i64)] q4U 12 96 (x0, x1, x2, ()) = ref01_Spread x0 x1 x2:=by kernel_rfl
noncomputable def q4X : F7 S := ⟨[(.sl (.st 5)), (.int .i64), (.int .i64)], [(.int .i64)], fun xs => ref01_Spread xs.1 xs.2.1 xs.2.2.1⟩
theorem q4Y : FSOk X 96 q4X := fsOk_eq (evFn_ok xok q4G q4V 12 96) fun xs _ h => (q4W xs.1 xs.2.1 xs.2.2.1).trans h
noncomputable def q4Z : List (Nat × F7 S) := [(96, q4X)]
theorem q50 : TabOk X (q4Z) := ⟨q4Y, trivial⟩
abbrev q51 {R : Type} : Loops S R := noLoops
theorem q52 {R : Type} : LoopsOk X (q51 (R := R)) := noLoops_ok X
theorem q53 (x0 : CtBox) (x1 : Int) (x2 : Int) : evFn X q4Z [(.st 6), (.int .i64), (.int .i64)] [(.int .i64)] q51 12 54 (x0, x1, x2, ()) = ref01_Box x0 x1 x2:=by kernel_rfl
noncomputable def q54 : F7 S := ⟨[(.st 6), (.int .i64), (.int .i64)], [(.int .i64)], fun xs => ref01_Box xs.1 xs.2.1 xs.2.2.1⟩
theorem q55 : FSOk X 54 q54 := fsOk_eq (evFn_ok xok q50 q52 12 54) fun xs _ h => (q53 xs.1 xs.2.1 xs.2.2.1).trans h
noncomputable def q56 : List (Nat × F7 S) := []
theorem q57 : TabOk X (q56) := trivial
abbrev q58 {R : Type} : Loops S R := noLoops
theorem q59 {R : Type} : LoopsOk X (q58 (R := R)) := noLoops_ok X
theorem q5a (x0 : Point) (x1 : Point) : evFn X q56 [(.st 2), (.st 2)] [(.st 2)] q58 12 93 (x0, x1, ()) = ref01_Less x0 x1:=by kernel_rfl
noncomputable def q5b : F7 S := ⟨[(.st 2), (.st 2)], [(.st 2)], fun xs => ref01_Less xs.1 xs.2.1⟩
theorem q5c : FSOk X 93 q5b := fsOk_eq (evFn_ok xok q57 q59 12 93) fun xs _ h => (q5a xs.1 xs.2.1).trans h
noncomputable def q5d : List (Nat × F7 S) := []
theorem q5e : TabOk X (q5d) := trivial
abbrev q5f {R : Type} : Loops S R := noLoops
theorem q5g {R : Type} : LoopsOk X (q5f (R := R)) := noLoops_ok X
theorem q5h (x0 : Point) (x1 : Point) : evFn X q5d [(.st 2), (.st 2)] [(.int .i64)] q5f 12 92 (x0, x1, ()) = ref01_Left x0 x1:=by kernel_rfl
noncomputable def q5i : F7 S := ⟨[(.st 2), (.st 2)], [(.int .i64)], fun xs => ref01_Left xs.1 xs.2.1⟩
theorem q5j : FSOk X 92 q5i := fsOk_eq (evFn_ok xok q5e q5g 12 92) fun xs _ h => (q5h xs.1 xs.2.1).trans h
noncomputable def q5k : List (Nat × F7 S) := [(93, q5b), (92, q5i)]
theorem q5l : TabOk X (q5k) := ⟨q5c, q5j, trivial⟩
abbrev q5m {R : Type} : Loops S R := noLoops
theorem q5n {R : Type} : LoopsOk X (q5m (R := R)) := noLoops_ok X
def q5o : Key := ⟨[130], 130, none, [0, 0, 1, 1, 0, 0, 1, 0, 0, 1, 0, 1], 2, 13⟩
def q5p : StT S := ⟨(N (N (N L vJ L) none (N L vJ L)) vH (N (N L vJ L) none L)), L, 13⟩
def q5q : Way S := ⟨.ret, ⟨(N L none (N L vI L)), L, 48⟩, [.bool]⟩
def q5r : Way S := ⟨(.exit 2), ⟨(N (N (N L vJ L) none L) vH L), L, 17⟩, [.int, (.lst (.st 2))]⟩
def q5s : LE S := ⟨q5o, q5p, [.int, .int, (.lst (.st 2)), .int], [q5q, q5r]⟩
def q5t (x : tX) : (Bool ⊕ Unit) → (Bool ⊕ (Int × (List Point))) := Sum.elim (fun y0 => (.inl y0)) (fun y1 => (.inr (x.1, x.2.2.1)))
noncomputable def q5u {R : Type} (x : tX) (k : (Bool ⊕ (Int × (List Point))) → Option R) : Option R := (ref01_round_L1_run x.1 x.2.2.1 x.2.2.2 x.2.1).bind (Sum.elim (fun y0 => k (.inl y0)) (fun y1 => k (.inr (x.1, x.2.2.1))))
def q5v (x : tX) (v : Int) : tX := (x.1, v, x.2.2.1, x.2.2.2)
theorem q5w (x : tX) : LE.step X q5s q5k q5m 12 x = ref01_round_L1_step x.1 x.2.2.1 x.2.2.2 x.2.1 (fun w0 => (Sum.inl (x.1, w0, x.2.2.1, x.2.2.2))) (fun p0 => (Sum.inr (.inl p0))) (Sum.inr (.inr (x.1, x.2.2.1))):=by kernel_rfl
theorem q5y {R : Type} (x : tX) (k : (Bool ⊕ (Int × (List Point))) → Option R) (r : R) (h : q5u x k = some r) : ∃ o, Runs (LE.step X q5s q5k q5m 12) x o ∧ k o = some r := by
  obtain ⟨o, h1, h2⟩ := some_bind h
  exact ⟨q5t x o, small_ok (st := fun (x : tX) => ref01_round_L1_st x.1 x.2.2.1 x.2.2.2) (prj := fun x => x.2.1) (emb := q5v) (embO := q5t) (fun x => (q5w x).trans (by unfold ref01_round_L1_st ref01_round_L1_step; simp only [map_cond,map_bindO,map_elim,Option.map_some,Option.map_none]; rfl)) (fun _ _ => rfl) (fun _ _ => rfl) (fun _ _ _ => rfl) (fun _ _ _ => rfl) (fun _ => rfl) (runOf_some.1 h1), by
    first
    | exact h2
    | (rcases o with o | o <;> exact h2)⟩
noncomputable def q5z {R : Type} : Loops S R := LE.ls X q5s q5u q5m
theorem q5A {R : Type} : LoopsOk X (q5z (R := R)) := loop_ok xok q5l (e := q5s) q5n q5y q5n
def q5B : Key := ⟨[130], 130, none, [0, 0, 1, 0, 1], 0, 2⟩
def q5C : StT S := ⟨(N (N (N L vJ L) none L) vH L), L, 2⟩
def q5D : Way S := ⟨.ret, ⟨(N L none (N L vI L)), L, 48⟩, [.bool]⟩
def q5E : Way S := ⟨(.exit 0), ⟨L, L, 6⟩, []⟩
def q5F : LE S := ⟨q5B, q5C, [.int, (.lst (.st 2))], [q5D, q5E]⟩
def q5G (x : (Int × (List Point))) : (Bool ⊕ Unit) → (Bool ⊕ Unit) := Sum.elim (fun y0 => (.inl y0)) (fun y1 => (.inr ()))
noncomputable def q5H {R : Type} (x : (Int × (List Point))) (k : (Bool ⊕ Unit) → Option R) : Option R := (ref01_round_L0_run x.2 x.1).bind (Sum.elim (fun y0 => k (.inl y0)) (fun y1 => k (.inr ())))
def q5I (x : (Int × (List Point))) (v : Int) : (Int × (List Point)) := (v, x.2)
theorem q5J (x : (Int × (List Point))) : LE.step X q5F q5k q5z 12 x = ref01_round_L0_step x.2 x.1 (fun w0 => (Sum.inl (w0, x.2))) (fun p0 => (Sum.inr (.inl p0))) (Sum.inr (.inr ())):=by kernel_rfl
theorem q5L {R : Type} (x : (Int × (List Point))) (k : (Bool ⊕ Unit) → Option R) (r : R) (h : q5H x k = some r) : ∃ o, Runs (LE.step X q5F q5k q5z 12) x o ∧ k o = some r := by
  obtain ⟨o, h1, h2⟩ := some_bind h
  exact ⟨q5G x o, small_ok (st := fun (x : (Int × (List Point))) => ref01_round_L0_st x.2) (prj := fun x => x.1) (emb := q5I) (embO := q5G) (fun x => (q5J x).trans (by unfold ref01_round_L0_st ref01_round_L0_step; simp only [map_cond,map_bindO,map_elim,Option.map_some,Option.map_none]; rfl)) (fun _ _ => rfl) (fun _ _ => rfl) (fun _ _ _ => rfl) (fun _ _ _ => rfl) (fun _ => rfl) (runOf_some.1 h1), by
    first
    | exact h2
    | (rcases o with o | o <;> exact h2)⟩
noncomputable def q5M {R : Type} : Loops S R := LE.ls X q5F q5H q5z
theorem q5N {R : Type} : LoopsOk X (q5M (R := R)) := loop_ok xok q5l (e := q5F) q5A q5L q5A
theorem q5O (x0 : List Point) : evFn X q5k [(.sl (.st 2))] [.bool] q5M 12 130 (x0, ()) = ref01_round x0:=by kernel_rfl
noncomputable def q5P : F7 S := ⟨[(.sl (.st 2))], [.bool], fun xs => ref01_round xs.1⟩
theorem q5Q : FSOk X 130 q5P := fsOk_eq (evFn_ok xok q5l q5N 12 130) fun xs _ h => (q5O xs.1).trans h
noncomputable def q5R : List (Nat × F7 S) := [(113, q3q), (78, q4i), (54, q54), (130, q5P)]
theorem q5S : TabOk X (q5R) := ⟨q3r, q4j, q55, q5Q, trivial⟩
abbrev q5T {R : Type} : Loops S R := noLoops
theorem q5U {R : Type} : LoopsOk X (q5T (R := R)) := noLoops_ok X
def q5V : Key := ⟨[106], 106, none, [0, 0, 1, 0, 1, 1], 0, 8⟩
def q5W : StT S := ⟨(N (N (N L vJ L) (some (.ptr 0 0)) L) none L), (N L ol L), 8⟩
def q5X : Way S := ⟨.ret, ⟨(N L none (N L vJ L)), (N L ol L), 21⟩, [.int, (.st 7)]⟩
def q5Y : Way S := ⟨(.exit 0), ⟨(N (N L (some (.ptr 0 0)) L) none L), (N L ol L), 13⟩, [(.st 7)]⟩
def q5Z : LE S := ⟨q5V, q5W, [.int, (.st 7)], [q5X, q5Y]⟩
def q60 (x : (Int × CtSand)) : (Int ⊕ Unit) → ((Int × CtSand) ⊕ CtSand) := Sum.elim (fun y0 => (.inl (y0, x.2))) (fun y1 => (.inr x.2))
noncomputable def q61 {R : Type} (x : (Int × CtSand)) (k : ((Int × CtSand) ⊕ CtSand) → Option R) : Option R := (ref01_sand_L0_run x.2 x.1).bind (Sum.elim (fun y0 => k (.inl (y0, x.2))) (fun y1 => k (.inr x.2)))
def q62 (x : (Int × CtSand)) (v : Int) : (Int × CtSand) := (v, x.2)
theorem q63 (x : (Int × CtSand)) : LE.step X q5Z q5R q5T 12 x = ref01_sand_L0_step x.2 x.1 (fun w0 => (Sum.inl (w0, x.2))) (fun p0 => (Sum.inr (.inl (p0, x.2)))) (Sum.inr (.inr x.2)):=by kernel_rfl
theorem q65 {R : Type} (x : (Int × CtSand)) (k : ((Int × CtSand) ⊕ CtSand) → Option R) (r : R) (h : q61 x k = some r) : ∃ o, Runs (LE.step X q5Z q5R q5T 12) x o ∧ k o = some r := by
  obtain ⟨o, h1, h2⟩ := some_bind h
  exact ⟨q60 x o, small_ok (st := fun (x : (Int × CtSand)) => ref01_sand_L0_st x.2) (prj := fun x => x.1) (emb := q62) (embO := q60) (fun x => (q63 x).trans (by unfold ref01_sand_L0_st ref01_sand_L0_step; simp only [map_cond,map_bindO,map_elim,Option.map_some,Option.map_none]; rfl)) (fun _ _ => rfl) (fun _ _ => rfl) (fun _ _ _ => rfl) (fun _ _ _ => rfl) (fun _ => rfl) (runOf_some.1 h1), by
    first
    | exact h2
    | (rcases o with o | o <;> exact h2)⟩
noncomputable def q66 {R : Type} : Loops S R := LE.ls X q5Z q61 q5T
theorem q67 {R : Type} : LoopsOk X (q66 (R := R)) := loop_ok xok q5S (e := q5Z) q5U q65 q5U
theorem q68 (x0 : CtSand) : evFn X q5R [(.st 7)] [(.int .i64)] q66 12 106 (x0, ()) = ref01_sand x0:=by kernel_rfl
noncomputable def q69 : F7 S := ⟨[(.st 7)], [(.int .i64)], fun xs => ref01_sand xs.1⟩
theorem q6a : FSOk X 106 q69 := fsOk_eq (evFn_ok xok q5S q67 12 106) fun xs _ h => (q68 xs.1).trans h
noncomputable def q6b : List (Nat × F7 S) := [(104, q4b), (78, q4i), (105, q4D), (106, q69)]
theorem q6c : TabOk X (q6b) := ⟨q4c, q4j, q4E, q6a, trivial⟩
abbrev q6d {R : Type} : Loops S R := noLoops
theorem q6e {R : Type} : LoopsOk X (q6d (R := R)) := noLoops_ok X
def q6f : Key := ⟨[63], 63, none, [0, 0, 1, 0, 1, 1, 1], 0, 10⟩
def q6g : StT S := ⟨(N (N L (some (.ptr 0 0)) (N L (some (.rs 10 0)) L)) none (N L none (N L vJ L))), (N L ok o1n), 11⟩
def q6h : Way S := ⟨.ret, ⟨v1g, oX, 52⟩, [.int, .int, .int, (.lst .str), (.st 4), (.st 8), (.lst .str)]⟩
def q6i : Way S := ⟨.ret, ⟨v1g, oX, 55⟩, [.int, .int, .int, (.lst .str), (.st 4), (.st 8), (.lst .str)]⟩
def q6j : Way S := ⟨.ret, ⟨v1g, oX, 51⟩, [.int, .int, .int, (.lst .str), (.st 4), (.st 8), (.lst .str)]⟩
def q6k : Way S := ⟨(.exit 0), ⟨(N (N L (some (.ptr 0 0)) (N L (some (.rs 10 0)) L)) none L), (N L ok o1n), 16⟩, [(.st 8), (.lst .str)]⟩
def q6l : LE S := ⟨q6f, q6g, [.int, (.st 8), (.lst .str)], [q6h, q6i, q6j, q6k]⟩
def q6m (x : tT) : (tG ⊕ tG ⊕ tG ⊕ (List ByteArray)) → t8 := Sum.elim (fun y0 => (.inl (y0.1, y0.2.1, y0.2.2.1, y0.2.2.2.1, y0.2.2.2.2.1, x.2.1, y0.2.2.2.2.2))) (Sum.elim (fun y1 => (.inr (.inl (y1.1, y1.2.1, y1.2.2.1, y1.2.2.2.1, y1.2.2.2.2.1, x.2.1, y1.2.2.2.2.2)))) (Sum.elim (fun y2 => (.inr (.inr (.inl (y2.1, y2.2.1, y2.2.2.1, y2.2.2.2.1, y2.2.2.2.2.1, x.2.1, y2.2.2.2.2.2))))) (fun y3 => (.inr (.inr (.inr (x.2.1, y3)))))))
noncomputable def q6n {R : Type} (x : tT) (k : t8 → Option R) : Option R := (ref01_Check_L0_run x.2.1 (x.1, x.2.2)).bind (Sum.elim (fun y0 => k (.inl (y0.1, y0.2.1, y0.2.2.1, y0.2.2.2.1, y0.2.2.2.2.1, x.2.1, y0.2.2.2.2.2))) (Sum.elim (fun y1 => k (.inr (.inl (y1.1, y1.2.1, y1.2.2.1, y1.2.2.2.1, y1.2.2.2.2.1, x.2.1, y1.2.2.2.2.2)))) (Sum.elim (fun y2 => k (.inr (.inr (.inl (y2.1, y2.2.1, y2.2.2.1, y2.2.2.2.1, y2.2.2.2.2.1, x.2.1, y2.2.2.2.2.2))))) (fun y3 => k (.inr (.inr (.inr (x.2.1, y3))))))))
def q6o (x : tT) (v : (Int × (List ByteArray))) : tT := (v.1, x.2.1, v.2)
theorem q6p (x : tT) : LE.step X q6l q6b q6d 12 x = ref01_Check_L0_step x.2.1 x.1 x.2.2 (fun w0 w1 => (Sum.inl (w0, x.2.1, w1))) (fun p0 p1 p2 p3 p4 p5 => (Sum.inr (.inl (p0, p1, p2, p3, p4, x.2.1, p5)))) (fun p0 p1 p2 p3 p4 p5 => (Sum.inr (.inr (.inl (p0, p1, p2, p3, p4, x.2.1, p5))))) (fun p0 p1 p2 p3 p4 p5 => (Sum.inr (.inr (.inr (.inl (p0, p1, p2, p3, p4, x.2.1, p5)))))) (fun p0 => (Sum.inr (.inr (.inr (.inr (x.2.1, p0)))))):=by kernel_rfl
theorem q6r {R : Type} (x : tT) (k : t8 → Option R) (r : R) (h : q6n x k = some r) : ∃ o, Runs (LE.step X q6l q6b q6d 12) x o ∧ k o = some r := by
  obtain ⟨o, h1, h2⟩ := some_bind h
  exact ⟨q6m x o, small_ok (st := fun (x : tT) => ref01_Check_L0_st x.2.1) (prj := fun x => (x.1, x.2.2)) (emb := q6o) (embO := q6m) (fun x => (q6p x).trans (by unfold ref01_Check_L0_st ref01_Check_L0_step; simp only [map_cond,map_bindO,map_elim,Option.map_some,Option.map_none]; rfl)) (fun _ _ => rfl) (fun _ _ => rfl) (fun _ _ _ => rfl) (fun _ _ _ => rfl) (fun _ => rfl) (runOf_some.1 h1), by
    first
    | exact h2
    | (rcases o with o | o | o | o <;> exact h2)⟩
noncomputable def q6s {R : Type} : Loops S R := LE.ls X q6l q6n q6d
theorem q6t {R : Type} : LoopsOk X (q6s (R := R)) := loop_ok xok q6c (e := q6l) q6e q6r q6e
def q6u : Key := ⟨[63], 63, none, [0, 0, 1, 0, 1, 1, 1, 1, 1], 2, 21⟩
def q6v : StT S := ⟨(N (N L (some (.ptr 0 0)) (N (N L vJ L) (some (.rs 21 0)) L)) none L), (N (N L none o1n) ok L), 22⟩
def q6w : Way S := ⟨.ret, ⟨v1g, o10, 62⟩, [.int, .int, .int, (.lst .str), (.lst .str), (.st 8)]⟩
def q6x : Way S := ⟨.ret, ⟨v1g, o10, 55⟩, [.int, .int, .int, (.lst .str), (.lst .str), (.st 8)]⟩
def q6y : Way S := ⟨(.exit 2), ⟨L, (N (N L none o1n) ok L), 27⟩, [(.lst .str), (.st 8)]⟩
def q6z : LE S := ⟨q6u, q6v, [.int, (.lst .str), (.st 8)], [q6w, q6x, q6y]⟩
def q6A (x : tU) : ((Int × Int × Int × (List ByteArray) × (List ByteArray)) ⊕ (Int × Int × Int × (List ByteArray) × (List ByteArray)) ⊕ (List ByteArray)) → ti := Sum.elim (fun y0 => (.inl (y0.1, y0.2.1, y0.2.2.1, y0.2.2.2.1, y0.2.2.2.2, x.2.2))) (Sum.elim (fun y1 => (.inr (.inl (y1.1, y1.2.1, y1.2.2.1, y1.2.2.2.1, y1.2.2.2.2, x.2.2)))) (fun y2 => (.inr (.inr (y2, x.2.2)))))
noncomputable def q6B {R : Type} (x : tU) (k : ti → Option R) : Option R := (ref01_Check_L1_run x.2.2 (x.1, x.2.1)).bind (Sum.elim (fun y0 => k (.inl (y0.1, y0.2.1, y0.2.2.1, y0.2.2.2.1, y0.2.2.2.2, x.2.2))) (Sum.elim (fun y1 => k (.inr (.inl (y1.1, y1.2.1, y1.2.2.1, y1.2.2.2.1, y1.2.2.2.2, x.2.2)))) (fun y2 => k (.inr (.inr (y2, x.2.2))))))
def q6C (x : tU) (v : (Int × (List ByteArray))) : tU := (v.1, v.2, x.2.2)
theorem q6D (x : tU) : LE.step X q6z q6b q6s 12 x = ref01_Check_L1_step x.2.2 x.1 x.2.1 (fun w0 w1 => (Sum.inl (w0, w1, x.2.2))) (fun p0 p1 p2 p3 p4 => (Sum.inr (.inl (p0, p1, p2, p3, p4, x.2.2)))) (fun p0 p1 p2 p3 p4 => (Sum.inr (.inr (.inl (p0, p1, p2, p3, p4, x.2.2))))) (fun p0 => (Sum.inr (.inr (.inr (p0, x.2.2))))):=by kernel_rfl
theorem q6F {R : Type} (x : tU) (k : ti → Option R) (r : R) (h : q6B x k = some r) : ∃ o, Runs (LE.step X q6z q6b q6s 12) x o ∧ k o = some r := by
  obtain ⟨o, h1, h2⟩ := some_bind h
  exact ⟨q6A x o, small_ok (st := fun (x : tU) => ref01_Check_L1_st x.2.2) (prj := fun x => (x.1, x.2.1)) (emb := q6C) (embO := q6A) (fun x => (q6D x).trans (by unfold ref01_Check_L1_st ref01_Check_L1_step; simp only [map_cond,map_bindO,map_elim,Option.map_some,Option.map_none]; rfl)) (fun _ _ => rfl) (fun _ _ => rfl) (fun _ _ _ => rfl) (fun _ _ _ => rfl) (fun _ => rfl) (runOf_some.1 h1), by
    first
    | exact h2
    | (rcases o with o | o | o <;> exact h2)⟩
noncomputable def q6G {R : Type} : Loops S R := LE.ls X q6z q6B q6s
theorem q6H {R : Type} : LoopsOk X (q6G (R := R)) := loop_ok xok q6c (e := q6z) q6t q6F q6t
theorem q6I (x0 : CtChart) : evFn X q6b [(.st 8)] [(.int .i64), (.int .i64), (.int .i64)] q6G 12 63 (x0, ()) = ref01_Check x0:=by kernel_rfl
noncomputable def q6J : F7 S := ⟨[(.st 8)], [(.int .i64), (.int .i64), (.int .i64)], fun xs => ref01_Check xs.1⟩
theorem q6K : FSOk X 63 q6J := fsOk_eq (evFn_ok xok q6c q6H 12 63) fun xs _ h => (q6I xs.1).trans h
noncomputable def q6L : List (Nat × F7 S) := [(96, q4X)]
theorem q6M : TabOk X (q6L) := ⟨q4Y, trivial⟩
abbrev q6N {R : Type} : Loops S R := noLoops
theorem q6O {R : Type} : LoopsOk X (q6N (R := R)) := noLoops_ok X
theorem q6P (x0 : CtBox) : evFn X q6L [(.st 6)] [(.int .i64)] q6N 12 64 (x0, ()) = ref04_box x0:=by kernel_rfl
noncomputable def q6Q : F7 S := ⟨[(.st 6)], [(.int .i64)], fun xs => ref04_box xs.1⟩
theorem q6R : FSOk X 64 q6Q := fsOk_eq (evFn_ok xok q6M q6O 12 64) fun xs _ h => (q6P xs.1).trans h
noncomputable def q6S : List (Nat × F7 S) := [(96, q4X)]
theorem q6T : TabOk X (q6S) := ⟨q4Y, trivial⟩
abbrev q6U {R : Type} : Loops S R := noLoops
theorem q6V {R : Type} : LoopsOk X (q6U (R := R)) := noLoops_ok X
theorem q6W (x0 : Span) (x1 : Int) (x2 : Int) : evFn X q6S [(.st 5), (.int .i64), (.int .i64)] [(.int .i64)] q6U 12 65 (x0, x1, x2, ()) = ref01_Range x0 x1 x2:=by kernel_rfl
noncomputable def q6X : F7 S := ⟨[(.st 5), (.int .i64), (.int .i64)], [(.int .i64)], fun xs => ref01_Range xs.1 xs.2.1 xs.2.2.1⟩
theorem q6Y : FSOk X 65 q6X := fsOk_eq (evFn_ok xok q6T q6V 12 65) fun xs _ h => (q6W xs.1 xs.2.1 xs.2.2.1).trans h
noncomputable def q6Z : List (Nat × F7 S) := []
theorem q70 : TabOk X (q6Z) := trivial
abbrev q71 {R : Type} : Loops S R := noLoops
theorem q72 {R : Type} : LoopsOk X (q71 (R := R)) := noLoops_ok X
theorem q73 (x0 : Int) (x1 : Int) (x2 : Int) : evFn X q6Z [(.int .i64), (.int .i64), (.int .i64)] [.bool] q71 12 66 (x0, x1, x2, ()) = ref04_in x0 x1 x2:=by kernel_rfl
noncomputable def q74 : F7 S := ⟨[(.int .i64), (.int .i64), (.int .i64)], [.bool], fun xs => ref04_in xs.1 xs.2.1 xs.2.2.1⟩
theorem q75 : FSOk X 66 q74 := fsOk_eq (evFn_ok xok q70 q72 12 66) fun xs _ h => (q73 xs.1 xs.2.1 xs.2.2.1).trans h
noncomputable def q76 : List (Nat × F7 S) := [(63, q6J), (64, q6Q), (65, q6X), (66, q74)]
theorem q77 : TabOk X (q76) := ⟨q6K, q6R, q6Y, q75, trivial⟩
abbrev q78 {R : Type} : Loops S R := noLoops
theorem q79 {R : Type} : LoopsOk X (q78 (R := R)) := noLoops_ok X
theorem q7a (x0 : SgMooring) : evFn X q76 [(.st 9)] [(.int .i64), (.int .i64)] q78 12 18 (x0, ()) = ref04_Check x0:=by kernel_rfl
noncomputable def q7b : F7 S := ⟨[(.st 9)], [(.int .i64), (.int .i64)], fun xs => ref04_Check xs.1⟩
theorem q7c : FSOk X 18 q7b := fsOk_eq (evFn_ok xok q77 q79 12 18) fun xs _ h => (q7a xs.1).trans h
noncomputable def q7d : List (Nat × F7 S) := [(17, q3j), (61, q3c), (62, q35)]
theorem q7e : TabOk X (q7d) := ⟨q3k, q3d, q36, trivial⟩
abbrev q7f {R : Type} : Loops S R := noLoops
theorem q7g {R : Type} : LoopsOk X (q7f (R := R)) := noLoops_ok X
def q7h : Key := ⟨[67, 2, 6, 19], 67, none, [0, 0, 1, 0, 1], 0, 27⟩
def q7i : StT S := ⟨(N (N (N L none (N L vJ L)) (some (.fn (.func 68) [] [(.ptr 1 0)])) (N (N L vG L) none L)) none v1k), (N (N L op L) om L), 27⟩
def q7j : Way S := ⟨.ret, ⟨v1e, (N o1a om L), 73⟩, [.int, .int, (.st 10), (.st 10), (.lst (.st 10)), (.st 9)]⟩
def q7k : Way S := ⟨.ret, ⟨v1e, (N o1a om (N L none (N o1o none L))), 73⟩, [.int, .int, (.st 10), (.st 10), (.lst (.st 10)), (.st 9), (.lst (.int .i64))]⟩
def q7l : Way S := ⟨.ret, ⟨v1e, (N o1a om (N (N (N L none (N L none (N L ot L))) none L) none (N o1o none L))), 73⟩, [.int, .int, (.st 10), (.st 10), (.lst (.st 10)), (.st 9), (.lst (.int .i64)), (.lst (.int .i64))]⟩
def q7m : Way S := ⟨.ret, ⟨v1e, oS, 73⟩, [.int, .int, (.st 10), (.st 10), (.lst (.st 10)), (.st 9), (.lst (.int .i64)), (.lst (.int .i64)), (.lst (.int .i64))]⟩
def q7n : Way S := ⟨.ret, ⟨v1e, oS, 91⟩, [.int, .int, (.st 10), (.st 10), (.lst (.st 10)), (.st 9), (.lst (.int .i64)), (.lst (.int .i64)), (.lst (.int .i64))]⟩
def q7o : Way S := ⟨.ret, ⟨v1e, oS, 92⟩, [.int, .int, (.st 10), (.st 10), (.lst (.st 10)), (.st 9), (.lst (.int .i64)), (.lst (.int .i64)), (.lst (.int .i64))]⟩
def q7p : Way S := ⟨(.exit 0), ⟨L, (N (N L op L) om L), 28⟩, [(.lst (.st 10)), (.st 9)]⟩
def q7q : LE S := ⟨q7h, q7i, [.int, (.lst (.st 10)), .int, (.lst (.st 10)), (.st 9)], [q7j, q7k, q7l, q7m, q7n, q7o, q7p]⟩
def q7r (x : tJ) : ((Int × Int × SgLook × SgLook) ⊕ (Int × Int × SgLook × SgLook × (List Int)) ⊕ (Int × Int × SgLook × SgLook × (List Int) × (List Int)) ⊕ tC ⊕ tC ⊕ tC ⊕ Unit) → t2 := Sum.elim (fun y0 => (.inl (y0.1, y0.2.1, y0.2.2.1, y0.2.2.2, x.2.2.2.1, x.2.2.2.2))) (Sum.elim (fun y1 => (.inr (.inl (y1.1, y1.2.1, y1.2.2.1, y1.2.2.2.1, x.2.2.2.1, x.2.2.2.2, y1.2.2.2.2)))) (Sum.elim (fun y2 => (.inr (.inr (.inl (y2.1, y2.2.1, y2.2.2.1, y2.2.2.2.1, x.2.2.2.1, x.2.2.2.2, y2.2.2.2.2.1, y2.2.2.2.2.2))))) (Sum.elim (fun y3 => (.inr (.inr (.inr (.inl (y3.1, y3.2.1, y3.2.2.1, y3.2.2.2.1, x.2.2.2.1, x.2.2.2.2, y3.2.2.2.2.1, y3.2.2.2.2.2.1, y3.2.2.2.2.2.2)))))) (Sum.elim (fun y4 => (.inr (.inr (.inr (.inr (.inl (y4.1, y4.2.1, y4.2.2.1, y4.2.2.2.1, x.2.2.2.1, x.2.2.2.2, y4.2.2.2.2.1, y4.2.2.2.2.2.1, y4.2.2.2.2.2.2))))))) (Sum.elim (fun y5 => (.inr (.inr (.inr (.inr (.inr (.inl (y5.1, y5.2.1, y5.2.2.1, y5.2.2.2.1, x.2.2.2.1, x.2.2.2.2, y5.2.2.2.2.1, y5.2.2.2.2.2.1, y5.2.2.2.2.2.2)))))))) (fun y6 => (.inr (.inr (.inr (.inr (.inr (.inr (x.2.2.2.1, x.2.2.2.2)))))))))))))
noncomputable def q7s {R : Type} (x : tJ) (k : t2 → Option R) : Option R := (swing_CheckLooks_L0_run x.2.1 x.2.2.1 x.2.2.2.1 x.2.2.2.2 x.1).bind (Sum.elim (fun y0 => k (.inl (y0.1, y0.2.1, y0.2.2.1, y0.2.2.2, x.2.2.2.1, x.2.2.2.2))) (Sum.elim (fun y1 => k (.inr (.inl (y1.1, y1.2.1, y1.2.2.1, y1.2.2.2.1, x.2.2.2.1, x.2.2.2.2, y1.2.2.2.2)))) (Sum.elim (fun y2 => k (.inr (.inr (.inl (y2.1, y2.2.1, y2.2.2.1, y2.2.2.2.1, x.2.2.2.1, x.2.2.2.2, y2.2.2.2.2.1, y2.2.2.2.2.2))))) (Sum.elim (fun y3 => k (.inr (.inr (.inr (.inl (y3.1, y3.2.1, y3.2.2.1, y3.2.2.2.1, x.2.2.2.1, x.2.2.2.2, y3.2.2.2.2.1, y3.2.2.2.2.2.1, y3.2.2.2.2.2.2)))))) (Sum.elim (fun y4 => k (.inr (.inr (.inr (.inr (.inl (y4.1, y4.2.1, y4.2.2.1, y4.2.2.2.1, x.2.2.2.1, x.2.2.2.2, y4.2.2.2.2.1, y4.2.2.2.2.2.1, y4.2.2.2.2.2.2))))))) (Sum.elim (fun y5 => k (.inr (.inr (.inr (.inr (.inr (.inl (y5.1, y5.2.1, y5.2.2.1, y5.2.2.2.1, x.2.2.2.1, x.2.2.2.2, y5.2.2.2.2.1, y5.2.2.2.2.2.1, y5.2.2.2.2.2.2)))))))) (fun y6 => k (.inr (.inr (.inr (.inr (.inr (.inr (x.2.2.2.1, x.2.2.2.2))))))))))))))
def q7t (x : tJ) (v : Int) : tJ := (v, x.2.1, x.2.2.1, x.2.2.2.1, x.2.2.2.2)
theorem q7u (x : tJ) : LE.step X q7q q7d q7f 12 x = swing_CheckLooks_L0_step x.2.1 x.2.2.1 x.2.2.2.1 x.2.2.2.2 x.1 (fun w0 => (Sum.inl (w0, x.2.1, x.2.2.1, x.2.2.2.1, x.2.2.2.2))) (fun p0 p1 p2 p3 => (Sum.inr (.inl (p0, p1, p2, p3, x.2.2.2.1, x.2.2.2.2)))) (fun p0 p1 p2 p3 p4 => (Sum.inr (.inr (.inl (p0, p1, p2, p3, x.2.2.2.1, x.2.2.2.2, p4))))) (fun p0 p1 p2 p3 p4 p5 => (Sum.inr (.inr (.inr (.inl (p0, p1, p2, p3, x.2.2.2.1, x.2.2.2.2, p4, p5)))))) (fun p0 p1 p2 p3 p4 p5 p6 => (Sum.inr (.inr (.inr (.inr (.inl (p0, p1, p2, p3, x.2.2.2.1, x.2.2.2.2, p4, p5, p6))))))) (fun p0 p1 p2 p3 p4 p5 p6 => (Sum.inr (.inr (.inr (.inr (.inr (.inl (p0, p1, p2, p3, x.2.2.2.1, x.2.2.2.2, p4, p5, p6)))))))) (fun p0 p1 p2 p3 p4 p5 p6 => (Sum.inr (.inr (.inr (.inr (.inr (.inr (.inl (p0, p1, p2, p3, x.2.2.2.1, x.2.2.2.2, p4, p5, p6))))))))) (Sum.inr (.inr (.inr (.inr (.inr (.inr (.inr (x.2.2.2.1, x.2.2.2.2)))))))):=by kernel_rfl
theorem q7w {R : Type} (x : tJ) (k : t2 → Option R) (r : R) (h : q7s x k = some r) : ∃ o, Runs (LE.step X q7q q7d q7f 12) x o ∧ k o = some r := by
  obtain ⟨o, h1, h2⟩ := some_bind h
  exact ⟨q7r x o, small_ok (st := fun (x : tJ) => swing_CheckLooks_L0_st x.2.1 x.2.2.1 x.2.2.2.1 x.2.2.2.2) (prj := fun x => x.1) (emb := q7t) (embO := q7r) (fun x => (q7u x).trans (by unfold swing_CheckLooks_L0_st swing_CheckLooks_L0_step; simp only [map_cond,map_bindO,map_elim,Option.map_some,Option.map_none]; rfl)) (fun _ _ => rfl) (fun _ _ => rfl) (fun _ _ _ => rfl) (fun _ _ _ => rfl) (fun _ => rfl) (runOf_some.1 h1), by
    first
    | exact h2
    | (rcases o with o | o | o | o | o | o | o <;> exact h2)⟩
noncomputable def q7x {R : Type} : Loops S R := LE.ls X q7q q7s q7f
theorem q7y {R : Type} : LoopsOk X (q7x (R := R)) := loop_ok xok q7e (e := q7q) q7g q7w q7g
theorem q7z (x0 : SgMooring) (x1 : List SgLook) : evFn X q7d [(.st 9), (.sl (.st 10))] [(.int .i64), (.int .i64)] q7x 12 19 (x0, x1, ()) = swing_CheckLooks x0 x1:=by kernel_rfl
noncomputable def q7A : F7 S := ⟨[(.st 9), (.sl (.st 10))], [(.int .i64), (.int .i64)], fun xs => swing_CheckLooks xs.1 xs.2.1⟩
theorem q7B : FSOk X 19 q7A := fsOk_eq (evFn_ok xok q7e q7y 12 19) fun xs _ h => (q7z xs.1 xs.2.1).trans h
noncomputable def q7C : List (Nat × F7 S) := [(64, q6Q), (66, q74)]
theorem q7D : TabOk X (q7C) := ⟨q6R, q75, trivial⟩
abbrev q7E {R : Type} : Loops S R := noLoops
theorem q7F {R : Type} : LoopsOk X (q7E (R := R)) := noLoops_ok X
theorem q7G (x0 : SgLook) (x1 : Int) : evFn X q7C [(.st 10), (.int .i64)] [(.int .i64)] q7E 12 69 (x0, x1, ()) = ref04_look x0 x1:=by kernel_rfl
noncomputable def q7H : F7 S := ⟨[(.st 10), (.int .i64)], [(.int .i64)], fun xs => ref04_look xs.1 xs.2.1⟩
theorem q7I : FSOk X 69 q7H := fsOk_eq (evFn_ok xok q7D q7F 12 69) fun xs _ h => (q7G xs.1 xs.2.1).trans h
noncomputable def q7J : List (Nat × F7 S) := [(18, q7b), (69, q7H)]
theorem q7K : TabOk X (q7J) := ⟨q7c, q7I, trivial⟩
abbrev q7L {R : Type} : Loops S R := noLoops
theorem q7M {R : Type} : LoopsOk X (q7L (R := R)) := noLoops_ok X
def q7N : Key := ⟨[20], 20, none, [0, 0, 1, 0, 1, 1, 1, 1, 1], 0, 21⟩
def q7O : StT S := ⟨(N (N L vG (N (N L vJ L) none L)) none v1j), (N L om L), 21⟩
def q7P : Way S := ⟨.ret, ⟨v1e, (N L om L), 38⟩, [.int, .int, (.st 9)]⟩
def q7Q : Way S := ⟨(.exit 0), ⟨L, (N L om L), 25⟩, [(.st 9)]⟩
def q7R : LE S := ⟨q7N, q7O, [(.lst (.st 10)), .int, .int, (.st 9)], [q7P, q7Q]⟩
def q7S (x : tO) : ((Int × Int) ⊕ Unit) → ((Int × Int × SgMooring) ⊕ SgMooring) := Sum.elim (fun y0 => (.inl (y0.1, y0.2, x.2.2.2))) (fun y1 => (.inr x.2.2.2))
noncomputable def q7T {R : Type} (x : tO) (k : ((Int × Int × SgMooring) ⊕ SgMooring) → Option R) : Option R := (ref04_CheckLooks_L0_run x.1 x.2.2.2 (x.2.1, x.2.2.1)).bind (Sum.elim (fun y0 => k (.inl (y0.1, y0.2, x.2.2.2))) (fun y1 => k (.inr x.2.2.2)))
def q7U (x : tO) (v : (Int × Int)) : tO := (x.1, v.1, v.2, x.2.2.2)
theorem q7V (x : tO) : LE.step X q7R q7J q7L 12 x = ref04_CheckLooks_L0_step x.1 x.2.2.2 x.2.1 x.2.2.1 (fun w0 w1 => (Sum.inl (x.1, w0, w1, x.2.2.2))) (fun p0 p1 => (Sum.inr (.inl (p0, p1, x.2.2.2)))) (Sum.inr (.inr x.2.2.2)):=by kernel_rfl
theorem q7X {R : Type} (x : tO) (k : ((Int × Int × SgMooring) ⊕ SgMooring) → Option R) (r : R) (h : q7T x k = some r) : ∃ o, Runs (LE.step X q7R q7J q7L 12) x o ∧ k o = some r := by
  obtain ⟨o, h1, h2⟩ := some_bind h
  exact ⟨q7S x o, small_ok (st := fun (x : tO) => ref04_CheckLooks_L0_st x.1 x.2.2.2) (prj := fun x => (x.2.1, x.2.2.1)) (emb := q7U) (embO := q7S) (fun x => (q7V x).trans (by unfold ref04_CheckLooks_L0_st ref04_CheckLooks_L0_step; simp only [map_cond,map_bindO,map_elim,Option.map_some,Option.map_none]; rfl)) (fun _ _ => rfl) (fun _ _ => rfl) (fun _ _ _ => rfl) (fun _ _ _ => rfl) (fun _ => rfl) (runOf_some.1 h1), by
    first
    | exact h2
    | (rcases o with o | o <;> exact h2)⟩
noncomputable def q7Y {R : Type} : Loops S R := LE.ls X q7R q7T q7L
theorem q7Z {R : Type} : LoopsOk X (q7Y (R := R)) := loop_ok xok q7K (e := q7R) q7M q7X q7M
theorem q80 (x0 : SgMooring) (x1 : List SgLook) : evFn X q7J [(.st 9), (.sl (.st 10))] [(.int .i64), (.int .i64)] q7Y 12 20 (x0, x1, ()) = ref04_CheckLooks x0 x1:=by kernel_rfl
noncomputable def q81 : F7 S := ⟨[(.st 9), (.sl (.st 10))], [(.int .i64), (.int .i64)], fun xs => ref04_CheckLooks xs.1 xs.2.1⟩
theorem q82 : FSOk X 20 q81 := fsOk_eq (evFn_ok xok q7K q7Z 12 20) fun xs _ h => (q80 xs.1 xs.2.1).trans h
noncomputable def q83 : List (Nat × F7 S) := []
theorem q84 : TabOk X (q83) := trivial
abbrev q85 {R : Type} : Loops S R := noLoops
theorem q86 {R : Type} : LoopsOk X (q85 (R := R)) := noLoops_ok X
def q87 : Key := ⟨[108, 0, 76], 108, none, [0, 0, 1, 0, 0, 1, 0, 0, 1, 1], 2, 28⟩
def q88 : StT S := ⟨(N (N (N L vJ L) (some (.ptr 9 0)) (N L vJ L)) (some (.yld 13)) (N (N L vJ L) none L)), o1c, 28⟩
def q89 : Way S := ⟨(.exit 2), ⟨v17, o1c, 33⟩, [.int, .int, .int, .int, .int, .int, .int, .int, .int, (.arr (.int .u64)), (.st 6), (.st 9), (.st 9), (.st 14)]⟩
def q8a : LE S := ⟨q87, q88, [.int, .int, .int, .int, .int, .int, .int, .int, .int, .int, (.arr (.int .u64)), (.st 6), (.st 9), (.st 9), (.st 14)], [q89]⟩
def q8b (x : ts) : (Int × swing_mooring) → tv := fun y0 => (y0.1, x.2.2.1, x.2.2.2.1, x.2.2.2.2.1, x.2.2.2.2.2.1, x.2.2.2.2.2.2.1, x.2.2.2.2.2.2.2.1, x.2.2.2.2.2.2.2.2.1, x.2.2.2.2.2.2.2.2.2.1, x.2.2.2.2.2.2.2.2.2.2.1, x.2.2.2.2.2.2.2.2.2.2.2.1, x.2.2.2.2.2.2.2.2.2.2.2.2.1, x.2.2.2.2.2.2.2.2.2.2.2.2.2.1, y0.2)
noncomputable def q8c {R : Type} (x : ts) (k : tv → Option R) : Option R := (swing_open_L1_run x.2.2.1 x.2.2.2.1 x.2.2.2.2.1 x.2.2.2.2.2.1 x.2.2.2.2.2.2.1 x.2.2.2.2.2.2.2.1 x.2.2.2.2.2.2.2.2.1 x.2.2.2.2.2.2.2.2.2.1 x.2.2.2.2.2.2.2.2.2.2.1 x.2.2.2.2.2.2.2.2.2.2.2.1 x.2.2.2.2.2.2.2.2.2.2.2.2.1 x.2.2.2.2.2.2.2.2.2.2.2.2.2.1 (x.1, x.2.1, x.2.2.2.2.2.2.2.2.2.2.2.2.2.2)).bind (fun y0 => k (y0.1, x.2.2.1, x.2.2.2.1, x.2.2.2.2.1, x.2.2.2.2.2.1, x.2.2.2.2.2.2.1, x.2.2.2.2.2.2.2.1, x.2.2.2.2.2.2.2.2.1, x.2.2.2.2.2.2.2.2.2.1, x.2.2.2.2.2.2.2.2.2.2.1, x.2.2.2.2.2.2.2.2.2.2.2.1, x.2.2.2.2.2.2.2.2.2.2.2.2.1, x.2.2.2.2.2.2.2.2.2.2.2.2.2.1, y0.2))
def q8d (x : ts) (v : (Int × Int × swing_mooring)) : ts := (v.1, v.2.1, x.2.2.1, x.2.2.2.1, x.2.2.2.2.1, x.2.2.2.2.2.1, x.2.2.2.2.2.2.1, x.2.2.2.2.2.2.2.1, x.2.2.2.2.2.2.2.2.1, x.2.2.2.2.2.2.2.2.2.1, x.2.2.2.2.2.2.2.2.2.2.1, x.2.2.2.2.2.2.2.2.2.2.2.1, x.2.2.2.2.2.2.2.2.2.2.2.2.1, x.2.2.2.2.2.2.2.2.2.2.2.2.2.1, v.2.2)
theorem q8e (x : ts) : LE.step X q8a q83 q85 12 x = swing_open_L1_step x.2.2.1 x.2.2.2.1 x.2.2.2.2.1 x.2.2.2.2.2.1 x.2.2.2.2.2.2.1 x.2.2.2.2.2.2.2.1 x.2.2.2.2.2.2.2.2.1 x.2.2.2.2.2.2.2.2.2.1 x.2.2.2.2.2.2.2.2.2.2.1 x.2.2.2.2.2.2.2.2.2.2.2.1 x.2.2.2.2.2.2.2.2.2.2.2.2.1 x.2.2.2.2.2.2.2.2.2.2.2.2.2.1 x.1 x.2.1 x.2.2.2.2.2.2.2.2.2.2.2.2.2.2 (fun w0 w1 w2 => (Sum.inl (w0, w1, x.2.2.1, x.2.2.2.1, x.2.2.2.2.1, x.2.2.2.2.2.1, x.2.2.2.2.2.2.1, x.2.2.2.2.2.2.2.1, x.2.2.2.2.2.2.2.2.1, x.2.2.2.2.2.2.2.2.2.1, x.2.2.2.2.2.2.2.2.2.2.1, x.2.2.2.2.2.2.2.2.2.2.2.1, x.2.2.2.2.2.2.2.2.2.2.2.2.1, x.2.2.2.2.2.2.2.2.2.2.2.2.2.1, w2))) (fun p0 p1 => (Sum.inr (p0, x.2.2.1, x.2.2.2.1, x.2.2.2.2.1, x.2.2.2.2.2.1, x.2.2.2.2.2.2.1, x.2.2.2.2.2.2.2.1, x.2.2.2.2.2.2.2.2.1, x.2.2.2.2.2.2.2.2.2.1, x.2.2.2.2.2.2.2.2.2.2.1, x.2.2.2.2.2.2.2.2.2.2.2.1, x.2.2.2.2.2.2.2.2.2.2.2.2.1, x.2.2.2.2.2.2.2.2.2.2.2.2.2.1, p1))):=by kernel_rfl
theorem q8g {R : Type} (x : ts) (k : tv → Option R) (r : R) (h : q8c x k = some r) : ∃ o, Runs (LE.step X q8a q83 q85 12) x o ∧ k o = some r := by
  obtain ⟨o, h1, h2⟩ := some_bind h
  exact ⟨q8b x o, small_ok (st := fun (x : ts) => swing_open_L1_st x.2.2.1 x.2.2.2.1 x.2.2.2.2.1 x.2.2.2.2.2.1 x.2.2.2.2.2.2.1 x.2.2.2.2.2.2.2.1 x.2.2.2.2.2.2.2.2.1 x.2.2.2.2.2.2.2.2.2.1 x.2.2.2.2.2.2.2.2.2.2.1 x.2.2.2.2.2.2.2.2.2.2.2.1 x.2.2.2.2.2.2.2.2.2.2.2.2.1 x.2.2.2.2.2.2.2.2.2.2.2.2.2.1) (prj := fun x => (x.1, x.2.1, x.2.2.2.2.2.2.2.2.2.2.2.2.2.2)) (emb := q8d) (embO := q8b) (fun x => (q8e x).trans (by unfold swing_open_L1_st swing_open_L1_step; simp only [map_cond,map_bindO,map_elim,Option.map_some,Option.map_none]; rfl)) (fun _ _ => rfl) (fun _ _ => rfl) (fun _ _ _ => rfl) (fun _ _ _ => rfl) (fun _ => rfl) (runOf_some.1 h1), by
    first
    | exact h2
    | (rcases o with o <;> exact h2)⟩
noncomputable def q8h {R : Type} : Loops S R := LE.ls X q8a q8c q85
theorem q8i {R : Type} : LoopsOk X (q8h (R := R)) := loop_ok xok q84 (e := q8a) q86 q8g q86
def q8j : Key := ⟨[108, 0, 76], 108, none, [0, 0, 1, 1], 0, 19⟩
def q8k : StT S := ⟨v17, o1c, 19⟩
def q8l : Way S := ⟨(.exit 0), ⟨L, o1c, 24⟩, [.int, .int, .int, .int, .int, .int, .int, (.arr (.int .u64)), (.st 6), (.st 9), (.st 9), (.st 14)]⟩
def q8m : LE S := ⟨q8j, q8k, [.int, .int, .int, .int, .int, .int, .int, .int, .int, (.arr (.int .u64)), (.st 6), (.st 9), (.st 9), (.st 14)], [q8l]⟩
def q8n (x : tv) : swing_mooring → tw := fun y0 => (x.2.2.1, x.2.2.2.1, x.2.2.2.2.1, x.2.2.2.2.2.1, x.2.2.2.2.2.2.1, x.2.2.2.2.2.2.2.1, x.2.2.2.2.2.2.2.2.1, x.2.2.2.2.2.2.2.2.2.1, x.2.2.2.2.2.2.2.2.2.2.1, x.2.2.2.2.2.2.2.2.2.2.2.1, x.2.2.2.2.2.2.2.2.2.2.2.2.1, y0)
noncomputable def q8o {R : Type} (x : tv) (k : tw → Option R) : Option R := (swing_open_L0_run x.2.2.1 x.2.2.2.1 x.2.2.2.2.1 x.2.2.2.2.2.1 x.2.2.2.2.2.2.1 x.2.2.2.2.2.2.2.1 x.2.2.2.2.2.2.2.2.1 x.2.2.2.2.2.2.2.2.2.1 x.2.2.2.2.2.2.2.2.2.2.1 x.2.2.2.2.2.2.2.2.2.2.2.1 x.2.2.2.2.2.2.2.2.2.2.2.2.1 (x.1, x.2.1, x.2.2.2.2.2.2.2.2.2.2.2.2.2)).bind (fun y0 => k (x.2.2.1, x.2.2.2.1, x.2.2.2.2.1, x.2.2.2.2.2.1, x.2.2.2.2.2.2.1, x.2.2.2.2.2.2.2.1, x.2.2.2.2.2.2.2.2.1, x.2.2.2.2.2.2.2.2.2.1, x.2.2.2.2.2.2.2.2.2.2.1, x.2.2.2.2.2.2.2.2.2.2.2.1, x.2.2.2.2.2.2.2.2.2.2.2.2.1, y0))
def q8p (x : tv) (v : (Int × Int × swing_mooring)) : tv := (v.1, v.2.1, x.2.2.1, x.2.2.2.1, x.2.2.2.2.1, x.2.2.2.2.2.1, x.2.2.2.2.2.2.1, x.2.2.2.2.2.2.2.1, x.2.2.2.2.2.2.2.2.1, x.2.2.2.2.2.2.2.2.2.1, x.2.2.2.2.2.2.2.2.2.2.1, x.2.2.2.2.2.2.2.2.2.2.2.1, x.2.2.2.2.2.2.2.2.2.2.2.2.1, v.2.2)
theorem q8q (x : tv) : LE.step X q8m q83 q8h 12 x = swing_open_L0_step x.2.2.1 x.2.2.2.1 x.2.2.2.2.1 x.2.2.2.2.2.1 x.2.2.2.2.2.2.1 x.2.2.2.2.2.2.2.1 x.2.2.2.2.2.2.2.2.1 x.2.2.2.2.2.2.2.2.2.1 x.2.2.2.2.2.2.2.2.2.2.1 x.2.2.2.2.2.2.2.2.2.2.2.1 x.2.2.2.2.2.2.2.2.2.2.2.2.1 x.1 x.2.1 x.2.2.2.2.2.2.2.2.2.2.2.2.2 (fun w0 w1 w2 => (Sum.inl (w0, w1, x.2.2.1, x.2.2.2.1, x.2.2.2.2.1, x.2.2.2.2.2.1, x.2.2.2.2.2.2.1, x.2.2.2.2.2.2.2.1, x.2.2.2.2.2.2.2.2.1, x.2.2.2.2.2.2.2.2.2.1, x.2.2.2.2.2.2.2.2.2.2.1, x.2.2.2.2.2.2.2.2.2.2.2.1, x.2.2.2.2.2.2.2.2.2.2.2.2.1, w2))) (fun p0 => (Sum.inr (x.2.2.1, x.2.2.2.1, x.2.2.2.2.1, x.2.2.2.2.2.1, x.2.2.2.2.2.2.1, x.2.2.2.2.2.2.2.1, x.2.2.2.2.2.2.2.2.1, x.2.2.2.2.2.2.2.2.2.1, x.2.2.2.2.2.2.2.2.2.2.1, x.2.2.2.2.2.2.2.2.2.2.2.1, x.2.2.2.2.2.2.2.2.2.2.2.2.1, p0))):=by kernel_rfl
theorem q8s {R : Type} (x : tv) (k : tw → Option R) (r : R) (h : q8o x k = some r) : ∃ o, Runs (LE.step X q8m q83 q8h 12) x o ∧ k o = some r := by
  obtain ⟨o, h1, h2⟩ := some_bind h
  exact ⟨q8n x o, small_ok (st := fun (x : tv) => swing_open_L0_st x.2.2.1 x.2.2.2.1 x.2.2.2.2.1 x.2.2.2.2.2.1 x.2.2.2.2.2.2.1 x.2.2.2.2.2.2.2.1 x.2.2.2.2.2.2.2.2.1 x.2.2.2.2.2.2.2.2.2.1 x.2.2.2.2.2.2.2.2.2.2.1 x.2.2.2.2.2.2.2.2.2.2.2.1 x.2.2.2.2.2.2.2.2.2.2.2.2.1) (prj := fun x => (x.1, x.2.1, x.2.2.2.2.2.2.2.2.2.2.2.2.2)) (emb := q8p) (embO := q8n) (fun x => (q8q x).trans (by unfold swing_open_L0_st swing_open_L0_step; simp only [map_cond,map_bindO,map_elim,Option.map_some,Option.map_none]; rfl)) (fun _ _ => rfl) (fun _ _ => rfl) (fun _ _ _ => rfl) (fun _ _ _ => rfl) (fun _ => rfl) (runOf_some.1 h1), by
    first
    | exact h2
    | (rcases o with o <;> exact h2)⟩
noncomputable def q8t {R : Type} : Loops S R := LE.ls X q8m q8o q8h
theorem q8u {R : Type} : LoopsOk X (q8t (R := R)) := loop_ok xok q84 (e := q8m) q8i q8s q8i
theorem q8v (x0 : SgMooring) : evFn X q83 [(.st 9)] [(.st 14)] q8t 12 76 (x0, ()) = swing_open x0:=by kernel_rfl
noncomputable def q8w : F7 S := ⟨[(.st 9)], [(.st 14)], fun xs => swing_open xs.1⟩
theorem q8x : FSOk X 76 q8w := fsOk_eq (evFn_ok xok q84 q8u 12 76) fun xs _ h => (q8v xs.1).trans h
noncomputable def q8y : List (Nat × F7 S) := []
theorem q8z : TabOk X (q8y) := trivial
abbrev q8A {R : Type} : Loops S R := noLoops
theorem q8B {R : Type} : LoopsOk X (q8A (R := R)) := noLoops_ok X
theorem q8C : evFn X q8y [] [(.arr 8 (.st 2))] q8A 12 131 (()) = chart_quarter:=by kernel_rfl
noncomputable def q8D : F7 S := ⟨[], [(.arr 8 (.st 2))], fun xs => chart_quarter⟩
theorem q8E : FSOk X 131 q8D := fsOk_eq (evFn_ok xok q8z q8B 12 131) fun xs _ h => (q8C).trans h
noncomputable def q8F : List (Nat × F7 S) := [(124, qC), (131, q8D)]
theorem q8G : TabOk X (q8F) := ⟨qD, q8E, trivial⟩
abbrev q8H {R : Type} : Loops S R := noLoops
theorem q8I {R : Type} : LoopsOk X (q8H (R := R)) := noLoops_ok X
def q8J : Key := ⟨[112], 112, none, [0, 0, 1, 0, 1, 1, 1], 0, 14⟩
def q8K : StT S := ⟨(N v1h none (N (N L (some (.ptr 9 0)) L) (some (.ptr 0 0)) (N L none (N L vJ L)))), (N (N (N L ot L) none (N (N L oj L) none L)) oj L), 14⟩
def q8L : Way S := ⟨(.exit 0), ⟨(N L none (N (N L (some (.ptr 9 0)) L) (some (.ptr 0 0)) L)), (N (N (N L ot L) none (N (N L oj L) none L)) oj L), 15⟩, [(.lst (.int .i64)), (.st 2), (.st 2)]⟩
def q8M : LE S := ⟨q8J, q8K, [.int, .int, (.lst (.int .i64)), (.st 2), (.st 2)], [q8L]⟩
def q8N (x : tN) : Point → ((List Int) × Point × Point) := fun y0 => (x.2.2.1, y0, x.2.2.2.2)
noncomputable def q8O {R : Type} (x : tN) (k : ((List Int) × Point × Point) → Option R) : Option R := (chart_Vector_L0_run x.2.1 x.2.2.1 x.2.2.2.2 (x.1, x.2.2.2.1)).bind (fun y0 => k (x.2.2.1, y0, x.2.2.2.2))
def q8P (x : tN) (v : (Int × Point)) : tN := (v.1, x.2.1, x.2.2.1, v.2, x.2.2.2.2)
theorem q8Q (x : tN) : LE.step X q8M q8F q8H 12 x = chart_Vector_L0_step x.2.1 x.2.2.1 x.2.2.2.2 x.1 x.2.2.2.1 (fun w0 w1 => (Sum.inl (w0, x.2.1, x.2.2.1, w1, x.2.2.2.2))) (fun p0 => (Sum.inr (x.2.2.1, p0, x.2.2.2.2))):=by kernel_rfl
theorem q8S {R : Type} (x : tN) (k : ((List Int) × Point × Point) → Option R) (r : R) (h : q8O x k = some r) : ∃ o, Runs (LE.step X q8M q8F q8H 12) x o ∧ k o = some r := by
  obtain ⟨o, h1, h2⟩ := some_bind h
  exact ⟨q8N x o, small_ok (st := fun (x : tN) => chart_Vector_L0_st x.2.1 x.2.2.1 x.2.2.2.2) (prj := fun x => (x.1, x.2.2.2.1)) (emb := q8P) (embO := q8N) (fun x => (q8Q x).trans (by unfold chart_Vector_L0_st chart_Vector_L0_step; simp only [map_cond,map_bindO,map_elim,Option.map_some,Option.map_none]; rfl)) (fun _ _ => rfl) (fun _ _ => rfl) (fun _ _ _ => rfl) (fun _ _ _ => rfl) (fun _ => rfl) (runOf_some.1 h1), by
    first
    | exact h2
    | (rcases o with o <;> exact h2)⟩
noncomputable def q8T {R : Type} : Loops S R := LE.ls X q8M q8O q8H
theorem q8U {R : Type} : LoopsOk X (q8T (R := R)) := loop_ok xok q8G (e := q8M) q8I q8S q8I
theorem q8V (x0 : Int) : evFn X q8F [(.int .i64)] [(.st 2), (.int .i64)] q8T 12 112 (x0, ()) = chart_Vector x0:=by kernel_rfl
noncomputable def q8W : F7 S := ⟨[(.int .i64)], [(.st 2), (.int .i64)], fun xs => chart_Vector xs.1⟩
theorem q8X : FSOk X 112 q8W := fsOk_eq (evFn_ok xok q8G q8U 12 112) fun xs _ h => (q8V xs.1).trans h
noncomputable def q8Y : List (Nat × F7 S) := [(62, q35), (112, q8W)]
theorem q8Z : TabOk X (q8Y) := ⟨q36, q8X, trivial⟩
abbrev q90 {R : Type} : Loops S R := noLoops
theorem q91 {R : Type} : LoopsOk X (q90 (R := R)) := noLoops_ok X
def q92 : Key := ⟨[77], 77, none, [0, 0, 1, 0, 1, 1, 1, 1, 1, 1], 0, 89⟩
def q93 : StT S := ⟨(N (N (N L none (N L (some (.fn (.func 111) [] [(.ptr 16 0)])) L)) none (N L (some (.ptr 1 0)) L)) none v1m), oU, 89⟩
def q94 : Way S := ⟨.ret, ⟨(N L none (N (N (N L vI L) none L) none L)), (N (N (N L oj (N L none (N L none (N L none (N L oj L))))) oe (N L none o1o)) od (N (N (N (N L oj L) none (N (N L ot L) none L)) none (N L none o1l)) oj (N (N (N L none (N (N (N L oj L) none L) none L)) none L) none L))), 163⟩, [.bool, (.st 2), (.st 2), (.st 10), (.lst (.int .i64)), (.st 14), (.st 2), (.lst (.int .i64)), (.lst (.int .i64)), (.st 2), (.st 2)]⟩
def q95 : Way S := ⟨(.exit 0), ⟨L, oU, 93⟩, [(.st 2), (.st 10), (.lst (.int .i64)), (.st 14), (.st 2), (.lst (.int .i64)), (.lst (.int .i64)), (.st 2)]⟩
def q96 : LE S := ⟨q92, q93, [.int, (.st 2), (.st 10), (.lst (.int .i64)), (.st 14), (.st 2), (.lst (.int .i64)), (.lst (.int .i64)), (.st 2)], [q94, q95]⟩
def q97 (x : tx) : ((Bool × Point × Point) ⊕ Unit) → tc := Sum.elim (fun y0 => (.inl (y0.1, x.2.1, y0.2.1, x.2.2.1, x.2.2.2.1, x.2.2.2.2.1, x.2.2.2.2.2.1, x.2.2.2.2.2.2.1, x.2.2.2.2.2.2.2.1, x.2.2.2.2.2.2.2.2, y0.2.2))) (fun y1 => (.inr (x.2.1, x.2.2.1, x.2.2.2.1, x.2.2.2.2.1, x.2.2.2.2.2.1, x.2.2.2.2.2.2.1, x.2.2.2.2.2.2.2.1, x.2.2.2.2.2.2.2.2)))
noncomputable def q98 {R : Type} (x : tx) (k : tc → Option R) : Option R := (swing_mooring_lies_L0_run x.2.1 x.2.2.1 x.2.2.2.1 x.2.2.2.2.1 x.2.2.2.2.2.1 x.2.2.2.2.2.2.1 x.2.2.2.2.2.2.2.1 x.2.2.2.2.2.2.2.2 x.1).bind (Sum.elim (fun y0 => k (.inl (y0.1, x.2.1, y0.2.1, x.2.2.1, x.2.2.2.1, x.2.2.2.2.1, x.2.2.2.2.2.1, x.2.2.2.2.2.2.1, x.2.2.2.2.2.2.2.1, x.2.2.2.2.2.2.2.2, y0.2.2))) (fun y1 => k (.inr (x.2.1, x.2.2.1, x.2.2.2.1, x.2.2.2.2.1, x.2.2.2.2.2.1, x.2.2.2.2.2.2.1, x.2.2.2.2.2.2.2.1, x.2.2.2.2.2.2.2.2))))
def q99 (x : tx) (v : Int) : tx := (v, x.2.1, x.2.2.1, x.2.2.2.1, x.2.2.2.2.1, x.2.2.2.2.2.1, x.2.2.2.2.2.2.1, x.2.2.2.2.2.2.2.1, x.2.2.2.2.2.2.2.2)
theorem q9a (x : tx) : LE.step X q96 q8Y q90 12 x = swing_mooring_lies_L0_step x.2.1 x.2.2.1 x.2.2.2.1 x.2.2.2.2.1 x.2.2.2.2.2.1 x.2.2.2.2.2.2.1 x.2.2.2.2.2.2.2.1 x.2.2.2.2.2.2.2.2 x.1 (fun w0 => (Sum.inl (w0, x.2.1, x.2.2.1, x.2.2.2.1, x.2.2.2.2.1, x.2.2.2.2.2.1, x.2.2.2.2.2.2.1, x.2.2.2.2.2.2.2.1, x.2.2.2.2.2.2.2.2))) (fun p0 p1 p2 => (Sum.inr (.inl (p0, x.2.1, p1, x.2.2.1, x.2.2.2.1, x.2.2.2.2.1, x.2.2.2.2.2.1, x.2.2.2.2.2.2.1, x.2.2.2.2.2.2.2.1, x.2.2.2.2.2.2.2.2, p2)))) (Sum.inr (.inr (x.2.1, x.2.2.1, x.2.2.2.1, x.2.2.2.2.1, x.2.2.2.2.2.1, x.2.2.2.2.2.2.1, x.2.2.2.2.2.2.2.1, x.2.2.2.2.2.2.2.2))):=by kernel_rfl
theorem q9c {R : Type} (x : tx) (k : tc → Option R) (r : R) (h : q98 x k = some r) : ∃ o, Runs (LE.step X q96 q8Y q90 12) x o ∧ k o = some r := by
  obtain ⟨o, h1, h2⟩ := some_bind h
  exact ⟨q97 x o, small_ok (st := fun (x : tx) => swing_mooring_lies_L0_st x.2.1 x.2.2.1 x.2.2.2.1 x.2.2.2.2.1 x.2.2.2.2.2.1 x.2.2.2.2.2.2.1 x.2.2.2.2.2.2.2.1 x.2.2.2.2.2.2.2.2) (prj := fun x => x.1) (emb := q99) (embO := q97) (fun x => (q9a x).trans (by unfold swing_mooring_lies_L0_st swing_mooring_lies_L0_step; simp only [map_cond,map_bindO,map_elim,Option.map_some,Option.map_none]; rfl)) (fun _ _ => rfl) (fun _ _ => rfl) (fun _ _ _ => rfl) (fun _ _ _ => rfl) (fun _ => rfl) (runOf_some.1 h1), by
    first
    | exact h2
    | (rcases o with o | o <;> exact h2)⟩
noncomputable def q9d {R : Type} : Loops S R := LE.ls X q96 q98 q90
theorem q9e {R : Type} : LoopsOk X (q9d (R := R)) := loop_ok xok q8Z (e := q96) q91 q9c q91
theorem q9f (x0 : swing_mooring) (x1 : SgLook) (x2 : Point) (x3 : Point) : evFn X q8Y [(.st 14), (.st 10), (.st 2), (.st 2)] [.bool] q9d 12 77 (x0, x1, x2, x3, ()) = swing_mooring_lies x0 x1 x2 x3:=by kernel_rfl
noncomputable def q9g : F7 S := ⟨[(.st 14), (.st 10), (.st 2), (.st 2)], [.bool], fun xs => swing_mooring_lies xs.1 xs.2.1 xs.2.2.1 xs.2.2.2.1⟩
theorem q9h : FSOk X 77 q9g := fsOk_eq (evFn_ok xok q8Z q9e 12 77) fun xs _ h => (q9f xs.1 xs.2.1 xs.2.2.1 xs.2.2.2.1).trans h
noncomputable def q9i : List (Nat × F7 S) := [(77, q9g)]
theorem q9j : TabOk X (q9i) := ⟨q9h, trivial⟩
abbrev q9k {R : Type} : Loops S R := noLoops
theorem q9l {R : Type} : LoopsOk X (q9k (R := R)) := noLoops_ok X
def q9m : Key := ⟨[108, 2, 11, 5, 7, 108, 0, 107], 108, none, [0, 0, 1, 0, 0, 1, 0, 0, 1, 1], 2, 64⟩
def q9n : StT S := ⟨(N (N (N L vJ L) (some (.ptr 45 0)) (N L vJ L)) (some (.yld 49)) (N (N L vJ L) none L)), oR, 64⟩
def q9o : Way S := ⟨.ret, ⟨L, oL, 98⟩, [(.st 6), (.st 10), (.st 14), (.st 10), (.st 10), .int, (.st 14), .int, .int, (.st 6), (.st 14), (.st 2), (.st 2), (.arr (.int .u64)), .int]⟩
def q9p : Way S := ⟨(.exit 2), ⟨v13, oR, 69⟩, [.int, .int, (.st 6), (.st 10), (.st 14), (.st 10), (.st 10), .int, (.st 14), .int, .int, (.st 6), (.st 14), (.st 2), (.arr (.int .u64)), .int]⟩
def q9q : LE S := ⟨q9m, q9n, [.int, .int, .int, (.st 6), (.st 10), (.st 14), (.st 10), (.st 10), .int, (.st 14), .int, .int, (.st 6), (.st 14), (.st 2), (.arr (.int .u64)), .int], [q9o, q9p]⟩
def q9r (x : tj) : ((Point × (Nat → Int)) ⊕ Int) → t6 := Sum.elim (fun y0 => (.inl (x.2.2.2.1, x.2.2.2.2.1, x.2.2.2.2.2.1, x.2.2.2.2.2.2.1, x.2.2.2.2.2.2.2.1, x.2.2.2.2.2.2.2.2.1, x.2.2.2.2.2.2.2.2.2.1, x.2.2.2.2.2.2.2.2.2.2.1, x.2.2.2.2.2.2.2.2.2.2.2.1, x.2.2.2.2.2.2.2.2.2.2.2.2.1, x.2.2.2.2.2.2.2.2.2.2.2.2.2.1, x.2.2.2.2.2.2.2.2.2.2.2.2.2.2.1, y0.1, y0.2, x.2.2.2.2.2.2.2.2.2.2.2.2.2.2.2.2))) (fun y1 => (.inr (y1, x.2.2.1, x.2.2.2.1, x.2.2.2.2.1, x.2.2.2.2.2.1, x.2.2.2.2.2.2.1, x.2.2.2.2.2.2.2.1, x.2.2.2.2.2.2.2.2.1, x.2.2.2.2.2.2.2.2.2.1, x.2.2.2.2.2.2.2.2.2.2.1, x.2.2.2.2.2.2.2.2.2.2.2.1, x.2.2.2.2.2.2.2.2.2.2.2.2.1, x.2.2.2.2.2.2.2.2.2.2.2.2.2.1, x.2.2.2.2.2.2.2.2.2.2.2.2.2.2.1, x.2.2.2.2.2.2.2.2.2.2.2.2.2.2.2.1, x.2.2.2.2.2.2.2.2.2.2.2.2.2.2.2.2)))
noncomputable def q9s {R : Type} (x : tj) (k : t6 → Option R) : Option R := (swing_mooring_held_L3_run x.2.2.1 x.2.2.2.1 x.2.2.2.2.1 x.2.2.2.2.2.1 x.2.2.2.2.2.2.1 x.2.2.2.2.2.2.2.1 x.2.2.2.2.2.2.2.2.1 x.2.2.2.2.2.2.2.2.2.1 x.2.2.2.2.2.2.2.2.2.2.1 x.2.2.2.2.2.2.2.2.2.2.2.1 x.2.2.2.2.2.2.2.2.2.2.2.2.1 x.2.2.2.2.2.2.2.2.2.2.2.2.2.1 x.2.2.2.2.2.2.2.2.2.2.2.2.2.2.1 x.2.2.2.2.2.2.2.2.2.2.2.2.2.2.2.1 x.2.2.2.2.2.2.2.2.2.2.2.2.2.2.2.2 (x.1, x.2.1)).bind (Sum.elim (fun y0 => k (.inl (x.2.2.2.1, x.2.2.2.2.1, x.2.2.2.2.2.1, x.2.2.2.2.2.2.1, x.2.2.2.2.2.2.2.1, x.2.2.2.2.2.2.2.2.1, x.2.2.2.2.2.2.2.2.2.1, x.2.2.2.2.2.2.2.2.2.2.1, x.2.2.2.2.2.2.2.2.2.2.2.1, x.2.2.2.2.2.2.2.2.2.2.2.2.1, x.2.2.2.2.2.2.2.2.2.2.2.2.2.1, x.2.2.2.2.2.2.2.2.2.2.2.2.2.2.1, y0.1, y0.2, x.2.2.2.2.2.2.2.2.2.2.2.2.2.2.2.2))) (fun y1 => k (.inr (y1, x.2.2.1, x.2.2.2.1, x.2.2.2.2.1, x.2.2.2.2.2.1, x.2.2.2.2.2.2.1, x.2.2.2.2.2.2.2.1, x.2.2.2.2.2.2.2.2.1, x.2.2.2.2.2.2.2.2.2.1, x.2.2.2.2.2.2.2.2.2.2.1, x.2.2.2.2.2.2.2.2.2.2.2.1, x.2.2.2.2.2.2.2.2.2.2.2.2.1, x.2.2.2.2.2.2.2.2.2.2.2.2.2.1, x.2.2.2.2.2.2.2.2.2.2.2.2.2.2.1, x.2.2.2.2.2.2.2.2.2.2.2.2.2.2.2.1, x.2.2.2.2.2.2.2.2.2.2.2.2.2.2.2.2))))
def q9t (x : tj) (v : (Int × Int)) : tj := (v.1, v.2, x.2.2.1, x.2.2.2.1, x.2.2.2.2.1, x.2.2.2.2.2.1, x.2.2.2.2.2.2.1, x.2.2.2.2.2.2.2.1, x.2.2.2.2.2.2.2.2.1, x.2.2.2.2.2.2.2.2.2.1, x.2.2.2.2.2.2.2.2.2.2.1, x.2.2.2.2.2.2.2.2.2.2.2.1, x.2.2.2.2.2.2.2.2.2.2.2.2.1, x.2.2.2.2.2.2.2.2.2.2.2.2.2.1, x.2.2.2.2.2.2.2.2.2.2.2.2.2.2.1, x.2.2.2.2.2.2.2.2.2.2.2.2.2.2.2.1, x.2.2.2.2.2.2.2.2.2.2.2.2.2.2.2.2)
theorem q9u (x : tj) : LE.step X q9q q9i q9k 12 x = swing_mooring_held_L3_step x.2.2.1 x.2.2.2.1 x.2.2.2.2.1 x.2.2.2.2.2.1 x.2.2.2.2.2.2.1 x.2.2.2.2.2.2.2.1 x.2.2.2.2.2.2.2.2.1 x.2.2.2.2.2.2.2.2.2.1 x.2.2.2.2.2.2.2.2.2.2.1 x.2.2.2.2.2.2.2.2.2.2.2.1 x.2.2.2.2.2.2.2.2.2.2.2.2.1 x.2.2.2.2.2.2.2.2.2.2.2.2.2.1 x.2.2.2.2.2.2.2.2.2.2.2.2.2.2.1 x.2.2.2.2.2.2.2.2.2.2.2.2.2.2.2.1 x.2.2.2.2.2.2.2.2.2.2.2.2.2.2.2.2 x.1 x.2.1 (fun w0 w1 => (Sum.inl (w0, w1, x.2.2.1, x.2.2.2.1, x.2.2.2.2.1, x.2.2.2.2.2.1, x.2.2.2.2.2.2.1, x.2.2.2.2.2.2.2.1, x.2.2.2.2.2.2.2.2.1, x.2.2.2.2.2.2.2.2.2.1, x.2.2.2.2.2.2.2.2.2.2.1, x.2.2.2.2.2.2.2.2.2.2.2.1, x.2.2.2.2.2.2.2.2.2.2.2.2.1, x.2.2.2.2.2.2.2.2.2.2.2.2.2.1, x.2.2.2.2.2.2.2.2.2.2.2.2.2.2.1, x.2.2.2.2.2.2.2.2.2.2.2.2.2.2.2.1, x.2.2.2.2.2.2.2.2.2.2.2.2.2.2.2.2))) (fun p0 p1 => (Sum.inr (.inl (x.2.2.2.1, x.2.2.2.2.1, x.2.2.2.2.2.1, x.2.2.2.2.2.2.1, x.2.2.2.2.2.2.2.1, x.2.2.2.2.2.2.2.2.1, x.2.2.2.2.2.2.2.2.2.1, x.2.2.2.2.2.2.2.2.2.2.1, x.2.2.2.2.2.2.2.2.2.2.2.1, x.2.2.2.2.2.2.2.2.2.2.2.2.1, x.2.2.2.2.2.2.2.2.2.2.2.2.2.1, x.2.2.2.2.2.2.2.2.2.2.2.2.2.2.1, p0, p1, x.2.2.2.2.2.2.2.2.2.2.2.2.2.2.2.2)))) (fun p0 => (Sum.inr (.inr (p0, x.2.2.1, x.2.2.2.1, x.2.2.2.2.1, x.2.2.2.2.2.1, x.2.2.2.2.2.2.1, x.2.2.2.2.2.2.2.1, x.2.2.2.2.2.2.2.2.1, x.2.2.2.2.2.2.2.2.2.1, x.2.2.2.2.2.2.2.2.2.2.1, x.2.2.2.2.2.2.2.2.2.2.2.1, x.2.2.2.2.2.2.2.2.2.2.2.2.1, x.2.2.2.2.2.2.2.2.2.2.2.2.2.1, x.2.2.2.2.2.2.2.2.2.2.2.2.2.2.1, x.2.2.2.2.2.2.2.2.2.2.2.2.2.2.2.1, x.2.2.2.2.2.2.2.2.2.2.2.2.2.2.2.2)))):=by kernel_rfl
theorem q9w {R : Type} (x : tj) (k : t6 → Option R) (r : R) (h : q9s x k = some r) : ∃ o, Runs (LE.step X q9q q9i q9k 12) x o ∧ k o = some r := by
  obtain ⟨o, h1, h2⟩ := some_bind h
  exact ⟨q9r x o, small_ok (st := fun (x : tj) => swing_mooring_held_L3_st x.2.2.1 x.2.2.2.1 x.2.2.2.2.1 x.2.2.2.2.2.1 x.2.2.2.2.2.2.1 x.2.2.2.2.2.2.2.1 x.2.2.2.2.2.2.2.2.1 x.2.2.2.2.2.2.2.2.2.1 x.2.2.2.2.2.2.2.2.2.2.1 x.2.2.2.2.2.2.2.2.2.2.2.1 x.2.2.2.2.2.2.2.2.2.2.2.2.1 x.2.2.2.2.2.2.2.2.2.2.2.2.2.1 x.2.2.2.2.2.2.2.2.2.2.2.2.2.2.1 x.2.2.2.2.2.2.2.2.2.2.2.2.2.2.2.1 x.2.2.2.2.2.2.2.2.2.2.2.2.2.2.2.2) (prj := fun x => (x.1, x.2.1)) (emb := q9t) (embO := q9r) (fun x => (q9u x).trans (by unfold swing_mooring_held_L3_st swing_mooring_held_L3_step; simp only [map_cond,map_bindO,map_elim,Option.map_some,Option.map_none]; rfl)) (fun _ _ => rfl) (fun _ _ => rfl) (fun _ _ _ => rfl) (fun _ _ _ => rfl) (fun _ => rfl) (runOf_some.1 h1), by
    first
    | exact h2
    | (rcases o with o | o <;> exact h2)⟩
noncomputable def q9x {R : Type} : Loops S R := LE.ls X q9q q9s q9k
theorem q9y {R : Type} : LoopsOk X (q9x (R := R)) := loop_ok xok q9j (e := q9q) q9l q9w q9l
def q9z : Key := ⟨[108, 2, 11, 5, 7, 108, 0, 107], 108, none, [0, 0, 1, 1], 0, 55⟩
def q9A : StT S := ⟨v13, oR, 55⟩
def q9B : Way S := ⟨.ret, ⟨L, oL, 98⟩, [(.st 6), (.st 10), (.st 14), (.st 10), (.st 10), .int, (.st 14), .int, .int, (.st 6), (.st 14), (.st 2), (.st 2), (.arr (.int .u64)), .int]⟩
def q9C : Way S := ⟨(.exit 0), ⟨L, oR, 60⟩, [(.st 6), (.st 10), (.st 14), (.st 10), (.st 10), .int, (.st 14), .int, .int, (.st 6), (.st 14), (.st 2), (.arr (.int .u64)), .int]⟩
def q9D : LE S := ⟨q9z, q9A, [.int, .int, (.st 6), (.st 10), (.st 14), (.st 10), (.st 10), .int, (.st 14), .int, .int, (.st 6), (.st 14), (.st 2), (.arr (.int .u64)), .int], [q9B, q9C]⟩
def q9E (x : tl) : ((Point × (Nat → Int)) ⊕ Unit) → t7 := Sum.elim (fun y0 => (.inl (x.2.2.1, x.2.2.2.1, x.2.2.2.2.1, x.2.2.2.2.2.1, x.2.2.2.2.2.2.1, x.2.2.2.2.2.2.2.1, x.2.2.2.2.2.2.2.2.1, x.2.2.2.2.2.2.2.2.2.1, x.2.2.2.2.2.2.2.2.2.2.1, x.2.2.2.2.2.2.2.2.2.2.2.1, x.2.2.2.2.2.2.2.2.2.2.2.2.1, x.2.2.2.2.2.2.2.2.2.2.2.2.2.1, y0.1, y0.2, x.2.2.2.2.2.2.2.2.2.2.2.2.2.2.2))) (fun y1 => (.inr (x.2.2.1, x.2.2.2.1, x.2.2.2.2.1, x.2.2.2.2.2.1, x.2.2.2.2.2.2.1, x.2.2.2.2.2.2.2.1, x.2.2.2.2.2.2.2.2.1, x.2.2.2.2.2.2.2.2.2.1, x.2.2.2.2.2.2.2.2.2.2.1, x.2.2.2.2.2.2.2.2.2.2.2.1, x.2.2.2.2.2.2.2.2.2.2.2.2.1, x.2.2.2.2.2.2.2.2.2.2.2.2.2.1, x.2.2.2.2.2.2.2.2.2.2.2.2.2.2.1, x.2.2.2.2.2.2.2.2.2.2.2.2.2.2.2)))
noncomputable def q9F {R : Type} (x : tl) (k : t7 → Option R) : Option R := (swing_mooring_held_L2_run x.2.2.1 x.2.2.2.1 x.2.2.2.2.1 x.2.2.2.2.2.1 x.2.2.2.2.2.2.1 x.2.2.2.2.2.2.2.1 x.2.2.2.2.2.2.2.2.1 x.2.2.2.2.2.2.2.2.2.1 x.2.2.2.2.2.2.2.2.2.2.1 x.2.2.2.2.2.2.2.2.2.2.2.1 x.2.2.2.2.2.2.2.2.2.2.2.2.1 x.2.2.2.2.2.2.2.2.2.2.2.2.2.1 x.2.2.2.2.2.2.2.2.2.2.2.2.2.2.1 x.2.2.2.2.2.2.2.2.2.2.2.2.2.2.2 (x.1, x.2.1)).bind (Sum.elim (fun y0 => k (.inl (x.2.2.1, x.2.2.2.1, x.2.2.2.2.1, x.2.2.2.2.2.1, x.2.2.2.2.2.2.1, x.2.2.2.2.2.2.2.1, x.2.2.2.2.2.2.2.2.1, x.2.2.2.2.2.2.2.2.2.1, x.2.2.2.2.2.2.2.2.2.2.1, x.2.2.2.2.2.2.2.2.2.2.2.1, x.2.2.2.2.2.2.2.2.2.2.2.2.1, x.2.2.2.2.2.2.2.2.2.2.2.2.2.1, y0.1, y0.2, x.2.2.2.2.2.2.2.2.2.2.2.2.2.2.2))) (fun y1 => k (.inr (x.2.2.1, x.2.2.2.1, x.2.2.2.2.1, x.2.2.2.2.2.1, x.2.2.2.2.2.2.1, x.2.2.2.2.2.2.2.1, x.2.2.2.2.2.2.2.2.1, x.2.2.2.2.2.2.2.2.2.1, x.2.2.2.2.2.2.2.2.2.2.1, x.2.2.2.2.2.2.2.2.2.2.2.1, x.2.2.2.2.2.2.2.2.2.2.2.2.1, x.2.2.2.2.2.2.2.2.2.2.2.2.2.1, x.2.2.2.2.2.2.2.2.2.2.2.2.2.2.1, x.2.2.2.2.2.2.2.2.2.2.2.2.2.2.2))))
def q9G (x : tl) (v : (Int × Int)) : tl := (v.1, v.2, x.2.2.1, x.2.2.2.1, x.2.2.2.2.1, x.2.2.2.2.2.1, x.2.2.2.2.2.2.1, x.2.2.2.2.2.2.2.1, x.2.2.2.2.2.2.2.2.1, x.2.2.2.2.2.2.2.2.2.1, x.2.2.2.2.2.2.2.2.2.2.1, x.2.2.2.2.2.2.2.2.2.2.2.1, x.2.2.2.2.2.2.2.2.2.2.2.2.1, x.2.2.2.2.2.2.2.2.2.2.2.2.2.1, x.2.2.2.2.2.2.2.2.2.2.2.2.2.2.1, x.2.2.2.2.2.2.2.2.2.2.2.2.2.2.2)
theorem q9H (x : tl) : LE.step X q9D q9i q9x 12 x = swing_mooring_held_L2_step x.2.2.1 x.2.2.2.1 x.2.2.2.2.1 x.2.2.2.2.2.1 x.2.2.2.2.2.2.1 x.2.2.2.2.2.2.2.1 x.2.2.2.2.2.2.2.2.1 x.2.2.2.2.2.2.2.2.2.1 x.2.2.2.2.2.2.2.2.2.2.1 x.2.2.2.2.2.2.2.2.2.2.2.1 x.2.2.2.2.2.2.2.2.2.2.2.2.1 x.2.2.2.2.2.2.2.2.2.2.2.2.2.1 x.2.2.2.2.2.2.2.2.2.2.2.2.2.2.1 x.2.2.2.2.2.2.2.2.2.2.2.2.2.2.2 x.1 x.2.1 (fun w0 w1 => (Sum.inl (w0, w1, x.2.2.1, x.2.2.2.1, x.2.2.2.2.1, x.2.2.2.2.2.1, x.2.2.2.2.2.2.1, x.2.2.2.2.2.2.2.1, x.2.2.2.2.2.2.2.2.1, x.2.2.2.2.2.2.2.2.2.1, x.2.2.2.2.2.2.2.2.2.2.1, x.2.2.2.2.2.2.2.2.2.2.2.1, x.2.2.2.2.2.2.2.2.2.2.2.2.1, x.2.2.2.2.2.2.2.2.2.2.2.2.2.1, x.2.2.2.2.2.2.2.2.2.2.2.2.2.2.1, x.2.2.2.2.2.2.2.2.2.2.2.2.2.2.2))) (fun p0 p1 => (Sum.inr (.inl (x.2.2.1, x.2.2.2.1, x.2.2.2.2.1, x.2.2.2.2.2.1, x.2.2.2.2.2.2.1, x.2.2.2.2.2.2.2.1, x.2.2.2.2.2.2.2.2.1, x.2.2.2.2.2.2.2.2.2.1, x.2.2.2.2.2.2.2.2.2.2.1, x.2.2.2.2.2.2.2.2.2.2.2.1, x.2.2.2.2.2.2.2.2.2.2.2.2.1, x.2.2.2.2.2.2.2.2.2.2.2.2.2.1, p0, p1, x.2.2.2.2.2.2.2.2.2.2.2.2.2.2.2)))) (Sum.inr (.inr (x.2.2.1, x.2.2.2.1, x.2.2.2.2.1, x.2.2.2.2.2.1, x.2.2.2.2.2.2.1, x.2.2.2.2.2.2.2.1, x.2.2.2.2.2.2.2.2.1, x.2.2.2.2.2.2.2.2.2.1, x.2.2.2.2.2.2.2.2.2.2.1, x.2.2.2.2.2.2.2.2.2.2.2.1, x.2.2.2.2.2.2.2.2.2.2.2.2.1, x.2.2.2.2.2.2.2.2.2.2.2.2.2.1, x.2.2.2.2.2.2.2.2.2.2.2.2.2.2.1, x.2.2.2.2.2.2.2.2.2.2.2.2.2.2.2))):=by kernel_rfl
theorem q9J {R : Type} (x : tl) (k : t7 → Option R) (r : R) (h : q9F x k = some r) : ∃ o, Runs (LE.step X q9D q9i q9x 12) x o ∧ k o = some r := by
  obtain ⟨o, h1, h2⟩ := some_bind h
  exact ⟨q9E x o, small_ok (st := fun (x : tl) => swing_mooring_held_L2_st x.2.2.1 x.2.2.2.1 x.2.2.2.2.1 x.2.2.2.2.2.1 x.2.2.2.2.2.2.1 x.2.2.2.2.2.2.2.1 x.2.2.2.2.2.2.2.2.1 x.2.2.2.2.2.2.2.2.2.1 x.2.2.2.2.2.2.2.2.2.2.1 x.2.2.2.2.2.2.2.2.2.2.2.1 x.2.2.2.2.2.2.2.2.2.2.2.2.1 x.2.2.2.2.2.2.2.2.2.2.2.2.2.1 x.2.2.2.2.2.2.2.2.2.2.2.2.2.2.1 x.2.2.2.2.2.2.2.2.2.2.2.2.2.2.2) (prj := fun x => (x.1, x.2.1)) (emb := q9G) (embO := q9E) (fun x => (q9H x).trans (by unfold swing_mooring_held_L2_st swing_mooring_held_L2_step; simp only [map_cond,map_bindO,map_elim,Option.map_some,Option.map_none]; rfl)) (fun _ _ => rfl) (fun _ _ => rfl) (fun _ _ _ => rfl) (fun _ _ _ => rfl) (fun _ => rfl) (runOf_some.1 h1), by
    first
    | exact h2
    | (rcases o with o | o <;> exact h2)⟩
noncomputable def q9K {R : Type} : Loops S R := LE.ls X q9D q9F q9x
theorem q9L {R : Type} : LoopsOk X (q9K (R := R)) := loop_ok xok q9j (e := q9D) q9y q9J q9y
def q9M : Key := ⟨[108, 0, 107], 108, none, [0, 0, 1, 0, 0, 1, 0, 0, 1, 1], 2, 26⟩
def q9N : StT S := ⟨(N (N (N L vJ L) (some (.ptr 7 0)) (N L vJ L)) (some (.yld 11)) (N (N L vJ L) none L)), o1d, 26⟩
def q9O : Way S := ⟨(.exit 2), ⟨v18, o1d, 31⟩, [.int, .int, (.st 6), (.st 10), (.st 14), (.st 10), (.st 14), (.arr (.int .u64))]⟩
def q9P : LE S := ⟨q9M, q9N, [.int, .int, .int, (.st 6), (.st 10), (.st 14), (.st 10), (.st 14), (.arr (.int .u64))], [q9O]⟩
def q9Q (x : ty) : (Int × (Nat → Int)) → tz := fun y0 => (y0.1, x.2.2.1, x.2.2.2.1, x.2.2.2.2.1, x.2.2.2.2.2.1, x.2.2.2.2.2.2.1, x.2.2.2.2.2.2.2.1, y0.2)
noncomputable def q9R {R : Type} (x : ty) (k : tz → Option R) : Option R := (swing_mooring_held_L1_run x.2.2.1 x.2.2.2.1 x.2.2.2.2.1 x.2.2.2.2.2.1 x.2.2.2.2.2.2.1 x.2.2.2.2.2.2.2.1 (x.1, x.2.1, x.2.2.2.2.2.2.2.2)).bind (fun y0 => k (y0.1, x.2.2.1, x.2.2.2.1, x.2.2.2.2.1, x.2.2.2.2.2.1, x.2.2.2.2.2.2.1, x.2.2.2.2.2.2.2.1, y0.2))
def q9S (x : ty) (v : (Int × Int × (Nat → Int))) : ty := (v.1, v.2.1, x.2.2.1, x.2.2.2.1, x.2.2.2.2.1, x.2.2.2.2.2.1, x.2.2.2.2.2.2.1, x.2.2.2.2.2.2.2.1, v.2.2)
theorem q9T (x : ty) : LE.step X q9P q9i q9K 12 x = swing_mooring_held_L1_step x.2.2.1 x.2.2.2.1 x.2.2.2.2.1 x.2.2.2.2.2.1 x.2.2.2.2.2.2.1 x.2.2.2.2.2.2.2.1 x.1 x.2.1 x.2.2.2.2.2.2.2.2 (fun w0 w1 w2 => (Sum.inl (w0, w1, x.2.2.1, x.2.2.2.1, x.2.2.2.2.1, x.2.2.2.2.2.1, x.2.2.2.2.2.2.1, x.2.2.2.2.2.2.2.1, w2))) (fun p0 p1 => (Sum.inr (p0, x.2.2.1, x.2.2.2.1, x.2.2.2.2.1, x.2.2.2.2.2.1, x.2.2.2.2.2.2.1, x.2.2.2.2.2.2.2.1, p1))):=by kernel_rfl
theorem q9V {R : Type} (x : ty) (k : tz → Option R) (r : R) (h : q9R x k = some r) : ∃ o, Runs (LE.step X q9P q9i q9K 12) x o ∧ k o = some r := by
  obtain ⟨o, h1, h2⟩ := some_bind h
  exact ⟨q9Q x o, small_ok (st := fun (x : ty) => swing_mooring_held_L1_st x.2.2.1 x.2.2.2.1 x.2.2.2.2.1 x.2.2.2.2.2.1 x.2.2.2.2.2.2.1 x.2.2.2.2.2.2.2.1) (prj := fun x => (x.1, x.2.1, x.2.2.2.2.2.2.2.2)) (emb := q9S) (embO := q9Q) (fun x => (q9T x).trans (by unfold swing_mooring_held_L1_st swing_mooring_held_L1_step; simp only [map_cond,map_bindO,map_elim,Option.map_some,Option.map_none]; rfl)) (fun _ _ => rfl) (fun _ _ => rfl) (fun _ _ _ => rfl) (fun _ _ _ => rfl) (fun _ => rfl) (runOf_some.1 h1), by
    first
    | exact h2
    | (rcases o with o <;> exact h2)⟩
noncomputable def q9W {R : Type} : Loops S R := LE.ls X q9P q9R q9K
theorem q9X {R : Type} : LoopsOk X (q9W (R := R)) := loop_ok xok q9j (e := q9P) q9L q9V q9L
def q9Y : Key := ⟨[108, 0, 107], 108, none, [0, 0, 1, 1], 0, 17⟩
def q9Z : StT S := ⟨v18, o1d, 17⟩
def qa0 : Way S := ⟨(.exit 0), ⟨L, o1d, 22⟩, [(.st 6), (.st 10), (.st 14), (.st 10), (.st 14), (.arr (.int .u64))]⟩
def qa1 : LE S := ⟨q9Y, q9Z, [.int, .int, (.st 6), (.st 10), (.st 14), (.st 10), (.st 14), (.arr (.int .u64))], [qa0]⟩
def qa2 (x : tz) : (Nat → Int) → tB := fun y0 => (x.2.2.1, x.2.2.2.1, x.2.2.2.2.1, x.2.2.2.2.2.1, x.2.2.2.2.2.2.1, y0)
noncomputable def qa3 {R : Type} (x : tz) (k : tB → Option R) : Option R := (swing_mooring_held_L0_run x.2.2.1 x.2.2.2.1 x.2.2.2.2.1 x.2.2.2.2.2.1 x.2.2.2.2.2.2.1 (x.1, x.2.1, x.2.2.2.2.2.2.2)).bind (fun y0 => k (x.2.2.1, x.2.2.2.1, x.2.2.2.2.1, x.2.2.2.2.2.1, x.2.2.2.2.2.2.1, y0))
def qa4 (x : tz) (v : (Int × Int × (Nat → Int))) : tz := (v.1, v.2.1, x.2.2.1, x.2.2.2.1, x.2.2.2.2.1, x.2.2.2.2.2.1, x.2.2.2.2.2.2.1, v.2.2)
theorem qa5 (x : tz) : LE.step X qa1 q9i q9W 12 x = swing_mooring_held_L0_step x.2.2.1 x.2.2.2.1 x.2.2.2.2.1 x.2.2.2.2.2.1 x.2.2.2.2.2.2.1 x.1 x.2.1 x.2.2.2.2.2.2.2 (fun w0 w1 w2 => (Sum.inl (w0, w1, x.2.2.1, x.2.2.2.1, x.2.2.2.2.1, x.2.2.2.2.2.1, x.2.2.2.2.2.2.1, w2))) (fun p0 => (Sum.inr (x.2.2.1, x.2.2.2.1, x.2.2.2.2.1, x.2.2.2.2.2.1, x.2.2.2.2.2.2.1, p0))):=by kernel_rfl
theorem qa7 {R : Type} (x : tz) (k : tB → Option R) (r : R) (h : qa3 x k = some r) : ∃ o, Runs (LE.step X qa1 q9i q9W 12) x o ∧ k o = some r := by
  obtain ⟨o, h1, h2⟩ := some_bind h
  exact ⟨qa2 x o, small_ok (st := fun (x : tz) => swing_mooring_held_L0_st x.2.2.1 x.2.2.2.1 x.2.2.2.2.1 x.2.2.2.2.2.1 x.2.2.2.2.2.2.1) (prj := fun x => (x.1, x.2.1, x.2.2.2.2.2.2.2)) (emb := qa4) (embO := qa2) (fun x => (qa5 x).trans (by unfold swing_mooring_held_L0_st swing_mooring_held_L0_step; simp only [map_cond,map_bindO,map_elim,Option.map_some,Option.map_none]; rfl)) (fun _ _ => rfl) (fun _ _ => rfl) (fun _ _ _ => rfl) (fun _ _ _ => rfl) (fun _ => rfl) (runOf_some.1 h1), by
    first
    | exact h2
    | (rcases o with o <;> exact h2)⟩
noncomputable def qa8 {R : Type} : Loops S R := LE.ls X qa1 qa3 q9W
theorem qa9 {R : Type} : LoopsOk X (qa8 (R := R)) := loop_ok xok q9j (e := qa1) q9X qa7 q9X
theorem qaa (x0 : swing_mooring) (x1 : SgLook) : evFn X q9i [(.st 14), (.st 10)] [(.arr 5 (.int .u64))] qa8 12 107 (x0, x1, ()) = swing_mooring_held x0 x1:=by kernel_rfl
noncomputable def qab : F7 S := ⟨[(.st 14), (.st 10)], [(.arr 5 (.int .u64))], fun xs => swing_mooring_held xs.1 xs.2.1⟩
theorem qac : FSOk X 107 qab := fsOk_eq (evFn_ok xok q9j qa9 12 107) fun xs _ h => (qaa xs.1 xs.2.1).trans h
noncomputable def qad : List (Nat × F7 S) := [(19, q7A), (76, q8w), (107, qab)]
theorem qae : TabOk X (qad) := ⟨q7B, q8x, qac, trivial⟩
abbrev qaf {R : Type} : Loops S R := noLoops
theorem qag {R : Type} : LoopsOk X (qaf (R := R)) := noLoops_ok X
def qah : Key := ⟨[70], 70, none, [0, 0, 1, 0, 1, 1, 1], 0, 19⟩
def qai : StT S := ⟨(N (N v1m none (N L (some (.rs 19 0)) (N (N L vG L) none L))) none (N (N L (some (.ptr 1 0)) L) none v1k)), o11, 20⟩
def qaj : Way S := ⟨(.exit 0), ⟨(N (N L none (N L (some (.rs 19 0)) L)) none (N (N L (some (.ptr 1 0)) L) none L)), o11, 21⟩, [(.lst (.arr 5 (.int .u64))), (.st 14), (.st 9)]⟩
def qak : LE S := ⟨qah, qai, [.int, (.lst (.st 10)), .int, (.lst (.arr 5 (.int .u64))), (.st 14), (.st 9)], [qaj]⟩
def qal (x : tA) : (List (Nat → Int)) → tL := fun y0 => (y0, x.2.2.2.2.1, x.2.2.2.2.2)
noncomputable def qam {R : Type} (x : tA) (k : tL → Option R) : Option R := (swing_enter_L0_run x.2.1 x.2.2.1 x.2.2.2.2.1 x.2.2.2.2.2 (x.1, x.2.2.2.1)).bind (fun y0 => k (y0, x.2.2.2.2.1, x.2.2.2.2.2))
def qan (x : tA) (v : (Int × (List (Nat → Int)))) : tA := (v.1, x.2.1, x.2.2.1, v.2, x.2.2.2.2.1, x.2.2.2.2.2)
theorem qao (x : tA) : LE.step X qak qad qaf 12 x = swing_enter_L0_step x.2.1 x.2.2.1 x.2.2.2.2.1 x.2.2.2.2.2 x.1 x.2.2.2.1 (fun w0 w1 => (Sum.inl (w0, x.2.1, x.2.2.1, w1, x.2.2.2.2.1, x.2.2.2.2.2))) (fun p0 => (Sum.inr (p0, x.2.2.2.2.1, x.2.2.2.2.2))):=by kernel_rfl
theorem qaq {R : Type} (x : tA) (k : tL → Option R) (r : R) (h : qam x k = some r) : ∃ o, Runs (LE.step X qak qad qaf 12) x o ∧ k o = some r := by
  obtain ⟨o, h1, h2⟩ := some_bind h
  exact ⟨qal x o, small_ok (st := fun (x : tA) => swing_enter_L0_st x.2.1 x.2.2.1 x.2.2.2.2.1 x.2.2.2.2.2) (prj := fun x => (x.1, x.2.2.2.1)) (emb := qan) (embO := qal) (fun x => (qao x).trans (by unfold swing_enter_L0_st swing_enter_L0_step; simp only [map_cond,map_bindO,map_elim,Option.map_some,Option.map_none]; rfl)) (fun _ _ => rfl) (fun _ _ => rfl) (fun _ _ _ => rfl) (fun _ _ _ => rfl) (fun _ => rfl) (runOf_some.1 h1), by
    first
    | exact h2
    | (rcases o with o <;> exact h2)⟩
noncomputable def qar {R : Type} : Loops S R := LE.ls X qak qam qaf
theorem qas {R : Type} : LoopsOk X (qar (R := R)) := loop_ok xok qae (e := qak) qag qaq qag
theorem qat (x0 : SgMooring) (x1 : List SgLook) : evFn X qad [(.st 9), (.sl (.st 10))] [(.st 14), (.sl (.arr 5 (.int .u64))), (.int .i64)] qar 12 70 (x0, x1, ()) = swing_enter x0 x1:=by kernel_rfl
noncomputable def qau : F7 S := ⟨[(.st 9), (.sl (.st 10))], [(.st 14), (.sl (.arr 5 (.int .u64))), (.int .i64)], fun xs => swing_enter xs.1 xs.2.1⟩
theorem qav : FSOk X 70 qau := fsOk_eq (evFn_ok xok qae qas 12 70) fun xs _ h => (qat xs.1 xs.2.1).trans h
noncomputable def qaw : List (Nat × F7 S) := []
theorem qax : TabOk X (qaw) := trivial
abbrev qay {R : Type} : Loops S R := noLoops
theorem qaz {R : Type} : LoopsOk X (qay (R := R)) := noLoops_ok X
def qaA : Key := ⟨[80], 80, none, [0, 0, 1, 0, 1], 0, 5⟩
def qaB : StT S := ⟨(N (N (N (N L (some (.agg [(.arr (.int .u64) 5 (fun _ => tdf T (.int .u64)))])) L) (some (.ptr 1 0)) L) none L) none (N (N (N L vJ L) (some (.ptr 2 0)) L) none L)), (N (N L o9 L) o9 (N L o9 L)), 5⟩
def qaC : Way S := ⟨(.exit 0), ⟨(N L none (N (N L (some (.ptr 2 0)) L) none L)), (N (N L o9 L) o9 (N L o9 L)), 6⟩, [(.arr (.int .u64)), (.arr (.int .u64)), (.arr (.int .u64))]⟩
def qaD : LE S := ⟨qaA, qaB, [(.arr (.int .u64)), .int, (.arr (.int .u64)), (.arr (.int .u64)), (.arr (.int .u64))], [qaC]⟩
def qaE (x : tH) : (Nat → Int) → ((Nat → Int) × (Nat → Int) × (Nat → Int)) := fun y0 => (x.2.2.1, x.2.2.2.1, y0)
noncomputable def qaF {R : Type} (x : tH) (k : ((Nat → Int) × (Nat → Int) × (Nat → Int)) → Option R) : Option R := (swing_set_common_L0_run x.1 x.2.2.1 x.2.2.2.1 (x.2.1, x.2.2.2.2)).bind (fun y0 => k (x.2.2.1, x.2.2.2.1, y0))
def qaG (x : tH) (v : (Int × (Nat → Int))) : tH := (x.1, v.1, x.2.2.1, x.2.2.2.1, v.2)
theorem qaH (x : tH) : LE.step X qaD qaw qay 12 x = swing_set_common_L0_step x.1 x.2.2.1 x.2.2.2.1 x.2.1 x.2.2.2.2 (fun w0 w1 => (Sum.inl (x.1, w0, x.2.2.1, x.2.2.2.1, w1))) (fun p0 => (Sum.inr (x.2.2.1, x.2.2.2.1, p0))):=by kernel_rfl
theorem qaJ {R : Type} (x : tH) (k : ((Nat → Int) × (Nat → Int) × (Nat → Int)) → Option R) (r : R) (h : qaF x k = some r) : ∃ o, Runs (LE.step X qaD qaw qay 12) x o ∧ k o = some r := by
  obtain ⟨o, h1, h2⟩ := some_bind h
  exact ⟨qaE x o, small_ok (st := fun (x : tH) => swing_set_common_L0_st x.1 x.2.2.1 x.2.2.2.1) (prj := fun x => (x.2.1, x.2.2.2.2)) (emb := qaG) (embO := qaE) (fun x => (qaH x).trans (by unfold swing_set_common_L0_st swing_set_common_L0_step; simp only [map_cond,map_bindO,map_elim,Option.map_some,Option.map_none]; rfl)) (fun _ _ => rfl) (fun _ _ => rfl) (fun _ _ _ => rfl) (fun _ _ _ => rfl) (fun _ => rfl) (runOf_some.1 h1), by
    first
    | exact h2
    | (rcases o with o <;> exact h2)⟩
noncomputable def qaK {R : Type} : Loops S R := LE.ls X qaD qaF qay
theorem qaL {R : Type} : LoopsOk X (qaK (R := R)) := loop_ok xok qax (e := qaD) qaz qaJ qaz
theorem qaM (x0 : Nat → Int) (x1 : Nat → Int) : evFn X qaw [(.arr 5 (.int .u64)), (.arr 5 (.int .u64))] [(.arr 5 (.int .u64))] qaK 12 80 (x0, x1, ()) = swing_set_common x0 x1:=by kernel_rfl
noncomputable def qaN : F7 S := ⟨[(.arr 5 (.int .u64)), (.arr 5 (.int .u64))], [(.arr 5 (.int .u64))], fun xs => swing_set_common xs.1 xs.2.1⟩
theorem qaO : FSOk X 80 qaN := fsOk_eq (evFn_ok xok qax qaL 12 80) fun xs _ h => (qaM xs.1 xs.2.1).trans h
noncomputable def qaP : List (Nat × F7 S) := [(80, qaN)]
theorem qaQ : TabOk X (qaP) := ⟨qaO, trivial⟩
abbrev qaR {R : Type} : Loops S R := noLoops
theorem qaS {R : Type} : LoopsOk X (qaR (R := R)) := noLoops_ok X
def qaT : Key := ⟨[71], 71, none, [0, 0, 1, 0, 1], 0, 5⟩
def qaU : StT S := ⟨(N v1k none (N (N (N L vs L) (some (.ptr 1 0)) L) (some (.ptr 0 0)) (N (N L vJ L) none L))), (N (N L o9 L) o9 L), 5⟩
def qaV : Way S := ⟨(.exit 0), ⟨(N L none (N (N L (some (.ptr 1 0)) L) (some (.ptr 0 0)) L)), (N (N L o9 L) o9 L), 6⟩, [(.arr (.int .u64)), (.arr (.int .u64))]⟩
def qaW : LE S := ⟨qaT, qaU, [.int, (.lst (.arr 5 (.int .u64))), .int, (.arr (.int .u64)), (.arr (.int .u64))], [qaV]⟩
def qaX (x : tI) : (Nat → Int) → ((Nat → Int) × (Nat → Int)) := fun y0 => (x.2.2.2.1, y0)
noncomputable def qaY {R : Type} (x : tI) (k : ((Nat → Int) × (Nat → Int)) → Option R) : Option R := (swing_fold_L0_run x.1 x.2.1 x.2.2.2.1 (x.2.2.1, x.2.2.2.2)).bind (fun y0 => k (x.2.2.2.1, y0))
def qaZ (x : tI) (v : (Int × (Nat → Int))) : tI := (x.1, x.2.1, v.1, x.2.2.2.1, v.2)
theorem qb0 (x : tI) : LE.step X qaW qaP qaR 12 x = swing_fold_L0_step x.1 x.2.1 x.2.2.2.1 x.2.2.1 x.2.2.2.2 (fun w0 w1 => (Sum.inl (x.1, x.2.1, w0, x.2.2.2.1, w1))) (fun p0 => (Sum.inr (x.2.2.2.1, p0))):=by kernel_rfl
theorem qb2 {R : Type} (x : tI) (k : ((Nat → Int) × (Nat → Int)) → Option R) (r : R) (h : qaY x k = some r) : ∃ o, Runs (LE.step X qaW qaP qaR 12) x o ∧ k o = some r := by
  obtain ⟨o, h1, h2⟩ := some_bind h
  exact ⟨qaX x o, small_ok (st := fun (x : tI) => swing_fold_L0_st x.1 x.2.1 x.2.2.2.1) (prj := fun x => (x.2.2.1, x.2.2.2.2)) (emb := qaZ) (embO := qaX) (fun x => (qb0 x).trans (by unfold swing_fold_L0_st swing_fold_L0_step; simp only [map_cond,map_bindO,map_elim,Option.map_some,Option.map_none]; rfl)) (fun _ _ => rfl) (fun _ _ => rfl) (fun _ _ _ => rfl) (fun _ _ _ => rfl) (fun _ => rfl) (runOf_some.1 h1), by
    first
    | exact h2
    | (rcases o with o <;> exact h2)⟩
noncomputable def qb3 {R : Type} : Loops S R := LE.ls X qaW qaY qaR
theorem qb4 {R : Type} : LoopsOk X (qb3 (R := R)) := loop_ok xok qaQ (e := qaW) qaS qb2 qaS
theorem qb5 (x0 : Nat → Int) (x1 : List (Nat → Int)) : evFn X qaP [(.arr 5 (.int .u64)), (.sl (.arr 5 (.int .u64)))] [(.arr 5 (.int .u64))] qb3 12 71 (x0, x1, ()) = swing_fold x0 x1:=by kernel_rfl
noncomputable def qb6 : F7 S := ⟨[(.arr 5 (.int .u64)), (.sl (.arr 5 (.int .u64)))], [(.arr 5 (.int .u64))], fun xs => swing_fold xs.1 xs.2.1⟩
theorem qb7 : FSOk X 71 qb6 := fsOk_eq (evFn_ok xok qaQ qb4 12 71) fun xs _ h => (qb5 xs.1 xs.2.1).trans h
noncomputable def qb8 : List (Nat × F7 S) := []
theorem qb9 : TabOk X (qb8) := trivial
abbrev qba {R : Type} : Loops S R := noLoops
theorem qbb {R : Type} : LoopsOk X (qba (R := R)) := noLoops_ok X
theorem qbc (x0 : Nat → Int) (x1 : Int) : evFn X qb8 [(.arr 5 (.int .u64)), (.int .i64)] [.bool] qba 12 73 (x0, x1, ()) = swing_set_has x0 x1:=by kernel_rfl
noncomputable def qbd : F7 S := ⟨[(.arr 5 (.int .u64)), (.int .i64)], [.bool], fun xs => swing_set_has xs.1 xs.2.1⟩
theorem qbe : FSOk X 73 qbd := fsOk_eq (evFn_ok xok qb9 qbb 12 73) fun xs _ h => (qbc xs.1 xs.2.1).trans h
noncomputable def qbf : List (Nat × F7 S) := [(70, qau), (71, qb6), (73, qbd)]
theorem qbg : TabOk X (qbf) := ⟨qav, qb7, qbe, trivial⟩
abbrev qbh {R : Type} : Loops S R := noLoops
theorem qbi {R : Type} : LoopsOk X (qbh (R := R)) := noLoops_ok X
def qbj : Key := ⟨[108, 0, 21], 108, none, [0, 0, 1, 0, 0, 1, 0, 0, 1, 1], 2, 46⟩
def qbk : StT S := ⟨(N (N (N L vJ L) (some (.ptr 25 0)) (N L vJ L)) (some (.yld 30)) (N (N L vJ L) none L)), oV, 47⟩
def qbl : Way S := ⟨(.exit 2), ⟨v14, oV, 52⟩, [.int, .int, (.st 6), (.st 9), (.arr (.int .u64)), (.st 14), (.lst (.st 2)), (.lst (.arr 5 (.int .u64))), .bool, (.lst (.st 10)), .int, (.st 9)]⟩
def qbm : LE S := ⟨qbj, qbk, [.int, .int, .int, (.st 6), (.st 9), (.arr (.int .u64)), (.st 14), (.lst (.st 2)), (.lst (.arr 5 (.int .u64))), .bool, (.lst (.st 10)), .int, (.st 9)], [qbl]⟩
def qbn (x : tn) : (Int × (List Point)) → to := fun y0 => (y0.1, x.2.2.1, x.2.2.2.1, x.2.2.2.2.1, x.2.2.2.2.2.1, x.2.2.2.2.2.2.1, y0.2, x.2.2.2.2.2.2.2.2.1, x.2.2.2.2.2.2.2.2.2.1, x.2.2.2.2.2.2.2.2.2.2.1, x.2.2.2.2.2.2.2.2.2.2.2.1, x.2.2.2.2.2.2.2.2.2.2.2.2)
noncomputable def qbo {R : Type} (x : tn) (k : to → Option R) : Option R := (swing_Anchors_L1_run x.2.2.1 x.2.2.2.1 x.2.2.2.2.1 x.2.2.2.2.2.1 x.2.2.2.2.2.2.1 x.2.2.2.2.2.2.2.2.1 x.2.2.2.2.2.2.2.2.2.1 x.2.2.2.2.2.2.2.2.2.2.1 x.2.2.2.2.2.2.2.2.2.2.2.1 x.2.2.2.2.2.2.2.2.2.2.2.2 (x.1, x.2.1, x.2.2.2.2.2.2.2.1)).bind (fun y0 => k (y0.1, x.2.2.1, x.2.2.2.1, x.2.2.2.2.1, x.2.2.2.2.2.1, x.2.2.2.2.2.2.1, y0.2, x.2.2.2.2.2.2.2.2.1, x.2.2.2.2.2.2.2.2.2.1, x.2.2.2.2.2.2.2.2.2.2.1, x.2.2.2.2.2.2.2.2.2.2.2.1, x.2.2.2.2.2.2.2.2.2.2.2.2))
def qbp (x : tn) (v : tZ) : tn := (v.1, v.2.1, x.2.2.1, x.2.2.2.1, x.2.2.2.2.1, x.2.2.2.2.2.1, x.2.2.2.2.2.2.1, v.2.2, x.2.2.2.2.2.2.2.2.1, x.2.2.2.2.2.2.2.2.2.1, x.2.2.2.2.2.2.2.2.2.2.1, x.2.2.2.2.2.2.2.2.2.2.2.1, x.2.2.2.2.2.2.2.2.2.2.2.2)
theorem qbq (x : tn) : LE.step X qbm qbf qbh 12 x = swing_Anchors_L1_step x.2.2.1 x.2.2.2.1 x.2.2.2.2.1 x.2.2.2.2.2.1 x.2.2.2.2.2.2.1 x.2.2.2.2.2.2.2.2.1 x.2.2.2.2.2.2.2.2.2.1 x.2.2.2.2.2.2.2.2.2.2.1 x.2.2.2.2.2.2.2.2.2.2.2.1 x.2.2.2.2.2.2.2.2.2.2.2.2 x.1 x.2.1 x.2.2.2.2.2.2.2.1 (fun w0 w1 w2 => (Sum.inl (w0, w1, x.2.2.1, x.2.2.2.1, x.2.2.2.2.1, x.2.2.2.2.2.1, x.2.2.2.2.2.2.1, w2, x.2.2.2.2.2.2.2.2.1, x.2.2.2.2.2.2.2.2.2.1, x.2.2.2.2.2.2.2.2.2.2.1, x.2.2.2.2.2.2.2.2.2.2.2.1, x.2.2.2.2.2.2.2.2.2.2.2.2))) (fun p0 p1 => (Sum.inr (p0, x.2.2.1, x.2.2.2.1, x.2.2.2.2.1, x.2.2.2.2.2.1, x.2.2.2.2.2.2.1, p1, x.2.2.2.2.2.2.2.2.1, x.2.2.2.2.2.2.2.2.2.1, x.2.2.2.2.2.2.2.2.2.2.1, x.2.2.2.2.2.2.2.2.2.2.2.1, x.2.2.2.2.2.2.2.2.2.2.2.2))):=by kernel_rfl
theorem qbs {R : Type} (x : tn) (k : to → Option R) (r : R) (h : qbo x k = some r) : ∃ o, Runs (LE.step X qbm qbf qbh 12) x o ∧ k o = some r := by
  obtain ⟨o, h1, h2⟩ := some_bind h
  exact ⟨qbn x o, small_ok (st := fun (x : tn) => swing_Anchors_L1_st x.2.2.1 x.2.2.2.1 x.2.2.2.2.1 x.2.2.2.2.2.1 x.2.2.2.2.2.2.1 x.2.2.2.2.2.2.2.2.1 x.2.2.2.2.2.2.2.2.2.1 x.2.2.2.2.2.2.2.2.2.2.1 x.2.2.2.2.2.2.2.2.2.2.2.1 x.2.2.2.2.2.2.2.2.2.2.2.2) (prj := fun x => (x.1, x.2.1, x.2.2.2.2.2.2.2.1)) (emb := qbp) (embO := qbn) (fun x => (qbq x).trans (by unfold swing_Anchors_L1_st swing_Anchors_L1_step; simp only [map_cond,map_bindO,map_elim,Option.map_some,Option.map_none]; rfl)) (fun _ _ => rfl) (fun _ _ => rfl) (fun _ _ _ => rfl) (fun _ _ _ => rfl) (fun _ => rfl) (runOf_some.1 h1), by
    first
    | exact h2
    | (rcases o with o <;> exact h2)⟩
noncomputable def qbt {R : Type} : Loops S R := LE.ls X qbm qbo qbh
theorem qbu {R : Type} : LoopsOk X (qbt (R := R)) := loop_ok xok qbg (e := qbm) qbi qbs qbi
def qbv : Key := ⟨[108, 0, 21], 108, none, [0, 0, 1, 1], 0, 36⟩
def qbw : StT S := ⟨v14, oW, 37⟩
def qbx : Way S := ⟨(.exit 0), ⟨L, oW, 42⟩, [(.st 6), (.st 9), (.lst (.st 2)), (.arr (.int .u64)), (.st 14), (.lst (.arr 5 (.int .u64))), .bool, (.lst (.st 10)), .int, (.st 9)]⟩
def qby : LE S := ⟨qbv, qbw, [.int, .int, (.st 6), (.st 9), (.lst (.st 2)), (.arr (.int .u64)), (.st 14), (.lst (.arr 5 (.int .u64))), .bool, (.lst (.st 10)), .int, (.st 9)], [qbx]⟩
def qbz (x : tp) : (List Point) → tq := fun y0 => (x.2.2.1, x.2.2.2.1, y0, x.2.2.2.2.2.1, x.2.2.2.2.2.2.1, x.2.2.2.2.2.2.2.1, x.2.2.2.2.2.2.2.2.1, x.2.2.2.2.2.2.2.2.2.1, x.2.2.2.2.2.2.2.2.2.2.1, x.2.2.2.2.2.2.2.2.2.2.2)
noncomputable def qbA {R : Type} (x : tp) (k : tq → Option R) : Option R := (swing_Anchors_L0_run x.2.2.1 x.2.2.2.1 x.2.2.2.2.2.1 x.2.2.2.2.2.2.1 x.2.2.2.2.2.2.2.1 x.2.2.2.2.2.2.2.2.1 x.2.2.2.2.2.2.2.2.2.1 x.2.2.2.2.2.2.2.2.2.2.1 x.2.2.2.2.2.2.2.2.2.2.2 (x.1, x.2.1, x.2.2.2.2.1)).bind (fun y0 => k (x.2.2.1, x.2.2.2.1, y0, x.2.2.2.2.2.1, x.2.2.2.2.2.2.1, x.2.2.2.2.2.2.2.1, x.2.2.2.2.2.2.2.2.1, x.2.2.2.2.2.2.2.2.2.1, x.2.2.2.2.2.2.2.2.2.2.1, x.2.2.2.2.2.2.2.2.2.2.2))
def qbB (x : tp) (v : tZ) : tp := (v.1, v.2.1, x.2.2.1, x.2.2.2.1, v.2.2, x.2.2.2.2.2.1, x.2.2.2.2.2.2.1, x.2.2.2.2.2.2.2.1, x.2.2.2.2.2.2.2.2.1, x.2.2.2.2.2.2.2.2.2.1, x.2.2.2.2.2.2.2.2.2.2.1, x.2.2.2.2.2.2.2.2.2.2.2)
theorem qbC (x : tp) : LE.step X qby qbf qbt 12 x = swing_Anchors_L0_step x.2.2.1 x.2.2.2.1 x.2.2.2.2.2.1 x.2.2.2.2.2.2.1 x.2.2.2.2.2.2.2.1 x.2.2.2.2.2.2.2.2.1 x.2.2.2.2.2.2.2.2.2.1 x.2.2.2.2.2.2.2.2.2.2.1 x.2.2.2.2.2.2.2.2.2.2.2 x.1 x.2.1 x.2.2.2.2.1 (fun w0 w1 w2 => (Sum.inl (w0, w1, x.2.2.1, x.2.2.2.1, w2, x.2.2.2.2.2.1, x.2.2.2.2.2.2.1, x.2.2.2.2.2.2.2.1, x.2.2.2.2.2.2.2.2.1, x.2.2.2.2.2.2.2.2.2.1, x.2.2.2.2.2.2.2.2.2.2.1, x.2.2.2.2.2.2.2.2.2.2.2))) (fun p0 => (Sum.inr (x.2.2.1, x.2.2.2.1, p0, x.2.2.2.2.2.1, x.2.2.2.2.2.2.1, x.2.2.2.2.2.2.2.1, x.2.2.2.2.2.2.2.2.1, x.2.2.2.2.2.2.2.2.2.1, x.2.2.2.2.2.2.2.2.2.2.1, x.2.2.2.2.2.2.2.2.2.2.2))):=by kernel_rfl
theorem qbE {R : Type} (x : tp) (k : tq → Option R) (r : R) (h : qbA x k = some r) : ∃ o, Runs (LE.step X qby qbf qbt 12) x o ∧ k o = some r := by
  obtain ⟨o, h1, h2⟩ := some_bind h
  exact ⟨qbz x o, small_ok (st := fun (x : tp) => swing_Anchors_L0_st x.2.2.1 x.2.2.2.1 x.2.2.2.2.2.1 x.2.2.2.2.2.2.1 x.2.2.2.2.2.2.2.1 x.2.2.2.2.2.2.2.2.1 x.2.2.2.2.2.2.2.2.2.1 x.2.2.2.2.2.2.2.2.2.2.1 x.2.2.2.2.2.2.2.2.2.2.2) (prj := fun x => (x.1, x.2.1, x.2.2.2.2.1)) (emb := qbB) (embO := qbz) (fun x => (qbC x).trans (by unfold swing_Anchors_L0_st swing_Anchors_L0_step; simp only [map_cond,map_bindO,map_elim,Option.map_some,Option.map_none]; rfl)) (fun _ _ => rfl) (fun _ _ => rfl) (fun _ _ _ => rfl) (fun _ _ _ => rfl) (fun _ => rfl) (runOf_some.1 h1), by
    first
    | exact h2
    | (rcases o with o <;> exact h2)⟩
noncomputable def qbF {R : Type} : Loops S R := LE.ls X qby qbA qbt
theorem qbG {R : Type} : LoopsOk X (qbF (R := R)) := loop_ok xok qbg (e := qby) qbu qbE qbu
theorem qbH (x0 : SgMooring) (x1 : List SgLook) : evFn X qbf [(.st 9), (.sl (.st 10))] [(.sl (.st 2)), (.int .i64)] qbF 12 21 (x0, x1, ()) = swing_Anchors x0 x1:=by kernel_rfl
noncomputable def qbI : F7 S := ⟨[(.st 9), (.sl (.st 10))], [(.sl (.st 2)), (.int .i64)], fun xs => swing_Anchors xs.1 xs.2.1⟩
theorem qbJ : FSOk X 21 qbI := fsOk_eq (evFn_ok xok qbg qbG 12 21) fun xs _ h => (qbH xs.1 xs.2.1).trans h
noncomputable def qbK : List (Nat × F7 S) := [(70, qau), (19, q7A), (71, qb6), (73, qbd), (77, q9g)]
theorem qbL : TabOk X (qbK) := ⟨qav, q7B, qb7, qbe, q9h, trivial⟩
abbrev qbM {R : Type} : Loops S R := noLoops
theorem qbN {R : Type} : LoopsOk X (qbM (R := R)) := noLoops_ok X
def qbO : Key := ⟨[108, 2, 44, 5, 7, 108, 0, 34], 108, none, [0, 0, 1, 0, 0, 1, 0, 0, 1, 1], 2, 99⟩
def qbP : StT S := ⟨(N (N (N L vJ L) (some (.ptr 78 0)) (N L vJ L)) (some (.yld 83)) (N (N L vJ L) none L)), oO, 100⟩
def qbQ : Way S := ⟨.ret, ⟨L, oK, 130⟩, [(.lst (.st 2)), (.arr (.int .u64)), (.st 6), (.lst (.st 2)), (.lst (.st 10)), .int, .bool, (.lst (.st 10)), .bool, (.lst (.arr 5 (.int .u64))), .bool, .int, (.st 9), (.st 10), .int, .int, (.st 14), (.st 10), (.st 2), (.st 2), (.st 9), .int, .bool, (.lst (.st 10)), .bool, (.lst (.arr 5 (.int .u64))), .bool, (.st 9), (.st 10), (.st 6)]⟩
def qbR : Way S := ⟨(.exit 2), ⟨v15, oO, 105⟩, [.int, .int, (.arr (.int .u64)), (.st 6), (.lst (.st 2)), (.lst (.st 10)), .int, .bool, (.lst (.st 10)), .bool, (.lst (.arr 5 (.int .u64))), .bool, .int, (.st 9), (.st 10), .int, .int, (.st 14), (.st 10), (.st 2), (.st 9), .int, .bool, (.lst (.st 10)), .bool, (.lst (.arr 5 (.int .u64))), .bool, (.st 9), (.st 10), (.st 6)]⟩
def qbS : LE S := ⟨qbO, qbP, [.int, .int, .int, (.arr (.int .u64)), (.st 6), (.lst (.st 2)), (.lst (.st 10)), .int, .bool, (.lst (.st 10)), .bool, (.lst (.arr 5 (.int .u64))), .bool, .int, (.st 9), (.st 10), .int, .int, (.st 14), (.st 10), (.st 2), (.st 9), .int, .bool, (.lst (.st 10)), .bool, (.lst (.arr 5 (.int .u64))), .bool, (.st 9), (.st 10), (.st 6)], [qbQ, qbR]⟩
def qbT (x : t4) : (((List Point) × (List Point) × Point) ⊕ Int) → t0 := Sum.elim (fun y0 => (.inl (y0.1, x.2.2.2.1, x.2.2.2.2.1, y0.2.1, x.2.2.2.2.2.2.1, x.2.2.2.2.2.2.2.1, x.2.2.2.2.2.2.2.2.1, x.2.2.2.2.2.2.2.2.2.1, x.2.2.2.2.2.2.2.2.2.2.1, x.2.2.2.2.2.2.2.2.2.2.2.1, x.2.2.2.2.2.2.2.2.2.2.2.2.1, x.2.2.2.2.2.2.2.2.2.2.2.2.2.1, x.2.2.2.2.2.2.2.2.2.2.2.2.2.2.1, x.2.2.2.2.2.2.2.2.2.2.2.2.2.2.2.1, x.2.2.2.2.2.2.2.2.2.2.2.2.2.2.2.2.1, x.2.2.2.2.2.2.2.2.2.2.2.2.2.2.2.2.2.1, x.2.2.2.2.2.2.2.2.2.2.2.2.2.2.2.2.2.2.1, x.2.2.2.2.2.2.2.2.2.2.2.2.2.2.2.2.2.2.2.1, y0.2.2, x.2.2.2.2.2.2.2.2.2.2.2.2.2.2.2.2.2.2.2.2.1, x.2.2.2.2.2.2.2.2.2.2.2.2.2.2.2.2.2.2.2.2.2.1, x.2.2.2.2.2.2.2.2.2.2.2.2.2.2.2.2.2.2.2.2.2.2.1, x.2.2.2.2.2.2.2.2.2.2.2.2.2.2.2.2.2.2.2.2.2.2.2.1, x.2.2.2.2.2.2.2.2.2.2.2.2.2.2.2.2.2.2.2.2.2.2.2.2.1, x.2.2.2.2.2.2.2.2.2.2.2.2.2.2.2.2.2.2.2.2.2.2.2.2.2.1, x.2.2.2.2.2.2.2.2.2.2.2.2.2.2.2.2.2.2.2.2.2.2.2.2.2.2.1, x.2.2.2.2.2.2.2.2.2.2.2.2.2.2.2.2.2.2.2.2.2.2.2.2.2.2.2.1, x.2.2.2.2.2.2.2.2.2.2.2.2.2.2.2.2.2.2.2.2.2.2.2.2.2.2.2.2.1, x.2.2.2.2.2.2.2.2.2.2.2.2.2.2.2.2.2.2.2.2.2.2.2.2.2.2.2.2.2.1, x.2.2.2.2.2.2.2.2.2.2.2.2.2.2.2.2.2.2.2.2.2.2.2.2.2.2.2.2.2.2))) (fun y1 => (.inr (y1, x.2.2.1, x.2.2.2.1, x.2.2.2.2.1, x.2.2.2.2.2.1, x.2.2.2.2.2.2.1, x.2.2.2.2.2.2.2.1, x.2.2.2.2.2.2.2.2.1, x.2.2.2.2.2.2.2.2.2.1, x.2.2.2.2.2.2.2.2.2.2.1, x.2.2.2.2.2.2.2.2.2.2.2.1, x.2.2.2.2.2.2.2.2.2.2.2.2.1, x.2.2.2.2.2.2.2.2.2.2.2.2.2.1, x.2.2.2.2.2.2.2.2.2.2.2.2.2.2.1, x.2.2.2.2.2.2.2.2.2.2.2.2.2.2.2.1, x.2.2.2.2.2.2.2.2.2.2.2.2.2.2.2.2.1, x.2.2.2.2.2.2.2.2.2.2.2.2.2.2.2.2.2.1, x.2.2.2.2.2.2.2.2.2.2.2.2.2.2.2.2.2.2.1, x.2.2.2.2.2.2.2.2.2.2.2.2.2.2.2.2.2.2.2.1, x.2.2.2.2.2.2.2.2.2.2.2.2.2.2.2.2.2.2.2.2.1, x.2.2.2.2.2.2.2.2.2.2.2.2.2.2.2.2.2.2.2.2.2.1, x.2.2.2.2.2.2.2.2.2.2.2.2.2.2.2.2.2.2.2.2.2.2.1, x.2.2.2.2.2.2.2.2.2.2.2.2.2.2.2.2.2.2.2.2.2.2.2.1, x.2.2.2.2.2.2.2.2.2.2.2.2.2.2.2.2.2.2.2.2.2.2.2.2.1, x.2.2.2.2.2.2.2.2.2.2.2.2.2.2.2.2.2.2.2.2.2.2.2.2.2.1, x.2.2.2.2.2.2.2.2.2.2.2.2.2.2.2.2.2.2.2.2.2.2.2.2.2.2.1, x.2.2.2.2.2.2.2.2.2.2.2.2.2.2.2.2.2.2.2.2.2.2.2.2.2.2.2.1, x.2.2.2.2.2.2.2.2.2.2.2.2.2.2.2.2.2.2.2.2.2.2.2.2.2.2.2.2.1, x.2.2.2.2.2.2.2.2.2.2.2.2.2.2.2.2.2.2.2.2.2.2.2.2.2.2.2.2.2.1, x.2.2.2.2.2.2.2.2.2.2.2.2.2.2.2.2.2.2.2.2.2.2.2.2.2.2.2.2.2.2)))
noncomputable def qbU {R : Type} (x : t4) (k : t0 → Option R) : Option R := (swing_Places_L3_run x.2.2.1 x.2.2.2.1 x.2.2.2.2.1 x.2.2.2.2.2.1 x.2.2.2.2.2.2.1 x.2.2.2.2.2.2.2.1 x.2.2.2.2.2.2.2.2.1 x.2.2.2.2.2.2.2.2.2.1 x.2.2.2.2.2.2.2.2.2.2.1 x.2.2.2.2.2.2.2.2.2.2.2.1 x.2.2.2.2.2.2.2.2.2.2.2.2.1 x.2.2.2.2.2.2.2.2.2.2.2.2.2.1 x.2.2.2.2.2.2.2.2.2.2.2.2.2.2.1 x.2.2.2.2.2.2.2.2.2.2.2.2.2.2.2.1 x.2.2.2.2.2.2.2.2.2.2.2.2.2.2.2.2.1 x.2.2.2.2.2.2.2.2.2.2.2.2.2.2.2.2.2.1 x.2.2.2.2.2.2.2.2.2.2.2.2.2.2.2.2.2.2.1 x.2.2.2.2.2.2.2.2.2.2.2.2.2.2.2.2.2.2.2.1 x.2.2.2.2.2.2.2.2.2.2.2.2.2.2.2.2.2.2.2.2.1 x.2.2.2.2.2.2.2.2.2.2.2.2.2.2.2.2.2.2.2.2.2.1 x.2.2.2.2.2.2.2.2.2.2.2.2.2.2.2.2.2.2.2.2.2.2.1 x.2.2.2.2.2.2.2.2.2.2.2.2.2.2.2.2.2.2.2.2.2.2.2.1 x.2.2.2.2.2.2.2.2.2.2.2.2.2.2.2.2.2.2.2.2.2.2.2.2.1 x.2.2.2.2.2.2.2.2.2.2.2.2.2.2.2.2.2.2.2.2.2.2.2.2.2.1 x.2.2.2.2.2.2.2.2.2.2.2.2.2.2.2.2.2.2.2.2.2.2.2.2.2.2.1 x.2.2.2.2.2.2.2.2.2.2.2.2.2.2.2.2.2.2.2.2.2.2.2.2.2.2.2.1 x.2.2.2.2.2.2.2.2.2.2.2.2.2.2.2.2.2.2.2.2.2.2.2.2.2.2.2.2.1 x.2.2.2.2.2.2.2.2.2.2.2.2.2.2.2.2.2.2.2.2.2.2.2.2.2.2.2.2.2.1 x.2.2.2.2.2.2.2.2.2.2.2.2.2.2.2.2.2.2.2.2.2.2.2.2.2.2.2.2.2.2 (x.1, x.2.1)).bind (Sum.elim (fun y0 => k (.inl (y0.1, x.2.2.2.1, x.2.2.2.2.1, y0.2.1, x.2.2.2.2.2.2.1, x.2.2.2.2.2.2.2.1, x.2.2.2.2.2.2.2.2.1, x.2.2.2.2.2.2.2.2.2.1, x.2.2.2.2.2.2.2.2.2.2.1, x.2.2.2.2.2.2.2.2.2.2.2.1, x.2.2.2.2.2.2.2.2.2.2.2.2.1, x.2.2.2.2.2.2.2.2.2.2.2.2.2.1, x.2.2.2.2.2.2.2.2.2.2.2.2.2.2.1, x.2.2.2.2.2.2.2.2.2.2.2.2.2.2.2.1, x.2.2.2.2.2.2.2.2.2.2.2.2.2.2.2.2.1, x.2.2.2.2.2.2.2.2.2.2.2.2.2.2.2.2.2.1, x.2.2.2.2.2.2.2.2.2.2.2.2.2.2.2.2.2.2.1, x.2.2.2.2.2.2.2.2.2.2.2.2.2.2.2.2.2.2.2.1, y0.2.2, x.2.2.2.2.2.2.2.2.2.2.2.2.2.2.2.2.2.2.2.2.1, x.2.2.2.2.2.2.2.2.2.2.2.2.2.2.2.2.2.2.2.2.2.1, x.2.2.2.2.2.2.2.2.2.2.2.2.2.2.2.2.2.2.2.2.2.2.1, x.2.2.2.2.2.2.2.2.2.2.2.2.2.2.2.2.2.2.2.2.2.2.2.1, x.2.2.2.2.2.2.2.2.2.2.2.2.2.2.2.2.2.2.2.2.2.2.2.2.1, x.2.2.2.2.2.2.2.2.2.2.2.2.2.2.2.2.2.2.2.2.2.2.2.2.2.1, x.2.2.2.2.2.2.2.2.2.2.2.2.2.2.2.2.2.2.2.2.2.2.2.2.2.2.1, x.2.2.2.2.2.2.2.2.2.2.2.2.2.2.2.2.2.2.2.2.2.2.2.2.2.2.2.1, x.2.2.2.2.2.2.2.2.2.2.2.2.2.2.2.2.2.2.2.2.2.2.2.2.2.2.2.2.1, x.2.2.2.2.2.2.2.2.2.2.2.2.2.2.2.2.2.2.2.2.2.2.2.2.2.2.2.2.2.1, x.2.2.2.2.2.2.2.2.2.2.2.2.2.2.2.2.2.2.2.2.2.2.2.2.2.2.2.2.2.2))) (fun y1 => k (.inr (y1, x.2.2.1, x.2.2.2.1, x.2.2.2.2.1, x.2.2.2.2.2.1, x.2.2.2.2.2.2.1, x.2.2.2.2.2.2.2.1, x.2.2.2.2.2.2.2.2.1, x.2.2.2.2.2.2.2.2.2.1, x.2.2.2.2.2.2.2.2.2.2.1, x.2.2.2.2.2.2.2.2.2.2.2.1, x.2.2.2.2.2.2.2.2.2.2.2.2.1, x.2.2.2.2.2.2.2.2.2.2.2.2.2.1, x.2.2.2.2.2.2.2.2.2.2.2.2.2.2.1, x.2.2.2.2.2.2.2.2.2.2.2.2.2.2.2.1, x.2.2.2.2.2.2.2.2.2.2.2.2.2.2.2.2.1, x.2.2.2.2.2.2.2.2.2.2.2.2.2.2.2.2.2.1, x.2.2.2.2.2.2.2.2.2.2.2.2.2.2.2.2.2.2.1, x.2.2.2.2.2.2.2.2.2.2.2.2.2.2.2.2.2.2.2.1, x.2.2.2.2.2.2.2.2.2.2.2.2.2.2.2.2.2.2.2.2.1, x.2.2.2.2.2.2.2.2.2.2.2.2.2.2.2.2.2.2.2.2.2.1, x.2.2.2.2.2.2.2.2.2.2.2.2.2.2.2.2.2.2.2.2.2.2.1, x.2.2.2.2.2.2.2.2.2.2.2.2.2.2.2.2.2.2.2.2.2.2.2.1, x.2.2.2.2.2.2.2.2.2.2.2.2.2.2.2.2.2.2.2.2.2.2.2.2.1, x.2.2.2.2.2.2.2.2.2.2.2.2.2.2.2.2.2.2.2.2.2.2.2.2.2.1, x.2.2.2.2.2.2.2.2.2.2.2.2.2.2.2.2.2.2.2.2.2.2.2.2.2.2.1, x.2.2.2.2.2.2.2.2.2.2.2.2.2.2.2.2.2.2.2.2.2.2.2.2.2.2.2.1, x.2.2.2.2.2.2.2.2.2.2.2.2.2.2.2.2.2.2.2.2.2.2.2.2.2.2.2.2.1, x.2.2.2.2.2.2.2.2.2.2.2.2.2.2.2.2.2.2.2.2.2.2.2.2.2.2.2.2.2.1, x.2.2.2.2.2.2.2.2.2.2.2.2.2.2.2.2.2.2.2.2.2.2.2.2.2.2.2.2.2.2))))
def qbV (x : t4) (v : (Int × Int)) : t4 := (v.1, v.2, x.2.2.1, x.2.2.2.1, x.2.2.2.2.1, x.2.2.2.2.2.1, x.2.2.2.2.2.2.1, x.2.2.2.2.2.2.2.1, x.2.2.2.2.2.2.2.2.1, x.2.2.2.2.2.2.2.2.2.1, x.2.2.2.2.2.2.2.2.2.2.1, x.2.2.2.2.2.2.2.2.2.2.2.1, x.2.2.2.2.2.2.2.2.2.2.2.2.1, x.2.2.2.2.2.2.2.2.2.2.2.2.2.1, x.2.2.2.2.2.2.2.2.2.2.2.2.2.2.1, x.2.2.2.2.2.2.2.2.2.2.2.2.2.2.2.1, x.2.2.2.2.2.2.2.2.2.2.2.2.2.2.2.2.1, x.2.2.2.2.2.2.2.2.2.2.2.2.2.2.2.2.2.1, x.2.2.2.2.2.2.2.2.2.2.2.2.2.2.2.2.2.2.1, x.2.2.2.2.2.2.2.2.2.2.2.2.2.2.2.2.2.2.2.1, x.2.2.2.2.2.2.2.2.2.2.2.2.2.2.2.2.2.2.2.2.1, x.2.2.2.2.2.2.2.2.2.2.2.2.2.2.2.2.2.2.2.2.2.1, x.2.2.2.2.2.2.2.2.2.2.2.2.2.2.2.2.2.2.2.2.2.2.1, x.2.2.2.2.2.2.2.2.2.2.2.2.2.2.2.2.2.2.2.2.2.2.2.1, x.2.2.2.2.2.2.2.2.2.2.2.2.2.2.2.2.2.2.2.2.2.2.2.2.1, x.2.2.2.2.2.2.2.2.2.2.2.2.2.2.2.2.2.2.2.2.2.2.2.2.2.1, x.2.2.2.2.2.2.2.2.2.2.2.2.2.2.2.2.2.2.2.2.2.2.2.2.2.2.1, x.2.2.2.2.2.2.2.2.2.2.2.2.2.2.2.2.2.2.2.2.2.2.2.2.2.2.2.1, x.2.2.2.2.2.2.2.2.2.2.2.2.2.2.2.2.2.2.2.2.2.2.2.2.2.2.2.2.1, x.2.2.2.2.2.2.2.2.2.2.2.2.2.2.2.2.2.2.2.2.2.2.2.2.2.2.2.2.2.1, x.2.2.2.2.2.2.2.2.2.2.2.2.2.2.2.2.2.2.2.2.2.2.2.2.2.2.2.2.2.2)
theorem qbW (x : t4) : LE.step X qbS qbK qbM 12 x = swing_Places_L3_step x.2.2.1 x.2.2.2.1 x.2.2.2.2.1 x.2.2.2.2.2.1 x.2.2.2.2.2.2.1 x.2.2.2.2.2.2.2.1 x.2.2.2.2.2.2.2.2.1 x.2.2.2.2.2.2.2.2.2.1 x.2.2.2.2.2.2.2.2.2.2.1 x.2.2.2.2.2.2.2.2.2.2.2.1 x.2.2.2.2.2.2.2.2.2.2.2.2.1 x.2.2.2.2.2.2.2.2.2.2.2.2.2.1 x.2.2.2.2.2.2.2.2.2.2.2.2.2.2.1 x.2.2.2.2.2.2.2.2.2.2.2.2.2.2.2.1 x.2.2.2.2.2.2.2.2.2.2.2.2.2.2.2.2.1 x.2.2.2.2.2.2.2.2.2.2.2.2.2.2.2.2.2.1 x.2.2.2.2.2.2.2.2.2.2.2.2.2.2.2.2.2.2.1 x.2.2.2.2.2.2.2.2.2.2.2.2.2.2.2.2.2.2.2.1 x.2.2.2.2.2.2.2.2.2.2.2.2.2.2.2.2.2.2.2.2.1 x.2.2.2.2.2.2.2.2.2.2.2.2.2.2.2.2.2.2.2.2.2.1 x.2.2.2.2.2.2.2.2.2.2.2.2.2.2.2.2.2.2.2.2.2.2.1 x.2.2.2.2.2.2.2.2.2.2.2.2.2.2.2.2.2.2.2.2.2.2.2.1 x.2.2.2.2.2.2.2.2.2.2.2.2.2.2.2.2.2.2.2.2.2.2.2.2.1 x.2.2.2.2.2.2.2.2.2.2.2.2.2.2.2.2.2.2.2.2.2.2.2.2.2.1 x.2.2.2.2.2.2.2.2.2.2.2.2.2.2.2.2.2.2.2.2.2.2.2.2.2.2.1 x.2.2.2.2.2.2.2.2.2.2.2.2.2.2.2.2.2.2.2.2.2.2.2.2.2.2.2.1 x.2.2.2.2.2.2.2.2.2.2.2.2.2.2.2.2.2.2.2.2.2.2.2.2.2.2.2.2.1 x.2.2.2.2.2.2.2.2.2.2.2.2.2.2.2.2.2.2.2.2.2.2.2.2.2.2.2.2.2.1 x.2.2.2.2.2.2.2.2.2.2.2.2.2.2.2.2.2.2.2.2.2.2.2.2.2.2.2.2.2.2 x.1 x.2.1 (fun w0 w1 => (Sum.inl (w0, w1, x.2.2.1, x.2.2.2.1, x.2.2.2.2.1, x.2.2.2.2.2.1, x.2.2.2.2.2.2.1, x.2.2.2.2.2.2.2.1, x.2.2.2.2.2.2.2.2.1, x.2.2.2.2.2.2.2.2.2.1, x.2.2.2.2.2.2.2.2.2.2.1, x.2.2.2.2.2.2.2.2.2.2.2.1, x.2.2.2.2.2.2.2.2.2.2.2.2.1, x.2.2.2.2.2.2.2.2.2.2.2.2.2.1, x.2.2.2.2.2.2.2.2.2.2.2.2.2.2.1, x.2.2.2.2.2.2.2.2.2.2.2.2.2.2.2.1, x.2.2.2.2.2.2.2.2.2.2.2.2.2.2.2.2.1, x.2.2.2.2.2.2.2.2.2.2.2.2.2.2.2.2.2.1, x.2.2.2.2.2.2.2.2.2.2.2.2.2.2.2.2.2.2.1, x.2.2.2.2.2.2.2.2.2.2.2.2.2.2.2.2.2.2.2.1, x.2.2.2.2.2.2.2.2.2.2.2.2.2.2.2.2.2.2.2.2.1, x.2.2.2.2.2.2.2.2.2.2.2.2.2.2.2.2.2.2.2.2.2.1, x.2.2.2.2.2.2.2.2.2.2.2.2.2.2.2.2.2.2.2.2.2.2.1, x.2.2.2.2.2.2.2.2.2.2.2.2.2.2.2.2.2.2.2.2.2.2.2.1, x.2.2.2.2.2.2.2.2.2.2.2.2.2.2.2.2.2.2.2.2.2.2.2.2.1, x.2.2.2.2.2.2.2.2.2.2.2.2.2.2.2.2.2.2.2.2.2.2.2.2.2.1, x.2.2.2.2.2.2.2.2.2.2.2.2.2.2.2.2.2.2.2.2.2.2.2.2.2.2.1, x.2.2.2.2.2.2.2.2.2.2.2.2.2.2.2.2.2.2.2.2.2.2.2.2.2.2.2.1, x.2.2.2.2.2.2.2.2.2.2.2.2.2.2.2.2.2.2.2.2.2.2.2.2.2.2.2.2.1, x.2.2.2.2.2.2.2.2.2.2.2.2.2.2.2.2.2.2.2.2.2.2.2.2.2.2.2.2.2.1, x.2.2.2.2.2.2.2.2.2.2.2.2.2.2.2.2.2.2.2.2.2.2.2.2.2.2.2.2.2.2))) (fun p0 p1 p2 => (Sum.inr (.inl (p0, x.2.2.2.1, x.2.2.2.2.1, p1, x.2.2.2.2.2.2.1, x.2.2.2.2.2.2.2.1, x.2.2.2.2.2.2.2.2.1, x.2.2.2.2.2.2.2.2.2.1, x.2.2.2.2.2.2.2.2.2.2.1, x.2.2.2.2.2.2.2.2.2.2.2.1, x.2.2.2.2.2.2.2.2.2.2.2.2.1, x.2.2.2.2.2.2.2.2.2.2.2.2.2.1, x.2.2.2.2.2.2.2.2.2.2.2.2.2.2.1, x.2.2.2.2.2.2.2.2.2.2.2.2.2.2.2.1, x.2.2.2.2.2.2.2.2.2.2.2.2.2.2.2.2.1, x.2.2.2.2.2.2.2.2.2.2.2.2.2.2.2.2.2.1, x.2.2.2.2.2.2.2.2.2.2.2.2.2.2.2.2.2.2.1, x.2.2.2.2.2.2.2.2.2.2.2.2.2.2.2.2.2.2.2.1, p2, x.2.2.2.2.2.2.2.2.2.2.2.2.2.2.2.2.2.2.2.2.1, x.2.2.2.2.2.2.2.2.2.2.2.2.2.2.2.2.2.2.2.2.2.1, x.2.2.2.2.2.2.2.2.2.2.2.2.2.2.2.2.2.2.2.2.2.2.1, x.2.2.2.2.2.2.2.2.2.2.2.2.2.2.2.2.2.2.2.2.2.2.2.1, x.2.2.2.2.2.2.2.2.2.2.2.2.2.2.2.2.2.2.2.2.2.2.2.2.1, x.2.2.2.2.2.2.2.2.2.2.2.2.2.2.2.2.2.2.2.2.2.2.2.2.2.1, x.2.2.2.2.2.2.2.2.2.2.2.2.2.2.2.2.2.2.2.2.2.2.2.2.2.2.1, x.2.2.2.2.2.2.2.2.2.2.2.2.2.2.2.2.2.2.2.2.2.2.2.2.2.2.2.1, x.2.2.2.2.2.2.2.2.2.2.2.2.2.2.2.2.2.2.2.2.2.2.2.2.2.2.2.2.1, x.2.2.2.2.2.2.2.2.2.2.2.2.2.2.2.2.2.2.2.2.2.2.2.2.2.2.2.2.2.1, x.2.2.2.2.2.2.2.2.2.2.2.2.2.2.2.2.2.2.2.2.2.2.2.2.2.2.2.2.2.2)))) (fun p0 => (Sum.inr (.inr (p0, x.2.2.1, x.2.2.2.1, x.2.2.2.2.1, x.2.2.2.2.2.1, x.2.2.2.2.2.2.1, x.2.2.2.2.2.2.2.1, x.2.2.2.2.2.2.2.2.1, x.2.2.2.2.2.2.2.2.2.1, x.2.2.2.2.2.2.2.2.2.2.1, x.2.2.2.2.2.2.2.2.2.2.2.1, x.2.2.2.2.2.2.2.2.2.2.2.2.1, x.2.2.2.2.2.2.2.2.2.2.2.2.2.1, x.2.2.2.2.2.2.2.2.2.2.2.2.2.2.1, x.2.2.2.2.2.2.2.2.2.2.2.2.2.2.2.1, x.2.2.2.2.2.2.2.2.2.2.2.2.2.2.2.2.1, x.2.2.2.2.2.2.2.2.2.2.2.2.2.2.2.2.2.1, x.2.2.2.2.2.2.2.2.2.2.2.2.2.2.2.2.2.2.1, x.2.2.2.2.2.2.2.2.2.2.2.2.2.2.2.2.2.2.2.1, x.2.2.2.2.2.2.2.2.2.2.2.2.2.2.2.2.2.2.2.2.1, x.2.2.2.2.2.2.2.2.2.2.2.2.2.2.2.2.2.2.2.2.2.1, x.2.2.2.2.2.2.2.2.2.2.2.2.2.2.2.2.2.2.2.2.2.2.1, x.2.2.2.2.2.2.2.2.2.2.2.2.2.2.2.2.2.2.2.2.2.2.2.1, x.2.2.2.2.2.2.2.2.2.2.2.2.2.2.2.2.2.2.2.2.2.2.2.2.1, x.2.2.2.2.2.2.2.2.2.2.2.2.2.2.2.2.2.2.2.2.2.2.2.2.2.1, x.2.2.2.2.2.2.2.2.2.2.2.2.2.2.2.2.2.2.2.2.2.2.2.2.2.2.1, x.2.2.2.2.2.2.2.2.2.2.2.2.2.2.2.2.2.2.2.2.2.2.2.2.2.2.2.1, x.2.2.2.2.2.2.2.2.2.2.2.2.2.2.2.2.2.2.2.2.2.2.2.2.2.2.2.2.1, x.2.2.2.2.2.2.2.2.2.2.2.2.2.2.2.2.2.2.2.2.2.2.2.2.2.2.2.2.2.1, x.2.2.2.2.2.2.2.2.2.2.2.2.2.2.2.2.2.2.2.2.2.2.2.2.2.2.2.2.2.2)))):=by kernel_rfl
theorem qbY {R : Type} (x : t4) (k : t0 → Option R) (r : R) (h : qbU x k = some r) : ∃ o, Runs (LE.step X qbS qbK qbM 12) x o ∧ k o = some r := by
  obtain ⟨o, h1, h2⟩ := some_bind h
  exact ⟨qbT x o, small_ok (st := fun (x : t4) => swing_Places_L3_st x.2.2.1 x.2.2.2.1 x.2.2.2.2.1 x.2.2.2.2.2.1 x.2.2.2.2.2.2.1 x.2.2.2.2.2.2.2.1 x.2.2.2.2.2.2.2.2.1 x.2.2.2.2.2.2.2.2.2.1 x.2.2.2.2.2.2.2.2.2.2.1 x.2.2.2.2.2.2.2.2.2.2.2.1 x.2.2.2.2.2.2.2.2.2.2.2.2.1 x.2.2.2.2.2.2.2.2.2.2.2.2.2.1 x.2.2.2.2.2.2.2.2.2.2.2.2.2.2.1 x.2.2.2.2.2.2.2.2.2.2.2.2.2.2.2.1 x.2.2.2.2.2.2.2.2.2.2.2.2.2.2.2.2.1 x.2.2.2.2.2.2.2.2.2.2.2.2.2.2.2.2.2.1 x.2.2.2.2.2.2.2.2.2.2.2.2.2.2.2.2.2.2.1 x.2.2.2.2.2.2.2.2.2.2.2.2.2.2.2.2.2.2.2.1 x.2.2.2.2.2.2.2.2.2.2.2.2.2.2.2.2.2.2.2.2.1 x.2.2.2.2.2.2.2.2.2.2.2.2.2.2.2.2.2.2.2.2.2.1 x.2.2.2.2.2.2.2.2.2.2.2.2.2.2.2.2.2.2.2.2.2.2.1 x.2.2.2.2.2.2.2.2.2.2.2.2.2.2.2.2.2.2.2.2.2.2.2.1 x.2.2.2.2.2.2.2.2.2.2.2.2.2.2.2.2.2.2.2.2.2.2.2.2.1 x.2.2.2.2.2.2.2.2.2.2.2.2.2.2.2.2.2.2.2.2.2.2.2.2.2.1 x.2.2.2.2.2.2.2.2.2.2.2.2.2.2.2.2.2.2.2.2.2.2.2.2.2.2.1 x.2.2.2.2.2.2.2.2.2.2.2.2.2.2.2.2.2.2.2.2.2.2.2.2.2.2.2.1 x.2.2.2.2.2.2.2.2.2.2.2.2.2.2.2.2.2.2.2.2.2.2.2.2.2.2.2.2.1 x.2.2.2.2.2.2.2.2.2.2.2.2.2.2.2.2.2.2.2.2.2.2.2.2.2.2.2.2.2.1 x.2.2.2.2.2.2.2.2.2.2.2.2.2.2.2.2.2.2.2.2.2.2.2.2.2.2.2.2.2.2) (prj := fun x => (x.1, x.2.1)) (emb := qbV) (embO := qbT) (fun x => (qbW x).trans (by unfold swing_Places_L3_st swing_Places_L3_step; simp only [map_cond,map_bindO,map_elim,Option.map_some,Option.map_none]; rfl)) (fun _ _ => rfl) (fun _ _ => rfl) (fun _ _ _ => rfl) (fun _ _ _ => rfl) (fun _ => rfl) (runOf_some.1 h1), by
    first
    | exact h2
    | (rcases o with o | o <;> exact h2)⟩
noncomputable def qbZ {R : Type} : Loops S R := LE.ls X qbS qbU qbM
theorem qc0 {R : Type} : LoopsOk X (qbZ (R := R)) := loop_ok xok qbL (e := qbS) qbN qbY qbN
def qc1 : Key := ⟨[108, 2, 44, 5, 7, 108, 0, 34], 108, none, [0, 0, 1, 1], 0, 89⟩
def qc2 : StT S := ⟨v15, oP, 90⟩
def qc3 : Way S := ⟨.ret, ⟨L, oK, 130⟩, [(.lst (.st 2)), (.arr (.int .u64)), (.st 6), (.lst (.st 2)), (.lst (.st 10)), .int, .bool, (.lst (.st 10)), .bool, (.lst (.arr 5 (.int .u64))), .bool, .int, (.st 9), (.st 10), .int, .int, (.st 14), (.st 10), (.st 2), (.st 2), (.st 9), .int, .bool, (.lst (.st 10)), .bool, (.lst (.arr 5 (.int .u64))), .bool, (.st 9), (.st 10), (.st 6)]⟩
def qc4 : Way S := ⟨(.exit 0), ⟨L, oP, 95⟩, [(.arr (.int .u64)), (.st 6), (.lst (.st 10)), .int, .bool, (.lst (.st 10)), .bool, (.lst (.arr 5 (.int .u64))), .bool, .int, (.st 9), (.st 10), .int, .int, (.st 14), (.st 10), (.st 2), (.lst (.st 2)), (.st 9), .int, .bool, (.lst (.st 10)), .bool, (.lst (.arr 5 (.int .u64))), .bool, (.st 9), (.st 10), (.st 6)]⟩
def qc5 : LE S := ⟨qc1, qc2, [.int, .int, (.arr (.int .u64)), (.st 6), (.lst (.st 10)), .int, .bool, (.lst (.st 10)), .bool, (.lst (.arr 5 (.int .u64))), .bool, .int, (.st 9), (.st 10), .int, .int, (.st 14), (.st 10), (.st 2), (.lst (.st 2)), (.st 9), .int, .bool, (.lst (.st 10)), .bool, (.lst (.arr 5 (.int .u64))), .bool, (.st 9), (.st 10), (.st 6)], [qc3, qc4]⟩
def qc6 (x : t5) : (((List Point) × (List Point) × Point) ⊕ Unit) → t1 := Sum.elim (fun y0 => (.inl (y0.1, x.2.2.1, x.2.2.2.1, y0.2.1, x.2.2.2.2.1, x.2.2.2.2.2.1, x.2.2.2.2.2.2.1, x.2.2.2.2.2.2.2.1, x.2.2.2.2.2.2.2.2.1, x.2.2.2.2.2.2.2.2.2.1, x.2.2.2.2.2.2.2.2.2.2.1, x.2.2.2.2.2.2.2.2.2.2.2.1, x.2.2.2.2.2.2.2.2.2.2.2.2.1, x.2.2.2.2.2.2.2.2.2.2.2.2.2.1, x.2.2.2.2.2.2.2.2.2.2.2.2.2.2.1, x.2.2.2.2.2.2.2.2.2.2.2.2.2.2.2.1, x.2.2.2.2.2.2.2.2.2.2.2.2.2.2.2.2.1, x.2.2.2.2.2.2.2.2.2.2.2.2.2.2.2.2.2.1, y0.2.2, x.2.2.2.2.2.2.2.2.2.2.2.2.2.2.2.2.2.2.1, x.2.2.2.2.2.2.2.2.2.2.2.2.2.2.2.2.2.2.2.2.1, x.2.2.2.2.2.2.2.2.2.2.2.2.2.2.2.2.2.2.2.2.2.1, x.2.2.2.2.2.2.2.2.2.2.2.2.2.2.2.2.2.2.2.2.2.2.1, x.2.2.2.2.2.2.2.2.2.2.2.2.2.2.2.2.2.2.2.2.2.2.2.1, x.2.2.2.2.2.2.2.2.2.2.2.2.2.2.2.2.2.2.2.2.2.2.2.2.1, x.2.2.2.2.2.2.2.2.2.2.2.2.2.2.2.2.2.2.2.2.2.2.2.2.2.1, x.2.2.2.2.2.2.2.2.2.2.2.2.2.2.2.2.2.2.2.2.2.2.2.2.2.2.1, x.2.2.2.2.2.2.2.2.2.2.2.2.2.2.2.2.2.2.2.2.2.2.2.2.2.2.2.1, x.2.2.2.2.2.2.2.2.2.2.2.2.2.2.2.2.2.2.2.2.2.2.2.2.2.2.2.2.1, x.2.2.2.2.2.2.2.2.2.2.2.2.2.2.2.2.2.2.2.2.2.2.2.2.2.2.2.2.2))) (fun y1 => (.inr (x.2.2.1, x.2.2.2.1, x.2.2.2.2.1, x.2.2.2.2.2.1, x.2.2.2.2.2.2.1, x.2.2.2.2.2.2.2.1, x.2.2.2.2.2.2.2.2.1, x.2.2.2.2.2.2.2.2.2.1, x.2.2.2.2.2.2.2.2.2.2.1, x.2.2.2.2.2.2.2.2.2.2.2.1, x.2.2.2.2.2.2.2.2.2.2.2.2.1, x.2.2.2.2.2.2.2.2.2.2.2.2.2.1, x.2.2.2.2.2.2.2.2.2.2.2.2.2.2.1, x.2.2.2.2.2.2.2.2.2.2.2.2.2.2.2.1, x.2.2.2.2.2.2.2.2.2.2.2.2.2.2.2.2.1, x.2.2.2.2.2.2.2.2.2.2.2.2.2.2.2.2.2.1, x.2.2.2.2.2.2.2.2.2.2.2.2.2.2.2.2.2.2.1, x.2.2.2.2.2.2.2.2.2.2.2.2.2.2.2.2.2.2.2.1, x.2.2.2.2.2.2.2.2.2.2.2.2.2.2.2.2.2.2.2.2.1, x.2.2.2.2.2.2.2.2.2.2.2.2.2.2.2.2.2.2.2.2.2.1, x.2.2.2.2.2.2.2.2.2.2.2.2.2.2.2.2.2.2.2.2.2.2.1, x.2.2.2.2.2.2.2.2.2.2.2.2.2.2.2.2.2.2.2.2.2.2.2.1, x.2.2.2.2.2.2.2.2.2.2.2.2.2.2.2.2.2.2.2.2.2.2.2.2.1, x.2.2.2.2.2.2.2.2.2.2.2.2.2.2.2.2.2.2.2.2.2.2.2.2.2.1, x.2.2.2.2.2.2.2.2.2.2.2.2.2.2.2.2.2.2.2.2.2.2.2.2.2.2.1, x.2.2.2.2.2.2.2.2.2.2.2.2.2.2.2.2.2.2.2.2.2.2.2.2.2.2.2.1, x.2.2.2.2.2.2.2.2.2.2.2.2.2.2.2.2.2.2.2.2.2.2.2.2.2.2.2.2.1, x.2.2.2.2.2.2.2.2.2.2.2.2.2.2.2.2.2.2.2.2.2.2.2.2.2.2.2.2.2)))
noncomputable def qc7 {R : Type} (x : t5) (k : t1 → Option R) : Option R := (swing_Places_L2_run x.2.2.1 x.2.2.2.1 x.2.2.2.2.1 x.2.2.2.2.2.1 x.2.2.2.2.2.2.1 x.2.2.2.2.2.2.2.1 x.2.2.2.2.2.2.2.2.1 x.2.2.2.2.2.2.2.2.2.1 x.2.2.2.2.2.2.2.2.2.2.1 x.2.2.2.2.2.2.2.2.2.2.2.1 x.2.2.2.2.2.2.2.2.2.2.2.2.1 x.2.2.2.2.2.2.2.2.2.2.2.2.2.1 x.2.2.2.2.2.2.2.2.2.2.2.2.2.2.1 x.2.2.2.2.2.2.2.2.2.2.2.2.2.2.2.1 x.2.2.2.2.2.2.2.2.2.2.2.2.2.2.2.2.1 x.2.2.2.2.2.2.2.2.2.2.2.2.2.2.2.2.2.1 x.2.2.2.2.2.2.2.2.2.2.2.2.2.2.2.2.2.2.1 x.2.2.2.2.2.2.2.2.2.2.2.2.2.2.2.2.2.2.2.1 x.2.2.2.2.2.2.2.2.2.2.2.2.2.2.2.2.2.2.2.2.1 x.2.2.2.2.2.2.2.2.2.2.2.2.2.2.2.2.2.2.2.2.2.1 x.2.2.2.2.2.2.2.2.2.2.2.2.2.2.2.2.2.2.2.2.2.2.1 x.2.2.2.2.2.2.2.2.2.2.2.2.2.2.2.2.2.2.2.2.2.2.2.1 x.2.2.2.2.2.2.2.2.2.2.2.2.2.2.2.2.2.2.2.2.2.2.2.2.1 x.2.2.2.2.2.2.2.2.2.2.2.2.2.2.2.2.2.2.2.2.2.2.2.2.2.1 x.2.2.2.2.2.2.2.2.2.2.2.2.2.2.2.2.2.2.2.2.2.2.2.2.2.2.1 x.2.2.2.2.2.2.2.2.2.2.2.2.2.2.2.2.2.2.2.2.2.2.2.2.2.2.2.1 x.2.2.2.2.2.2.2.2.2.2.2.2.2.2.2.2.2.2.2.2.2.2.2.2.2.2.2.2.1 x.2.2.2.2.2.2.2.2.2.2.2.2.2.2.2.2.2.2.2.2.2.2.2.2.2.2.2.2.2 (x.1, x.2.1)).bind (Sum.elim (fun y0 => k (.inl (y0.1, x.2.2.1, x.2.2.2.1, y0.2.1, x.2.2.2.2.1, x.2.2.2.2.2.1, x.2.2.2.2.2.2.1, x.2.2.2.2.2.2.2.1, x.2.2.2.2.2.2.2.2.1, x.2.2.2.2.2.2.2.2.2.1, x.2.2.2.2.2.2.2.2.2.2.1, x.2.2.2.2.2.2.2.2.2.2.2.1, x.2.2.2.2.2.2.2.2.2.2.2.2.1, x.2.2.2.2.2.2.2.2.2.2.2.2.2.1, x.2.2.2.2.2.2.2.2.2.2.2.2.2.2.1, x.2.2.2.2.2.2.2.2.2.2.2.2.2.2.2.1, x.2.2.2.2.2.2.2.2.2.2.2.2.2.2.2.2.1, x.2.2.2.2.2.2.2.2.2.2.2.2.2.2.2.2.2.1, y0.2.2, x.2.2.2.2.2.2.2.2.2.2.2.2.2.2.2.2.2.2.1, x.2.2.2.2.2.2.2.2.2.2.2.2.2.2.2.2.2.2.2.2.1, x.2.2.2.2.2.2.2.2.2.2.2.2.2.2.2.2.2.2.2.2.2.1, x.2.2.2.2.2.2.2.2.2.2.2.2.2.2.2.2.2.2.2.2.2.2.1, x.2.2.2.2.2.2.2.2.2.2.2.2.2.2.2.2.2.2.2.2.2.2.2.1, x.2.2.2.2.2.2.2.2.2.2.2.2.2.2.2.2.2.2.2.2.2.2.2.2.1, x.2.2.2.2.2.2.2.2.2.2.2.2.2.2.2.2.2.2.2.2.2.2.2.2.2.1, x.2.2.2.2.2.2.2.2.2.2.2.2.2.2.2.2.2.2.2.2.2.2.2.2.2.2.1, x.2.2.2.2.2.2.2.2.2.2.2.2.2.2.2.2.2.2.2.2.2.2.2.2.2.2.2.1, x.2.2.2.2.2.2.2.2.2.2.2.2.2.2.2.2.2.2.2.2.2.2.2.2.2.2.2.2.1, x.2.2.2.2.2.2.2.2.2.2.2.2.2.2.2.2.2.2.2.2.2.2.2.2.2.2.2.2.2))) (fun y1 => k (.inr (x.2.2.1, x.2.2.2.1, x.2.2.2.2.1, x.2.2.2.2.2.1, x.2.2.2.2.2.2.1, x.2.2.2.2.2.2.2.1, x.2.2.2.2.2.2.2.2.1, x.2.2.2.2.2.2.2.2.2.1, x.2.2.2.2.2.2.2.2.2.2.1, x.2.2.2.2.2.2.2.2.2.2.2.1, x.2.2.2.2.2.2.2.2.2.2.2.2.1, x.2.2.2.2.2.2.2.2.2.2.2.2.2.1, x.2.2.2.2.2.2.2.2.2.2.2.2.2.2.1, x.2.2.2.2.2.2.2.2.2.2.2.2.2.2.2.1, x.2.2.2.2.2.2.2.2.2.2.2.2.2.2.2.2.1, x.2.2.2.2.2.2.2.2.2.2.2.2.2.2.2.2.2.1, x.2.2.2.2.2.2.2.2.2.2.2.2.2.2.2.2.2.2.1, x.2.2.2.2.2.2.2.2.2.2.2.2.2.2.2.2.2.2.2.1, x.2.2.2.2.2.2.2.2.2.2.2.2.2.2.2.2.2.2.2.2.1, x.2.2.2.2.2.2.2.2.2.2.2.2.2.2.2.2.2.2.2.2.2.1, x.2.2.2.2.2.2.2.2.2.2.2.2.2.2.2.2.2.2.2.2.2.2.1, x.2.2.2.2.2.2.2.2.2.2.2.2.2.2.2.2.2.2.2.2.2.2.2.1, x.2.2.2.2.2.2.2.2.2.2.2.2.2.2.2.2.2.2.2.2.2.2.2.2.1, x.2.2.2.2.2.2.2.2.2.2.2.2.2.2.2.2.2.2.2.2.2.2.2.2.2.1, x.2.2.2.2.2.2.2.2.2.2.2.2.2.2.2.2.2.2.2.2.2.2.2.2.2.2.1, x.2.2.2.2.2.2.2.2.2.2.2.2.2.2.2.2.2.2.2.2.2.2.2.2.2.2.2.1, x.2.2.2.2.2.2.2.2.2.2.2.2.2.2.2.2.2.2.2.2.2.2.2.2.2.2.2.2.1, x.2.2.2.2.2.2.2.2.2.2.2.2.2.2.2.2.2.2.2.2.2.2.2.2.2.2.2.2.2))))
def qc8 (x : t5) (v : (Int × Int)) : t5 := (v.1, v.2, x.2.2.1, x.2.2.2.1, x.2.2.2.2.1, x.2.2.2.2.2.1, x.2.2.2.2.2.2.1, x.2.2.2.2.2.2.2.1, x.2.2.2.2.2.2.2.2.1, x.2.2.2.2.2.2.2.2.2.1, x.2.2.2.2.2.2.2.2.2.2.1, x.2.2.2.2.2.2.2.2.2.2.2.1, x.2.2.2.2.2.2.2.2.2.2.2.2.1, x.2.2.2.2.2.2.2.2.2.2.2.2.2.1, x.2.2.2.2.2.2.2.2.2.2.2.2.2.2.1, x.2.2.2.2.2.2.2.2.2.2.2.2.2.2.2.1, x.2.2.2.2.2.2.2.2.2.2.2.2.2.2.2.2.1, x.2.2.2.2.2.2.2.2.2.2.2.2.2.2.2.2.2.1, x.2.2.2.2.2.2.2.2.2.2.2.2.2.2.2.2.2.2.1, x.2.2.2.2.2.2.2.2.2.2.2.2.2.2.2.2.2.2.2.1, x.2.2.2.2.2.2.2.2.2.2.2.2.2.2.2.2.2.2.2.2.1, x.2.2.2.2.2.2.2.2.2.2.2.2.2.2.2.2.2.2.2.2.2.1, x.2.2.2.2.2.2.2.2.2.2.2.2.2.2.2.2.2.2.2.2.2.2.1, x.2.2.2.2.2.2.2.2.2.2.2.2.2.2.2.2.2.2.2.2.2.2.2.1, x.2.2.2.2.2.2.2.2.2.2.2.2.2.2.2.2.2.2.2.2.2.2.2.2.1, x.2.2.2.2.2.2.2.2.2.2.2.2.2.2.2.2.2.2.2.2.2.2.2.2.2.1, x.2.2.2.2.2.2.2.2.2.2.2.2.2.2.2.2.2.2.2.2.2.2.2.2.2.2.1, x.2.2.2.2.2.2.2.2.2.2.2.2.2.2.2.2.2.2.2.2.2.2.2.2.2.2.2.1, x.2.2.2.2.2.2.2.2.2.2.2.2.2.2.2.2.2.2.2.2.2.2.2.2.2.2.2.2.1, x.2.2.2.2.2.2.2.2.2.2.2.2.2.2.2.2.2.2.2.2.2.2.2.2.2.2.2.2.2)
theorem qc9 (x : t5) : LE.step X qc5 qbK qbZ 12 x = swing_Places_L2_step x.2.2.1 x.2.2.2.1 x.2.2.2.2.1 x.2.2.2.2.2.1 x.2.2.2.2.2.2.1 x.2.2.2.2.2.2.2.1 x.2.2.2.2.2.2.2.2.1 x.2.2.2.2.2.2.2.2.2.1 x.2.2.2.2.2.2.2.2.2.2.1 x.2.2.2.2.2.2.2.2.2.2.2.1 x.2.2.2.2.2.2.2.2.2.2.2.2.1 x.2.2.2.2.2.2.2.2.2.2.2.2.2.1 x.2.2.2.2.2.2.2.2.2.2.2.2.2.2.1 x.2.2.2.2.2.2.2.2.2.2.2.2.2.2.2.1 x.2.2.2.2.2.2.2.2.2.2.2.2.2.2.2.2.1 x.2.2.2.2.2.2.2.2.2.2.2.2.2.2.2.2.2.1 x.2.2.2.2.2.2.2.2.2.2.2.2.2.2.2.2.2.2.1 x.2.2.2.2.2.2.2.2.2.2.2.2.2.2.2.2.2.2.2.1 x.2.2.2.2.2.2.2.2.2.2.2.2.2.2.2.2.2.2.2.2.1 x.2.2.2.2.2.2.2.2.2.2.2.2.2.2.2.2.2.2.2.2.2.1 x.2.2.2.2.2.2.2.2.2.2.2.2.2.2.2.2.2.2.2.2.2.2.1 x.2.2.2.2.2.2.2.2.2.2.2.2.2.2.2.2.2.2.2.2.2.2.2.1 x.2.2.2.2.2.2.2.2.2.2.2.2.2.2.2.2.2.2.2.2.2.2.2.2.1 x.2.2.2.2.2.2.2.2.2.2.2.2.2.2.2.2.2.2.2.2.2.2.2.2.2.1 x.2.2.2.2.2.2.2.2.2.2.2.2.2.2.2.2.2.2.2.2.2.2.2.2.2.2.1 x.2.2.2.2.2.2.2.2.2.2.2.2.2.2.2.2.2.2.2.2.2.2.2.2.2.2.2.1 x.2.2.2.2.2.2.2.2.2.2.2.2.2.2.2.2.2.2.2.2.2.2.2.2.2.2.2.2.1 x.2.2.2.2.2.2.2.2.2.2.2.2.2.2.2.2.2.2.2.2.2.2.2.2.2.2.2.2.2 x.1 x.2.1 (fun w0 w1 => (Sum.inl (w0, w1, x.2.2.1, x.2.2.2.1, x.2.2.2.2.1, x.2.2.2.2.2.1, x.2.2.2.2.2.2.1, x.2.2.2.2.2.2.2.1, x.2.2.2.2.2.2.2.2.1, x.2.2.2.2.2.2.2.2.2.1, x.2.2.2.2.2.2.2.2.2.2.1, x.2.2.2.2.2.2.2.2.2.2.2.1, x.2.2.2.2.2.2.2.2.2.2.2.2.1, x.2.2.2.2.2.2.2.2.2.2.2.2.2.1, x.2.2.2.2.2.2.2.2.2.2.2.2.2.2.1, x.2.2.2.2.2.2.2.2.2.2.2.2.2.2.2.1, x.2.2.2.2.2.2.2.2.2.2.2.2.2.2.2.2.1, x.2.2.2.2.2.2.2.2.2.2.2.2.2.2.2.2.2.1, x.2.2.2.2.2.2.2.2.2.2.2.2.2.2.2.2.2.2.1, x.2.2.2.2.2.2.2.2.2.2.2.2.2.2.2.2.2.2.2.1, x.2.2.2.2.2.2.2.2.2.2.2.2.2.2.2.2.2.2.2.2.1, x.2.2.2.2.2.2.2.2.2.2.2.2.2.2.2.2.2.2.2.2.2.1, x.2.2.2.2.2.2.2.2.2.2.2.2.2.2.2.2.2.2.2.2.2.2.1, x.2.2.2.2.2.2.2.2.2.2.2.2.2.2.2.2.2.2.2.2.2.2.2.1, x.2.2.2.2.2.2.2.2.2.2.2.2.2.2.2.2.2.2.2.2.2.2.2.2.1, x.2.2.2.2.2.2.2.2.2.2.2.2.2.2.2.2.2.2.2.2.2.2.2.2.2.1, x.2.2.2.2.2.2.2.2.2.2.2.2.2.2.2.2.2.2.2.2.2.2.2.2.2.2.1, x.2.2.2.2.2.2.2.2.2.2.2.2.2.2.2.2.2.2.2.2.2.2.2.2.2.2.2.1, x.2.2.2.2.2.2.2.2.2.2.2.2.2.2.2.2.2.2.2.2.2.2.2.2.2.2.2.2.1, x.2.2.2.2.2.2.2.2.2.2.2.2.2.2.2.2.2.2.2.2.2.2.2.2.2.2.2.2.2))) (fun p0 p1 p2 => (Sum.inr (.inl (p0, x.2.2.1, x.2.2.2.1, p1, x.2.2.2.2.1, x.2.2.2.2.2.1, x.2.2.2.2.2.2.1, x.2.2.2.2.2.2.2.1, x.2.2.2.2.2.2.2.2.1, x.2.2.2.2.2.2.2.2.2.1, x.2.2.2.2.2.2.2.2.2.2.1, x.2.2.2.2.2.2.2.2.2.2.2.1, x.2.2.2.2.2.2.2.2.2.2.2.2.1, x.2.2.2.2.2.2.2.2.2.2.2.2.2.1, x.2.2.2.2.2.2.2.2.2.2.2.2.2.2.1, x.2.2.2.2.2.2.2.2.2.2.2.2.2.2.2.1, x.2.2.2.2.2.2.2.2.2.2.2.2.2.2.2.2.1, x.2.2.2.2.2.2.2.2.2.2.2.2.2.2.2.2.2.1, p2, x.2.2.2.2.2.2.2.2.2.2.2.2.2.2.2.2.2.2.1, x.2.2.2.2.2.2.2.2.2.2.2.2.2.2.2.2.2.2.2.2.1, x.2.2.2.2.2.2.2.2.2.2.2.2.2.2.2.2.2.2.2.2.2.1, x.2.2.2.2.2.2.2.2.2.2.2.2.2.2.2.2.2.2.2.2.2.2.1, x.2.2.2.2.2.2.2.2.2.2.2.2.2.2.2.2.2.2.2.2.2.2.2.1, x.2.2.2.2.2.2.2.2.2.2.2.2.2.2.2.2.2.2.2.2.2.2.2.2.1, x.2.2.2.2.2.2.2.2.2.2.2.2.2.2.2.2.2.2.2.2.2.2.2.2.2.1, x.2.2.2.2.2.2.2.2.2.2.2.2.2.2.2.2.2.2.2.2.2.2.2.2.2.2.1, x.2.2.2.2.2.2.2.2.2.2.2.2.2.2.2.2.2.2.2.2.2.2.2.2.2.2.2.1, x.2.2.2.2.2.2.2.2.2.2.2.2.2.2.2.2.2.2.2.2.2.2.2.2.2.2.2.2.1, x.2.2.2.2.2.2.2.2.2.2.2.2.2.2.2.2.2.2.2.2.2.2.2.2.2.2.2.2.2)))) (Sum.inr (.inr (x.2.2.1, x.2.2.2.1, x.2.2.2.2.1, x.2.2.2.2.2.1, x.2.2.2.2.2.2.1, x.2.2.2.2.2.2.2.1, x.2.2.2.2.2.2.2.2.1, x.2.2.2.2.2.2.2.2.2.1, x.2.2.2.2.2.2.2.2.2.2.1, x.2.2.2.2.2.2.2.2.2.2.2.1, x.2.2.2.2.2.2.2.2.2.2.2.2.1, x.2.2.2.2.2.2.2.2.2.2.2.2.2.1, x.2.2.2.2.2.2.2.2.2.2.2.2.2.2.1, x.2.2.2.2.2.2.2.2.2.2.2.2.2.2.2.1, x.2.2.2.2.2.2.2.2.2.2.2.2.2.2.2.2.1, x.2.2.2.2.2.2.2.2.2.2.2.2.2.2.2.2.2.1, x.2.2.2.2.2.2.2.2.2.2.2.2.2.2.2.2.2.2.1, x.2.2.2.2.2.2.2.2.2.2.2.2.2.2.2.2.2.2.2.1, x.2.2.2.2.2.2.2.2.2.2.2.2.2.2.2.2.2.2.2.2.1, x.2.2.2.2.2.2.2.2.2.2.2.2.2.2.2.2.2.2.2.2.2.1, x.2.2.2.2.2.2.2.2.2.2.2.2.2.2.2.2.2.2.2.2.2.2.1, x.2.2.2.2.2.2.2.2.2.2.2.2.2.2.2.2.2.2.2.2.2.2.2.1, x.2.2.2.2.2.2.2.2.2.2.2.2.2.2.2.2.2.2.2.2.2.2.2.2.1, x.2.2.2.2.2.2.2.2.2.2.2.2.2.2.2.2.2.2.2.2.2.2.2.2.2.1, x.2.2.2.2.2.2.2.2.2.2.2.2.2.2.2.2.2.2.2.2.2.2.2.2.2.2.1, x.2.2.2.2.2.2.2.2.2.2.2.2.2.2.2.2.2.2.2.2.2.2.2.2.2.2.2.1, x.2.2.2.2.2.2.2.2.2.2.2.2.2.2.2.2.2.2.2.2.2.2.2.2.2.2.2.2.1, x.2.2.2.2.2.2.2.2.2.2.2.2.2.2.2.2.2.2.2.2.2.2.2.2.2.2.2.2.2))):=by kernel_rfl
theorem qcb {R : Type} (x : t5) (k : t1 → Option R) (r : R) (h : qc7 x k = some r) : ∃ o, Runs (LE.step X qc5 qbK qbZ 12) x o ∧ k o = some r := by
  obtain ⟨o, h1, h2⟩ := some_bind h
  exact ⟨qc6 x o, small_ok (st := fun (x : t5) => swing_Places_L2_st x.2.2.1 x.2.2.2.1 x.2.2.2.2.1 x.2.2.2.2.2.1 x.2.2.2.2.2.2.1 x.2.2.2.2.2.2.2.1 x.2.2.2.2.2.2.2.2.1 x.2.2.2.2.2.2.2.2.2.1 x.2.2.2.2.2.2.2.2.2.2.1 x.2.2.2.2.2.2.2.2.2.2.2.1 x.2.2.2.2.2.2.2.2.2.2.2.2.1 x.2.2.2.2.2.2.2.2.2.2.2.2.2.1 x.2.2.2.2.2.2.2.2.2.2.2.2.2.2.1 x.2.2.2.2.2.2.2.2.2.2.2.2.2.2.2.1 x.2.2.2.2.2.2.2.2.2.2.2.2.2.2.2.2.1 x.2.2.2.2.2.2.2.2.2.2.2.2.2.2.2.2.2.1 x.2.2.2.2.2.2.2.2.2.2.2.2.2.2.2.2.2.2.1 x.2.2.2.2.2.2.2.2.2.2.2.2.2.2.2.2.2.2.2.1 x.2.2.2.2.2.2.2.2.2.2.2.2.2.2.2.2.2.2.2.2.1 x.2.2.2.2.2.2.2.2.2.2.2.2.2.2.2.2.2.2.2.2.2.1 x.2.2.2.2.2.2.2.2.2.2.2.2.2.2.2.2.2.2.2.2.2.2.1 x.2.2.2.2.2.2.2.2.2.2.2.2.2.2.2.2.2.2.2.2.2.2.2.1 x.2.2.2.2.2.2.2.2.2.2.2.2.2.2.2.2.2.2.2.2.2.2.2.2.1 x.2.2.2.2.2.2.2.2.2.2.2.2.2.2.2.2.2.2.2.2.2.2.2.2.2.1 x.2.2.2.2.2.2.2.2.2.2.2.2.2.2.2.2.2.2.2.2.2.2.2.2.2.2.1 x.2.2.2.2.2.2.2.2.2.2.2.2.2.2.2.2.2.2.2.2.2.2.2.2.2.2.2.1 x.2.2.2.2.2.2.2.2.2.2.2.2.2.2.2.2.2.2.2.2.2.2.2.2.2.2.2.2.1 x.2.2.2.2.2.2.2.2.2.2.2.2.2.2.2.2.2.2.2.2.2.2.2.2.2.2.2.2.2) (prj := fun x => (x.1, x.2.1)) (emb := qc8) (embO := qc6) (fun x => (qc9 x).trans (by unfold swing_Places_L2_st swing_Places_L2_step; simp only [map_cond,map_bindO,map_elim,Option.map_some,Option.map_none]; rfl)) (fun _ _ => rfl) (fun _ _ => rfl) (fun _ _ _ => rfl) (fun _ _ _ => rfl) (fun _ => rfl) (runOf_some.1 h1), by
    first
    | exact h2
    | (rcases o with o | o <;> exact h2)⟩
noncomputable def qcc {R : Type} : Loops S R := LE.ls X qc5 qc7 qbZ
theorem qcd {R : Type} : LoopsOk X (qcc (R := R)) := loop_ok xok qbL (e := qc5) qc0 qcb qc0
def qce : Key := ⟨[108, 0, 34], 108, none, [0, 0, 1, 0, 0, 1, 0, 0, 1, 1], 2, 60⟩
def qcf : StT S := ⟨(N (N (N L vJ L) (some (.ptr 39 0)) (N L vJ L)) (some (.yld 44)) (N (N L vJ L) none L)), oT, 61⟩
def qcg : Way S := ⟨(.exit 2), ⟨v16, oT, 66⟩, [.int, .int, (.arr (.int .u64)), (.st 6), (.lst (.st 10)), (.st 14), (.st 10), (.st 9), .int, .bool, (.lst (.st 10)), .bool, (.lst (.arr 5 (.int .u64))), .bool, (.st 9), (.st 10), (.lst (.st 2))]⟩
def qch : LE S := ⟨qce, qcf, [.int, .int, .int, (.arr (.int .u64)), (.st 6), (.lst (.st 10)), (.st 14), (.st 10), (.st 9), .int, .bool, (.lst (.st 10)), .bool, (.lst (.arr 5 (.int .u64))), .bool, (.st 9), (.st 10), (.lst (.st 2))], [qcg]⟩
def qci (x : td) : (Int × (List Point)) → te := fun y0 => (y0.1, x.2.2.1, x.2.2.2.1, x.2.2.2.2.1, x.2.2.2.2.2.1, x.2.2.2.2.2.2.1, x.2.2.2.2.2.2.2.1, x.2.2.2.2.2.2.2.2.1, x.2.2.2.2.2.2.2.2.2.1, x.2.2.2.2.2.2.2.2.2.2.1, x.2.2.2.2.2.2.2.2.2.2.2.1, x.2.2.2.2.2.2.2.2.2.2.2.2.1, x.2.2.2.2.2.2.2.2.2.2.2.2.2.1, x.2.2.2.2.2.2.2.2.2.2.2.2.2.2.1, x.2.2.2.2.2.2.2.2.2.2.2.2.2.2.2.1, x.2.2.2.2.2.2.2.2.2.2.2.2.2.2.2.2.1, y0.2)
noncomputable def qcj {R : Type} (x : td) (k : te → Option R) : Option R := (swing_Places_L1_run x.2.2.1 x.2.2.2.1 x.2.2.2.2.1 x.2.2.2.2.2.1 x.2.2.2.2.2.2.1 x.2.2.2.2.2.2.2.1 x.2.2.2.2.2.2.2.2.1 x.2.2.2.2.2.2.2.2.2.1 x.2.2.2.2.2.2.2.2.2.2.1 x.2.2.2.2.2.2.2.2.2.2.2.1 x.2.2.2.2.2.2.2.2.2.2.2.2.1 x.2.2.2.2.2.2.2.2.2.2.2.2.2.1 x.2.2.2.2.2.2.2.2.2.2.2.2.2.2.1 x.2.2.2.2.2.2.2.2.2.2.2.2.2.2.2.1 x.2.2.2.2.2.2.2.2.2.2.2.2.2.2.2.2.1 (x.1, x.2.1, x.2.2.2.2.2.2.2.2.2.2.2.2.2.2.2.2.2)).bind (fun y0 => k (y0.1, x.2.2.1, x.2.2.2.1, x.2.2.2.2.1, x.2.2.2.2.2.1, x.2.2.2.2.2.2.1, x.2.2.2.2.2.2.2.1, x.2.2.2.2.2.2.2.2.1, x.2.2.2.2.2.2.2.2.2.1, x.2.2.2.2.2.2.2.2.2.2.1, x.2.2.2.2.2.2.2.2.2.2.2.1, x.2.2.2.2.2.2.2.2.2.2.2.2.1, x.2.2.2.2.2.2.2.2.2.2.2.2.2.1, x.2.2.2.2.2.2.2.2.2.2.2.2.2.2.1, x.2.2.2.2.2.2.2.2.2.2.2.2.2.2.2.1, x.2.2.2.2.2.2.2.2.2.2.2.2.2.2.2.2.1, y0.2))
def qck (x : td) (v : tZ) : td := (v.1, v.2.1, x.2.2.1, x.2.2.2.1, x.2.2.2.2.1, x.2.2.2.2.2.1, x.2.2.2.2.2.2.1, x.2.2.2.2.2.2.2.1, x.2.2.2.2.2.2.2.2.1, x.2.2.2.2.2.2.2.2.2.1, x.2.2.2.2.2.2.2.2.2.2.1, x.2.2.2.2.2.2.2.2.2.2.2.1, x.2.2.2.2.2.2.2.2.2.2.2.2.1, x.2.2.2.2.2.2.2.2.2.2.2.2.2.1, x.2.2.2.2.2.2.2.2.2.2.2.2.2.2.1, x.2.2.2.2.2.2.2.2.2.2.2.2.2.2.2.1, x.2.2.2.2.2.2.2.2.2.2.2.2.2.2.2.2.1, v.2.2)
theorem qcl (x : td) : LE.step X qch qbK qcc 12 x = swing_Places_L1_step x.2.2.1 x.2.2.2.1 x.2.2.2.2.1 x.2.2.2.2.2.1 x.2.2.2.2.2.2.1 x.2.2.2.2.2.2.2.1 x.2.2.2.2.2.2.2.2.1 x.2.2.2.2.2.2.2.2.2.1 x.2.2.2.2.2.2.2.2.2.2.1 x.2.2.2.2.2.2.2.2.2.2.2.1 x.2.2.2.2.2.2.2.2.2.2.2.2.1 x.2.2.2.2.2.2.2.2.2.2.2.2.2.1 x.2.2.2.2.2.2.2.2.2.2.2.2.2.2.1 x.2.2.2.2.2.2.2.2.2.2.2.2.2.2.2.1 x.2.2.2.2.2.2.2.2.2.2.2.2.2.2.2.2.1 x.1 x.2.1 x.2.2.2.2.2.2.2.2.2.2.2.2.2.2.2.2.2 (fun w0 w1 w2 => (Sum.inl (w0, w1, x.2.2.1, x.2.2.2.1, x.2.2.2.2.1, x.2.2.2.2.2.1, x.2.2.2.2.2.2.1, x.2.2.2.2.2.2.2.1, x.2.2.2.2.2.2.2.2.1, x.2.2.2.2.2.2.2.2.2.1, x.2.2.2.2.2.2.2.2.2.2.1, x.2.2.2.2.2.2.2.2.2.2.2.1, x.2.2.2.2.2.2.2.2.2.2.2.2.1, x.2.2.2.2.2.2.2.2.2.2.2.2.2.1, x.2.2.2.2.2.2.2.2.2.2.2.2.2.2.1, x.2.2.2.2.2.2.2.2.2.2.2.2.2.2.2.1, x.2.2.2.2.2.2.2.2.2.2.2.2.2.2.2.2.1, w2))) (fun p0 p1 => (Sum.inr (p0, x.2.2.1, x.2.2.2.1, x.2.2.2.2.1, x.2.2.2.2.2.1, x.2.2.2.2.2.2.1, x.2.2.2.2.2.2.2.1, x.2.2.2.2.2.2.2.2.1, x.2.2.2.2.2.2.2.2.2.1, x.2.2.2.2.2.2.2.2.2.2.1, x.2.2.2.2.2.2.2.2.2.2.2.1, x.2.2.2.2.2.2.2.2.2.2.2.2.1, x.2.2.2.2.2.2.2.2.2.2.2.2.2.1, x.2.2.2.2.2.2.2.2.2.2.2.2.2.2.1, x.2.2.2.2.2.2.2.2.2.2.2.2.2.2.2.1, x.2.2.2.2.2.2.2.2.2.2.2.2.2.2.2.2.1, p1))):=by kernel_rfl
theorem qcn {R : Type} (x : td) (k : te → Option R) (r : R) (h : qcj x k = some r) : ∃ o, Runs (LE.step X qch qbK qcc 12) x o ∧ k o = some r := by
  obtain ⟨o, h1, h2⟩ := some_bind h
  exact ⟨qci x o, small_ok (st := fun (x : td) => swing_Places_L1_st x.2.2.1 x.2.2.2.1 x.2.2.2.2.1 x.2.2.2.2.2.1 x.2.2.2.2.2.2.1 x.2.2.2.2.2.2.2.1 x.2.2.2.2.2.2.2.2.1 x.2.2.2.2.2.2.2.2.2.1 x.2.2.2.2.2.2.2.2.2.2.1 x.2.2.2.2.2.2.2.2.2.2.2.1 x.2.2.2.2.2.2.2.2.2.2.2.2.1 x.2.2.2.2.2.2.2.2.2.2.2.2.2.1 x.2.2.2.2.2.2.2.2.2.2.2.2.2.2.1 x.2.2.2.2.2.2.2.2.2.2.2.2.2.2.2.1 x.2.2.2.2.2.2.2.2.2.2.2.2.2.2.2.2.1) (prj := fun x => (x.1, x.2.1, x.2.2.2.2.2.2.2.2.2.2.2.2.2.2.2.2.2)) (emb := qck) (embO := qci) (fun x => (qcl x).trans (by unfold swing_Places_L1_st swing_Places_L1_step; simp only [map_cond,map_bindO,map_elim,Option.map_some,Option.map_none]; rfl)) (fun _ _ => rfl) (fun _ _ => rfl) (fun _ _ _ => rfl) (fun _ _ _ => rfl) (fun _ => rfl) (runOf_some.1 h1), by
    first
    | exact h2
    | (rcases o with o <;> exact h2)⟩
noncomputable def qco {R : Type} : Loops S R := LE.ls X qch qcj qcc
theorem qcp {R : Type} : LoopsOk X (qco (R := R)) := loop_ok xok qbL (e := qch) qcd qcn qcd
def qcq : Key := ⟨[108, 0, 34], 108, none, [0, 0, 1, 1], 0, 50⟩
def qcr : StT S := ⟨v16, oQ, 51⟩
def qcs : Way S := ⟨(.exit 0), ⟨L, oQ, 56⟩, [(.arr (.int .u64)), (.st 6), (.lst (.st 10)), (.st 14), (.st 10), (.st 9), .int, .bool, (.lst (.st 10)), .bool, (.lst (.arr 5 (.int .u64))), .bool, (.st 9), (.st 10), (.lst (.st 2))]⟩
def qct : LE S := ⟨qcq, qcr, [.int, .int, (.arr (.int .u64)), (.st 6), (.lst (.st 10)), (.st 14), (.st 10), (.st 9), .int, .bool, (.lst (.st 10)), .bool, (.lst (.arr 5 (.int .u64))), .bool, (.st 9), (.st 10), (.lst (.st 2))], [qcs]⟩
def qcu (x : te) : (List Point) → tg := fun y0 => (x.2.2.1, x.2.2.2.1, x.2.2.2.2.1, x.2.2.2.2.2.1, x.2.2.2.2.2.2.1, x.2.2.2.2.2.2.2.1, x.2.2.2.2.2.2.2.2.1, x.2.2.2.2.2.2.2.2.2.1, x.2.2.2.2.2.2.2.2.2.2.1, x.2.2.2.2.2.2.2.2.2.2.2.1, x.2.2.2.2.2.2.2.2.2.2.2.2.1, x.2.2.2.2.2.2.2.2.2.2.2.2.2.1, x.2.2.2.2.2.2.2.2.2.2.2.2.2.2.1, x.2.2.2.2.2.2.2.2.2.2.2.2.2.2.2.1, y0)
noncomputable def qcv {R : Type} (x : te) (k : tg → Option R) : Option R := (swing_Places_L0_run x.2.2.1 x.2.2.2.1 x.2.2.2.2.1 x.2.2.2.2.2.1 x.2.2.2.2.2.2.1 x.2.2.2.2.2.2.2.1 x.2.2.2.2.2.2.2.2.1 x.2.2.2.2.2.2.2.2.2.1 x.2.2.2.2.2.2.2.2.2.2.1 x.2.2.2.2.2.2.2.2.2.2.2.1 x.2.2.2.2.2.2.2.2.2.2.2.2.1 x.2.2.2.2.2.2.2.2.2.2.2.2.2.1 x.2.2.2.2.2.2.2.2.2.2.2.2.2.2.1 x.2.2.2.2.2.2.2.2.2.2.2.2.2.2.2.1 (x.1, x.2.1, x.2.2.2.2.2.2.2.2.2.2.2.2.2.2.2.2)).bind (fun y0 => k (x.2.2.1, x.2.2.2.1, x.2.2.2.2.1, x.2.2.2.2.2.1, x.2.2.2.2.2.2.1, x.2.2.2.2.2.2.2.1, x.2.2.2.2.2.2.2.2.1, x.2.2.2.2.2.2.2.2.2.1, x.2.2.2.2.2.2.2.2.2.2.1, x.2.2.2.2.2.2.2.2.2.2.2.1, x.2.2.2.2.2.2.2.2.2.2.2.2.1, x.2.2.2.2.2.2.2.2.2.2.2.2.2.1, x.2.2.2.2.2.2.2.2.2.2.2.2.2.2.1, x.2.2.2.2.2.2.2.2.2.2.2.2.2.2.2.1, y0))
def qcw (x : te) (v : tZ) : te := (v.1, v.2.1, x.2.2.1, x.2.2.2.1, x.2.2.2.2.1, x.2.2.2.2.2.1, x.2.2.2.2.2.2.1, x.2.2.2.2.2.2.2.1, x.2.2.2.2.2.2.2.2.1, x.2.2.2.2.2.2.2.2.2.1, x.2.2.2.2.2.2.2.2.2.2.1, x.2.2.2.2.2.2.2.2.2.2.2.1, x.2.2.2.2.2.2.2.2.2.2.2.2.1, x.2.2.2.2.2.2.2.2.2.2.2.2.2.1, x.2.2.2.2.2.2.2.2.2.2.2.2.2.2.1, x.2.2.2.2.2.2.2.2.2.2.2.2.2.2.2.1, v.2.2)
theorem qcx (x : te) : LE.step X qct qbK qco 12 x = swing_Places_L0_step x.2.2.1 x.2.2.2.1 x.2.2.2.2.1 x.2.2.2.2.2.1 x.2.2.2.2.2.2.1 x.2.2.2.2.2.2.2.1 x.2.2.2.2.2.2.2.2.1 x.2.2.2.2.2.2.2.2.2.1 x.2.2.2.2.2.2.2.2.2.2.1 x.2.2.2.2.2.2.2.2.2.2.2.1 x.2.2.2.2.2.2.2.2.2.2.2.2.1 x.2.2.2.2.2.2.2.2.2.2.2.2.2.1 x.2.2.2.2.2.2.2.2.2.2.2.2.2.2.1 x.2.2.2.2.2.2.2.2.2.2.2.2.2.2.2.1 x.1 x.2.1 x.2.2.2.2.2.2.2.2.2.2.2.2.2.2.2.2 (fun w0 w1 w2 => (Sum.inl (w0, w1, x.2.2.1, x.2.2.2.1, x.2.2.2.2.1, x.2.2.2.2.2.1, x.2.2.2.2.2.2.1, x.2.2.2.2.2.2.2.1, x.2.2.2.2.2.2.2.2.1, x.2.2.2.2.2.2.2.2.2.1, x.2.2.2.2.2.2.2.2.2.2.1, x.2.2.2.2.2.2.2.2.2.2.2.1, x.2.2.2.2.2.2.2.2.2.2.2.2.1, x.2.2.2.2.2.2.2.2.2.2.2.2.2.1, x.2.2.2.2.2.2.2.2.2.2.2.2.2.2.1, x.2.2.2.2.2.2.2.2.2.2.2.2.2.2.2.1, w2))) (fun p0 => (Sum.inr (x.2.2.1, x.2.2.2.1, x.2.2.2.2.1, x.2.2.2.2.2.1, x.2.2.2.2.2.2.1, x.2.2.2.2.2.2.2.1, x.2.2.2.2.2.2.2.2.1, x.2.2.2.2.2.2.2.2.2.1, x.2.2.2.2.2.2.2.2.2.2.1, x.2.2.2.2.2.2.2.2.2.2.2.1, x.2.2.2.2.2.2.2.2.2.2.2.2.1, x.2.2.2.2.2.2.2.2.2.2.2.2.2.1, x.2.2.2.2.2.2.2.2.2.2.2.2.2.2.1, x.2.2.2.2.2.2.2.2.2.2.2.2.2.2.2.1, p0))):=by kernel_rfl
theorem qcz {R : Type} (x : te) (k : tg → Option R) (r : R) (h : qcv x k = some r) : ∃ o, Runs (LE.step X qct qbK qco 12) x o ∧ k o = some r := by
  obtain ⟨o, h1, h2⟩ := some_bind h
  exact ⟨qcu x o, small_ok (st := fun (x : te) => swing_Places_L0_st x.2.2.1 x.2.2.2.1 x.2.2.2.2.1 x.2.2.2.2.2.1 x.2.2.2.2.2.2.1 x.2.2.2.2.2.2.2.1 x.2.2.2.2.2.2.2.2.1 x.2.2.2.2.2.2.2.2.2.1 x.2.2.2.2.2.2.2.2.2.2.1 x.2.2.2.2.2.2.2.2.2.2.2.1 x.2.2.2.2.2.2.2.2.2.2.2.2.1 x.2.2.2.2.2.2.2.2.2.2.2.2.2.1 x.2.2.2.2.2.2.2.2.2.2.2.2.2.2.1 x.2.2.2.2.2.2.2.2.2.2.2.2.2.2.2.1) (prj := fun x => (x.1, x.2.1, x.2.2.2.2.2.2.2.2.2.2.2.2.2.2.2.2)) (emb := qcw) (embO := qcu) (fun x => (qcx x).trans (by unfold swing_Places_L0_st swing_Places_L0_step; simp only [map_cond,map_bindO,map_elim,Option.map_some,Option.map_none]; rfl)) (fun _ _ => rfl) (fun _ _ => rfl) (fun _ _ _ => rfl) (fun _ _ _ => rfl) (fun _ => rfl) (runOf_some.1 h1), by
    first
    | exact h2
    | (rcases o with o <;> exact h2)⟩
noncomputable def qcA {R : Type} : Loops S R := LE.ls X qct qcv qco
theorem qcB {R : Type} : LoopsOk X (qcA (R := R)) := loop_ok xok qbL (e := qct) qcp qcz qcp
theorem qcC (x0 : SgMooring) (x1 : List SgLook) (x2 : SgLook) : evFn X qbK [(.st 9), (.sl (.st 10)), (.st 10)] [(.sl (.st 2)), (.int .i64)] qcA 12 34 (x0, x1, x2, ()) = swing_Places x0 x1 x2:=by kernel_rfl
noncomputable def qcD : F7 S := ⟨[(.st 9), (.sl (.st 10)), (.st 10)], [(.sl (.st 2)), (.int .i64)], fun xs => swing_Places xs.1 xs.2.1 xs.2.2.1⟩
theorem qcE : FSOk X 34 qcD := fsOk_eq (evFn_ok xok qbL qcB 12 34) fun xs _ h => (qcC xs.1 xs.2.1 xs.2.2.1).trans h
noncomputable def qcF : F7 S := ⟨[], [.bool], fun _ => law04_Awake⟩
theorem qcG : FSOk X 24 qcF := closedTrue_ok (X := X) (F := law04_Awake) rfl law04_Awake_run
noncomputable def qcH : List (Nat × F7 S) := [(20, q81)]
theorem qcI : TabOk X (qcH) := ⟨q82, trivial⟩
abbrev qcJ {R : Type} : Loops S R := noLoops
theorem qcK {R : Type} : LoopsOk X (qcJ (R := R)) := noLoops_ok X
theorem qcL (x0 : SgMooring) (x1 : List SgLook) : evFn X qcH [(.st 9), (.sl (.st 10))] [.bool] qcJ 12 48 (x0, x1, ()) = law04_good x0 x1:=by kernel_rfl
noncomputable def qcM : F7 S := ⟨[(.st 9), (.sl (.st 10))], [.bool], fun xs => law04_good xs.1 xs.2.1⟩
theorem qcN : FSOk X 48 qcM := fsOk_eq (evFn_ok xok qcI qcK 12 48) fun xs _ h => (qcL xs.1 xs.2.1).trans h
noncomputable def qcO : List (Nat × F7 S) := []
theorem qcP : TabOk X (qcO) := trivial
abbrev qcQ {R : Type} : Loops S R := noLoops
theorem qcR {R : Type} : LoopsOk X (qcQ (R := R)) := noLoops_ok X
def qcS : Key := ⟨[46], 46, none, [0, 0, 1, 0, 1], 0, 3⟩
def qcT : StT S := ⟨(N (N (N L (some (.ptr 0 0)) L) none (N L vJ L)) vH L), (N L oj L), 3⟩
def qcU : Way S := ⟨.ret, ⟨(N L none (N (N L vI L) none L)), (N L oj L), 14⟩, [.bool, (.st 2)]⟩
def qcV : Way S := ⟨(.exit 0), ⟨L, (N L oj L), 7⟩, [(.st 2)]⟩
def qcW : LE S := ⟨qcS, qcT, [.int, (.lst (.st 2)), (.st 2)], [qcU, qcV]⟩
def qcX (x : tY) : (Bool ⊕ Unit) → ((Bool × Point) ⊕ Point) := Sum.elim (fun y0 => (.inl (y0, x.2.2))) (fun y1 => (.inr x.2.2))
noncomputable def qcY {R : Type} (x : tY) (k : ((Bool × Point) ⊕ Point) → Option R) : Option R := (law04_has_L0_run x.2.1 x.2.2 x.1).bind (Sum.elim (fun y0 => k (.inl (y0, x.2.2))) (fun y1 => k (.inr x.2.2)))
def qcZ (x : tY) (v : Int) : tY := (v, x.2.1, x.2.2)
theorem qd0 (x : tY) : LE.step X qcW qcO qcQ 12 x = law04_has_L0_step x.2.1 x.2.2 x.1 (fun w0 => (Sum.inl (w0, x.2.1, x.2.2))) (fun p0 => (Sum.inr (.inl (p0, x.2.2)))) (Sum.inr (.inr x.2.2)):=by kernel_rfl
theorem qd2 {R : Type} (x : tY) (k : ((Bool × Point) ⊕ Point) → Option R) (r : R) (h : qcY x k = some r) : ∃ o, Runs (LE.step X qcW qcO qcQ 12) x o ∧ k o = some r := by
  obtain ⟨o, h1, h2⟩ := some_bind h
  exact ⟨qcX x o, small_ok (st := fun (x : tY) => law04_has_L0_st x.2.1 x.2.2) (prj := fun x => x.1) (emb := qcZ) (embO := qcX) (fun x => (qd0 x).trans (by unfold law04_has_L0_st law04_has_L0_step; simp only [map_cond,map_bindO,map_elim,Option.map_some,Option.map_none]; rfl)) (fun _ _ => rfl) (fun _ _ => rfl) (fun _ _ _ => rfl) (fun _ _ _ => rfl) (fun _ => rfl) (runOf_some.1 h1), by
    first
    | exact h2
    | (rcases o with o | o <;> exact h2)⟩
noncomputable def qd3 {R : Type} : Loops S R := LE.ls X qcW qcY qcQ
theorem qd4 {R : Type} : LoopsOk X (qd3 (R := R)) := loop_ok xok qcP (e := qcW) qcR qd2 qcR
theorem qd5 (x0 : List Point) (x1 : Point) : evFn X qcO [(.sl (.st 2)), (.st 2)] [.bool] qd3 12 46 (x0, x1, ()) = law04_has x0 x1:=by kernel_rfl
noncomputable def qd6 : F7 S := ⟨[(.sl (.st 2)), (.st 2)], [.bool], fun xs => law04_has xs.1 xs.2.1⟩
theorem qd7 : FSOk X 46 qd6 := fsOk_eq (evFn_ok xok qcP qd4 12 46) fun xs _ h => (qd5 xs.1 xs.2.1).trans h
noncomputable def qd8 : List (Nat × F7 S) := [(48, qcM), (24, qcF), (21, qbI), (34, qcD), (46, qd6)]
theorem qd9 : TabOk X (qd8) := ⟨qcN, qcG, qbJ, qcE, qd7, trivial⟩
abbrev qda {R : Type} : Loops S R := noLoops
theorem qdb {R : Type} : LoopsOk X (qda (R := R)) := noLoops_ok X
def qdc : Key := ⟨[9], 9, none, [0, 0, 1, 0, 1, 1, 1, 1, 1, 1, 1, 1], 0, 91⟩
def qdd : StT S := ⟨(N L none (N (N (N (N L vJ L) vH L) none (N L vH L)) none (N (N L vH L) none (N L vH L)))), o19, 91⟩
def qde : Way S := ⟨.ret, ⟨(N L none (N L none (N L vI L))), o19, 103⟩, [.bool, (.st 13), (.st 9), (.lst (.st 10)), (.lst (.st 10)), (.st 10), (.lst (.st 10))]⟩
def qdf : Way S := ⟨(.exit 0), ⟨(N L none (N (N L none (N L vH L)) none (N L none (N L vH L)))), o19, 95⟩, [(.lst (.st 2)), (.lst (.st 2)), (.st 13), (.st 9), (.lst (.st 10)), (.lst (.st 10)), (.st 10), (.lst (.st 10))]⟩
def qdg : LE S := ⟨qdc, qdd, [.int, (.lst (.st 2)), (.lst (.st 2)), (.lst (.st 2)), (.lst (.st 2)), (.st 13), (.st 9), (.lst (.st 10)), (.lst (.st 10)), (.st 10), (.lst (.st 10))], [qde, qdf]⟩
def qdh (x : tk) : (Bool ⊕ Unit) → ta := Sum.elim (fun y0 => (.inl (y0, x.2.2.2.2.2.1, x.2.2.2.2.2.2.1, x.2.2.2.2.2.2.2.1, x.2.2.2.2.2.2.2.2.1, x.2.2.2.2.2.2.2.2.2.1, x.2.2.2.2.2.2.2.2.2.2))) (fun y1 => (.inr (x.2.2.1, x.2.2.2.2.1, x.2.2.2.2.2.1, x.2.2.2.2.2.2.1, x.2.2.2.2.2.2.2.1, x.2.2.2.2.2.2.2.2.1, x.2.2.2.2.2.2.2.2.2.1, x.2.2.2.2.2.2.2.2.2.2)))
noncomputable def qdi {R : Type} (x : tk) (k : ta → Option R) : Option R := (law04_SwingMore_L0_run x.2.1 x.2.2.1 x.2.2.2.1 x.2.2.2.2.1 x.2.2.2.2.2.1 x.2.2.2.2.2.2.1 x.2.2.2.2.2.2.2.1 x.2.2.2.2.2.2.2.2.1 x.2.2.2.2.2.2.2.2.2.1 x.2.2.2.2.2.2.2.2.2.2 x.1).bind (Sum.elim (fun y0 => k (.inl (y0, x.2.2.2.2.2.1, x.2.2.2.2.2.2.1, x.2.2.2.2.2.2.2.1, x.2.2.2.2.2.2.2.2.1, x.2.2.2.2.2.2.2.2.2.1, x.2.2.2.2.2.2.2.2.2.2))) (fun y1 => k (.inr (x.2.2.1, x.2.2.2.2.1, x.2.2.2.2.2.1, x.2.2.2.2.2.2.1, x.2.2.2.2.2.2.2.1, x.2.2.2.2.2.2.2.2.1, x.2.2.2.2.2.2.2.2.2.1, x.2.2.2.2.2.2.2.2.2.2))))
def qdj (x : tk) (v : Int) : tk := (v, x.2.1, x.2.2.1, x.2.2.2.1, x.2.2.2.2.1, x.2.2.2.2.2.1, x.2.2.2.2.2.2.1, x.2.2.2.2.2.2.2.1, x.2.2.2.2.2.2.2.2.1, x.2.2.2.2.2.2.2.2.2.1, x.2.2.2.2.2.2.2.2.2.2)
theorem qdk (x : tk) : LE.step X qdg qd8 qda 12 x = law04_SwingMore_L0_step x.2.1 x.2.2.1 x.2.2.2.1 x.2.2.2.2.1 x.2.2.2.2.2.1 x.2.2.2.2.2.2.1 x.2.2.2.2.2.2.2.1 x.2.2.2.2.2.2.2.2.1 x.2.2.2.2.2.2.2.2.2.1 x.2.2.2.2.2.2.2.2.2.2 x.1 (fun w0 => (Sum.inl (w0, x.2.1, x.2.2.1, x.2.2.2.1, x.2.2.2.2.1, x.2.2.2.2.2.1, x.2.2.2.2.2.2.1, x.2.2.2.2.2.2.2.1, x.2.2.2.2.2.2.2.2.1, x.2.2.2.2.2.2.2.2.2.1, x.2.2.2.2.2.2.2.2.2.2))) (fun p0 => (Sum.inr (.inl (p0, x.2.2.2.2.2.1, x.2.2.2.2.2.2.1, x.2.2.2.2.2.2.2.1, x.2.2.2.2.2.2.2.2.1, x.2.2.2.2.2.2.2.2.2.1, x.2.2.2.2.2.2.2.2.2.2)))) (Sum.inr (.inr (x.2.2.1, x.2.2.2.2.1, x.2.2.2.2.2.1, x.2.2.2.2.2.2.1, x.2.2.2.2.2.2.2.1, x.2.2.2.2.2.2.2.2.1, x.2.2.2.2.2.2.2.2.2.1, x.2.2.2.2.2.2.2.2.2.2))):=by kernel_rfl
theorem qdm {R : Type} (x : tk) (k : ta → Option R) (r : R) (h : qdi x k = some r) : ∃ o, Runs (LE.step X qdg qd8 qda 12) x o ∧ k o = some r := by
  obtain ⟨o, h1, h2⟩ := some_bind h
  exact ⟨qdh x o, small_ok (st := fun (x : tk) => law04_SwingMore_L0_st x.2.1 x.2.2.1 x.2.2.2.1 x.2.2.2.2.1 x.2.2.2.2.2.1 x.2.2.2.2.2.2.1 x.2.2.2.2.2.2.2.1 x.2.2.2.2.2.2.2.2.1 x.2.2.2.2.2.2.2.2.2.1 x.2.2.2.2.2.2.2.2.2.2) (prj := fun x => x.1) (emb := qdj) (embO := qdh) (fun x => (qdk x).trans (by unfold law04_SwingMore_L0_st law04_SwingMore_L0_step; simp only [map_cond,map_bindO,map_elim,Option.map_some,Option.map_none]; rfl)) (fun _ _ => rfl) (fun _ _ => rfl) (fun _ _ _ => rfl) (fun _ _ _ => rfl) (fun _ => rfl) (runOf_some.1 h1), by
    first
    | exact h2
    | (rcases o with o | o <;> exact h2)⟩
noncomputable def qdn {R : Type} : Loops S R := LE.ls X qdg qdi qda
theorem qdo {R : Type} : LoopsOk X (qdn (R := R)) := loop_ok xok qd9 (e := qdg) qdb qdm qdb
def qdp : Key := ⟨[9], 9, none, [0, 0, 1, 0, 1, 1, 1, 1, 1, 1, 1, 1, 1], 2, 96⟩
def qdq : StT S := ⟨(N (N L none v1j) none (N (N L none (N L vH L)) none (N L none (N L vH L)))), o19, 96⟩
def qdr : Way S := ⟨.ret, ⟨(N L none (N L none (N L vI L))), o19, 108⟩, [.bool, (.st 13), (.st 9), (.lst (.st 10)), (.lst (.st 10)), (.st 10), (.lst (.st 10))]⟩
def qds : Way S := ⟨(.exit 2), ⟨L, o19, 100⟩, [(.st 13), (.st 9), (.lst (.st 10)), (.lst (.st 10)), (.st 10), (.lst (.st 10))]⟩
def qdt : LE S := ⟨qdp, qdq, [.int, (.lst (.st 2)), (.lst (.st 2)), (.st 13), (.st 9), (.lst (.st 10)), (.lst (.st 10)), (.st 10), (.lst (.st 10))], [qdr, qds]⟩
def qdu (x : tr) : (Bool ⊕ Unit) → tf := Sum.elim (fun y0 => (.inl (y0, x.2.2.2.1, x.2.2.2.2.1, x.2.2.2.2.2.1, x.2.2.2.2.2.2.1, x.2.2.2.2.2.2.2.1, x.2.2.2.2.2.2.2.2))) (fun y1 => (.inr (x.2.2.2.1, x.2.2.2.2.1, x.2.2.2.2.2.1, x.2.2.2.2.2.2.1, x.2.2.2.2.2.2.2.1, x.2.2.2.2.2.2.2.2)))
noncomputable def qdv {R : Type} (x : tr) (k : tf → Option R) : Option R := (law04_SwingMore_L1_run x.2.1 x.2.2.1 x.2.2.2.1 x.2.2.2.2.1 x.2.2.2.2.2.1 x.2.2.2.2.2.2.1 x.2.2.2.2.2.2.2.1 x.2.2.2.2.2.2.2.2 x.1).bind (Sum.elim (fun y0 => k (.inl (y0, x.2.2.2.1, x.2.2.2.2.1, x.2.2.2.2.2.1, x.2.2.2.2.2.2.1, x.2.2.2.2.2.2.2.1, x.2.2.2.2.2.2.2.2))) (fun y1 => k (.inr (x.2.2.2.1, x.2.2.2.2.1, x.2.2.2.2.2.1, x.2.2.2.2.2.2.1, x.2.2.2.2.2.2.2.1, x.2.2.2.2.2.2.2.2))))
def qdw (x : tr) (v : Int) : tr := (v, x.2.1, x.2.2.1, x.2.2.2.1, x.2.2.2.2.1, x.2.2.2.2.2.1, x.2.2.2.2.2.2.1, x.2.2.2.2.2.2.2.1, x.2.2.2.2.2.2.2.2)
theorem qdx (x : tr) : LE.step X qdt qd8 qdn 12 x = law04_SwingMore_L1_step x.2.1 x.2.2.1 x.2.2.2.1 x.2.2.2.2.1 x.2.2.2.2.2.1 x.2.2.2.2.2.2.1 x.2.2.2.2.2.2.2.1 x.2.2.2.2.2.2.2.2 x.1 (fun w0 => (Sum.inl (w0, x.2.1, x.2.2.1, x.2.2.2.1, x.2.2.2.2.1, x.2.2.2.2.2.1, x.2.2.2.2.2.2.1, x.2.2.2.2.2.2.2.1, x.2.2.2.2.2.2.2.2))) (fun p0 => (Sum.inr (.inl (p0, x.2.2.2.1, x.2.2.2.2.1, x.2.2.2.2.2.1, x.2.2.2.2.2.2.1, x.2.2.2.2.2.2.2.1, x.2.2.2.2.2.2.2.2)))) (Sum.inr (.inr (x.2.2.2.1, x.2.2.2.2.1, x.2.2.2.2.2.1, x.2.2.2.2.2.2.1, x.2.2.2.2.2.2.2.1, x.2.2.2.2.2.2.2.2))):=by kernel_rfl
theorem qdz {R : Type} (x : tr) (k : tf → Option R) (r : R) (h : qdv x k = some r) : ∃ o, Runs (LE.step X qdt qd8 qdn 12) x o ∧ k o = some r := by
  obtain ⟨o, h1, h2⟩ := some_bind h
  exact ⟨qdu x o, small_ok (st := fun (x : tr) => law04_SwingMore_L1_st x.2.1 x.2.2.1 x.2.2.2.1 x.2.2.2.2.1 x.2.2.2.2.2.1 x.2.2.2.2.2.2.1 x.2.2.2.2.2.2.2.1 x.2.2.2.2.2.2.2.2) (prj := fun x => x.1) (emb := qdw) (embO := qdu) (fun x => (qdx x).trans (by unfold law04_SwingMore_L1_st law04_SwingMore_L1_step; simp only [map_cond,map_bindO,map_elim,Option.map_some,Option.map_none]; rfl)) (fun _ _ => rfl) (fun _ _ => rfl) (fun _ _ _ => rfl) (fun _ _ _ => rfl) (fun _ => rfl) (runOf_some.1 h1), by
    first
    | exact h2
    | (rcases o with o | o <;> exact h2)⟩
noncomputable def qdA {R : Type} : Loops S R := LE.ls X qdt qdv qdn
theorem qdB {R : Type} : LoopsOk X (qdA (R := R)) := loop_ok xok qd9 (e := qdt) qdo qdz qdo
theorem qdC (x0 : SgMooring) (x1 : norelaw04_Looks) (x2 : SgLook) : evFn X qd8 [(.st 9), (.st 13), (.st 10)] [.bool] qdA 12 9 (x0, x1, x2, ()) = law04_SwingMore x0 x1 x2:=by kernel_rfl
noncomputable def qdD : F7 S := ⟨[(.st 9), (.st 13), (.st 10)], [.bool], fun xs => law04_SwingMore xs.1 xs.2.1 xs.2.2.1⟩
theorem law04_SwingMore_fsok : FSOk X 9 qdD := fsOk_eq (evFn_ok xok qd9 qdB 12 9) fun xs _ h => (qdC xs.1 xs.2.1 xs.2.2.1).trans h
end Nore
