/- The code comes to the plain functions. -/
import Derived.Test.YtdoejdmpmpgmiaaY
import Derived.Test.YtdoejdmpmpgmiaaD
set_option linter.unusedSectionVars false
set_option linter.unusedVariables false
set_option linter.unusedSimpArgs false
set_option maxRecDepth 100000
open Go Go.Ab Go.Proofs Go.Proofs.Ytdoejdmpmpgmiaa
open Go.Ab.Tr renaming node → N, leaf → L
namespace Nore
abbrev t1j : Type := Int × Int × Int × Unit
abbrev t1i : Type := List (ByteArray × Int)
abbrev t1h : Type := (List Int) × Int × (List Int)
abbrev t1g : Type := Int × Int × (List Point) × Int
abbrev t1f : Type := Int × (List Point) × Int × Int
abbrev t1e : Type := (List SgLook) × Int × SgMooring
abbrev t1d : Type := (Int × Int × Int) ⊕ (Int × Int)
abbrev t1c : Type := Int × (List Point) × Nat × CtBox
abbrev t1b : Type := Int × ByteArray × ByteArray × Nat
abbrev t1a : Type := ByteArray × Int × (List ByteArray)
abbrev t19 : Type := Int × (List Int) × Int × Int × Int
abbrev t18 : Type := Int × Int × (List Span) × Int × Int
abbrev t17 : Type := (List SgLook) × Int × Int × SgMooring
abbrev t16 : Type := Int × Int × (List Point) × Nat × CtBox
abbrev t15 : Type := Int × (List ByteArray) × Nat × CtChart
abbrev t14 : Type := Int × CtChart × (List ByteArray) × Nat
abbrev t13 : Type := Int × Int × Int × (List (List Int)) × Nat
abbrev t12 : Type := (Int × (List Int) × SgMooring) ⊕ SgMooring
abbrev t11 : Type := Int × Int × (List (List Bool)) × (List Int)
abbrev t10 : Type := (List Int) × Nat × SgMooring × swing_mooring
abbrev tZ : Type := Int × Int × (List Int) × Nat × Point × Point
abbrev tY : Type := (Int × Point × Int × (List Int) × Nat) ⊕ Int
abbrev tX : Type := (List SgLook) × (List Point) × Int × SgMooring
abbrev tW : Type := (Int × SgMooring) ⊕ ((List SgLook) × SgMooring)
abbrev tV : Type := (List Point) × Int × SgLook × SgMooring × Point
abbrev tU : Type := Int × (List Int) × (List Int) × (List Int) × Int
abbrev tT : Type := Int × Int × (List (List Bool)) × Bool × (List Int)
abbrev tS : Type := (List SgLook) × Int × (List Int) × Nat × SgMooring
abbrev tR : Type := Int × Int × Int × t1i × CtSand
abbrev tQ : Type := Int × Int × Int × (List CtPaint) × (List Int) × Nat
abbrev tP : Type := (List (Nat → Int)) × Nat × swing_mooring × SgMooring
abbrev tO : Type := Int × (List SgLook) × Int × (List SgLook) × SgMooring
abbrev tN : Type := Int × Int × Point × SgLook × SgMooring × Point × Point
abbrev tM : Type := (List SgLook) × Int × (List (List Bool)) × Int × SgMooring
abbrev tL : Type := (Nat → Int) × Int × (Nat → Int) × (Nat → Int) × (Nat → Int)
abbrev tK : Type := Int × Int × Int × (List (List Bool)) × Bool × (List Int) × Int
abbrev tJ : Type := Int × (List CtSand) × Int × CtChart × t1i
abbrev tI : Type := Int × Int × (List CtMark) × CtChart × t1i
abbrev tH : Type := (Bool × ByteArray × Nat) ⊕ t1b
abbrev tG : Type := (Bool × SgLook × SgMooring × Point) ⊕ (SgLook × SgMooring × Point)
abbrev tF : Type := Int × (List (List Int)) × Int × Int × Int × (List (List Int)) × Nat
abbrev tE : Type := (List SgLook) × Int × (List Point) × SgMooring × (List Point) × Nat
abbrev tD : Type := CtBox × SgLook × swing_mooring × SgLook × swing_mooring × (Nat → Int)
abbrev tC : Type := Int × (List (Nat → Int)) × Int × SgMooring × (Nat → Int) × swing_mooring
abbrev tB : Type := Int × (List SgLook) × (List Point) × (List (List Bool)) × Nat × SgMooring
abbrev tA : Type := (List SgLook) × Bool × Int × (List Point) × (List Point) × Nat × SgMooring
abbrev tz : Type := Int × Int × Int × (List ByteArray) × Nat × CtMark × (List ByteArray) × Nat
abbrev ty : Type := (List SgLook) × Bool × Int × (List Point) × Int × (List Point) × Nat × SgMooring
abbrev tx : Type := Int × (List SgLook) × Int × (List (Nat → Int)) × Nat × swing_mooring × SgMooring
abbrev tw : Type := Int × Int × CtBox × SgLook × swing_mooring × SgLook × swing_mooring × (Nat → Int)
abbrev tv : Type := (List (List Int)) × (List SgLook) × Int × (List (List Bool)) × Int × Int × SgMooring
abbrev tu : Type := (List (Nat → Int)) × Int × Bool × Int × (List Int) × Nat × SgMooring × swing_mooring
abbrev tt : Type := Int × Int × SgLook × SgLook × (List Int) × Nat × (List Int) × Nat × (List Int) × Nat
abbrev ts : Type := Int × Int × Int × CtBox × SgLook × swing_mooring × SgLook × swing_mooring × (Nat → Int)
abbrev tr : Type := (Int × (List Int) × SgMooring) ⊕ tM
abbrev tq : Type := Int × (List SgLook) × (List Point) × (List Bool) × Nat × SgMooring × (List (List Bool)) × Nat
abbrev tp : Type := (Bool × Point × SgLook × SgMooring × Point × Point) ⊕ (Point × SgLook × SgMooring × Point × Point)
abbrev to : Type := Int × (List SgLook) × Int × (List Point) × (List Bool) × Nat × SgMooring × (List (List Bool)) × Nat
abbrev tn : Type := Int × (List (Nat → Int)) × Int × (List (Nat → Int)) × (List Int) × Nat × swing_mooring × (Nat → Int)
abbrev tm : Type := Int × Int × Int × Int × Int × Int × Int × (Nat → Int) × CtBox × SgMooring × SgMooring × swing_mooring
abbrev tl : Type := Int × Point × SgLook × (List Int) × Nat × swing_mooring × Point × (List Int) × Nat × (List Int) × Nat × Point
abbrev tk : Type := (Int × Int × (Nat → Int) × SgMooring × (Nat → Int) × swing_mooring) ⊕ (SgMooring × (Nat → Int) × swing_mooring)
abbrev tj : Type := Int × Int × Int × Int × Int × Int × Int × Int × Int × (Nat → Int) × CtBox × SgMooring × SgMooring × swing_mooring
abbrev ti : Type := Int × Int × Int × Int × Int × Int × Int × Int × Int × Int × (Nat → Int) × CtBox × SgMooring × SgMooring × swing_mooring
abbrev th : Type := Int × Int × (List Point) × chart_sand × Bool × Int × Bool × chart_sand × Bool × Int × chart_sand × (List Int) × Nat × Point
abbrev tg : Type := Int × chart_sand × Bool × Int × Bool × chart_sand × Bool × Int × chart_sand × Point × chart_side × (List Int) × Nat × Point
abbrev tf : Type := Int × Int × CtBox × SgLook × swing_mooring × SgLook × SgLook × Int × swing_mooring × Int × Int × CtBox × swing_mooring × Point × (Nat → Int) × Int
abbrev te : Type := Int × Int × (List Point) × Int × chart_sand × Bool × Int × Bool × chart_sand × Bool × Int × chart_sand × Point × chart_side × (List Int) × Nat × Point
abbrev td : Type := Int × Int × Int × CtBox × SgLook × swing_mooring × SgLook × SgLook × Int × swing_mooring × Int × Int × CtBox × swing_mooring × Point × (Nat → Int) × Int
abbrev tc : Type := (List (Nat → Int)) × Int × Int × Int × (List (Nat → Int)) × Bool × Int × Int × (List Int) × Nat × SgMooring × (Nat → Int) × (List Int) × Nat × swing_mooring
abbrev tb : Type := (Bool × (List (Nat → Int)) × (List Int) × Nat × swing_mooring × (Nat → Int) × (Nat → Int)) ⊕ ((List (Nat → Int)) × (List Int) × Nat × swing_mooring × (Nat → Int))
abbrev ta : Type := (Int × Int × Int × (List ByteArray) × Nat × (List ByteArray) × Nat × CtChart) ⊕ (Int × Int × Int × (List ByteArray) × Nat × (List ByteArray) × Nat × CtChart) ⊕ ((List ByteArray) × Nat × CtChart)
abbrev t9 : Type := (chart_sand × Bool × Int × Bool × chart_sand × Bool × Int × chart_sand × Point × chart_side × (List Int) × Nat × Point) ⊕ (chart_sand × Bool × Int × Bool × chart_sand × Bool × Int × chart_sand × (List Int) × Nat × Point)
abbrev t8 : Type := (Int × (List Int) × Nat × (List Int) × Nat × CtPaint) ⊕ (Int × (List Int) × Nat × (List Int) × Nat × (List Int) × Nat × CtPaint) ⊕ (Int × (List Int) × Nat × (List Int) × Nat × (List Int) × Nat × CtPaint) ⊕ ((List Int) × Nat)
abbrev t7 : Type := (Int × Int × Int × CtChart × t1i × CtSand) ⊕ (Int × Int × Int × CtChart × t1i × CtSand) ⊕ (Int × Int × Int × CtChart × t1i × CtSand) ⊕ (CtChart × t1i)
abbrev t6 : Type := (Bool × Point × Point × SgLook × (List Int) × Nat × swing_mooring × Point × (List Int) × Nat × (List Int) × Nat × Point × Point) ⊕ (Point × SgLook × (List Int) × Nat × swing_mooring × Point × (List Int) × Nat × (List Int) × Nat × Point)
abbrev t5 : Type := (CtBox × SgLook × swing_mooring × SgLook × SgLook × Int × swing_mooring × Int × Int × CtBox × swing_mooring × Point × Point × (Nat → Int) × Int) ⊕ (CtBox × SgLook × swing_mooring × SgLook × SgLook × Int × swing_mooring × Int × Int × CtBox × swing_mooring × Point × (Nat → Int) × Int)
abbrev t4 : Type := (CtBox × SgLook × swing_mooring × SgLook × SgLook × Int × swing_mooring × Int × Int × CtBox × swing_mooring × Point × Point × (Nat → Int) × Int) ⊕ tf
abbrev t3 : Type := (Int × Int × Int × (List ByteArray) × Nat × CtMark × CtChart × (List ByteArray) × Nat) ⊕ (Int × Int × Int × (List ByteArray) × Nat × CtMark × CtChart × (List ByteArray) × Nat) ⊕ (Int × Int × Int × (List ByteArray) × Nat × CtMark × CtChart × (List ByteArray) × Nat) ⊕ (CtChart × (List ByteArray) × Nat)
abbrev t2 : Type := (Int × Int × Int × CtMark × CtChart × t1i) ⊕ (Int × Int × Int × CtMark × CtChart × t1i) ⊕ (Int × Int × Int × CtMark × CtChart × t1i × (List Point) × Nat) ⊕ (Int × Int × Int × CtMark × CtChart × t1i × (List Point) × Nat) ⊕ (CtChart × t1i)
abbrev t1 : Type := ((List (Nat → Int)) × Int × Bool × Int × (Nat → Int) × (List Int) × Nat × (List Int) × Nat × SgMooring × (Nat → Int) × (List Int) × Nat × swing_mooring) ⊕ ((List (Nat → Int)) × Int × Bool × Int × (Nat → Int) × (List Int) × Nat × SgMooring × (Nat → Int) × (List Int) × Nat × swing_mooring) ⊕ ((List (Nat → Int)) × Int × Bool × Int × (List Int) × Nat × SgMooring × (Nat → Int) × (List Int) × Nat × swing_mooring)
abbrev t0 : Type := (Int × Int × SgLook × SgLook × (List SgLook) × SgMooring) ⊕ (Int × Int × SgLook × SgLook × (List SgLook) × SgMooring × (List Int) × Nat) ⊕ (Int × Int × SgLook × SgLook × (List SgLook) × SgMooring × (List Int) × Nat × (List Int) × Nat) ⊕ (Int × Int × SgLook × SgLook × (List SgLook) × SgMooring × (List Int) × Nat × (List Int) × Nat × (List Int) × Nat) ⊕ (Int × Int × SgLook × SgLook × (List SgLook) × SgMooring × (List Int) × Nat × (List Int) × Nat × (List Int) × Nat) ⊕ (Int × Int × SgLook × SgLook × (List SgLook) × SgMooring × (List Int) × Nat × (List Int) × Nat × (List Int) × Nat) ⊕ ((List SgLook) × SgMooring)
abbrev vF : Option (TV S) := some (.int .i64 0)
abbrev vE : Option (TV S) := some (.bool false)
abbrev vD : Option (TV S) := some (.sl (.st 2) [])
abbrev vC : Option (TV S) := some (.sl (.st 10) [])
abbrev vB : Option (TV S) := some (.sl (.sl .bool) [])
abbrev oA : Option (TObj S) := some (.row 9 .str [] 0 1)
abbrev oz : Option (TObj S) := some (.row 9 .str [] 0 0)
abbrev vy : Option (TV S) := some (.sl (.int .i64) [])
abbrev vx : Option (TV S) := some (.str ByteArray.empty)
abbrev ow : Option (TObj S) := some (.cells 153 [(.map 4)])
abbrev ov : Option (TObj S) := some (.cells 52 [(.rs 13 0)])
abbrev ou : Option (TObj S) := some (.row 46 (.st 2) [] 0 0)
abbrev ot : Option (TObj S) := some (.map .str (.int .i64) [])
abbrev os : Option (TObj S) := some (.cells 3 [(.int .i64 0)])
abbrev or : Option (TObj S) := some (.siter ByteArray.empty 0)
abbrev oq : Option (TObj S) := some (.cells 33 [(.int .i64 0)])
abbrev op : Option (TObj S) := some (.row 3 (.int .i64) [] 0 0)
abbrev oo : Option (TObj S) := some (.row 173 (.sl .bool) [] 0 0)
abbrev vn : Option (TV S) := some (.sl (.arr 5 (.int .u64)) [])
abbrev vm : Option (TV S) := some (.agg [(.stc 15 (T.dflt 15))])
abbrev ol : Option (TObj S) := some (.cells 32 [(.sl (.st 10) [])])
abbrev vk : Option (TV S) := some (.fn (.func 97) [] [(.ptr 5 0)])
abbrev oj : Option (TObj S) := some (.cells 29 [(.stc 6 (T.dflt 6))])
abbrev oi : Option (TObj S) := some (.cells 31 [(.stc 9 (T.dflt 9))])
abbrev oh : Option (TObj S) := some (.cells 79 [(.stc 7 (T.dflt 7))])
abbrev og : Option (TObj S) := some (.cells 25 [(.stc 8 (T.dflt 8))])
abbrev of : Option (TObj S) := some (.cells 46 [(.stc 2 (T.dflt 2))])
abbrev oe : Option (TObj S) := some (.row 52 (.sl (.int .i64)) [] 0 0)
abbrev od : Option (TObj S) := some (.cells 158 [(.stc 4 (T.dflt 4))])
abbrev vc : Option (TV S) := some (.fn (.func 135) [] [(.ptr 23 0)])
abbrev ob : Option (TObj S) := some (.cells 184 [(.stc 3 (T.dflt 3))])
abbrev oa : Option (TObj S) := some (.cells 44 [(.stc 10 (T.dflt 10))])
abbrev o9 : Option (TObj S) := some (.cells 111 [(.stc 14 (T.dflt 14))])
abbrev o8 : Option (TObj S) := some (.cells 179 [(.stc 17 (T.dflt 17))])
abbrev o7 : Option (TObj S) := some (.cells 147 [(.stc 15 (T.dflt 15))])
abbrev o6 : Option (TObj S) := some (.cells 112 [(.sl (.arr 5 (.int .u64)) [])])
abbrev o5 : Option (TObj S) := some (.cells 109 [(.arr (.int .u64) 5 (fun _ => tdf T (.int .u64)))])
abbrev o4 : Option (TObj S) := some (.cells 111 [.nils, .nils, (.int .i64 0), (.int .i64 0), (.int .i64 0), (.int .i64 0), (.int .i64 0), (.int .i64 0), (.int .i64 0), (.arr (.int .u64) 5 (fun _ => tdf T (.int .u64)))])
abbrev o3 : Option (TObj S) := some (.loop 76 (N (N (N L (some (.ptr 4 0)) L) (some (.ptr 0 0)) (N (N L (some (.fn (.func 108) [] [(.ptr 9 0)])) L) none L)) (some (.agg [(.stc 9 (T.dflt 9))])) (N L (some (.ptr 1 0)) L)) (10 :: (11 :: [])) .skip .skip 0 .normal (0 :: (76 :: [])) (0 :: (1 :: (0 :: (1 :: (1 :: []))))))
abbrev o2 : Option (TObj S) := some (.loop 107 (N (N (N L (some (.ptr 1 0)) L) (some (.agg [(.stc 10 (T.dflt 10))])) L) (some (.agg [(.stc 14 (T.dflt 14))])) (N (N L (some (.ptr 2 0)) (N L (some (.fn (.func 108) [] [(.ptr 7 0)])) L)) (some (.ptr 0 0)) L)) (13 :: (14 :: [])) .skip .skip 0 .busy (0 :: (107 :: [])) (0 :: (1 :: (0 :: (1 :: [])))))
abbrev o1 : Option (TObj S) := some (.loop 107 (N (N (N L (some (.ptr 1 0)) L) (some (.agg [(.stc 10 (T.dflt 10))])) L) (some (.agg [(.stc 14 (T.dflt 14))])) (N (N L (some (.ptr 2 0)) (N L (some (.fn (.func 108) [] [(.ptr 7 0)])) L)) (some (.ptr 0 0)) L)) (13 :: (14 :: [])) .skip .skip 0 .normal (0 :: (107 :: [])) (0 :: (1 :: (0 :: (1 :: [])))))
abbrev o0 : Option (TObj S) := some (.loop 107 (N (N (N L (some (.ptr 1 0)) L) (some (.agg [(.stc 10 (T.dflt 10))])) (N (N (N L (some (.fn (.func 108) [] [(.ptr 45 0)])) L) none L) (some (.ptr 38 0)) (N L vF L))) (some (.agg [(.stc 14 (T.dflt 14))])) (N (N L (some (.ptr 2 0)) (N L (some (.fn (.func 108) [] [(.ptr 7 0)])) L)) (some (.ptr 0 0)) (N L (some (.ptr 40 0)) (N L (some (.agg [(.int .i64 0), (.int .i64 0)])) L)))) (18 :: (19 :: [])) .skip .skip 2 .normal (2 :: (11 :: (5 :: (7 :: (108 :: (0 :: (107 :: []))))))) (0 :: (1 :: (0 :: (1 :: (0 :: (1 :: (0 :: (1 :: [])))))))))
abbrev o1o : Tr (TObj S) := N L none (N L none (N L o5 L))
abbrev o1n : Tr (TObj S) := N (N (N L ou L) none L) none L
abbrev o1m : Tr (TObj S) := N L none (N (N L oz L) none L)
abbrev v1l : Tr (TV S) := N (N L none (N L vF L)) none L
abbrev o1k : Tr (TObj S) := N (N (N L op L) none L) none L
abbrev v1j : Tr (TV S) := N L none (N (N L vF L) none L)
abbrev v1i : Tr (TV S) := N (N (N L vF L) none L) none L
abbrev o1h : Tr (TObj S) := N (N (N L or L) none L) none L
abbrev v1g : Tr (TV S) := N (N L (some (.ptr 2 0)) L) none L
abbrev o1f : Tr (TObj S) := N L none (N (N (N L o5 L) o9 L) none L)
abbrev o1e : Tr (TObj S) := N (N (N L none (N L op L)) none L) none L
abbrev v1d : Tr (TV S) := N v1i none L
abbrev v1c : Tr (TV S) := N (N (N L vF L) none L) none (N (N L vF L) vF L)
abbrev o1b : Tr (TObj S) := N (N L none (N L ow L)) og (N (N L ot L) none L)
abbrev v1a : Tr (TV S) := N (N L none (N L vF L)) none (N (N L vF L) none L)
abbrev o19 : Tr (TObj S) := N L none (N L none (N (N (N L oe L) none L) none L))
abbrev v18 : Tr (TV S) := N (N L vn L) none (N L (some (.ptr 28 0)) (N L vF L))
abbrev o17 : Tr (TObj S) := N (N L o6 (N L none (N L op L))) o9 (N L ov (N L o5 L))
abbrev o16 : Tr (TObj S) := N (N (N L of L) oa L) oi (N (N (N L of L) none L) of L)
abbrev o15 : Tr (TObj S) := N (N (N (N L oj L) none (N L o1 L)) oa L) o9 (N L o5 L)
abbrev o14 : Tr (TObj S) := N (N L o4 (N (N L oj L) none (N L o3 L))) oi (N (N L o9 L) none L)
abbrev v13 : Tr (TV S) := N (N (N L (some (.rs 15 0)) L) none L) (some (.ptr 0 0)) (N L vD L)
abbrev o12 : Tr (TObj S) := N (N L none (N L ow (N (N L od L) none L))) og (N (N L ot L) none L)
abbrev o11 : Tr (TObj S) := N (N (N (N (N L oa L) none L) none (N (N L oa L) none L)) none L) ol L
abbrev v10 : Tr (TV S) := N (N (N L vF L) (some (.ptr 7 0)) L) (some (.yld 11)) (N (N L vF L) none L)
abbrev vZ : Tr (TV S) := N (N (N L vF L) (some (.ptr 9 0)) L) (some (.yld 13)) (N (N L vF L) none L)
abbrev vY : Tr (TV S) := N (N (N L (some (.rs 11 0)) L) (some (.ptr 0 0)) L) vC (N (N L vE L) none L)
abbrev vX : Tr (TV S) := N (N (N L vF L) (some (.ptr 45 0)) L) (some (.yld 49)) (N (N L vF L) none L)
abbrev oW : Tr (TObj S) := N (N L none (N L ow L)) og (N (N L ot L) none (N L none (N L none (N L oh L))))
abbrev oV : Tr (TObj S) := N (N L none (N L none (N (N L op L) none L))) oi (N L none (N (N L o9 L) none L))
abbrev vU : Tr (TV S) := N (N L vC (N (N L vF L) none L)) none (N (N (N L vB L) none L) none (N (N L vF L) none L))
abbrev oT : Tr (TObj S) := N (N (N L none (N (N L (some (.row 109 (.arr 5 (.int .u64)) [] 0 0)) L) none L)) o9 L) oi L
abbrev oS : Tr (TObj S) := N (N (N L none o1m) none (N L none (N (N L oA L) none L))) og L
abbrev oR : Tr (TObj S) := N (N (N (N (N L (some (.row 4 .bool [] 0 0)) L) none L) none L) none L) oi (N L none (N L none (N L oo L)))
abbrev oQ : Tr (TObj S) := N (N L none (N L ow (N (N L od L) none L))) og (N (N L ot L) none (N (N (N L none (N L ou L)) none L) none L))
abbrev oP : Tr (TObj S) := N (N (N L op L) none (N L none (N (N L op L) none L))) none (N (N (N (N L op L) none L) none (N L ob L)) none L)
abbrev oO : Tr (TObj S) := N (N (N (N (N (N L oz L) none L) none L) none L) none (N L none (N (N L od L) none L))) og (N L none (N (N L oA L) none L))
abbrev oN : Tr (TObj S) := N (N L none (N o1k none L)) oi (N o1o none (N (N (N (N L op L) none L) o9 L) none L))
abbrev vM : Tr (TV S) := N (N (N (N L vn L) none (N L none (N L vF L))) none L) none (N (N (N L vE L) (some (.rs 33 0)) L) none (N (N L none (N L vF L)) (some (.ptr 10 0)) L))
abbrev oL : Tr (TObj S) := N (N (N L of L) oa (N L none (N (N L none (N L op L)) none L))) o9 (N (N (N (N L of L) none (N (N L op L) none L)) none (N L none o1k)) of L)
abbrev oK : Tr (TObj S) := N o11 oi (N (N (N L none (N L none (N L op L))) none L) none (N (N (N L none (N L op L)) none L) none (N L none (N L none (N L op L)))))
abbrev oJ : Tr (TObj S) := N (N (N (N L oj L) none (N L o2 L)) oa (N (N (N L none (N L o0 L)) none L) none (N L none (N (N L oj L) none L)))) o9 (N (N (N L none (N (N L of L) none L)) none L) o5 (N L none (N (N (N L os L) none L) none L)))
abbrev oI : Tr (TObj S) := N (N (N (N L none (N L o7 L)) none (N L none (N L (some (.loop 101 (N (N (N (N (N L vE L) none L) vF L) (some (.ptr 0 0)) (N (N L none (N L vE L)) none L)) vm (N (N (N L vE L) none (N L none (N L vc L))) (some (.ptr 1 0)) L)) (29 :: []) .skip .skip 1 .normal (1 :: (101 :: [])) (0 :: (1 :: (0 :: (1 :: (1 :: (1 :: [])))))))) L))) oq L) o7 (N L none (N L op (N (N (N L of L) none L) none L)))
abbrev oH : Tr (TObj S) := N (N (N (N L none (N L o7 L)) none (N L none (N L (some (.loop 101 (N (N (N (N (N L vE L) none L) vF L) (some (.ptr 0 0)) (N (N L none (N L vE L)) none L)) vm (N (N (N L vE L) none (N L none (N L vc L))) (some (.ptr 1 0)) L)) (29 :: []) .skip .skip 1 .busy (1 :: (101 :: [])) (0 :: (1 :: (0 :: (1 :: (1 :: (1 :: [])))))))) L))) oq L) o7 (N (N (N (N L none (N L of L)) none L) none L) none (N (N L none (N L none (N L o8 L))) op (N (N (N L of L) none L) none L)))
abbrev oG : Tr (TObj S) := N (N (N (N L oj L) none (N L o2 L)) oa (N (N (N L none (N L (some (.loop 107 (N (N (N L (some (.ptr 1 0)) L) (some (.agg [(.stc 10 (T.dflt 10))])) (N (N (N L (some (.fn (.func 108) [] [(.ptr 45 0)])) L) none L) (some (.ptr 38 0)) (N L vF L))) (some (.agg [(.stc 14 (T.dflt 14))])) (N (N L (some (.ptr 2 0)) (N L (some (.fn (.func 108) [] [(.ptr 7 0)])) L)) (some (.ptr 0 0)) (N L (some (.ptr 40 0)) (N L (some (.agg [(.int .i64 0), (.int .i64 0)])) L)))) (18 :: (19 :: [])) .skip .skip 2 (.exit 2) (2 :: (11 :: (5 :: (7 :: (108 :: (0 :: (107 :: []))))))) (0 :: (1 :: (0 :: (1 :: (0 :: (1 :: (0 :: (1 :: [])))))))))) L)) none L) none (N L none (N (N L oj L) none L)))) o9 (N (N (N L none (N (N L of L) none L)) none (N L none (N (N (N L of L) none L) none L))) o5 (N L none (N (N (N L os L) none L) none L)))
noncomputable def q0 : List (Nat × F7 S) := []
theorem q1 : TabOk X (q0) := trivial
abbrev q2 {R : Type} : Loops S R := noLoops
theorem q3 {R : Type} : LoopsOk X (q2 (R := R)) := noLoops_ok X
def q4 : Key := ⟨[98], 98, none, [0, 0, 1, 0, 1, 1], 0, 4⟩
def q5 : StT S := ⟨(N (N (N (N L (some (.iter 3)) L) (some (.int .i32 0)) L) none L) vx L), o1h, 4⟩
def q6 : Way S := ⟨.ret, ⟨(N L none (N L vE L)), o1h, 23⟩, [.bool, .str, .nat]⟩
def q7 : Way S := ⟨(.exit 0), ⟨(N (N (N L (some (.int .i32 0)) L) none L) vx L), o1h, 6⟩, [.int, .str, .str, .nat]⟩
def q8 : LE S := ⟨q4, q5, [.int, .str, .str, .nat], [q6, q7]⟩
def q9 (x : t1b) : ((Bool × Nat) ⊕ (Int × Nat)) → tH := Sum.elim (fun y0 => (.inl (y0.1, x.2.2.1, y0.2))) (fun y1 => (.inr (y1.1, x.2.1, x.2.2.1, y1.2)))
noncomputable def qa {R : Type} (x : t1b) (k : tH → Option R) : Option R := (chart_Name_L0_run x.2.1 x.2.2.1 (x.1, x.2.2.2)).bind (Sum.elim (fun y0 => k (.inl (y0.1, x.2.2.1, y0.2))) (fun y1 => k (.inr (y1.1, x.2.1, x.2.2.1, y1.2))))
def qb (x : t1b) (v : (Int × Nat)) : t1b := (v.1, x.2.1, x.2.2.1, v.2)
theorem qc (x : t1b) : LE.step X q8 q0 q2 12 x = chart_Name_L0_step x.2.1 x.2.2.1 x.1 x.2.2.2 (fun w0 w1 => (Sum.inl (w0, x.2.1, x.2.2.1, w1))) (fun p0 p1 => (Sum.inr (.inl (p0, x.2.2.1, p1)))) (fun p0 p1 => (Sum.inr (.inr (p0, x.2.1, x.2.2.1, p1)))):=by kernel_rfl
theorem qe {R : Type} (x : t1b) (k : tH → Option R) (r : R) (h : qa x k = some r) : ∃ o, Runs (LE.step X q8 q0 q2 12) x o ∧ k o = some r := by
  obtain ⟨o, h1, h2⟩ := some_bind h
  exact ⟨q9 x o, small_ok (st := fun (x : t1b) => chart_Name_L0_st x.2.1 x.2.2.1) (prj := fun x => (x.1, x.2.2.2)) (emb := qb) (embO := q9) (fun x => (qc x).trans (by unfold chart_Name_L0_st chart_Name_L0_step; simp only [map_cond,map_bindO,map_elim,Option.map_some,Option.map_none]; rfl)) (fun _ _ => rfl) (fun _ _ => rfl) (fun _ _ _ => rfl) (fun _ _ _ => rfl) (fun _ => rfl) (runOf_some.1 h1), by
    first
    | exact h2
    | (rcases o with o | o <;> exact h2)⟩
noncomputable def qf {R : Type} : Loops S R := LE.ls X q8 qa q2
theorem qg {R : Type} : LoopsOk X (qf (R := R)) := loop_ok xok q1 (e := q8) q3 qe q3
theorem qh (x0 : ByteArray) : evFn X q0 [.str] [.bool] qf 12 98 (x0, ()) = chart_Name x0:=by kernel_rfl
noncomputable def qi : F7 S := ⟨[.str], [.bool], fun xs => chart_Name xs.1⟩
theorem qj : FSOk X 98 qi := fsOk_eq (evFn_ok xok q1 qg 12 98) fun xs _ h => (qh xs.1).trans h
noncomputable def qk : List (Nat × F7 S) := []
theorem ql : TabOk X (qk) := trivial
abbrev qm {R : Type} : Loops S R := noLoops
theorem qn {R : Type} : LoopsOk X (qm (R := R)) := noLoops_ok X
def qo : Key := ⟨[127, 2, 1, 102, 2, 1, 124], 127, none, [0, 0, 1, 0, 1], 0, 17⟩
def qp : StT S := ⟨(N (N (N (N L vF L) none L) (some (.fn (.func 138) [] [(.ptr 0 0), (.ptr 1 0)])) L) vy v1i), (N (N L os L) os L), 17⟩
def qq : Way S := ⟨.ret, ⟨v1j, (N (N L os L) os L), 38⟩, [.int, .int, .int]⟩
def qr : Way S := ⟨(.exit 0), ⟨L, (N (N L os L) os L), 18⟩, [.int, .int]⟩
def qs : LE S := ⟨qo, qp, [.int, (.lst (.int .i64)), .int, .int, .int], [qq, qr]⟩
def qt (x : t19) : (Int ⊕ Unit) → t1d := Sum.elim (fun y0 => (.inl (y0, x.2.2.2.1, x.2.2.2.2))) (fun y1 => (.inr (x.2.2.2.1, x.2.2.2.2)))
noncomputable def qu {R : Type} (x : t19) (k : t1d → Option R) : Option R := (chart_out_L0_run x.1 x.2.1 x.2.2.2.1 x.2.2.2.2 x.2.2.1).bind (Sum.elim (fun y0 => k (.inl (y0, x.2.2.2.1, x.2.2.2.2))) (fun y1 => k (.inr (x.2.2.2.1, x.2.2.2.2))))
def qv (x : t19) (v : Int) : t19 := (x.1, x.2.1, v, x.2.2.2.1, x.2.2.2.2)
theorem qw (x : t19) : LE.step X qs qk qm 12 x = chart_out_L0_step x.1 x.2.1 x.2.2.2.1 x.2.2.2.2 x.2.2.1 (fun w0 => (Sum.inl (x.1, x.2.1, w0, x.2.2.2.1, x.2.2.2.2))) (fun p0 => (Sum.inr (.inl (p0, x.2.2.2.1, x.2.2.2.2)))) (Sum.inr (.inr (x.2.2.2.1, x.2.2.2.2))):=by kernel_rfl
theorem qy {R : Type} (x : t19) (k : t1d → Option R) (r : R) (h : qu x k = some r) : ∃ o, Runs (LE.step X qs qk qm 12) x o ∧ k o = some r := by
  obtain ⟨o, h1, h2⟩ := some_bind h
  exact ⟨qt x o, small_ok (st := fun (x : t19) => chart_out_L0_st x.1 x.2.1 x.2.2.2.1 x.2.2.2.2) (prj := fun x => x.2.2.1) (emb := qv) (embO := qt) (fun x => (qw x).trans (by unfold chart_out_L0_st chart_out_L0_step; simp only [map_cond,map_bindO,map_elim,Option.map_some,Option.map_none]; rfl)) (fun _ _ => rfl) (fun _ _ => rfl) (fun _ _ _ => rfl) (fun _ _ _ => rfl) (fun _ => rfl) (runOf_some.1 h1), by
    first
    | exact h2
    | (rcases o with o | o <;> exact h2)⟩
noncomputable def qz {R : Type} : Loops S R := LE.ls X qs qu qm
theorem qA {R : Type} : LoopsOk X (qz (R := R)) := loop_ok xok ql (e := qs) qn qy qn
theorem qB (x0 : Int) (x1 : Int) (x2 : List Int) : evFn X qk [(.int .i64), (.int .i64), (.sl (.int .i64))] [.bool] qz 12 124 (x0, x1, x2, ()) = chart_out x0 x1 x2:=by kernel_rfl
noncomputable def qC : F7 S := ⟨[(.int .i64), (.int .i64), (.sl (.int .i64))], [.bool], fun xs => chart_out xs.1 xs.2.1 xs.2.2.1⟩
theorem qD : FSOk X 124 qC := fsOk_eq (evFn_ok xok ql qA 12 124) fun xs _ h => (qB xs.1 xs.2.1 xs.2.2.1).trans h
noncomputable def qE : List (Nat × F7 S) := [(124, qC)]
theorem qF : TabOk X (qE) := ⟨qD, trivial⟩
abbrev qG {R : Type} : Loops S R := noLoops
theorem qH {R : Type} : LoopsOk X (qG (R := R)) := noLoops_ok X
def qI : Key := ⟨[137, 2, 1, 122, 2, 1, 99], 137, none, [0, 0, 1, 0, 1], 0, 16⟩
def qJ : StT S := ⟨(N (N (N (N L vF L) none L) (some (.fn (.func 123) [] [(.ptr 0 0)])) L) vD v1i), (N L os L), 16⟩
def qK : Way S := ⟨.ret, ⟨v1j, (N (N L none (N (N L none (N L of L)) none L)) os (N L none (N o1k none L))), 39⟩, [.int, (.st 2), .int, (.lst (.int .i64)), .nat]⟩
def qL : Way S := ⟨(.exit 0), ⟨L, (N L os L), 17⟩, [.int]⟩
def qM : LE S := ⟨qI, qJ, [.int, (.lst (.st 2)), .int, .int], [qK, qL]⟩
def qN (x : t1f) : ((Int × Point × (List Int) × Nat) ⊕ Unit) → tY := Sum.elim (fun y0 => (.inl (y0.1, y0.2.1, x.2.2.2, y0.2.2.1, y0.2.2.2))) (fun y1 => (.inr x.2.2.2))
noncomputable def qO {R : Type} (x : t1f) (k : tY → Option R) : Option R := (chart_far_L0_run x.1 x.2.1 x.2.2.2 x.2.2.1).bind (Sum.elim (fun y0 => k (.inl (y0.1, y0.2.1, x.2.2.2, y0.2.2.1, y0.2.2.2))) (fun y1 => k (.inr x.2.2.2)))
def qP (x : t1f) (v : Int) : t1f := (x.1, x.2.1, v, x.2.2.2)
theorem qQ (x : t1f) : LE.step X qM qE qG 12 x = chart_far_L0_step x.1 x.2.1 x.2.2.2 x.2.2.1 (fun w0 => (Sum.inl (x.1, x.2.1, w0, x.2.2.2))) (fun p0 p1 p2 p3 => (Sum.inr (.inl (p0, p1, x.2.2.2, p2, p3)))) (Sum.inr (.inr x.2.2.2)):=by kernel_rfl
theorem qS {R : Type} (x : t1f) (k : tY → Option R) (r : R) (h : qO x k = some r) : ∃ o, Runs (LE.step X qM qE qG 12) x o ∧ k o = some r := by
  obtain ⟨o, h1, h2⟩ := some_bind h
  exact ⟨qN x o, small_ok (st := fun (x : t1f) => chart_far_L0_st x.1 x.2.1 x.2.2.2) (prj := fun x => x.2.2.1) (emb := qP) (embO := qN) (fun x => (qQ x).trans (by unfold chart_far_L0_st chart_far_L0_step; simp only [map_cond,map_bindO,map_elim,Option.map_some,Option.map_none]; rfl)) (fun _ _ => rfl) (fun _ _ => rfl) (fun _ _ _ => rfl) (fun _ _ _ => rfl) (fun _ => rfl) (runOf_some.1 h1), by
    first
    | exact h2
    | (rcases o with o | o <;> exact h2)⟩
noncomputable def qT {R : Type} : Loops S R := LE.ls X qM qO qG
theorem qU {R : Type} : LoopsOk X (qT (R := R)) := loop_ok xok qF (e := qM) qH qS qH
theorem qV (x0 : Int) (x1 : List Point) : evFn X qE [(.int .i64), (.sl (.st 2))] [.bool] qT 12 99 (x0, x1, ()) = chart_far x0 x1:=by kernel_rfl
noncomputable def qW : F7 S := ⟨[(.int .i64), (.sl (.st 2))], [.bool], fun xs => chart_far xs.1 xs.2.1⟩
theorem qX : FSOk X 99 qW := fsOk_eq (evFn_ok xok qF qU 12 99) fun xs _ h => (qV xs.1 xs.2.1).trans h
noncomputable def qY : List (Nat × F7 S) := [(124, qC)]
theorem qZ : TabOk X (qY) := ⟨qD, trivial⟩
abbrev q10 {R : Type} : Loops S R := noLoops
theorem q11 {R : Type} : LoopsOk X (q10 (R := R)) := noLoops_ok X
def q12 : Key := ⟨[100], 100, none, [0, 0, 1, 0, 1, 1, 1], 0, 9⟩
def q13 : StT S := ⟨(N (N (N L vF (N L vF L)) none L) none (N (N L none (N L vF L)) none (N (N L (some (.sl (.st 3) [])) L) none L))), o1k, 9⟩
def q14 : Way S := ⟨.ret, ⟨(N L none (N L vF L)), (N (N (N L op L) none L) none (N (N (N (N L op L) none L) none (N L ob L)) none L)), 26⟩, [.int, (.lst (.int .i64)), .nat, (.lst (.int .i64)), .nat, (.st 3)]⟩
def q15 : Way S := ⟨.ret, ⟨(N L none (N L vF L)), oP, 26⟩, [.int, (.lst (.int .i64)), .nat, (.lst (.int .i64)), .nat, (.lst (.int .i64)), .nat, (.st 3)]⟩
def q16 : Way S := ⟨.ret, ⟨(N L none (N L vF L)), oP, 31⟩, [.int, (.lst (.int .i64)), .nat, (.lst (.int .i64)), .nat, (.lst (.int .i64)), .nat, (.st 3)]⟩
def q17 : Way S := ⟨(.exit 0), ⟨L, o1k, 10⟩, [(.lst (.int .i64)), .nat]⟩
def q18 : LE S := ⟨q12, q13, [.int, .int, .int, (.lst (.st 3)), (.lst (.int .i64)), .nat], [q14, q15, q16, q17]⟩
def q19 (x : tQ) : ((Int × (List Int) × Nat × CtPaint) ⊕ (Int × (List Int) × Nat × (List Int) × Nat × CtPaint) ⊕ (Int × (List Int) × Nat × (List Int) × Nat × CtPaint) ⊕ Unit) → t8 := Sum.elim (fun y0 => (.inl (y0.1, x.2.2.2.2.1, x.2.2.2.2.2, y0.2.1, y0.2.2.1, y0.2.2.2))) (Sum.elim (fun y1 => (.inr (.inl (y1.1, x.2.2.2.2.1, x.2.2.2.2.2, y1.2.1, y1.2.2.1, y1.2.2.2.1, y1.2.2.2.2.1, y1.2.2.2.2.2)))) (Sum.elim (fun y2 => (.inr (.inr (.inl (y2.1, x.2.2.2.2.1, x.2.2.2.2.2, y2.2.1, y2.2.2.1, y2.2.2.2.1, y2.2.2.2.2.1, y2.2.2.2.2.2))))) (fun y3 => (.inr (.inr (.inr (x.2.2.2.2.1, x.2.2.2.2.2)))))))
noncomputable def q1a {R : Type} (x : tQ) (k : t8 → Option R) : Option R := (chart_paints_L0_run x.2.1 x.2.2.2.1 x.2.2.2.2.1 x.2.2.2.2.2 (x.1, x.2.2.1)).bind (Sum.elim (fun y0 => k (.inl (y0.1, x.2.2.2.2.1, x.2.2.2.2.2, y0.2.1, y0.2.2.1, y0.2.2.2))) (Sum.elim (fun y1 => k (.inr (.inl (y1.1, x.2.2.2.2.1, x.2.2.2.2.2, y1.2.1, y1.2.2.1, y1.2.2.2.1, y1.2.2.2.2.1, y1.2.2.2.2.2)))) (Sum.elim (fun y2 => k (.inr (.inr (.inl (y2.1, x.2.2.2.2.1, x.2.2.2.2.2, y2.2.1, y2.2.2.1, y2.2.2.2.1, y2.2.2.2.2.1, y2.2.2.2.2.2))))) (fun y3 => k (.inr (.inr (.inr (x.2.2.2.2.1, x.2.2.2.2.2))))))))
def q1b (x : tQ) (v : (Int × Int)) : tQ := (v.1, x.2.1, v.2, x.2.2.2.1, x.2.2.2.2.1, x.2.2.2.2.2)
theorem q1c (x : tQ) : LE.step X q18 qY q10 12 x = chart_paints_L0_step x.2.1 x.2.2.2.1 x.2.2.2.2.1 x.2.2.2.2.2 x.1 x.2.2.1 (fun w0 w1 => (Sum.inl (w0, x.2.1, w1, x.2.2.2.1, x.2.2.2.2.1, x.2.2.2.2.2))) (fun p0 p1 p2 p3 => (Sum.inr (.inl (p0, x.2.2.2.2.1, x.2.2.2.2.2, p1, p2, p3)))) (fun p0 p1 p2 p3 p4 p5 => (Sum.inr (.inr (.inl (p0, x.2.2.2.2.1, x.2.2.2.2.2, p1, p2, p3, p4, p5))))) (fun p0 p1 p2 p3 p4 p5 => (Sum.inr (.inr (.inr (.inl (p0, x.2.2.2.2.1, x.2.2.2.2.2, p1, p2, p3, p4, p5)))))) (Sum.inr (.inr (.inr (.inr (x.2.2.2.2.1, x.2.2.2.2.2))))):=by kernel_rfl
theorem q1e {R : Type} (x : tQ) (k : t8 → Option R) (r : R) (h : q1a x k = some r) : ∃ o, Runs (LE.step X q18 qY q10 12) x o ∧ k o = some r := by
  obtain ⟨o, h1, h2⟩ := some_bind h
  exact ⟨q19 x o, small_ok (st := fun (x : tQ) => chart_paints_L0_st x.2.1 x.2.2.2.1 x.2.2.2.2.1 x.2.2.2.2.2) (prj := fun x => (x.1, x.2.2.1)) (emb := q1b) (embO := q19) (fun x => (q1c x).trans (by unfold chart_paints_L0_st chart_paints_L0_step; simp only [map_cond,map_bindO,map_elim,Option.map_some,Option.map_none]; rfl)) (fun _ _ => rfl) (fun _ _ => rfl) (fun _ _ _ => rfl) (fun _ _ _ => rfl) (fun _ => rfl) (runOf_some.1 h1), by
    first
    | exact h2
    | (rcases o with o | o | o | o <;> exact h2)⟩
noncomputable def q1f {R : Type} : Loops S R := LE.ls X q18 q1a q10
theorem q1g {R : Type} : LoopsOk X (q1f (R := R)) := loop_ok xok qZ (e := q18) q11 q1e q11
theorem q1h (x0 : List CtPaint) : evFn X qY [(.sl (.st 3))] [(.int .i64)] q1f 12 100 (x0, ()) = chart_paints x0:=by kernel_rfl
noncomputable def q1i : F7 S := ⟨[(.sl (.st 3))], [(.int .i64)], fun xs => chart_paints xs.1⟩
theorem q1j : FSOk X 100 q1i := fsOk_eq (evFn_ok xok qZ q1g 12 100) fun xs _ h => (q1h xs.1).trans h
noncomputable def q1k : List (Nat × F7 S) := [(124, qC)]
theorem q1l : TabOk X (q1k) := ⟨qD, trivial⟩
abbrev q1m {R : Type} : Loops S R := noLoops
theorem q1n {R : Type} : LoopsOk X (q1m (R := R)) := noLoops_ok X
theorem q1o (x0 : CtBox) (x1 : Int) : evFn X q1k [(.st 6), (.int .i64)] [(.int .i64)] q1m 12 125 (x0, x1, ()) = chart_box x0 x1:=by kernel_rfl
noncomputable def q1p : F7 S := ⟨[(.st 6), (.int .i64)], [(.int .i64)], fun xs => chart_box xs.1 xs.2.1⟩
theorem q1q : FSOk X 125 q1p := fsOk_eq (evFn_ok xok q1l q1n 12 125) fun xs _ h => (q1o xs.1 xs.2.1).trans h
noncomputable def q1r : List (Nat × F7 S) := []
theorem q1s : TabOk X (q1r) := trivial
abbrev q1t {R : Type} : Loops S R := noLoops
theorem q1u {R : Type} : LoopsOk X (q1t (R := R)) := noLoops_ok X
theorem q1v (x0 : Point) (x1 : Point) : evFn X q1r [(.st 2), (.st 2)] [(.st 2)] q1t 12 120 (x0, x1, ()) = chart_from x0 x1:=by kernel_rfl
noncomputable def q1w : F7 S := ⟨[(.st 2), (.st 2)], [(.st 2)], fun xs => chart_from xs.1 xs.2.1⟩
theorem q1x : FSOk X 120 q1w := fsOk_eq (evFn_ok xok q1s q1u 12 120) fun xs _ h => (q1v xs.1 xs.2.1).trans h
noncomputable def q1y : List (Nat × F7 S) := []
theorem q1z : TabOk X (q1y) := trivial
abbrev q1A {R : Type} : Loops S R := noLoops
theorem q1B {R : Type} : LoopsOk X (q1A (R := R)) := noLoops_ok X
theorem q1C (x0 : Point) (x1 : Point) : evFn X q1y [(.st 2), (.st 2)] [(.int .i64)] q1A 12 126 (x0, x1, ()) = chart_left x0 x1:=by kernel_rfl
noncomputable def q1D : F7 S := ⟨[(.st 2), (.st 2)], [(.int .i64)], fun xs => chart_left xs.1 xs.2.1⟩
theorem q1E : FSOk X 126 q1D := fsOk_eq (evFn_ok xok q1z q1B 12 126) fun xs _ h => (q1C xs.1 xs.2.1).trans h
noncomputable def q1F : List (Nat × F7 S) := [(124, qC), (99, qW), (125, q1p), (120, q1w), (126, q1D)]
theorem q1G : TabOk X (q1F) := ⟨qD, qX, q1q, q1x, q1E, trivial⟩
abbrev q1H {R : Type} : Loops S R := noLoops
theorem q1I {R : Type} : LoopsOk X (q1H (R := R)) := noLoops_ok X
def q1J : Key := ⟨[27, 6, 4, 135, 1, 101], 101, (some 27), [0, 0, 1, 0, 1, 0, 1, 0, 1, 0, 1, 1, 1], 3, 66⟩
def q1K : StT S := ⟨(N (N L none (N v1i vF L)) none (N (N (N (N (N L vD L) none L) none L) (some (.ptr 58 0)) L) (some (.ptr 1 0)) v1d)), oH, 66⟩
def q1L : Way S := ⟨(.exit 3), ⟨(N (N L none (N L vF L)) none (N (N L (some (.ptr 58 0)) L) (some (.ptr 1 0)) L)), oH, 67⟩, [.int, (.st 15), .bool, .int, .bool, (.st 15), .bool, .int, (.st 15), (.st 2), (.st 17), (.lst (.int .i64)), .nat, (.st 2)]⟩
def q1M : LE S := ⟨q1J, q1K, [.int, .int, (.lst (.st 2)), .int, (.st 15), .bool, .int, .bool, (.st 15), .bool, .int, (.st 15), (.st 2), (.st 17), (.lst (.int .i64)), .nat, (.st 2)], [q1L]⟩
def q1N (x : te) : Int → tg := fun y0 => (y0, x.2.2.2.2.1, x.2.2.2.2.2.1, x.2.2.2.2.2.2.1, x.2.2.2.2.2.2.2.1, x.2.2.2.2.2.2.2.2.1, x.2.2.2.2.2.2.2.2.2.1, x.2.2.2.2.2.2.2.2.2.2.1, x.2.2.2.2.2.2.2.2.2.2.2.1, x.2.2.2.2.2.2.2.2.2.2.2.2.1, x.2.2.2.2.2.2.2.2.2.2.2.2.2.1, x.2.2.2.2.2.2.2.2.2.2.2.2.2.2.1, x.2.2.2.2.2.2.2.2.2.2.2.2.2.2.2.1, x.2.2.2.2.2.2.2.2.2.2.2.2.2.2.2.2)
noncomputable def q1O {R : Type} (x : te) (k : tg → Option R) : Option R := (chart_sand_check_L1_run x.1 x.2.2.1 x.2.2.2.2.1 x.2.2.2.2.2.1 x.2.2.2.2.2.2.1 x.2.2.2.2.2.2.2.1 x.2.2.2.2.2.2.2.2.1 x.2.2.2.2.2.2.2.2.2.1 x.2.2.2.2.2.2.2.2.2.2.1 x.2.2.2.2.2.2.2.2.2.2.2.1 x.2.2.2.2.2.2.2.2.2.2.2.2.1 x.2.2.2.2.2.2.2.2.2.2.2.2.2.1 x.2.2.2.2.2.2.2.2.2.2.2.2.2.2.1 x.2.2.2.2.2.2.2.2.2.2.2.2.2.2.2.1 x.2.2.2.2.2.2.2.2.2.2.2.2.2.2.2.2 (x.2.1, x.2.2.2.1)).bind (fun y0 => k (y0, x.2.2.2.2.1, x.2.2.2.2.2.1, x.2.2.2.2.2.2.1, x.2.2.2.2.2.2.2.1, x.2.2.2.2.2.2.2.2.1, x.2.2.2.2.2.2.2.2.2.1, x.2.2.2.2.2.2.2.2.2.2.1, x.2.2.2.2.2.2.2.2.2.2.2.1, x.2.2.2.2.2.2.2.2.2.2.2.2.1, x.2.2.2.2.2.2.2.2.2.2.2.2.2.1, x.2.2.2.2.2.2.2.2.2.2.2.2.2.2.1, x.2.2.2.2.2.2.2.2.2.2.2.2.2.2.2.1, x.2.2.2.2.2.2.2.2.2.2.2.2.2.2.2.2))
def q1P (x : te) (v : (Int × Int)) : te := (x.1, v.1, x.2.2.1, v.2, x.2.2.2.2.1, x.2.2.2.2.2.1, x.2.2.2.2.2.2.1, x.2.2.2.2.2.2.2.1, x.2.2.2.2.2.2.2.2.1, x.2.2.2.2.2.2.2.2.2.1, x.2.2.2.2.2.2.2.2.2.2.1, x.2.2.2.2.2.2.2.2.2.2.2.1, x.2.2.2.2.2.2.2.2.2.2.2.2.1, x.2.2.2.2.2.2.2.2.2.2.2.2.2.1, x.2.2.2.2.2.2.2.2.2.2.2.2.2.2.1, x.2.2.2.2.2.2.2.2.2.2.2.2.2.2.2.1, x.2.2.2.2.2.2.2.2.2.2.2.2.2.2.2.2)
theorem q1Q (x : te) : LE.step X q1M q1F q1H 12 x = chart_sand_check_L1_step x.1 x.2.2.1 x.2.2.2.2.1 x.2.2.2.2.2.1 x.2.2.2.2.2.2.1 x.2.2.2.2.2.2.2.1 x.2.2.2.2.2.2.2.2.1 x.2.2.2.2.2.2.2.2.2.1 x.2.2.2.2.2.2.2.2.2.2.1 x.2.2.2.2.2.2.2.2.2.2.2.1 x.2.2.2.2.2.2.2.2.2.2.2.2.1 x.2.2.2.2.2.2.2.2.2.2.2.2.2.1 x.2.2.2.2.2.2.2.2.2.2.2.2.2.2.1 x.2.2.2.2.2.2.2.2.2.2.2.2.2.2.2.1 x.2.2.2.2.2.2.2.2.2.2.2.2.2.2.2.2 x.2.1 x.2.2.2.1 (fun w0 w1 => (Sum.inl (x.1, w0, x.2.2.1, w1, x.2.2.2.2.1, x.2.2.2.2.2.1, x.2.2.2.2.2.2.1, x.2.2.2.2.2.2.2.1, x.2.2.2.2.2.2.2.2.1, x.2.2.2.2.2.2.2.2.2.1, x.2.2.2.2.2.2.2.2.2.2.1, x.2.2.2.2.2.2.2.2.2.2.2.1, x.2.2.2.2.2.2.2.2.2.2.2.2.1, x.2.2.2.2.2.2.2.2.2.2.2.2.2.1, x.2.2.2.2.2.2.2.2.2.2.2.2.2.2.1, x.2.2.2.2.2.2.2.2.2.2.2.2.2.2.2.1, x.2.2.2.2.2.2.2.2.2.2.2.2.2.2.2.2))) (fun p0 => (Sum.inr (p0, x.2.2.2.2.1, x.2.2.2.2.2.1, x.2.2.2.2.2.2.1, x.2.2.2.2.2.2.2.1, x.2.2.2.2.2.2.2.2.1, x.2.2.2.2.2.2.2.2.2.1, x.2.2.2.2.2.2.2.2.2.2.1, x.2.2.2.2.2.2.2.2.2.2.2.1, x.2.2.2.2.2.2.2.2.2.2.2.2.1, x.2.2.2.2.2.2.2.2.2.2.2.2.2.1, x.2.2.2.2.2.2.2.2.2.2.2.2.2.2.1, x.2.2.2.2.2.2.2.2.2.2.2.2.2.2.2.1, x.2.2.2.2.2.2.2.2.2.2.2.2.2.2.2.2))):=by kernel_rfl
theorem q1S {R : Type} (x : te) (k : tg → Option R) (r : R) (h : q1O x k = some r) : ∃ o, Runs (LE.step X q1M q1F q1H 12) x o ∧ k o = some r := by
  obtain ⟨o, h1, h2⟩ := some_bind h
  exact ⟨q1N x o, small_ok (st := fun (x : te) => chart_sand_check_L1_st x.1 x.2.2.1 x.2.2.2.2.1 x.2.2.2.2.2.1 x.2.2.2.2.2.2.1 x.2.2.2.2.2.2.2.1 x.2.2.2.2.2.2.2.2.1 x.2.2.2.2.2.2.2.2.2.1 x.2.2.2.2.2.2.2.2.2.2.1 x.2.2.2.2.2.2.2.2.2.2.2.1 x.2.2.2.2.2.2.2.2.2.2.2.2.1 x.2.2.2.2.2.2.2.2.2.2.2.2.2.1 x.2.2.2.2.2.2.2.2.2.2.2.2.2.2.1 x.2.2.2.2.2.2.2.2.2.2.2.2.2.2.2.1 x.2.2.2.2.2.2.2.2.2.2.2.2.2.2.2.2) (prj := fun x => (x.2.1, x.2.2.2.1)) (emb := q1P) (embO := q1N) (fun x => (q1Q x).trans (by unfold chart_sand_check_L1_st chart_sand_check_L1_step; simp only [map_cond,map_bindO,map_elim,Option.map_some,Option.map_none]; rfl)) (fun _ _ => rfl) (fun _ _ => rfl) (fun _ _ _ => rfl) (fun _ _ _ => rfl) (fun _ => rfl) (runOf_some.1 h1), by
    first
    | exact h2
    | (rcases o with o <;> exact h2)⟩
noncomputable def q1T {R : Type} : Loops S R := LE.ls X q1M q1O q1H
theorem q1U {R : Type} : LoopsOk X (q1T (R := R)) := loop_ok xok q1G (e := q1M) q1I q1S q1I
def q1V : Key := ⟨[135, 1, 101], 135, none, [0, 0, 1, 1], 0, 45⟩
def q1W : StT S := ⟨(N (N (N L (some (.ptr 38 0)) (N (N L vF L) none L)) none L) (some (.yld 27)) (N v1j none (N (N (N L vD L) none L) none L))), oI, 45⟩
def q1X : Way S := ⟨.ret, ⟨L, (N (N (N (N L none (N L o7 L)) none (N L none (N L (some (.loop 101 (N (N (N (N (N L vE L) none L) vF L) (some (.ptr 0 0)) (N (N L none (N L vE L)) none L)) vm (N (N (N L vE L) none (N L none (N L vc L))) (some (.ptr 1 0)) L)) (29 :: []) .skip .skip 1 .ret (1 :: (101 :: [])) (0 :: (1 :: (0 :: (1 :: (1 :: (1 :: [])))))))) L))) oq L) o7 (N (N (N (N L none (N L of L)) none L) none L) none (N (N L none (N L none (N L o8 L))) op (N (N (N L of L) none L) none L)))), 76⟩, [(.st 15), .bool, .int, .bool, (.st 15), .bool, .int, (.st 15), (.st 2), (.st 17), (.lst (.int .i64)), .nat, (.st 2)]⟩
def q1Y : Way S := ⟨(.exit 0), ⟨L, oI, 46⟩, [(.st 15), .bool, .int, .bool, (.st 15), .bool, .int, (.st 15), (.lst (.int .i64)), .nat, (.st 2)]⟩
def q1Z : LE S := ⟨q1V, q1W, [.int, .int, (.lst (.st 2)), (.st 15), .bool, .int, .bool, (.st 15), .bool, .int, (.st 15), (.lst (.int .i64)), .nat, (.st 2)], [q1X, q1Y]⟩
def q20 (x : th) : ((Int × Point × chart_side × Point) ⊕ Point) → t9 := Sum.elim (fun y0 => (.inl (x.2.2.2.1, x.2.2.2.2.1, x.2.2.2.2.2.1, x.2.2.2.2.2.2.1, x.2.2.2.2.2.2.2.1, x.2.2.2.2.2.2.2.2.1, y0.1, x.2.2.2.2.2.2.2.2.2.2.1, y0.2.1, y0.2.2.1, x.2.2.2.2.2.2.2.2.2.2.2.1, x.2.2.2.2.2.2.2.2.2.2.2.2.1, y0.2.2.2))) (fun y1 => (.inr (x.2.2.2.1, x.2.2.2.2.1, x.2.2.2.2.2.1, x.2.2.2.2.2.2.1, x.2.2.2.2.2.2.2.1, x.2.2.2.2.2.2.2.2.1, x.2.2.2.2.2.2.2.2.2.1, x.2.2.2.2.2.2.2.2.2.2.1, x.2.2.2.2.2.2.2.2.2.2.2.1, x.2.2.2.2.2.2.2.2.2.2.2.2.1, y1)))
noncomputable def q21 {R : Type} (x : th) (k : t9 → Option R) : Option R := (chart_sand_check_L0_run x.1 x.2.2.1 x.2.2.2.1 x.2.2.2.2.1 x.2.2.2.2.2.1 x.2.2.2.2.2.2.1 x.2.2.2.2.2.2.2.1 x.2.2.2.2.2.2.2.2.1 x.2.2.2.2.2.2.2.2.2.1 x.2.2.2.2.2.2.2.2.2.2.1 x.2.2.2.2.2.2.2.2.2.2.2.1 x.2.2.2.2.2.2.2.2.2.2.2.2.1 (x.2.1, x.2.2.2.2.2.2.2.2.2.2.2.2.2)).bind (Sum.elim (fun y0 => k (.inl (x.2.2.2.1, x.2.2.2.2.1, x.2.2.2.2.2.1, x.2.2.2.2.2.2.1, x.2.2.2.2.2.2.2.1, x.2.2.2.2.2.2.2.2.1, y0.1, x.2.2.2.2.2.2.2.2.2.2.1, y0.2.1, y0.2.2.1, x.2.2.2.2.2.2.2.2.2.2.2.1, x.2.2.2.2.2.2.2.2.2.2.2.2.1, y0.2.2.2))) (fun y1 => k (.inr (x.2.2.2.1, x.2.2.2.2.1, x.2.2.2.2.2.1, x.2.2.2.2.2.2.1, x.2.2.2.2.2.2.2.1, x.2.2.2.2.2.2.2.2.1, x.2.2.2.2.2.2.2.2.2.1, x.2.2.2.2.2.2.2.2.2.2.1, x.2.2.2.2.2.2.2.2.2.2.2.1, x.2.2.2.2.2.2.2.2.2.2.2.2.1, y1))))
def q22 (x : th) (v : (Int × Point)) : th := (x.1, v.1, x.2.2.1, x.2.2.2.1, x.2.2.2.2.1, x.2.2.2.2.2.1, x.2.2.2.2.2.2.1, x.2.2.2.2.2.2.2.1, x.2.2.2.2.2.2.2.2.1, x.2.2.2.2.2.2.2.2.2.1, x.2.2.2.2.2.2.2.2.2.2.1, x.2.2.2.2.2.2.2.2.2.2.2.1, x.2.2.2.2.2.2.2.2.2.2.2.2.1, v.2)
theorem q23 (x : th) : LE.step X q1Z q1F q1T 12 x = chart_sand_check_L0_step x.1 x.2.2.1 x.2.2.2.1 x.2.2.2.2.1 x.2.2.2.2.2.1 x.2.2.2.2.2.2.1 x.2.2.2.2.2.2.2.1 x.2.2.2.2.2.2.2.2.1 x.2.2.2.2.2.2.2.2.2.1 x.2.2.2.2.2.2.2.2.2.2.1 x.2.2.2.2.2.2.2.2.2.2.2.1 x.2.2.2.2.2.2.2.2.2.2.2.2.1 x.2.1 x.2.2.2.2.2.2.2.2.2.2.2.2.2 (fun w0 w1 => (Sum.inl (x.1, w0, x.2.2.1, x.2.2.2.1, x.2.2.2.2.1, x.2.2.2.2.2.1, x.2.2.2.2.2.2.1, x.2.2.2.2.2.2.2.1, x.2.2.2.2.2.2.2.2.1, x.2.2.2.2.2.2.2.2.2.1, x.2.2.2.2.2.2.2.2.2.2.1, x.2.2.2.2.2.2.2.2.2.2.2.1, x.2.2.2.2.2.2.2.2.2.2.2.2.1, w1))) (fun p0 p1 p2 p3 => (Sum.inr (.inl (x.2.2.2.1, x.2.2.2.2.1, x.2.2.2.2.2.1, x.2.2.2.2.2.2.1, x.2.2.2.2.2.2.2.1, x.2.2.2.2.2.2.2.2.1, p0, x.2.2.2.2.2.2.2.2.2.2.1, p1, p2, x.2.2.2.2.2.2.2.2.2.2.2.1, x.2.2.2.2.2.2.2.2.2.2.2.2.1, p3)))) (fun p0 => (Sum.inr (.inr (x.2.2.2.1, x.2.2.2.2.1, x.2.2.2.2.2.1, x.2.2.2.2.2.2.1, x.2.2.2.2.2.2.2.1, x.2.2.2.2.2.2.2.2.1, x.2.2.2.2.2.2.2.2.2.1, x.2.2.2.2.2.2.2.2.2.2.1, x.2.2.2.2.2.2.2.2.2.2.2.1, x.2.2.2.2.2.2.2.2.2.2.2.2.1, p0)))):=by kernel_rfl
theorem q25 {R : Type} (x : th) (k : t9 → Option R) (r : R) (h : q21 x k = some r) : ∃ o, Runs (LE.step X q1Z q1F q1T 12) x o ∧ k o = some r := by
  obtain ⟨o, h1, h2⟩ := some_bind h
  exact ⟨q20 x o, small_ok (st := fun (x : th) => chart_sand_check_L0_st x.1 x.2.2.1 x.2.2.2.1 x.2.2.2.2.1 x.2.2.2.2.2.1 x.2.2.2.2.2.2.1 x.2.2.2.2.2.2.2.1 x.2.2.2.2.2.2.2.2.1 x.2.2.2.2.2.2.2.2.2.1 x.2.2.2.2.2.2.2.2.2.2.1 x.2.2.2.2.2.2.2.2.2.2.2.1 x.2.2.2.2.2.2.2.2.2.2.2.2.1) (prj := fun x => (x.2.1, x.2.2.2.2.2.2.2.2.2.2.2.2.2)) (emb := q22) (embO := q20) (fun x => (q23 x).trans (by unfold chart_sand_check_L0_st chart_sand_check_L0_step; simp only [map_cond,map_bindO,map_elim,Option.map_some,Option.map_none]; rfl)) (fun _ _ => rfl) (fun _ _ => rfl) (fun _ _ _ => rfl) (fun _ _ _ => rfl) (fun _ => rfl) (runOf_some.1 h1), by
    first
    | exact h2
    | (rcases o with o | o <;> exact h2)⟩
noncomputable def q26 {R : Type} : Loops S R := LE.ls X q1Z q21 q1T
theorem q27 {R : Type} : LoopsOk X (q26 (R := R)) := loop_ok xok q1G (e := q1Z) q1U q25 q1U
theorem q28 (x0 : chart_sand) : evFn X q1F [(.st 15)] [(.int .i64)] q26 12 101 (x0, ()) = chart_sand_check x0:=by kernel_rfl
noncomputable def q29 : F7 S := ⟨[(.st 15)], [(.int .i64)], fun xs => chart_sand_check xs.1⟩
theorem q2a : FSOk X 101 q29 := fsOk_eq (evFn_ok xok q1G q27 12 101) fun xs _ h => (q28 xs.1).trans h
noncomputable def q2b : List (Nat × F7 S) := [(98, qi), (99, qW), (100, q1i), (101, q29)]
theorem q2c : TabOk X (q2b) := ⟨qj, qX, q1j, q2a, trivial⟩
abbrev q2d {R : Type} : Loops S R := noLoops
theorem q2e {R : Type} : LoopsOk X (q2d (R := R)) := noLoops_ok X
def q2f : Key := ⟨[60], 60, none, [0, 0, 1, 0, 1, 1, 1, 1], 0, 17⟩
def q2g : StT S := ⟨(N (N v1j (some (.ptr 0 0)) L) none (N v1j none (N (N (N L (some (.sl (.st 4) [])) L) none L) vk L))), o1b, 17⟩
def q2h : Way S := ⟨.ret, ⟨v1c, o12, 57⟩, [.int, .int, .int, (.st 4), (.st 8), (.mp .str (.int .i64))]⟩
def q2i : Way S := ⟨.ret, ⟨v1c, o12, 62⟩, [.int, .int, .int, (.st 4), (.st 8), (.mp .str (.int .i64))]⟩
def q2j : Way S := ⟨.ret, ⟨v1c, oQ, 63⟩, [.int, .int, .int, (.st 4), (.st 8), (.mp .str (.int .i64)), (.lst (.st 2)), .nat]⟩
def q2k : Way S := ⟨.ret, ⟨v1c, oQ, 66⟩, [.int, .int, .int, (.st 4), (.st 8), (.mp .str (.int .i64)), (.lst (.st 2)), .nat]⟩
def q2l : Way S := ⟨(.exit 0), ⟨(N (N L (some (.ptr 0 0)) L) none (N L none (N L vk L))), o1b, 18⟩, [(.st 8), (.mp .str (.int .i64))]⟩
def q2m : LE S := ⟨q2f, q2g, [.int, .int, (.lst (.st 4)), (.st 8), (.mp .str (.int .i64))], [q2h, q2i, q2j, q2k, q2l]⟩
def q2n (x : tI) : ((Int × Int × Int × CtMark × t1i) ⊕ (Int × Int × Int × CtMark × t1i) ⊕ (Int × Int × Int × CtMark × t1i × (List Point) × Nat) ⊕ (Int × Int × Int × CtMark × t1i × (List Point) × Nat) ⊕ t1i) → t2 := Sum.elim (fun y0 => (.inl (y0.1, y0.2.1, y0.2.2.1, y0.2.2.2.1, x.2.2.2.1, y0.2.2.2.2))) (Sum.elim (fun y1 => (.inr (.inl (y1.1, y1.2.1, y1.2.2.1, y1.2.2.2.1, x.2.2.2.1, y1.2.2.2.2)))) (Sum.elim (fun y2 => (.inr (.inr (.inl (y2.1, y2.2.1, y2.2.2.1, y2.2.2.2.1, x.2.2.2.1, y2.2.2.2.2.1, y2.2.2.2.2.2.1, y2.2.2.2.2.2.2))))) (Sum.elim (fun y3 => (.inr (.inr (.inr (.inl (y3.1, y3.2.1, y3.2.2.1, y3.2.2.2.1, x.2.2.2.1, y3.2.2.2.2.1, y3.2.2.2.2.2.1, y3.2.2.2.2.2.2)))))) (fun y4 => (.inr (.inr (.inr (.inr (x.2.2.2.1, y4)))))))))
noncomputable def q2o {R : Type} (x : tI) (k : t2 → Option R) : Option R := (chart_Check_L0_run x.1 x.2.2.1 x.2.2.2.1 (x.2.1, x.2.2.2.2)).bind (Sum.elim (fun y0 => k (.inl (y0.1, y0.2.1, y0.2.2.1, y0.2.2.2.1, x.2.2.2.1, y0.2.2.2.2))) (Sum.elim (fun y1 => k (.inr (.inl (y1.1, y1.2.1, y1.2.2.1, y1.2.2.2.1, x.2.2.2.1, y1.2.2.2.2)))) (Sum.elim (fun y2 => k (.inr (.inr (.inl (y2.1, y2.2.1, y2.2.2.1, y2.2.2.2.1, x.2.2.2.1, y2.2.2.2.2.1, y2.2.2.2.2.2.1, y2.2.2.2.2.2.2))))) (Sum.elim (fun y3 => k (.inr (.inr (.inr (.inl (y3.1, y3.2.1, y3.2.2.1, y3.2.2.2.1, x.2.2.2.1, y3.2.2.2.2.1, y3.2.2.2.2.2.1, y3.2.2.2.2.2.2)))))) (fun y4 => k (.inr (.inr (.inr (.inr (x.2.2.2.1, y4))))))))))
def q2p (x : tI) (v : (Int × t1i)) : tI := (x.1, v.1, x.2.2.1, x.2.2.2.1, v.2)
theorem q2q (x : tI) : LE.step X q2m q2b q2d 12 x = chart_Check_L0_step x.1 x.2.2.1 x.2.2.2.1 x.2.1 x.2.2.2.2 (fun w0 w1 => (Sum.inl (x.1, w0, x.2.2.1, x.2.2.2.1, w1))) (fun p0 p1 p2 p3 p4 => (Sum.inr (.inl (p0, p1, p2, p3, x.2.2.2.1, p4)))) (fun p0 p1 p2 p3 p4 => (Sum.inr (.inr (.inl (p0, p1, p2, p3, x.2.2.2.1, p4))))) (fun p0 p1 p2 p3 p4 p5 p6 => (Sum.inr (.inr (.inr (.inl (p0, p1, p2, p3, x.2.2.2.1, p4, p5, p6)))))) (fun p0 p1 p2 p3 p4 p5 p6 => (Sum.inr (.inr (.inr (.inr (.inl (p0, p1, p2, p3, x.2.2.2.1, p4, p5, p6))))))) (fun p0 => (Sum.inr (.inr (.inr (.inr (.inr (x.2.2.2.1, p0))))))):=by kernel_rfl
theorem q2s {R : Type} (x : tI) (k : t2 → Option R) (r : R) (h : q2o x k = some r) : ∃ o, Runs (LE.step X q2m q2b q2d 12) x o ∧ k o = some r := by
  obtain ⟨o, h1, h2⟩ := some_bind h
  exact ⟨q2n x o, small_ok (st := fun (x : tI) => chart_Check_L0_st x.1 x.2.2.1 x.2.2.2.1) (prj := fun x => (x.2.1, x.2.2.2.2)) (emb := q2p) (embO := q2n) (fun x => (q2q x).trans (by unfold chart_Check_L0_st chart_Check_L0_step; simp only [map_cond,map_bindO,map_elim,Option.map_some,Option.map_none]; rfl)) (fun _ _ => rfl) (fun _ _ => rfl) (fun _ _ _ => rfl) (fun _ _ _ => rfl) (fun _ => rfl) (runOf_some.1 h1), by
    first
    | exact h2
    | (rcases o with o | o | o | o | o <;> exact h2)⟩
noncomputable def q2t {R : Type} : Loops S R := LE.ls X q2m q2o q2d
theorem q2u {R : Type} : LoopsOk X (q2t (R := R)) := loop_ok xok q2c (e := q2m) q2e q2s q2e
def q2v : Key := ⟨[60], 60, none, [0, 0, 1, 0, 1, 1, 1, 1, 1, 1], 2, 26⟩
def q2w : StT S := ⟨(N (N L none (N L none v1l)) none (N (N L none (N (N L none (N L (some (.sl (.st 7) [])) L)) none L)) none (N L vk v1l))), o1b, 26⟩
def q2x : Way S := ⟨.ret, ⟨v1c, oW, 58⟩, [.int, .int, .int, (.st 8), (.mp .str (.int .i64)), (.st 7)]⟩
def q2y : Way S := ⟨.ret, ⟨v1c, oW, 63⟩, [.int, .int, .int, (.st 8), (.mp .str (.int .i64)), (.st 7)]⟩
def q2z : Way S := ⟨.ret, ⟨v1c, oW, 67⟩, [.int, .int, .int, (.st 8), (.mp .str (.int .i64)), (.st 7)]⟩
def q2A : Way S := ⟨(.exit 2), ⟨L, o1b, 27⟩, [(.st 8), (.mp .str (.int .i64))]⟩
def q2B : LE S := ⟨q2v, q2w, [.int, (.lst (.st 7)), .int, (.st 8), (.mp .str (.int .i64))], [q2x, q2y, q2z, q2A]⟩
def q2C (x : tJ) : (tR ⊕ tR ⊕ tR ⊕ t1i) → t7 := Sum.elim (fun y0 => (.inl (y0.1, y0.2.1, y0.2.2.1, x.2.2.2.1, y0.2.2.2.1, y0.2.2.2.2))) (Sum.elim (fun y1 => (.inr (.inl (y1.1, y1.2.1, y1.2.2.1, x.2.2.2.1, y1.2.2.2.1, y1.2.2.2.2)))) (Sum.elim (fun y2 => (.inr (.inr (.inl (y2.1, y2.2.1, y2.2.2.1, x.2.2.2.1, y2.2.2.2.1, y2.2.2.2.2))))) (fun y3 => (.inr (.inr (.inr (x.2.2.2.1, y3)))))))
noncomputable def q2D {R : Type} (x : tJ) (k : t7 → Option R) : Option R := (chart_Check_L1_run x.1 x.2.1 x.2.2.2.1 (x.2.2.1, x.2.2.2.2)).bind (Sum.elim (fun y0 => k (.inl (y0.1, y0.2.1, y0.2.2.1, x.2.2.2.1, y0.2.2.2.1, y0.2.2.2.2))) (Sum.elim (fun y1 => k (.inr (.inl (y1.1, y1.2.1, y1.2.2.1, x.2.2.2.1, y1.2.2.2.1, y1.2.2.2.2)))) (Sum.elim (fun y2 => k (.inr (.inr (.inl (y2.1, y2.2.1, y2.2.2.1, x.2.2.2.1, y2.2.2.2.1, y2.2.2.2.2))))) (fun y3 => k (.inr (.inr (.inr (x.2.2.2.1, y3))))))))
def q2E (x : tJ) (v : (Int × t1i)) : tJ := (x.1, x.2.1, v.1, x.2.2.2.1, v.2)
theorem q2F (x : tJ) : LE.step X q2B q2b q2t 12 x = chart_Check_L1_step x.1 x.2.1 x.2.2.2.1 x.2.2.1 x.2.2.2.2 (fun w0 w1 => (Sum.inl (x.1, x.2.1, w0, x.2.2.2.1, w1))) (fun p0 p1 p2 p3 p4 => (Sum.inr (.inl (p0, p1, p2, x.2.2.2.1, p3, p4)))) (fun p0 p1 p2 p3 p4 => (Sum.inr (.inr (.inl (p0, p1, p2, x.2.2.2.1, p3, p4))))) (fun p0 p1 p2 p3 p4 => (Sum.inr (.inr (.inr (.inl (p0, p1, p2, x.2.2.2.1, p3, p4)))))) (fun p0 => (Sum.inr (.inr (.inr (.inr (x.2.2.2.1, p0)))))):=by kernel_rfl
theorem q2H {R : Type} (x : tJ) (k : t7 → Option R) (r : R) (h : q2D x k = some r) : ∃ o, Runs (LE.step X q2B q2b q2t 12) x o ∧ k o = some r := by
  obtain ⟨o, h1, h2⟩ := some_bind h
  exact ⟨q2C x o, small_ok (st := fun (x : tJ) => chart_Check_L1_st x.1 x.2.1 x.2.2.2.1) (prj := fun x => (x.2.2.1, x.2.2.2.2)) (emb := q2E) (embO := q2C) (fun x => (q2F x).trans (by unfold chart_Check_L1_st chart_Check_L1_step; simp only [map_cond,map_bindO,map_elim,Option.map_some,Option.map_none]; rfl)) (fun _ _ => rfl) (fun _ _ => rfl) (fun _ _ _ => rfl) (fun _ _ _ => rfl) (fun _ => rfl) (runOf_some.1 h1), by
    first
    | exact h2
    | (rcases o with o | o | o | o <;> exact h2)⟩
noncomputable def q2I {R : Type} : Loops S R := LE.ls X q2B q2D q2t
theorem q2J {R : Type} : LoopsOk X (q2I (R := R)) := loop_ok xok q2c (e := q2B) q2u q2H q2u
theorem q2K (x0 : CtChart) : evFn X q2b [(.st 8)] [(.int .i64), (.int .i64), (.int .i64)] q2I 12 60 (x0, ()) = chart_Check x0:=by kernel_rfl
noncomputable def q2L : F7 S := ⟨[(.st 8)], [(.int .i64), (.int .i64), (.int .i64)], fun xs => chart_Check xs.1⟩
theorem q2M : FSOk X 60 q2L := fsOk_eq (evFn_ok xok q2c q2J 12 60) fun xs _ h => (q2K xs.1).trans h
noncomputable def q2N : List (Nat × F7 S) := []
theorem q2O : TabOk X (q2N) := trivial
abbrev q2P {R : Type} : Loops S R := noLoops
theorem q2Q {R : Type} : LoopsOk X (q2P (R := R)) := noLoops_ok X
def q2R : Key := ⟨[127, 2, 1, 102, 2, 1, 62], 127, none, [0, 0, 1, 0, 1], 0, 17⟩
def q2S : StT S := ⟨(N (N (N (N L vF L) none L) (some (.fn (.func 103) [] [(.ptr 0 0), (.ptr 1 0)])) L) vy v1i), (N (N L os L) os L), 17⟩
def q2T : Way S := ⟨.ret, ⟨v1j, (N (N L os L) os L), 38⟩, [.int, .int, .int]⟩
def q2U : Way S := ⟨(.exit 0), ⟨L, (N (N L os L) os L), 18⟩, [.int, .int]⟩
def q2V : LE S := ⟨q2R, q2S, [.int, (.lst (.int .i64)), .int, .int, .int], [q2T, q2U]⟩
def q2W (x : t19) : (Int ⊕ Unit) → t1d := Sum.elim (fun y0 => (.inl (y0, x.2.2.2.1, x.2.2.2.2))) (fun y1 => (.inr (x.2.2.2.1, x.2.2.2.2)))
noncomputable def q2X {R : Type} (x : t19) (k : t1d → Option R) : Option R := (swing_outside_L0_run x.1 x.2.1 x.2.2.2.1 x.2.2.2.2 x.2.2.1).bind (Sum.elim (fun y0 => k (.inl (y0, x.2.2.2.1, x.2.2.2.2))) (fun y1 => k (.inr (x.2.2.2.1, x.2.2.2.2))))
def q2Y (x : t19) (v : Int) : t19 := (x.1, x.2.1, v, x.2.2.2.1, x.2.2.2.2)
theorem q2Z (x : t19) : LE.step X q2V q2N q2P 12 x = swing_outside_L0_step x.1 x.2.1 x.2.2.2.1 x.2.2.2.2 x.2.2.1 (fun w0 => (Sum.inl (x.1, x.2.1, w0, x.2.2.2.1, x.2.2.2.2))) (fun p0 => (Sum.inr (.inl (p0, x.2.2.2.1, x.2.2.2.2)))) (Sum.inr (.inr (x.2.2.2.1, x.2.2.2.2))):=by kernel_rfl
theorem q31 {R : Type} (x : t19) (k : t1d → Option R) (r : R) (h : q2X x k = some r) : ∃ o, Runs (LE.step X q2V q2N q2P 12) x o ∧ k o = some r := by
  obtain ⟨o, h1, h2⟩ := some_bind h
  exact ⟨q2W x o, small_ok (st := fun (x : t19) => swing_outside_L0_st x.1 x.2.1 x.2.2.2.1 x.2.2.2.2) (prj := fun x => x.2.2.1) (emb := q2Y) (embO := q2W) (fun x => (q2Z x).trans (by unfold swing_outside_L0_st swing_outside_L0_step; simp only [map_cond,map_bindO,map_elim,Option.map_some,Option.map_none]; rfl)) (fun _ _ => rfl) (fun _ _ => rfl) (fun _ _ _ => rfl) (fun _ _ _ => rfl) (fun _ => rfl) (runOf_some.1 h1), by
    first
    | exact h2
    | (rcases o with o | o <;> exact h2)⟩
noncomputable def q32 {R : Type} : Loops S R := LE.ls X q2V q2X q2P
theorem q33 {R : Type} : LoopsOk X (q32 (R := R)) := loop_ok xok q2O (e := q2V) q2Q q31 q2Q
theorem q34 (x0 : Int) (x1 : Int) (x2 : List Int) : evFn X q2N [(.int .i64), (.int .i64), (.sl (.int .i64))] [.bool] q32 12 62 (x0, x1, x2, ()) = swing_outside x0 x1 x2:=by kernel_rfl
noncomputable def q35 : F7 S := ⟨[(.int .i64), (.int .i64), (.sl (.int .i64))], [.bool], fun xs => swing_outside xs.1 xs.2.1 xs.2.2.1⟩
theorem q36 : FSOk X 62 q35 := fsOk_eq (evFn_ok xok q2O q33 12 62) fun xs _ h => (q34 xs.1 xs.2.1 xs.2.2.1).trans h
noncomputable def q37 : List (Nat × F7 S) := [(62, q35)]
theorem q38 : TabOk X (q37) := ⟨q36, trivial⟩
abbrev q39 {R : Type} : Loops S R := noLoops
theorem q3a {R : Type} : LoopsOk X (q39 (R := R)) := noLoops_ok X
theorem q3b (x0 : CtBox) : evFn X q37 [(.st 6)] [(.int .i64)] q39 12 61 (x0, ()) = swing_box x0:=by kernel_rfl
noncomputable def q3c : F7 S := ⟨[(.st 6)], [(.int .i64)], fun xs => swing_box xs.1⟩
theorem q3d : FSOk X 61 q3c := fsOk_eq (evFn_ok xok q38 q3a 12 61) fun xs _ h => (q3b xs.1).trans h
noncomputable def q3e : List (Nat × F7 S) := [(60, q2L), (61, q3c), (62, q35)]
theorem q3f : TabOk X (q3e) := ⟨q2M, q3d, q36, trivial⟩
abbrev q3g {R : Type} : Loops S R := noLoops
theorem q3h {R : Type} : LoopsOk X (q3g (R := R)) := noLoops_ok X
theorem q3i (x0 : SgMooring) : evFn X q3e [(.st 9)] [(.int .i64), (.int .i64)] q3g 12 17 (x0, ()) = swing_Check x0:=by kernel_rfl
noncomputable def q3j : F7 S := ⟨[(.st 9)], [(.int .i64), (.int .i64)], fun xs => swing_Check xs.1⟩
theorem q3k : FSOk X 17 q3j := fsOk_eq (evFn_ok xok q3f q3h 12 17) fun xs _ h => (q3i xs.1).trans h
noncomputable def q3l : List (Nat × F7 S) := []
theorem q3m : TabOk X (q3l) := trivial
abbrev q3n {R : Type} : Loops S R := noLoops
theorem q3o {R : Type} : LoopsOk X (q3n (R := R)) := noLoops_ok X
theorem q3p (x0 : Int) (x1 : Int) (x2 : Int) : evFn X q3l [(.int .i64), (.int .i64), (.int .i64)] [.bool] q3n 12 113 (x0, x1, x2, ()) = ref01_in x0 x1 x2:=by kernel_rfl
noncomputable def q3q : F7 S := ⟨[(.int .i64), (.int .i64), (.int .i64)], [.bool], fun xs => ref01_in xs.1 xs.2.1 xs.2.2.1⟩
theorem q3r : FSOk X 113 q3q := fsOk_eq (evFn_ok xok q3m q3o 12 113) fun xs _ h => (q3p xs.1 xs.2.1 xs.2.2.1).trans h
noncomputable def q3s : List (Nat × F7 S) := [(113, q3q)]
theorem q3t : TabOk X (q3s) := ⟨q3r, trivial⟩
abbrev q3u {R : Type} : Loops S R := noLoops
theorem q3v {R : Type} : LoopsOk X (q3u (R := R)) := noLoops_ok X
def q3w : Key := ⟨[128], 128, none, [0, 0, 1, 0, 1, 1], 0, 6⟩
def q3x : StT S := ⟨(N (N (N L vF L) none L) vx L), L, 6⟩
def q3y : Way S := ⟨.ret, ⟨(N L none (N L vE L)), L, 43⟩, [.bool]⟩
def q3z : Way S := ⟨(.exit 0), ⟨L, L, 10⟩, []⟩
def q3A : LE S := ⟨q3w, q3x, [.int, .str], [q3y, q3z]⟩
def q3B (x : (Int × ByteArray)) : (Bool ⊕ Unit) → (Bool ⊕ Unit) := Sum.elim (fun y0 => (.inl y0)) (fun y1 => (.inr ()))
noncomputable def q3C {R : Type} (x : (Int × ByteArray)) (k : (Bool ⊕ Unit) → Option R) : Option R := (ref01_Name_L0_run x.2 x.1).bind (Sum.elim (fun y0 => k (.inl y0)) (fun y1 => k (.inr ())))
def q3D (x : (Int × ByteArray)) (v : Int) : (Int × ByteArray) := (v, x.2)
theorem q3E (x : (Int × ByteArray)) : LE.step X q3A q3s q3u 12 x = ref01_Name_L0_step x.2 x.1 (fun w0 => (Sum.inl (w0, x.2))) (fun p0 => (Sum.inr (.inl p0))) (Sum.inr (.inr ())):=by kernel_rfl
theorem q3G {R : Type} (x : (Int × ByteArray)) (k : (Bool ⊕ Unit) → Option R) (r : R) (h : q3C x k = some r) : ∃ o, Runs (LE.step X q3A q3s q3u 12) x o ∧ k o = some r := by
  obtain ⟨o, h1, h2⟩ := some_bind h
  exact ⟨q3B x o, small_ok (st := fun (x : (Int × ByteArray)) => ref01_Name_L0_st x.2) (prj := fun x => x.1) (emb := q3D) (embO := q3B) (fun x => (q3E x).trans (by unfold ref01_Name_L0_st ref01_Name_L0_step; simp only [map_cond,map_bindO,map_elim,Option.map_some,Option.map_none]; rfl)) (fun _ _ => rfl) (fun _ _ => rfl) (fun _ _ _ => rfl) (fun _ _ _ => rfl) (fun _ => rfl) (runOf_some.1 h1), by
    first
    | exact h2
    | (rcases o with o | o <;> exact h2)⟩
noncomputable def q3H {R : Type} : Loops S R := LE.ls X q3A q3C q3u
theorem q3I {R : Type} : LoopsOk X (q3H (R := R)) := loop_ok xok q3t (e := q3A) q3v q3G q3v
theorem q3J (x0 : ByteArray) : evFn X q3s [.str] [.bool] q3H 12 128 (x0, ()) = ref01_Name x0:=by kernel_rfl
noncomputable def q3K : F7 S := ⟨[.str], [.bool], fun xs => ref01_Name xs.1⟩
theorem q3L : FSOk X 128 q3K := fsOk_eq (evFn_ok xok q3t q3I 12 128) fun xs _ h => (q3J xs.1).trans h
noncomputable def q3M : List (Nat × F7 S) := []
theorem q3N : TabOk X (q3M) := trivial
abbrev q3O {R : Type} : Loops S R := noLoops
theorem q3P {R : Type} : LoopsOk X (q3O (R := R)) := noLoops_ok X
def q3Q : Key := ⟨[129], 129, none, [0, 0, 1, 0, 1], 0, 2⟩
def q3R : StT S := ⟨(N (N L vx (N L vF L)) (some (.sl .str [])) L), L, 2⟩
def q3S : Way S := ⟨.ret, ⟨v1j, L, 14⟩, [.int]⟩
def q3T : Way S := ⟨(.exit 0), ⟨L, L, 6⟩, []⟩
def q3U : LE S := ⟨q3Q, q3R, [.str, .int, (.lst .str)], [q3S, q3T]⟩
def q3V (x : t1a) : (Int ⊕ Unit) → (Int ⊕ Unit) := Sum.elim (fun y0 => (.inl y0)) (fun y1 => (.inr ()))
noncomputable def q3W {R : Type} (x : t1a) (k : (Int ⊕ Unit) → Option R) : Option R := (ref01_Place_L0_run x.1 x.2.2 x.2.1).bind (Sum.elim (fun y0 => k (.inl y0)) (fun y1 => k (.inr ())))
def q3X (x : t1a) (v : Int) : t1a := (x.1, v, x.2.2)
theorem q3Y (x : t1a) : LE.step X q3U q3M q3O 12 x = ref01_Place_L0_step x.1 x.2.2 x.2.1 (fun w0 => (Sum.inl (x.1, w0, x.2.2))) (fun p0 => (Sum.inr (.inl p0))) (Sum.inr (.inr ())):=by kernel_rfl
theorem q40 {R : Type} (x : t1a) (k : (Int ⊕ Unit) → Option R) (r : R) (h : q3W x k = some r) : ∃ o, Runs (LE.step X q3U q3M q3O 12) x o ∧ k o = some r := by
  obtain ⟨o, h1, h2⟩ := some_bind h
  exact ⟨q3V x o, small_ok (st := fun (x : t1a) => ref01_Place_L0_st x.1 x.2.2) (prj := fun x => x.2.1) (emb := q3X) (embO := q3V) (fun x => (q3Y x).trans (by unfold ref01_Place_L0_st ref01_Place_L0_step; simp only [map_cond,map_bindO,map_elim,Option.map_some,Option.map_none]; rfl)) (fun _ _ => rfl) (fun _ _ => rfl) (fun _ _ _ => rfl) (fun _ _ _ => rfl) (fun _ => rfl) (runOf_some.1 h1), by
    first
    | exact h2
    | (rcases o with o | o <;> exact h2)⟩
noncomputable def q41 {R : Type} : Loops S R := LE.ls X q3U q3W q3O
theorem q42 {R : Type} : LoopsOk X (q41 (R := R)) := loop_ok xok q3N (e := q3U) q3P q40 q3P
theorem q43 (x0 : List ByteArray) (x1 : ByteArray) : evFn X q3M [(.sl .str), .str] [(.int .i64)] q41 12 129 (x0, x1, ()) = ref01_Place x0 x1:=by kernel_rfl
noncomputable def q44 : F7 S := ⟨[(.sl .str), .str], [(.int .i64)], fun xs => ref01_Place xs.1 xs.2.1⟩
theorem q45 : FSOk X 129 q44 := fsOk_eq (evFn_ok xok q3N q42 12 129) fun xs _ h => (q43 xs.1 xs.2.1).trans h
noncomputable def q46 : List (Nat × F7 S) := [(128, q3K), (129, q44)]
theorem q47 : TabOk X (q46) := ⟨q3L, q45, trivial⟩
abbrev q48 {R : Type} : Loops S R := noLoops
theorem q49 {R : Type} : LoopsOk X (q48 (R := R)) := noLoops_ok X
theorem q4a (x0 : ByteArray) (x1 : List ByteArray) : evFn X q46 [.str, (.sl .str)] [(.int .i64)] q48 12 104 (x0, x1, ()) = ref01_Fresh x0 x1:=by kernel_rfl
noncomputable def q4b : F7 S := ⟨[.str, (.sl .str)], [(.int .i64)], fun xs => ref01_Fresh xs.1 xs.2.1⟩
theorem q4c : FSOk X 104 q4b := fsOk_eq (evFn_ok xok q47 q49 12 104) fun xs _ h => (q4a xs.1 xs.2.1).trans h
noncomputable def q4d : List (Nat × F7 S) := [(113, q3q)]
theorem q4e : TabOk X (q4d) := ⟨q3r, trivial⟩
abbrev q4f {R : Type} : Loops S R := noLoops
theorem q4g {R : Type} : LoopsOk X (q4f (R := R)) := noLoops_ok X
theorem q4h (x0 : Point) (x1 : Int) : evFn X q4d [(.st 2), (.int .i64)] [.bool] q4f 12 78 (x0, x1, ()) = ref01_Within x0 x1:=by kernel_rfl
noncomputable def q4i : F7 S := ⟨[(.st 2), (.int .i64)], [.bool], fun xs => ref01_Within xs.1 xs.2.1⟩
theorem q4j : FSOk X 78 q4i := fsOk_eq (evFn_ok xok q4e q4g 12 78) fun xs _ h => (q4h xs.1 xs.2.1).trans h
noncomputable def q4k : List (Nat × F7 S) := [(113, q3q)]
theorem q4l : TabOk X (q4k) := ⟨q3r, trivial⟩
abbrev q4m {R : Type} : Loops S R := noLoops
theorem q4n {R : Type} : LoopsOk X (q4m (R := R)) := noLoops_ok X
def q4o : Key := ⟨[105], 105, none, [0, 0, 1, 0, 1, 1], 0, 6⟩
def q4p : StT S := ⟨(N (N (N L vF L) none L) (some (.sl (.st 3) [])) L), L, 6⟩
def q4q : Way S := ⟨.ret, ⟨(N L none (N L vF L)), L, 27⟩, [.int]⟩
def q4r : Way S := ⟨.ret, ⟨(N L none (N L vF L)), L, 43⟩, [.int]⟩
def q4s : Way S := ⟨(.exit 0), ⟨L, L, 10⟩, []⟩
def q4t : LE S := ⟨q4o, q4p, [.int, (.lst (.st 3))], [q4q, q4r, q4s]⟩
def q4u (x : (Int × (List CtPaint))) : (Int ⊕ Int ⊕ Unit) → (Int ⊕ Int ⊕ Unit) := Sum.elim (fun y0 => (.inl y0)) (Sum.elim (fun y1 => (.inr (.inl y1))) (fun y2 => (.inr (.inr ()))))
noncomputable def q4v {R : Type} (x : (Int × (List CtPaint))) (k : (Int ⊕ Int ⊕ Unit) → Option R) : Option R := (ref01_paints_L0_run x.2 x.1).bind (Sum.elim (fun y0 => k (.inl y0)) (Sum.elim (fun y1 => k (.inr (.inl y1))) (fun y2 => k (.inr (.inr ())))))
def q4w (x : (Int × (List CtPaint))) (v : Int) : (Int × (List CtPaint)) := (v, x.2)
theorem q4x (x : (Int × (List CtPaint))) : LE.step X q4t q4k q4m 12 x = ref01_paints_L0_step x.2 x.1 (fun w0 => (Sum.inl (w0, x.2))) (fun p0 => (Sum.inr (.inl p0))) (fun p0 => (Sum.inr (.inr (.inl p0)))) (Sum.inr (.inr (.inr ()))):=by kernel_rfl
theorem q4z {R : Type} (x : (Int × (List CtPaint))) (k : (Int ⊕ Int ⊕ Unit) → Option R) (r : R) (h : q4v x k = some r) : ∃ o, Runs (LE.step X q4t q4k q4m 12) x o ∧ k o = some r := by
  obtain ⟨o, h1, h2⟩ := some_bind h
  exact ⟨q4u x o, small_ok (st := fun (x : (Int × (List CtPaint))) => ref01_paints_L0_st x.2) (prj := fun x => x.1) (emb := q4w) (embO := q4u) (fun x => (q4x x).trans (by unfold ref01_paints_L0_st ref01_paints_L0_step; simp only [map_cond,map_bindO,map_elim,Option.map_some,Option.map_none]; rfl)) (fun _ _ => rfl) (fun _ _ => rfl) (fun _ _ _ => rfl) (fun _ _ _ => rfl) (fun _ => rfl) (runOf_some.1 h1), by
    first
    | exact h2
    | (rcases o with o | o | o <;> exact h2)⟩
noncomputable def q4A {R : Type} : Loops S R := LE.ls X q4t q4v q4m
theorem q4B {R : Type} : LoopsOk X (q4A (R := R)) := loop_ok xok q4l (e := q4t) q4n q4z q4n
theorem q4C (x0 : List CtPaint) : evFn X q4k [(.sl (.st 3))] [(.int .i64)] q4A 12 105 (x0, ()) = ref01_paints x0:=by kernel_rfl
noncomputable def q4D : F7 S := ⟨[(.sl (.st 3))], [(.int .i64)], fun xs => ref01_paints xs.1⟩
theorem q4E : FSOk X 105 q4D := fsOk_eq (evFn_ok xok q4l q4B 12 105) fun xs _ h => (q4C xs.1).trans h
noncomputable def q4F : List (Nat × F7 S) := [(113, q3q)]
theorem q4G : TabOk X (q4F) := ⟨q3r, trivial⟩
abbrev q4H {R : Type} : Loops S R := noLoops
theorem q4I {R : Type} : LoopsOk X (q4H (R := R)) := noLoops_ok X
def q4J : Key := ⟨[96], 96, none, [0, 0, 1, 0, 1, 1], 0, 3⟩
def q4K : StT S := ⟨(N (N (N (N L vF L) none L) vF L) (some (.sl (.st 5) [])) (N (N (N L vF L) none L) vF L)), L, 3⟩
def q4L : Way S := ⟨.ret, ⟨(N L none (N L none (N L vF L))), L, 28⟩, [.int]⟩
def q4M : Way S := ⟨(.exit 0), ⟨v1d, L, 7⟩, [.int]⟩
def q4N : LE S := ⟨q4J, q4K, [.int, .int, (.lst (.st 5)), .int, .int], [q4L, q4M]⟩
def q4O (x : t18) : (Int ⊕ Int) → (Int ⊕ Int) := Sum.elim (fun y0 => (.inl y0)) (fun y1 => (.inr y1))
noncomputable def q4P {R : Type} (x : t18) (k : (Int ⊕ Int) → Option R) : Option R := (ref01_Spread_L0_run x.2.1 x.2.2.1 x.2.2.2.2 (x.1, x.2.2.2.1)).bind (Sum.elim (fun y0 => k (.inl y0)) (fun y1 => k (.inr y1)))
def q4Q (x : t18) (v : (Int × Int)) : t18 := (v.1, x.2.1, x.2.2.1, v.2, x.2.2.2.2)
theorem q4R (x : t18) : LE.step X q4N q4F q4H 12 x = ref01_Spread_L0_step x.2.1 x.2.2.1 x.2.2.2.2 x.1 x.2.2.2.1 (fun w0 w1 => (Sum.inl (w0, x.2.1, x.2.2.1, w1, x.2.2.2.2))) (fun p0 => (Sum.inr (.inl p0))) (fun p0 => (Sum.inr (.inr p0))):=by kernel_rfl
theorem q4T {R : Type} (x : t18) (k : (Int ⊕ Int) → Option R) (r : R) (h : q4P x k = some r) : ∃ o, Runs (LE.step X q4N q4F q4H 12) x o ∧ k o = some r := by
  obtain ⟨o, h1, h2⟩ := some_bind h
  exact ⟨q4O x o, small_ok (st := fun (x : t18) => ref01_Spread_L0_st x.2.1 x.2.2.1 x.2.2.2.2) (prj := fun x => (x.1, x.2.2.2.1)) (emb := q4Q) (embO := q4O) (fun x => (q4R x).trans (by unfold ref01_Spread_L0_st ref01_Spread_L0_step; simp only [map_cond,map_bindO,map_elim,Option.map_some,Option.map_none]; rfl)) (fun _ _ => rfl) (fun _ _ => rfl) (fun _ _ _ => rfl) (fun _ _ _ => rfl) (fun _ => rfl) (runOf_some.1 h1), by
    first
    | exact h2
    | (rcases o with o | o <;> exact h2)⟩
noncomputable def q4U {R : Type} : Loops S R := LE.ls X q4N q4P q4H
theorem q4V {R : Type} : LoopsOk X (q4U (R := R)) := loop_ok xok q4G (e := q4N) q4I q4T q4I
theorem q4W (x0 : List Span) (x1 : Int) (x2 : Int) : evFn X q4F [(.sl (.st 5)), (.int .i64), (.int .i64)] [(.int .i64)] q4U 12 96 (x0, x1, x2, ()) = ref01_Spread x0 x1 x2:=by kernel_rfl
noncomputable def q4X : F7 S := ⟨[(.sl (.st 5)), (.int .i64), (.int .i64)], [(.int .i64)], fun xs => ref01_Spread xs.1 xs.2.1 xs.2.2.1⟩
theorem q4Y : FSOk X 96 q4X := fsOk_eq (evFn_ok xok q4G q4V 12 96) fun xs _ h => (q4W xs.1 xs.2.1 xs.2.2.1).trans h
noncomputable def q4Z : List (Nat × F7 S) := [(96, q4X)]
theorem q50 : TabOk X (q4Z) := ⟨q4Y, trivial⟩
abbrev q51 {R : Type} : Loops S R := noLoops
theorem q52 {R : Type} : LoopsOk X (q51 (R := R)) := noLoops_ok X
theorem q53 (x0 : CtBox) (x1 : Int) (x2 : Int) : evFn X q4Z [(.st 6), (.int .i64), (.int .i64)] [(.int .i64)] q51 12 54 (x0, x1, x2, ()) = ref01_Box x0 x1 x2:=by kernel_rfl
noncomputable def q54 : F7 S := ⟨[(.st 6), (.int .i64), (.int .i64)], [(.int .i64)], fun xs => ref01_Box xs.1 xs.2.1 xs.2.2.1⟩
theorem q55 : FSOk X 54 q54 := fsOk_eq (evFn_ok xok q50 q52 12 54) fun xs _ h => (q53 xs.1 xs.2.1 xs.2.2.1).trans h
noncomputable def q56 : List (Nat × F7 S) := []
theorem q57 : TabOk X (q56) := trivial
abbrev q58 {R : Type} : Loops S R := noLoops
theorem q59 {R : Type} : LoopsOk X (q58 (R := R)) := noLoops_ok X
theorem q5a (x0 : Point) (x1 : Point) : evFn X q56 [(.st 2), (.st 2)] [(.st 2)] q58 12 93 (x0, x1, ()) = ref01_Less x0 x1:=by kernel_rfl
noncomputable def q5b : F7 S := ⟨[(.st 2), (.st 2)], [(.st 2)], fun xs => ref01_Less xs.1 xs.2.1⟩
theorem q5c : FSOk X 93 q5b := fsOk_eq (evFn_ok xok q57 q59 12 93) fun xs _ h => (q5a xs.1 xs.2.1).trans h
noncomputable def q5d : List (Nat × F7 S) := []
theorem q5e : TabOk X (q5d) := trivial
abbrev q5f {R : Type} : Loops S R := noLoops
theorem q5g {R : Type} : LoopsOk X (q5f (R := R)) := noLoops_ok X
theorem q5h (x0 : Point) (x1 : Point) : evFn X q5d [(.st 2), (.st 2)] [(.int .i64)] q5f 12 92 (x0, x1, ()) = ref01_Left x0 x1:=by kernel_rfl
noncomputable def q5i : F7 S := ⟨[(.st 2), (.st 2)], [(.int .i64)], fun xs => ref01_Left xs.1 xs.2.1⟩
theorem q5j : FSOk X 92 q5i := fsOk_eq (evFn_ok xok q5e q5g 12 92) fun xs _ h => (q5h xs.1 xs.2.1).trans h
noncomputable def q5k : List (Nat × F7 S) := [(93, q5b), (92, q5i)]
theorem q5l : TabOk X (q5k) := ⟨q5c, q5j, trivial⟩
abbrev q5m {R : Type} : Loops S R := noLoops
theorem q5n {R : Type} : LoopsOk X (q5m (R := R)) := noLoops_ok X
def q5o : Key := ⟨[130], 130, none, [0, 0, 1, 1, 0, 0, 1, 0, 0, 1, 0, 1], 2, 13⟩
def q5p : StT S := ⟨(N (N (N L vF L) none (N L vF L)) vD (N (N L vF L) none L)), L, 13⟩
def q5q : Way S := ⟨.ret, ⟨(N L none (N L vE L)), L, 48⟩, [.bool]⟩
def q5r : Way S := ⟨(.exit 2), ⟨(N (N (N L vF L) none L) vD L), L, 17⟩, [.int, (.lst (.st 2))]⟩
def q5s : LE S := ⟨q5o, q5p, [.int, .int, (.lst (.st 2)), .int], [q5q, q5r]⟩
def q5t (x : t1g) : (Bool ⊕ Unit) → (Bool ⊕ (Int × (List Point))) := Sum.elim (fun y0 => (.inl y0)) (fun y1 => (.inr (x.1, x.2.2.1)))
noncomputable def q5u {R : Type} (x : t1g) (k : (Bool ⊕ (Int × (List Point))) → Option R) : Option R := (ref01_round_L1_run x.1 x.2.2.1 x.2.2.2 x.2.1).bind (Sum.elim (fun y0 => k (.inl y0)) (fun y1 => k (.inr (x.1, x.2.2.1))))
def q5v (x : t1g) (v : Int) : t1g := (x.1, v, x.2.2.1, x.2.2.2)
theorem q5w (x : t1g) : LE.step X q5s q5k q5m 12 x = ref01_round_L1_step x.1 x.2.2.1 x.2.2.2 x.2.1 (fun w0 => (Sum.inl (x.1, w0, x.2.2.1, x.2.2.2))) (fun p0 => (Sum.inr (.inl p0))) (Sum.inr (.inr (x.1, x.2.2.1))):=by kernel_rfl
theorem q5y {R : Type} (x : t1g) (k : (Bool ⊕ (Int × (List Point))) → Option R) (r : R) (h : q5u x k = some r) : ∃ o, Runs (LE.step X q5s q5k q5m 12) x o ∧ k o = some r := by
  obtain ⟨o, h1, h2⟩ := some_bind h
  exact ⟨q5t x o, small_ok (st := fun (x : t1g) => ref01_round_L1_st x.1 x.2.2.1 x.2.2.2) (prj := fun x => x.2.1) (emb := q5v) (embO := q5t) (fun x => (q5w x).trans (by unfold ref01_round_L1_st ref01_round_L1_step; simp only [map_cond,map_bindO,map_elim,Option.map_some,Option.map_none]; rfl)) (fun _ _ => rfl) (fun _ _ => rfl) (fun _ _ _ => rfl) (fun _ _ _ => rfl) (fun _ => rfl) (runOf_some.1 h1), by
    first
    | exact h2
    | (rcases o with o | o <;> exact h2)⟩
noncomputable def q5z {R : Type} : Loops S R := LE.ls X q5s q5u q5m
theorem q5A {R : Type} : LoopsOk X (q5z (R := R)) := loop_ok xok q5l (e := q5s) q5n q5y q5n
def q5B : Key := ⟨[130], 130, none, [0, 0, 1, 0, 1], 0, 2⟩
def q5C : StT S := ⟨(N (N (N L vF L) none L) vD L), L, 2⟩
def q5D : Way S := ⟨.ret, ⟨(N L none (N L vE L)), L, 48⟩, [.bool]⟩
def q5E : Way S := ⟨(.exit 0), ⟨L, L, 6⟩, []⟩
def q5F : LE S := ⟨q5B, q5C, [.int, (.lst (.st 2))], [q5D, q5E]⟩
def q5G (x : (Int × (List Point))) : (Bool ⊕ Unit) → (Bool ⊕ Unit) := Sum.elim (fun y0 => (.inl y0)) (fun y1 => (.inr ()))
noncomputable def q5H {R : Type} (x : (Int × (List Point))) (k : (Bool ⊕ Unit) → Option R) : Option R := (ref01_round_L0_run x.2 x.1).bind (Sum.elim (fun y0 => k (.inl y0)) (fun y1 => k (.inr ())))
def q5I (x : (Int × (List Point))) (v : Int) : (Int × (List Point)) := (v, x.2)
theorem q5J (x : (Int × (List Point))) : LE.step X q5F q5k q5z 12 x = ref01_round_L0_step x.2 x.1 (fun w0 => (Sum.inl (w0, x.2))) (fun p0 => (Sum.inr (.inl p0))) (Sum.inr (.inr ())):=by kernel_rfl
theorem q5L {R : Type} (x : (Int × (List Point))) (k : (Bool ⊕ Unit) → Option R) (r : R) (h : q5H x k = some r) : ∃ o, Runs (LE.step X q5F q5k q5z 12) x o ∧ k o = some r := by
  obtain ⟨o, h1, h2⟩ := some_bind h
  exact ⟨q5G x o, small_ok (st := fun (x : (Int × (List Point))) => ref01_round_L0_st x.2) (prj := fun x => x.1) (emb := q5I) (embO := q5G) (fun x => (q5J x).trans (by unfold ref01_round_L0_st ref01_round_L0_step; simp only [map_cond,map_bindO,map_elim,Option.map_some,Option.map_none]; rfl)) (fun _ _ => rfl) (fun _ _ => rfl) (fun _ _ _ => rfl) (fun _ _ _ => rfl) (fun _ => rfl) (runOf_some.1 h1), by
    first
    | exact h2
    | (rcases o with o | o <;> exact h2)⟩
noncomputable def q5M {R : Type} : Loops S R := LE.ls X q5F q5H q5z
theorem q5N {R : Type} : LoopsOk X (q5M (R := R)) := loop_ok xok q5l (e := q5F) q5A q5L q5A
theorem q5O (x0 : List Point) : evFn X q5k [(.sl (.st 2))] [.bool] q5M 12 130 (x0, ()) = ref01_round x0:=by kernel_rfl
noncomputable def q5P : F7 S := ⟨[(.sl (.st 2))], [.bool], fun xs => ref01_round xs.1⟩
theorem q5Q : FSOk X 130 q5P := fsOk_eq (evFn_ok xok q5l q5N 12 130) fun xs _ h => (q5O xs.1).trans h
noncomputable def q5R : List (Nat × F7 S) := [(113, q3q), (78, q4i), (54, q54), (130, q5P)]
theorem q5S : TabOk X (q5R) := ⟨q3r, q4j, q55, q5Q, trivial⟩
abbrev q5T {R : Type} : Loops S R := noLoops
theorem q5U {R : Type} : LoopsOk X (q5T (R := R)) := noLoops_ok X
def q5V : Key := ⟨[106], 106, none, [0, 0, 1, 0, 1, 1], 0, 8⟩
def q5W : StT S := ⟨(N (N (N L vF L) (some (.ptr 0 0)) L) none L), (N L oh L), 8⟩
def q5X : Way S := ⟨.ret, ⟨(N L none (N L vF L)), (N L oh L), 21⟩, [.int, (.st 7)]⟩
def q5Y : Way S := ⟨(.exit 0), ⟨(N (N L (some (.ptr 0 0)) L) none L), (N L oh L), 13⟩, [(.st 7)]⟩
def q5Z : LE S := ⟨q5V, q5W, [.int, (.st 7)], [q5X, q5Y]⟩
def q60 (x : (Int × CtSand)) : (Int ⊕ Unit) → ((Int × CtSand) ⊕ CtSand) := Sum.elim (fun y0 => (.inl (y0, x.2))) (fun y1 => (.inr x.2))
noncomputable def q61 {R : Type} (x : (Int × CtSand)) (k : ((Int × CtSand) ⊕ CtSand) → Option R) : Option R := (ref01_sand_L0_run x.2 x.1).bind (Sum.elim (fun y0 => k (.inl (y0, x.2))) (fun y1 => k (.inr x.2)))
def q62 (x : (Int × CtSand)) (v : Int) : (Int × CtSand) := (v, x.2)
theorem q63 (x : (Int × CtSand)) : LE.step X q5Z q5R q5T 12 x = ref01_sand_L0_step x.2 x.1 (fun w0 => (Sum.inl (w0, x.2))) (fun p0 => (Sum.inr (.inl (p0, x.2)))) (Sum.inr (.inr x.2)):=by kernel_rfl
theorem q65 {R : Type} (x : (Int × CtSand)) (k : ((Int × CtSand) ⊕ CtSand) → Option R) (r : R) (h : q61 x k = some r) : ∃ o, Runs (LE.step X q5Z q5R q5T 12) x o ∧ k o = some r := by
  obtain ⟨o, h1, h2⟩ := some_bind h
  exact ⟨q60 x o, small_ok (st := fun (x : (Int × CtSand)) => ref01_sand_L0_st x.2) (prj := fun x => x.1) (emb := q62) (embO := q60) (fun x => (q63 x).trans (by unfold ref01_sand_L0_st ref01_sand_L0_step; simp only [map_cond,map_bindO,map_elim,Option.map_some,Option.map_none]; rfl)) (fun _ _ => rfl) (fun _ _ => rfl) (fun _ _ _ => rfl) (fun _ _ _ => rfl) (fun _ => rfl) (runOf_some.1 h1), by
    first
    | exact h2
    | (rcases o with o | o <;> exact h2)⟩
noncomputable def q66 {R : Type} : Loops S R := LE.ls X q5Z q61 q5T
theorem q67 {R : Type} : LoopsOk X (q66 (R := R)) := loop_ok xok q5S (e := q5Z) q5U q65 q5U
theorem q68 (x0 : CtSand) : evFn X q5R [(.st 7)] [(.int .i64)] q66 12 106 (x0, ()) = ref01_sand x0:=by kernel_rfl
noncomputable def q69 : F7 S := ⟨[(.st 7)], [(.int .i64)], fun xs => ref01_sand xs.1⟩
theorem q6a : FSOk X 106 q69 := fsOk_eq (evFn_ok xok q5S q67 12 106) fun xs _ h => (q68 xs.1).trans h
noncomputable def q6b : List (Nat × F7 S) := [(104, q4b), (78, q4i), (105, q4D), (106, q69)]
theorem q6c : TabOk X (q6b) := ⟨q4c, q4j, q4E, q6a, trivial⟩
abbrev q6d {R : Type} : Loops S R := noLoops
theorem q6e {R : Type} : LoopsOk X (q6d (R := R)) := noLoops_ok X
def q6f : Key := ⟨[63], 63, none, [0, 0, 1, 0, 1, 1, 1], 0, 10⟩
def q6g : StT S := ⟨(N (N L (some (.ptr 0 0)) (N L (some (.rs 10 0)) L)) none (N L none (N L vF L))), (N L og o1m), 11⟩
def q6h : Way S := ⟨.ret, ⟨v1c, oO, 52⟩, [.int, .int, .int, (.lst .str), .nat, (.st 4), (.st 8), (.lst .str), .nat]⟩
def q6i : Way S := ⟨.ret, ⟨v1c, oO, 55⟩, [.int, .int, .int, (.lst .str), .nat, (.st 4), (.st 8), (.lst .str), .nat]⟩
def q6j : Way S := ⟨.ret, ⟨v1c, oO, 51⟩, [.int, .int, .int, (.lst .str), .nat, (.st 4), (.st 8), (.lst .str), .nat]⟩
def q6k : Way S := ⟨(.exit 0), ⟨(N (N L (some (.ptr 0 0)) (N L (some (.rs 10 0)) L)) none L), (N L og o1m), 16⟩, [(.st 8), (.lst .str), .nat]⟩
def q6l : LE S := ⟨q6f, q6g, [.int, (.st 8), (.lst .str), .nat], [q6h, q6i, q6j, q6k]⟩
def q6m (x : t14) : (tz ⊕ tz ⊕ tz ⊕ ((List ByteArray) × Nat)) → t3 := Sum.elim (fun y0 => (.inl (y0.1, y0.2.1, y0.2.2.1, y0.2.2.2.1, y0.2.2.2.2.1, y0.2.2.2.2.2.1, x.2.1, y0.2.2.2.2.2.2.1, y0.2.2.2.2.2.2.2))) (Sum.elim (fun y1 => (.inr (.inl (y1.1, y1.2.1, y1.2.2.1, y1.2.2.2.1, y1.2.2.2.2.1, y1.2.2.2.2.2.1, x.2.1, y1.2.2.2.2.2.2.1, y1.2.2.2.2.2.2.2)))) (Sum.elim (fun y2 => (.inr (.inr (.inl (y2.1, y2.2.1, y2.2.2.1, y2.2.2.2.1, y2.2.2.2.2.1, y2.2.2.2.2.2.1, x.2.1, y2.2.2.2.2.2.2.1, y2.2.2.2.2.2.2.2))))) (fun y3 => (.inr (.inr (.inr (x.2.1, y3.1, y3.2)))))))
noncomputable def q6n {R : Type} (x : t14) (k : t3 → Option R) : Option R := (ref01_Check_L0_run x.2.1 (x.1, x.2.2.1, x.2.2.2)).bind (Sum.elim (fun y0 => k (.inl (y0.1, y0.2.1, y0.2.2.1, y0.2.2.2.1, y0.2.2.2.2.1, y0.2.2.2.2.2.1, x.2.1, y0.2.2.2.2.2.2.1, y0.2.2.2.2.2.2.2))) (Sum.elim (fun y1 => k (.inr (.inl (y1.1, y1.2.1, y1.2.2.1, y1.2.2.2.1, y1.2.2.2.2.1, y1.2.2.2.2.2.1, x.2.1, y1.2.2.2.2.2.2.1, y1.2.2.2.2.2.2.2)))) (Sum.elim (fun y2 => k (.inr (.inr (.inl (y2.1, y2.2.1, y2.2.2.1, y2.2.2.2.1, y2.2.2.2.2.1, y2.2.2.2.2.2.1, x.2.1, y2.2.2.2.2.2.2.1, y2.2.2.2.2.2.2.2))))) (fun y3 => k (.inr (.inr (.inr (x.2.1, y3.1, y3.2))))))))
def q6o (x : t14) (v : (Int × (List ByteArray) × Nat)) : t14 := (v.1, x.2.1, v.2.1, v.2.2)
theorem q6p (x : t14) : LE.step X q6l q6b q6d 12 x = ref01_Check_L0_step x.2.1 x.1 x.2.2.1 x.2.2.2 (fun w0 w1 w2 => (Sum.inl (w0, x.2.1, w1, w2))) (fun p0 p1 p2 p3 p4 p5 p6 p7 => (Sum.inr (.inl (p0, p1, p2, p3, p4, p5, x.2.1, p6, p7)))) (fun p0 p1 p2 p3 p4 p5 p6 p7 => (Sum.inr (.inr (.inl (p0, p1, p2, p3, p4, p5, x.2.1, p6, p7))))) (fun p0 p1 p2 p3 p4 p5 p6 p7 => (Sum.inr (.inr (.inr (.inl (p0, p1, p2, p3, p4, p5, x.2.1, p6, p7)))))) (fun p0 p1 => (Sum.inr (.inr (.inr (.inr (x.2.1, p0, p1)))))):=by kernel_rfl
theorem q6r {R : Type} (x : t14) (k : t3 → Option R) (r : R) (h : q6n x k = some r) : ∃ o, Runs (LE.step X q6l q6b q6d 12) x o ∧ k o = some r := by
  obtain ⟨o, h1, h2⟩ := some_bind h
  exact ⟨q6m x o, small_ok (st := fun (x : t14) => ref01_Check_L0_st x.2.1) (prj := fun x => (x.1, x.2.2.1, x.2.2.2)) (emb := q6o) (embO := q6m) (fun x => (q6p x).trans (by unfold ref01_Check_L0_st ref01_Check_L0_step; simp only [map_cond,map_bindO,map_elim,Option.map_some,Option.map_none]; rfl)) (fun _ _ => rfl) (fun _ _ => rfl) (fun _ _ _ => rfl) (fun _ _ _ => rfl) (fun _ => rfl) (runOf_some.1 h1), by
    first
    | exact h2
    | (rcases o with o | o | o | o <;> exact h2)⟩
noncomputable def q6s {R : Type} : Loops S R := LE.ls X q6l q6n q6d
theorem q6t {R : Type} : LoopsOk X (q6s (R := R)) := loop_ok xok q6c (e := q6l) q6e q6r q6e
def q6u : Key := ⟨[63], 63, none, [0, 0, 1, 0, 1, 1, 1, 1, 1], 2, 21⟩
def q6v : StT S := ⟨(N (N L (some (.ptr 0 0)) (N (N L vF L) (some (.rs 21 0)) L)) none L), (N (N L none o1m) og L), 22⟩
def q6w : Way S := ⟨.ret, ⟨v1c, oS, 62⟩, [.int, .int, .int, (.lst .str), .nat, (.lst .str), .nat, (.st 8)]⟩
def q6x : Way S := ⟨.ret, ⟨v1c, oS, 55⟩, [.int, .int, .int, (.lst .str), .nat, (.lst .str), .nat, (.st 8)]⟩
def q6y : Way S := ⟨(.exit 2), ⟨L, (N (N L none o1m) og L), 27⟩, [(.lst .str), .nat, (.st 8)]⟩
def q6z : LE S := ⟨q6u, q6v, [.int, (.lst .str), .nat, (.st 8)], [q6w, q6x, q6y]⟩
def q6A (x : t15) : ((Int × Int × Int × (List ByteArray) × Nat × (List ByteArray) × Nat) ⊕ (Int × Int × Int × (List ByteArray) × Nat × (List ByteArray) × Nat) ⊕ ((List ByteArray) × Nat)) → ta := Sum.elim (fun y0 => (.inl (y0.1, y0.2.1, y0.2.2.1, y0.2.2.2.1, y0.2.2.2.2.1, y0.2.2.2.2.2.1, y0.2.2.2.2.2.2, x.2.2.2))) (Sum.elim (fun y1 => (.inr (.inl (y1.1, y1.2.1, y1.2.2.1, y1.2.2.2.1, y1.2.2.2.2.1, y1.2.2.2.2.2.1, y1.2.2.2.2.2.2, x.2.2.2)))) (fun y2 => (.inr (.inr (y2.1, y2.2, x.2.2.2)))))
noncomputable def q6B {R : Type} (x : t15) (k : ta → Option R) : Option R := (ref01_Check_L1_run x.2.2.2 (x.1, x.2.1, x.2.2.1)).bind (Sum.elim (fun y0 => k (.inl (y0.1, y0.2.1, y0.2.2.1, y0.2.2.2.1, y0.2.2.2.2.1, y0.2.2.2.2.2.1, y0.2.2.2.2.2.2, x.2.2.2))) (Sum.elim (fun y1 => k (.inr (.inl (y1.1, y1.2.1, y1.2.2.1, y1.2.2.2.1, y1.2.2.2.2.1, y1.2.2.2.2.2.1, y1.2.2.2.2.2.2, x.2.2.2)))) (fun y2 => k (.inr (.inr (y2.1, y2.2, x.2.2.2))))))
def q6C (x : t15) (v : (Int × (List ByteArray) × Nat)) : t15 := (v.1, v.2.1, v.2.2, x.2.2.2)
theorem q6D (x : t15) : LE.step X q6z q6b q6s 12 x = ref01_Check_L1_step x.2.2.2 x.1 x.2.1 x.2.2.1 (fun w0 w1 w2 => (Sum.inl (w0, w1, w2, x.2.2.2))) (fun p0 p1 p2 p3 p4 p5 p6 => (Sum.inr (.inl (p0, p1, p2, p3, p4, p5, p6, x.2.2.2)))) (fun p0 p1 p2 p3 p4 p5 p6 => (Sum.inr (.inr (.inl (p0, p1, p2, p3, p4, p5, p6, x.2.2.2))))) (fun p0 p1 => (Sum.inr (.inr (.inr (p0, p1, x.2.2.2))))):=by kernel_rfl
theorem q6F {R : Type} (x : t15) (k : ta → Option R) (r : R) (h : q6B x k = some r) : ∃ o, Runs (LE.step X q6z q6b q6s 12) x o ∧ k o = some r := by
  obtain ⟨o, h1, h2⟩ := some_bind h
  exact ⟨q6A x o, small_ok (st := fun (x : t15) => ref01_Check_L1_st x.2.2.2) (prj := fun x => (x.1, x.2.1, x.2.2.1)) (emb := q6C) (embO := q6A) (fun x => (q6D x).trans (by unfold ref01_Check_L1_st ref01_Check_L1_step; simp only [map_cond,map_bindO,map_elim,Option.map_some,Option.map_none]; rfl)) (fun _ _ => rfl) (fun _ _ => rfl) (fun _ _ _ => rfl) (fun _ _ _ => rfl) (fun _ => rfl) (runOf_some.1 h1), by
    first
    | exact h2
    | (rcases o with o | o | o <;> exact h2)⟩
noncomputable def q6G {R : Type} : Loops S R := LE.ls X q6z q6B q6s
theorem q6H {R : Type} : LoopsOk X (q6G (R := R)) := loop_ok xok q6c (e := q6z) q6t q6F q6t
theorem q6I (x0 : CtChart) : evFn X q6b [(.st 8)] [(.int .i64), (.int .i64), (.int .i64)] q6G 12 63 (x0, ()) = ref01_Check x0:=by kernel_rfl
noncomputable def q6J : F7 S := ⟨[(.st 8)], [(.int .i64), (.int .i64), (.int .i64)], fun xs => ref01_Check xs.1⟩
theorem q6K : FSOk X 63 q6J := fsOk_eq (evFn_ok xok q6c q6H 12 63) fun xs _ h => (q6I xs.1).trans h
noncomputable def q6L : List (Nat × F7 S) := [(96, q4X)]
theorem q6M : TabOk X (q6L) := ⟨q4Y, trivial⟩
abbrev q6N {R : Type} : Loops S R := noLoops
theorem q6O {R : Type} : LoopsOk X (q6N (R := R)) := noLoops_ok X
theorem q6P (x0 : CtBox) : evFn X q6L [(.st 6)] [(.int .i64)] q6N 12 64 (x0, ()) = ref04_box x0:=by kernel_rfl
noncomputable def q6Q : F7 S := ⟨[(.st 6)], [(.int .i64)], fun xs => ref04_box xs.1⟩
theorem q6R : FSOk X 64 q6Q := fsOk_eq (evFn_ok xok q6M q6O 12 64) fun xs _ h => (q6P xs.1).trans h
noncomputable def q6S : List (Nat × F7 S) := [(96, q4X)]
theorem q6T : TabOk X (q6S) := ⟨q4Y, trivial⟩
abbrev q6U {R : Type} : Loops S R := noLoops
theorem q6V {R : Type} : LoopsOk X (q6U (R := R)) := noLoops_ok X
theorem q6W (x0 : Span) (x1 : Int) (x2 : Int) : evFn X q6S [(.st 5), (.int .i64), (.int .i64)] [(.int .i64)] q6U 12 65 (x0, x1, x2, ()) = ref01_Range x0 x1 x2:=by kernel_rfl
noncomputable def q6X : F7 S := ⟨[(.st 5), (.int .i64), (.int .i64)], [(.int .i64)], fun xs => ref01_Range xs.1 xs.2.1 xs.2.2.1⟩
theorem q6Y : FSOk X 65 q6X := fsOk_eq (evFn_ok xok q6T q6V 12 65) fun xs _ h => (q6W xs.1 xs.2.1 xs.2.2.1).trans h
noncomputable def q6Z : List (Nat × F7 S) := []
theorem q70 : TabOk X (q6Z) := trivial
abbrev q71 {R : Type} : Loops S R := noLoops
theorem q72 {R : Type} : LoopsOk X (q71 (R := R)) := noLoops_ok X
theorem q73 (x0 : Int) (x1 : Int) (x2 : Int) : evFn X q6Z [(.int .i64), (.int .i64), (.int .i64)] [.bool] q71 12 66 (x0, x1, x2, ()) = ref04_in x0 x1 x2:=by kernel_rfl
noncomputable def q74 : F7 S := ⟨[(.int .i64), (.int .i64), (.int .i64)], [.bool], fun xs => ref04_in xs.1 xs.2.1 xs.2.2.1⟩
theorem q75 : FSOk X 66 q74 := fsOk_eq (evFn_ok xok q70 q72 12 66) fun xs _ h => (q73 xs.1 xs.2.1 xs.2.2.1).trans h
noncomputable def q76 : List (Nat × F7 S) := [(63, q6J), (64, q6Q), (65, q6X), (66, q74)]
theorem q77 : TabOk X (q76) := ⟨q6K, q6R, q6Y, q75, trivial⟩
abbrev q78 {R : Type} : Loops S R := noLoops
theorem q79 {R : Type} : LoopsOk X (q78 (R := R)) := noLoops_ok X
theorem q7a (x0 : SgMooring) : evFn X q76 [(.st 9)] [(.int .i64), (.int .i64)] q78 12 18 (x0, ()) = ref04_Check x0:=by kernel_rfl
noncomputable def q7b : F7 S := ⟨[(.st 9)], [(.int .i64), (.int .i64)], fun xs => ref04_Check xs.1⟩
theorem q7c : FSOk X 18 q7b := fsOk_eq (evFn_ok xok q77 q79 12 18) fun xs _ h => (q7a xs.1).trans h
noncomputable def q7d : List (Nat × F7 S) := [(17, q3j), (61, q3c), (62, q35)]
theorem q7e : TabOk X (q7d) := ⟨q3k, q3d, q36, trivial⟩
abbrev q7f {R : Type} : Loops S R := noLoops
theorem q7g {R : Type} : LoopsOk X (q7f (R := R)) := noLoops_ok X
def q7h : Key := ⟨[67, 2, 6, 19], 67, none, [0, 0, 1, 0, 1], 0, 27⟩
def q7i : StT S := ⟨(N (N (N L none (N L vF L)) (some (.fn (.func 68) [] [(.ptr 1 0)])) (N (N L vC L) none L)) none v1j), (N (N L ol L) oi L), 27⟩
def q7j : Way S := ⟨.ret, ⟨v1a, (N o11 oi L), 73⟩, [.int, .int, (.st 10), (.st 10), (.lst (.st 10)), (.st 9)]⟩
def q7k : Way S := ⟨.ret, ⟨v1a, (N o11 oi (N L none o1e)), 73⟩, [.int, .int, (.st 10), (.st 10), (.lst (.st 10)), (.st 9), (.lst (.int .i64)), .nat]⟩
def q7l : Way S := ⟨.ret, ⟨v1a, (N o11 oi (N (N (N L none (N L none (N L op L))) none L) none o1e)), 73⟩, [.int, .int, (.st 10), (.st 10), (.lst (.st 10)), (.st 9), (.lst (.int .i64)), .nat, (.lst (.int .i64)), .nat]⟩
def q7m : Way S := ⟨.ret, ⟨v1a, oK, 73⟩, [.int, .int, (.st 10), (.st 10), (.lst (.st 10)), (.st 9), (.lst (.int .i64)), .nat, (.lst (.int .i64)), .nat, (.lst (.int .i64)), .nat]⟩
def q7n : Way S := ⟨.ret, ⟨v1a, oK, 91⟩, [.int, .int, (.st 10), (.st 10), (.lst (.st 10)), (.st 9), (.lst (.int .i64)), .nat, (.lst (.int .i64)), .nat, (.lst (.int .i64)), .nat]⟩
def q7o : Way S := ⟨.ret, ⟨v1a, oK, 92⟩, [.int, .int, (.st 10), (.st 10), (.lst (.st 10)), (.st 9), (.lst (.int .i64)), .nat, (.lst (.int .i64)), .nat, (.lst (.int .i64)), .nat]⟩
def q7p : Way S := ⟨(.exit 0), ⟨L, (N (N L ol L) oi L), 28⟩, [(.lst (.st 10)), (.st 9)]⟩
def q7q : LE S := ⟨q7h, q7i, [.int, (.lst (.st 10)), .int, (.lst (.st 10)), (.st 9)], [q7j, q7k, q7l, q7m, q7n, q7o, q7p]⟩
def q7r (x : tO) : ((Int × Int × SgLook × SgLook) ⊕ (Int × Int × SgLook × SgLook × (List Int) × Nat) ⊕ (Int × Int × SgLook × SgLook × (List Int) × Nat × (List Int) × Nat) ⊕ tt ⊕ tt ⊕ tt ⊕ Unit) → t0 := Sum.elim (fun y0 => (.inl (y0.1, y0.2.1, y0.2.2.1, y0.2.2.2, x.2.2.2.1, x.2.2.2.2))) (Sum.elim (fun y1 => (.inr (.inl (y1.1, y1.2.1, y1.2.2.1, y1.2.2.2.1, x.2.2.2.1, x.2.2.2.2, y1.2.2.2.2.1, y1.2.2.2.2.2)))) (Sum.elim (fun y2 => (.inr (.inr (.inl (y2.1, y2.2.1, y2.2.2.1, y2.2.2.2.1, x.2.2.2.1, x.2.2.2.2, y2.2.2.2.2.1, y2.2.2.2.2.2.1, y2.2.2.2.2.2.2.1, y2.2.2.2.2.2.2.2))))) (Sum.elim (fun y3 => (.inr (.inr (.inr (.inl (y3.1, y3.2.1, y3.2.2.1, y3.2.2.2.1, x.2.2.2.1, x.2.2.2.2, y3.2.2.2.2.1, y3.2.2.2.2.2.1, y3.2.2.2.2.2.2.1, y3.2.2.2.2.2.2.2.1, y3.2.2.2.2.2.2.2.2.1, y3.2.2.2.2.2.2.2.2.2)))))) (Sum.elim (fun y4 => (.inr (.inr (.inr (.inr (.inl (y4.1, y4.2.1, y4.2.2.1, y4.2.2.2.1, x.2.2.2.1, x.2.2.2.2, y4.2.2.2.2.1, y4.2.2.2.2.2.1, y4.2.2.2.2.2.2.1, y4.2.2.2.2.2.2.2.1, y4.2.2.2.2.2.2.2.2.1, y4.2.2.2.2.2.2.2.2.2))))))) (Sum.elim (fun y5 => (.inr (.inr (.inr (.inr (.inr (.inl (y5.1, y5.2.1, y5.2.2.1, y5.2.2.2.1, x.2.2.2.1, x.2.2.2.2, y5.2.2.2.2.1, y5.2.2.2.2.2.1, y5.2.2.2.2.2.2.1, y5.2.2.2.2.2.2.2.1, y5.2.2.2.2.2.2.2.2.1, y5.2.2.2.2.2.2.2.2.2)))))))) (fun y6 => (.inr (.inr (.inr (.inr (.inr (.inr (x.2.2.2.1, x.2.2.2.2)))))))))))))
noncomputable def q7s {R : Type} (x : tO) (k : t0 → Option R) : Option R := (swing_CheckLooks_L0_run x.2.1 x.2.2.1 x.2.2.2.1 x.2.2.2.2 x.1).bind (Sum.elim (fun y0 => k (.inl (y0.1, y0.2.1, y0.2.2.1, y0.2.2.2, x.2.2.2.1, x.2.2.2.2))) (Sum.elim (fun y1 => k (.inr (.inl (y1.1, y1.2.1, y1.2.2.1, y1.2.2.2.1, x.2.2.2.1, x.2.2.2.2, y1.2.2.2.2.1, y1.2.2.2.2.2)))) (Sum.elim (fun y2 => k (.inr (.inr (.inl (y2.1, y2.2.1, y2.2.2.1, y2.2.2.2.1, x.2.2.2.1, x.2.2.2.2, y2.2.2.2.2.1, y2.2.2.2.2.2.1, y2.2.2.2.2.2.2.1, y2.2.2.2.2.2.2.2))))) (Sum.elim (fun y3 => k (.inr (.inr (.inr (.inl (y3.1, y3.2.1, y3.2.2.1, y3.2.2.2.1, x.2.2.2.1, x.2.2.2.2, y3.2.2.2.2.1, y3.2.2.2.2.2.1, y3.2.2.2.2.2.2.1, y3.2.2.2.2.2.2.2.1, y3.2.2.2.2.2.2.2.2.1, y3.2.2.2.2.2.2.2.2.2)))))) (Sum.elim (fun y4 => k (.inr (.inr (.inr (.inr (.inl (y4.1, y4.2.1, y4.2.2.1, y4.2.2.2.1, x.2.2.2.1, x.2.2.2.2, y4.2.2.2.2.1, y4.2.2.2.2.2.1, y4.2.2.2.2.2.2.1, y4.2.2.2.2.2.2.2.1, y4.2.2.2.2.2.2.2.2.1, y4.2.2.2.2.2.2.2.2.2))))))) (Sum.elim (fun y5 => k (.inr (.inr (.inr (.inr (.inr (.inl (y5.1, y5.2.1, y5.2.2.1, y5.2.2.2.1, x.2.2.2.1, x.2.2.2.2, y5.2.2.2.2.1, y5.2.2.2.2.2.1, y5.2.2.2.2.2.2.1, y5.2.2.2.2.2.2.2.1, y5.2.2.2.2.2.2.2.2.1, y5.2.2.2.2.2.2.2.2.2)))))))) (fun y6 => k (.inr (.inr (.inr (.inr (.inr (.inr (x.2.2.2.1, x.2.2.2.2))))))))))))))
def q7t (x : tO) (v : Int) : tO := (v, x.2.1, x.2.2.1, x.2.2.2.1, x.2.2.2.2)
theorem q7u (x : tO) : LE.step X q7q q7d q7f 12 x = swing_CheckLooks_L0_step x.2.1 x.2.2.1 x.2.2.2.1 x.2.2.2.2 x.1 (fun w0 => (Sum.inl (w0, x.2.1, x.2.2.1, x.2.2.2.1, x.2.2.2.2))) (fun p0 p1 p2 p3 => (Sum.inr (.inl (p0, p1, p2, p3, x.2.2.2.1, x.2.2.2.2)))) (fun p0 p1 p2 p3 p4 p5 => (Sum.inr (.inr (.inl (p0, p1, p2, p3, x.2.2.2.1, x.2.2.2.2, p4, p5))))) (fun p0 p1 p2 p3 p4 p5 p6 p7 => (Sum.inr (.inr (.inr (.inl (p0, p1, p2, p3, x.2.2.2.1, x.2.2.2.2, p4, p5, p6, p7)))))) (fun p0 p1 p2 p3 p4 p5 p6 p7 p8 p9 => (Sum.inr (.inr (.inr (.inr (.inl (p0, p1, p2, p3, x.2.2.2.1, x.2.2.2.2, p4, p5, p6, p7, p8, p9))))))) (fun p0 p1 p2 p3 p4 p5 p6 p7 p8 p9 => (Sum.inr (.inr (.inr (.inr (.inr (.inl (p0, p1, p2, p3, x.2.2.2.1, x.2.2.2.2, p4, p5, p6, p7, p8, p9)))))))) (fun p0 p1 p2 p3 p4 p5 p6 p7 p8 p9 => (Sum.inr (.inr (.inr (.inr (.inr (.inr (.inl (p0, p1, p2, p3, x.2.2.2.1, x.2.2.2.2, p4, p5, p6, p7, p8, p9))))))))) (Sum.inr (.inr (.inr (.inr (.inr (.inr (.inr (x.2.2.2.1, x.2.2.2.2)))))))):=by kernel_rfl
theorem q7w {R : Type} (x : tO) (k : t0 → Option R) (r : R) (h : q7s x k = some r) : ∃ o, Runs (LE.step X q7q q7d q7f 12) x o ∧ k o = some r := by
  obtain ⟨o, h1, h2⟩ := some_bind h
  exact ⟨q7r x o, small_ok (st := fun (x : tO) => swing_CheckLooks_L0_st x.2.1 x.2.2.1 x.2.2.2.1 x.2.2.2.2) (prj := fun x => x.1) (emb := q7t) (embO := q7r) (fun x => (q7u x).trans (by unfold swing_CheckLooks_L0_st swing_CheckLooks_L0_step; simp only [map_cond,map_bindO,map_elim,Option.map_some,Option.map_none]; rfl)) (fun _ _ => rfl) (fun _ _ => rfl) (fun _ _ _ => rfl) (fun _ _ _ => rfl) (fun _ => rfl) (runOf_some.1 h1), by
    first
    | exact h2
    | (rcases o with o | o | o | o | o | o | o <;> exact h2)⟩
noncomputable def q7x {R : Type} : Loops S R := LE.ls X q7q q7s q7f
theorem q7y {R : Type} : LoopsOk X (q7x (R := R)) := loop_ok xok q7e (e := q7q) q7g q7w q7g
theorem q7z (x0 : SgMooring) (x1 : List SgLook) : evFn X q7d [(.st 9), (.sl (.st 10))] [(.int .i64), (.int .i64)] q7x 12 19 (x0, x1, ()) = swing_CheckLooks x0 x1:=by kernel_rfl
noncomputable def q7A : F7 S := ⟨[(.st 9), (.sl (.st 10))], [(.int .i64), (.int .i64)], fun xs => swing_CheckLooks xs.1 xs.2.1⟩
theorem q7B : FSOk X 19 q7A := fsOk_eq (evFn_ok xok q7e q7y 12 19) fun xs _ h => (q7z xs.1 xs.2.1).trans h
noncomputable def q7C : List (Nat × F7 S) := [(64, q6Q), (66, q74)]
theorem q7D : TabOk X (q7C) := ⟨q6R, q75, trivial⟩
abbrev q7E {R : Type} : Loops S R := noLoops
theorem q7F {R : Type} : LoopsOk X (q7E (R := R)) := noLoops_ok X
theorem q7G (x0 : SgLook) (x1 : Int) : evFn X q7C [(.st 10), (.int .i64)] [(.int .i64)] q7E 12 69 (x0, x1, ()) = ref04_look x0 x1:=by kernel_rfl
noncomputable def q7H : F7 S := ⟨[(.st 10), (.int .i64)], [(.int .i64)], fun xs => ref04_look xs.1 xs.2.1⟩
theorem q7I : FSOk X 69 q7H := fsOk_eq (evFn_ok xok q7D q7F 12 69) fun xs _ h => (q7G xs.1 xs.2.1).trans h
noncomputable def q7J : List (Nat × F7 S) := [(18, q7b), (69, q7H)]
theorem q7K : TabOk X (q7J) := ⟨q7c, q7I, trivial⟩
abbrev q7L {R : Type} : Loops S R := noLoops
theorem q7M {R : Type} : LoopsOk X (q7L (R := R)) := noLoops_ok X
def q7N : Key := ⟨[20], 20, none, [0, 0, 1, 0, 1, 1, 1, 1, 1], 0, 21⟩
def q7O : StT S := ⟨(N (N L vC (N (N L vF L) none L)) none v1i), (N L oi L), 21⟩
def q7P : Way S := ⟨.ret, ⟨v1a, (N L oi L), 38⟩, [.int, .int, (.st 9)]⟩
def q7Q : Way S := ⟨(.exit 0), ⟨L, (N L oi L), 25⟩, [(.st 9)]⟩
def q7R : LE S := ⟨q7N, q7O, [(.lst (.st 10)), .int, .int, (.st 9)], [q7P, q7Q]⟩
def q7S (x : t17) : ((Int × Int) ⊕ Unit) → ((Int × Int × SgMooring) ⊕ SgMooring) := Sum.elim (fun y0 => (.inl (y0.1, y0.2, x.2.2.2))) (fun y1 => (.inr x.2.2.2))
noncomputable def q7T {R : Type} (x : t17) (k : ((Int × Int × SgMooring) ⊕ SgMooring) → Option R) : Option R := (ref04_CheckLooks_L0_run x.1 x.2.2.2 (x.2.1, x.2.2.1)).bind (Sum.elim (fun y0 => k (.inl (y0.1, y0.2, x.2.2.2))) (fun y1 => k (.inr x.2.2.2)))
def q7U (x : t17) (v : (Int × Int)) : t17 := (x.1, v.1, v.2, x.2.2.2)
theorem q7V (x : t17) : LE.step X q7R q7J q7L 12 x = ref04_CheckLooks_L0_step x.1 x.2.2.2 x.2.1 x.2.2.1 (fun w0 w1 => (Sum.inl (x.1, w0, w1, x.2.2.2))) (fun p0 p1 => (Sum.inr (.inl (p0, p1, x.2.2.2)))) (Sum.inr (.inr x.2.2.2)):=by kernel_rfl
theorem q7X {R : Type} (x : t17) (k : ((Int × Int × SgMooring) ⊕ SgMooring) → Option R) (r : R) (h : q7T x k = some r) : ∃ o, Runs (LE.step X q7R q7J q7L 12) x o ∧ k o = some r := by
  obtain ⟨o, h1, h2⟩ := some_bind h
  exact ⟨q7S x o, small_ok (st := fun (x : t17) => ref04_CheckLooks_L0_st x.1 x.2.2.2) (prj := fun x => (x.2.1, x.2.2.1)) (emb := q7U) (embO := q7S) (fun x => (q7V x).trans (by unfold ref04_CheckLooks_L0_st ref04_CheckLooks_L0_step; simp only [map_cond,map_bindO,map_elim,Option.map_some,Option.map_none]; rfl)) (fun _ _ => rfl) (fun _ _ => rfl) (fun _ _ _ => rfl) (fun _ _ _ => rfl) (fun _ => rfl) (runOf_some.1 h1), by
    first
    | exact h2
    | (rcases o with o | o <;> exact h2)⟩
noncomputable def q7Y {R : Type} : Loops S R := LE.ls X q7R q7T q7L
theorem q7Z {R : Type} : LoopsOk X (q7Y (R := R)) := loop_ok xok q7K (e := q7R) q7M q7X q7M
theorem q80 (x0 : SgMooring) (x1 : List SgLook) : evFn X q7J [(.st 9), (.sl (.st 10))] [(.int .i64), (.int .i64)] q7Y 12 20 (x0, x1, ()) = ref04_CheckLooks x0 x1:=by kernel_rfl
noncomputable def q81 : F7 S := ⟨[(.st 9), (.sl (.st 10))], [(.int .i64), (.int .i64)], fun xs => ref04_CheckLooks xs.1 xs.2.1⟩
theorem q82 : FSOk X 20 q81 := fsOk_eq (evFn_ok xok q7K q7Z 12 20) fun xs _ h => (q80 xs.1 xs.2.1).trans h
noncomputable def q83 : List (Nat × F7 S) := []
theorem q84 : TabOk X (q83) := trivial
abbrev q85 {R : Type} : Loops S R := noLoops
theorem q86 {R : Type} : LoopsOk X (q85 (R := R)) := noLoops_ok X
def q87 : Key := ⟨[108, 0, 76], 108, none, [0, 0, 1, 0, 0, 1, 0, 0, 1, 1], 2, 28⟩
def q88 : StT S := ⟨(N (N (N L vF L) (some (.ptr 9 0)) (N L vF L)) (some (.yld 13)) (N (N L vF L) none L)), o14, 28⟩
def q89 : Way S := ⟨(.exit 2), ⟨vZ, o14, 33⟩, [.int, .int, .int, .int, .int, .int, .int, .int, .int, (.arr (.int .u64)), (.st 6), (.st 9), (.st 9), (.st 14)]⟩
def q8a : LE S := ⟨q87, q88, [.int, .int, .int, .int, .int, .int, .int, .int, .int, .int, (.arr (.int .u64)), (.st 6), (.st 9), (.st 9), (.st 14)], [q89]⟩
def q8b (x : ti) : (Int × swing_mooring) → tj := fun y0 => (y0.1, x.2.2.1, x.2.2.2.1, x.2.2.2.2.1, x.2.2.2.2.2.1, x.2.2.2.2.2.2.1, x.2.2.2.2.2.2.2.1, x.2.2.2.2.2.2.2.2.1, x.2.2.2.2.2.2.2.2.2.1, x.2.2.2.2.2.2.2.2.2.2.1, x.2.2.2.2.2.2.2.2.2.2.2.1, x.2.2.2.2.2.2.2.2.2.2.2.2.1, x.2.2.2.2.2.2.2.2.2.2.2.2.2.1, y0.2)
noncomputable def q8c {R : Type} (x : ti) (k : tj → Option R) : Option R := (swing_open_L1_run x.2.2.1 x.2.2.2.1 x.2.2.2.2.1 x.2.2.2.2.2.1 x.2.2.2.2.2.2.1 x.2.2.2.2.2.2.2.1 x.2.2.2.2.2.2.2.2.1 x.2.2.2.2.2.2.2.2.2.1 x.2.2.2.2.2.2.2.2.2.2.1 x.2.2.2.2.2.2.2.2.2.2.2.1 x.2.2.2.2.2.2.2.2.2.2.2.2.1 x.2.2.2.2.2.2.2.2.2.2.2.2.2.1 (x.1, x.2.1, x.2.2.2.2.2.2.2.2.2.2.2.2.2.2)).bind (fun y0 => k (y0.1, x.2.2.1, x.2.2.2.1, x.2.2.2.2.1, x.2.2.2.2.2.1, x.2.2.2.2.2.2.1, x.2.2.2.2.2.2.2.1, x.2.2.2.2.2.2.2.2.1, x.2.2.2.2.2.2.2.2.2.1, x.2.2.2.2.2.2.2.2.2.2.1, x.2.2.2.2.2.2.2.2.2.2.2.1, x.2.2.2.2.2.2.2.2.2.2.2.2.1, x.2.2.2.2.2.2.2.2.2.2.2.2.2.1, y0.2))
def q8d (x : ti) (v : (Int × Int × swing_mooring)) : ti := (v.1, v.2.1, x.2.2.1, x.2.2.2.1, x.2.2.2.2.1, x.2.2.2.2.2.1, x.2.2.2.2.2.2.1, x.2.2.2.2.2.2.2.1, x.2.2.2.2.2.2.2.2.1, x.2.2.2.2.2.2.2.2.2.1, x.2.2.2.2.2.2.2.2.2.2.1, x.2.2.2.2.2.2.2.2.2.2.2.1, x.2.2.2.2.2.2.2.2.2.2.2.2.1, x.2.2.2.2.2.2.2.2.2.2.2.2.2.1, v.2.2)
theorem q8e (x : ti) : LE.step X q8a q83 q85 12 x = swing_open_L1_step x.2.2.1 x.2.2.2.1 x.2.2.2.2.1 x.2.2.2.2.2.1 x.2.2.2.2.2.2.1 x.2.2.2.2.2.2.2.1 x.2.2.2.2.2.2.2.2.1 x.2.2.2.2.2.2.2.2.2.1 x.2.2.2.2.2.2.2.2.2.2.1 x.2.2.2.2.2.2.2.2.2.2.2.1 x.2.2.2.2.2.2.2.2.2.2.2.2.1 x.2.2.2.2.2.2.2.2.2.2.2.2.2.1 x.1 x.2.1 x.2.2.2.2.2.2.2.2.2.2.2.2.2.2 (fun w0 w1 w2 => (Sum.inl (w0, w1, x.2.2.1, x.2.2.2.1, x.2.2.2.2.1, x.2.2.2.2.2.1, x.2.2.2.2.2.2.1, x.2.2.2.2.2.2.2.1, x.2.2.2.2.2.2.2.2.1, x.2.2.2.2.2.2.2.2.2.1, x.2.2.2.2.2.2.2.2.2.2.1, x.2.2.2.2.2.2.2.2.2.2.2.1, x.2.2.2.2.2.2.2.2.2.2.2.2.1, x.2.2.2.2.2.2.2.2.2.2.2.2.2.1, w2))) (fun p0 p1 => (Sum.inr (p0, x.2.2.1, x.2.2.2.1, x.2.2.2.2.1, x.2.2.2.2.2.1, x.2.2.2.2.2.2.1, x.2.2.2.2.2.2.2.1, x.2.2.2.2.2.2.2.2.1, x.2.2.2.2.2.2.2.2.2.1, x.2.2.2.2.2.2.2.2.2.2.1, x.2.2.2.2.2.2.2.2.2.2.2.1, x.2.2.2.2.2.2.2.2.2.2.2.2.1, x.2.2.2.2.2.2.2.2.2.2.2.2.2.1, p1))):=by kernel_rfl
theorem q8g {R : Type} (x : ti) (k : tj → Option R) (r : R) (h : q8c x k = some r) : ∃ o, Runs (LE.step X q8a q83 q85 12) x o ∧ k o = some r := by
  obtain ⟨o, h1, h2⟩ := some_bind h
  exact ⟨q8b x o, small_ok (st := fun (x : ti) => swing_open_L1_st x.2.2.1 x.2.2.2.1 x.2.2.2.2.1 x.2.2.2.2.2.1 x.2.2.2.2.2.2.1 x.2.2.2.2.2.2.2.1 x.2.2.2.2.2.2.2.2.1 x.2.2.2.2.2.2.2.2.2.1 x.2.2.2.2.2.2.2.2.2.2.1 x.2.2.2.2.2.2.2.2.2.2.2.1 x.2.2.2.2.2.2.2.2.2.2.2.2.1 x.2.2.2.2.2.2.2.2.2.2.2.2.2.1) (prj := fun x => (x.1, x.2.1, x.2.2.2.2.2.2.2.2.2.2.2.2.2.2)) (emb := q8d) (embO := q8b) (fun x => (q8e x).trans (by unfold swing_open_L1_st swing_open_L1_step; simp only [map_cond,map_bindO,map_elim,Option.map_some,Option.map_none]; rfl)) (fun _ _ => rfl) (fun _ _ => rfl) (fun _ _ _ => rfl) (fun _ _ _ => rfl) (fun _ => rfl) (runOf_some.1 h1), by
    first
    | exact h2
    | (rcases o with o <;> exact h2)⟩
noncomputable def q8h {R : Type} : Loops S R := LE.ls X q8a q8c q85
theorem q8i {R : Type} : LoopsOk X (q8h (R := R)) := loop_ok xok q84 (e := q8a) q86 q8g q86
def q8j : Key := ⟨[108, 0, 76], 108, none, [0, 0, 1, 1], 0, 19⟩
def q8k : StT S := ⟨vZ, o14, 19⟩
def q8l : Way S := ⟨(.exit 0), ⟨L, o14, 24⟩, [.int, .int, .int, .int, .int, .int, .int, (.arr (.int .u64)), (.st 6), (.st 9), (.st 9), (.st 14)]⟩
def q8m : LE S := ⟨q8j, q8k, [.int, .int, .int, .int, .int, .int, .int, .int, .int, (.arr (.int .u64)), (.st 6), (.st 9), (.st 9), (.st 14)], [q8l]⟩
def q8n (x : tj) : swing_mooring → tm := fun y0 => (x.2.2.1, x.2.2.2.1, x.2.2.2.2.1, x.2.2.2.2.2.1, x.2.2.2.2.2.2.1, x.2.2.2.2.2.2.2.1, x.2.2.2.2.2.2.2.2.1, x.2.2.2.2.2.2.2.2.2.1, x.2.2.2.2.2.2.2.2.2.2.1, x.2.2.2.2.2.2.2.2.2.2.2.1, x.2.2.2.2.2.2.2.2.2.2.2.2.1, y0)
noncomputable def q8o {R : Type} (x : tj) (k : tm → Option R) : Option R := (swing_open_L0_run x.2.2.1 x.2.2.2.1 x.2.2.2.2.1 x.2.2.2.2.2.1 x.2.2.2.2.2.2.1 x.2.2.2.2.2.2.2.1 x.2.2.2.2.2.2.2.2.1 x.2.2.2.2.2.2.2.2.2.1 x.2.2.2.2.2.2.2.2.2.2.1 x.2.2.2.2.2.2.2.2.2.2.2.1 x.2.2.2.2.2.2.2.2.2.2.2.2.1 (x.1, x.2.1, x.2.2.2.2.2.2.2.2.2.2.2.2.2)).bind (fun y0 => k (x.2.2.1, x.2.2.2.1, x.2.2.2.2.1, x.2.2.2.2.2.1, x.2.2.2.2.2.2.1, x.2.2.2.2.2.2.2.1, x.2.2.2.2.2.2.2.2.1, x.2.2.2.2.2.2.2.2.2.1, x.2.2.2.2.2.2.2.2.2.2.1, x.2.2.2.2.2.2.2.2.2.2.2.1, x.2.2.2.2.2.2.2.2.2.2.2.2.1, y0))
def q8p (x : tj) (v : (Int × Int × swing_mooring)) : tj := (v.1, v.2.1, x.2.2.1, x.2.2.2.1, x.2.2.2.2.1, x.2.2.2.2.2.1, x.2.2.2.2.2.2.1, x.2.2.2.2.2.2.2.1, x.2.2.2.2.2.2.2.2.1, x.2.2.2.2.2.2.2.2.2.1, x.2.2.2.2.2.2.2.2.2.2.1, x.2.2.2.2.2.2.2.2.2.2.2.1, x.2.2.2.2.2.2.2.2.2.2.2.2.1, v.2.2)
theorem q8q (x : tj) : LE.step X q8m q83 q8h 12 x = swing_open_L0_step x.2.2.1 x.2.2.2.1 x.2.2.2.2.1 x.2.2.2.2.2.1 x.2.2.2.2.2.2.1 x.2.2.2.2.2.2.2.1 x.2.2.2.2.2.2.2.2.1 x.2.2.2.2.2.2.2.2.2.1 x.2.2.2.2.2.2.2.2.2.2.1 x.2.2.2.2.2.2.2.2.2.2.2.1 x.2.2.2.2.2.2.2.2.2.2.2.2.1 x.1 x.2.1 x.2.2.2.2.2.2.2.2.2.2.2.2.2 (fun w0 w1 w2 => (Sum.inl (w0, w1, x.2.2.1, x.2.2.2.1, x.2.2.2.2.1, x.2.2.2.2.2.1, x.2.2.2.2.2.2.1, x.2.2.2.2.2.2.2.1, x.2.2.2.2.2.2.2.2.1, x.2.2.2.2.2.2.2.2.2.1, x.2.2.2.2.2.2.2.2.2.2.1, x.2.2.2.2.2.2.2.2.2.2.2.1, x.2.2.2.2.2.2.2.2.2.2.2.2.1, w2))) (fun p0 => (Sum.inr (x.2.2.1, x.2.2.2.1, x.2.2.2.2.1, x.2.2.2.2.2.1, x.2.2.2.2.2.2.1, x.2.2.2.2.2.2.2.1, x.2.2.2.2.2.2.2.2.1, x.2.2.2.2.2.2.2.2.2.1, x.2.2.2.2.2.2.2.2.2.2.1, x.2.2.2.2.2.2.2.2.2.2.2.1, x.2.2.2.2.2.2.2.2.2.2.2.2.1, p0))):=by kernel_rfl
theorem q8s {R : Type} (x : tj) (k : tm → Option R) (r : R) (h : q8o x k = some r) : ∃ o, Runs (LE.step X q8m q83 q8h 12) x o ∧ k o = some r := by
  obtain ⟨o, h1, h2⟩ := some_bind h
  exact ⟨q8n x o, small_ok (st := fun (x : tj) => swing_open_L0_st x.2.2.1 x.2.2.2.1 x.2.2.2.2.1 x.2.2.2.2.2.1 x.2.2.2.2.2.2.1 x.2.2.2.2.2.2.2.1 x.2.2.2.2.2.2.2.2.1 x.2.2.2.2.2.2.2.2.2.1 x.2.2.2.2.2.2.2.2.2.2.1 x.2.2.2.2.2.2.2.2.2.2.2.1 x.2.2.2.2.2.2.2.2.2.2.2.2.1) (prj := fun x => (x.1, x.2.1, x.2.2.2.2.2.2.2.2.2.2.2.2.2)) (emb := q8p) (embO := q8n) (fun x => (q8q x).trans (by unfold swing_open_L0_st swing_open_L0_step; simp only [map_cond,map_bindO,map_elim,Option.map_some,Option.map_none]; rfl)) (fun _ _ => rfl) (fun _ _ => rfl) (fun _ _ _ => rfl) (fun _ _ _ => rfl) (fun _ => rfl) (runOf_some.1 h1), by
    first
    | exact h2
    | (rcases o with o <;> exact h2)⟩
noncomputable def q8t {R : Type} : Loops S R := LE.ls X q8m q8o q8h
theorem q8u {R : Type} : LoopsOk X (q8t (R := R)) := loop_ok xok q84 (e := q8m) q8i q8s q8i
theorem q8v (x0 : SgMooring) : evFn X q83 [(.st 9)] [(.st 14)] q8t 12 76 (x0, ()) = swing_open x0:=by kernel_rfl
noncomputable def q8w : F7 S := ⟨[(.st 9)], [(.st 14)], fun xs => swing_open xs.1⟩
theorem q8x : FSOk X 76 q8w := fsOk_eq (evFn_ok xok q84 q8u 12 76) fun xs _ h => (q8v xs.1).trans h
noncomputable def q8y : List (Nat × F7 S) := []
theorem q8z : TabOk X (q8y) := trivial
abbrev q8A {R : Type} : Loops S R := noLoops
theorem q8B {R : Type} : LoopsOk X (q8A (R := R)) := noLoops_ok X
theorem q8C : evFn X q8y [] [(.arr 8 (.st 2))] q8A 12 131 (()) = chart_quarter:=by kernel_rfl
noncomputable def q8D : F7 S := ⟨[], [(.arr 8 (.st 2))], fun xs => chart_quarter⟩
theorem q8E : FSOk X 131 q8D := fsOk_eq (evFn_ok xok q8z q8B 12 131) fun xs _ h => (q8C).trans h
noncomputable def q8F : List (Nat × F7 S) := [(124, qC), (131, q8D)]
theorem q8G : TabOk X (q8F) := ⟨qD, q8E, trivial⟩
abbrev q8H {R : Type} : Loops S R := noLoops
theorem q8I {R : Type} : LoopsOk X (q8H (R := R)) := noLoops_ok X
def q8J : Key := ⟨[112], 112, none, [0, 0, 1, 0, 1, 1, 1], 0, 14⟩
def q8K : StT S := ⟨(N v1d none (N (N L (some (.ptr 9 0)) L) (some (.ptr 0 0)) (N L none (N L vF L)))), (N (N (N L op L) none (N (N L of L) none L)) of L), 14⟩
def q8L : Way S := ⟨(.exit 0), ⟨(N L none (N (N L (some (.ptr 9 0)) L) (some (.ptr 0 0)) L)), (N (N (N L op L) none (N (N L of L) none L)) of L), 15⟩, [(.lst (.int .i64)), .nat, (.st 2), (.st 2)]⟩
def q8M : LE S := ⟨q8J, q8K, [.int, .int, (.lst (.int .i64)), .nat, (.st 2), (.st 2)], [q8L]⟩
def q8N (x : tZ) : Point → ((List Int) × Nat × Point × Point) := fun y0 => (x.2.2.1, x.2.2.2.1, y0, x.2.2.2.2.2)
noncomputable def q8O {R : Type} (x : tZ) (k : ((List Int) × Nat × Point × Point) → Option R) : Option R := (chart_Vector_L0_run x.2.1 x.2.2.1 x.2.2.2.1 x.2.2.2.2.2 (x.1, x.2.2.2.2.1)).bind (fun y0 => k (x.2.2.1, x.2.2.2.1, y0, x.2.2.2.2.2))
def q8P (x : tZ) (v : (Int × Point)) : tZ := (v.1, x.2.1, x.2.2.1, x.2.2.2.1, v.2, x.2.2.2.2.2)
theorem q8Q (x : tZ) : LE.step X q8M q8F q8H 12 x = chart_Vector_L0_step x.2.1 x.2.2.1 x.2.2.2.1 x.2.2.2.2.2 x.1 x.2.2.2.2.1 (fun w0 w1 => (Sum.inl (w0, x.2.1, x.2.2.1, x.2.2.2.1, w1, x.2.2.2.2.2))) (fun p0 => (Sum.inr (x.2.2.1, x.2.2.2.1, p0, x.2.2.2.2.2))):=by kernel_rfl
theorem q8S {R : Type} (x : tZ) (k : ((List Int) × Nat × Point × Point) → Option R) (r : R) (h : q8O x k = some r) : ∃ o, Runs (LE.step X q8M q8F q8H 12) x o ∧ k o = some r := by
  obtain ⟨o, h1, h2⟩ := some_bind h
  exact ⟨q8N x o, small_ok (st := fun (x : tZ) => chart_Vector_L0_st x.2.1 x.2.2.1 x.2.2.2.1 x.2.2.2.2.2) (prj := fun x => (x.1, x.2.2.2.2.1)) (emb := q8P) (embO := q8N) (fun x => (q8Q x).trans (by unfold chart_Vector_L0_st chart_Vector_L0_step; simp only [map_cond,map_bindO,map_elim,Option.map_some,Option.map_none]; rfl)) (fun _ _ => rfl) (fun _ _ => rfl) (fun _ _ _ => rfl) (fun _ _ _ => rfl) (fun _ => rfl) (runOf_some.1 h1), by
    first
    | exact h2
    | (rcases o with o <;> exact h2)⟩
noncomputable def q8T {R : Type} : Loops S R := LE.ls X q8M q8O q8H
theorem q8U {R : Type} : LoopsOk X (q8T (R := R)) := loop_ok xok q8G (e := q8M) q8I q8S q8I
theorem q8V (x0 : Int) : evFn X q8F [(.int .i64)] [(.st 2), (.int .i64)] q8T 12 112 (x0, ()) = chart_Vector x0:=by kernel_rfl
noncomputable def q8W : F7 S := ⟨[(.int .i64)], [(.st 2), (.int .i64)], fun xs => chart_Vector xs.1⟩
theorem q8X : FSOk X 112 q8W := fsOk_eq (evFn_ok xok q8G q8U 12 112) fun xs _ h => (q8V xs.1).trans h
noncomputable def q8Y : List (Nat × F7 S) := [(62, q35), (112, q8W)]
theorem q8Z : TabOk X (q8Y) := ⟨q36, q8X, trivial⟩
abbrev q90 {R : Type} : Loops S R := noLoops
theorem q91 {R : Type} : LoopsOk X (q90 (R := R)) := noLoops_ok X
def q92 : Key := ⟨[77], 77, none, [0, 0, 1, 0, 1, 1, 1, 1, 1, 1], 0, 89⟩
def q93 : StT S := ⟨(N (N (N L none (N L (some (.fn (.func 111) [] [(.ptr 16 0)])) L)) none (N L (some (.ptr 1 0)) L)) none v1l), oL, 89⟩
def q94 : Way S := ⟨.ret, ⟨(N L none (N (N (N L vE L) none L) none L)), (N (N (N L of (N L none (N L none (N L none (N L of L))))) oa (N L none (N (N L none (N L op L)) none L))) o9 (N (N (N (N L of L) none (N (N L op L) none L)) none (N L none o1k)) of (N (N (N L none (N (N (N L of L) none L) none L)) none L) none L))), 163⟩, [.bool, (.st 2), (.st 2), (.st 10), (.lst (.int .i64)), .nat, (.st 14), (.st 2), (.lst (.int .i64)), .nat, (.lst (.int .i64)), .nat, (.st 2), (.st 2)]⟩
def q95 : Way S := ⟨(.exit 0), ⟨L, oL, 93⟩, [(.st 2), (.st 10), (.lst (.int .i64)), .nat, (.st 14), (.st 2), (.lst (.int .i64)), .nat, (.lst (.int .i64)), .nat, (.st 2)]⟩
def q96 : LE S := ⟨q92, q93, [.int, (.st 2), (.st 10), (.lst (.int .i64)), .nat, (.st 14), (.st 2), (.lst (.int .i64)), .nat, (.lst (.int .i64)), .nat, (.st 2)], [q94, q95]⟩
def q97 (x : tl) : ((Bool × Point × Point) ⊕ Unit) → t6 := Sum.elim (fun y0 => (.inl (y0.1, x.2.1, y0.2.1, x.2.2.1, x.2.2.2.1, x.2.2.2.2.1, x.2.2.2.2.2.1, x.2.2.2.2.2.2.1, x.2.2.2.2.2.2.2.1, x.2.2.2.2.2.2.2.2.1, x.2.2.2.2.2.2.2.2.2.1, x.2.2.2.2.2.2.2.2.2.2.1, x.2.2.2.2.2.2.2.2.2.2.2, y0.2.2))) (fun y1 => (.inr (x.2.1, x.2.2.1, x.2.2.2.1, x.2.2.2.2.1, x.2.2.2.2.2.1, x.2.2.2.2.2.2.1, x.2.2.2.2.2.2.2.1, x.2.2.2.2.2.2.2.2.1, x.2.2.2.2.2.2.2.2.2.1, x.2.2.2.2.2.2.2.2.2.2.1, x.2.2.2.2.2.2.2.2.2.2.2)))
noncomputable def q98 {R : Type} (x : tl) (k : t6 → Option R) : Option R := (swing_mooring_lies_L0_run x.2.1 x.2.2.1 x.2.2.2.1 x.2.2.2.2.1 x.2.2.2.2.2.1 x.2.2.2.2.2.2.1 x.2.2.2.2.2.2.2.1 x.2.2.2.2.2.2.2.2.1 x.2.2.2.2.2.2.2.2.2.1 x.2.2.2.2.2.2.2.2.2.2.1 x.2.2.2.2.2.2.2.2.2.2.2 x.1).bind (Sum.elim (fun y0 => k (.inl (y0.1, x.2.1, y0.2.1, x.2.2.1, x.2.2.2.1, x.2.2.2.2.1, x.2.2.2.2.2.1, x.2.2.2.2.2.2.1, x.2.2.2.2.2.2.2.1, x.2.2.2.2.2.2.2.2.1, x.2.2.2.2.2.2.2.2.2.1, x.2.2.2.2.2.2.2.2.2.2.1, x.2.2.2.2.2.2.2.2.2.2.2, y0.2.2))) (fun y1 => k (.inr (x.2.1, x.2.2.1, x.2.2.2.1, x.2.2.2.2.1, x.2.2.2.2.2.1, x.2.2.2.2.2.2.1, x.2.2.2.2.2.2.2.1, x.2.2.2.2.2.2.2.2.1, x.2.2.2.2.2.2.2.2.2.1, x.2.2.2.2.2.2.2.2.2.2.1, x.2.2.2.2.2.2.2.2.2.2.2))))
def q99 (x : tl) (v : Int) : tl := (v, x.2.1, x.2.2.1, x.2.2.2.1, x.2.2.2.2.1, x.2.2.2.2.2.1, x.2.2.2.2.2.2.1, x.2.2.2.2.2.2.2.1, x.2.2.2.2.2.2.2.2.1, x.2.2.2.2.2.2.2.2.2.1, x.2.2.2.2.2.2.2.2.2.2.1, x.2.2.2.2.2.2.2.2.2.2.2)
theorem q9a (x : tl) : LE.step X q96 q8Y q90 12 x = swing_mooring_lies_L0_step x.2.1 x.2.2.1 x.2.2.2.1 x.2.2.2.2.1 x.2.2.2.2.2.1 x.2.2.2.2.2.2.1 x.2.2.2.2.2.2.2.1 x.2.2.2.2.2.2.2.2.1 x.2.2.2.2.2.2.2.2.2.1 x.2.2.2.2.2.2.2.2.2.2.1 x.2.2.2.2.2.2.2.2.2.2.2 x.1 (fun w0 => (Sum.inl (w0, x.2.1, x.2.2.1, x.2.2.2.1, x.2.2.2.2.1, x.2.2.2.2.2.1, x.2.2.2.2.2.2.1, x.2.2.2.2.2.2.2.1, x.2.2.2.2.2.2.2.2.1, x.2.2.2.2.2.2.2.2.2.1, x.2.2.2.2.2.2.2.2.2.2.1, x.2.2.2.2.2.2.2.2.2.2.2))) (fun p0 p1 p2 => (Sum.inr (.inl (p0, x.2.1, p1, x.2.2.1, x.2.2.2.1, x.2.2.2.2.1, x.2.2.2.2.2.1, x.2.2.2.2.2.2.1, x.2.2.2.2.2.2.2.1, x.2.2.2.2.2.2.2.2.1, x.2.2.2.2.2.2.2.2.2.1, x.2.2.2.2.2.2.2.2.2.2.1, x.2.2.2.2.2.2.2.2.2.2.2, p2)))) (Sum.inr (.inr (x.2.1, x.2.2.1, x.2.2.2.1, x.2.2.2.2.1, x.2.2.2.2.2.1, x.2.2.2.2.2.2.1, x.2.2.2.2.2.2.2.1, x.2.2.2.2.2.2.2.2.1, x.2.2.2.2.2.2.2.2.2.1, x.2.2.2.2.2.2.2.2.2.2.1, x.2.2.2.2.2.2.2.2.2.2.2))):=by kernel_rfl
theorem q9c {R : Type} (x : tl) (k : t6 → Option R) (r : R) (h : q98 x k = some r) : ∃ o, Runs (LE.step X q96 q8Y q90 12) x o ∧ k o = some r := by
  obtain ⟨o, h1, h2⟩ := some_bind h
  exact ⟨q97 x o, small_ok (st := fun (x : tl) => swing_mooring_lies_L0_st x.2.1 x.2.2.1 x.2.2.2.1 x.2.2.2.2.1 x.2.2.2.2.2.1 x.2.2.2.2.2.2.1 x.2.2.2.2.2.2.2.1 x.2.2.2.2.2.2.2.2.1 x.2.2.2.2.2.2.2.2.2.1 x.2.2.2.2.2.2.2.2.2.2.1 x.2.2.2.2.2.2.2.2.2.2.2) (prj := fun x => x.1) (emb := q99) (embO := q97) (fun x => (q9a x).trans (by unfold swing_mooring_lies_L0_st swing_mooring_lies_L0_step; simp only [map_cond,map_bindO,map_elim,Option.map_some,Option.map_none]; rfl)) (fun _ _ => rfl) (fun _ _ => rfl) (fun _ _ _ => rfl) (fun _ _ _ => rfl) (fun _ => rfl) (runOf_some.1 h1), by
    first
    | exact h2
    | (rcases o with o | o <;> exact h2)⟩
noncomputable def q9d {R : Type} : Loops S R := LE.ls X q96 q98 q90
theorem q9e {R : Type} : LoopsOk X (q9d (R := R)) := loop_ok xok q8Z (e := q96) q91 q9c q91
theorem q9f (x0 : swing_mooring) (x1 : SgLook) (x2 : Point) (x3 : Point) : evFn X q8Y [(.st 14), (.st 10), (.st 2), (.st 2)] [.bool] q9d 12 77 (x0, x1, x2, x3, ()) = swing_mooring_lies x0 x1 x2 x3:=by kernel_rfl
noncomputable def q9g : F7 S := ⟨[(.st 14), (.st 10), (.st 2), (.st 2)], [.bool], fun xs => swing_mooring_lies xs.1 xs.2.1 xs.2.2.1 xs.2.2.2.1⟩
theorem q9h : FSOk X 77 q9g := fsOk_eq (evFn_ok xok q8Z q9e 12 77) fun xs _ h => (q9f xs.1 xs.2.1 xs.2.2.1 xs.2.2.2.1).trans h
noncomputable def q9i : List (Nat × F7 S) := [(77, q9g)]
theorem q9j : TabOk X (q9i) := ⟨q9h, trivial⟩
abbrev q9k {R : Type} : Loops S R := noLoops
theorem q9l {R : Type} : LoopsOk X (q9k (R := R)) := noLoops_ok X
def q9m : Key := ⟨[108, 2, 11, 5, 7, 108, 0, 107], 108, none, [0, 0, 1, 0, 0, 1, 0, 0, 1, 1], 2, 64⟩
def q9n : StT S := ⟨(N (N (N L vF L) (some (.ptr 45 0)) (N L vF L)) (some (.yld 49)) (N (N L vF L) none L)), oJ, 64⟩
def q9o : Way S := ⟨.ret, ⟨L, oG, 98⟩, [(.st 6), (.st 10), (.st 14), (.st 10), (.st 10), .int, (.st 14), .int, .int, (.st 6), (.st 14), (.st 2), (.st 2), (.arr (.int .u64)), .int]⟩
def q9p : Way S := ⟨(.exit 2), ⟨vX, oJ, 69⟩, [.int, .int, (.st 6), (.st 10), (.st 14), (.st 10), (.st 10), .int, (.st 14), .int, .int, (.st 6), (.st 14), (.st 2), (.arr (.int .u64)), .int]⟩
def q9q : LE S := ⟨q9m, q9n, [.int, .int, .int, (.st 6), (.st 10), (.st 14), (.st 10), (.st 10), .int, (.st 14), .int, .int, (.st 6), (.st 14), (.st 2), (.arr (.int .u64)), .int], [q9o, q9p]⟩
def q9r (x : td) : ((Point × (Nat → Int)) ⊕ Int) → t4 := Sum.elim (fun y0 => (.inl (x.2.2.2.1, x.2.2.2.2.1, x.2.2.2.2.2.1, x.2.2.2.2.2.2.1, x.2.2.2.2.2.2.2.1, x.2.2.2.2.2.2.2.2.1, x.2.2.2.2.2.2.2.2.2.1, x.2.2.2.2.2.2.2.2.2.2.1, x.2.2.2.2.2.2.2.2.2.2.2.1, x.2.2.2.2.2.2.2.2.2.2.2.2.1, x.2.2.2.2.2.2.2.2.2.2.2.2.2.1, x.2.2.2.2.2.2.2.2.2.2.2.2.2.2.1, y0.1, y0.2, x.2.2.2.2.2.2.2.2.2.2.2.2.2.2.2.2))) (fun y1 => (.inr (y1, x.2.2.1, x.2.2.2.1, x.2.2.2.2.1, x.2.2.2.2.2.1, x.2.2.2.2.2.2.1, x.2.2.2.2.2.2.2.1, x.2.2.2.2.2.2.2.2.1, x.2.2.2.2.2.2.2.2.2.1, x.2.2.2.2.2.2.2.2.2.2.1, x.2.2.2.2.2.2.2.2.2.2.2.1, x.2.2.2.2.2.2.2.2.2.2.2.2.1, x.2.2.2.2.2.2.2.2.2.2.2.2.2.1, x.2.2.2.2.2.2.2.2.2.2.2.2.2.2.1, x.2.2.2.2.2.2.2.2.2.2.2.2.2.2.2.1, x.2.2.2.2.2.2.2.2.2.2.2.2.2.2.2.2)))
noncomputable def q9s {R : Type} (x : td) (k : t4 → Option R) : Option R := (swing_mooring_held_L3_run x.2.2.1 x.2.2.2.1 x.2.2.2.2.1 x.2.2.2.2.2.1 x.2.2.2.2.2.2.1 x.2.2.2.2.2.2.2.1 x.2.2.2.2.2.2.2.2.1 x.2.2.2.2.2.2.2.2.2.1 x.2.2.2.2.2.2.2.2.2.2.1 x.2.2.2.2.2.2.2.2.2.2.2.1 x.2.2.2.2.2.2.2.2.2.2.2.2.1 x.2.2.2.2.2.2.2.2.2.2.2.2.2.1 x.2.2.2.2.2.2.2.2.2.2.2.2.2.2.1 x.2.2.2.2.2.2.2.2.2.2.2.2.2.2.2.1 x.2.2.2.2.2.2.2.2.2.2.2.2.2.2.2.2 (x.1, x.2.1)).bind (Sum.elim (fun y0 => k (.inl (x.2.2.2.1, x.2.2.2.2.1, x.2.2.2.2.2.1, x.2.2.2.2.2.2.1, x.2.2.2.2.2.2.2.1, x.2.2.2.2.2.2.2.2.1, x.2.2.2.2.2.2.2.2.2.1, x.2.2.2.2.2.2.2.2.2.2.1, x.2.2.2.2.2.2.2.2.2.2.2.1, x.2.2.2.2.2.2.2.2.2.2.2.2.1, x.2.2.2.2.2.2.2.2.2.2.2.2.2.1, x.2.2.2.2.2.2.2.2.2.2.2.2.2.2.1, y0.1, y0.2, x.2.2.2.2.2.2.2.2.2.2.2.2.2.2.2.2))) (fun y1 => k (.inr (y1, x.2.2.1, x.2.2.2.1, x.2.2.2.2.1, x.2.2.2.2.2.1, x.2.2.2.2.2.2.1, x.2.2.2.2.2.2.2.1, x.2.2.2.2.2.2.2.2.1, x.2.2.2.2.2.2.2.2.2.1, x.2.2.2.2.2.2.2.2.2.2.1, x.2.2.2.2.2.2.2.2.2.2.2.1, x.2.2.2.2.2.2.2.2.2.2.2.2.1, x.2.2.2.2.2.2.2.2.2.2.2.2.2.1, x.2.2.2.2.2.2.2.2.2.2.2.2.2.2.1, x.2.2.2.2.2.2.2.2.2.2.2.2.2.2.2.1, x.2.2.2.2.2.2.2.2.2.2.2.2.2.2.2.2))))
def q9t (x : td) (v : (Int × Int)) : td := (v.1, v.2, x.2.2.1, x.2.2.2.1, x.2.2.2.2.1, x.2.2.2.2.2.1, x.2.2.2.2.2.2.1, x.2.2.2.2.2.2.2.1, x.2.2.2.2.2.2.2.2.1, x.2.2.2.2.2.2.2.2.2.1, x.2.2.2.2.2.2.2.2.2.2.1, x.2.2.2.2.2.2.2.2.2.2.2.1, x.2.2.2.2.2.2.2.2.2.2.2.2.1, x.2.2.2.2.2.2.2.2.2.2.2.2.2.1, x.2.2.2.2.2.2.2.2.2.2.2.2.2.2.1, x.2.2.2.2.2.2.2.2.2.2.2.2.2.2.2.1, x.2.2.2.2.2.2.2.2.2.2.2.2.2.2.2.2)
theorem q9u (x : td) : LE.step X q9q q9i q9k 12 x = swing_mooring_held_L3_step x.2.2.1 x.2.2.2.1 x.2.2.2.2.1 x.2.2.2.2.2.1 x.2.2.2.2.2.2.1 x.2.2.2.2.2.2.2.1 x.2.2.2.2.2.2.2.2.1 x.2.2.2.2.2.2.2.2.2.1 x.2.2.2.2.2.2.2.2.2.2.1 x.2.2.2.2.2.2.2.2.2.2.2.1 x.2.2.2.2.2.2.2.2.2.2.2.2.1 x.2.2.2.2.2.2.2.2.2.2.2.2.2.1 x.2.2.2.2.2.2.2.2.2.2.2.2.2.2.1 x.2.2.2.2.2.2.2.2.2.2.2.2.2.2.2.1 x.2.2.2.2.2.2.2.2.2.2.2.2.2.2.2.2 x.1 x.2.1 (fun w0 w1 => (Sum.inl (w0, w1, x.2.2.1, x.2.2.2.1, x.2.2.2.2.1, x.2.2.2.2.2.1, x.2.2.2.2.2.2.1, x.2.2.2.2.2.2.2.1, x.2.2.2.2.2.2.2.2.1, x.2.2.2.2.2.2.2.2.2.1, x.2.2.2.2.2.2.2.2.2.2.1, x.2.2.2.2.2.2.2.2.2.2.2.1, x.2.2.2.2.2.2.2.2.2.2.2.2.1, x.2.2.2.2.2.2.2.2.2.2.2.2.2.1, x.2.2.2.2.2.2.2.2.2.2.2.2.2.2.1, x.2.2.2.2.2.2.2.2.2.2.2.2.2.2.2.1, x.2.2.2.2.2.2.2.2.2.2.2.2.2.2.2.2))) (fun p0 p1 => (Sum.inr (.inl (x.2.2.2.1, x.2.2.2.2.1, x.2.2.2.2.2.1, x.2.2.2.2.2.2.1, x.2.2.2.2.2.2.2.1, x.2.2.2.2.2.2.2.2.1, x.2.2.2.2.2.2.2.2.2.1, x.2.2.2.2.2.2.2.2.2.2.1, x.2.2.2.2.2.2.2.2.2.2.2.1, x.2.2.2.2.2.2.2.2.2.2.2.2.1, x.2.2.2.2.2.2.2.2.2.2.2.2.2.1, x.2.2.2.2.2.2.2.2.2.2.2.2.2.2.1, p0, p1, x.2.2.2.2.2.2.2.2.2.2.2.2.2.2.2.2)))) (fun p0 => (Sum.inr (.inr (p0, x.2.2.1, x.2.2.2.1, x.2.2.2.2.1, x.2.2.2.2.2.1, x.2.2.2.2.2.2.1, x.2.2.2.2.2.2.2.1, x.2.2.2.2.2.2.2.2.1, x.2.2.2.2.2.2.2.2.2.1, x.2.2.2.2.2.2.2.2.2.2.1, x.2.2.2.2.2.2.2.2.2.2.2.1, x.2.2.2.2.2.2.2.2.2.2.2.2.1, x.2.2.2.2.2.2.2.2.2.2.2.2.2.1, x.2.2.2.2.2.2.2.2.2.2.2.2.2.2.1, x.2.2.2.2.2.2.2.2.2.2.2.2.2.2.2.1, x.2.2.2.2.2.2.2.2.2.2.2.2.2.2.2.2)))):=by kernel_rfl
theorem q9w {R : Type} (x : td) (k : t4 → Option R) (r : R) (h : q9s x k = some r) : ∃ o, Runs (LE.step X q9q q9i q9k 12) x o ∧ k o = some r := by
  obtain ⟨o, h1, h2⟩ := some_bind h
  exact ⟨q9r x o, small_ok (st := fun (x : td) => swing_mooring_held_L3_st x.2.2.1 x.2.2.2.1 x.2.2.2.2.1 x.2.2.2.2.2.1 x.2.2.2.2.2.2.1 x.2.2.2.2.2.2.2.1 x.2.2.2.2.2.2.2.2.1 x.2.2.2.2.2.2.2.2.2.1 x.2.2.2.2.2.2.2.2.2.2.1 x.2.2.2.2.2.2.2.2.2.2.2.1 x.2.2.2.2.2.2.2.2.2.2.2.2.1 x.2.2.2.2.2.2.2.2.2.2.2.2.2.1 x.2.2.2.2.2.2.2.2.2.2.2.2.2.2.1 x.2.2.2.2.2.2.2.2.2.2.2.2.2.2.2.1 x.2.2.2.2.2.2.2.2.2.2.2.2.2.2.2.2) (prj := fun x => (x.1, x.2.1)) (emb := q9t) (embO := q9r) (fun x => (q9u x).trans (by unfold swing_mooring_held_L3_st swing_mooring_held_L3_step; simp only [map_cond,map_bindO,map_elim,Option.map_some,Option.map_none]; rfl)) (fun _ _ => rfl) (fun _ _ => rfl) (fun _ _ _ => rfl) (fun _ _ _ => rfl) (fun _ => rfl) (runOf_some.1 h1), by
    first
    | exact h2
    | (rcases o with o | o <;> exact h2)⟩
noncomputable def q9x {R : Type} : Loops S R := LE.ls X q9q q9s q9k
theorem q9y {R : Type} : LoopsOk X (q9x (R := R)) := loop_ok xok q9j (e := q9q) q9l q9w q9l
def q9z : Key := ⟨[108, 2, 11, 5, 7, 108, 0, 107], 108, none, [0, 0, 1, 1], 0, 55⟩
def q9A : StT S := ⟨vX, oJ, 55⟩
def q9B : Way S := ⟨.ret, ⟨L, oG, 98⟩, [(.st 6), (.st 10), (.st 14), (.st 10), (.st 10), .int, (.st 14), .int, .int, (.st 6), (.st 14), (.st 2), (.st 2), (.arr (.int .u64)), .int]⟩
def q9C : Way S := ⟨(.exit 0), ⟨L, oJ, 60⟩, [(.st 6), (.st 10), (.st 14), (.st 10), (.st 10), .int, (.st 14), .int, .int, (.st 6), (.st 14), (.st 2), (.arr (.int .u64)), .int]⟩
def q9D : LE S := ⟨q9z, q9A, [.int, .int, (.st 6), (.st 10), (.st 14), (.st 10), (.st 10), .int, (.st 14), .int, .int, (.st 6), (.st 14), (.st 2), (.arr (.int .u64)), .int], [q9B, q9C]⟩
def q9E (x : tf) : ((Point × (Nat → Int)) ⊕ Unit) → t5 := Sum.elim (fun y0 => (.inl (x.2.2.1, x.2.2.2.1, x.2.2.2.2.1, x.2.2.2.2.2.1, x.2.2.2.2.2.2.1, x.2.2.2.2.2.2.2.1, x.2.2.2.2.2.2.2.2.1, x.2.2.2.2.2.2.2.2.2.1, x.2.2.2.2.2.2.2.2.2.2.1, x.2.2.2.2.2.2.2.2.2.2.2.1, x.2.2.2.2.2.2.2.2.2.2.2.2.1, x.2.2.2.2.2.2.2.2.2.2.2.2.2.1, y0.1, y0.2, x.2.2.2.2.2.2.2.2.2.2.2.2.2.2.2))) (fun y1 => (.inr (x.2.2.1, x.2.2.2.1, x.2.2.2.2.1, x.2.2.2.2.2.1, x.2.2.2.2.2.2.1, x.2.2.2.2.2.2.2.1, x.2.2.2.2.2.2.2.2.1, x.2.2.2.2.2.2.2.2.2.1, x.2.2.2.2.2.2.2.2.2.2.1, x.2.2.2.2.2.2.2.2.2.2.2.1, x.2.2.2.2.2.2.2.2.2.2.2.2.1, x.2.2.2.2.2.2.2.2.2.2.2.2.2.1, x.2.2.2.2.2.2.2.2.2.2.2.2.2.2.1, x.2.2.2.2.2.2.2.2.2.2.2.2.2.2.2)))
noncomputable def q9F {R : Type} (x : tf) (k : t5 → Option R) : Option R := (swing_mooring_held_L2_run x.2.2.1 x.2.2.2.1 x.2.2.2.2.1 x.2.2.2.2.2.1 x.2.2.2.2.2.2.1 x.2.2.2.2.2.2.2.1 x.2.2.2.2.2.2.2.2.1 x.2.2.2.2.2.2.2.2.2.1 x.2.2.2.2.2.2.2.2.2.2.1 x.2.2.2.2.2.2.2.2.2.2.2.1 x.2.2.2.2.2.2.2.2.2.2.2.2.1 x.2.2.2.2.2.2.2.2.2.2.2.2.2.1 x.2.2.2.2.2.2.2.2.2.2.2.2.2.2.1 x.2.2.2.2.2.2.2.2.2.2.2.2.2.2.2 (x.1, x.2.1)).bind (Sum.elim (fun y0 => k (.inl (x.2.2.1, x.2.2.2.1, x.2.2.2.2.1, x.2.2.2.2.2.1, x.2.2.2.2.2.2.1, x.2.2.2.2.2.2.2.1, x.2.2.2.2.2.2.2.2.1, x.2.2.2.2.2.2.2.2.2.1, x.2.2.2.2.2.2.2.2.2.2.1, x.2.2.2.2.2.2.2.2.2.2.2.1, x.2.2.2.2.2.2.2.2.2.2.2.2.1, x.2.2.2.2.2.2.2.2.2.2.2.2.2.1, y0.1, y0.2, x.2.2.2.2.2.2.2.2.2.2.2.2.2.2.2))) (fun y1 => k (.inr (x.2.2.1, x.2.2.2.1, x.2.2.2.2.1, x.2.2.2.2.2.1, x.2.2.2.2.2.2.1, x.2.2.2.2.2.2.2.1, x.2.2.2.2.2.2.2.2.1, x.2.2.2.2.2.2.2.2.2.1, x.2.2.2.2.2.2.2.2.2.2.1, x.2.2.2.2.2.2.2.2.2.2.2.1, x.2.2.2.2.2.2.2.2.2.2.2.2.1, x.2.2.2.2.2.2.2.2.2.2.2.2.2.1, x.2.2.2.2.2.2.2.2.2.2.2.2.2.2.1, x.2.2.2.2.2.2.2.2.2.2.2.2.2.2.2))))
def q9G (x : tf) (v : (Int × Int)) : tf := (v.1, v.2, x.2.2.1, x.2.2.2.1, x.2.2.2.2.1, x.2.2.2.2.2.1, x.2.2.2.2.2.2.1, x.2.2.2.2.2.2.2.1, x.2.2.2.2.2.2.2.2.1, x.2.2.2.2.2.2.2.2.2.1, x.2.2.2.2.2.2.2.2.2.2.1, x.2.2.2.2.2.2.2.2.2.2.2.1, x.2.2.2.2.2.2.2.2.2.2.2.2.1, x.2.2.2.2.2.2.2.2.2.2.2.2.2.1, x.2.2.2.2.2.2.2.2.2.2.2.2.2.2.1, x.2.2.2.2.2.2.2.2.2.2.2.2.2.2.2)
theorem q9H (x : tf) : LE.step X q9D q9i q9x 12 x = swing_mooring_held_L2_step x.2.2.1 x.2.2.2.1 x.2.2.2.2.1 x.2.2.2.2.2.1 x.2.2.2.2.2.2.1 x.2.2.2.2.2.2.2.1 x.2.2.2.2.2.2.2.2.1 x.2.2.2.2.2.2.2.2.2.1 x.2.2.2.2.2.2.2.2.2.2.1 x.2.2.2.2.2.2.2.2.2.2.2.1 x.2.2.2.2.2.2.2.2.2.2.2.2.1 x.2.2.2.2.2.2.2.2.2.2.2.2.2.1 x.2.2.2.2.2.2.2.2.2.2.2.2.2.2.1 x.2.2.2.2.2.2.2.2.2.2.2.2.2.2.2 x.1 x.2.1 (fun w0 w1 => (Sum.inl (w0, w1, x.2.2.1, x.2.2.2.1, x.2.2.2.2.1, x.2.2.2.2.2.1, x.2.2.2.2.2.2.1, x.2.2.2.2.2.2.2.1, x.2.2.2.2.2.2.2.2.1, x.2.2.2.2.2.2.2.2.2.1, x.2.2.2.2.2.2.2.2.2.2.1, x.2.2.2.2.2.2.2.2.2.2.2.1, x.2.2.2.2.2.2.2.2.2.2.2.2.1, x.2.2.2.2.2.2.2.2.2.2.2.2.2.1, x.2.2.2.2.2.2.2.2.2.2.2.2.2.2.1, x.2.2.2.2.2.2.2.2.2.2.2.2.2.2.2))) (fun p0 p1 => (Sum.inr (.inl (x.2.2.1, x.2.2.2.1, x.2.2.2.2.1, x.2.2.2.2.2.1, x.2.2.2.2.2.2.1, x.2.2.2.2.2.2.2.1, x.2.2.2.2.2.2.2.2.1, x.2.2.2.2.2.2.2.2.2.1, x.2.2.2.2.2.2.2.2.2.2.1, x.2.2.2.2.2.2.2.2.2.2.2.1, x.2.2.2.2.2.2.2.2.2.2.2.2.1, x.2.2.2.2.2.2.2.2.2.2.2.2.2.1, p0, p1, x.2.2.2.2.2.2.2.2.2.2.2.2.2.2.2)))) (Sum.inr (.inr (x.2.2.1, x.2.2.2.1, x.2.2.2.2.1, x.2.2.2.2.2.1, x.2.2.2.2.2.2.1, x.2.2.2.2.2.2.2.1, x.2.2.2.2.2.2.2.2.1, x.2.2.2.2.2.2.2.2.2.1, x.2.2.2.2.2.2.2.2.2.2.1, x.2.2.2.2.2.2.2.2.2.2.2.1, x.2.2.2.2.2.2.2.2.2.2.2.2.1, x.2.2.2.2.2.2.2.2.2.2.2.2.2.1, x.2.2.2.2.2.2.2.2.2.2.2.2.2.2.1, x.2.2.2.2.2.2.2.2.2.2.2.2.2.2.2))):=by kernel_rfl
theorem q9J {R : Type} (x : tf) (k : t5 → Option R) (r : R) (h : q9F x k = some r) : ∃ o, Runs (LE.step X q9D q9i q9x 12) x o ∧ k o = some r := by
  obtain ⟨o, h1, h2⟩ := some_bind h
  exact ⟨q9E x o, small_ok (st := fun (x : tf) => swing_mooring_held_L2_st x.2.2.1 x.2.2.2.1 x.2.2.2.2.1 x.2.2.2.2.2.1 x.2.2.2.2.2.2.1 x.2.2.2.2.2.2.2.1 x.2.2.2.2.2.2.2.2.1 x.2.2.2.2.2.2.2.2.2.1 x.2.2.2.2.2.2.2.2.2.2.1 x.2.2.2.2.2.2.2.2.2.2.2.1 x.2.2.2.2.2.2.2.2.2.2.2.2.1 x.2.2.2.2.2.2.2.2.2.2.2.2.2.1 x.2.2.2.2.2.2.2.2.2.2.2.2.2.2.1 x.2.2.2.2.2.2.2.2.2.2.2.2.2.2.2) (prj := fun x => (x.1, x.2.1)) (emb := q9G) (embO := q9E) (fun x => (q9H x).trans (by unfold swing_mooring_held_L2_st swing_mooring_held_L2_step; simp only [map_cond,map_bindO,map_elim,Option.map_some,Option.map_none]; rfl)) (fun _ _ => rfl) (fun _ _ => rfl) (fun _ _ _ => rfl) (fun _ _ _ => rfl) (fun _ => rfl) (runOf_some.1 h1), by
    first
    | exact h2
    | (rcases o with o | o <;> exact h2)⟩
noncomputable def q9K {R : Type} : Loops S R := LE.ls X q9D q9F q9x
theorem q9L {R : Type} : LoopsOk X (q9K (R := R)) := loop_ok xok q9j (e := q9D) q9y q9J q9y
def q9M : Key := ⟨[108, 0, 107], 108, none, [0, 0, 1, 0, 0, 1, 0, 0, 1, 1], 2, 26⟩
def q9N : StT S := ⟨(N (N (N L vF L) (some (.ptr 7 0)) (N L vF L)) (some (.yld 11)) (N (N L vF L) none L)), o15, 26⟩
def q9O : Way S := ⟨(.exit 2), ⟨v10, o15, 31⟩, [.int, .int, (.st 6), (.st 10), (.st 14), (.st 10), (.st 14), (.arr (.int .u64))]⟩
def q9P : LE S := ⟨q9M, q9N, [.int, .int, .int, (.st 6), (.st 10), (.st 14), (.st 10), (.st 14), (.arr (.int .u64))], [q9O]⟩
def q9Q (x : ts) : (Int × (Nat → Int)) → tw := fun y0 => (y0.1, x.2.2.1, x.2.2.2.1, x.2.2.2.2.1, x.2.2.2.2.2.1, x.2.2.2.2.2.2.1, x.2.2.2.2.2.2.2.1, y0.2)
noncomputable def q9R {R : Type} (x : ts) (k : tw → Option R) : Option R := (swing_mooring_held_L1_run x.2.2.1 x.2.2.2.1 x.2.2.2.2.1 x.2.2.2.2.2.1 x.2.2.2.2.2.2.1 x.2.2.2.2.2.2.2.1 (x.1, x.2.1, x.2.2.2.2.2.2.2.2)).bind (fun y0 => k (y0.1, x.2.2.1, x.2.2.2.1, x.2.2.2.2.1, x.2.2.2.2.2.1, x.2.2.2.2.2.2.1, x.2.2.2.2.2.2.2.1, y0.2))
def q9S (x : ts) (v : (Int × Int × (Nat → Int))) : ts := (v.1, v.2.1, x.2.2.1, x.2.2.2.1, x.2.2.2.2.1, x.2.2.2.2.2.1, x.2.2.2.2.2.2.1, x.2.2.2.2.2.2.2.1, v.2.2)
theorem q9T (x : ts) : LE.step X q9P q9i q9K 12 x = swing_mooring_held_L1_step x.2.2.1 x.2.2.2.1 x.2.2.2.2.1 x.2.2.2.2.2.1 x.2.2.2.2.2.2.1 x.2.2.2.2.2.2.2.1 x.1 x.2.1 x.2.2.2.2.2.2.2.2 (fun w0 w1 w2 => (Sum.inl (w0, w1, x.2.2.1, x.2.2.2.1, x.2.2.2.2.1, x.2.2.2.2.2.1, x.2.2.2.2.2.2.1, x.2.2.2.2.2.2.2.1, w2))) (fun p0 p1 => (Sum.inr (p0, x.2.2.1, x.2.2.2.1, x.2.2.2.2.1, x.2.2.2.2.2.1, x.2.2.2.2.2.2.1, x.2.2.2.2.2.2.2.1, p1))):=by kernel_rfl
theorem q9V {R : Type} (x : ts) (k : tw → Option R) (r : R) (h : q9R x k = some r) : ∃ o, Runs (LE.step X q9P q9i q9K 12) x o ∧ k o = some r := by
  obtain ⟨o, h1, h2⟩ := some_bind h
  exact ⟨q9Q x o, small_ok (st := fun (x : ts) => swing_mooring_held_L1_st x.2.2.1 x.2.2.2.1 x.2.2.2.2.1 x.2.2.2.2.2.1 x.2.2.2.2.2.2.1 x.2.2.2.2.2.2.2.1) (prj := fun x => (x.1, x.2.1, x.2.2.2.2.2.2.2.2)) (emb := q9S) (embO := q9Q) (fun x => (q9T x).trans (by unfold swing_mooring_held_L1_st swing_mooring_held_L1_step; simp only [map_cond,map_bindO,map_elim,Option.map_some,Option.map_none]; rfl)) (fun _ _ => rfl) (fun _ _ => rfl) (fun _ _ _ => rfl) (fun _ _ _ => rfl) (fun _ => rfl) (runOf_some.1 h1), by
    first
    | exact h2
    | (rcases o with o <;> exact h2)⟩
noncomputable def q9W {R : Type} : Loops S R := LE.ls X q9P q9R q9K
theorem q9X {R : Type} : LoopsOk X (q9W (R := R)) := loop_ok xok q9j (e := q9P) q9L q9V q9L
def q9Y : Key := ⟨[108, 0, 107], 108, none, [0, 0, 1, 1], 0, 17⟩
def q9Z : StT S := ⟨v10, o15, 17⟩
def qa0 : Way S := ⟨(.exit 0), ⟨L, o15, 22⟩, [(.st 6), (.st 10), (.st 14), (.st 10), (.st 14), (.arr (.int .u64))]⟩
def qa1 : LE S := ⟨q9Y, q9Z, [.int, .int, (.st 6), (.st 10), (.st 14), (.st 10), (.st 14), (.arr (.int .u64))], [qa0]⟩
def qa2 (x : tw) : (Nat → Int) → tD := fun y0 => (x.2.2.1, x.2.2.2.1, x.2.2.2.2.1, x.2.2.2.2.2.1, x.2.2.2.2.2.2.1, y0)
noncomputable def qa3 {R : Type} (x : tw) (k : tD → Option R) : Option R := (swing_mooring_held_L0_run x.2.2.1 x.2.2.2.1 x.2.2.2.2.1 x.2.2.2.2.2.1 x.2.2.2.2.2.2.1 (x.1, x.2.1, x.2.2.2.2.2.2.2)).bind (fun y0 => k (x.2.2.1, x.2.2.2.1, x.2.2.2.2.1, x.2.2.2.2.2.1, x.2.2.2.2.2.2.1, y0))
def qa4 (x : tw) (v : (Int × Int × (Nat → Int))) : tw := (v.1, v.2.1, x.2.2.1, x.2.2.2.1, x.2.2.2.2.1, x.2.2.2.2.2.1, x.2.2.2.2.2.2.1, v.2.2)
theorem qa5 (x : tw) : LE.step X qa1 q9i q9W 12 x = swing_mooring_held_L0_step x.2.2.1 x.2.2.2.1 x.2.2.2.2.1 x.2.2.2.2.2.1 x.2.2.2.2.2.2.1 x.1 x.2.1 x.2.2.2.2.2.2.2 (fun w0 w1 w2 => (Sum.inl (w0, w1, x.2.2.1, x.2.2.2.1, x.2.2.2.2.1, x.2.2.2.2.2.1, x.2.2.2.2.2.2.1, w2))) (fun p0 => (Sum.inr (x.2.2.1, x.2.2.2.1, x.2.2.2.2.1, x.2.2.2.2.2.1, x.2.2.2.2.2.2.1, p0))):=by kernel_rfl
theorem qa7 {R : Type} (x : tw) (k : tD → Option R) (r : R) (h : qa3 x k = some r) : ∃ o, Runs (LE.step X qa1 q9i q9W 12) x o ∧ k o = some r := by
  obtain ⟨o, h1, h2⟩ := some_bind h
  exact ⟨qa2 x o, small_ok (st := fun (x : tw) => swing_mooring_held_L0_st x.2.2.1 x.2.2.2.1 x.2.2.2.2.1 x.2.2.2.2.2.1 x.2.2.2.2.2.2.1) (prj := fun x => (x.1, x.2.1, x.2.2.2.2.2.2.2)) (emb := qa4) (embO := qa2) (fun x => (qa5 x).trans (by unfold swing_mooring_held_L0_st swing_mooring_held_L0_step; simp only [map_cond,map_bindO,map_elim,Option.map_some,Option.map_none]; rfl)) (fun _ _ => rfl) (fun _ _ => rfl) (fun _ _ _ => rfl) (fun _ _ _ => rfl) (fun _ => rfl) (runOf_some.1 h1), by
    first
    | exact h2
    | (rcases o with o <;> exact h2)⟩
noncomputable def qa8 {R : Type} : Loops S R := LE.ls X qa1 qa3 q9W
theorem qa9 {R : Type} : LoopsOk X (qa8 (R := R)) := loop_ok xok q9j (e := qa1) q9X qa7 q9X
theorem qaa (x0 : swing_mooring) (x1 : SgLook) : evFn X q9i [(.st 14), (.st 10)] [(.arr 5 (.int .u64))] qa8 12 107 (x0, x1, ()) = swing_mooring_held x0 x1:=by kernel_rfl
noncomputable def qab : F7 S := ⟨[(.st 14), (.st 10)], [(.arr 5 (.int .u64))], fun xs => swing_mooring_held xs.1 xs.2.1⟩
theorem qac : FSOk X 107 qab := fsOk_eq (evFn_ok xok q9j qa9 12 107) fun xs _ h => (qaa xs.1 xs.2.1).trans h
noncomputable def qad : List (Nat × F7 S) := [(19, q7A), (76, q8w), (107, qab)]
theorem qae : TabOk X (qad) := ⟨q7B, q8x, qac, trivial⟩
abbrev qaf {R : Type} : Loops S R := noLoops
theorem qag {R : Type} : LoopsOk X (qaf (R := R)) := noLoops_ok X
def qah : Key := ⟨[70], 70, none, [0, 0, 1, 0, 1, 1, 1], 0, 19⟩
def qai : StT S := ⟨(N (N v1l none (N L (some (.rs 19 0)) (N (N L vC L) none L))) none (N (N L (some (.ptr 1 0)) L) none v1j)), oT, 20⟩
def qaj : Way S := ⟨(.exit 0), ⟨(N (N L none (N L (some (.rs 19 0)) L)) none (N (N L (some (.ptr 1 0)) L) none L)), oT, 21⟩, [(.lst (.arr 5 (.int .u64))), .nat, (.st 14), (.st 9)]⟩
def qak : LE S := ⟨qah, qai, [.int, (.lst (.st 10)), .int, (.lst (.arr 5 (.int .u64))), .nat, (.st 14), (.st 9)], [qaj]⟩
def qal (x : tx) : (List (Nat → Int)) → tP := fun y0 => (y0, x.2.2.2.2.1, x.2.2.2.2.2.1, x.2.2.2.2.2.2)
noncomputable def qam {R : Type} (x : tx) (k : tP → Option R) : Option R := (swing_enter_L0_run x.2.1 x.2.2.1 x.2.2.2.2.1 x.2.2.2.2.2.1 x.2.2.2.2.2.2 (x.1, x.2.2.2.1)).bind (fun y0 => k (y0, x.2.2.2.2.1, x.2.2.2.2.2.1, x.2.2.2.2.2.2))
def qan (x : tx) (v : (Int × (List (Nat → Int)))) : tx := (v.1, x.2.1, x.2.2.1, v.2, x.2.2.2.2.1, x.2.2.2.2.2.1, x.2.2.2.2.2.2)
theorem qao (x : tx) : LE.step X qak qad qaf 12 x = swing_enter_L0_step x.2.1 x.2.2.1 x.2.2.2.2.1 x.2.2.2.2.2.1 x.2.2.2.2.2.2 x.1 x.2.2.2.1 (fun w0 w1 => (Sum.inl (w0, x.2.1, x.2.2.1, w1, x.2.2.2.2.1, x.2.2.2.2.2.1, x.2.2.2.2.2.2))) (fun p0 => (Sum.inr (p0, x.2.2.2.2.1, x.2.2.2.2.2.1, x.2.2.2.2.2.2))):=by kernel_rfl
theorem qaq {R : Type} (x : tx) (k : tP → Option R) (r : R) (h : qam x k = some r) : ∃ o, Runs (LE.step X qak qad qaf 12) x o ∧ k o = some r := by
  obtain ⟨o, h1, h2⟩ := some_bind h
  exact ⟨qal x o, small_ok (st := fun (x : tx) => swing_enter_L0_st x.2.1 x.2.2.1 x.2.2.2.2.1 x.2.2.2.2.2.1 x.2.2.2.2.2.2) (prj := fun x => (x.1, x.2.2.2.1)) (emb := qan) (embO := qal) (fun x => (qao x).trans (by unfold swing_enter_L0_st swing_enter_L0_step; simp only [map_cond,map_bindO,map_elim,Option.map_some,Option.map_none]; rfl)) (fun _ _ => rfl) (fun _ _ => rfl) (fun _ _ _ => rfl) (fun _ _ _ => rfl) (fun _ => rfl) (runOf_some.1 h1), by
    first
    | exact h2
    | (rcases o with o <;> exact h2)⟩
noncomputable def qar {R : Type} : Loops S R := LE.ls X qak qam qaf
theorem qas {R : Type} : LoopsOk X (qar (R := R)) := loop_ok xok qae (e := qak) qag qaq qag
theorem qat (x0 : SgMooring) (x1 : List SgLook) : evFn X qad [(.st 9), (.sl (.st 10))] [(.st 14), (.sl (.arr 5 (.int .u64))), (.int .i64)] qar 12 70 (x0, x1, ()) = swing_enter x0 x1:=by kernel_rfl
noncomputable def qau : F7 S := ⟨[(.st 9), (.sl (.st 10))], [(.st 14), (.sl (.arr 5 (.int .u64))), (.int .i64)], fun xs => swing_enter xs.1 xs.2.1⟩
theorem qav : FSOk X 70 qau := fsOk_eq (evFn_ok xok qae qas 12 70) fun xs _ h => (qat xs.1 xs.2.1).trans h
noncomputable def qaw : List (Nat × F7 S) := []
theorem qax : TabOk X (qaw) := trivial
abbrev qay {R : Type} : Loops S R := noLoops
theorem qaz {R : Type} : LoopsOk X (qay (R := R)) := noLoops_ok X
def qaA : Key := ⟨[80], 80, none, [0, 0, 1, 0, 1], 0, 5⟩
def qaB : StT S := ⟨(N (N (N (N L (some (.agg [(.arr (.int .u64) 5 (fun _ => tdf T (.int .u64)))])) L) (some (.ptr 1 0)) L) none L) none (N (N (N L vF L) (some (.ptr 2 0)) L) none L)), (N (N L o5 L) o5 (N L o5 L)), 5⟩
def qaC : Way S := ⟨(.exit 0), ⟨(N L none v1g), (N (N L o5 L) o5 (N L o5 L)), 6⟩, [(.arr (.int .u64)), (.arr (.int .u64)), (.arr (.int .u64))]⟩
def qaD : LE S := ⟨qaA, qaB, [(.arr (.int .u64)), .int, (.arr (.int .u64)), (.arr (.int .u64)), (.arr (.int .u64))], [qaC]⟩
def qaE (x : tL) : (Nat → Int) → ((Nat → Int) × (Nat → Int) × (Nat → Int)) := fun y0 => (x.2.2.1, x.2.2.2.1, y0)
noncomputable def qaF {R : Type} (x : tL) (k : ((Nat → Int) × (Nat → Int) × (Nat → Int)) → Option R) : Option R := (swing_set_common_L0_run x.1 x.2.2.1 x.2.2.2.1 (x.2.1, x.2.2.2.2)).bind (fun y0 => k (x.2.2.1, x.2.2.2.1, y0))
def qaG (x : tL) (v : (Int × (Nat → Int))) : tL := (x.1, v.1, x.2.2.1, x.2.2.2.1, v.2)
theorem qaH (x : tL) : LE.step X qaD qaw qay 12 x = swing_set_common_L0_step x.1 x.2.2.1 x.2.2.2.1 x.2.1 x.2.2.2.2 (fun w0 w1 => (Sum.inl (x.1, w0, x.2.2.1, x.2.2.2.1, w1))) (fun p0 => (Sum.inr (x.2.2.1, x.2.2.2.1, p0))):=by kernel_rfl
theorem qaJ {R : Type} (x : tL) (k : ((Nat → Int) × (Nat → Int) × (Nat → Int)) → Option R) (r : R) (h : qaF x k = some r) : ∃ o, Runs (LE.step X qaD qaw qay 12) x o ∧ k o = some r := by
  obtain ⟨o, h1, h2⟩ := some_bind h
  exact ⟨qaE x o, small_ok (st := fun (x : tL) => swing_set_common_L0_st x.1 x.2.2.1 x.2.2.2.1) (prj := fun x => (x.2.1, x.2.2.2.2)) (emb := qaG) (embO := qaE) (fun x => (qaH x).trans (by unfold swing_set_common_L0_st swing_set_common_L0_step; simp only [map_cond,map_bindO,map_elim,Option.map_some,Option.map_none]; rfl)) (fun _ _ => rfl) (fun _ _ => rfl) (fun _ _ _ => rfl) (fun _ _ _ => rfl) (fun _ => rfl) (runOf_some.1 h1), by
    first
    | exact h2
    | (rcases o with o <;> exact h2)⟩
noncomputable def qaK {R : Type} : Loops S R := LE.ls X qaD qaF qay
theorem qaL {R : Type} : LoopsOk X (qaK (R := R)) := loop_ok xok qax (e := qaD) qaz qaJ qaz
theorem qaM (x0 : Nat → Int) (x1 : Nat → Int) : evFn X qaw [(.arr 5 (.int .u64)), (.arr 5 (.int .u64))] [(.arr 5 (.int .u64))] qaK 12 80 (x0, x1, ()) = swing_set_common x0 x1:=by kernel_rfl
noncomputable def qaN : F7 S := ⟨[(.arr 5 (.int .u64)), (.arr 5 (.int .u64))], [(.arr 5 (.int .u64))], fun xs => swing_set_common xs.1 xs.2.1⟩
theorem qaO : FSOk X 80 qaN := fsOk_eq (evFn_ok xok qax qaL 12 80) fun xs _ h => (qaM xs.1 xs.2.1).trans h
noncomputable def qaP : List (Nat × F7 S) := []
theorem qaQ : TabOk X (qaP) := trivial
abbrev qaR {R : Type} : Loops S R := noLoops
theorem qaS {R : Type} : LoopsOk X (qaR (R := R)) := noLoops_ok X
def qaT : Key := ⟨[88], 88, none, [0, 0, 1, 0, 0, 1, 0, 0, 1, 0, 1, 1], 2, 17⟩
def qaU : StT S := ⟨(N (N (N L (some (.rs 17 0)) L) (some (.ptr 0 0)) (N L vF L)) none (N (N L vF L) none L)), (N (N L none o1n) oj L), 18⟩
def qaV : Way S := ⟨(.exit 2), ⟨(N (N (N L (some (.rs 17 0)) L) (some (.ptr 0 0)) L) none (N (N L vF L) none L)), (N (N L none o1n) oj L), 23⟩, [.int, (.lst (.st 2)), .nat, (.st 6)]⟩
def qaW : LE S := ⟨qaT, qaU, [.int, .int, (.lst (.st 2)), .nat, (.st 6)], [qaV]⟩
def qaX (x : t16) : (List Point) → t1c := fun y0 => (x.2.1, y0, x.2.2.2.1, x.2.2.2.2)
noncomputable def qaY {R : Type} (x : t16) (k : t1c → Option R) : Option R := (ref01_Moves_L1_run x.2.1 x.2.2.2.1 x.2.2.2.2 (x.1, x.2.2.1)).bind (fun y0 => k (x.2.1, y0, x.2.2.2.1, x.2.2.2.2))
def qaZ (x : t16) (v : (Int × (List Point))) : t16 := (v.1, x.2.1, v.2, x.2.2.2.1, x.2.2.2.2)
theorem qb0 (x : t16) : LE.step X qaW qaP qaR 12 x = ref01_Moves_L1_step x.2.1 x.2.2.2.1 x.2.2.2.2 x.1 x.2.2.1 (fun w0 w1 => (Sum.inl (w0, x.2.1, w1, x.2.2.2.1, x.2.2.2.2))) (fun p0 => (Sum.inr (x.2.1, p0, x.2.2.2.1, x.2.2.2.2))):=by kernel_rfl
theorem qb2 {R : Type} (x : t16) (k : t1c → Option R) (r : R) (h : qaY x k = some r) : ∃ o, Runs (LE.step X qaW qaP qaR 12) x o ∧ k o = some r := by
  obtain ⟨o, h1, h2⟩ := some_bind h
  exact ⟨qaX x o, small_ok (st := fun (x : t16) => ref01_Moves_L1_st x.2.1 x.2.2.2.1 x.2.2.2.2) (prj := fun x => (x.1, x.2.2.1)) (emb := qaZ) (embO := qaX) (fun x => (qb0 x).trans (by unfold ref01_Moves_L1_st ref01_Moves_L1_step; simp only [map_cond,map_bindO,map_elim,Option.map_some,Option.map_none]; rfl)) (fun _ _ => rfl) (fun _ _ => rfl) (fun _ _ _ => rfl) (fun _ _ _ => rfl) (fun _ => rfl) (runOf_some.1 h1), by
    first
    | exact h2
    | (rcases o with o <;> exact h2)⟩
noncomputable def qb3 {R : Type} : Loops S R := LE.ls X qaW qaY qaR
theorem qb4 {R : Type} : LoopsOk X (qb3 (R := R)) := loop_ok xok qaQ (e := qaW) qaS qb2 qaS
def qb5 : Key := ⟨[88], 88, none, [0, 0, 1, 0, 1, 1], 0, 7⟩
def qb6 : StT S := ⟨(N (N (N L (some (.rs 7 0)) L) (some (.ptr 0 0)) L) none (N (N L vF L) none L)), (N o1n oj L), 8⟩
def qb7 : Way S := ⟨(.exit 0), ⟨(N (N (N L (some (.rs 7 0)) L) none L) none L), (N o1n oj L), 13⟩, [(.lst (.st 2)), .nat, (.st 6)]⟩
def qb8 : LE S := ⟨qb5, qb6, [.int, (.lst (.st 2)), .nat, (.st 6)], [qb7]⟩
def qb9 (x : t1c) : (List Point) → ((List Point) × Nat × CtBox) := fun y0 => (y0, x.2.2.1, x.2.2.2)
noncomputable def qba {R : Type} (x : t1c) (k : ((List Point) × Nat × CtBox) → Option R) : Option R := (ref01_Moves_L0_run x.2.2.1 x.2.2.2 (x.1, x.2.1)).bind (fun y0 => k (y0, x.2.2.1, x.2.2.2))
def qbb (x : t1c) (v : (Int × (List Point))) : t1c := (v.1, v.2, x.2.2.1, x.2.2.2)
theorem qbc (x : t1c) : LE.step X qb8 qaP qb3 12 x = ref01_Moves_L0_step x.2.2.1 x.2.2.2 x.1 x.2.1 (fun w0 w1 => (Sum.inl (w0, w1, x.2.2.1, x.2.2.2))) (fun p0 => (Sum.inr (p0, x.2.2.1, x.2.2.2))):=by kernel_rfl
theorem qbe {R : Type} (x : t1c) (k : ((List Point) × Nat × CtBox) → Option R) (r : R) (h : qba x k = some r) : ∃ o, Runs (LE.step X qb8 qaP qb3 12) x o ∧ k o = some r := by
  obtain ⟨o, h1, h2⟩ := some_bind h
  exact ⟨qb9 x o, small_ok (st := fun (x : t1c) => ref01_Moves_L0_st x.2.2.1 x.2.2.2) (prj := fun x => (x.1, x.2.1)) (emb := qbb) (embO := qb9) (fun x => (qbc x).trans (by unfold ref01_Moves_L0_st ref01_Moves_L0_step; simp only [map_cond,map_bindO,map_elim,Option.map_some,Option.map_none]; rfl)) (fun _ _ => rfl) (fun _ _ => rfl) (fun _ _ _ => rfl) (fun _ _ _ => rfl) (fun _ => rfl) (runOf_some.1 h1), by
    first
    | exact h2
    | (rcases o with o <;> exact h2)⟩
noncomputable def qbf {R : Type} : Loops S R := LE.ls X qb8 qba qb3
theorem qbg {R : Type} : LoopsOk X (qbf (R := R)) := loop_ok xok qaQ (e := qb8) qb4 qbe qb4
theorem qbh (x0 : CtBox) : evFn X qaP [(.st 6)] [(.sl (.st 2))] qbf 12 88 (x0, ()) = ref01_Moves x0:=by kernel_rfl
noncomputable def qbi : F7 S := ⟨[(.st 6)], [(.sl (.st 2))], fun xs => ref01_Moves xs.1⟩
theorem qbj : FSOk X 88 qbi := fsOk_eq (evFn_ok xok qaQ qbg 12 88) fun xs _ h => (qbh xs.1).trans h
noncomputable def qbk : List (Nat × F7 S) := [(88, qbi)]
theorem qbl : TabOk X (qbk) := ⟨qbj, trivial⟩
abbrev qbm {R : Type} : Loops S R := noLoops
theorem qbn {R : Type} : LoopsOk X (qbm (R := R)) := noLoops_ok X
theorem qbo (x0 : SgMooring) : evFn X qbk [(.st 9)] [(.sl (.st 2))] qbm 12 75 (x0, ()) = ref04_All x0:=by kernel_rfl
noncomputable def qbp : F7 S := ⟨[(.st 9)], [(.sl (.st 2))], fun xs => ref04_All xs.1⟩
theorem qbq : FSOk X 75 qbp := fsOk_eq (evFn_ok xok qbl qbn 12 75) fun xs _ h => (qbo xs.1).trans h
noncomputable def qbr : List (Nat × F7 S) := []
theorem qbs : TabOk X (qbr) := trivial
abbrev qbt {R : Type} : Loops S R := noLoops
theorem qbu {R : Type} : LoopsOk X (qbt (R := R)) := noLoops_ok X
theorem qbv (x0 : Point) : evFn X qbr [(.st 2)] [(.int .i64)] qbt 12 114 (x0, ()) = ref04_square x0:=by kernel_rfl
noncomputable def qbw : F7 S := ⟨[(.st 2)], [(.int .i64)], fun xs => ref04_square xs.1⟩
theorem qbx : FSOk X 114 qbw := fsOk_eq (evFn_ok xok qbs qbu 12 114) fun xs _ h => (qbv xs.1).trans h
noncomputable def qby : List (Nat × F7 S) := []
theorem qbz : TabOk X (qby) := trivial
abbrev qbA {R : Type} : Loops S R := noLoops
theorem qbB {R : Type} : LoopsOk X (qbA (R := R)) := noLoops_ok X
theorem qbC (x0 : Point) : evFn X qby [(.st 2)] [(.st 2)] qbA 12 134 (x0, ()) = ref01_turned x0:=by kernel_rfl
noncomputable def qbD : F7 S := ⟨[(.st 2)], [(.st 2)], fun xs => ref01_turned xs.1⟩
theorem qbE : FSOk X 134 qbD := fsOk_eq (evFn_ok xok qbz qbB 12 134) fun xs _ h => (qbC xs.1).trans h
noncomputable def qbF (ih : (Int × Unit) → Option (Point)) : List (Nat × F7 S) := [(134, qbD), (118, ⟨[(.int .i64)], [(.st 2)], ih⟩)]
theorem qbG (ih : (Int × Unit) → Option (Point)) (hih : FSOk X 118 ⟨[(.int .i64)], [(.st 2)], ih⟩) : TabOk X (qbF ih) := ⟨qbE, hih, trivial⟩
abbrev qbH (ih : (Int × Unit) → Option (Point)) {R : Type} : Loops S R := noLoops
theorem qbI (ih : (Int × Unit) → Option (Point)) (hih : FSOk X 118 ⟨[(.int .i64)], [(.st 2)], ih⟩) {R : Type} : LoopsOk X (qbH ih (R := R)) := noLoops_ok X
theorem qbJ (ih : (Int × Unit) → Option (Point)) (x0 : Int) : evFn X (qbF ih) [(.int .i64)] [(.st 2)] (qbH ih) 12 118 (x0, ()) = ref01_Compass_one ih x0:=by kernel_rfl
noncomputable def qbK : F7 S := ⟨[(.int .i64)], [(.st 2)], fun xs => ref01_Compass xs.1⟩
theorem qbL : FSOk X 118 qbK := rec_ok (X := X) (g := 118) (pts := [(.int .i64)]) (rts := [(.st 2)]) (t := ref01_Compass_rec) fun ih hih => fsOk_eq (evFn_ok xok (qbG ih hih) (qbI ih hih) 12 118) fun xs _ h => (qbJ ih xs.1).trans h
noncomputable def qbM : List (Nat × F7 S) := [(118, qbK), (92, q5i)]
theorem qbN : TabOk X (qbM) := ⟨qbL, q5j, trivial⟩
abbrev qbO {R : Type} : Loops S R := noLoops
theorem qbP {R : Type} : LoopsOk X (qbO (R := R)) := noLoops_ok X
def qbQ : Key := ⟨[91], 91, none, [0, 0, 0, 1, 1], 0, 3⟩
def qbR : StT S := ⟨(N (N (N L vF L) (some (.ptr 0 0)) L) none L), (N L of L), 3⟩
def qbS : Way S := ⟨(.exit 0), ⟨v1i, (N L of L), 17⟩, [.int, (.st 2)]⟩
def qbT : LE S := ⟨qbQ, qbR, [.int, (.st 2)], [qbS]⟩
def qbU (x : (Int × Point)) : Int → (Int × Point) := fun y0 => (y0, x.2)
noncomputable def qbV {R : Type} (x : (Int × Point)) (k : (Int × Point) → Option R) : Option R := (ref01_Toward_L0_run x.2 x.1).bind (fun y0 => k (y0, x.2))
def qbW (x : (Int × Point)) (v : Int) : (Int × Point) := (v, x.2)
theorem qbX (x : (Int × Point)) : LE.step X qbT qbM qbO 12 x = ref01_Toward_L0_step x.2 x.1 (fun w0 => (Sum.inl (w0, x.2))) (fun p0 => (Sum.inr (p0, x.2))):=by kernel_rfl
theorem qbZ {R : Type} (x : (Int × Point)) (k : (Int × Point) → Option R) (r : R) (h : qbV x k = some r) : ∃ o, Runs (LE.step X qbT qbM qbO 12) x o ∧ k o = some r := by
  obtain ⟨o, h1, h2⟩ := some_bind h
  exact ⟨qbU x o, small_ok (st := fun (x : (Int × Point)) => ref01_Toward_L0_st x.2) (prj := fun x => x.1) (emb := qbW) (embO := qbU) (fun x => (qbX x).trans (by unfold ref01_Toward_L0_st ref01_Toward_L0_step; simp only [map_cond,map_bindO,map_elim,Option.map_some,Option.map_none]; rfl)) (fun _ _ => rfl) (fun _ _ => rfl) (fun _ _ _ => rfl) (fun _ _ _ => rfl) (fun _ => rfl) (runOf_some.1 h1), by
    first
    | exact h2
    | (rcases o with o <;> exact h2)⟩
noncomputable def qc0 {R : Type} : Loops S R := LE.ls X qbT qbV qbO
theorem qc1 {R : Type} : LoopsOk X (qc0 (R := R)) := loop_ok xok qbN (e := qbT) qbP qbZ qbP
theorem qc2 (x0 : Point) : evFn X qbM [(.st 2)] [(.int .i64)] qc0 12 91 (x0, ()) = ref01_Toward x0:=by kernel_rfl
noncomputable def qc3 : F7 S := ⟨[(.st 2)], [(.int .i64)], fun xs => ref01_Toward xs.1⟩
theorem qc4 : FSOk X 91 qc3 := fsOk_eq (evFn_ok xok qbN qc1 12 91) fun xs _ h => (qc2 xs.1).trans h
noncomputable def qc5 : List (Nat × F7 S) := [(93, q5b), (114, qbw), (66, q74), (91, qc3)]
theorem qc6 : TabOk X (qc5) := ⟨q5c, qbx, q75, qc4, trivial⟩
abbrev qc7 {R : Type} : Loops S R := noLoops
theorem qc8 {R : Type} : LoopsOk X (qc7 (R := R)) := noLoops_ok X
def qc9 : Key := ⟨[79], 79, none, [0, 0, 1, 0, 1, 1, 1, 1, 1], 0, 63⟩
def qca : StT S := ⟨(N (N (N L none (N L vF L)) none (N L (some (.ptr 1 0)) L)) none v1j), o16, 63⟩
def qcb : Way S := ⟨.ret, ⟨(N L none (N (N (N L vE L) none L) none L)), o16, 75⟩, [.bool, (.st 2), (.st 10), (.st 9), (.st 2), (.st 2)]⟩
def qcc : Way S := ⟨(.exit 0), ⟨L, o16, 67⟩, [(.st 2), (.st 10), (.st 9), (.st 2), (.st 2)]⟩
def qcd : LE S := ⟨qc9, qca, [.int, .int, (.st 2), (.st 10), (.st 9), (.st 2), (.st 2)], [qcb, qcc]⟩
def qce (x : tN) : (Bool ⊕ Unit) → tp := Sum.elim (fun y0 => (.inl (y0, x.2.2.1, x.2.2.2.1, x.2.2.2.2.1, x.2.2.2.2.2.1, x.2.2.2.2.2.2))) (fun y1 => (.inr (x.2.2.1, x.2.2.2.1, x.2.2.2.2.1, x.2.2.2.2.2.1, x.2.2.2.2.2.2)))
noncomputable def qcf {R : Type} (x : tN) (k : tp → Option R) : Option R := (ref04_Can_L0_run x.2.1 x.2.2.1 x.2.2.2.1 x.2.2.2.2.1 x.2.2.2.2.2.1 x.2.2.2.2.2.2 x.1).bind (Sum.elim (fun y0 => k (.inl (y0, x.2.2.1, x.2.2.2.1, x.2.2.2.2.1, x.2.2.2.2.2.1, x.2.2.2.2.2.2))) (fun y1 => k (.inr (x.2.2.1, x.2.2.2.1, x.2.2.2.2.1, x.2.2.2.2.2.1, x.2.2.2.2.2.2))))
def qcg (x : tN) (v : Int) : tN := (v, x.2.1, x.2.2.1, x.2.2.2.1, x.2.2.2.2.1, x.2.2.2.2.2.1, x.2.2.2.2.2.2)
theorem qch (x : tN) : LE.step X qcd qc5 qc7 12 x = ref04_Can_L0_step x.2.1 x.2.2.1 x.2.2.2.1 x.2.2.2.2.1 x.2.2.2.2.2.1 x.2.2.2.2.2.2 x.1 (fun w0 => (Sum.inl (w0, x.2.1, x.2.2.1, x.2.2.2.1, x.2.2.2.2.1, x.2.2.2.2.2.1, x.2.2.2.2.2.2))) (fun p0 => (Sum.inr (.inl (p0, x.2.2.1, x.2.2.2.1, x.2.2.2.2.1, x.2.2.2.2.2.1, x.2.2.2.2.2.2)))) (Sum.inr (.inr (x.2.2.1, x.2.2.2.1, x.2.2.2.2.1, x.2.2.2.2.2.1, x.2.2.2.2.2.2))):=by kernel_rfl
theorem qcj {R : Type} (x : tN) (k : tp → Option R) (r : R) (h : qcf x k = some r) : ∃ o, Runs (LE.step X qcd qc5 qc7 12) x o ∧ k o = some r := by
  obtain ⟨o, h1, h2⟩ := some_bind h
  exact ⟨qce x o, small_ok (st := fun (x : tN) => ref04_Can_L0_st x.2.1 x.2.2.1 x.2.2.2.1 x.2.2.2.2.1 x.2.2.2.2.2.1 x.2.2.2.2.2.2) (prj := fun x => x.1) (emb := qcg) (embO := qce) (fun x => (qch x).trans (by unfold ref04_Can_L0_st ref04_Can_L0_step; simp only [map_cond,map_bindO,map_elim,Option.map_some,Option.map_none]; rfl)) (fun _ _ => rfl) (fun _ _ => rfl) (fun _ _ _ => rfl) (fun _ _ _ => rfl) (fun _ => rfl) (runOf_some.1 h1), by
    first
    | exact h2
    | (rcases o with o | o <;> exact h2)⟩
noncomputable def qck {R : Type} : Loops S R := LE.ls X qcd qcf qc7
theorem qcl {R : Type} : LoopsOk X (qck (R := R)) := loop_ok xok qc6 (e := qcd) qc8 qcj qc8
theorem qcm (x0 : SgMooring) (x1 : SgLook) (x2 : Point) (x3 : Point) : evFn X qc5 [(.st 9), (.st 10), (.st 2), (.st 2)] [.bool] qck 12 79 (x0, x1, x2, x3, ()) = ref04_Can x0 x1 x2 x3:=by kernel_rfl
noncomputable def qcn : F7 S := ⟨[(.st 9), (.st 10), (.st 2), (.st 2)], [.bool], fun xs => ref04_Can xs.1 xs.2.1 xs.2.2.1 xs.2.2.2.1⟩
theorem qco : FSOk X 79 qcn := fsOk_eq (evFn_ok xok qc6 qcl 12 79) fun xs _ h => (qcm xs.1 xs.2.1 xs.2.2.1 xs.2.2.2.1).trans h
noncomputable def qcp : List (Nat × F7 S) := [(88, qbi), (79, qcn)]
theorem qcq : TabOk X (qcp) := ⟨qbj, qco, trivial⟩
abbrev qcr {R : Type} : Loops S R := noLoops
theorem qcs {R : Type} : LoopsOk X (qcr (R := R)) := noLoops_ok X
def qct : Key := ⟨[109], 109, none, [0, 0, 1, 0, 1, 1], 0, 9⟩
def qcu : StT S := ⟨(N (N (N (N L vD L) (some (.ptr 0 0)) L) none (N L (some (.ptr 2 0)) L)) none (N (N (N L vF L) (some (.ptr 1 0)) L) none L)), (N (N L oa L) oi (N L of L)), 9⟩
def qcv : Way S := ⟨.ret, ⟨(N L none (N L none (N L vE L))), (N (N L oa L) oi (N L of L)), 22⟩, [.bool, (.st 10), (.st 9), (.st 2)]⟩
def qcw : Way S := ⟨(.exit 0), ⟨L, (N (N L oa L) oi (N L of L)), 13⟩, [(.st 10), (.st 9), (.st 2)]⟩
def qcx : LE S := ⟨qct, qcu, [(.lst (.st 2)), .int, (.st 10), (.st 9), (.st 2)], [qcv, qcw]⟩
def qcy (x : tV) : (Bool ⊕ Unit) → tG := Sum.elim (fun y0 => (.inl (y0, x.2.2.1, x.2.2.2.1, x.2.2.2.2))) (fun y1 => (.inr (x.2.2.1, x.2.2.2.1, x.2.2.2.2)))
noncomputable def qcz {R : Type} (x : tV) (k : tG → Option R) : Option R := (ref04_Agrees_L0_run x.1 x.2.2.1 x.2.2.2.1 x.2.2.2.2 x.2.1).bind (Sum.elim (fun y0 => k (.inl (y0, x.2.2.1, x.2.2.2.1, x.2.2.2.2))) (fun y1 => k (.inr (x.2.2.1, x.2.2.2.1, x.2.2.2.2))))
def qcA (x : tV) (v : Int) : tV := (x.1, v, x.2.2.1, x.2.2.2.1, x.2.2.2.2)
theorem qcB (x : tV) : LE.step X qcx qcp qcr 12 x = ref04_Agrees_L0_step x.1 x.2.2.1 x.2.2.2.1 x.2.2.2.2 x.2.1 (fun w0 => (Sum.inl (x.1, w0, x.2.2.1, x.2.2.2.1, x.2.2.2.2))) (fun p0 => (Sum.inr (.inl (p0, x.2.2.1, x.2.2.2.1, x.2.2.2.2)))) (Sum.inr (.inr (x.2.2.1, x.2.2.2.1, x.2.2.2.2))):=by kernel_rfl
theorem qcD {R : Type} (x : tV) (k : tG → Option R) (r : R) (h : qcz x k = some r) : ∃ o, Runs (LE.step X qcx qcp qcr 12) x o ∧ k o = some r := by
  obtain ⟨o, h1, h2⟩ := some_bind h
  exact ⟨qcy x o, small_ok (st := fun (x : tV) => ref04_Agrees_L0_st x.1 x.2.2.1 x.2.2.2.1 x.2.2.2.2) (prj := fun x => x.2.1) (emb := qcA) (embO := qcy) (fun x => (qcB x).trans (by unfold ref04_Agrees_L0_st ref04_Agrees_L0_step; simp only [map_cond,map_bindO,map_elim,Option.map_some,Option.map_none]; rfl)) (fun _ _ => rfl) (fun _ _ => rfl) (fun _ _ _ => rfl) (fun _ _ _ => rfl) (fun _ => rfl) (runOf_some.1 h1), by
    first
    | exact h2
    | (rcases o with o | o <;> exact h2)⟩
noncomputable def qcE {R : Type} : Loops S R := LE.ls X qcx qcz qcr
theorem qcF {R : Type} : LoopsOk X (qcE (R := R)) := loop_ok xok qcq (e := qcx) qcs qcD qcs
theorem qcG (x0 : SgMooring) (x1 : SgLook) (x2 : Point) : evFn X qcp [(.st 9), (.st 10), (.st 2)] [.bool] qcE 12 109 (x0, x1, x2, ()) = ref04_Agrees x0 x1 x2:=by kernel_rfl
noncomputable def qcH : F7 S := ⟨[(.st 9), (.st 10), (.st 2)], [.bool], fun xs => ref04_Agrees xs.1 xs.2.1 xs.2.2.1⟩
theorem qcI : FSOk X 109 qcH := fsOk_eq (evFn_ok xok qcq qcF 12 109) fun xs _ h => (qcG xs.1 xs.2.1 xs.2.2.1).trans h
noncomputable def qcJ : List (Nat × F7 S) := [(109, qcH)]
theorem qcK : TabOk X (qcJ) := ⟨qcI, trivial⟩
abbrev qcL {R : Type} : Loops S R := noLoops
theorem qcM {R : Type} : LoopsOk X (qcL (R := R)) := noLoops_ok X
def qcN : Key := ⟨[74], 74, none, [0, 0, 1, 0, 1, 0, 0, 1, 0, 0, 1, 0, 1, 1], 2, 11⟩
def qcO : StT S := ⟨(N vY none (N (N (N L vF L) none L) vD (N (N L vF L) none L))), (N (N (N L none (N L ou L)) none L) oi L), 12⟩
def qcP : Way S := ⟨(.exit 2), ⟨(N vY none (N (N (N L vF L) none L) vD L)), (N (N (N L none (N L ou L)) none L) oi L), 19⟩, [(.lst (.st 10)), .bool, .int, (.lst (.st 2)), (.lst (.st 2)), .nat, (.st 9)]⟩
def qcQ : LE S := ⟨qcN, qcO, [(.lst (.st 10)), .bool, .int, (.lst (.st 2)), .int, (.lst (.st 2)), .nat, (.st 9)], [qcP]⟩
def qcR (x : ty) : Bool → tA := fun y0 => (x.1, y0, x.2.2.1, x.2.2.2.1, x.2.2.2.2.2.1, x.2.2.2.2.2.2.1, x.2.2.2.2.2.2.2)
noncomputable def qcS {R : Type} (x : ty) (k : tA → Option R) : Option R := (ref04_Held_L1_run x.1 x.2.2.1 x.2.2.2.1 x.2.2.2.2.2.1 x.2.2.2.2.2.2.1 x.2.2.2.2.2.2.2 (x.2.1, x.2.2.2.2.1)).bind (fun y0 => k (x.1, y0, x.2.2.1, x.2.2.2.1, x.2.2.2.2.2.1, x.2.2.2.2.2.2.1, x.2.2.2.2.2.2.2))
def qcT (x : ty) (v : (Bool × Int)) : ty := (x.1, v.1, x.2.2.1, x.2.2.2.1, v.2, x.2.2.2.2.2.1, x.2.2.2.2.2.2.1, x.2.2.2.2.2.2.2)
theorem qcU (x : ty) : LE.step X qcQ qcJ qcL 12 x = ref04_Held_L1_step x.1 x.2.2.1 x.2.2.2.1 x.2.2.2.2.2.1 x.2.2.2.2.2.2.1 x.2.2.2.2.2.2.2 x.2.1 x.2.2.2.2.1 (fun w0 w1 => (Sum.inl (x.1, w0, x.2.2.1, x.2.2.2.1, w1, x.2.2.2.2.2.1, x.2.2.2.2.2.2.1, x.2.2.2.2.2.2.2))) (fun p0 => (Sum.inr (x.1, p0, x.2.2.1, x.2.2.2.1, x.2.2.2.2.2.1, x.2.2.2.2.2.2.1, x.2.2.2.2.2.2.2))):=by kernel_rfl
theorem qcW {R : Type} (x : ty) (k : tA → Option R) (r : R) (h : qcS x k = some r) : ∃ o, Runs (LE.step X qcQ qcJ qcL 12) x o ∧ k o = some r := by
  obtain ⟨o, h1, h2⟩ := some_bind h
  exact ⟨qcR x o, small_ok (st := fun (x : ty) => ref04_Held_L1_st x.1 x.2.2.1 x.2.2.2.1 x.2.2.2.2.2.1 x.2.2.2.2.2.2.1 x.2.2.2.2.2.2.2) (prj := fun x => (x.2.1, x.2.2.2.2.1)) (emb := qcT) (embO := qcR) (fun x => (qcU x).trans (by unfold ref04_Held_L1_st ref04_Held_L1_step; simp only [map_cond,map_bindO,map_elim,Option.map_some,Option.map_none]; rfl)) (fun _ _ => rfl) (fun _ _ => rfl) (fun _ _ _ => rfl) (fun _ _ _ => rfl) (fun _ => rfl) (runOf_some.1 h1), by
    first
    | exact h2
    | (rcases o with o <;> exact h2)⟩
noncomputable def qcX {R : Type} : Loops S R := LE.ls X qcQ qcS qcL
theorem qcY {R : Type} : LoopsOk X (qcX (R := R)) := loop_ok xok qcK (e := qcQ) qcM qcW qcM
def qcZ : Key := ⟨[74], 74, none, [0, 0, 1, 0, 1, 1], 0, 4⟩
def qd0 : StT S := ⟨(N (N (N (N L (some (.rs 4 0)) L) (some (.ptr 0 0)) L) vC L) none (N (N (N L vF L) none L) vD L)), (N L oi (N (N L ou L) none L)), 5⟩
def qd1 : Way S := ⟨(.exit 0), ⟨(N (N (N (N L (some (.rs 4 0)) L) none L) none L) none L), (N L oi (N (N L ou L) none L)), 9⟩, [(.st 9), (.lst (.st 2)), .nat]⟩
def qd2 : LE S := ⟨qcZ, qd0, [(.lst (.st 10)), .int, (.lst (.st 2)), (.st 9), (.lst (.st 2)), .nat], [qd1]⟩
def qd3 (x : tE) : (List Point) → (SgMooring × (List Point) × Nat) := fun y0 => (x.2.2.2.1, y0, x.2.2.2.2.2)
noncomputable def qd4 {R : Type} (x : tE) (k : (SgMooring × (List Point) × Nat) → Option R) : Option R := (ref04_Held_L0_run x.1 x.2.2.1 x.2.2.2.1 x.2.2.2.2.2 (x.2.1, x.2.2.2.2.1)).bind (fun y0 => k (x.2.2.2.1, y0, x.2.2.2.2.2))
def qd5 (x : tE) (v : (Int × (List Point))) : tE := (x.1, v.1, x.2.2.1, x.2.2.2.1, v.2, x.2.2.2.2.2)
theorem qd6 (x : tE) : LE.step X qd2 qcJ qcX 12 x = ref04_Held_L0_step x.1 x.2.2.1 x.2.2.2.1 x.2.2.2.2.2 x.2.1 x.2.2.2.2.1 (fun w0 w1 => (Sum.inl (x.1, w0, x.2.2.1, x.2.2.2.1, w1, x.2.2.2.2.2))) (fun p0 => (Sum.inr (x.2.2.2.1, p0, x.2.2.2.2.2))):=by kernel_rfl
theorem qd8 {R : Type} (x : tE) (k : (SgMooring × (List Point) × Nat) → Option R) (r : R) (h : qd4 x k = some r) : ∃ o, Runs (LE.step X qd2 qcJ qcX 12) x o ∧ k o = some r := by
  obtain ⟨o, h1, h2⟩ := some_bind h
  exact ⟨qd3 x o, small_ok (st := fun (x : tE) => ref04_Held_L0_st x.1 x.2.2.1 x.2.2.2.1 x.2.2.2.2.2) (prj := fun x => (x.2.1, x.2.2.2.2.1)) (emb := qd5) (embO := qd3) (fun x => (qd6 x).trans (by unfold ref04_Held_L0_st ref04_Held_L0_step; simp only [map_cond,map_bindO,map_elim,Option.map_some,Option.map_none]; rfl)) (fun _ _ => rfl) (fun _ _ => rfl) (fun _ _ _ => rfl) (fun _ _ _ => rfl) (fun _ => rfl) (runOf_some.1 h1), by
    first
    | exact h2
    | (rcases o with o <;> exact h2)⟩
noncomputable def qd9 {R : Type} : Loops S R := LE.ls X qd2 qd4 qcX
theorem qda {R : Type} : LoopsOk X (qd9 (R := R)) := loop_ok xok qcK (e := qd2) qcY qd8 qcY
theorem qdb (x0 : SgMooring) (x1 : List SgLook) (x2 : List Point) : evFn X qcJ [(.st 9), (.sl (.st 10)), (.sl (.st 2))] [(.sl (.st 2))] qd9 12 74 (x0, x1, x2, ()) = ref04_Held x0 x1 x2:=by kernel_rfl
noncomputable def qdc : F7 S := ⟨[(.st 9), (.sl (.st 10)), (.sl (.st 2))], [(.sl (.st 2))], fun xs => ref04_Held xs.1 xs.2.1 xs.2.2.1⟩
theorem qdd : FSOk X 74 qdc := fsOk_eq (evFn_ok xok qcK qda 12 74) fun xs _ h => (qdb xs.1 xs.2.1 xs.2.2.1).trans h
noncomputable def qde : List (Nat × F7 S) := [(70, qau), (80, qaN)]
theorem qdf : TabOk X (qde) := ⟨qav, qaO, trivial⟩
abbrev qdg {R : Type} : Loops S R := noLoops
theorem qdh {R : Type} : LoopsOk X (qdg (R := R)) := noLoops_ok X
def qdi : Key := ⟨[27], 27, none, [0, 0, 1, 0, 1, 1, 1, 1], 0, 23⟩
def qdj : StT S := ⟨(N (N L none (N (N L (some (.ptr 18 0)) (N L vF L)) none L)) none (N (N (N L none (N L vn L)) none L) none v1l)), (N L oi o1f), 23⟩
def qdk : Way S := ⟨.ret, ⟨v1a, (N (N o1o none L) oi o1f), 40⟩, [.int, .int, (.arr (.int .u64)), (.st 9), (.arr (.int .u64)), (.st 14)]⟩
def qdl : Way S := ⟨(.exit 0), ⟨L, (N L oi o1f), 24⟩, [(.st 9), (.arr (.int .u64)), (.st 14)]⟩
def qdm : LE S := ⟨qdi, qdj, [.int, (.lst (.arr 5 (.int .u64))), .int, (.st 9), (.arr (.int .u64)), (.st 14)], [qdk, qdl]⟩
def qdn (x : tC) : ((Int × Int × (Nat → Int) × (Nat → Int)) ⊕ (Nat → Int)) → tk := Sum.elim (fun y0 => (.inl (y0.1, y0.2.1, y0.2.2.1, x.2.2.2.1, y0.2.2.2, x.2.2.2.2.2))) (fun y1 => (.inr (x.2.2.2.1, y1, x.2.2.2.2.2)))
noncomputable def qdo {R : Type} (x : tC) (k : tk → Option R) : Option R := (swing_Dragged_L0_run x.1 x.2.1 x.2.2.2.1 x.2.2.2.2.2 (x.2.2.1, x.2.2.2.2.1)).bind (Sum.elim (fun y0 => k (.inl (y0.1, y0.2.1, y0.2.2.1, x.2.2.2.1, y0.2.2.2, x.2.2.2.2.2))) (fun y1 => k (.inr (x.2.2.2.1, y1, x.2.2.2.2.2))))
def qdp (x : tC) (v : (Int × (Nat → Int))) : tC := (x.1, x.2.1, v.1, x.2.2.2.1, v.2, x.2.2.2.2.2)
theorem qdq (x : tC) : LE.step X qdm qde qdg 12 x = swing_Dragged_L0_step x.1 x.2.1 x.2.2.2.1 x.2.2.2.2.2 x.2.2.1 x.2.2.2.2.1 (fun w0 w1 => (Sum.inl (x.1, x.2.1, w0, x.2.2.2.1, w1, x.2.2.2.2.2))) (fun p0 p1 p2 p3 => (Sum.inr (.inl (p0, p1, p2, x.2.2.2.1, p3, x.2.2.2.2.2)))) (fun p0 => (Sum.inr (.inr (x.2.2.2.1, p0, x.2.2.2.2.2)))):=by kernel_rfl
theorem qds {R : Type} (x : tC) (k : tk → Option R) (r : R) (h : qdo x k = some r) : ∃ o, Runs (LE.step X qdm qde qdg 12) x o ∧ k o = some r := by
  obtain ⟨o, h1, h2⟩ := some_bind h
  exact ⟨qdn x o, small_ok (st := fun (x : tC) => swing_Dragged_L0_st x.1 x.2.1 x.2.2.2.1 x.2.2.2.2.2) (prj := fun x => (x.2.2.1, x.2.2.2.2.1)) (emb := qdp) (embO := qdn) (fun x => (qdq x).trans (by unfold swing_Dragged_L0_st swing_Dragged_L0_step; simp only [map_cond,map_bindO,map_elim,Option.map_some,Option.map_none]; rfl)) (fun _ _ => rfl) (fun _ _ => rfl) (fun _ _ _ => rfl) (fun _ _ _ => rfl) (fun _ => rfl) (runOf_some.1 h1), by
    first
    | exact h2
    | (rcases o with o | o <;> exact h2)⟩
noncomputable def qdt {R : Type} : Loops S R := LE.ls X qdm qdo qdg
theorem qdu {R : Type} : LoopsOk X (qdt (R := R)) := loop_ok xok qdf (e := qdm) qdh qds qdh
theorem qdv (x0 : SgMooring) (x1 : List SgLook) : evFn X qde [(.st 9), (.sl (.st 10))] [(.int .i64), (.int .i64)] qdt 12 27 (x0, x1, ()) = swing_Dragged x0 x1:=by kernel_rfl
noncomputable def qdw : F7 S := ⟨[(.st 9), (.sl (.st 10))], [(.int .i64), (.int .i64)], fun xs => swing_Dragged xs.1 xs.2.1⟩
theorem qdx : FSOk X 27 qdw := fsOk_eq (evFn_ok xok qdf qdu 12 27) fun xs _ h => (qdv xs.1 xs.2.1).trans h
noncomputable def qdy : List (Nat × F7 S) := [(80, qaN)]
theorem qdz : TabOk X (qdy) := ⟨qaO, trivial⟩
abbrev qdA {R : Type} : Loops S R := noLoops
theorem qdB {R : Type} : LoopsOk X (qdA (R := R)) := noLoops_ok X
def qdC : Key := ⟨[82], 82, none, [0, 0, 1, 0, 1, 1, 1], 0, 13⟩
def qdD : StT S := ⟨(N (N (N (N (N L vF L) (some (.fn (.func 115) [] [(.ptr 2 0), (.ptr 1 0), (.ptr 6 0)])) L) none L) none (N L none (N L vn L))) none (N (N L (some (.ptr 2 0)) L) none (N L (some (.ptr 6 0)) (N L vF L)))), o17, 14⟩
def qdE : Way S := ⟨.ret, ⟨(N (N L none (N L vE L)) none v1g), (N (N L o6 (N L none (N L op L))) o9 (N L ov (N (N (N L o5 L) none L) o5 L))), 27⟩, [.bool, (.lst (.arr 5 (.int .u64))), (.lst (.int .i64)), .nat, (.st 14), (.arr (.int .u64)), (.arr (.int .u64))]⟩
def qdF : Way S := ⟨(.exit 0), ⟨(N L none v1g), o17, 15⟩, [(.lst (.arr 5 (.int .u64))), (.lst (.int .i64)), .nat, (.st 14), (.arr (.int .u64))]⟩
def qdG : LE S := ⟨qdC, qdD, [.int, (.lst (.arr 5 (.int .u64))), .int, (.lst (.arr 5 (.int .u64))), (.lst (.int .i64)), .nat, (.st 14), (.arr (.int .u64))], [qdE, qdF]⟩
def qdH (x : tn) : ((Bool × (List Int) × (Nat → Int) × (Nat → Int)) ⊕ ((List Int) × (Nat → Int))) → tb := Sum.elim (fun y0 => (.inl (y0.1, x.2.2.2.1, y0.2.1, x.2.2.2.2.2.1, x.2.2.2.2.2.2.1, y0.2.2.1, y0.2.2.2))) (fun y1 => (.inr (x.2.2.2.1, y1.1, x.2.2.2.2.2.1, x.2.2.2.2.2.2.1, y1.2)))
noncomputable def qdI {R : Type} (x : tn) (k : tb → Option R) : Option R := (swing_mooring_drags_L0_run x.2.1 x.2.2.1 x.2.2.2.1 x.2.2.2.2.2.1 x.2.2.2.2.2.2.1 (x.1, x.2.2.2.2.1, x.2.2.2.2.2.2.2)).bind (Sum.elim (fun y0 => k (.inl (y0.1, x.2.2.2.1, y0.2.1, x.2.2.2.2.2.1, x.2.2.2.2.2.2.1, y0.2.2.1, y0.2.2.2))) (fun y1 => k (.inr (x.2.2.2.1, y1.1, x.2.2.2.2.2.1, x.2.2.2.2.2.2.1, y1.2))))
def qdJ (x : tn) (v : (Int × (List Int) × (Nat → Int))) : tn := (v.1, x.2.1, x.2.2.1, x.2.2.2.1, v.2.1, x.2.2.2.2.2.1, x.2.2.2.2.2.2.1, v.2.2)
theorem qdK (x : tn) : LE.step X qdG qdy qdA 12 x = swing_mooring_drags_L0_step x.2.1 x.2.2.1 x.2.2.2.1 x.2.2.2.2.2.1 x.2.2.2.2.2.2.1 x.1 x.2.2.2.2.1 x.2.2.2.2.2.2.2 (fun w0 w1 w2 => (Sum.inl (w0, x.2.1, x.2.2.1, x.2.2.2.1, w1, x.2.2.2.2.2.1, x.2.2.2.2.2.2.1, w2))) (fun p0 p1 p2 p3 => (Sum.inr (.inl (p0, x.2.2.2.1, p1, x.2.2.2.2.2.1, x.2.2.2.2.2.2.1, p2, p3)))) (fun p0 p1 => (Sum.inr (.inr (x.2.2.2.1, p0, x.2.2.2.2.2.1, x.2.2.2.2.2.2.1, p1)))):=by kernel_rfl
theorem qdM {R : Type} (x : tn) (k : tb → Option R) (r : R) (h : qdI x k = some r) : ∃ o, Runs (LE.step X qdG qdy qdA 12) x o ∧ k o = some r := by
  obtain ⟨o, h1, h2⟩ := some_bind h
  exact ⟨qdH x o, small_ok (st := fun (x : tn) => swing_mooring_drags_L0_st x.2.1 x.2.2.1 x.2.2.2.1 x.2.2.2.2.2.1 x.2.2.2.2.2.2.1) (prj := fun x => (x.1, x.2.2.2.2.1, x.2.2.2.2.2.2.2)) (emb := qdJ) (embO := qdH) (fun x => (qdK x).trans (by unfold swing_mooring_drags_L0_st swing_mooring_drags_L0_step; simp only [map_cond,map_bindO,map_elim,Option.map_some,Option.map_none]; rfl)) (fun _ _ => rfl) (fun _ _ => rfl) (fun _ _ _ => rfl) (fun _ _ _ => rfl) (fun _ => rfl) (runOf_some.1 h1), by
    first
    | exact h2
    | (rcases o with o | o <;> exact h2)⟩
noncomputable def qdN {R : Type} : Loops S R := LE.ls X qdG qdI qdA
theorem qdO {R : Type} : LoopsOk X (qdN (R := R)) := loop_ok xok qdz (e := qdG) qdB qdM qdB
theorem qdP (x0 : swing_mooring) (x1 : List (Nat → Int)) : evFn X qdy [(.st 14), (.sl (.arr 5 (.int .u64)))] [(.sl (.int .i64)), .bool] qdN 12 82 (x0, x1, ()) = swing_mooring_drags x0 x1:=by kernel_rfl
noncomputable def qdQ : F7 S := ⟨[(.st 14), (.sl (.arr 5 (.int .u64)))], [(.sl (.int .i64)), .bool], fun xs => swing_mooring_drags xs.1 xs.2.1⟩
theorem qdR : FSOk X 82 qdQ := fsOk_eq (evFn_ok xok qdz qdO 12 82) fun xs _ h => (qdP xs.1 xs.2.1).trans h
noncomputable def qdS : List (Nat × F7 S) := [(70, qau), (82, qdQ)]
theorem qdT : TabOk X (qdS) := ⟨qav, qdR, trivial⟩
abbrev qdU {R : Type} : Loops S R := noLoops
theorem qdV {R : Type} : LoopsOk X (qdU (R := R)) := noLoops_ok X
theorem qdW (x0 : SgMooring) (x1 : List SgLook) : evFn X qdS [(.st 9), (.sl (.st 10))] [(.sl (.int .i64)), (.int .i64)] qdU 12 29 (x0, x1, ()) = swing_Drags x0 x1:=by kernel_rfl
noncomputable def qdX : F7 S := ⟨[(.st 9), (.sl (.st 10))], [(.sl (.int .i64)), (.int .i64)], fun xs => swing_Drags xs.1 xs.2.1⟩
theorem qdY : FSOk X 29 qdX := fsOk_eq (evFn_ok xok qdT qdV 12 29) fun xs _ h => (qdW xs.1 xs.2.1).trans h
noncomputable def qdZ : List (Nat × F7 S) := []
theorem qe0 : TabOk X (qdZ) := trivial
abbrev qe1 {R : Type} : Loops S R := noLoops
theorem qe2 {R : Type} : LoopsOk X (qe1 (R := R)) := noLoops_ok X
theorem qe3 (x0 : Int) : evFn X qdZ [(.int .i64)] [.bool] qe1 12 132 (x0, ()) = cmp_isNaN_int x0:=by kernel_rfl
noncomputable def qe4 : F7 S := ⟨[(.int .i64)], [.bool], fun xs => cmp_isNaN_int xs.1⟩
theorem qe5 : FSOk X 132 qe4 := fsOk_eq (evFn_ok xok qe0 qe2 12 132) fun xs _ h => (qe3 xs.1).trans h
noncomputable def qe6 : List (Nat × F7 S) := [(132, qe4)]
theorem qe7 : TabOk X (qe6) := ⟨qe5, trivial⟩
abbrev qe8 {R : Type} : Loops S R := noLoops
theorem qe9 {R : Type} : LoopsOk X (qe8 (R := R)) := noLoops_ok X
theorem qea (x0 : Int) (x1 : Int) : evFn X qe6 [(.int .i64), (.int .i64)] [(.int .i64)] qe8 12 116 (x0, x1, ()) = cmp_Compare_int x0 x1:=by kernel_rfl
noncomputable def qeb : F7 S := ⟨[(.int .i64), (.int .i64)], [(.int .i64)], fun xs => cmp_Compare_int xs.1 xs.2.1⟩
theorem qec : FSOk X 116 qeb := fsOk_eq (evFn_ok xok qe7 qe9 12 116) fun xs _ h => (qea xs.1 xs.2.1).trans h
noncomputable def qed : List (Nat × F7 S) := [(116, qeb)]
theorem qee : TabOk X (qed) := ⟨qec, trivial⟩
abbrev qef {R : Type} : Loops S R := noLoops
theorem qeg {R : Type} : LoopsOk X (qef (R := R)) := noLoops_ok X
def qeh : Key := ⟨[83], 83, none, [0, 0, 1, 0, 1], 0, 4⟩
def qei : StT S := ⟨(N (N (N L none (N L vF L)) vy (N (N L vy L) none L)) vy v1j), L, 4⟩
def qej : Way S := ⟨.ret, ⟨v1j, L, 15⟩, [.int]⟩
def qek : Way S := ⟨.ret, ⟨v1j, L, 27⟩, [.int]⟩
def qel : Way S := ⟨(.exit 0), ⟨(N (N L vy L) vy L), L, 5⟩, [(.lst (.int .i64)), (.lst (.int .i64))]⟩
def qem : LE S := ⟨qeh, qei, [.int, (.lst (.int .i64)), (.lst (.int .i64)), (.lst (.int .i64)), .int], [qej, qek, qel]⟩
def qen (x : tU) : (Int ⊕ Int ⊕ Unit) → (Int ⊕ Int ⊕ ((List Int) × (List Int))) := Sum.elim (fun y0 => (.inl y0)) (Sum.elim (fun y1 => (.inr (.inl y1))) (fun y2 => (.inr (.inr (x.2.1, x.2.2.2.1)))))
noncomputable def qeo {R : Type} (x : tU) (k : (Int ⊕ Int ⊕ ((List Int) × (List Int))) → Option R) : Option R := (slices_Compare_int_int_L0_run x.2.1 x.2.2.1 x.2.2.2.1 x.2.2.2.2 x.1).bind (Sum.elim (fun y0 => k (.inl y0)) (Sum.elim (fun y1 => k (.inr (.inl y1))) (fun y2 => k (.inr (.inr (x.2.1, x.2.2.2.1))))))
def qep (x : tU) (v : Int) : tU := (v, x.2.1, x.2.2.1, x.2.2.2.1, x.2.2.2.2)
theorem qeq (x : tU) : LE.step X qem qed qef 12 x = slices_Compare_int_int_L0_step x.2.1 x.2.2.1 x.2.2.2.1 x.2.2.2.2 x.1 (fun w0 => (Sum.inl (w0, x.2.1, x.2.2.1, x.2.2.2.1, x.2.2.2.2))) (fun p0 => (Sum.inr (.inl p0))) (fun p0 => (Sum.inr (.inr (.inl p0)))) (Sum.inr (.inr (.inr (x.2.1, x.2.2.2.1)))):=by kernel_rfl
theorem qes {R : Type} (x : tU) (k : (Int ⊕ Int ⊕ ((List Int) × (List Int))) → Option R) (r : R) (h : qeo x k = some r) : ∃ o, Runs (LE.step X qem qed qef 12) x o ∧ k o = some r := by
  obtain ⟨o, h1, h2⟩ := some_bind h
  exact ⟨qen x o, small_ok (st := fun (x : tU) => slices_Compare_int_int_L0_st x.2.1 x.2.2.1 x.2.2.2.1 x.2.2.2.2) (prj := fun x => x.1) (emb := qep) (embO := qen) (fun x => (qeq x).trans (by unfold slices_Compare_int_int_L0_st slices_Compare_int_int_L0_step; simp only [map_cond,map_bindO,map_elim,Option.map_some,Option.map_none]; rfl)) (fun _ _ => rfl) (fun _ _ => rfl) (fun _ _ _ => rfl) (fun _ _ _ => rfl) (fun _ => rfl) (runOf_some.1 h1), by
    first
    | exact h2
    | (rcases o with o | o | o <;> exact h2)⟩
noncomputable def qet {R : Type} : Loops S R := LE.ls X qem qeo qef
theorem qeu {R : Type} : LoopsOk X (qet (R := R)) := loop_ok xok qee (e := qem) qeg qes qeg
theorem qev (x0 : List Int) (x1 : List Int) : evFn X qed [(.sl (.int .i64)), (.sl (.int .i64))] [(.int .i64)] qet 12 83 (x0, x1, ()) = slices_Compare_int_int x0 x1:=by kernel_rfl
noncomputable def qew : F7 S := ⟨[(.sl (.int .i64)), (.sl (.int .i64))], [(.int .i64)], fun xs => slices_Compare_int_int xs.1 xs.2.1⟩
theorem qex : FSOk X 83 qew := fsOk_eq (evFn_ok xok qee qeu 12 83) fun xs _ h => (qev xs.1 xs.2.1).trans h
noncomputable def qey : List (Nat × F7 S) := [(70, qau), (80, qaN), (83, qew)]
theorem qez : TabOk X (qey) := ⟨qav, qaO, qex, trivial⟩
abbrev qeA {R : Type} : Loops S R := noLoops
theorem qeB {R : Type} : LoopsOk X (qeA (R := R)) := noLoops_ok X
def qeC : Key := ⟨[32], 32, none, [0, 0, 1, 0, 1, 1, 1, 0, 0, 1, 1, 0, 0, 1, 0, 1, 1, 1, 1, 0, 1], 2, 33⟩
def qeD : StT S := ⟨(N (N v18 none (N (N (N (N L vF L) none L) vF L) none L)) none (N (N (N (N (N L vn L) none L) vE L) (some (.rs 33 0)) L) none (N (N (N (N L vF L) none L) (some (.rs 34 0)) (N L vF L)) (some (.ptr 10 0)) L))), oN, 35⟩
def qeE : Way S := ⟨(.exit 1), ⟨vM, (N (N (N (N L none (N (N L o5 L) none L)) none L) none (N (N (N (N L op L) none (N L op L)) none L) none L)) oi (N o1o none (N (N (N (N L (some (.row 3 (.int .i64) [] 0 1)) L) none L) o9 L) none L))), 60⟩, [(.lst (.arr 5 (.int .u64))), .int, .bool, .int, (.arr (.int .u64)), (.lst (.int .i64)), .nat, (.lst (.int .i64)), .nat, (.st 9), (.arr (.int .u64)), (.lst (.int .i64)), .nat, (.st 14)]⟩
def qeF : Way S := ⟨(.exit 1), ⟨vM, (N (N (N (N L none (N (N L o5 L) none L)) none L) none (N o1k none L)) oi (N o1o none (N (N (N (N L op L) none L) o9 L) none L))), 59⟩, [(.lst (.arr 5 (.int .u64))), .int, .bool, .int, (.arr (.int .u64)), (.lst (.int .i64)), .nat, (.st 9), (.arr (.int .u64)), (.lst (.int .i64)), .nat, (.st 14)]⟩
def qeG : Way S := ⟨(.exit 2), ⟨(N (N v18 none L) none (N (N (N L vE L) (some (.rs 33 0)) L) none (N (N L (some (.rs 34 0)) (N L vF L)) (some (.ptr 10 0)) L))), oN, 36⟩, [(.lst (.arr 5 (.int .u64))), .int, .bool, .int, (.lst (.int .i64)), .nat, (.st 9), (.arr (.int .u64)), (.lst (.int .i64)), .nat, (.st 14)]⟩
def qeH : LE S := ⟨qeC, qeD, [(.lst (.arr 5 (.int .u64))), .int, .int, .int, (.lst (.arr 5 (.int .u64))), .bool, .int, .int, (.lst (.int .i64)), .nat, (.st 9), (.arr (.int .u64)), (.lst (.int .i64)), .nat, (.st 14)], [qeE, qeF, qeG]⟩
def qeI (x : tc) : (((Nat → Int) × (List Int) × Nat × (Nat → Int) × (List Int)) ⊕ ((Nat → Int) × (Nat → Int) × (List Int)) ⊕ ((Nat → Int) × (List Int))) → t1 := Sum.elim (fun y0 => (.inl (x.1, x.2.1, x.2.2.2.2.2.1, x.2.2.2.2.2.2.2.1, y0.1, x.2.2.2.2.2.2.2.2.1, x.2.2.2.2.2.2.2.2.2.1, y0.2.1, y0.2.2.1, x.2.2.2.2.2.2.2.2.2.2.1, y0.2.2.2.1, y0.2.2.2.2, x.2.2.2.2.2.2.2.2.2.2.2.2.2.1, x.2.2.2.2.2.2.2.2.2.2.2.2.2.2))) (Sum.elim (fun y1 => (.inr (.inl (x.1, x.2.1, x.2.2.2.2.2.1, x.2.2.2.2.2.2.2.1, y1.1, x.2.2.2.2.2.2.2.2.1, x.2.2.2.2.2.2.2.2.2.1, x.2.2.2.2.2.2.2.2.2.2.1, y1.2.1, y1.2.2, x.2.2.2.2.2.2.2.2.2.2.2.2.2.1, x.2.2.2.2.2.2.2.2.2.2.2.2.2.2)))) (fun y2 => (.inr (.inr (x.1, x.2.1, x.2.2.2.2.2.1, x.2.2.2.2.2.2.2.1, x.2.2.2.2.2.2.2.2.1, x.2.2.2.2.2.2.2.2.2.1, x.2.2.2.2.2.2.2.2.2.2.1, y2.1, y2.2, x.2.2.2.2.2.2.2.2.2.2.2.2.2.1, x.2.2.2.2.2.2.2.2.2.2.2.2.2.2)))))
noncomputable def qeJ {R : Type} (x : tc) (k : t1 → Option R) : Option R := (swing_Wrong_L1_run x.1 x.2.1 x.2.2.1 x.2.2.2.1 x.2.2.2.2.1 x.2.2.2.2.2.1 x.2.2.2.2.2.2.2.1 x.2.2.2.2.2.2.2.2.1 x.2.2.2.2.2.2.2.2.2.1 x.2.2.2.2.2.2.2.2.2.2.1 x.2.2.2.2.2.2.2.2.2.2.2.2.2.1 x.2.2.2.2.2.2.2.2.2.2.2.2.2.2 (x.2.2.2.2.2.2.1, x.2.2.2.2.2.2.2.2.2.2.2.1, x.2.2.2.2.2.2.2.2.2.2.2.2.1)).bind (Sum.elim (fun y0 => k (.inl (x.1, x.2.1, x.2.2.2.2.2.1, x.2.2.2.2.2.2.2.1, y0.1, x.2.2.2.2.2.2.2.2.1, x.2.2.2.2.2.2.2.2.2.1, y0.2.1, y0.2.2.1, x.2.2.2.2.2.2.2.2.2.2.1, y0.2.2.2.1, y0.2.2.2.2, x.2.2.2.2.2.2.2.2.2.2.2.2.2.1, x.2.2.2.2.2.2.2.2.2.2.2.2.2.2))) (Sum.elim (fun y1 => k (.inr (.inl (x.1, x.2.1, x.2.2.2.2.2.1, x.2.2.2.2.2.2.2.1, y1.1, x.2.2.2.2.2.2.2.2.1, x.2.2.2.2.2.2.2.2.2.1, x.2.2.2.2.2.2.2.2.2.2.1, y1.2.1, y1.2.2, x.2.2.2.2.2.2.2.2.2.2.2.2.2.1, x.2.2.2.2.2.2.2.2.2.2.2.2.2.2)))) (fun y2 => k (.inr (.inr (x.1, x.2.1, x.2.2.2.2.2.1, x.2.2.2.2.2.2.2.1, x.2.2.2.2.2.2.2.2.1, x.2.2.2.2.2.2.2.2.2.1, x.2.2.2.2.2.2.2.2.2.2.1, y2.1, y2.2, x.2.2.2.2.2.2.2.2.2.2.2.2.2.1, x.2.2.2.2.2.2.2.2.2.2.2.2.2.2))))))
def qeK (x : tc) (v : (Int × (Nat → Int) × (List Int))) : tc := (x.1, x.2.1, x.2.2.1, x.2.2.2.1, x.2.2.2.2.1, x.2.2.2.2.2.1, v.1, x.2.2.2.2.2.2.2.1, x.2.2.2.2.2.2.2.2.1, x.2.2.2.2.2.2.2.2.2.1, x.2.2.2.2.2.2.2.2.2.2.1, v.2.1, v.2.2, x.2.2.2.2.2.2.2.2.2.2.2.2.2.1, x.2.2.2.2.2.2.2.2.2.2.2.2.2.2)
theorem qeL (x : tc) : LE.step X qeH qey qeA 12 x = swing_Wrong_L1_step x.1 x.2.1 x.2.2.1 x.2.2.2.1 x.2.2.2.2.1 x.2.2.2.2.2.1 x.2.2.2.2.2.2.2.1 x.2.2.2.2.2.2.2.2.1 x.2.2.2.2.2.2.2.2.2.1 x.2.2.2.2.2.2.2.2.2.2.1 x.2.2.2.2.2.2.2.2.2.2.2.2.2.1 x.2.2.2.2.2.2.2.2.2.2.2.2.2.2 x.2.2.2.2.2.2.1 x.2.2.2.2.2.2.2.2.2.2.2.1 x.2.2.2.2.2.2.2.2.2.2.2.2.1 (fun w0 w1 w2 => (Sum.inl (x.1, x.2.1, x.2.2.1, x.2.2.2.1, x.2.2.2.2.1, x.2.2.2.2.2.1, w0, x.2.2.2.2.2.2.2.1, x.2.2.2.2.2.2.2.2.1, x.2.2.2.2.2.2.2.2.2.1, x.2.2.2.2.2.2.2.2.2.2.1, w1, w2, x.2.2.2.2.2.2.2.2.2.2.2.2.2.1, x.2.2.2.2.2.2.2.2.2.2.2.2.2.2))) (fun p0 p1 p2 p3 p4 => (Sum.inr (.inl (x.1, x.2.1, x.2.2.2.2.2.1, x.2.2.2.2.2.2.2.1, p0, x.2.2.2.2.2.2.2.2.1, x.2.2.2.2.2.2.2.2.2.1, p1, p2, x.2.2.2.2.2.2.2.2.2.2.1, p3, p4, x.2.2.2.2.2.2.2.2.2.2.2.2.2.1, x.2.2.2.2.2.2.2.2.2.2.2.2.2.2)))) (fun p0 p1 p2 => (Sum.inr (.inr (.inl (x.1, x.2.1, x.2.2.2.2.2.1, x.2.2.2.2.2.2.2.1, p0, x.2.2.2.2.2.2.2.2.1, x.2.2.2.2.2.2.2.2.2.1, x.2.2.2.2.2.2.2.2.2.2.1, p1, p2, x.2.2.2.2.2.2.2.2.2.2.2.2.2.1, x.2.2.2.2.2.2.2.2.2.2.2.2.2.2))))) (fun p0 p1 => (Sum.inr (.inr (.inr (x.1, x.2.1, x.2.2.2.2.2.1, x.2.2.2.2.2.2.2.1, x.2.2.2.2.2.2.2.2.1, x.2.2.2.2.2.2.2.2.2.1, x.2.2.2.2.2.2.2.2.2.2.1, p0, p1, x.2.2.2.2.2.2.2.2.2.2.2.2.2.1, x.2.2.2.2.2.2.2.2.2.2.2.2.2.2))))):=by kernel_rfl
theorem qeN {R : Type} (x : tc) (k : t1 → Option R) (r : R) (h : qeJ x k = some r) : ∃ o, Runs (LE.step X qeH qey qeA 12) x o ∧ k o = some r := by
  obtain ⟨o, h1, h2⟩ := some_bind h
  exact ⟨qeI x o, small_ok (st := fun (x : tc) => swing_Wrong_L1_st x.1 x.2.1 x.2.2.1 x.2.2.2.1 x.2.2.2.2.1 x.2.2.2.2.2.1 x.2.2.2.2.2.2.2.1 x.2.2.2.2.2.2.2.2.1 x.2.2.2.2.2.2.2.2.2.1 x.2.2.2.2.2.2.2.2.2.2.1 x.2.2.2.2.2.2.2.2.2.2.2.2.2.1 x.2.2.2.2.2.2.2.2.2.2.2.2.2.2) (prj := fun x => (x.2.2.2.2.2.2.1, x.2.2.2.2.2.2.2.2.2.2.2.1, x.2.2.2.2.2.2.2.2.2.2.2.2.1)) (emb := qeK) (embO := qeI) (fun x => (qeL x).trans (by unfold swing_Wrong_L1_st swing_Wrong_L1_step; simp only [map_cond,map_bindO,map_elim,Option.map_some,Option.map_none]; rfl)) (fun _ _ => rfl) (fun _ _ => rfl) (fun _ _ _ => rfl) (fun _ _ _ => rfl) (fun _ => rfl) (runOf_some.1 h1), by
    first
    | exact h2
    | (rcases o with o | o | o <;> exact h2)⟩
noncomputable def qeO {R : Type} : Loops S R := LE.ls X qeH qeJ qeA
theorem qeP {R : Type} : LoopsOk X (qeO (R := R)) := loop_ok xok qez (e := qeH) qeB qeN qeB
def qeQ : Key := ⟨[32], 32, none, [0, 0, 1, 0, 1, 1, 1, 1, 0, 1], 0, 21⟩
def qeR : StT S := ⟨(N (N (N (N L vn L) none (N L none (N L vF L))) none L) none (N (N (N L vE L) (some (.rs 21 0)) L) none (N (N L none (N L vF L)) (some (.ptr 10 0)) L))), oV, 22⟩
def qeS : Way S := ⟨(.exit 0), ⟨(N L none (N (N L (some (.rs 21 0)) L) none L)), oV, 23⟩, [(.lst (.int .i64)), .nat, (.st 9), (.st 14)]⟩
def qeT : LE S := ⟨qeQ, qeR, [(.lst (.arr 5 (.int .u64))), .int, .bool, .int, (.lst (.int .i64)), .nat, (.st 9), (.st 14)], [qeS]⟩
def qeU (x : tu) : ((List Int) × Nat) → t10 := fun y0 => (y0.1, y0.2, x.2.2.2.2.2.2.1, x.2.2.2.2.2.2.2)
noncomputable def qeV {R : Type} (x : tu) (k : t10 → Option R) : Option R := (swing_Wrong_L0_run x.1 x.2.2.2.1 x.2.2.2.2.2.2.1 x.2.2.2.2.2.2.2 (x.2.1, x.2.2.1, x.2.2.2.2.1, x.2.2.2.2.2.1)).bind (fun y0 => k (y0.1, y0.2, x.2.2.2.2.2.2.1, x.2.2.2.2.2.2.2))
def qeW (x : tu) (v : (Int × Bool × (List Int) × Nat)) : tu := (x.1, v.1, v.2.1, x.2.2.2.1, v.2.2.1, v.2.2.2, x.2.2.2.2.2.2.1, x.2.2.2.2.2.2.2)
theorem qeX (x : tu) : LE.step X qeT qey qeO 12 x = swing_Wrong_L0_step x.1 x.2.2.2.1 x.2.2.2.2.2.2.1 x.2.2.2.2.2.2.2 x.2.1 x.2.2.1 x.2.2.2.2.1 x.2.2.2.2.2.1 (fun w0 w1 w2 w3 => (Sum.inl (x.1, w0, w1, x.2.2.2.1, w2, w3, x.2.2.2.2.2.2.1, x.2.2.2.2.2.2.2))) (fun p0 p1 => (Sum.inr (p0, p1, x.2.2.2.2.2.2.1, x.2.2.2.2.2.2.2))):=by kernel_rfl
theorem qeZ {R : Type} (x : tu) (k : t10 → Option R) (r : R) (h : qeV x k = some r) : ∃ o, Runs (LE.step X qeT qey qeO 12) x o ∧ k o = some r := by
  obtain ⟨o, h1, h2⟩ := some_bind h
  exact ⟨qeU x o, small_ok (st := fun (x : tu) => swing_Wrong_L0_st x.1 x.2.2.2.1 x.2.2.2.2.2.2.1 x.2.2.2.2.2.2.2) (prj := fun x => (x.2.1, x.2.2.1, x.2.2.2.2.1, x.2.2.2.2.2.1)) (emb := qeW) (embO := qeU) (fun x => (qeX x).trans (by unfold swing_Wrong_L0_st swing_Wrong_L0_step; simp only [map_cond,map_bindO,map_elim,Option.map_some,Option.map_none]; rfl)) (fun _ _ => rfl) (fun _ _ => rfl) (fun _ _ _ => rfl) (fun _ _ _ => rfl) (fun _ => rfl) (runOf_some.1 h1), by
    first
    | exact h2
    | (rcases o with o <;> exact h2)⟩
noncomputable def qf0 {R : Type} : Loops S R := LE.ls X qeT qeV qeO
theorem qf1 {R : Type} : LoopsOk X (qf0 (R := R)) := loop_ok xok qez (e := qeT) qeP qeZ qeP
theorem qf2 (x0 : SgMooring) (x1 : List SgLook) : evFn X qey [(.st 9), (.sl (.st 10))] [(.sl (.int .i64)), (.int .i64)] qf0 12 32 (x0, x1, ()) = swing_Wrong x0 x1:=by kernel_rfl
noncomputable def qf3 : F7 S := ⟨[(.st 9), (.sl (.st 10))], [(.sl (.int .i64)), (.int .i64)], fun xs => swing_Wrong xs.1 xs.2.1⟩
theorem qf4 : FSOk X 32 qf3 := fsOk_eq (evFn_ok xok qez qf1 12 32) fun xs _ h => (qf2 xs.1 xs.2.1).trans h
noncomputable def qf5 : List (Nat × F7 S) := []
theorem qf6 : TabOk X (qf5) := trivial
abbrev qf7 {R : Type} : Loops S R := noLoops
theorem qf8 {R : Type} : LoopsOk X (qf7 (R := R)) := noLoops_ok X
def qf9 : Key := ⟨[31], 31, none, [0, 0, 1, 0, 1, 1], 0, 7⟩
def qfa : StT S := ⟨(N (N L vy (N L vF L)) vy L), L, 7⟩
def qfb : Way S := ⟨.ret, ⟨(N L none (N (N L vE L) none L)), L, 21⟩, [.bool]⟩
def qfc : Way S := ⟨(.exit 0), ⟨L, L, 11⟩, []⟩
def qfd : LE S := ⟨qf9, qfa, [(.lst (.int .i64)), .int, (.lst (.int .i64))], [qfb, qfc]⟩
def qfe (x : t1h) : (Bool ⊕ Unit) → (Bool ⊕ Unit) := Sum.elim (fun y0 => (.inl y0)) (fun y1 => (.inr ()))
noncomputable def qff {R : Type} (x : t1h) (k : (Bool ⊕ Unit) → Option R) : Option R := (ref01_Ints_L0_run x.1 x.2.2 x.2.1).bind (Sum.elim (fun y0 => k (.inl y0)) (fun y1 => k (.inr ())))
def qfg (x : t1h) (v : Int) : t1h := (x.1, v, x.2.2)
theorem qfh (x : t1h) : LE.step X qfd qf5 qf7 12 x = ref01_Ints_L0_step x.1 x.2.2 x.2.1 (fun w0 => (Sum.inl (x.1, w0, x.2.2))) (fun p0 => (Sum.inr (.inl p0))) (Sum.inr (.inr ())):=by kernel_rfl
theorem qfj {R : Type} (x : t1h) (k : (Bool ⊕ Unit) → Option R) (r : R) (h : qff x k = some r) : ∃ o, Runs (LE.step X qfd qf5 qf7 12) x o ∧ k o = some r := by
  obtain ⟨o, h1, h2⟩ := some_bind h
  exact ⟨qfe x o, small_ok (st := fun (x : t1h) => ref01_Ints_L0_st x.1 x.2.2) (prj := fun x => x.2.1) (emb := qfg) (embO := qfe) (fun x => (qfh x).trans (by unfold ref01_Ints_L0_st ref01_Ints_L0_step; simp only [map_cond,map_bindO,map_elim,Option.map_some,Option.map_none]; rfl)) (fun _ _ => rfl) (fun _ _ => rfl) (fun _ _ _ => rfl) (fun _ _ _ => rfl) (fun _ => rfl) (runOf_some.1 h1), by
    first
    | exact h2
    | (rcases o with o | o <;> exact h2)⟩
noncomputable def qfk {R : Type} : Loops S R := LE.ls X qfd qff qf7
theorem qfl {R : Type} : LoopsOk X (qfk (R := R)) := loop_ok xok qf6 (e := qfd) qf8 qfj qf8
theorem qfm (x0 : List Int) (x1 : List Int) : evFn X qf5 [(.sl (.int .i64)), (.sl (.int .i64))] [.bool] qfk 12 31 (x0, x1, ()) = ref01_Ints x0 x1:=by kernel_rfl
noncomputable def qfn : F7 S := ⟨[(.sl (.int .i64)), (.sl (.int .i64))], [.bool], fun xs => ref01_Ints xs.1 xs.2.1⟩
theorem qfo : FSOk X 31 qfn := fsOk_eq (evFn_ok xok qf6 qfl 12 31) fun xs _ h => (qfm xs.1 xs.2.1).trans h
noncomputable def qfp : F7 S := ⟨[], [.bool], fun _ => law04_Awake⟩
theorem qfq : FSOk X 24 qfp := closedTrue_ok (X := X) (F := law04_Awake) rfl law04_Awake_run
noncomputable def qfr : List (Nat × F7 S) := [(75, qbp), (74, qdc)]
theorem qfs : TabOk X (qfr) := ⟨qbq, qdd, trivial⟩
abbrev qft {R : Type} : Loops S R := noLoops
theorem qfu {R : Type} : LoopsOk X (qft (R := R)) := noLoops_ok X
def qfv : Key := ⟨[81], 81, none, [0, 0, 1, 0, 1, 1], 0, 6⟩
def qfw : StT S := ⟨(N (N L vC (N L vD L)) none (N L (some (.ptr 0 0)) (N L vF L))), (N L oi L), 7⟩
def qfx : Way S := ⟨.ret, ⟨v1j, (N L oi L), 25⟩, [.int, (.st 9)]⟩
def qfy : Way S := ⟨(.exit 0), ⟨(N (N L vC L) none L), (N L oi L), 11⟩, [(.lst (.st 10)), (.st 9)]⟩
def qfz : LE S := ⟨qfv, qfw, [(.lst (.st 10)), (.lst (.st 2)), .int, (.st 9)], [qfx, qfy]⟩
def qfA (x : tX) : (Int ⊕ Unit) → tW := Sum.elim (fun y0 => (.inl (y0, x.2.2.2))) (fun y1 => (.inr (x.1, x.2.2.2)))
noncomputable def qfB {R : Type} (x : tX) (k : tW → Option R) : Option R := (ref04_dragged_L0_run x.1 x.2.2.2 (x.2.1, x.2.2.1)).bind (Sum.elim (fun y0 => k (.inl (y0, x.2.2.2))) (fun y1 => k (.inr (x.1, x.2.2.2))))
def qfC (x : tX) (v : ((List Point) × Int)) : tX := (x.1, v.1, v.2, x.2.2.2)
theorem qfD (x : tX) : LE.step X qfz qfr qft 12 x = ref04_dragged_L0_step x.1 x.2.2.2 x.2.1 x.2.2.1 (fun w0 w1 => (Sum.inl (x.1, w0, w1, x.2.2.2))) (fun p0 => (Sum.inr (.inl (p0, x.2.2.2)))) (Sum.inr (.inr (x.1, x.2.2.2))):=by kernel_rfl
theorem qfF {R : Type} (x : tX) (k : tW → Option R) (r : R) (h : qfB x k = some r) : ∃ o, Runs (LE.step X qfz qfr qft 12) x o ∧ k o = some r := by
  obtain ⟨o, h1, h2⟩ := some_bind h
  exact ⟨qfA x o, small_ok (st := fun (x : tX) => ref04_dragged_L0_st x.1 x.2.2.2) (prj := fun x => (x.2.1, x.2.2.1)) (emb := qfC) (embO := qfA) (fun x => (qfD x).trans (by unfold ref04_dragged_L0_st ref04_dragged_L0_step; simp only [map_cond,map_bindO,map_elim,Option.map_some,Option.map_none]; rfl)) (fun _ _ => rfl) (fun _ _ => rfl) (fun _ _ _ => rfl) (fun _ _ _ => rfl) (fun _ => rfl) (runOf_some.1 h1), by
    first
    | exact h2
    | (rcases o with o | o <;> exact h2)⟩
noncomputable def qfG {R : Type} : Loops S R := LE.ls X qfz qfB qft
theorem qfH {R : Type} : LoopsOk X (qfG (R := R)) := loop_ok xok qfs (e := qfz) qfu qfF qfu
theorem qfI (x0 : SgMooring) (x1 : List SgLook) : evFn X qfr [(.st 9), (.sl (.st 10))] [(.int .i64)] qfG 12 81 (x0, x1, ()) = ref04_dragged x0 x1:=by kernel_rfl
noncomputable def qfJ : F7 S := ⟨[(.st 9), (.sl (.st 10))], [(.int .i64)], fun xs => ref04_dragged xs.1 xs.2.1⟩
theorem qfK : FSOk X 81 qfJ := fsOk_eq (evFn_ok xok qfs qfH 12 81) fun xs _ h => (qfI xs.1 xs.2.1).trans h
noncomputable def qfL : List (Nat × F7 S) := [(20, q81), (81, qfJ)]
theorem qfM : TabOk X (qfL) := ⟨q82, qfK, trivial⟩
abbrev qfN {R : Type} : Loops S R := noLoops
theorem qfO {R : Type} : LoopsOk X (qfN (R := R)) := noLoops_ok X
theorem qfP (x0 : SgMooring) (x1 : List SgLook) : evFn X qfL [(.st 9), (.sl (.st 10))] [(.int .i64), (.int .i64)] qfN 12 28 (x0, x1, ()) = ref04_Dragged x0 x1:=by kernel_rfl
noncomputable def qfQ : F7 S := ⟨[(.st 9), (.sl (.st 10))], [(.int .i64), (.int .i64)], fun xs => ref04_Dragged xs.1 xs.2.1⟩
theorem qfR : FSOk X 28 qfQ := fsOk_eq (evFn_ok xok qfM qfO 12 28) fun xs _ h => (qfP xs.1 xs.2.1).trans h
noncomputable def qfS : List (Nat × F7 S) := [(20, q81), (75, qbp), (74, qdc), (81, qfJ)]
theorem qfT : TabOk X (qfS) := ⟨q82, qbq, qdd, qfK, trivial⟩
abbrev qfU {R : Type} : Loops S R := noLoops
theorem qfV {R : Type} : LoopsOk X (qfU (R := R)) := noLoops_ok X
def qfW : Key := ⟨[30], 30, none, [0, 0, 1, 0, 1, 1, 1], 0, 14⟩
def qfX : StT S := ⟨(N (N L vC L) none (N (N (N L vF L) none L) (some (.ptr 0 0)) L)), (N L oi L), 14⟩
def qfY : Way S := ⟨.ret, ⟨(N (N L none (N L vF L)) none (N (N L (some .nils) L) none L)), (N L oi L), 31⟩, [.int, (.st 9)]⟩
def qfZ : Way S := ⟨(.exit 0), ⟨(N (N L vC L) none (N L (some (.ptr 0 0)) L)), (N L oi L), 18⟩, [(.lst (.st 10)), (.st 9)]⟩
def qg0 : LE S := ⟨qfW, qfX, [(.lst (.st 10)), .int, (.st 9)], [qfY, qfZ]⟩
def qg1 (x : t1e) : (Int ⊕ Unit) → tW := Sum.elim (fun y0 => (.inl (y0, x.2.2))) (fun y1 => (.inr (x.1, x.2.2)))
noncomputable def qg2 {R : Type} (x : t1e) (k : tW → Option R) : Option R := (ref04_Drags_L0_run x.1 x.2.2 x.2.1).bind (Sum.elim (fun y0 => k (.inl (y0, x.2.2))) (fun y1 => k (.inr (x.1, x.2.2))))
def qg3 (x : t1e) (v : Int) : t1e := (x.1, v, x.2.2)
theorem qg4 (x : t1e) : LE.step X qg0 qfS qfU 12 x = ref04_Drags_L0_step x.1 x.2.2 x.2.1 (fun w0 => (Sum.inl (x.1, w0, x.2.2))) (fun p0 => (Sum.inr (.inl (p0, x.2.2)))) (Sum.inr (.inr (x.1, x.2.2))):=by kernel_rfl
theorem qg6 {R : Type} (x : t1e) (k : tW → Option R) (r : R) (h : qg2 x k = some r) : ∃ o, Runs (LE.step X qg0 qfS qfU 12) x o ∧ k o = some r := by
  obtain ⟨o, h1, h2⟩ := some_bind h
  exact ⟨qg1 x o, small_ok (st := fun (x : t1e) => ref04_Drags_L0_st x.1 x.2.2) (prj := fun x => x.2.1) (emb := qg3) (embO := qg1) (fun x => (qg4 x).trans (by unfold ref04_Drags_L0_st ref04_Drags_L0_step; simp only [map_cond,map_bindO,map_elim,Option.map_some,Option.map_none]; rfl)) (fun _ _ => rfl) (fun _ _ => rfl) (fun _ _ _ => rfl) (fun _ _ _ => rfl) (fun _ => rfl) (runOf_some.1 h1), by
    first
    | exact h2
    | (rcases o with o | o <;> exact h2)⟩
noncomputable def qg7 {R : Type} : Loops S R := LE.ls X qg0 qg2 qfU
theorem qg8 {R : Type} : LoopsOk X (qg7 (R := R)) := loop_ok xok qfT (e := qg0) qfV qg6 qfV
def qg9 : Key := ⟨[30], 30, none, [0, 0, 0, 1, 1, 1, 1, 1, 1], 2, 23⟩
def qga : StT S := ⟨(N (N L vC (N (N L (some (.rs 23 0)) L) none L)) none (N L (some (.ptr 0 0)) (N (N L vF L) none L))), (N o1e oi L), 24⟩
def qgb : Way S := ⟨(.exit 2), ⟨(N (N L none (N (N L (some (.rs 23 0)) L) none L)) none L), (N o1e oi L), 28⟩, [(.lst (.int .i64)), .nat, (.st 9)]⟩
def qgc : LE S := ⟨qg9, qga, [(.lst (.st 10)), .int, (.lst (.int .i64)), .nat, (.st 9)], [qgb]⟩
def qgd (x : tS) : (List Int) → ((List Int) × Nat × SgMooring) := fun y0 => (y0, x.2.2.2.1, x.2.2.2.2)
noncomputable def qge {R : Type} (x : tS) (k : ((List Int) × Nat × SgMooring) → Option R) : Option R := (ref04_Drags_L1_run x.1 x.2.2.2.1 x.2.2.2.2 (x.2.1, x.2.2.1)).bind (fun y0 => k (y0, x.2.2.2.1, x.2.2.2.2))
def qgf (x : tS) (v : (Int × (List Int))) : tS := (x.1, v.1, v.2, x.2.2.2.1, x.2.2.2.2)
theorem qgg (x : tS) : LE.step X qgc qfS qg7 12 x = ref04_Drags_L1_step x.1 x.2.2.2.1 x.2.2.2.2 x.2.1 x.2.2.1 (fun w0 w1 => (Sum.inl (x.1, w0, w1, x.2.2.2.1, x.2.2.2.2))) (fun p0 => (Sum.inr (p0, x.2.2.2.1, x.2.2.2.2))):=by kernel_rfl
theorem qgi {R : Type} (x : tS) (k : ((List Int) × Nat × SgMooring) → Option R) (r : R) (h : qge x k = some r) : ∃ o, Runs (LE.step X qgc qfS qg7 12) x o ∧ k o = some r := by
  obtain ⟨o, h1, h2⟩ := some_bind h
  exact ⟨qgd x o, small_ok (st := fun (x : tS) => ref04_Drags_L1_st x.1 x.2.2.2.1 x.2.2.2.2) (prj := fun x => (x.2.1, x.2.2.1)) (emb := qgf) (embO := qgd) (fun x => (qgg x).trans (by unfold ref04_Drags_L1_st ref04_Drags_L1_step; simp only [map_cond,map_bindO,map_elim,Option.map_some,Option.map_none]; rfl)) (fun _ _ => rfl) (fun _ _ => rfl) (fun _ _ _ => rfl) (fun _ _ _ => rfl) (fun _ => rfl) (runOf_some.1 h1), by
    first
    | exact h2
    | (rcases o with o <;> exact h2)⟩
noncomputable def qgj {R : Type} : Loops S R := LE.ls X qgc qge qg7
theorem qgk {R : Type} : LoopsOk X (qgj (R := R)) := loop_ok xok qfT (e := qgc) qg8 qgi qg8
theorem qgl (x0 : SgMooring) (x1 : List SgLook) : evFn X qfS [(.st 9), (.sl (.st 10))] [(.sl (.int .i64)), (.int .i64)] qgj 12 30 (x0, x1, ()) = ref04_Drags x0 x1:=by kernel_rfl
noncomputable def qgm : F7 S := ⟨[(.st 9), (.sl (.st 10))], [(.sl (.int .i64)), (.int .i64)], fun xs => ref04_Drags xs.1 xs.2.1⟩
theorem qgn : FSOk X 30 qgm := fsOk_eq (evFn_ok xok qfT qgk 12 30) fun xs _ h => (qgl xs.1 xs.2.1).trans h
noncomputable def qgo : List (Nat × F7 S) := [(75, qbp), (109, qcH)]
theorem qgp : TabOk X (qgo) := ⟨qbq, qcI, trivial⟩
abbrev qgq {R : Type} : Loops S R := noLoops
theorem qgr {R : Type} : LoopsOk X (qgq (R := R)) := noLoops_ok X
def qgs : Key := ⟨[84], 84, none, [0, 0, 1, 0, 1, 0, 0, 1, 0, 0, 1, 0, 1, 1, 1], 2, 14⟩
def qgt : StT S := ⟨(N (N (N (N L vF L) none L) vC (N (N L vF L) (some (.rs 14 0)) L)) none v13), oR, 16⟩
def qgu : Way S := ⟨(.exit 2), ⟨(N (N (N (N L vF L) none L) vC (N L (some (.rs 14 0)) L)) none v13), oR, 20⟩, [.int, (.lst (.st 10)), (.lst (.st 2)), (.lst .bool), .nat, (.st 9), (.lst (.sl .bool)), .nat]⟩
def qgv : LE S := ⟨qgs, qgt, [.int, (.lst (.st 10)), .int, (.lst (.st 2)), (.lst .bool), .nat, (.st 9), (.lst (.sl .bool)), .nat], [qgu]⟩
def qgw (x : to) : (List Bool) → tq := fun y0 => (x.1, x.2.1, x.2.2.2.1, y0, x.2.2.2.2.2.1, x.2.2.2.2.2.2.1, x.2.2.2.2.2.2.2.1, x.2.2.2.2.2.2.2.2)
noncomputable def qgx {R : Type} (x : to) (k : tq → Option R) : Option R := (ref04_agreeing_L1_run x.1 x.2.1 x.2.2.2.1 x.2.2.2.2.2.1 x.2.2.2.2.2.2.1 x.2.2.2.2.2.2.2.1 x.2.2.2.2.2.2.2.2 (x.2.2.1, x.2.2.2.2.1)).bind (fun y0 => k (x.1, x.2.1, x.2.2.2.1, y0, x.2.2.2.2.2.1, x.2.2.2.2.2.2.1, x.2.2.2.2.2.2.2.1, x.2.2.2.2.2.2.2.2))
def qgy (x : to) (v : (Int × (List Bool))) : to := (x.1, x.2.1, v.1, x.2.2.2.1, v.2, x.2.2.2.2.2.1, x.2.2.2.2.2.2.1, x.2.2.2.2.2.2.2.1, x.2.2.2.2.2.2.2.2)
theorem qgz (x : to) : LE.step X qgv qgo qgq 12 x = ref04_agreeing_L1_step x.1 x.2.1 x.2.2.2.1 x.2.2.2.2.2.1 x.2.2.2.2.2.2.1 x.2.2.2.2.2.2.2.1 x.2.2.2.2.2.2.2.2 x.2.2.1 x.2.2.2.2.1 (fun w0 w1 => (Sum.inl (x.1, x.2.1, w0, x.2.2.2.1, w1, x.2.2.2.2.2.1, x.2.2.2.2.2.2.1, x.2.2.2.2.2.2.2.1, x.2.2.2.2.2.2.2.2))) (fun p0 => (Sum.inr (x.1, x.2.1, x.2.2.2.1, p0, x.2.2.2.2.2.1, x.2.2.2.2.2.2.1, x.2.2.2.2.2.2.2.1, x.2.2.2.2.2.2.2.2))):=by kernel_rfl
theorem qgB {R : Type} (x : to) (k : tq → Option R) (r : R) (h : qgx x k = some r) : ∃ o, Runs (LE.step X qgv qgo qgq 12) x o ∧ k o = some r := by
  obtain ⟨o, h1, h2⟩ := some_bind h
  exact ⟨qgw x o, small_ok (st := fun (x : to) => ref04_agreeing_L1_st x.1 x.2.1 x.2.2.2.1 x.2.2.2.2.2.1 x.2.2.2.2.2.2.1 x.2.2.2.2.2.2.2.1 x.2.2.2.2.2.2.2.2) (prj := fun x => (x.2.2.1, x.2.2.2.2.1)) (emb := qgy) (embO := qgw) (fun x => (qgz x).trans (by unfold ref04_agreeing_L1_st ref04_agreeing_L1_step; simp only [map_cond,map_bindO,map_elim,Option.map_some,Option.map_none]; rfl)) (fun _ _ => rfl) (fun _ _ => rfl) (fun _ _ _ => rfl) (fun _ _ _ => rfl) (fun _ => rfl) (runOf_some.1 h1), by
    first
    | exact h2
    | (rcases o with o <;> exact h2)⟩
noncomputable def qgC {R : Type} : Loops S R := LE.ls X qgv qgx qgq
theorem qgD {R : Type} : LoopsOk X (qgC (R := R)) := loop_ok xok qgp (e := qgv) qgr qgB qgr
def qgE : Key := ⟨[84], 84, none, [0, 0, 1, 0, 1, 1, 1], 0, 7⟩
def qgF : StT S := ⟨(N (N (N (N L vF L) none L) vC (N L (some (.rs 7 0)) L)) none (N L (some (.ptr 0 0)) (N L vD L))), (N (N (N (N L oo L) none L) none L) oi L), 8⟩
def qgG : Way S := ⟨(.exit 0), ⟨(N (N L none (N L (some (.rs 7 0)) L)) none L), (N (N (N (N L oo L) none L) none L) oi L), 12⟩, [(.lst (.sl .bool)), .nat, (.st 9)]⟩
def qgH : LE S := ⟨qgE, qgF, [.int, (.lst (.st 10)), (.lst (.st 2)), (.lst (.sl .bool)), .nat, (.st 9)], [qgG]⟩
def qgI (x : tB) : (List (List Bool)) → ((List (List Bool)) × Nat × SgMooring) := fun y0 => (y0, x.2.2.2.2.1, x.2.2.2.2.2)
noncomputable def qgJ {R : Type} (x : tB) (k : ((List (List Bool)) × Nat × SgMooring) → Option R) : Option R := (ref04_agreeing_L0_run x.2.1 x.2.2.1 x.2.2.2.2.1 x.2.2.2.2.2 (x.1, x.2.2.2.1)).bind (fun y0 => k (y0, x.2.2.2.2.1, x.2.2.2.2.2))
def qgK (x : tB) (v : (Int × (List (List Bool)))) : tB := (v.1, x.2.1, x.2.2.1, v.2, x.2.2.2.2.1, x.2.2.2.2.2)
theorem qgL (x : tB) : LE.step X qgH qgo qgC 12 x = ref04_agreeing_L0_step x.2.1 x.2.2.1 x.2.2.2.2.1 x.2.2.2.2.2 x.1 x.2.2.2.1 (fun w0 w1 => (Sum.inl (w0, x.2.1, x.2.2.1, w1, x.2.2.2.2.1, x.2.2.2.2.2))) (fun p0 => (Sum.inr (p0, x.2.2.2.2.1, x.2.2.2.2.2))):=by kernel_rfl
theorem qgN {R : Type} (x : tB) (k : ((List (List Bool)) × Nat × SgMooring) → Option R) (r : R) (h : qgJ x k = some r) : ∃ o, Runs (LE.step X qgH qgo qgC 12) x o ∧ k o = some r := by
  obtain ⟨o, h1, h2⟩ := some_bind h
  exact ⟨qgI x o, small_ok (st := fun (x : tB) => ref04_agreeing_L0_st x.2.1 x.2.2.1 x.2.2.2.2.1 x.2.2.2.2.2) (prj := fun x => (x.1, x.2.2.2.1)) (emb := qgK) (embO := qgI) (fun x => (qgL x).trans (by unfold ref04_agreeing_L0_st ref04_agreeing_L0_step; simp only [map_cond,map_bindO,map_elim,Option.map_some,Option.map_none]; rfl)) (fun _ _ => rfl) (fun _ _ => rfl) (fun _ _ _ => rfl) (fun _ _ _ => rfl) (fun _ => rfl) (runOf_some.1 h1), by
    first
    | exact h2
    | (rcases o with o <;> exact h2)⟩
noncomputable def qgO {R : Type} : Loops S R := LE.ls X qgH qgJ qgC
theorem qgP {R : Type} : LoopsOk X (qgO (R := R)) := loop_ok xok qgp (e := qgH) qgD qgN qgD
theorem qgQ (x0 : SgMooring) (x1 : List SgLook) : evFn X qgo [(.st 9), (.sl (.st 10))] [(.sl (.sl .bool))] qgO 12 84 (x0, x1, ()) = ref04_agreeing x0 x1:=by kernel_rfl
noncomputable def qgR : F7 S := ⟨[(.st 9), (.sl (.st 10))], [(.sl (.sl .bool))], fun xs => ref04_agreeing xs.1 xs.2.1⟩
theorem qgS : FSOk X 84 qgR := fsOk_eq (evFn_ok xok qgp qgP 12 84) fun xs _ h => (qgQ xs.1 xs.2.1).trans h
noncomputable def qgT (ih : t1j → Option (List (List Int))) : List (Nat × F7 S) := [(85, ⟨[(.int .i64), (.int .i64), (.int .i64)], [(.sl (.sl (.int .i64)))], ih⟩)]
theorem qgU (ih : t1j → Option (List (List Int))) (hih : FSOk X 85 ⟨[(.int .i64), (.int .i64), (.int .i64)], [(.sl (.sl (.int .i64)))], ih⟩) : TabOk X (qgT ih) := ⟨hih, trivial⟩
abbrev qgV (ih : t1j → Option (List (List Int))) {R : Type} : Loops S R := noLoops
theorem qgW (ih : t1j → Option (List (List Int))) (hih : FSOk X 85 ⟨[(.int .i64), (.int .i64), (.int .i64)], [(.sl (.sl (.int .i64)))], ih⟩) {R : Type} : LoopsOk X (qgV ih (R := R)) := noLoops_ok X
def qgX : Key := ⟨[85], 85, none, [0, 0, 1, 1, 0, 0, 1, 0, 0, 1, 0, 1, 1, 1], 2, 18⟩
def qgY : StT S := ⟨(N (N (N (N L (some (.rs 18 0)) L) none L) vF (N (N L (some (.sl (.sl (.int .i64)) [])) L) none L)) none (N (N (N L vF L) none L) vF (N (N L vF L) none L))), o19, 19⟩
def qgZ : Way S := ⟨(.exit 2), ⟨(N (N (N (N L (some (.rs 18 0)) L) none L) vF L) none (N (N (N L vF L) none L) vF L)), o19, 23⟩, [.int, .int, .int, (.lst (.sl (.int .i64))), .nat]⟩
def qh0 : LE S := ⟨qgX, qgY, [.int, (.lst (.sl (.int .i64))), .int, .int, .int, (.lst (.sl (.int .i64))), .nat], [qgZ]⟩
def qh1 (x : tF) : (List (List Int)) → t13 := fun y0 => (x.1, x.2.2.1, x.2.2.2.1, y0, x.2.2.2.2.2.2)
noncomputable def qh2 (ih : t1j → Option (List (List Int))) {R : Type} (x : tF) (k : t13 → Option R) : Option R := (ref04_lists_L1_run ih x.1 x.2.1 x.2.2.1 x.2.2.2.1 x.2.2.2.2.2.2 (x.2.2.2.2.1, x.2.2.2.2.2.1)).bind (fun y0 => k (x.1, x.2.2.1, x.2.2.2.1, y0, x.2.2.2.2.2.2))
def qh3 (x : tF) (v : (Int × (List (List Int)))) : tF := (x.1, x.2.1, x.2.2.1, x.2.2.2.1, v.1, v.2, x.2.2.2.2.2.2)
theorem qh4 (ih : t1j → Option (List (List Int))) (x : tF) : LE.step X qh0 (qgT ih) (qgV ih) 12 x = ref04_lists_L1_step ih x.1 x.2.1 x.2.2.1 x.2.2.2.1 x.2.2.2.2.2.2 x.2.2.2.2.1 x.2.2.2.2.2.1 (fun w0 w1 => (Sum.inl (x.1, x.2.1, x.2.2.1, x.2.2.2.1, w0, w1, x.2.2.2.2.2.2))) (fun p0 => (Sum.inr (x.1, x.2.2.1, x.2.2.2.1, p0, x.2.2.2.2.2.2))):=by kernel_rfl
theorem qh6 (ih : t1j → Option (List (List Int))) {R : Type} (x : tF) (k : t13 → Option R) (r : R) (h : qh2 ih x k = some r) : ∃ o, Runs (LE.step X qh0 (qgT ih) (qgV ih) 12) x o ∧ k o = some r := by
  obtain ⟨o, h1, h2⟩ := some_bind h
  exact ⟨qh1 x o, small_ok (st := fun (x : tF) => ref04_lists_L1_st ih x.1 x.2.1 x.2.2.1 x.2.2.2.1 x.2.2.2.2.2.2) (prj := fun x => (x.2.2.2.2.1, x.2.2.2.2.2.1)) (emb := qh3) (embO := qh1) (fun x => (qh4 ih x).trans (by unfold ref04_lists_L1_st ref04_lists_L1_step; simp only [map_cond,map_bindO,map_elim,Option.map_some,Option.map_none]; rfl)) (fun _ _ => rfl) (fun _ _ => rfl) (fun _ _ _ => rfl) (fun _ _ _ => rfl) (fun _ => rfl) (runOf_some.1 h1), by
    first
    | exact h2
    | (rcases o with o <;> exact h2)⟩
noncomputable def qh7 (ih : t1j → Option (List (List Int))) {R : Type} : Loops S R := LE.ls X qh0 (qh2 ih) (qgV ih)
theorem qh8 (ih : t1j → Option (List (List Int))) (hih : FSOk X 85 ⟨[(.int .i64), (.int .i64), (.int .i64)], [(.sl (.sl (.int .i64)))], ih⟩) {R : Type} : LoopsOk X (qh7 ih (R := R)) := loop_ok xok (qgU ih hih) (e := qh0) (qgW ih hih) (qh6 ih) (qgW ih hih)
def qh9 : Key := ⟨[85], 85, none, [0, 0, 1, 0, 1, 1, 1], 0, 6⟩
def qha : StT S := ⟨(N (N (N (N L (some (.rs 6 0)) L) none L) vF L) none (N (N (N L vF L) none L) vF L)), (N L none (N L none (N L oe L))), 7⟩
def qhb : Way S := ⟨(.exit 0), ⟨(N (N (N (N L (some (.rs 6 0)) L) none L) none L) none L), (N L none (N L none (N L oe L))), 10⟩, [(.lst (.sl (.int .i64))), .nat]⟩
def qhc : LE S := ⟨qh9, qha, [.int, .int, .int, (.lst (.sl (.int .i64))), .nat], [qhb]⟩
def qhd (x : t13) : (List (List Int)) → ((List (List Int)) × Nat) := fun y0 => (y0, x.2.2.2.2)
noncomputable def qhe (ih : t1j → Option (List (List Int))) {R : Type} (x : t13) (k : ((List (List Int)) × Nat) → Option R) : Option R := (ref04_lists_L0_run ih x.1 x.2.2.1 x.2.2.2.2 (x.2.1, x.2.2.2.1)).bind (fun y0 => k (y0, x.2.2.2.2))
def qhf (x : t13) (v : (Int × (List (List Int)))) : t13 := (x.1, v.1, x.2.2.1, v.2, x.2.2.2.2)
theorem qhg (ih : t1j → Option (List (List Int))) (x : t13) : LE.step X qhc (qgT ih) (qh7 ih) 12 x = ref04_lists_L0_step ih x.1 x.2.2.1 x.2.2.2.2 x.2.1 x.2.2.2.1 (fun w0 w1 => (Sum.inl (x.1, w0, x.2.2.1, w1, x.2.2.2.2))) (fun p0 => (Sum.inr (p0, x.2.2.2.2))):=by kernel_rfl
theorem qhi (ih : t1j → Option (List (List Int))) {R : Type} (x : t13) (k : ((List (List Int)) × Nat) → Option R) (r : R) (h : qhe ih x k = some r) : ∃ o, Runs (LE.step X qhc (qgT ih) (qh7 ih) 12) x o ∧ k o = some r := by
  obtain ⟨o, h1, h2⟩ := some_bind h
  exact ⟨qhd x o, small_ok (st := fun (x : t13) => ref04_lists_L0_st ih x.1 x.2.2.1 x.2.2.2.2) (prj := fun x => (x.2.1, x.2.2.2.1)) (emb := qhf) (embO := qhd) (fun x => (qhg ih x).trans (by unfold ref04_lists_L0_st ref04_lists_L0_step; simp only [map_cond,map_bindO,map_elim,Option.map_some,Option.map_none]; rfl)) (fun _ _ => rfl) (fun _ _ => rfl) (fun _ _ _ => rfl) (fun _ _ _ => rfl) (fun _ => rfl) (runOf_some.1 h1), by
    first
    | exact h2
    | (rcases o with o <;> exact h2)⟩
noncomputable def qhj (ih : t1j → Option (List (List Int))) {R : Type} : Loops S R := LE.ls X qhc (qhe ih) (qh7 ih)
theorem qhk (ih : t1j → Option (List (List Int))) (hih : FSOk X 85 ⟨[(.int .i64), (.int .i64), (.int .i64)], [(.sl (.sl (.int .i64)))], ih⟩) {R : Type} : LoopsOk X (qhj ih (R := R)) := loop_ok xok (qgU ih hih) (e := qhc) (qh8 ih hih) (qhi ih) (qh8 ih hih)
theorem qhl (ih : t1j → Option (List (List Int))) (x0 : Int) (x1 : Int) (x2 : Int) : evFn X (qgT ih) [(.int .i64), (.int .i64), (.int .i64)] [(.sl (.sl (.int .i64)))] (qhj ih) 12 85 (x0, x1, x2, ()) = ref04_lists_one ih x0 x1 x2:=by kernel_rfl
noncomputable def qhm : F7 S := ⟨[(.int .i64), (.int .i64), (.int .i64)], [(.sl (.sl (.int .i64)))], fun xs => ref04_lists xs.1 xs.2.1 xs.2.2.1⟩
theorem qhn : FSOk X 85 qhm := rec_ok (X := X) (g := 85) (pts := [(.int .i64), (.int .i64), (.int .i64)]) (rts := [(.sl (.sl (.int .i64)))]) (t := ref04_lists_rec) fun ih hih => fsOk_eq (evFn_ok xok (qgU ih hih) (qhk ih hih) 12 85) fun xs _ h => (qhl ih xs.1 xs.2.1 xs.2.2.1).trans h
noncomputable def qho : List (Nat × F7 S) := []
theorem qhp : TabOk X (qho) := trivial
abbrev qhq {R : Type} : Loops S R := noLoops
theorem qhr {R : Type} : LoopsOk X (qhq (R := R)) := noLoops_ok X
def qhs : Key := ⟨[86], 86, none, [0, 0, 1, 0, 1, 0, 0, 1, 0, 0, 1, 0, 1], 2, 8⟩
def qht : StT S := ⟨(N (N (N (N L vF L) none L) vF (N (N L vF L) none L)) vB (N (N (N L vE L) none L) vy (N (N L vF L) none L))), L, 8⟩
def qhu : Way S := ⟨(.exit 2), ⟨(N (N (N (N L vF L) none L) vF L) vB (N (N (N L vE L) none L) vy L)), L, 12⟩, [.int, .int, (.lst (.sl .bool)), .bool, (.lst (.int .i64))]⟩
def qhv : LE S := ⟨qhs, qht, [.int, .int, .int, (.lst (.sl .bool)), .bool, (.lst (.int .i64)), .int], [qhu]⟩
def qhw (x : tK) : Bool → tT := fun y0 => (x.1, x.2.1, x.2.2.2.1, y0, x.2.2.2.2.2.1)
noncomputable def qhx {R : Type} (x : tK) (k : tT → Option R) : Option R := (ref04_left_L1_run x.1 x.2.1 x.2.2.2.1 x.2.2.2.2.2.1 (x.2.2.1, x.2.2.2.2.1, x.2.2.2.2.2.2)).bind (fun y0 => k (x.1, x.2.1, x.2.2.2.1, y0, x.2.2.2.2.2.1))
def qhy (x : tK) (v : (Int × Bool × Int)) : tK := (x.1, x.2.1, v.1, x.2.2.2.1, v.2.1, x.2.2.2.2.2.1, v.2.2)
theorem qhz (x : tK) : LE.step X qhv qho qhq 12 x = ref04_left_L1_step x.1 x.2.1 x.2.2.2.1 x.2.2.2.2.2.1 x.2.2.1 x.2.2.2.2.1 x.2.2.2.2.2.2 (fun w0 w1 w2 => (Sum.inl (x.1, x.2.1, w0, x.2.2.2.1, w1, x.2.2.2.2.2.1, w2))) (fun p0 => (Sum.inr (x.1, x.2.1, x.2.2.2.1, p0, x.2.2.2.2.2.1))):=by kernel_rfl
theorem qhB {R : Type} (x : tK) (k : tT → Option R) (r : R) (h : qhx x k = some r) : ∃ o, Runs (LE.step X qhv qho qhq 12) x o ∧ k o = some r := by
  obtain ⟨o, h1, h2⟩ := some_bind h
  exact ⟨qhw x o, small_ok (st := fun (x : tK) => ref04_left_L1_st x.1 x.2.1 x.2.2.2.1 x.2.2.2.2.2.1) (prj := fun x => (x.2.2.1, x.2.2.2.2.1, x.2.2.2.2.2.2)) (emb := qhy) (embO := qhw) (fun x => (qhz x).trans (by unfold ref04_left_L1_st ref04_left_L1_step; simp only [map_cond,map_bindO,map_elim,Option.map_some,Option.map_none]; rfl)) (fun _ _ => rfl) (fun _ _ => rfl) (fun _ _ _ => rfl) (fun _ _ _ => rfl) (fun _ => rfl) (runOf_some.1 h1), by
    first
    | exact h2
    | (rcases o with o <;> exact h2)⟩
noncomputable def qhC {R : Type} : Loops S R := LE.ls X qhv qhx qhq
theorem qhD {R : Type} : LoopsOk X (qhC (R := R)) := loop_ok xok qhp (e := qhv) qhr qhB qhr
def qhE : Key := ⟨[86], 86, none, [0, 0, 1, 0, 1], 0, 2⟩
def qhF : StT S := ⟨(N (N (N (N L vF L) none L) vF L) vB (N L vy L)), L, 2⟩
def qhG : Way S := ⟨.ret, ⟨(N L none (N L none (N L vE L))), L, 14⟩, [.bool]⟩
def qhH : Way S := ⟨(.exit 0), ⟨L, L, 5⟩, []⟩
def qhI : LE S := ⟨qhE, qhF, [.int, .int, (.lst (.sl .bool)), (.lst (.int .i64))], [qhG, qhH]⟩
def qhJ (x : t11) : (Bool ⊕ Unit) → (Bool ⊕ Unit) := Sum.elim (fun y0 => (.inl y0)) (fun y1 => (.inr ()))
noncomputable def qhK {R : Type} (x : t11) (k : (Bool ⊕ Unit) → Option R) : Option R := (ref04_left_L0_run x.2.1 x.2.2.1 x.2.2.2 x.1).bind (Sum.elim (fun y0 => k (.inl y0)) (fun y1 => k (.inr ())))
def qhL (x : t11) (v : Int) : t11 := (v, x.2.1, x.2.2.1, x.2.2.2)
theorem qhM (x : t11) : LE.step X qhI qho qhC 12 x = ref04_left_L0_step x.2.1 x.2.2.1 x.2.2.2 x.1 (fun w0 => (Sum.inl (w0, x.2.1, x.2.2.1, x.2.2.2))) (fun p0 => (Sum.inr (.inl p0))) (Sum.inr (.inr ())):=by kernel_rfl
theorem qhO {R : Type} (x : t11) (k : (Bool ⊕ Unit) → Option R) (r : R) (h : qhK x k = some r) : ∃ o, Runs (LE.step X qhI qho qhC 12) x o ∧ k o = some r := by
  obtain ⟨o, h1, h2⟩ := some_bind h
  exact ⟨qhJ x o, small_ok (st := fun (x : t11) => ref04_left_L0_st x.2.1 x.2.2.1 x.2.2.2) (prj := fun x => x.1) (emb := qhL) (embO := qhJ) (fun x => (qhM x).trans (by unfold ref04_left_L0_st ref04_left_L0_step; simp only [map_cond,map_bindO,map_elim,Option.map_some,Option.map_none]; rfl)) (fun _ _ => rfl) (fun _ _ => rfl) (fun _ _ _ => rfl) (fun _ _ _ => rfl) (fun _ => rfl) (runOf_some.1 h1), by
    first
    | exact h2
    | (rcases o with o | o <;> exact h2)⟩
noncomputable def qhP {R : Type} : Loops S R := LE.ls X qhI qhK qhC
theorem qhQ {R : Type} : LoopsOk X (qhP (R := R)) := loop_ok xok qhp (e := qhI) qhD qhO qhD
theorem qhR (x0 : List (List Bool)) (x1 : Int) (x2 : List Int) : evFn X qho [(.sl (.sl .bool)), (.int .i64), (.sl (.int .i64))] [.bool] qhP 12 86 (x0, x1, x2, ()) = ref04_left x0 x1 x2:=by kernel_rfl
noncomputable def qhS : F7 S := ⟨[(.sl (.sl .bool)), (.int .i64), (.sl (.int .i64))], [.bool], fun xs => ref04_left xs.1 xs.2.1 xs.2.2.1⟩
theorem qhT : FSOk X 86 qhS := fsOk_eq (evFn_ok xok qhp qhQ 12 86) fun xs _ h => (qhR xs.1 xs.2.1 xs.2.2.1).trans h
noncomputable def qhU : List (Nat × F7 S) := [(20, q81), (84, qgR), (75, qbp), (85, qhm), (86, qhS)]
theorem qhV : TabOk X (qhU) := ⟨q82, qgS, qbq, qhn, qhT, trivial⟩
abbrev qhW {R : Type} : Loops S R := noLoops
theorem qhX {R : Type} : LoopsOk X (qhW (R := R)) := noLoops_ok X
def qhY : Key := ⟨[33], 33, none, [0, 0, 1, 1, 0, 0, 1, 0, 0, 1, 0, 1, 1, 1, 1], 2, 32⟩
def qhZ : StT S := ⟨(N (N (N L none (N L (some (.sl (.sl (.int .i64)) [])) L)) vC (N (N L vF L) none L)) none (N (N (N L vB L) none (N L vF L)) none (N (N L vF L) none L))), (N L oi L), 32⟩
def qi0 : Way S := ⟨.ret, ⟨(N (N L none (N L vF L)) none (N (N L vy L) none L)), (N L oi L), 49⟩, [.int, (.lst (.int .i64)), (.st 9)]⟩
def qi1 : Way S := ⟨(.exit 2), ⟨vU, (N L oi L), 36⟩, [(.lst (.st 10)), .int, (.lst (.sl .bool)), .int, (.st 9)]⟩
def qi2 : LE S := ⟨qhY, qhZ, [(.lst (.sl (.int .i64))), (.lst (.st 10)), .int, (.lst (.sl .bool)), .int, .int, (.st 9)], [qi0, qi1]⟩
def qi3 (x : tv) : ((Int × (List Int)) ⊕ Unit) → tr := Sum.elim (fun y0 => (.inl (y0.1, y0.2, x.2.2.2.2.2.2))) (fun y1 => (.inr (x.2.1, x.2.2.1, x.2.2.2.1, x.2.2.2.2.2.1, x.2.2.2.2.2.2)))
noncomputable def qi4 {R : Type} (x : tv) (k : tr → Option R) : Option R := (ref04_Wrong_L1_run x.1 x.2.1 x.2.2.1 x.2.2.2.1 x.2.2.2.2.2.1 x.2.2.2.2.2.2 x.2.2.2.2.1).bind (Sum.elim (fun y0 => k (.inl (y0.1, y0.2, x.2.2.2.2.2.2))) (fun y1 => k (.inr (x.2.1, x.2.2.1, x.2.2.2.1, x.2.2.2.2.2.1, x.2.2.2.2.2.2))))
def qi5 (x : tv) (v : Int) : tv := (x.1, x.2.1, x.2.2.1, x.2.2.2.1, v, x.2.2.2.2.2.1, x.2.2.2.2.2.2)
theorem qi6 (x : tv) : LE.step X qi2 qhU qhW 12 x = ref04_Wrong_L1_step x.1 x.2.1 x.2.2.1 x.2.2.2.1 x.2.2.2.2.2.1 x.2.2.2.2.2.2 x.2.2.2.2.1 (fun w0 => (Sum.inl (x.1, x.2.1, x.2.2.1, x.2.2.2.1, w0, x.2.2.2.2.2.1, x.2.2.2.2.2.2))) (fun p0 p1 => (Sum.inr (.inl (p0, p1, x.2.2.2.2.2.2)))) (Sum.inr (.inr (x.2.1, x.2.2.1, x.2.2.2.1, x.2.2.2.2.2.1, x.2.2.2.2.2.2))):=by kernel_rfl
theorem qi8 {R : Type} (x : tv) (k : tr → Option R) (r : R) (h : qi4 x k = some r) : ∃ o, Runs (LE.step X qi2 qhU qhW 12) x o ∧ k o = some r := by
  obtain ⟨o, h1, h2⟩ := some_bind h
  exact ⟨qi3 x o, small_ok (st := fun (x : tv) => ref04_Wrong_L1_st x.1 x.2.1 x.2.2.1 x.2.2.2.1 x.2.2.2.2.2.1 x.2.2.2.2.2.2) (prj := fun x => x.2.2.2.2.1) (emb := qi5) (embO := qi3) (fun x => (qi6 x).trans (by unfold ref04_Wrong_L1_st ref04_Wrong_L1_step; simp only [map_cond,map_bindO,map_elim,Option.map_some,Option.map_none]; rfl)) (fun _ _ => rfl) (fun _ _ => rfl) (fun _ _ _ => rfl) (fun _ _ _ => rfl) (fun _ => rfl) (runOf_some.1 h1), by
    first
    | exact h2
    | (rcases o with o | o <;> exact h2)⟩
noncomputable def qi9 {R : Type} : Loops S R := LE.ls X qi2 qi4 qhW
theorem qia {R : Type} : LoopsOk X (qi9 (R := R)) := loop_ok xok qhV (e := qi2) qhX qi8 qhX
def qib : Key := ⟨[33], 33, none, [0, 0, 1, 0, 1, 1, 1, 1], 0, 22⟩
def qic : StT S := ⟨vU, (N L oi L), 22⟩
def qid : Way S := ⟨.ret, ⟨(N (N L none (N L vF L)) none (N (N L vy L) none L)), (N L oi L), 49⟩, [.int, (.lst (.int .i64)), (.st 9)]⟩
def qie : Way S := ⟨(.exit 0), ⟨L, (N L oi L), 26⟩, [(.st 9)]⟩
def qif : LE S := ⟨qib, qic, [(.lst (.st 10)), .int, (.lst (.sl .bool)), .int, (.st 9)], [qid, qie]⟩
def qig (x : tM) : ((Int × (List Int)) ⊕ Unit) → t12 := Sum.elim (fun y0 => (.inl (y0.1, y0.2, x.2.2.2.2))) (fun y1 => (.inr x.2.2.2.2))
noncomputable def qih {R : Type} (x : tM) (k : t12 → Option R) : Option R := (ref04_Wrong_L0_run x.1 x.2.1 x.2.2.1 x.2.2.2.2 x.2.2.2.1).bind (Sum.elim (fun y0 => k (.inl (y0.1, y0.2, x.2.2.2.2))) (fun y1 => k (.inr x.2.2.2.2)))
def qii (x : tM) (v : Int) : tM := (x.1, x.2.1, x.2.2.1, v, x.2.2.2.2)
theorem qij (x : tM) : LE.step X qif qhU qi9 12 x = ref04_Wrong_L0_step x.1 x.2.1 x.2.2.1 x.2.2.2.2 x.2.2.2.1 (fun w0 => (Sum.inl (x.1, x.2.1, x.2.2.1, w0, x.2.2.2.2))) (fun p0 p1 => (Sum.inr (.inl (p0, p1, x.2.2.2.2)))) (Sum.inr (.inr x.2.2.2.2)):=by kernel_rfl
theorem qil {R : Type} (x : tM) (k : t12 → Option R) (r : R) (h : qih x k = some r) : ∃ o, Runs (LE.step X qif qhU qi9 12) x o ∧ k o = some r := by
  obtain ⟨o, h1, h2⟩ := some_bind h
  exact ⟨qig x o, small_ok (st := fun (x : tM) => ref04_Wrong_L0_st x.1 x.2.1 x.2.2.1 x.2.2.2.2) (prj := fun x => x.2.2.2.1) (emb := qii) (embO := qig) (fun x => (qij x).trans (by unfold ref04_Wrong_L0_st ref04_Wrong_L0_step; simp only [map_cond,map_bindO,map_elim,Option.map_some,Option.map_none]; rfl)) (fun _ _ => rfl) (fun _ _ => rfl) (fun _ _ _ => rfl) (fun _ _ _ => rfl) (fun _ => rfl) (runOf_some.1 h1), by
    first
    | exact h2
    | (rcases o with o | o <;> exact h2)⟩
noncomputable def qim {R : Type} : Loops S R := LE.ls X qif qih qi9
theorem qin {R : Type} : LoopsOk X (qim (R := R)) := loop_ok xok qhV (e := qif) qia qil qia
theorem qio (x0 : SgMooring) (x1 : List SgLook) : evFn X qhU [(.st 9), (.sl (.st 10))] [(.sl (.int .i64)), (.int .i64)] qim 12 33 (x0, x1, ()) = ref04_Wrong x0 x1:=by kernel_rfl
noncomputable def qip : F7 S := ⟨[(.st 9), (.sl (.st 10))], [(.sl (.int .i64)), (.int .i64)], fun xs => ref04_Wrong xs.1 xs.2.1⟩
theorem qiq : FSOk X 33 qip := fsOk_eq (evFn_ok xok qhV qin 12 33) fun xs _ h => (qio xs.1 xs.2.1).trans h
noncomputable def qir : List (Nat × F7 S) := [(27, qdw), (28, qfQ), (29, qdX), (30, qgm), (31, qfn), (32, qf3), (33, qip), (24, qfp)]
theorem qis : TabOk X (qir) := ⟨qdx, qfR, qdY, qgn, qfo, qf4, qiq, qfq, trivial⟩
abbrev qit {R : Type} : Loops S R := noLoops
theorem qiu {R : Type} : LoopsOk X (qit (R := R)) := noLoops_ok X
theorem qiv (x0 : SgMooring) (x1 : List SgLook) : evFn X qir [(.st 9), (.sl (.st 10))] [.bool] qit 12 5 (x0, x1, ()) = law04_SwingDrags x0 x1:=by kernel_rfl
noncomputable def qiw : F7 S := ⟨[(.st 9), (.sl (.st 10))], [.bool], fun xs => law04_SwingDrags xs.1 xs.2.1⟩
theorem law04_SwingDrags_fsok : FSOk X 5 qiw := fsOk_eq (evFn_ok xok qis qiu 12 5) fun xs _ h => (qiv xs.1 xs.2.1).trans h
end Nore
