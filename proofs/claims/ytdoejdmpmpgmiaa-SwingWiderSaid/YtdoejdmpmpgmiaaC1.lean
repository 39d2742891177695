/- The code comes to the plain functions. -/
import Derived.Test.YtdoejdmpmpgmiaaY
import Derived.Test.YtdoejdmpmpgmiaaD
set_option linter.unusedSectionVars false
set_option linter.unusedVariables false
set_option linter.unusedSimpArgs false
set_option maxRecDepth 100000
open Go Go.Ab Go.Proofs Go.Proofs.Ytdoejdmpmpgmiaa
open Go.Ab.Tr renaming node → N, leaf → L
namespace Nore
abbrev tS : Type := List (ByteArray × Int)
abbrev tR : Type := Int × (List Point) × Point
abbrev tQ : Type := Int × Int × (List Point) × Int
abbrev tP : Type := Int × (List Point) × Int × Int
abbrev tO : Type := (Int × Int × Int) ⊕ (Int × Int)
abbrev tN : Type := Int × (List ByteArray) × CtChart
abbrev tM : Type := Int × CtChart × (List ByteArray)
abbrev tL : Type := Int × ByteArray × ByteArray × Nat
abbrev tK : Type := ByteArray × Int × (List ByteArray)
abbrev tJ : Type := Int × (List Int) × Int × Int × Int
abbrev tI : Type := Int × Int × (List Span) × Int × Int
abbrev tH : Type := (List SgLook) × Int × Int × SgMooring
abbrev tG : Type := Int × Int × (List Int) × Point × Point
abbrev tF : Type := Int × Int × Int × (List CtPaint) × (List Int)
abbrev tE : Type := (List (Nat → Int)) × swing_mooring × SgMooring
abbrev tD : Type := Int × Int × Int × tS × CtSand
abbrev tC : Type := Int × (List SgLook) × Int × (List SgLook) × SgMooring
abbrev tB : Type := Int × (List (Nat → Int)) × Int × (Nat → Int) × (Nat → Int)
abbrev tA : Type := (Nat → Int) × Int × (Nat → Int) × (Nat → Int) × (Nat → Int)
abbrev tz : Type := Int × Int × Int × (List ByteArray) × CtMark × (List ByteArray)
abbrev ty : Type := Int × (List CtSand) × Int × CtChart × tS
abbrev tx : Type := Int × Int × (List CtMark) × CtChart × tS
abbrev tw : Type := (Bool × ByteArray × Nat) ⊕ tL
abbrev tv : Type := Int × Int × SgLook × SgLook × (List Int) × (List Int) × (List Int)
abbrev tu : Type := (List SgLook) × (List SgLook) × (Nat → Int) × SgMooring × SgMooring
abbrev tt : Type := CtBox × SgLook × swing_mooring × SgLook × swing_mooring × (Nat → Int)
abbrev ts : Type := (List SgLook) × Int × (List SgLook) × (Nat → Int) × SgMooring × SgMooring
abbrev tr : Type := Int × (List SgLook) × Int × (List (Nat → Int)) × swing_mooring × SgMooring
abbrev tq : Type := Int × Int × CtBox × SgLook × swing_mooring × SgLook × swing_mooring × (Nat → Int)
abbrev tp : Type := Int × (List Point) × (List Point) × (List SgLook) × (Nat → Int) × SgMooring × SgMooring
abbrev to : Type := Int × Int × Int × CtBox × SgLook × swing_mooring × SgLook × swing_mooring × (Nat → Int)
abbrev tn : Type := Int × Point × SgLook × (List Int) × swing_mooring × Point × (List Int) × (List Int) × Point
abbrev tm : Type := Int × Int × Int × Int × Int × Int × Int × (Nat → Int) × CtBox × SgMooring × SgMooring × swing_mooring
abbrev tl : Type := Int × Int × Int × Int × Int × Int × Int × Int × Int × (Nat → Int) × CtBox × SgMooring × SgMooring × swing_mooring
abbrev tk : Type := (Bool × (List SgLook) × (Nat → Int) × SgMooring × SgMooring) ⊕ ((List SgLook) × (Nat → Int) × SgMooring × SgMooring)
abbrev tj : Type := Int × Int × (List Point) × chart_sand × Bool × Int × Bool × chart_sand × Bool × Int × chart_sand × (List Int) × Point
abbrev ti : Type := Int × chart_sand × Bool × Int × Bool × chart_sand × Bool × Int × chart_sand × Point × chart_side × (List Int) × Point
abbrev th : Type := Int × Int × Int × Int × Int × Int × Int × Int × Int × Int × (Nat → Int) × CtBox × SgMooring × SgMooring × swing_mooring
abbrev tg : Type := CtBox × SgMooring × (List Point) × (Nat → Int) × swing_mooring × (List (Nat → Int)) × Bool × (List SgLook) × Int × SgMooring
abbrev tf : Type := Int × Int × CtBox × SgMooring × (List Point) × (Nat → Int) × swing_mooring × (List (Nat → Int)) × Bool × (List SgLook) × Int × SgMooring
abbrev te : Type := Int × Int × CtBox × SgMooring × (Nat → Int) × swing_mooring × (List Point) × (List (Nat → Int)) × Bool × (List SgLook) × Int × SgMooring
abbrev td : Type := Int × Int × Int × CtBox × SgMooring × (Nat → Int) × swing_mooring × (List Point) × (List (Nat → Int)) × Bool × (List SgLook) × Int × SgMooring
abbrev tc : Type := Int × Int × (List Point) × Int × chart_sand × Bool × Int × Bool × chart_sand × Bool × Int × chart_sand × Point × chart_side × (List Int) × Point
abbrev tb : Type := Int × Int × CtBox × SgLook × swing_mooring × SgLook × SgLook × Int × swing_mooring × Int × Int × CtBox × swing_mooring × Point × (Nat → Int) × Int
abbrev ta : Type := Int × Int × Int × CtBox × SgLook × swing_mooring × SgLook × SgLook × Int × swing_mooring × Int × Int × CtBox × swing_mooring × Point × (Nat → Int) × Int
abbrev t9 : Type := (Int × Int × Int × (List ByteArray) × (List ByteArray) × CtChart) ⊕ (Int × Int × Int × (List ByteArray) × (List ByteArray) × CtChart) ⊕ ((List ByteArray) × CtChart)
abbrev t8 : Type := (Int × (List Int) × (List Int) × CtPaint) ⊕ (Int × (List Int) × (List Int) × (List Int) × CtPaint) ⊕ (Int × (List Int) × (List Int) × (List Int) × CtPaint) ⊕ (List Int)
abbrev t7 : Type := (Bool × Point × Point × SgLook × (List Int) × swing_mooring × Point × (List Int) × (List Int) × Point × Point) ⊕ (Point × SgLook × (List Int) × swing_mooring × Point × (List Int) × (List Int) × Point)
abbrev t6 : Type := (chart_sand × Bool × Int × Bool × chart_sand × Bool × Int × chart_sand × Point × chart_side × (List Int) × Point) ⊕ (chart_sand × Bool × Int × Bool × chart_sand × Bool × Int × chart_sand × (List Int) × Point)
abbrev t5 : Type := (Int × Int × Int × CtChart × tS × CtSand) ⊕ (Int × Int × Int × CtChart × tS × CtSand) ⊕ (Int × Int × Int × CtChart × tS × CtSand) ⊕ (CtChart × tS)
abbrev t4 : Type := (Int × Int × Int × (List ByteArray) × CtMark × CtChart × (List ByteArray)) ⊕ (Int × Int × Int × (List ByteArray) × CtMark × CtChart × (List ByteArray)) ⊕ (Int × Int × Int × (List ByteArray) × CtMark × CtChart × (List ByteArray)) ⊕ (CtChart × (List ByteArray))
abbrev t3 : Type := (CtBox × SgLook × swing_mooring × SgLook × SgLook × Int × swing_mooring × Int × Int × CtBox × swing_mooring × Point × Point × (Nat → Int) × Int) ⊕ (CtBox × SgLook × swing_mooring × SgLook × SgLook × Int × swing_mooring × Int × Int × CtBox × swing_mooring × Point × (Nat → Int) × Int)
abbrev t2 : Type := (CtBox × SgLook × swing_mooring × SgLook × SgLook × Int × swing_mooring × Int × Int × CtBox × swing_mooring × Point × Point × (Nat → Int) × Int) ⊕ tb
abbrev t1 : Type := (Int × Int × Int × CtMark × CtChart × tS) ⊕ (Int × Int × Int × CtMark × CtChart × tS) ⊕ (Int × Int × Int × CtMark × CtChart × tS × (List Point)) ⊕ (Int × Int × Int × CtMark × CtChart × tS × (List Point)) ⊕ (CtChart × tS)
abbrev t0 : Type := (Int × Int × SgLook × SgLook × (List SgLook) × SgMooring) ⊕ (Int × Int × SgLook × SgLook × (List SgLook) × SgMooring × (List Int)) ⊕ (Int × Int × SgLook × SgLook × (List SgLook) × SgMooring × (List Int) × (List Int)) ⊕ (Int × Int × SgLook × SgLook × (List SgLook) × SgMooring × (List Int) × (List Int) × (List Int)) ⊕ (Int × Int × SgLook × SgLook × (List SgLook) × SgMooring × (List Int) × (List Int) × (List Int)) ⊕ (Int × Int × SgLook × SgLook × (List SgLook) × SgMooring × (List Int) × (List Int) × (List Int)) ⊕ ((List SgLook) × SgMooring)
abbrev vC : Option (TV S) := some (.int .i64 0)
abbrev vB : Option (TV S) := some (.bool false)
abbrev vA : Option (TV S) := some (.sl (.st 2) [])
abbrev vz : Option (TV S) := some (.sl (.st 10) [])
abbrev oy : Option (TObj S) := some (.row 9 .str [] 1 1)
abbrev ox : Option (TObj S) := some (.row 9 .str [] 0 0)
abbrev ow : Option (TObj S) := some (.row 9 .str [] 1 0)
abbrev vv : Option (TV S) := some (.str ByteArray.empty)
abbrev ou : Option (TObj S) := some (.cells 153 [(.map 4)])
abbrev ot : Option (TObj S) := some (.row 46 (.st 2) [] 1 0)
abbrev os : Option (TObj S) := some (.row 44 (.st 10) [] 1 0)
abbrev or : Option (TObj S) := some (.map .str (.int .i64) [])
abbrev oq : Option (TObj S) := some (.cells 3 [(.int .i64 0)])
abbrev op : Option (TObj S) := some (.siter ByteArray.empty 0)
abbrev oo : Option (TObj S) := some (.cells 33 [(.int .i64 0)])
abbrev on : Option (TObj S) := some (.row 3 (.int .i64) [] 1 0)
abbrev vm : Option (TV S) := some (.agg [(.stc 15 (T.dflt 15))])
abbrev ol : Option (TObj S) := some (.cells 32 [(.sl (.st 10) [])])
abbrev vk : Option (TV S) := some (.fn (.func 97) [] [(.ptr 5 0)])
abbrev oj : Option (TObj S) := some (.cells 29 [(.stc 6 (T.dflt 6))])
abbrev oi : Option (TObj S) := some (.cells 31 [(.stc 9 (T.dflt 9))])
abbrev oh : Option (TObj S) := some (.cells 79 [(.stc 7 (T.dflt 7))])
abbrev og : Option (TObj S) := some (.cells 25 [(.stc 8 (T.dflt 8))])
abbrev of : Option (TObj S) := some (.cells 46 [(.stc 2 (T.dflt 2))])
abbrev oe : Option (TObj S) := some (.cells 158 [(.stc 4 (T.dflt 4))])
abbrev vd : Option (TV S) := some (.fn (.func 135) [] [(.ptr 23 0)])
abbrev oc : Option (TObj S) := some (.cells 184 [(.stc 3 (T.dflt 3))])
abbrev ob : Option (TObj S) := some (.cells 44 [(.stc 10 (T.dflt 10))])
abbrev oa : Option (TObj S) := some (.cells 111 [(.stc 14 (T.dflt 14))])
abbrev o9 : Option (TObj S) := some (.cells 179 [(.stc 17 (T.dflt 17))])
abbrev o8 : Option (TObj S) := some (.cells 147 [(.stc 15 (T.dflt 15))])
abbrev o7 : Option (TObj S) := some (.cells 90 [(.arr (.int .u8) 4 (fun _ => tdf T (.int .u8)))])
abbrev o6 : Option (TObj S) := some (.cells 109 [(.arr (.int .u64) 5 (fun _ => tdf T (.int .u64)))])
abbrev o5 : Option (TObj S) := some (.cells 111 [.nils, .nils, (.int .i64 0), (.int .i64 0), (.int .i64 0), (.int .i64 0), (.int .i64 0), (.int .i64 0), (.int .i64 0), (.arr (.int .u64) 5 (fun _ => tdf T (.int .u64)))])
abbrev o4 : Option (TObj S) := some (.loop 76 (N (N (N L (some (.ptr 4 0)) L) (some (.ptr 0 0)) (N (N L (some (.fn (.func 108) [] [(.ptr 9 0)])) L) none L)) (some (.agg [(.stc 9 (T.dflt 9))])) (N L (some (.ptr 1 0)) L)) (10 :: (11 :: [])) .skip .skip 0 .normal (0 :: (76 :: [])) (0 :: (1 :: (0 :: (1 :: (1 :: []))))))
abbrev o3 : Option (TObj S) := some (.loop 107 (N (N (N L (some (.ptr 1 0)) L) (some (.agg [(.stc 10 (T.dflt 10))])) L) (some (.agg [(.stc 14 (T.dflt 14))])) (N (N L (some (.ptr 2 0)) (N L (some (.fn (.func 108) [] [(.ptr 7 0)])) L)) (some (.ptr 0 0)) L)) (13 :: (14 :: [])) .skip .skip 0 .busy (0 :: (107 :: [])) (0 :: (1 :: (0 :: (1 :: [])))))
abbrev o2 : Option (TObj S) := some (.loop 107 (N (N (N L (some (.ptr 1 0)) L) (some (.agg [(.stc 10 (T.dflt 10))])) L) (some (.agg [(.stc 14 (T.dflt 14))])) (N (N L (some (.ptr 2 0)) (N L (some (.fn (.func 108) [] [(.ptr 7 0)])) L)) (some (.ptr 0 0)) L)) (13 :: (14 :: [])) .skip .skip 0 .normal (0 :: (107 :: [])) (0 :: (1 :: (0 :: (1 :: [])))))
abbrev o1 : Option (TObj S) := some (.loop 21 (N (N (N (N L (some (.sl (.arr 5 (.int .u64)) [])) L) none (N (N L vB L) none (N L (some (.fn (.func 108) [] [(.ptr 25 0)])) L))) vz (N L vC L)) (some (.agg [(.stc 9 (T.dflt 9))])) (N (N (N L (some (.ptr 20 0)) L) (some (.ptr 1 0)) L) (some (.ptr 0 0)) (N L (some (.ptr 10 0)) L))) (28 :: (29 :: [])) .skip .skip 0 .normal (0 :: (21 :: [])) (0 :: (1 :: (0 :: (1 :: (1 :: (1 :: (1 :: []))))))))
abbrev o0 : Option (TObj S) := some (.loop 107 (N (N (N L (some (.ptr 1 0)) L) (some (.agg [(.stc 10 (T.dflt 10))])) (N (N (N L (some (.fn (.func 108) [] [(.ptr 45 0)])) L) none L) (some (.ptr 38 0)) (N L vC L))) (some (.agg [(.stc 14 (T.dflt 14))])) (N (N L (some (.ptr 2 0)) (N L (some (.fn (.func 108) [] [(.ptr 7 0)])) L)) (some (.ptr 0 0)) (N L (some (.ptr 40 0)) (N L (some (.agg [(.int .i64 0), (.int .i64 0)])) L)))) (18 :: (19 :: [])) .skip .skip 2 .normal (2 :: (11 :: (5 :: (7 :: (108 :: (0 :: (107 :: []))))))) (0 :: (1 :: (0 :: (1 :: (0 :: (1 :: (0 :: (1 :: [])))))))))
abbrev o1a : Tr (TObj S) := N (N L none (N L on L)) none L
abbrev o19 : Tr (TObj S) := N L none (N (N L ow L) none L)
abbrev v18 : Tr (TV S) := N (N L none (N L vC L)) none L
abbrev o17 : Tr (TObj S) := N (N (N L on L) none L) none L
abbrev v16 : Tr (TV S) := N L none (N (N L vC L) none L)
abbrev v15 : Tr (TV S) := N (N (N L vC L) none L) none L
abbrev o14 : Tr (TObj S) := N (N (N L op L) none L) none L
abbrev v13 : Tr (TV S) := N v15 none L
abbrev v12 : Tr (TV S) := N (N (N L vC L) none L) none (N (N L vC L) vC L)
abbrev o11 : Tr (TObj S) := N (N L none (N L ou L)) og (N (N L or L) none L)
abbrev v10 : Tr (TV S) := N (N L none (N L vC L)) none (N (N L vC L) none L)
abbrev oZ : Tr (TObj S) := N (N (N (N L oj L) none (N L o2 L)) ob L) oa (N L o6 L)
abbrev oY : Tr (TObj S) := N (N L o5 (N (N L oj L) none (N L o4 L))) oi (N (N L oa L) none L)
abbrev oX : Tr (TObj S) := N (N L none (N L ou (N (N L oe L) none L))) og (N (N L or L) none L)
abbrev oW : Tr (TObj S) := N (N (N (N (N L ob L) none L) none (N (N L ob L) none L)) none L) ol L
abbrev vV : Tr (TV S) := N (N (N L vC L) (some (.ptr 7 0)) L) (some (.yld 11)) (N (N L vC L) none L)
abbrev vU : Tr (TV S) := N (N (N L vC L) (some (.ptr 9 0)) L) (some (.yld 13)) (N (N L vC L) none L)
abbrev vT : Tr (TV S) := N (N (N L vC L) (some (.ptr 25 0)) L) (some (.yld 30)) (N (N L vC L) none L)
abbrev vS : Tr (TV S) := N (N (N L vC L) (some (.ptr 45 0)) L) (some (.yld 49)) (N (N L vC L) none L)
abbrev oR : Tr (TObj S) := N (N (N (N L none (N L os L)) none L) o7 L) oi (N (N (N L oi L) none L) none L)
abbrev oQ : Tr (TObj S) := N (N L none (N L ou L)) og (N (N L or L) none (N L none (N L none (N L oh L))))
abbrev oP : Tr (TObj S) := N (N (N L none (N (N L (some (.row 109 (.arr 5 (.int .u64)) [] 1 0)) L) none L)) oa L) oi L
abbrev oO : Tr (TObj S) := N (N (N L none (N L none (N (N L ox L) none L))) none (N L none (N (N L oy L) none L))) og L
abbrev oN : Tr (TObj S) := N (N L none (N L ou (N (N L oe L) none L))) og (N (N L or L) none (N (N (N L none (N L ot L)) none L) none L))
abbrev oM : Tr (TObj S) := N (N (N L on L) none (N L none (N (N L on L) none L))) none (N (N (N (N L on L) none L) none (N L oc L)) none L)
abbrev oL : Tr (TObj S) := N (N (N (N (N (N L ox L) none L) none L) none L) none (N L none (N (N L oe L) none L))) og (N L none (N (N L oy L) none L))
abbrev oK : Tr (TObj S) := N (N L (some (.cells 37 [(.rs 36 0)])) (N (N L none (N L oj L)) none L)) oi (N (N L none (N (N (N L ot L) o6 L) none L)) none (N (N L oa L) none (N L none (N L o1 L))))
abbrev oJ : Tr (TObj S) := N (N L (some (.cells 37 [(.rs 46 0)])) (N (N L none (N L oj L)) none L)) oi (N (N L none (N (N L o6 L) none L)) none (N (N L oa L) none (N L none (N (N L ot L) o1 L))))
abbrev oI : Tr (TObj S) := N (N (N L of L) ob (N L none o1a)) oa (N (N (N (N L of L) none (N (N L on L) none L)) none (N L none o17)) of L)
abbrev oH : Tr (TObj S) := N oW oi (N (N (N L none (N L none (N L on L))) none L) none (N o1a none (N L none (N L none (N L on L)))))
abbrev oG : Tr (TObj S) := N (N (N (N L oj L) none (N L o3 L)) ob (N (N (N L none (N L o0 L)) none L) none (N L none (N (N L oj L) none L)))) oa (N (N (N L none (N (N L of L) none L)) none L) o6 (N L none (N (N (N L oq L) none L) none L)))
abbrev oF : Tr (TObj S) := N (N (N (N L none (N L o8 L)) none (N L none (N L (some (.loop 101 (N (N (N (N (N L vB L) none L) vC L) (some (.ptr 0 0)) (N (N L none (N L vB L)) none L)) vm (N (N (N L vB L) none (N L none (N L vd L))) (some (.ptr 1 0)) L)) (29 :: []) .skip .skip 1 .normal (1 :: (101 :: [])) (0 :: (1 :: (0 :: (1 :: (1 :: (1 :: [])))))))) L))) oo L) o8 (N L none (N L on (N (N (N L of L) none L) none L)))
abbrev oE : Tr (TObj S) := N (N (N (N L none (N L o8 L)) none (N L none (N L (some (.loop 101 (N (N (N (N (N L vB L) none L) vC L) (some (.ptr 0 0)) (N (N L none (N L vB L)) none L)) vm (N (N (N L vB L) none (N L none (N L vd L))) (some (.ptr 1 0)) L)) (29 :: []) .skip .skip 1 .busy (1 :: (101 :: [])) (0 :: (1 :: (0 :: (1 :: (1 :: (1 :: [])))))))) L))) oo L) o8 (N (N (N (N L none (N L of L)) none L) none L) none (N (N L none (N L none (N L o9 L))) on (N (N (N L of L) none L) none L)))
abbrev oD : Tr (TObj S) := N (N (N (N L oj L) none (N L o3 L)) ob (N (N (N L none (N L (some (.loop 107 (N (N (N L (some (.ptr 1 0)) L) (some (.agg [(.stc 10 (T.dflt 10))])) (N (N (N L (some (.fn (.func 108) [] [(.ptr 45 0)])) L) none L) (some (.ptr 38 0)) (N L vC L))) (some (.agg [(.stc 14 (T.dflt 14))])) (N (N L (some (.ptr 2 0)) (N L (some (.fn (.func 108) [] [(.ptr 7 0)])) L)) (some (.ptr 0 0)) (N L (some (.ptr 40 0)) (N L (some (.agg [(.int .i64 0), (.int .i64 0)])) L)))) (18 :: (19 :: [])) .skip .skip 2 (.exit 2) (2 :: (11 :: (5 :: (7 :: (108 :: (0 :: (107 :: []))))))) (0 :: (1 :: (0 :: (1 :: (0 :: (1 :: (0 :: (1 :: [])))))))))) L)) none L) none (N L none (N (N L oj L) none L)))) oa (N (N (N L none (N (N L of L) none L)) none (N L none (N (N (N L of L) none L) none L))) o6 (N L none (N (N (N L oq L) none L) none L)))
noncomputable def q0 : List (Nat × F7 S) := []
theorem q1 : TabOk X (q0) := trivial
abbrev q2 {R : Type} : Loops S R := noLoops
theorem q3 {R : Type} : LoopsOk X (q2 (R := R)) := noLoops_ok X
def q4 : Key := ⟨[98], 98, none, [0, 0, 1, 0, 1, 1], 0, 4⟩
def q5 : StT S := ⟨(N (N (N (N L (some (.iter 3)) L) (some (.int .i32 0)) L) none L) vv L), o14, 4⟩
def q6 : Way S := ⟨.ret, ⟨(N L none (N L vB L)), o14, 23⟩, [.bool, .str, .nat]⟩
def q7 : Way S := ⟨(.exit 0), ⟨(N (N (N L (some (.int .i32 0)) L) none L) vv L), o14, 6⟩, [.int, .str, .str, .nat]⟩
def q8 : LE S := ⟨q4, q5, [.int, .str, .str, .nat], [q6, q7]⟩
def q9 (x : tL) : ((Bool × Nat) ⊕ (Int × Nat)) → tw := Sum.elim (fun y0 => (.inl (y0.1, x.2.2.1, y0.2))) (fun y1 => (.inr (y1.1, x.2.1, x.2.2.1, y1.2)))
noncomputable def qa {R : Type} (x : tL) (k : tw → Option R) : Option R := (chart_Name_L0_run x.2.1 x.2.2.1 (x.1, x.2.2.2)).bind (Sum.elim (fun y0 => k (.inl (y0.1, x.2.2.1, y0.2))) (fun y1 => k (.inr (y1.1, x.2.1, x.2.2.1, y1.2))))
def qb (x : tL) (v : (Int × Nat)) : tL := (v.1, x.2.1, x.2.2.1, v.2)
theorem qc (x : tL) : LE.step X q8 q0 q2 12 x = chart_Name_L0_step x.2.1 x.2.2.1 x.1 x.2.2.2 (fun w0 w1 => (Sum.inl (w0, x.2.1, x.2.2.1, w1))) (fun p0 p1 => (Sum.inr (.inl (p0, x.2.2.1, p1)))) (fun p0 p1 => (Sum.inr (.inr (p0, x.2.1, x.2.2.1, p1)))):=by kernel_rfl
theorem qe {R : Type} (x : tL) (k : tw → Option R) (r : R) (h : qa x k = some r) : ∃ o, Runs (LE.step X q8 q0 q2 12) x o ∧ k o = some r := by
  obtain ⟨o, h1, h2⟩ := some_bind h
  exact ⟨q9 x o, small_ok (st := fun (x : tL) => chart_Name_L0_st x.2.1 x.2.2.1) (prj := fun x => (x.1, x.2.2.2)) (emb := qb) (embO := q9) (fun x => (qc x).trans (by unfold chart_Name_L0_st chart_Name_L0_step; simp only [map_cond,map_bindO,map_elim,Option.map_some,Option.map_none]; rfl)) (fun _ _ => rfl) (fun _ _ => rfl) (fun _ _ _ => rfl) (fun _ _ _ => rfl) (fun _ => rfl) (runOf_some.1 h1), by
    first
    | exact h2
    | (rcases o with o | o <;> exact h2)⟩
noncomputable def qf {R : Type} : Loops S R := LE.ls X q8 qa q2
theorem qg {R : Type} : LoopsOk X (qf (R := R)) := loop_ok xok q1 (e := q8) q3 qe q3
theorem qh (x0 : ByteArray) : evFn X q0 [.str] [.bool] qf 12 98 (x0, ()) = chart_Name x0:=by kernel_rfl
noncomputable def qi : F7 S := ⟨[.str], [.bool], fun xs => chart_Name xs.1⟩
theorem qj : FSOk X 98 qi := fsOk_eq (evFn_ok xok q1 qg 12 98) fun xs _ h => (qh xs.1).trans h
noncomputable def qk : List (Nat × F7 S) := []
theorem ql : TabOk X (qk) := trivial
abbrev qm {R : Type} : Loops S R := noLoops
theorem qn {R : Type} : LoopsOk X (qm (R := R)) := noLoops_ok X
def qo : Key := ⟨[127, 2, 1, 102, 2, 1, 124], 127, none, [0, 0, 1, 0, 1], 0, 17⟩
def qp : StT S := ⟨(N (N (N (N L vC L) none L) (some (.fn (.func 138) [] [(.ptr 0 0), (.ptr 1 0)])) L) (some (.sl (.int .i64) [])) v15), (N (N L oq L) oq L), 17⟩
def qq : Way S := ⟨.ret, ⟨v16, (N (N L oq L) oq L), 38⟩, [.int, .int, .int]⟩
def qr : Way S := ⟨(.exit 0), ⟨L, (N (N L oq L) oq L), 18⟩, [.int, .int]⟩
def qs : LE S := ⟨qo, qp, [.int, (.lst (.int .i64)), .int, .int, .int], [qq, qr]⟩
def qt (x : tJ) : (Int ⊕ Unit) → tO := Sum.elim (fun y0 => (.inl (y0, x.2.2.2.1, x.2.2.2.2))) (fun y1 => (.inr (x.2.2.2.1, x.2.2.2.2)))
noncomputable def qu {R : Type} (x : tJ) (k : tO → Option R) : Option R := (chart_out_L0_run x.1 x.2.1 x.2.2.2.1 x.2.2.2.2 x.2.2.1).bind (Sum.elim (fun y0 => k (.inl (y0, x.2.2.2.1, x.2.2.2.2))) (fun y1 => k (.inr (x.2.2.2.1, x.2.2.2.2))))
def qv (x : tJ) (v : Int) : tJ := (x.1, x.2.1, v, x.2.2.2.1, x.2.2.2.2)
theorem qw (x : tJ) : LE.step X qs qk qm 12 x = chart_out_L0_step x.1 x.2.1 x.2.2.2.1 x.2.2.2.2 x.2.2.1 (fun w0 => (Sum.inl (x.1, x.2.1, w0, x.2.2.2.1, x.2.2.2.2))) (fun p0 => (Sum.inr (.inl (p0, x.2.2.2.1, x.2.2.2.2)))) (Sum.inr (.inr (x.2.2.2.1, x.2.2.2.2))):=by kernel_rfl
theorem qy {R : Type} (x : tJ) (k : tO → Option R) (r : R) (h : qu x k = some r) : ∃ o, Runs (LE.step X qs qk qm 12) x o ∧ k o = some r := by
  obtain ⟨o, h1, h2⟩ := some_bind h
  exact ⟨qt x o, small_ok (st := fun (x : tJ) => chart_out_L0_st x.1 x.2.1 x.2.2.2.1 x.2.2.2.2) (prj := fun x => x.2.2.1) (emb := qv) (embO := qt) (fun x => (qw x).trans (by unfold chart_out_L0_st chart_out_L0_step; simp only [map_cond,map_bindO,map_elim,Option.map_some,Option.map_none]; rfl)) (fun _ _ => rfl) (fun _ _ => rfl) (fun _ _ _ => rfl) (fun _ _ _ => rfl) (fun _ => rfl) (runOf_some.1 h1), by
    first
    | exact h2
    | (rcases o with o | o <;> exact h2)⟩
noncomputable def qz {R : Type} : Loops S R := LE.ls X qs qu qm
theorem qA {R : Type} : LoopsOk X (qz (R := R)) := loop_ok xok ql (e := qs) qn qy qn
theorem qB (x0 : Int) (x1 : Int) (x2 : List Int) : evFn X qk [(.int .i64), (.int .i64), (.sl (.int .i64))] [.bool] qz 12 124 (x0, x1, x2, ()) = chart_out x0 x1 x2:=by kernel_rfl
noncomputable def qC : F7 S := ⟨[(.int .i64), (.int .i64), (.sl (.int .i64))], [.bool], fun xs => chart_out xs.1 xs.2.1 xs.2.2.1⟩
theorem qD : FSOk X 124 qC := fsOk_eq (evFn_ok xok ql qA 12 124) fun xs _ h => (qB xs.1 xs.2.1 xs.2.2.1).trans h
noncomputable def qE : List (Nat × F7 S) := [(124, qC)]
theorem qF : TabOk X (qE) := ⟨qD, trivial⟩
abbrev qG {R : Type} : Loops S R := noLoops
theorem qH {R : Type} : LoopsOk X (qG (R := R)) := noLoops_ok X
def qI : Key := ⟨[137, 2, 1, 122, 2, 1, 99], 137, none, [0, 0, 1, 0, 1], 0, 16⟩
def qJ : StT S := ⟨(N (N (N (N L vC L) none L) (some (.fn (.func 123) [] [(.ptr 0 0)])) L) vA v15), (N L oq L), 16⟩
def qK : Way S := ⟨.ret, ⟨v16, (N (N L none (N (N L none (N L of L)) none L)) oq (N L none (N o17 none L))), 39⟩, [.int, (.st 2), .int, (.lst (.int .i64))]⟩
def qL : Way S := ⟨(.exit 0), ⟨L, (N L oq L), 17⟩, [.int]⟩
def qM : LE S := ⟨qI, qJ, [.int, (.lst (.st 2)), .int, .int], [qK, qL]⟩
def qN (x : tP) : ((Int × Point × (List Int)) ⊕ Unit) → ((Int × Point × Int × (List Int)) ⊕ Int) := Sum.elim (fun y0 => (.inl (y0.1, y0.2.1, x.2.2.2, y0.2.2))) (fun y1 => (.inr x.2.2.2))
noncomputable def qO {R : Type} (x : tP) (k : ((Int × Point × Int × (List Int)) ⊕ Int) → Option R) : Option R := (chart_far_L0_run x.1 x.2.1 x.2.2.2 x.2.2.1).bind (Sum.elim (fun y0 => k (.inl (y0.1, y0.2.1, x.2.2.2, y0.2.2))) (fun y1 => k (.inr x.2.2.2)))
def qP (x : tP) (v : Int) : tP := (x.1, x.2.1, v, x.2.2.2)
theorem qQ (x : tP) : LE.step X qM qE qG 12 x = chart_far_L0_step x.1 x.2.1 x.2.2.2 x.2.2.1 (fun w0 => (Sum.inl (x.1, x.2.1, w0, x.2.2.2))) (fun p0 p1 p2 => (Sum.inr (.inl (p0, p1, x.2.2.2, p2)))) (Sum.inr (.inr x.2.2.2)):=by kernel_rfl
theorem qS {R : Type} (x : tP) (k : ((Int × Point × Int × (List Int)) ⊕ Int) → Option R) (r : R) (h : qO x k = some r) : ∃ o, Runs (LE.step X qM qE qG 12) x o ∧ k o = some r := by
  obtain ⟨o, h1, h2⟩ := some_bind h
  exact ⟨qN x o, small_ok (st := fun (x : tP) => chart_far_L0_st x.1 x.2.1 x.2.2.2) (prj := fun x => x.2.2.1) (emb := qP) (embO := qN) (fun x => (qQ x).trans (by unfold chart_far_L0_st chart_far_L0_step; simp only [map_cond,map_bindO,map_elim,Option.map_some,Option.map_none]; rfl)) (fun _ _ => rfl) (fun _ _ => rfl) (fun _ _ _ => rfl) (fun _ _ _ => rfl) (fun _ => rfl) (runOf_some.1 h1), by
    first
    | exact h2
    | (rcases o with o | o <;> exact h2)⟩
noncomputable def qT {R : Type} : Loops S R := LE.ls X qM qO qG
theorem qU {R : Type} : LoopsOk X (qT (R := R)) := loop_ok xok qF (e := qM) qH qS qH
theorem qV (x0 : Int) (x1 : List Point) : evFn X qE [(.int .i64), (.sl (.st 2))] [.bool] qT 12 99 (x0, x1, ()) = chart_far x0 x1:=by kernel_rfl
noncomputable def qW : F7 S := ⟨[(.int .i64), (.sl (.st 2))], [.bool], fun xs => chart_far xs.1 xs.2.1⟩
theorem qX : FSOk X 99 qW := fsOk_eq (evFn_ok xok qF qU 12 99) fun xs _ h => (qV xs.1 xs.2.1).trans h
noncomputable def qY : List (Nat × F7 S) := [(124, qC)]
theorem qZ : TabOk X (qY) := ⟨qD, trivial⟩
abbrev q10 {R : Type} : Loops S R := noLoops
theorem q11 {R : Type} : LoopsOk X (q10 (R := R)) := noLoops_ok X
def q12 : Key := ⟨[100], 100, none, [0, 0, 1, 0, 1, 1, 1], 0, 9⟩
def q13 : StT S := ⟨(N (N (N L vC (N L vC L)) none L) none (N (N L none (N L vC L)) none (N (N L (some (.sl (.st 3) [])) L) none L))), o17, 9⟩
def q14 : Way S := ⟨.ret, ⟨(N L none (N L vC L)), (N (N (N L on L) none L) none (N (N (N (N L on L) none L) none (N L oc L)) none L)), 26⟩, [.int, (.lst (.int .i64)), (.lst (.int .i64)), (.st 3)]⟩
def q15 : Way S := ⟨.ret, ⟨(N L none (N L vC L)), oM, 26⟩, [.int, (.lst (.int .i64)), (.lst (.int .i64)), (.lst (.int .i64)), (.st 3)]⟩
def q16 : Way S := ⟨.ret, ⟨(N L none (N L vC L)), oM, 31⟩, [.int, (.lst (.int .i64)), (.lst (.int .i64)), (.lst (.int .i64)), (.st 3)]⟩
def q17 : Way S := ⟨(.exit 0), ⟨L, o17, 10⟩, [(.lst (.int .i64))]⟩
def q18 : LE S := ⟨q12, q13, [.int, .int, .int, (.lst (.st 3)), (.lst (.int .i64))], [q14, q15, q16, q17]⟩
def q19 (x : tF) : ((Int × (List Int) × CtPaint) ⊕ (Int × (List Int) × (List Int) × CtPaint) ⊕ (Int × (List Int) × (List Int) × CtPaint) ⊕ Unit) → t8 := Sum.elim (fun y0 => (.inl (y0.1, x.2.2.2.2, y0.2.1, y0.2.2))) (Sum.elim (fun y1 => (.inr (.inl (y1.1, x.2.2.2.2, y1.2.1, y1.2.2.1, y1.2.2.2)))) (Sum.elim (fun y2 => (.inr (.inr (.inl (y2.1, x.2.2.2.2, y2.2.1, y2.2.2.1, y2.2.2.2))))) (fun y3 => (.inr (.inr (.inr x.2.2.2.2))))))
noncomputable def q1a {R : Type} (x : tF) (k : t8 → Option R) : Option R := (chart_paints_L0_run x.2.1 x.2.2.2.1 x.2.2.2.2 (x.1, x.2.2.1)).bind (Sum.elim (fun y0 => k (.inl (y0.1, x.2.2.2.2, y0.2.1, y0.2.2))) (Sum.elim (fun y1 => k (.inr (.inl (y1.1, x.2.2.2.2, y1.2.1, y1.2.2.1, y1.2.2.2)))) (Sum.elim (fun y2 => k (.inr (.inr (.inl (y2.1, x.2.2.2.2, y2.2.1, y2.2.2.1, y2.2.2.2))))) (fun y3 => k (.inr (.inr (.inr x.2.2.2.2)))))))
def q1b (x : tF) (v : (Int × Int)) : tF := (v.1, x.2.1, v.2, x.2.2.2.1, x.2.2.2.2)
theorem q1c (x : tF) : LE.step X q18 qY q10 12 x = chart_paints_L0_step x.2.1 x.2.2.2.1 x.2.2.2.2 x.1 x.2.2.1 (fun w0 w1 => (Sum.inl (w0, x.2.1, w1, x.2.2.2.1, x.2.2.2.2))) (fun p0 p1 p2 => (Sum.inr (.inl (p0, x.2.2.2.2, p1, p2)))) (fun p0 p1 p2 p3 => (Sum.inr (.inr (.inl (p0, x.2.2.2.2, p1, p2, p3))))) (fun p0 p1 p2 p3 => (Sum.inr (.inr (.inr (.inl (p0, x.2.2.2.2, p1, p2, p3)))))) (Sum.inr (.inr (.inr (.inr x.2.2.2.2)))):=by kernel_rfl
theorem q1e {R : Type} (x : tF) (k : t8 → Option R) (r : R) (h : q1a x k = some r) : ∃ o, Runs (LE.step X q18 qY q10 12) x o ∧ k o = some r := by
  obtain ⟨o, h1, h2⟩ := some_bind h
  exact ⟨q19 x o, small_ok (st := fun (x : tF) => chart_paints_L0_st x.2.1 x.2.2.2.1 x.2.2.2.2) (prj := fun x => (x.1, x.2.2.1)) (emb := q1b) (embO := q19) (fun x => (q1c x).trans (by unfold chart_paints_L0_st chart_paints_L0_step; simp only [map_cond,map_bindO,map_elim,Option.map_some,Option.map_none]; rfl)) (fun _ _ => rfl) (fun _ _ => rfl) (fun _ _ _ => rfl) (fun _ _ _ => rfl) (fun _ => rfl) (runOf_some.1 h1), by
    first
    | exact h2
    | (rcases o with o | o | o | o <;> exact h2)⟩
noncomputable def q1f {R : Type} : Loops S R := LE.ls X q18 q1a q10
theorem q1g {R : Type} : LoopsOk X (q1f (R := R)) := loop_ok xok qZ (e := q18) q11 q1e q11
theorem q1h (x0 : List CtPaint) : evFn X qY [(.sl (.st 3))] [(.int .i64)] q1f 12 100 (x0, ()) = chart_paints x0:=by kernel_rfl
noncomputable def q1i : F7 S := ⟨[(.sl (.st 3))], [(.int .i64)], fun xs => chart_paints xs.1⟩
theorem q1j : FSOk X 100 q1i := fsOk_eq (evFn_ok xok qZ q1g 12 100) fun xs _ h => (q1h xs.1).trans h
noncomputable def q1k : List (Nat × F7 S) := [(124, qC)]
theorem q1l : TabOk X (q1k) := ⟨qD, trivial⟩
abbrev q1m {R : Type} : Loops S R := noLoops
theorem q1n {R : Type} : LoopsOk X (q1m (R := R)) := noLoops_ok X
theorem q1o (x0 : CtBox) (x1 : Int) : evFn X q1k [(.st 6), (.int .i64)] [(.int .i64)] q1m 12 125 (x0, x1, ()) = chart_box x0 x1:=by kernel_rfl
noncomputable def q1p : F7 S := ⟨[(.st 6), (.int .i64)], [(.int .i64)], fun xs => chart_box xs.1 xs.2.1⟩
theorem q1q : FSOk X 125 q1p := fsOk_eq (evFn_ok xok q1l q1n 12 125) fun xs _ h => (q1o xs.1 xs.2.1).trans h
noncomputable def q1r : List (Nat × F7 S) := []
theorem q1s : TabOk X (q1r) := trivial
abbrev q1t {R : Type} : Loops S R := noLoops
theorem q1u {R : Type} : LoopsOk X (q1t (R := R)) := noLoops_ok X
theorem q1v (x0 : Point) (x1 : Point) : evFn X q1r [(.st 2), (.st 2)] [(.st 2)] q1t 12 120 (x0, x1, ()) = chart_from x0 x1:=by kernel_rfl
noncomputable def q1w : F7 S := ⟨[(.st 2), (.st 2)], [(.st 2)], fun xs => chart_from xs.1 xs.2.1⟩
theorem q1x : FSOk X 120 q1w := fsOk_eq (evFn_ok xok q1s q1u 12 120) fun xs _ h => (q1v xs.1 xs.2.1).trans h
noncomputable def q1y : List (Nat × F7 S) := []
theorem q1z : TabOk X (q1y) := trivial
abbrev q1A {R : Type} : Loops S R := noLoops
theorem q1B {R : Type} : LoopsOk X (q1A (R := R)) := noLoops_ok X
theorem q1C (x0 : Point) (x1 : Point) : evFn X q1y [(.st 2), (.st 2)] [(.int .i64)] q1A 12 126 (x0, x1, ()) = chart_left x0 x1:=by kernel_rfl
noncomputable def q1D : F7 S := ⟨[(.st 2), (.st 2)], [(.int .i64)], fun xs => chart_left xs.1 xs.2.1⟩
theorem q1E : FSOk X 126 q1D := fsOk_eq (evFn_ok xok q1z q1B 12 126) fun xs _ h => (q1C xs.1 xs.2.1).trans h
noncomputable def q1F : List (Nat × F7 S) := [(124, qC), (99, qW), (125, q1p), (120, q1w), (126, q1D)]
theorem q1G : TabOk X (q1F) := ⟨qD, qX, q1q, q1x, q1E, trivial⟩
abbrev q1H {R : Type} : Loops S R := noLoops
theorem q1I {R : Type} : LoopsOk X (q1H (R := R)) := noLoops_ok X
def q1J : Key := ⟨[27, 6, 4, 135, 1, 101], 101, (some 27), [0, 0, 1, 0, 1, 0, 1, 0, 1, 0, 1, 1, 1], 3, 66⟩
def q1K : StT S := ⟨(N (N L none (N v15 vC L)) none (N (N (N (N (N L vA L) none L) none L) (some (.ptr 58 0)) L) (some (.ptr 1 0)) v13)), oE, 66⟩
def q1L : Way S := ⟨(.exit 3), ⟨(N (N L none (N L vC L)) none (N (N L (some (.ptr 58 0)) L) (some (.ptr 1 0)) L)), oE, 67⟩, [.int, (.st 15), .bool, .int, .bool, (.st 15), .bool, .int, (.st 15), (.st 2), (.st 17), (.lst (.int .i64)), (.st 2)]⟩
def q1M : LE S := ⟨q1J, q1K, [.int, .int, (.lst (.st 2)), .int, (.st 15), .bool, .int, .bool, (.st 15), .bool, .int, (.st 15), (.st 2), (.st 17), (.lst (.int .i64)), (.st 2)], [q1L]⟩
def q1N (x : tc) : Int → ti := fun y0 => (y0, x.2.2.2.2.1, x.2.2.2.2.2.1, x.2.2.2.2.2.2.1, x.2.2.2.2.2.2.2.1, x.2.2.2.2.2.2.2.2.1, x.2.2.2.2.2.2.2.2.2.1, x.2.2.2.2.2.2.2.2.2.2.1, x.2.2.2.2.2.2.2.2.2.2.2.1, x.2.2.2.2.2.2.2.2.2.2.2.2.1, x.2.2.2.2.2.2.2.2.2.2.2.2.2.1, x.2.2.2.2.2.2.2.2.2.2.2.2.2.2.1, x.2.2.2.2.2.2.2.2.2.2.2.2.2.2.2)
noncomputable def q1O {R : Type} (x : tc) (k : ti → Option R) : Option R := (chart_sand_check_L1_run x.1 x.2.2.1 x.2.2.2.2.1 x.2.2.2.2.2.1 x.2.2.2.2.2.2.1 x.2.2.2.2.2.2.2.1 x.2.2.2.2.2.2.2.2.1 x.2.2.2.2.2.2.2.2.2.1 x.2.2.2.2.2.2.2.2.2.2.1 x.2.2.2.2.2.2.2.2.2.2.2.1 x.2.2.2.2.2.2.2.2.2.2.2.2.1 x.2.2.2.2.2.2.2.2.2.2.2.2.2.1 x.2.2.2.2.2.2.2.2.2.2.2.2.2.2.1 x.2.2.2.2.2.2.2.2.2.2.2.2.2.2.2 (x.2.1, x.2.2.2.1)).bind (fun y0 => k (y0, x.2.2.2.2.1, x.2.2.2.2.2.1, x.2.2.2.2.2.2.1, x.2.2.2.2.2.2.2.1, x.2.2.2.2.2.2.2.2.1, x.2.2.2.2.2.2.2.2.2.1, x.2.2.2.2.2.2.2.2.2.2.1, x.2.2.2.2.2.2.2.2.2.2.2.1, x.2.2.2.2.2.2.2.2.2.2.2.2.1, x.2.2.2.2.2.2.2.2.2.2.2.2.2.1, x.2.2.2.2.2.2.2.2.2.2.2.2.2.2.1, x.2.2.2.2.2.2.2.2.2.2.2.2.2.2.2))
def q1P (x : tc) (v : (Int × Int)) : tc := (x.1, v.1, x.2.2.1, v.2, x.2.2.2.2.1, x.2.2.2.2.2.1, x.2.2.2.2.2.2.1, x.2.2.2.2.2.2.2.1, x.2.2.2.2.2.2.2.2.1, x.2.2.2.2.2.2.2.2.2.1, x.2.2.2.2.2.2.2.2.2.2.1, x.2.2.2.2.2.2.2.2.2.2.2.1, x.2.2.2.2.2.2.2.2.2.2.2.2.1, x.2.2.2.2.2.2.2.2.2.2.2.2.2.1, x.2.2.2.2.2.2.2.2.2.2.2.2.2.2.1, x.2.2.2.2.2.2.2.2.2.2.2.2.2.2.2)
theorem q1Q (x : tc) : LE.step X q1M q1F q1H 12 x = chart_sand_check_L1_step x.1 x.2.2.1 x.2.2.2.2.1 x.2.2.2.2.2.1 x.2.2.2.2.2.2.1 x.2.2.2.2.2.2.2.1 x.2.2.2.2.2.2.2.2.1 x.2.2.2.2.2.2.2.2.2.1 x.2.2.2.2.2.2.2.2.2.2.1 x.2.2.2.2.2.2.2.2.2.2.2.1 x.2.2.2.2.2.2.2.2.2.2.2.2.1 x.2.2.2.2.2.2.2.2.2.2.2.2.2.1 x.2.2.2.2.2.2.2.2.2.2.2.2.2.2.1 x.2.2.2.2.2.2.2.2.2.2.2.2.2.2.2 x.2.1 x.2.2.2.1 (fun w0 w1 => (Sum.inl (x.1, w0, x.2.2.1, w1, x.2.2.2.2.1, x.2.2.2.2.2.1, x.2.2.2.2.2.2.1, x.2.2.2.2.2.2.2.1, x.2.2.2.2.2.2.2.2.1, x.2.2.2.2.2.2.2.2.2.1, x.2.2.2.2.2.2.2.2.2.2.1, x.2.2.2.2.2.2.2.2.2.2.2.1, x.2.2.2.2.2.2.2.2.2.2.2.2.1, x.2.2.2.2.2.2.2.2.2.2.2.2.2.1, x.2.2.2.2.2.2.2.2.2.2.2.2.2.2.1, x.2.2.2.2.2.2.2.2.2.2.2.2.2.2.2))) (fun p0 => (Sum.inr (p0, x.2.2.2.2.1, x.2.2.2.2.2.1, x.2.2.2.2.2.2.1, x.2.2.2.2.2.2.2.1, x.2.2.2.2.2.2.2.2.1, x.2.2.2.2.2.2.2.2.2.1, x.2.2.2.2.2.2.2.2.2.2.1, x.2.2.2.2.2.2.2.2.2.2.2.1, x.2.2.2.2.2.2.2.2.2.2.2.2.1, x.2.2.2.2.2.2.2.2.2.2.2.2.2.1, x.2.2.2.2.2.2.2.2.2.2.2.2.2.2.1, x.2.2.2.2.2.2.2.2.2.2.2.2.2.2.2))):=by kernel_rfl
theorem q1S {R : Type} (x : tc) (k : ti → Option R) (r : R) (h : q1O x k = some r) : ∃ o, Runs (LE.step X q1M q1F q1H 12) x o ∧ k o = some r := by
  obtain ⟨o, h1, h2⟩ := some_bind h
  exact ⟨q1N x o, small_ok (st := fun (x : tc) => chart_sand_check_L1_st x.1 x.2.2.1 x.2.2.2.2.1 x.2.2.2.2.2.1 x.2.2.2.2.2.2.1 x.2.2.2.2.2.2.2.1 x.2.2.2.2.2.2.2.2.1 x.2.2.2.2.2.2.2.2.2.1 x.2.2.2.2.2.2.2.2.2.2.1 x.2.2.2.2.2.2.2.2.2.2.2.1 x.2.2.2.2.2.2.2.2.2.2.2.2.1 x.2.2.2.2.2.2.2.2.2.2.2.2.2.1 x.2.2.2.2.2.2.2.2.2.2.2.2.2.2.1 x.2.2.2.2.2.2.2.2.2.2.2.2.2.2.2) (prj := fun x => (x.2.1, x.2.2.2.1)) (emb := q1P) (embO := q1N) (fun x => (q1Q x).trans (by unfold chart_sand_check_L1_st chart_sand_check_L1_step; simp only [map_cond,map_bindO,map_elim,Option.map_some,Option.map_none]; rfl)) (fun _ _ => rfl) (fun _ _ => rfl) (fun _ _ _ => rfl) (fun _ _ _ => rfl) (fun _ => rfl) (runOf_some.1 h1), by
    first
    | exact h2
    | (rcases o with o <;> exact h2)⟩
noncomputable def q1T {R : Type} : Loops S R := LE.ls X q1M q1O q1H
theorem q1U {R : Type} : LoopsOk X (q1T (R := R)) := loop_ok xok q1G (e := q1M) q1I q1S q1I
def q1V : Key := ⟨[135, 1, 101], 135, none, [0, 0, 1, 1], 0, 45⟩
def q1W : StT S := ⟨(N (N (N L (some (.ptr 38 0)) (N (N L vC L) none L)) none L) (some (.yld 27)) (N v16 none (N (N (N L vA L) none L) none L))), oF, 45⟩
def q1X : Way S := ⟨.ret, ⟨L, (N (N (N (N L none (N L o8 L)) none (N L none (N L (some (.loop 101 (N (N (N (N (N L vB L) none L) vC L) (some (.ptr 0 0)) (N (N L none (N L vB L)) none L)) vm (N (N (N L vB L) none (N L none (N L vd L))) (some (.ptr 1 0)) L)) (29 :: []) .skip .skip 1 .ret (1 :: (101 :: [])) (0 :: (1 :: (0 :: (1 :: (1 :: (1 :: [])))))))) L))) oo L) o8 (N (N (N (N L none (N L of L)) none L) none L) none (N (N L none (N L none (N L o9 L))) on (N (N (N L of L) none L) none L)))), 76⟩, [(.st 15), .bool, .int, .bool, (.st 15), .bool, .int, (.st 15), (.st 2), (.st 17), (.lst (.int .i64)), (.st 2)]⟩
def q1Y : Way S := ⟨(.exit 0), ⟨L, oF, 46⟩, [(.st 15), .bool, .int, .bool, (.st 15), .bool, .int, (.st 15), (.lst (.int .i64)), (.st 2)]⟩
def q1Z : LE S := ⟨q1V, q1W, [.int, .int, (.lst (.st 2)), (.st 15), .bool, .int, .bool, (.st 15), .bool, .int, (.st 15), (.lst (.int .i64)), (.st 2)], [q1X, q1Y]⟩
def q20 (x : tj) : ((Int × Point × chart_side × Point) ⊕ Point) → t6 := Sum.elim (fun y0 => (.inl (x.2.2.2.1, x.2.2.2.2.1, x.2.2.2.2.2.1, x.2.2.2.2.2.2.1, x.2.2.2.2.2.2.2.1, x.2.2.2.2.2.2.2.2.1, y0.1, x.2.2.2.2.2.2.2.2.2.2.1, y0.2.1, y0.2.2.1, x.2.2.2.2.2.2.2.2.2.2.2.1, y0.2.2.2))) (fun y1 => (.inr (x.2.2.2.1, x.2.2.2.2.1, x.2.2.2.2.2.1, x.2.2.2.2.2.2.1, x.2.2.2.2.2.2.2.1, x.2.2.2.2.2.2.2.2.1, x.2.2.2.2.2.2.2.2.2.1, x.2.2.2.2.2.2.2.2.2.2.1, x.2.2.2.2.2.2.2.2.2.2.2.1, y1)))
noncomputable def q21 {R : Type} (x : tj) (k : t6 → Option R) : Option R := (chart_sand_check_L0_run x.1 x.2.2.1 x.2.2.2.1 x.2.2.2.2.1 x.2.2.2.2.2.1 x.2.2.2.2.2.2.1 x.2.2.2.2.2.2.2.1 x.2.2.2.2.2.2.2.2.1 x.2.2.2.2.2.2.2.2.2.1 x.2.2.2.2.2.2.2.2.2.2.1 x.2.2.2.2.2.2.2.2.2.2.2.1 (x.2.1, x.2.2.2.2.2.2.2.2.2.2.2.2)).bind (Sum.elim (fun y0 => k (.inl (x.2.2.2.1, x.2.2.2.2.1, x.2.2.2.2.2.1, x.2.2.2.2.2.2.1, x.2.2.2.2.2.2.2.1, x.2.2.2.2.2.2.2.2.1, y0.1, x.2.2.2.2.2.2.2.2.2.2.1, y0.2.1, y0.2.2.1, x.2.2.2.2.2.2.2.2.2.2.2.1, y0.2.2.2))) (fun y1 => k (.inr (x.2.2.2.1, x.2.2.2.2.1, x.2.2.2.2.2.1, x.2.2.2.2.2.2.1, x.2.2.2.2.2.2.2.1, x.2.2.2.2.2.2.2.2.1, x.2.2.2.2.2.2.2.2.2.1, x.2.2.2.2.2.2.2.2.2.2.1, x.2.2.2.2.2.2.2.2.2.2.2.1, y1))))
def q22 (x : tj) (v : (Int × Point)) : tj := (x.1, v.1, x.2.2.1, x.2.2.2.1, x.2.2.2.2.1, x.2.2.2.2.2.1, x.2.2.2.2.2.2.1, x.2.2.2.2.2.2.2.1, x.2.2.2.2.2.2.2.2.1, x.2.2.2.2.2.2.2.2.2.1, x.2.2.2.2.2.2.2.2.2.2.1, x.2.2.2.2.2.2.2.2.2.2.2.1, v.2)
theorem q23 (x : tj) : LE.step X q1Z q1F q1T 12 x = chart_sand_check_L0_step x.1 x.2.2.1 x.2.2.2.1 x.2.2.2.2.1 x.2.2.2.2.2.1 x.2.2.2.2.2.2.1 x.2.2.2.2.2.2.2.1 x.2.2.2.2.2.2.2.2.1 x.2.2.2.2.2.2.2.2.2.1 x.2.2.2.2.2.2.2.2.2.2.1 x.2.2.2.2.2.2.2.2.2.2.2.1 x.2.1 x.2.2.2.2.2.2.2.2.2.2.2.2 (fun w0 w1 => (Sum.inl (x.1, w0, x.2.2.1, x.2.2.2.1, x.2.2.2.2.1, x.2.2.2.2.2.1, x.2.2.2.2.2.2.1, x.2.2.2.2.2.2.2.1, x.2.2.2.2.2.2.2.2.1, x.2.2.2.2.2.2.2.2.2.1, x.2.2.2.2.2.2.2.2.2.2.1, x.2.2.2.2.2.2.2.2.2.2.2.1, w1))) (fun p0 p1 p2 p3 => (Sum.inr (.inl (x.2.2.2.1, x.2.2.2.2.1, x.2.2.2.2.2.1, x.2.2.2.2.2.2.1, x.2.2.2.2.2.2.2.1, x.2.2.2.2.2.2.2.2.1, p0, x.2.2.2.2.2.2.2.2.2.2.1, p1, p2, x.2.2.2.2.2.2.2.2.2.2.2.1, p3)))) (fun p0 => (Sum.inr (.inr (x.2.2.2.1, x.2.2.2.2.1, x.2.2.2.2.2.1, x.2.2.2.2.2.2.1, x.2.2.2.2.2.2.2.1, x.2.2.2.2.2.2.2.2.1, x.2.2.2.2.2.2.2.2.2.1, x.2.2.2.2.2.2.2.2.2.2.1, x.2.2.2.2.2.2.2.2.2.2.2.1, p0)))):=by kernel_rfl
theorem q25 {R : Type} (x : tj) (k : t6 → Option R) (r : R) (h : q21 x k = some r) : ∃ o, Runs (LE.step X q1Z q1F q1T 12) x o ∧ k o = some r := by
  obtain ⟨o, h1, h2⟩ := some_bind h
  exact ⟨q20 x o, small_ok (st := fun (x : tj) => chart_sand_check_L0_st x.1 x.2.2.1 x.2.2.2.1 x.2.2.2.2.1 x.2.2.2.2.2.1 x.2.2.2.2.2.2.1 x.2.2.2.2.2.2.2.1 x.2.2.2.2.2.2.2.2.1 x.2.2.2.2.2.2.2.2.2.1 x.2.2.2.2.2.2.2.2.2.2.1 x.2.2.2.2.2.2.2.2.2.2.2.1) (prj := fun x => (x.2.1, x.2.2.2.2.2.2.2.2.2.2.2.2)) (emb := q22) (embO := q20) (fun x => (q23 x).trans (by unfold chart_sand_check_L0_st chart_sand_check_L0_step; simp only [map_cond,map_bindO,map_elim,Option.map_some,Option.map_none]; rfl)) (fun _ _ => rfl) (fun _ _ => rfl) (fun _ _ _ => rfl) (fun _ _ _ => rfl) (fun _ => rfl) (runOf_some.1 h1), by
    first
    | exact h2
    | (rcases o with o | o <;> exact h2)⟩
noncomputable def q26 {R : Type} : Loops S R := LE.ls X q1Z q21 q1T
theorem q27 {R : Type} : LoopsOk X (q26 (R := R)) := loop_ok xok q1G (e := q1Z) q1U q25 q1U
theorem q28 (x0 : chart_sand) : evFn X q1F [(.st 15)] [(.int .i64)] q26 12 101 (x0, ()) = chart_sand_check x0:=by kernel_rfl
noncomputable def q29 : F7 S := ⟨[(.st 15)], [(.int .i64)], fun xs => chart_sand_check xs.1⟩
theorem q2a : FSOk X 101 q29 := fsOk_eq (evFn_ok xok q1G q27 12 101) fun xs _ h => (q28 xs.1).trans h
noncomputable def q2b : List (Nat × F7 S) := [(98, qi), (99, qW), (100, q1i), (101, q29)]
theorem q2c : TabOk X (q2b) := ⟨qj, qX, q1j, q2a, trivial⟩
abbrev q2d {R : Type} : Loops S R := noLoops
theorem q2e {R : Type} : LoopsOk X (q2d (R := R)) := noLoops_ok X
def q2f : Key := ⟨[60], 60, none, [0, 0, 1, 0, 1, 1, 1, 1], 0, 17⟩
def q2g : StT S := ⟨(N (N v16 (some (.ptr 0 0)) L) none (N v16 none (N (N (N L (some (.sl (.st 4) [])) L) none L) vk L))), o11, 17⟩
def q2h : Way S := ⟨.ret, ⟨v12, oX, 57⟩, [.int, .int, .int, (.st 4), (.st 8), (.mp .str (.int .i64))]⟩
def q2i : Way S := ⟨.ret, ⟨v12, oX, 62⟩, [.int, .int, .int, (.st 4), (.st 8), (.mp .str (.int .i64))]⟩
def q2j : Way S := ⟨.ret, ⟨v12, oN, 63⟩, [.int, .int, .int, (.st 4), (.st 8), (.mp .str (.int .i64)), (.lst (.st 2))]⟩
def q2k : Way S := ⟨.ret, ⟨v12, oN, 66⟩, [.int, .int, .int, (.st 4), (.st 8), (.mp .str (.int .i64)), (.lst (.st 2))]⟩
def q2l : Way S := ⟨(.exit 0), ⟨(N (N L (some (.ptr 0 0)) L) none (N L none (N L vk L))), o11, 18⟩, [(.st 8), (.mp .str (.int .i64))]⟩
def q2m : LE S := ⟨q2f, q2g, [.int, .int, (.lst (.st 4)), (.st 8), (.mp .str (.int .i64))], [q2h, q2i, q2j, q2k, q2l]⟩
def q2n (x : tx) : ((Int × Int × Int × CtMark × tS) ⊕ (Int × Int × Int × CtMark × tS) ⊕ (Int × Int × Int × CtMark × tS × (List Point)) ⊕ (Int × Int × Int × CtMark × tS × (List Point)) ⊕ tS) → t1 := Sum.elim (fun y0 => (.inl (y0.1, y0.2.1, y0.2.2.1, y0.2.2.2.1, x.2.2.2.1, y0.2.2.2.2))) (Sum.elim (fun y1 => (.inr (.inl (y1.1, y1.2.1, y1.2.2.1, y1.2.2.2.1, x.2.2.2.1, y1.2.2.2.2)))) (Sum.elim (fun y2 => (.inr (.inr (.inl (y2.1, y2.2.1, y2.2.2.1, y2.2.2.2.1, x.2.2.2.1, y2.2.2.2.2.1, y2.2.2.2.2.2))))) (Sum.elim (fun y3 => (.inr (.inr (.inr (.inl (y3.1, y3.2.1, y3.2.2.1, y3.2.2.2.1, x.2.2.2.1, y3.2.2.2.2.1, y3.2.2.2.2.2)))))) (fun y4 => (.inr (.inr (.inr (.inr (x.2.2.2.1, y4)))))))))
noncomputable def q2o {R : Type} (x : tx) (k : t1 → Option R) : Option R := (chart_Check_L0_run x.1 x.2.2.1 x.2.2.2.1 (x.2.1, x.2.2.2.2)).bind (Sum.elim (fun y0 => k (.inl (y0.1, y0.2.1, y0.2.2.1, y0.2.2.2.1, x.2.2.2.1, y0.2.2.2.2))) (Sum.elim (fun y1 => k (.inr (.inl (y1.1, y1.2.1, y1.2.2.1, y1.2.2.2.1, x.2.2.2.1, y1.2.2.2.2)))) (Sum.elim (fun y2 => k (.inr (.inr (.inl (y2.1, y2.2.1, y2.2.2.1, y2.2.2.2.1, x.2.2.2.1, y2.2.2.2.2.1, y2.2.2.2.2.2))))) (Sum.elim (fun y3 => k (.inr (.inr (.inr (.inl (y3.1, y3.2.1, y3.2.2.1, y3.2.2.2.1, x.2.2.2.1, y3.2.2.2.2.1, y3.2.2.2.2.2)))))) (fun y4 => k (.inr (.inr (.inr (.inr (x.2.2.2.1, y4))))))))))
def q2p (x : tx) (v : (Int × tS)) : tx := (x.1, v.1, x.2.2.1, x.2.2.2.1, v.2)
theorem q2q (x : tx) : LE.step X q2m q2b q2d 12 x = chart_Check_L0_step x.1 x.2.2.1 x.2.2.2.1 x.2.1 x.2.2.2.2 (fun w0 w1 => (Sum.inl (x.1, w0, x.2.2.1, x.2.2.2.1, w1))) (fun p0 p1 p2 p3 p4 => (Sum.inr (.inl (p0, p1, p2, p3, x.2.2.2.1, p4)))) (fun p0 p1 p2 p3 p4 => (Sum.inr (.inr (.inl (p0, p1, p2, p3, x.2.2.2.1, p4))))) (fun p0 p1 p2 p3 p4 p5 => (Sum.inr (.inr (.inr (.inl (p0, p1, p2, p3, x.2.2.2.1, p4, p5)))))) (fun p0 p1 p2 p3 p4 p5 => (Sum.inr (.inr (.inr (.inr (.inl (p0, p1, p2, p3, x.2.2.2.1, p4, p5))))))) (fun p0 => (Sum.inr (.inr (.inr (.inr (.inr (x.2.2.2.1, p0))))))):=by kernel_rfl
theorem q2s {R : Type} (x : tx) (k : t1 → Option R) (r : R) (h : q2o x k = some r) : ∃ o, Runs (LE.step X q2m q2b q2d 12) x o ∧ k o = some r := by
  obtain ⟨o, h1, h2⟩ := some_bind h
  exact ⟨q2n x o, small_ok (st := fun (x : tx) => chart_Check_L0_st x.1 x.2.2.1 x.2.2.2.1) (prj := fun x => (x.2.1, x.2.2.2.2)) (emb := q2p) (embO := q2n) (fun x => (q2q x).trans (by unfold chart_Check_L0_st chart_Check_L0_step; simp only [map_cond,map_bindO,map_elim,Option.map_some,Option.map_none]; rfl)) (fun _ _ => rfl) (fun _ _ => rfl) (fun _ _ _ => rfl) (fun _ _ _ => rfl) (fun _ => rfl) (runOf_some.1 h1), by
    first
    | exact h2
    | (rcases o with o | o | o | o | o <;> exact h2)⟩
noncomputable def q2t {R : Type} : Loops S R := LE.ls X q2m q2o q2d
theorem q2u {R : Type} : LoopsOk X (q2t (R := R)) := loop_ok xok q2c (e := q2m) q2e q2s q2e
def q2v : Key := ⟨[60], 60, none, [0, 0, 1, 0, 1, 1, 1, 1, 1, 1], 2, 26⟩
def q2w : StT S := ⟨(N (N L none (N L none v18)) none (N (N L none (N (N L none (N L (some (.sl (.st 7) [])) L)) none L)) none (N L vk v18))), o11, 26⟩
def q2x : Way S := ⟨.ret, ⟨v12, oQ, 58⟩, [.int, .int, .int, (.st 8), (.mp .str (.int .i64)), (.st 7)]⟩
def q2y : Way S := ⟨.ret, ⟨v12, oQ, 63⟩, [.int, .int, .int, (.st 8), (.mp .str (.int .i64)), (.st 7)]⟩
def q2z : Way S := ⟨.ret, ⟨v12, oQ, 67⟩, [.int, .int, .int, (.st 8), (.mp .str (.int .i64)), (.st 7)]⟩
def q2A : Way S := ⟨(.exit 2), ⟨L, o11, 27⟩, [(.st 8), (.mp .str (.int .i64))]⟩
def q2B : LE S := ⟨q2v, q2w, [.int, (.lst (.st 7)), .int, (.st 8), (.mp .str (.int .i64))], [q2x, q2y, q2z, q2A]⟩
def q2C (x : ty) : (tD ⊕ tD ⊕ tD ⊕ tS) → t5 := Sum.elim (fun y0 => (.inl (y0.1, y0.2.1, y0.2.2.1, x.2.2.2.1, y0.2.2.2.1, y0.2.2.2.2))) (Sum.elim (fun y1 => (.inr (.inl (y1.1, y1.2.1, y1.2.2.1, x.2.2.2.1, y1.2.2.2.1, y1.2.2.2.2)))) (Sum.elim (fun y2 => (.inr (.inr (.inl (y2.1, y2.2.1, y2.2.2.1, x.2.2.2.1, y2.2.2.2.1, y2.2.2.2.2))))) (fun y3 => (.inr (.inr (.inr (x.2.2.2.1, y3)))))))
noncomputable def q2D {R : Type} (x : ty) (k : t5 → Option R) : Option R := (chart_Check_L1_run x.1 x.2.1 x.2.2.2.1 (x.2.2.1, x.2.2.2.2)).bind (Sum.elim (fun y0 => k (.inl (y0.1, y0.2.1, y0.2.2.1, x.2.2.2.1, y0.2.2.2.1, y0.2.2.2.2))) (Sum.elim (fun y1 => k (.inr (.inl (y1.1, y1.2.1, y1.2.2.1, x.2.2.2.1, y1.2.2.2.1, y1.2.2.2.2)))) (Sum.elim (fun y2 => k (.inr (.inr (.inl (y2.1, y2.2.1, y2.2.2.1, x.2.2.2.1, y2.2.2.2.1, y2.2.2.2.2))))) (fun y3 => k (.inr (.inr (.inr (x.2.2.2.1, y3))))))))
def q2E (x : ty) (v : (Int × tS)) : ty := (x.1, x.2.1, v.1, x.2.2.2.1, v.2)
theorem q2F (x : ty) : LE.step X q2B q2b q2t 12 x = chart_Check_L1_step x.1 x.2.1 x.2.2.2.1 x.2.2.1 x.2.2.2.2 (fun w0 w1 => (Sum.inl (x.1, x.2.1, w0, x.2.2.2.1, w1))) (fun p0 p1 p2 p3 p4 => (Sum.inr (.inl (p0, p1, p2, x.2.2.2.1, p3, p4)))) (fun p0 p1 p2 p3 p4 => (Sum.inr (.inr (.inl (p0, p1, p2, x.2.2.2.1, p3, p4))))) (fun p0 p1 p2 p3 p4 => (Sum.inr (.inr (.inr (.inl (p0, p1, p2, x.2.2.2.1, p3, p4)))))) (fun p0 => (Sum.inr (.inr (.inr (.inr (x.2.2.2.1, p0)))))):=by kernel_rfl
theorem q2H {R : Type} (x : ty) (k : t5 → Option R) (r : R) (h : q2D x k = some r) : ∃ o, Runs (LE.step X q2B q2b q2t 12) x o ∧ k o = some r := by
  obtain ⟨o, h1, h2⟩ := some_bind h
  exact ⟨q2C x o, small_ok (st := fun (x : ty) => chart_Check_L1_st x.1 x.2.1 x.2.2.2.1) (prj := fun x => (x.2.2.1, x.2.2.2.2)) (emb := q2E) (embO := q2C) (fun x => (q2F x).trans (by unfold chart_Check_L1_st chart_Check_L1_step; simp only [map_cond,map_bindO,map_elim,Option.map_some,Option.map_none]; rfl)) (fun _ _ => rfl) (fun _ _ => rfl) (fun _ _ _ => rfl) (fun _ _ _ => rfl) (fun _ => rfl) (runOf_some.1 h1), by
    first
    | exact h2
    | (rcases o with o | o | o | o <;> exact h2)⟩
noncomputable def q2I {R : Type} : Loops S R := LE.ls X q2B q2D q2t
theorem q2J {R : Type} : LoopsOk X (q2I (R := R)) := loop_ok xok q2c (e := q2B) q2u q2H q2u
theorem q2K (x0 : CtChart) : evFn X q2b [(.st 8)] [(.int .i64), (.int .i64), (.int .i64)] q2I 12 60 (x0, ()) = chart_Check x0:=by kernel_rfl
noncomputable def q2L : F7 S := ⟨[(.st 8)], [(.int .i64), (.int .i64), (.int .i64)], fun xs => chart_Check xs.1⟩
theorem q2M : FSOk X 60 q2L := fsOk_eq (evFn_ok xok q2c q2J 12 60) fun xs _ h => (q2K xs.1).trans h
noncomputable def q2N : List (Nat × F7 S) := []
theorem q2O : TabOk X (q2N) := trivial
abbrev q2P {R : Type} : Loops S R := noLoops
theorem q2Q {R : Type} : LoopsOk X (q2P (R := R)) := noLoops_ok X
def q2R : Key := ⟨[127, 2, 1, 102, 2, 1, 62], 127, none, [0, 0, 1, 0, 1], 0, 17⟩
def q2S : StT S := ⟨(N (N (N (N L vC L) none L) (some (.fn (.func 103) [] [(.ptr 0 0), (.ptr 1 0)])) L) (some (.sl (.int .i64) [])) v15), (N (N L oq L) oq L), 17⟩
def q2T : Way S := ⟨.ret, ⟨v16, (N (N L oq L) oq L), 38⟩, [.int, .int, .int]⟩
def q2U : Way S := ⟨(.exit 0), ⟨L, (N (N L oq L) oq L), 18⟩, [.int, .int]⟩
def q2V : LE S := ⟨q2R, q2S, [.int, (.lst (.int .i64)), .int, .int, .int], [q2T, q2U]⟩
def q2W (x : tJ) : (Int ⊕ Unit) → tO := Sum.elim (fun y0 => (.inl (y0, x.2.2.2.1, x.2.2.2.2))) (fun y1 => (.inr (x.2.2.2.1, x.2.2.2.2)))
noncomputable def q2X {R : Type} (x : tJ) (k : tO → Option R) : Option R := (swing_outside_L0_run x.1 x.2.1 x.2.2.2.1 x.2.2.2.2 x.2.2.1).bind (Sum.elim (fun y0 => k (.inl (y0, x.2.2.2.1, x.2.2.2.2))) (fun y1 => k (.inr (x.2.2.2.1, x.2.2.2.2))))
def q2Y (x : tJ) (v : Int) : tJ := (x.1, x.2.1, v, x.2.2.2.1, x.2.2.2.2)
theorem q2Z (x : tJ) : LE.step X q2V q2N q2P 12 x = swing_outside_L0_step x.1 x.2.1 x.2.2.2.1 x.2.2.2.2 x.2.2.1 (fun w0 => (Sum.inl (x.1, x.2.1, w0, x.2.2.2.1, x.2.2.2.2))) (fun p0 => (Sum.inr (.inl (p0, x.2.2.2.1, x.2.2.2.2)))) (Sum.inr (.inr (x.2.2.2.1, x.2.2.2.2))):=by kernel_rfl
theorem q31 {R : Type} (x : tJ) (k : tO → Option R) (r : R) (h : q2X x k = some r) : ∃ o, Runs (LE.step X q2V q2N q2P 12) x o ∧ k o = some r := by
  obtain ⟨o, h1, h2⟩ := some_bind h
  exact ⟨q2W x o, small_ok (st := fun (x : tJ) => swing_outside_L0_st x.1 x.2.1 x.2.2.2.1 x.2.2.2.2) (prj := fun x => x.2.2.1) (emb := q2Y) (embO := q2W) (fun x => (q2Z x).trans (by unfold swing_outside_L0_st swing_outside_L0_step; simp only [map_cond,map_bindO,map_elim,Option.map_some,Option.map_none]; rfl)) (fun _ _ => rfl) (fun _ _ => rfl) (fun _ _ _ => rfl) (fun _ _ _ => rfl) (fun _ => rfl) (runOf_some.1 h1), by
    first
    | exact h2
    | (rcases o with o | o <;> exact h2)⟩
noncomputable def q32 {R : Type} : Loops S R := LE.ls X q2V q2X q2P
theorem q33 {R : Type} : LoopsOk X (q32 (R := R)) := loop_ok xok q2O (e := q2V) q2Q q31 q2Q
theorem q34 (x0 : Int) (x1 : Int) (x2 : List Int) : evFn X q2N [(.int .i64), (.int .i64), (.sl (.int .i64))] [.bool] q32 12 62 (x0, x1, x2, ()) = swing_outside x0 x1 x2:=by kernel_rfl
noncomputable def q35 : F7 S := ⟨[(.int .i64), (.int .i64), (.sl (.int .i64))], [.bool], fun xs => swing_outside xs.1 xs.2.1 xs.2.2.1⟩
theorem q36 : FSOk X 62 q35 := fsOk_eq (evFn_ok xok q2O q33 12 62) fun xs _ h => (q34 xs.1 xs.2.1 xs.2.2.1).trans h
noncomputable def q37 : List (Nat × F7 S) := [(62, q35)]
theorem q38 : TabOk X (q37) := ⟨q36, trivial⟩
abbrev q39 {R : Type} : Loops S R := noLoops
theorem q3a {R : Type} : LoopsOk X (q39 (R := R)) := noLoops_ok X
theorem q3b (x0 : CtBox) : evFn X q37 [(.st 6)] [(.int .i64)] q39 12 61 (x0, ()) = swing_box x0:=by kernel_rfl
noncomputable def q3c : F7 S := ⟨[(.st 6)], [(.int .i64)], fun xs => swing_box xs.1⟩
theorem q3d : FSOk X 61 q3c := fsOk_eq (evFn_ok xok q38 q3a 12 61) fun xs _ h => (q3b xs.1).trans h
noncomputable def q3e : List (Nat × F7 S) := [(60, q2L), (61, q3c), (62, q35)]
theorem q3f : TabOk X (q3e) := ⟨q2M, q3d, q36, trivial⟩
abbrev q3g {R : Type} : Loops S R := noLoops
theorem q3h {R : Type} : LoopsOk X (q3g (R := R)) := noLoops_ok X
theorem q3i (x0 : SgMooring) : evFn X q3e [(.st 9)] [(.int .i64), (.int .i64)] q3g 12 17 (x0, ()) = swing_Check x0:=by kernel_rfl
noncomputable def q3j : F7 S := ⟨[(.st 9)], [(.int .i64), (.int .i64)], fun xs => swing_Check xs.1⟩
theorem q3k : FSOk X 17 q3j := fsOk_eq (evFn_ok xok q3f q3h 12 17) fun xs _ h => (q3i xs.1).trans h
noncomputable def q3l : List (Nat × F7 S) := []
theorem q3m : TabOk X (q3l) := trivial
abbrev q3n {R : Type} : Loops S R := noLoops
theorem q3o {R : Type} : LoopsOk X (q3n (R := R)) := noLoops_ok X
theorem q3p (x0 : Int) (x1 : Int) (x2 : Int) : evFn X q3l [(.int .i64), (.int .i64), (.int .i64)] [.bool] q3n 12 113 (x0, x1, x2, ()) = ref01_in x0 x1 x2:=by kernel_rfl
noncomputable def q3q : F7 S := ⟨[(.int .i64), (.int .i64), (.int .i64)], [.bool], fun xs => ref01_in xs.1 xs.2.1 xs.2.2.1⟩
theorem q3r : FSOk X 113 q3q := fsOk_eq (evFn_ok xok q3m q3o 12 113) fun xs _ h => (q3p xs.1 xs.2.1 xs.2.2.1).trans h
noncomputable def q3s : List (Nat × F7 S) := [(113, q3q)]
theorem q3t : TabOk X (q3s) := ⟨q3r, trivial⟩
abbrev q3u {R : Type} : Loops S R := noLoops
theorem q3v {R : Type} : LoopsOk X (q3u (R := R)) := noLoops_ok X
def q3w : Key := ⟨[128], 128, none, [0, 0, 1, 0, 1, 1], 0, 6⟩
def q3x : StT S := ⟨(N (N (N L vC L) none L) vv L), L, 6⟩
def q3y : Way S := ⟨.ret, ⟨(N L none (N L vB L)), L, 43⟩, [.bool]⟩
def q3z : Way S := ⟨(.exit 0), ⟨L, L, 10⟩, []⟩
def q3A : LE S := ⟨q3w, q3x, [.int, .str], [q3y, q3z]⟩
def q3B (x : (Int × ByteArray)) : (Bool ⊕ Unit) → (Bool ⊕ Unit) := Sum.elim (fun y0 => (.inl y0)) (fun y1 => (.inr ()))
noncomputable def q3C {R : Type} (x : (Int × ByteArray)) (k : (Bool ⊕ Unit) → Option R) : Option R := (ref01_Name_L0_run x.2 x.1).bind (Sum.elim (fun y0 => k (.inl y0)) (fun y1 => k (.inr ())))
def q3D (x : (Int × ByteArray)) (v : Int) : (Int × ByteArray) := (v, x.2)
theorem q3E (x : (Int × ByteArray)) : LE.step X q3A q3s q3u 12 x = ref01_Name_L0_step x.2 x.1 (fun w0 => (Sum.inl (w0, x.2))) (fun p0 => (Sum.inr (.inl p0))) (Sum.inr (.inr ())):=by kernel_rfl
theorem q3G {R : Type} (x : (Int × ByteArray)) (k : (Bool ⊕ Unit) → Option R) (r : R) (h : q3C x k = some r) : ∃ o, Runs (LE.step X q3A q3s q3u 12) x o ∧ k o = some r := by
  obtain ⟨o, h1, h2⟩ := some_bind h
  exact ⟨q3B x o, small_ok (st := fun (x : (Int × ByteArray)) => ref01_Name_L0_st x.2) (prj := fun x => x.1) (emb := q3D) (embO := q3B) (fun x => (q3E x).trans (by unfold ref01_Name_L0_st ref01_Name_L0_step; simp only [map_cond,map_bindO,map_elim,Option.map_some,Option.map_none]; rfl)) (fun _ _ => rfl) (fun _ _ => rfl) (fun _ _ _ => rfl) (fun _ _ _ => rfl) (fun _ => rfl) (runOf_some.1 h1), by
    first
    | exact h2
    | (rcases o with o | o <;> exact h2)⟩
noncomputable def q3H {R : Type} : Loops S R := LE.ls X q3A q3C q3u
theorem q3I {R : Type} : LoopsOk X (q3H (R := R)) := loop_ok xok q3t (e := q3A) q3v q3G q3v
theorem q3J (x0 : ByteArray) : evFn X q3s [.str] [.bool] q3H 12 128 (x0, ()) = ref01_Name x0:=by kernel_rfl
noncomputable def q3K : F7 S := ⟨[.str], [.bool], fun xs => ref01_Name xs.1⟩
theorem q3L : FSOk X 128 q3K := fsOk_eq (evFn_ok xok q3t q3I 12 128) fun xs _ h => (q3J xs.1).trans h
noncomputable def q3M : List (Nat × F7 S) := []
theorem q3N : TabOk X (q3M) := trivial
abbrev q3O {R : Type} : Loops S R := noLoops
theorem q3P {R : Type} : LoopsOk X (q3O (R := R)) := noLoops_ok X
def q3Q : Key := ⟨[129], 129, none, [0, 0, 1, 0, 1], 0, 2⟩
def q3R : StT S := ⟨(N (N L vv (N L vC L)) (some (.sl .str [])) L), L, 2⟩
def q3S : Way S := ⟨.ret, ⟨v16, L, 14⟩, [.int]⟩
def q3T : Way S := ⟨(.exit 0), ⟨L, L, 6⟩, []⟩
def q3U : LE S := ⟨q3Q, q3R, [.str, .int, (.lst .str)], [q3S, q3T]⟩
def q3V (x : tK) : (Int ⊕ Unit) → (Int ⊕ Unit) := Sum.elim (fun y0 => (.inl y0)) (fun y1 => (.inr ()))
noncomputable def q3W {R : Type} (x : tK) (k : (Int ⊕ Unit) → Option R) : Option R := (ref01_Place_L0_run x.1 x.2.2 x.2.1).bind (Sum.elim (fun y0 => k (.inl y0)) (fun y1 => k (.inr ())))
def q3X (x : tK) (v : Int) : tK := (x.1, v, x.2.2)
theorem q3Y (x : tK) : LE.step X q3U q3M q3O 12 x = ref01_Place_L0_step x.1 x.2.2 x.2.1 (fun w0 => (Sum.inl (x.1, w0, x.2.2))) (fun p0 => (Sum.inr (.inl p0))) (Sum.inr (.inr ())):=by kernel_rfl
theorem q40 {R : Type} (x : tK) (k : (Int ⊕ Unit) → Option R) (r : R) (h : q3W x k = some r) : ∃ o, Runs (LE.step X q3U q3M q3O 12) x o ∧ k o = some r := by
  obtain ⟨o, h1, h2⟩ := some_bind h
  exact ⟨q3V x o, small_ok (st := fun (x : tK) => ref01_Place_L0_st x.1 x.2.2) (prj := fun x => x.2.1) (emb := q3X) (embO := q3V) (fun x => (q3Y x).trans (by unfold ref01_Place_L0_st ref01_Place_L0_step; simp only [map_cond,map_bindO,map_elim,Option.map_some,Option.map_none]; rfl)) (fun _ _ => rfl) (fun _ _ => rfl) (fun _ _ _ => rfl) (fun _ _ _ => rfl) (fun _ => rfl) (runOf_some.1 h1), by
    first
    | exact h2
    | (rcases o with o | o <;> exact h2)⟩
noncomputable def q41 {R : Type} : Loops S R := LE.ls X q3U q3W q3O
theorem q42 {R : Type} : LoopsOk X (q41 (R := R)) := loop_ok xok q3N (e := q3U) q3P q40 q3P
theorem q43 (x0 : List ByteArray) (x1 : ByteArray) : evFn X q3M [(.sl .str), .str] [(.int .i64)] q41 12 129 (x0, x1, ()) = ref01_Place x0 x1:=by kernel_rfl
noncomputable def q44 : F7 S := ⟨[(.sl .str), .str], [(.int .i64)], fun xs => ref01_Place xs.1 xs.2.1⟩
theorem q45 : FSOk X 129 q44 := fsOk_eq (evFn_ok xok q3N q42 12 129) fun xs _ h => (q43 xs.1 xs.2.1).trans h
noncomputable def q46 : List (Nat × F7 S) := [(128, q3K), (129, q44)]
theorem q47 : TabOk X (q46) := ⟨q3L, q45, trivial⟩
abbrev q48 {R : Type} : Loops S R := noLoops
theorem q49 {R : Type} : LoopsOk X (q48 (R := R)) := noLoops_ok X
theorem q4a (x0 : ByteArray) (x1 : List ByteArray) : evFn X q46 [.str, (.sl .str)] [(.int .i64)] q48 12 104 (x0, x1, ()) = ref01_Fresh x0 x1:=by kernel_rfl
noncomputable def q4b : F7 S := ⟨[.str, (.sl .str)], [(.int .i64)], fun xs => ref01_Fresh xs.1 xs.2.1⟩
theorem q4c : FSOk X 104 q4b := fsOk_eq (evFn_ok xok q47 q49 12 104) fun xs _ h => (q4a xs.1 xs.2.1).trans h
noncomputable def q4d : List (Nat × F7 S) := [(113, q3q)]
theorem q4e : TabOk X (q4d) := ⟨q3r, trivial⟩
abbrev q4f {R : Type} : Loops S R := noLoops
theorem q4g {R : Type} : LoopsOk X (q4f (R := R)) := noLoops_ok X
theorem q4h (x0 : Point) (x1 : Int) : evFn X q4d [(.st 2), (.int .i64)] [.bool] q4f 12 78 (x0, x1, ()) = ref01_Within x0 x1:=by kernel_rfl
noncomputable def q4i : F7 S := ⟨[(.st 2), (.int .i64)], [.bool], fun xs => ref01_Within xs.1 xs.2.1⟩
theorem q4j : FSOk X 78 q4i := fsOk_eq (evFn_ok xok q4e q4g 12 78) fun xs _ h => (q4h xs.1 xs.2.1).trans h
noncomputable def q4k : List (Nat × F7 S) := [(113, q3q)]
theorem q4l : TabOk X (q4k) := ⟨q3r, trivial⟩
abbrev q4m {R : Type} : Loops S R := noLoops
theorem q4n {R : Type} : LoopsOk X (q4m (R := R)) := noLoops_ok X
def q4o : Key := ⟨[105], 105, none, [0, 0, 1, 0, 1, 1], 0, 6⟩
def q4p : StT S := ⟨(N (N (N L vC L) none L) (some (.sl (.st 3) [])) L), L, 6⟩
def q4q : Way S := ⟨.ret, ⟨(N L none (N L vC L)), L, 27⟩, [.int]⟩
def q4r : Way S := ⟨.ret, ⟨(N L none (N L vC L)), L, 43⟩, [.int]⟩
def q4s : Way S := ⟨(.exit 0), ⟨L, L, 10⟩, []⟩
def q4t : LE S := ⟨q4o, q4p, [.int, (.lst (.st 3))], [q4q, q4r, q4s]⟩
def q4u (x : (Int × (List CtPaint))) : (Int ⊕ Int ⊕ Unit) → (Int ⊕ Int ⊕ Unit) := Sum.elim (fun y0 => (.inl y0)) (Sum.elim (fun y1 => (.inr (.inl y1))) (fun y2 => (.inr (.inr ()))))
noncomputable def q4v {R : Type} (x : (Int × (List CtPaint))) (k : (Int ⊕ Int ⊕ Unit) → Option R) : Option R := (ref01_paints_L0_run x.2 x.1).bind (Sum.elim (fun y0 => k (.inl y0)) (Sum.elim (fun y1 => k (.inr (.inl y1))) (fun y2 => k (.inr (.inr ())))))
def q4w (x : (Int × (List CtPaint))) (v : Int) : (Int × (List CtPaint)) := (v, x.2)
theorem q4x (x : (Int × (List CtPaint))) : LE.step X q4t q4k q4m 12 x = ref01_paints_L0_step x.2 x.1 (fun w0 => (Sum.inl (w0, x.2))) (fun p0 => (Sum.inr (.inl p0))) (fun p0 => (Sum.inr (.inr (.inl p0)))) (Sum.inr (.inr (.inr ()))):=by kernel_rfl
theorem q4z {R : Type} (x : (Int × (List CtPaint))) (k : (Int ⊕ Int ⊕ Unit) → Option R) (r : R) (h : q4v x k = some r) : ∃ o, Runs (LE.step X q4t q4k q4m 12) x o ∧ k o = some r := by
  obtain ⟨o, h1, h2⟩ := some_bind h
  exact ⟨q4u x o, small_ok (st := fun (x : (Int × (List CtPaint))) => ref01_paints_L0_st x.2) (prj := fun x => x.1) (emb := q4w) (embO := q4u) (fun x => (q4x x).trans (by unfold ref01_paints_L0_st ref01_paints_L0_step; simp only [map_cond,map_bindO,map_elim,Option.map_some,Option.map_none]; rfl)) (fun _ _ => rfl) (fun _ _ => rfl) (fun _ _ _ => rfl) (fun _ _ _ => rfl) (fun _ => rfl) (runOf_some.1 h1), by
    first
    | exact h2
    | (rcases o with o | o | o <;> exact h2)⟩
noncomputable def q4A {R : Type} : Loops S R := LE.ls X q4t q4v q4m
theorem q4B {R : Type} : LoopsOk X (q4A (R := R)) := loop_ok xok q4l (e := q4t) q4n q4z q4n
theorem q4C (x0 : List CtPaint) : evFn X q4k [(.sl (.st 3))] [(.int .i64)] q4A 12 105 (x0, ()) = ref01_paints x0:=by kernel_rfl
noncomputable def q4D : F7 S := ⟨[(.sl (.st 3))], [(.int .i64)], fun xs => ref01_paints xs.1⟩
theorem q4E : FSOk X 105 q4D := fsOk_eq (evFn_ok xok q4l q4B 12 105) fun xs _ h => (q4C xs.1).trans h
noncomputable def q4F : List (Nat × F7 S) := [(113, q3q)]
theorem q4G : TabOk X (q4F) := ⟨q3r, trivial⟩
abbrev q4H {R : Type} : Loops S R := noLoops
theorem q4I {R : Type} : LoopsOk X (q4H (R := R)) := noLoops_ok X
def q4J : Key := ⟨[96], 96, none, [0, 0, 1, 0, 1, 1], 0, 3⟩
def q4K : StT S := ⟨(N (N (N (N L vC L) none L) vC L) (some (.sl (.st 5) [])) (N (N (N L vC L) none L) vC L)), L, 3⟩
def q4L : Way S := ⟨.ret, ⟨(N L none (N L none (N L vC L))), L, 28⟩, [.int]⟩
def q4M : Way S := ⟨(.exit 0), ⟨v13, L, 7⟩, [.int]⟩
def q4N : LE S := ⟨q4J, q4K, [.int, .int, (.lst (.st 5)), .int, .int], [q4L, q4M]⟩
def q4O (x : tI) : (Int ⊕ Int) → (Int ⊕ Int) := Sum.elim (fun y0 => (.inl y0)) (fun y1 => (.inr y1))
noncomputable def q4P {R : Type} (x : tI) (k : (Int ⊕ Int) → Option R) : Option R := (ref01_Spread_L0_run x.2.1 x.2.2.1 x.2.2.2.2 (x.1, x.2.2.2.1)).bind (Sum.elim (fun y0 => k (.inl y0)) (fun y1 => k (.inr y1)))
def q4Q (x : tI) (v : (Int × Int)) : tI := (v.1, x.2.1, x.2.2.1, v.2, x.2.2.2.2)
theorem q4R (x : tI) : LE.step X q4N q4F q4H 12 x = ref01_Spread_L0_step x.2.1 x.2.2.1 x.2.2.2.2 x.1 x.2.2.2.1 (fun w0 w1 => (Sum.inl (w0, x.2.1, x.2.2.1, w1, x.2.2.2.2))) (fun p0 => (Sum.inr (.inl p0))) (fun p0 => (Sum.inr (.inr p0))):=by kernel_rfl
theorem q4T {R : Type} (x : tI) (k : (Int ⊕ Int) → Option R) (r : R) (h : q4P x k = some r) : ∃ o, Runs (LE.step X q4N q4F q4H 12) x o ∧ k o = some r := by
  obtain ⟨o, h1, h2⟩ := some_bind h
  exact ⟨q4O x o, small_ok (st := fun (x : tI) => ref01_Spread_L0_st x.2.1 x.2.2.1 x.2.2.2.2) (prj := fun x => (x.1, x.2.2.2.1)) (emb := q4Q) (embO := q4O) (fun x => (q4R x).trans (by unfold ref01_Spread_L0_st ref01_Spread_L0_step; simp only [map_cond,map_bindO,map_elim,Option.map_some,Option.map_none]; rfl)) (fun _ _ => rfl) (fun _ _ => rfl) (fun _ _ _ => rfl) (fun _ _ _ => rfl) (fun _ => rfl) (runOf_some.1 h1), by
    first
    | exact h2
    | (rcases o with o | o <;> exact h2)⟩
noncomputable def q4U {R : Type} : Loops S R := LE.ls X q4N q4P q4H
theorem q4V {R : Type} : LoopsOk X (q4U (R := R)) := loop_ok xok q4G (e := q4N) q4I q4T q4I
theorem q4W (x0 : List Span) (x1 : Int) (x2 : Int) : evFn X q4F [(.sl (.st 5)), (.int .i64), (.int .i64)] [(.int .i64)] q4U 12 96 (x0, x1, x2, ()) = ref01_Spread x0 x1 x2:=by kernel_rfl
noncomputable def q4X : F7 S := ⟨[(.sl (.st 5)), (.int .i64), (.int .i64)], [(.int .i64)], fun xs => ref01_Spread xs.1 xs.2.1 xs.2.2.1⟩
theorem q4Y : FSOk X 96 q4X := fsOk_eq (evFn_ok xok q4G q4V 12 96) fun xs _ h => (q4W xs.1 xs.2.1 xs.2.2.1).trans h
noncomputable def q4Z : List (Nat × F7 S) := [(96, q4X)]
theorem q50 : TabOk X (q4Z) := ⟨q4Y, trivial⟩
abbrev q51 {R : Type} : Loops S R := noLoops
theorem q52 {R : Type} : LoopsOk X (q51 (R := R)) := noLoops_ok X
theorem q53 (x0 : CtBox) (x1 : Int) (x2 : Int) : evFn X q4Z [(.st 6), (.int .i64), (.int .i64)] [(.int .i64)] q51 12 54 (x0, x1, x2, ()) = ref01_Box x0 x1 x2:=by kernel_rfl
noncomputable def q54 : F7 S := ⟨[(.st 6), (.int .i64), (.int .i64)], [(.int .i64)], fun xs => ref01_Box xs.1 xs.2.1 xs.2.2.1⟩
theorem q55 : FSOk X 54 q54 := fsOk_eq (evFn_ok xok q50 q52 12 54) fun xs _ h => (q53 xs.1 xs.2.1 xs.2.2.1).trans h
noncomputable def q56 : List (Nat × F7 S) := []
theorem q57 : TabOk X (q56) := trivial
abbrev q58 {R : Type} : Loops S R := noLoops
theorem q59 {R : Type} : LoopsOk X (q58 (R := R)) := noLoops_ok X
theorem q5a (x0 : Point) (x1 : Point) : evFn X q56 [(.st 2), (.st 2)] [(.st 2)] q58 12 93 (x0, x1, ()) = ref01_Less x0 x1:=by kernel_rfl
noncomputable def q5b : F7 S := ⟨[(.st 2), (.st 2)], [(.st 2)], fun xs => ref01_Less xs.1 xs.2.1⟩
theorem q5c : FSOk X 93 q5b := fsOk_eq (evFn_ok xok q57 q59 12 93) fun xs _ h => (q5a xs.1 xs.2.1).trans h
noncomputable def q5d : List (Nat × F7 S) := []
theorem q5e : TabOk X (q5d) := trivial
abbrev q5f {R : Type} : Loops S R := noLoops
theorem q5g {R : Type} : LoopsOk X (q5f (R := R)) := noLoops_ok X
theorem q5h (x0 : Point) (x1 : Point) : evFn X q5d [(.st 2), (.st 2)] [(.int .i64)] q5f 12 92 (x0, x1, ()) = ref01_Left x0 x1:=by kernel_rfl
noncomputable def q5i : F7 S := ⟨[(.st 2), (.st 2)], [(.int .i64)], fun xs => ref01_Left xs.1 xs.2.1⟩
theorem q5j : FSOk X 92 q5i := fsOk_eq (evFn_ok xok q5e q5g 12 92) fun xs _ h => (q5h xs.1 xs.2.1).trans h
noncomputable def q5k : List (Nat × F7 S) := [(93, q5b), (92, q5i)]
theorem q5l : TabOk X (q5k) := ⟨q5c, q5j, trivial⟩
abbrev q5m {R : Type} : Loops S R := noLoops
theorem q5n {R : Type} : LoopsOk X (q5m (R := R)) := noLoops_ok X
def q5o : Key := ⟨[130], 130, none, [0, 0, 1, 1, 0, 0, 1, 0, 0, 1, 0, 1], 2, 13⟩
def q5p : StT S := ⟨(N (N (N L vC L) none (N L vC L)) vA (N (N L vC L) none L)), L, 13⟩
def q5q : Way S := ⟨.ret, ⟨(N L none (N L vB L)), L, 48⟩, [.bool]⟩
def q5r : Way S := ⟨(.exit 2), ⟨(N (N (N L vC L) none L) vA L), L, 17⟩, [.int, (.lst (.st 2))]⟩
def q5s : LE S := ⟨q5o, q5p, [.int, .int, (.lst (.st 2)), .int], [q5q, q5r]⟩
def q5t (x : tQ) : (Bool ⊕ Unit) → (Bool ⊕ (Int × (List Point))) := Sum.elim (fun y0 => (.inl y0)) (fun y1 => (.inr (x.1, x.2.2.1)))
noncomputable def q5u {R : Type} (x : tQ) (k : (Bool ⊕ (Int × (List Point))) → Option R) : Option R := (ref01_round_L1_run x.1 x.2.2.1 x.2.2.2 x.2.1).bind (Sum.elim (fun y0 => k (.inl y0)) (fun y1 => k (.inr (x.1, x.2.2.1))))
def q5v (x : tQ) (v : Int) : tQ := (x.1, v, x.2.2.1, x.2.2.2)
theorem q5w (x : tQ) : LE.step X q5s q5k q5m 12 x = ref01_round_L1_step x.1 x.2.2.1 x.2.2.2 x.2.1 (fun w0 => (Sum.inl (x.1, w0, x.2.2.1, x.2.2.2))) (fun p0 => (Sum.inr (.inl p0))) (Sum.inr (.inr (x.1, x.2.2.1))):=by kernel_rfl
theorem q5y {R : Type} (x : tQ) (k : (Bool ⊕ (Int × (List Point))) → Option R) (r : R) (h : q5u x k = some r) : ∃ o, Runs (LE.step X q5s q5k q5m 12) x o ∧ k o = some r := by
  obtain ⟨o, h1, h2⟩ := some_bind h
  exact ⟨q5t x o, small_ok (st := fun (x : tQ) => ref01_round_L1_st x.1 x.2.2.1 x.2.2.2) (prj := fun x => x.2.1) (emb := q5v) (embO := q5t) (fun x => (q5w x).trans (by unfold ref01_round_L1_st ref01_round_L1_step; simp only [map_cond,map_bindO,map_elim,Option.map_some,Option.map_none]; rfl)) (fun _ _ => rfl) (fun _ _ => rfl) (fun _ _ _ => rfl) (fun _ _ _ => rfl) (fun _ => rfl) (runOf_some.1 h1), by
    first
    | exact h2
    | (rcases o with o | o <;> exact h2)⟩
noncomputable def q5z {R : Type} : Loops S R := LE.ls X q5s q5u q5m
theorem q5A {R : Type} : LoopsOk X (q5z (R := R)) := loop_ok xok q5l (e := q5s) q5n q5y q5n
def q5B : Key := ⟨[130], 130, none, [0, 0, 1, 0, 1], 0, 2⟩
def q5C : StT S := ⟨(N (N (N L vC L) none L) vA L), L, 2⟩
def q5D : Way S := ⟨.ret, ⟨(N L none (N L vB L)), L, 48⟩, [.bool]⟩
def q5E : Way S := ⟨(.exit 0), ⟨L, L, 6⟩, []⟩
def q5F : LE S := ⟨q5B, q5C, [.int, (.lst (.st 2))], [q5D, q5E]⟩
def q5G (x : (Int × (List Point))) : (Bool ⊕ Unit) → (Bool ⊕ Unit) := Sum.elim (fun y0 => (.inl y0)) (fun y1 => (.inr ()))
noncomputable def q5H {R : Type} (x : (Int × (List Point))) (k : (Bool ⊕ Unit) → Option R) : Option R := (ref01_round_L0_run x.2 x.1).bind (Sum.elim (fun y0 => k (.inl y0)) (fun y1 => k (.inr ())))
def q5I (x : (Int × (List Point))) (v : Int) : (Int × (List Point)) := (v, x.2)
theorem q5J (x : (Int × (List Point))) : LE.step X q5F q5k q5z 12 x = ref01_round_L0_step x.2 x.1 (fun w0 => (Sum.inl (w0, x.2))) (fun p0 => (Sum.inr (.inl p0))) (Sum.inr (.inr ())):=by kernel_rfl
theorem q5L {R : Type} (x : (Int × (List Point))) (k : (Bool ⊕ Unit) → Option R) (r : R) (h : q5H x k = some r) : ∃ o, Runs (LE.step X q5F q5k q5z 12) x o ∧ k o = some r := by
  obtain ⟨o, h1, h2⟩ := some_bind h
  exact ⟨q5G x o, small_ok (st := fun (x : (Int × (List Point))) => ref01_round_L0_st x.2) (prj := fun x => x.1) (emb := q5I) (embO := q5G) (fun x => (q5J x).trans (by unfold ref01_round_L0_st ref01_round_L0_step; simp only [map_cond,map_bindO,map_elim,Option.map_some,Option.map_none]; rfl)) (fun _ _ => rfl) (fun _ _ => rfl) (fun _ _ _ => rfl) (fun _ _ _ => rfl) (fun _ => rfl) (runOf_some.1 h1), by
    first
    | exact h2
    | (rcases o with o | o <;> exact h2)⟩
noncomputable def q5M {R : Type} : Loops S R := LE.ls X q5F q5H q5z
theorem q5N {R : Type} : LoopsOk X (q5M (R := R)) := loop_ok xok q5l (e := q5F) q5A q5L q5A
theorem q5O (x0 : List Point) : evFn X q5k [(.sl (.st 2))] [.bool] q5M 12 130 (x0, ()) = ref01_round x0:=by kernel_rfl
noncomputable def q5P : F7 S := ⟨[(.sl (.st 2))], [.bool], fun xs => ref01_round xs.1⟩
theorem q5Q : FSOk X 130 q5P := fsOk_eq (evFn_ok xok q5l q5N 12 130) fun xs _ h => (q5O xs.1).trans h
noncomputable def q5R : List (Nat × F7 S) := [(113, q3q), (78, q4i), (54, q54), (130, q5P)]
theorem q5S : TabOk X (q5R) := ⟨q3r, q4j, q55, q5Q, trivial⟩
abbrev q5T {R : Type} : Loops S R := noLoops
theorem q5U {R : Type} : LoopsOk X (q5T (R := R)) := noLoops_ok X
def q5V : Key := ⟨[106], 106, none, [0, 0, 1, 0, 1, 1], 0, 8⟩
def q5W : StT S := ⟨(N (N (N L vC L) (some (.ptr 0 0)) L) none L), (N L oh L), 8⟩
def q5X : Way S := ⟨.ret, ⟨(N L none (N L vC L)), (N L oh L), 21⟩, [.int, (.st 7)]⟩
def q5Y : Way S := ⟨(.exit 0), ⟨(N (N L (some (.ptr 0 0)) L) none L), (N L oh L), 13⟩, [(.st 7)]⟩
def q5Z : LE S := ⟨q5V, q5W, [.int, (.st 7)], [q5X, q5Y]⟩
def q60 (x : (Int × CtSand)) : (Int ⊕ Unit) → ((Int × CtSand) ⊕ CtSand) := Sum.elim (fun y0 => (.inl (y0, x.2))) (fun y1 => (.inr x.2))
noncomputable def q61 {R : Type} (x : (Int × CtSand)) (k : ((Int × CtSand) ⊕ CtSand) → Option R) : Option R := (ref01_sand_L0_run x.2 x.1).bind (Sum.elim (fun y0 => k (.inl (y0, x.2))) (fun y1 => k (.inr x.2)))
def q62 (x : (Int × CtSand)) (v : Int) : (Int × CtSand) := (v, x.2)
theorem q63 (x : (Int × CtSand)) : LE.step X q5Z q5R q5T 12 x = ref01_sand_L0_step x.2 x.1 (fun w0 => (Sum.inl (w0, x.2))) (fun p0 => (Sum.inr (.inl (p0, x.2)))) (Sum.inr (.inr x.2)):=by kernel_rfl
theorem q65 {R : Type} (x : (Int × CtSand)) (k : ((Int × CtSand) ⊕ CtSand) → Option R) (r : R) (h : q61 x k = some r) : ∃ o, Runs (LE.step X q5Z q5R q5T 12) x o ∧ k o = some r := by
  obtain ⟨o, h1, h2⟩ := some_bind h
  exact ⟨q60 x o, small_ok (st := fun (x : (Int × CtSand)) => ref01_sand_L0_st x.2) (prj := fun x => x.1) (emb := q62) (embO := q60) (fun x => (q63 x).trans (by unfold ref01_sand_L0_st ref01_sand_L0_step; simp only [map_cond,map_bindO,map_elim,Option.map_some,Option.map_none]; rfl)) (fun _ _ => rfl) (fun _ _ => rfl) (fun _ _ _ => rfl) (fun _ _ _ => rfl) (fun _ => rfl) (runOf_some.1 h1), by
    first
    | exact h2
    | (rcases o with o | o <;> exact h2)⟩
noncomputable def q66 {R : Type} : Loops S R := LE.ls X q5Z q61 q5T
theorem q67 {R : Type} : LoopsOk X (q66 (R := R)) := loop_ok xok q5S (e := q5Z) q5U q65 q5U
theorem q68 (x0 : CtSand) : evFn X q5R [(.st 7)] [(.int .i64)] q66 12 106 (x0, ()) = ref01_sand x0:=by kernel_rfl
noncomputable def q69 : F7 S := ⟨[(.st 7)], [(.int .i64)], fun xs => ref01_sand xs.1⟩
theorem q6a : FSOk X 106 q69 := fsOk_eq (evFn_ok xok q5S q67 12 106) fun xs _ h => (q68 xs.1).trans h
noncomputable def q6b : List (Nat × F7 S) := [(104, q4b), (78, q4i), (105, q4D), (106, q69)]
theorem q6c : TabOk X (q6b) := ⟨q4c, q4j, q4E, q6a, trivial⟩
abbrev q6d {R : Type} : Loops S R := noLoops
theorem q6e {R : Type} : LoopsOk X (q6d (R := R)) := noLoops_ok X
def q6f : Key := ⟨[63], 63, none, [0, 0, 1, 0, 1, 1, 1], 0, 10⟩
def q6g : StT S := ⟨(N (N L (some (.ptr 0 0)) (N L (some (.rs 10 0)) L)) none (N L none (N L vC L))), (N L og o19), 11⟩
def q6h : Way S := ⟨.ret, ⟨v12, oL, 52⟩, [.int, .int, .int, (.lst .str), (.st 4), (.st 8), (.lst .str)]⟩
def q6i : Way S := ⟨.ret, ⟨v12, oL, 55⟩, [.int, .int, .int, (.lst .str), (.st 4), (.st 8), (.lst .str)]⟩
def q6j : Way S := ⟨.ret, ⟨v12, oL, 51⟩, [.int, .int, .int, (.lst .str), (.st 4), (.st 8), (.lst .str)]⟩
def q6k : Way S := ⟨(.exit 0), ⟨(N (N L (some (.ptr 0 0)) (N L (some (.rs 10 0)) L)) none L), (N L og o19), 16⟩, [(.st 8), (.lst .str)]⟩
def q6l : LE S := ⟨q6f, q6g, [.int, (.st 8), (.lst .str)], [q6h, q6i, q6j, q6k]⟩
def q6m (x : tM) : (tz ⊕ tz ⊕ tz ⊕ (List ByteArray)) → t4 := Sum.elim (fun y0 => (.inl (y0.1, y0.2.1, y0.2.2.1, y0.2.2.2.1, y0.2.2.2.2.1, x.2.1, y0.2.2.2.2.2))) (Sum.elim (fun y1 => (.inr (.inl (y1.1, y1.2.1, y1.2.2.1, y1.2.2.2.1, y1.2.2.2.2.1, x.2.1, y1.2.2.2.2.2)))) (Sum.elim (fun y2 => (.inr (.inr (.inl (y2.1, y2.2.1, y2.2.2.1, y2.2.2.2.1, y2.2.2.2.2.1, x.2.1, y2.2.2.2.2.2))))) (fun y3 => (.inr (.inr (.inr (x.2.1, y3)))))))
noncomputable def q6n {R : Type} (x : tM) (k : t4 → Option R) : Option R := (ref01_Check_L0_run x.2.1 (x.1, x.2.2)).bind (Sum.elim (fun y0 => k (.inl (y0.1, y0.2.1, y0.2.2.1, y0.2.2.2.1, y0.2.2.2.2.1, x.2.1, y0.2.2.2.2.2))) (Sum.elim (fun y1 => k (.inr (.inl (y1.1, y1.2.1, y1.2.2.1, y1.2.2.2.1, y1.2.2.2.2.1, x.2.1, y1.2.2.2.2.2)))) (Sum.elim (fun y2 => k (.inr (.inr (.inl (y2.1, y2.2.1, y2.2.2.1, y2.2.2.2.1, y2.2.2.2.2.1, x.2.1, y2.2.2.2.2.2))))) (fun y3 => k (.inr (.inr (.inr (x.2.1, y3))))))))
def q6o (x : tM) (v : (Int × (List ByteArray))) : tM := (v.1, x.2.1, v.2)
theorem q6p (x : tM) : LE.step X q6l q6b q6d 12 x = ref01_Check_L0_step x.2.1 x.1 x.2.2 (fun w0 w1 => (Sum.inl (w0, x.2.1, w1))) (fun p0 p1 p2 p3 p4 p5 => (Sum.inr (.inl (p0, p1, p2, p3, p4, x.2.1, p5)))) (fun p0 p1 p2 p3 p4 p5 => (Sum.inr (.inr (.inl (p0, p1, p2, p3, p4, x.2.1, p5))))) (fun p0 p1 p2 p3 p4 p5 => (Sum.inr (.inr (.inr (.inl (p0, p1, p2, p3, p4, x.2.1, p5)))))) (fun p0 => (Sum.inr (.inr (.inr (.inr (x.2.1, p0)))))):=by kernel_rfl
theorem q6r {R : Type} (x : tM) (k : t4 → Option R) (r : R) (h : q6n x k = some r) : ∃ o, Runs (LE.step X q6l q6b q6d 12) x o ∧ k o = some r := by
  obtain ⟨o, h1, h2⟩ := some_bind h
  exact ⟨q6m x o, small_ok (st := fun (x : tM) => ref01_Check_L0_st x.2.1) (prj := fun x => (x.1, x.2.2)) (emb := q6o) (embO := q6m) (fun x => (q6p x).trans (by unfold ref01_Check_L0_st ref01_Check_L0_step; simp only [map_cond,map_bindO,map_elim,Option.map_some,Option.map_none]; rfl)) (fun _ _ => rfl) (fun _ _ => rfl) (fun _ _ _ => rfl) (fun _ _ _ => rfl) (fun _ => rfl) (runOf_some.1 h1), by
    first
    | exact h2
    | (rcases o with o | o | o | o <;> exact h2)⟩
noncomputable def q6s {R : Type} : Loops S R := LE.ls X q6l q6n q6d
theorem q6t {R : Type} : LoopsOk X (q6s (R := R)) := loop_ok xok q6c (e := q6l) q6e q6r q6e
def q6u : Key := ⟨[63], 63, none, [0, 0, 1, 0, 1, 1, 1, 1, 1], 2, 21⟩
def q6v : StT S := ⟨(N (N L (some (.ptr 0 0)) (N (N L vC L) (some (.rs 21 0)) L)) none L), (N (N L none o19) og L), 22⟩
def q6w : Way S := ⟨.ret, ⟨v12, oO, 62⟩, [.int, .int, .int, (.lst .str), (.lst .str), (.st 8)]⟩
def q6x : Way S := ⟨.ret, ⟨v12, oO, 55⟩, [.int, .int, .int, (.lst .str), (.lst .str), (.st 8)]⟩
def q6y : Way S := ⟨(.exit 2), ⟨L, (N (N L none o19) og L), 27⟩, [(.lst .str), (.st 8)]⟩
def q6z : LE S := ⟨q6u, q6v, [.int, (.lst .str), (.st 8)], [q6w, q6x, q6y]⟩
def q6A (x : tN) : ((Int × Int × Int × (List ByteArray) × (List ByteArray)) ⊕ (Int × Int × Int × (List ByteArray) × (List ByteArray)) ⊕ (List ByteArray)) → t9 := Sum.elim (fun y0 => (.inl (y0.1, y0.2.1, y0.2.2.1, y0.2.2.2.1, y0.2.2.2.2, x.2.2))) (Sum.elim (fun y1 => (.inr (.inl (y1.1, y1.2.1, y1.2.2.1, y1.2.2.2.1, y1.2.2.2.2, x.2.2)))) (fun y2 => (.inr (.inr (y2, x.2.2)))))
noncomputable def q6B {R : Type} (x : tN) (k : t9 → Option R) : Option R := (ref01_Check_L1_run x.2.2 (x.1, x.2.1)).bind (Sum.elim (fun y0 => k (.inl (y0.1, y0.2.1, y0.2.2.1, y0.2.2.2.1, y0.2.2.2.2, x.2.2))) (Sum.elim (fun y1 => k (.inr (.inl (y1.1, y1.2.1, y1.2.2.1, y1.2.2.2.1, y1.2.2.2.2, x.2.2)))) (fun y2 => k (.inr (.inr (y2, x.2.2))))))
def q6C (x : tN) (v : (Int × (List ByteArray))) : tN := (v.1, v.2, x.2.2)
theorem q6D (x : tN) : LE.step X q6z q6b q6s 12 x = ref01_Check_L1_step x.2.2 x.1 x.2.1 (fun w0 w1 => (Sum.inl (w0, w1, x.2.2))) (fun p0 p1 p2 p3 p4 => (Sum.inr (.inl (p0, p1, p2, p3, p4, x.2.2)))) (fun p0 p1 p2 p3 p4 => (Sum.inr (.inr (.inl (p0, p1, p2, p3, p4, x.2.2))))) (fun p0 => (Sum.inr (.inr (.inr (p0, x.2.2))))):=by kernel_rfl
theorem q6F {R : Type} (x : tN) (k : t9 → Option R) (r : R) (h : q6B x k = some r) : ∃ o, Runs (LE.step X q6z q6b q6s 12) x o ∧ k o = some r := by
  obtain ⟨o, h1, h2⟩ := some_bind h
  exact ⟨q6A x o, small_ok (st := fun (x : tN) => ref01_Check_L1_st x.2.2) (prj := fun x => (x.1, x.2.1)) (emb := q6C) (embO := q6A) (fun x => (q6D x).trans (by unfold ref01_Check_L1_st ref01_Check_L1_step; simp only [map_cond,map_bindO,map_elim,Option.map_some,Option.map_none]; rfl)) (fun _ _ => rfl) (fun _ _ => rfl) (fun _ _ _ => rfl) (fun _ _ _ => rfl) (fun _ => rfl) (runOf_some.1 h1), by
    first
    | exact h2
    | (rcases o with o | o | o <;> exact h2)⟩
noncomputable def q6G {R : Type} : Loops S R := LE.ls X q6z q6B q6s
theorem q6H {R : Type} : LoopsOk X (q6G (R := R)) := loop_ok xok q6c (e := q6z) q6t q6F q6t
theorem q6I (x0 : CtChart) : evFn X q6b [(.st 8)] [(.int .i64), (.int .i64), (.int .i64)] q6G 12 63 (x0, ()) = ref01_Check x0:=by kernel_rfl
noncomputable def q6J : F7 S := ⟨[(.st 8)], [(.int .i64), (.int .i64), (.int .i64)], fun xs => ref01_Check xs.1⟩
theorem q6K : FSOk X 63 q6J := fsOk_eq (evFn_ok xok q6c q6H 12 63) fun xs _ h => (q6I xs.1).trans h
noncomputable def q6L : List (Nat × F7 S) := [(96, q4X)]
theorem q6M : TabOk X (q6L) := ⟨q4Y, trivial⟩
abbrev q6N {R : Type} : Loops S R := noLoops
theorem q6O {R : Type} : LoopsOk X (q6N (R := R)) := noLoops_ok X
theorem q6P (x0 : CtBox) : evFn X q6L [(.st 6)] [(.int .i64)] q6N 12 64 (x0, ()) = ref04_box x0:=by kernel_rfl
noncomputable def q6Q : F7 S := ⟨[(.st 6)], [(.int .i64)], fun xs => ref04_box xs.1⟩
theorem q6R : FSOk X 64 q6Q := fsOk_eq (evFn_ok xok q6M q6O 12 64) fun xs _ h => (q6P xs.1).trans h
noncomputable def q6S : List (Nat × F7 S) := [(96, q4X)]
theorem q6T : TabOk X (q6S) := ⟨q4Y, trivial⟩
abbrev q6U {R : Type} : Loops S R := noLoops
theorem q6V {R : Type} : LoopsOk X (q6U (R := R)) := noLoops_ok X
theorem q6W (x0 : Span) (x1 : Int) (x2 : Int) : evFn X q6S [(.st 5), (.int .i64), (.int .i64)] [(.int .i64)] q6U 12 65 (x0, x1, x2, ()) = ref01_Range x0 x1 x2:=by kernel_rfl
noncomputable def q6X : F7 S := ⟨[(.st 5), (.int .i64), (.int .i64)], [(.int .i64)], fun xs => ref01_Range xs.1 xs.2.1 xs.2.2.1⟩
theorem q6Y : FSOk X 65 q6X := fsOk_eq (evFn_ok xok q6T q6V 12 65) fun xs _ h => (q6W xs.1 xs.2.1 xs.2.2.1).trans h
noncomputable def q6Z : List (Nat × F7 S) := []
theorem q70 : TabOk X (q6Z) := trivial
abbrev q71 {R : Type} : Loops S R := noLoops
theorem q72 {R : Type} : LoopsOk X (q71 (R := R)) := noLoops_ok X
theorem q73 (x0 : Int) (x1 : Int) (x2 : Int) : evFn X q6Z [(.int .i64), (.int .i64), (.int .i64)] [.bool] q71 12 66 (x0, x1, x2, ()) = ref04_in x0 x1 x2:=by kernel_rfl
noncomputable def q74 : F7 S := ⟨[(.int .i64), (.int .i64), (.int .i64)], [.bool], fun xs => ref04_in xs.1 xs.2.1 xs.2.2.1⟩
theorem q75 : FSOk X 66 q74 := fsOk_eq (evFn_ok xok q70 q72 12 66) fun xs _ h => (q73 xs.1 xs.2.1 xs.2.2.1).trans h
noncomputable def q76 : List (Nat × F7 S) := [(63, q6J), (64, q6Q), (65, q6X), (66, q74)]
theorem q77 : TabOk X (q76) := ⟨q6K, q6R, q6Y, q75, trivial⟩
abbrev q78 {R : Type} : Loops S R := noLoops
theorem q79 {R : Type} : LoopsOk X (q78 (R := R)) := noLoops_ok X
theorem q7a (x0 : SgMooring) : evFn X q76 [(.st 9)] [(.int .i64), (.int .i64)] q78 12 18 (x0, ()) = ref04_Check x0:=by kernel_rfl
noncomputable def q7b : F7 S := ⟨[(.st 9)], [(.int .i64), (.int .i64)], fun xs => ref04_Check xs.1⟩
theorem q7c : FSOk X 18 q7b := fsOk_eq (evFn_ok xok q77 q79 12 18) fun xs _ h => (q7a xs.1).trans h
noncomputable def q7d : List (Nat × F7 S) := [(17, q3j), (61, q3c), (62, q35)]
theorem q7e : TabOk X (q7d) := ⟨q3k, q3d, q36, trivial⟩
abbrev q7f {R : Type} : Loops S R := noLoops
theorem q7g {R : Type} : LoopsOk X (q7f (R := R)) := noLoops_ok X
def q7h : Key := ⟨[67, 2, 6, 19], 67, none, [0, 0, 1, 0, 1], 0, 27⟩
def q7i : StT S := ⟨(N (N (N L none (N L vC L)) (some (.fn (.func 68) [] [(.ptr 1 0)])) (N (N L vz L) none L)) none v16), (N (N L ol L) oi L), 27⟩
def q7j : Way S := ⟨.ret, ⟨v10, (N oW oi L), 73⟩, [.int, .int, (.st 10), (.st 10), (.lst (.st 10)), (.st 9)]⟩
def q7k : Way S := ⟨.ret, ⟨v10, (N oW oi (N L none (N o1a none L))), 73⟩, [.int, .int, (.st 10), (.st 10), (.lst (.st 10)), (.st 9), (.lst (.int .i64))]⟩
def q7l : Way S := ⟨.ret, ⟨v10, (N oW oi (N (N (N L none (N L none (N L on L))) none L) none (N o1a none L))), 73⟩, [.int, .int, (.st 10), (.st 10), (.lst (.st 10)), (.st 9), (.lst (.int .i64)), (.lst (.int .i64))]⟩
def q7m : Way S := ⟨.ret, ⟨v10, oH, 73⟩, [.int, .int, (.st 10), (.st 10), (.lst (.st 10)), (.st 9), (.lst (.int .i64)), (.lst (.int .i64)), (.lst (.int .i64))]⟩
def q7n : Way S := ⟨.ret, ⟨v10, oH, 91⟩, [.int, .int, (.st 10), (.st 10), (.lst (.st 10)), (.st 9), (.lst (.int .i64)), (.lst (.int .i64)), (.lst (.int .i64))]⟩
def q7o : Way S := ⟨.ret, ⟨v10, oH, 92⟩, [.int, .int, (.st 10), (.st 10), (.lst (.st 10)), (.st 9), (.lst (.int .i64)), (.lst (.int .i64)), (.lst (.int .i64))]⟩
def q7p : Way S := ⟨(.exit 0), ⟨L, (N (N L ol L) oi L), 28⟩, [(.lst (.st 10)), (.st 9)]⟩
def q7q : LE S := ⟨q7h, q7i, [.int, (.lst (.st 10)), .int, (.lst (.st 10)), (.st 9)], [q7j, q7k, q7l, q7m, q7n, q7o, q7p]⟩
def q7r (x : tC) : ((Int × Int × SgLook × SgLook) ⊕ (Int × Int × SgLook × SgLook × (List Int)) ⊕ (Int × Int × SgLook × SgLook × (List Int) × (List Int)) ⊕ tv ⊕ tv ⊕ tv ⊕ Unit) → t0 := Sum.elim (fun y0 => (.inl (y0.1, y0.2.1, y0.2.2.1, y0.2.2.2, x.2.2.2.1, x.2.2.2.2))) (Sum.elim (fun y1 => (.inr (.inl (y1.1, y1.2.1, y1.2.2.1, y1.2.2.2.1, x.2.2.2.1, x.2.2.2.2, y1.2.2.2.2)))) (Sum.elim (fun y2 => (.inr (.inr (.inl (y2.1, y2.2.1, y2.2.2.1, y2.2.2.2.1, x.2.2.2.1, x.2.2.2.2, y2.2.2.2.2.1, y2.2.2.2.2.2))))) (Sum.elim (fun y3 => (.inr (.inr (.inr (.inl (y3.1, y3.2.1, y3.2.2.1, y3.2.2.2.1, x.2.2.2.1, x.2.2.2.2, y3.2.2.2.2.1, y3.2.2.2.2.2.1, y3.2.2.2.2.2.2)))))) (Sum.elim (fun y4 => (.inr (.inr (.inr (.inr (.inl (y4.1, y4.2.1, y4.2.2.1, y4.2.2.2.1, x.2.2.2.1, x.2.2.2.2, y4.2.2.2.2.1, y4.2.2.2.2.2.1, y4.2.2.2.2.2.2))))))) (Sum.elim (fun y5 => (.inr (.inr (.inr (.inr (.inr (.inl (y5.1, y5.2.1, y5.2.2.1, y5.2.2.2.1, x.2.2.2.1, x.2.2.2.2, y5.2.2.2.2.1, y5.2.2.2.2.2.1, y5.2.2.2.2.2.2)))))))) (fun y6 => (.inr (.inr (.inr (.inr (.inr (.inr (x.2.2.2.1, x.2.2.2.2)))))))))))))
noncomputable def q7s {R : Type} (x : tC) (k : t0 → Option R) : Option R := (swing_CheckLooks_L0_run x.2.1 x.2.2.1 x.2.2.2.1 x.2.2.2.2 x.1).bind (Sum.elim (fun y0 => k (.inl (y0.1, y0.2.1, y0.2.2.1, y0.2.2.2, x.2.2.2.1, x.2.2.2.2))) (Sum.elim (fun y1 => k (.inr (.inl (y1.1, y1.2.1, y1.2.2.1, y1.2.2.2.1, x.2.2.2.1, x.2.2.2.2, y1.2.2.2.2)))) (Sum.elim (fun y2 => k (.inr (.inr (.inl (y2.1, y2.2.1, y2.2.2.1, y2.2.2.2.1, x.2.2.2.1, x.2.2.2.2, y2.2.2.2.2.1, y2.2.2.2.2.2))))) (Sum.elim (fun y3 => k (.inr (.inr (.inr (.inl (y3.1, y3.2.1, y3.2.2.1, y3.2.2.2.1, x.2.2.2.1, x.2.2.2.2, y3.2.2.2.2.1, y3.2.2.2.2.2.1, y3.2.2.2.2.2.2)))))) (Sum.elim (fun y4 => k (.inr (.inr (.inr (.inr (.inl (y4.1, y4.2.1, y4.2.2.1, y4.2.2.2.1, x.2.2.2.1, x.2.2.2.2, y4.2.2.2.2.1, y4.2.2.2.2.2.1, y4.2.2.2.2.2.2))))))) (Sum.elim (fun y5 => k (.inr (.inr (.inr (.inr (.inr (.inl (y5.1, y5.2.1, y5.2.2.1, y5.2.2.2.1, x.2.2.2.1, x.2.2.2.2, y5.2.2.2.2.1, y5.2.2.2.2.2.1, y5.2.2.2.2.2.2)))))))) (fun y6 => k (.inr (.inr (.inr (.inr (.inr (.inr (x.2.2.2.1, x.2.2.2.2))))))))))))))
def q7t (x : tC) (v : Int) : tC := (v, x.2.1, x.2.2.1, x.2.2.2.1, x.2.2.2.2)
theorem q7u (x : tC) : LE.step X q7q q7d q7f 12 x = swing_CheckLooks_L0_step x.2.1 x.2.2.1 x.2.2.2.1 x.2.2.2.2 x.1 (fun w0 => (Sum.inl (w0, x.2.1, x.2.2.1, x.2.2.2.1, x.2.2.2.2))) (fun p0 p1 p2 p3 => (Sum.inr (.inl (p0, p1, p2, p3, x.2.2.2.1, x.2.2.2.2)))) (fun p0 p1 p2 p3 p4 => (Sum.inr (.inr (.inl (p0, p1, p2, p3, x.2.2.2.1, x.2.2.2.2, p4))))) (fun p0 p1 p2 p3 p4 p5 => (Sum.inr (.inr (.inr (.inl (p0, p1, p2, p3, x.2.2.2.1, x.2.2.2.2, p4, p5)))))) (fun p0 p1 p2 p3 p4 p5 p6 => (Sum.inr (.inr (.inr (.inr (.inl (p0, p1, p2, p3, x.2.2.2.1, x.2.2.2.2, p4, p5, p6))))))) (fun p0 p1 p2 p3 p4 p5 p6 => (Sum.inr (.inr (.inr (.inr (.inr (.inl (p0, p1, p2, p3, x.2.2.2.1, x.2.2.2.2, p4, p5, p6)))))))) (fun p0 p1 p2 p3 p4 p5 p6 => (Sum.inr (.inr (.inr (.inr (.inr (.inr (.inl (p0, p1, p2, p3, x.2.2.2.1, x.2.2.2.2, p4, p5, p6))))))))) (Sum.inr (.inr (.inr (.inr (.inr (.inr (.inr (x.2.2.2.1, x.2.2.2.2)))))))):=by kernel_rfl
theorem q7w {R : Type} (x : tC) (k : t0 → Option R) (r : R) (h : q7s x k = some r) : ∃ o, Runs (LE.step X q7q q7d q7f 12) x o ∧ k o = some r := by
  obtain ⟨o, h1, h2⟩ := some_bind h
  exact ⟨q7r x o, small_ok (st := fun (x : tC) => swing_CheckLooks_L0_st x.2.1 x.2.2.1 x.2.2.2.1 x.2.2.2.2) (prj := fun x => x.1) (emb := q7t) (embO := q7r) (fun x => (q7u x).trans (by unfold swing_CheckLooks_L0_st swing_CheckLooks_L0_step; simp only [map_cond,map_bindO,map_elim,Option.map_some,Option.map_none]; rfl)) (fun _ _ => rfl) (fun _ _ => rfl) (fun _ _ _ => rfl) (fun _ _ _ => rfl) (fun _ => rfl) (runOf_some.1 h1), by
    first
    | exact h2
    | (rcases o with o | o | o | o | o | o | o <;> exact h2)⟩
noncomputable def q7x {R : Type} : Loops S R := LE.ls X q7q q7s q7f
theorem q7y {R : Type} : LoopsOk X (q7x (R := R)) := loop_ok xok q7e (e := q7q) q7g q7w q7g
theorem q7z (x0 : SgMooring) (x1 : List SgLook) : evFn X q7d [(.st 9), (.sl (.st 10))] [(.int .i64), (.int .i64)] q7x 12 19 (x0, x1, ()) = swing_CheckLooks x0 x1:=by kernel_rfl
noncomputable def q7A : F7 S := ⟨[(.st 9), (.sl (.st 10))], [(.int .i64), (.int .i64)], fun xs => swing_CheckLooks xs.1 xs.2.1⟩
theorem q7B : FSOk X 19 q7A := fsOk_eq (evFn_ok xok q7e q7y 12 19) fun xs _ h => (q7z xs.1 xs.2.1).trans h
noncomputable def q7C : List (Nat × F7 S) := [(64, q6Q), (66, q74)]
theorem q7D : TabOk X (q7C) := ⟨q6R, q75, trivial⟩
abbrev q7E {R : Type} : Loops S R := noLoops
theorem q7F {R : Type} : LoopsOk X (q7E (R := R)) := noLoops_ok X
theorem q7G (x0 : SgLook) (x1 : Int) : evFn X q7C [(.st 10), (.int .i64)] [(.int .i64)] q7E 12 69 (x0, x1, ()) = ref04_look x0 x1:=by kernel_rfl
noncomputable def q7H : F7 S := ⟨[(.st 10), (.int .i64)], [(.int .i64)], fun xs => ref04_look xs.1 xs.2.1⟩
theorem q7I : FSOk X 69 q7H := fsOk_eq (evFn_ok xok q7D q7F 12 69) fun xs _ h => (q7G xs.1 xs.2.1).trans h
noncomputable def q7J : List (Nat × F7 S) := [(18, q7b), (69, q7H)]
theorem q7K : TabOk X (q7J) := ⟨q7c, q7I, trivial⟩
abbrev q7L {R : Type} : Loops S R := noLoops
theorem q7M {R : Type} : LoopsOk X (q7L (R := R)) := noLoops_ok X
def q7N : Key := ⟨[20], 20, none, [0, 0, 1, 0, 1, 1, 1, 1, 1], 0, 21⟩
def q7O : StT S := ⟨(N (N L vz (N (N L vC L) none L)) none v15), (N L oi L), 21⟩
def q7P : Way S := ⟨.ret, ⟨v10, (N L oi L), 38⟩, [.int, .int, (.st 9)]⟩
def q7Q : Way S := ⟨(.exit 0), ⟨L, (N L oi L), 25⟩, [(.st 9)]⟩
def q7R : LE S := ⟨q7N, q7O, [(.lst (.st 10)), .int, .int, (.st 9)], [q7P, q7Q]⟩
def q7S (x : tH) : ((Int × Int) ⊕ Unit) → ((Int × Int × SgMooring) ⊕ SgMooring) := Sum.elim (fun y0 => (.inl (y0.1, y0.2, x.2.2.2))) (fun y1 => (.inr x.2.2.2))
noncomputable def q7T {R : Type} (x : tH) (k : ((Int × Int × SgMooring) ⊕ SgMooring) → Option R) : Option R := (ref04_CheckLooks_L0_run x.1 x.2.2.2 (x.2.1, x.2.2.1)).bind (Sum.elim (fun y0 => k (.inl (y0.1, y0.2, x.2.2.2))) (fun y1 => k (.inr x.2.2.2)))
def q7U (x : tH) (v : (Int × Int)) : tH := (x.1, v.1, v.2, x.2.2.2)
theorem q7V (x : tH) : LE.step X q7R q7J q7L 12 x = ref04_CheckLooks_L0_step x.1 x.2.2.2 x.2.1 x.2.2.1 (fun w0 w1 => (Sum.inl (x.1, w0, w1, x.2.2.2))) (fun p0 p1 => (Sum.inr (.inl (p0, p1, x.2.2.2)))) (Sum.inr (.inr x.2.2.2)):=by kernel_rfl
theorem q7X {R : Type} (x : tH) (k : ((Int × Int × SgMooring) ⊕ SgMooring) → Option R) (r : R) (h : q7T x k = some r) : ∃ o, Runs (LE.step X q7R q7J q7L 12) x o ∧ k o = some r := by
  obtain ⟨o, h1, h2⟩ := some_bind h
  exact ⟨q7S x o, small_ok (st := fun (x : tH) => ref04_CheckLooks_L0_st x.1 x.2.2.2) (prj := fun x => (x.2.1, x.2.2.1)) (emb := q7U) (embO := q7S) (fun x => (q7V x).trans (by unfold ref04_CheckLooks_L0_st ref04_CheckLooks_L0_step; simp only [map_cond,map_bindO,map_elim,Option.map_some,Option.map_none]; rfl)) (fun _ _ => rfl) (fun _ _ => rfl) (fun _ _ _ => rfl) (fun _ _ _ => rfl) (fun _ => rfl) (runOf_some.1 h1), by
    first
    | exact h2
    | (rcases o with o | o <;> exact h2)⟩
noncomputable def q7Y {R : Type} : Loops S R := LE.ls X q7R q7T q7L
theorem q7Z {R : Type} : LoopsOk X (q7Y (R := R)) := loop_ok xok q7K (e := q7R) q7M q7X q7M
theorem q80 (x0 : SgMooring) (x1 : List SgLook) : evFn X q7J [(.st 9), (.sl (.st 10))] [(.int .i64), (.int .i64)] q7Y 12 20 (x0, x1, ()) = ref04_CheckLooks x0 x1:=by kernel_rfl
noncomputable def q81 : F7 S := ⟨[(.st 9), (.sl (.st 10))], [(.int .i64), (.int .i64)], fun xs => ref04_CheckLooks xs.1 xs.2.1⟩
theorem q82 : FSOk X 20 q81 := fsOk_eq (evFn_ok xok q7K q7Z 12 20) fun xs _ h => (q80 xs.1 xs.2.1).trans h
noncomputable def q83 : List (Nat × F7 S) := []
theorem q84 : TabOk X (q83) := trivial
abbrev q85 {R : Type} : Loops S R := noLoops
theorem q86 {R : Type} : LoopsOk X (q85 (R := R)) := noLoops_ok X
def q87 : Key := ⟨[108, 0, 76], 108, none, [0, 0, 1, 0, 0, 1, 0, 0, 1, 1], 2, 28⟩
def q88 : StT S := ⟨(N (N (N L vC L) (some (.ptr 9 0)) (N L vC L)) (some (.yld 13)) (N (N L vC L) none L)), oY, 28⟩
def q89 : Way S := ⟨(.exit 2), ⟨vU, oY, 33⟩, [.int, .int, .int, .int, .int, .int, .int, .int, .int, (.arr (.int .u64)), (.st 6), (.st 9), (.st 9), (.st 14)]⟩
def q8a : LE S := ⟨q87, q88, [.int, .int, .int, .int, .int, .int, .int, .int, .int, .int, (.arr (.int .u64)), (.st 6), (.st 9), (.st 9), (.st 14)], [q89]⟩
def q8b (x : th) : (Int × swing_mooring) → tl := fun y0 => (y0.1, x.2.2.1, x.2.2.2.1, x.2.2.2.2.1, x.2.2.2.2.2.1, x.2.2.2.2.2.2.1, x.2.2.2.2.2.2.2.1, x.2.2.2.2.2.2.2.2.1, x.2.2.2.2.2.2.2.2.2.1, x.2.2.2.2.2.2.2.2.2.2.1, x.2.2.2.2.2.2.2.2.2.2.2.1, x.2.2.2.2.2.2.2.2.2.2.2.2.1, x.2.2.2.2.2.2.2.2.2.2.2.2.2.1, y0.2)
noncomputable def q8c {R : Type} (x : th) (k : tl → Option R) : Option R := (swing_open_L1_run x.2.2.1 x.2.2.2.1 x.2.2.2.2.1 x.2.2.2.2.2.1 x.2.2.2.2.2.2.1 x.2.2.2.2.2.2.2.1 x.2.2.2.2.2.2.2.2.1 x.2.2.2.2.2.2.2.2.2.1 x.2.2.2.2.2.2.2.2.2.2.1 x.2.2.2.2.2.2.2.2.2.2.2.1 x.2.2.2.2.2.2.2.2.2.2.2.2.1 x.2.2.2.2.2.2.2.2.2.2.2.2.2.1 (x.1, x.2.1, x.2.2.2.2.2.2.2.2.2.2.2.2.2.2)).bind (fun y0 => k (y0.1, x.2.2.1, x.2.2.2.1, x.2.2.2.2.1, x.2.2.2.2.2.1, x.2.2.2.2.2.2.1, x.2.2.2.2.2.2.2.1, x.2.2.2.2.2.2.2.2.1, x.2.2.2.2.2.2.2.2.2.1, x.2.2.2.2.2.2.2.2.2.2.1, x.2.2.2.2.2.2.2.2.2.2.2.1, x.2.2.2.2.2.2.2.2.2.2.2.2.1, x.2.2.2.2.2.2.2.2.2.2.2.2.2.1, y0.2))
def q8d (x : th) (v : (Int × Int × swing_mooring)) : th := (v.1, v.2.1, x.2.2.1, x.2.2.2.1, x.2.2.2.2.1, x.2.2.2.2.2.1, x.2.2.2.2.2.2.1, x.2.2.2.2.2.2.2.1, x.2.2.2.2.2.2.2.2.1, x.2.2.2.2.2.2.2.2.2.1, x.2.2.2.2.2.2.2.2.2.2.1, x.2.2.2.2.2.2.2.2.2.2.2.1, x.2.2.2.2.2.2.2.2.2.2.2.2.1, x.2.2.2.2.2.2.2.2.2.2.2.2.2.1, v.2.2)
theorem q8e (x : th) : LE.step X q8a q83 q85 12 x = swing_open_L1_step x.2.2.1 x.2.2.2.1 x.2.2.2.2.1 x.2.2.2.2.2.1 x.2.2.2.2.2.2.1 x.2.2.2.2.2.2.2.1 x.2.2.2.2.2.2.2.2.1 x.2.2.2.2.2.2.2.2.2.1 x.2.2.2.2.2.2.2.2.2.2.1 x.2.2.2.2.2.2.2.2.2.2.2.1 x.2.2.2.2.2.2.2.2.2.2.2.2.1 x.2.2.2.2.2.2.2.2.2.2.2.2.2.1 x.1 x.2.1 x.2.2.2.2.2.2.2.2.2.2.2.2.2.2 (fun w0 w1 w2 => (Sum.inl (w0, w1, x.2.2.1, x.2.2.2.1, x.2.2.2.2.1, x.2.2.2.2.2.1, x.2.2.2.2.2.2.1, x.2.2.2.2.2.2.2.1, x.2.2.2.2.2.2.2.2.1, x.2.2.2.2.2.2.2.2.2.1, x.2.2.2.2.2.2.2.2.2.2.1, x.2.2.2.2.2.2.2.2.2.2.2.1, x.2.2.2.2.2.2.2.2.2.2.2.2.1, x.2.2.2.2.2.2.2.2.2.2.2.2.2.1, w2))) (fun p0 p1 => (Sum.inr (p0, x.2.2.1, x.2.2.2.1, x.2.2.2.2.1, x.2.2.2.2.2.1, x.2.2.2.2.2.2.1, x.2.2.2.2.2.2.2.1, x.2.2.2.2.2.2.2.2.1, x.2.2.2.2.2.2.2.2.2.1, x.2.2.2.2.2.2.2.2.2.2.1, x.2.2.2.2.2.2.2.2.2.2.2.1, x.2.2.2.2.2.2.2.2.2.2.2.2.1, x.2.2.2.2.2.2.2.2.2.2.2.2.2.1, p1))):=by kernel_rfl
theorem q8g {R : Type} (x : th) (k : tl → Option R) (r : R) (h : q8c x k = some r) : ∃ o, Runs (LE.step X q8a q83 q85 12) x o ∧ k o = some r := by
  obtain ⟨o, h1, h2⟩ := some_bind h
  exact ⟨q8b x o, small_ok (st := fun (x : th) => swing_open_L1_st x.2.2.1 x.2.2.2.1 x.2.2.2.2.1 x.2.2.2.2.2.1 x.2.2.2.2.2.2.1 x.2.2.2.2.2.2.2.1 x.2.2.2.2.2.2.2.2.1 x.2.2.2.2.2.2.2.2.2.1 x.2.2.2.2.2.2.2.2.2.2.1 x.2.2.2.2.2.2.2.2.2.2.2.1 x.2.2.2.2.2.2.2.2.2.2.2.2.1 x.2.2.2.2.2.2.2.2.2.2.2.2.2.1) (prj := fun x => (x.1, x.2.1, x.2.2.2.2.2.2.2.2.2.2.2.2.2.2)) (emb := q8d) (embO := q8b) (fun x => (q8e x).trans (by unfold swing_open_L1_st swing_open_L1_step; simp only [map_cond,map_bindO,map_elim,Option.map_some,Option.map_none]; rfl)) (fun _ _ => rfl) (fun _ _ => rfl) (fun _ _ _ => rfl) (fun _ _ _ => rfl) (fun _ => rfl) (runOf_some.1 h1), by
    first
    | exact h2
    | (rcases o with o <;> exact h2)⟩
noncomputable def q8h {R : Type} : Loops S R := LE.ls X q8a q8c q85
theorem q8i {R : Type} : LoopsOk X (q8h (R := R)) := loop_ok xok q84 (e := q8a) q86 q8g q86
def q8j : Key := ⟨[108, 0, 76], 108, none, [0, 0, 1, 1], 0, 19⟩
def q8k : StT S := ⟨vU, oY, 19⟩
def q8l : Way S := ⟨(.exit 0), ⟨L, oY, 24⟩, [.int, .int, .int, .int, .int, .int, .int, (.arr (.int .u64)), (.st 6), (.st 9), (.st 9), (.st 14)]⟩
def q8m : LE S := ⟨q8j, q8k, [.int, .int, .int, .int, .int, .int, .int, .int, .int, (.arr (.int .u64)), (.st 6), (.st 9), (.st 9), (.st 14)], [q8l]⟩
def q8n (x : tl) : swing_mooring → tm := fun y0 => (x.2.2.1, x.2.2.2.1, x.2.2.2.2.1, x.2.2.2.2.2.1, x.2.2.2.2.2.2.1, x.2.2.2.2.2.2.2.1, x.2.2.2.2.2.2.2.2.1, x.2.2.2.2.2.2.2.2.2.1, x.2.2.2.2.2.2.2.2.2.2.1, x.2.2.2.2.2.2.2.2.2.2.2.1, x.2.2.2.2.2.2.2.2.2.2.2.2.1, y0)
noncomputable def q8o {R : Type} (x : tl) (k : tm → Option R) : Option R := (swing_open_L0_run x.2.2.1 x.2.2.2.1 x.2.2.2.2.1 x.2.2.2.2.2.1 x.2.2.2.2.2.2.1 x.2.2.2.2.2.2.2.1 x.2.2.2.2.2.2.2.2.1 x.2.2.2.2.2.2.2.2.2.1 x.2.2.2.2.2.2.2.2.2.2.1 x.2.2.2.2.2.2.2.2.2.2.2.1 x.2.2.2.2.2.2.2.2.2.2.2.2.1 (x.1, x.2.1, x.2.2.2.2.2.2.2.2.2.2.2.2.2)).bind (fun y0 => k (x.2.2.1, x.2.2.2.1, x.2.2.2.2.1, x.2.2.2.2.2.1, x.2.2.2.2.2.2.1, x.2.2.2.2.2.2.2.1, x.2.2.2.2.2.2.2.2.1, x.2.2.2.2.2.2.2.2.2.1, x.2.2.2.2.2.2.2.2.2.2.1, x.2.2.2.2.2.2.2.2.2.2.2.1, x.2.2.2.2.2.2.2.2.2.2.2.2.1, y0))
def q8p (x : tl) (v : (Int × Int × swing_mooring)) : tl := (v.1, v.2.1, x.2.2.1, x.2.2.2.1, x.2.2.2.2.1, x.2.2.2.2.2.1, x.2.2.2.2.2.2.1, x.2.2.2.2.2.2.2.1, x.2.2.2.2.2.2.2.2.1, x.2.2.2.2.2.2.2.2.2.1, x.2.2.2.2.2.2.2.2.2.2.1, x.2.2.2.2.2.2.2.2.2.2.2.1, x.2.2.2.2.2.2.2.2.2.2.2.2.1, v.2.2)
theorem q8q (x : tl) : LE.step X q8m q83 q8h 12 x = swing_open_L0_step x.2.2.1 x.2.2.2.1 x.2.2.2.2.1 x.2.2.2.2.2.1 x.2.2.2.2.2.2.1 x.2.2.2.2.2.2.2.1 x.2.2.2.2.2.2.2.2.1 x.2.2.2.2.2.2.2.2.2.1 x.2.2.2.2.2.2.2.2.2.2.1 x.2.2.2.2.2.2.2.2.2.2.2.1 x.2.2.2.2.2.2.2.2.2.2.2.2.1 x.1 x.2.1 x.2.2.2.2.2.2.2.2.2.2.2.2.2 (fun w0 w1 w2 => (Sum.inl (w0, w1, x.2.2.1, x.2.2.2.1, x.2.2.2.2.1, x.2.2.2.2.2.1, x.2.2.2.2.2.2.1, x.2.2.2.2.2.2.2.1, x.2.2.2.2.2.2.2.2.1, x.2.2.2.2.2.2.2.2.2.1, x.2.2.2.2.2.2.2.2.2.2.1, x.2.2.2.2.2.2.2.2.2.2.2.1, x.2.2.2.2.2.2.2.2.2.2.2.2.1, w2))) (fun p0 => (Sum.inr (x.2.2.1, x.2.2.2.1, x.2.2.2.2.1, x.2.2.2.2.2.1, x.2.2.2.2.2.2.1, x.2.2.2.2.2.2.2.1, x.2.2.2.2.2.2.2.2.1, x.2.2.2.2.2.2.2.2.2.1, x.2.2.2.2.2.2.2.2.2.2.1, x.2.2.2.2.2.2.2.2.2.2.2.1, x.2.2.2.2.2.2.2.2.2.2.2.2.1, p0))):=by kernel_rfl
theorem q8s {R : Type} (x : tl) (k : tm → Option R) (r : R) (h : q8o x k = some r) : ∃ o, Runs (LE.step X q8m q83 q8h 12) x o ∧ k o = some r := by
  obtain ⟨o, h1, h2⟩ := some_bind h
  exact ⟨q8n x o, small_ok (st := fun (x : tl) => swing_open_L0_st x.2.2.1 x.2.2.2.1 x.2.2.2.2.1 x.2.2.2.2.2.1 x.2.2.2.2.2.2.1 x.2.2.2.2.2.2.2.1 x.2.2.2.2.2.2.2.2.1 x.2.2.2.2.2.2.2.2.2.1 x.2.2.2.2.2.2.2.2.2.2.1 x.2.2.2.2.2.2.2.2.2.2.2.1 x.2.2.2.2.2.2.2.2.2.2.2.2.1) (prj := fun x => (x.1, x.2.1, x.2.2.2.2.2.2.2.2.2.2.2.2.2)) (emb := q8p) (embO := q8n) (fun x => (q8q x).trans (by unfold swing_open_L0_st swing_open_L0_step; simp only [map_cond,map_bindO,map_elim,Option.map_some,Option.map_none]; rfl)) (fun _ _ => rfl) (fun _ _ => rfl) (fun _ _ _ => rfl) (fun _ _ _ => rfl) (fun _ => rfl) (runOf_some.1 h1), by
    first
    | exact h2
    | (rcases o with o <;> exact h2)⟩
noncomputable def q8t {R : Type} : Loops S R := LE.ls X q8m q8o q8h
theorem q8u {R : Type} : LoopsOk X (q8t (R := R)) := loop_ok xok q84 (e := q8m) q8i q8s q8i
theorem q8v (x0 : SgMooring) : evFn X q83 [(.st 9)] [(.st 14)] q8t 12 76 (x0, ()) = swing_open x0:=by kernel_rfl
noncomputable def q8w : F7 S := ⟨[(.st 9)], [(.st 14)], fun xs => swing_open xs.1⟩
theorem q8x : FSOk X 76 q8w := fsOk_eq (evFn_ok xok q84 q8u 12 76) fun xs _ h => (q8v xs.1).trans h
noncomputable def q8y : List (Nat × F7 S) := []
theorem q8z : TabOk X (q8y) := trivial
abbrev q8A {R : Type} : Loops S R := noLoops
theorem q8B {R : Type} : LoopsOk X (q8A (R := R)) := noLoops_ok X
theorem q8C : evFn X q8y [] [(.arr 8 (.st 2))] q8A 12 131 (()) = chart_quarter:=by kernel_rfl
noncomputable def q8D : F7 S := ⟨[], [(.arr 8 (.st 2))], fun xs => chart_quarter⟩
theorem q8E : FSOk X 131 q8D := fsOk_eq (evFn_ok xok q8z q8B 12 131) fun xs _ h => (q8C).trans h
noncomputable def q8F : List (Nat × F7 S) := [(124, qC), (131, q8D)]
theorem q8G : TabOk X (q8F) := ⟨qD, q8E, trivial⟩
abbrev q8H {R : Type} : Loops S R := noLoops
theorem q8I {R : Type} : LoopsOk X (q8H (R := R)) := noLoops_ok X
def q8J : Key := ⟨[112], 112, none, [0, 0, 1, 0, 1, 1, 1], 0, 14⟩
def q8K : StT S := ⟨(N v13 none (N (N L (some (.ptr 9 0)) L) (some (.ptr 0 0)) (N L none (N L vC L)))), (N (N (N L on L) none (N (N L of L) none L)) of L), 14⟩
def q8L : Way S := ⟨(.exit 0), ⟨(N L none (N (N L (some (.ptr 9 0)) L) (some (.ptr 0 0)) L)), (N (N (N L on L) none (N (N L of L) none L)) of L), 15⟩, [(.lst (.int .i64)), (.st 2), (.st 2)]⟩
def q8M : LE S := ⟨q8J, q8K, [.int, .int, (.lst (.int .i64)), (.st 2), (.st 2)], [q8L]⟩
def q8N (x : tG) : Point → ((List Int) × Point × Point) := fun y0 => (x.2.2.1, y0, x.2.2.2.2)
noncomputable def q8O {R : Type} (x : tG) (k : ((List Int) × Point × Point) → Option R) : Option R := (chart_Vector_L0_run x.2.1 x.2.2.1 x.2.2.2.2 (x.1, x.2.2.2.1)).bind (fun y0 => k (x.2.2.1, y0, x.2.2.2.2))
def q8P (x : tG) (v : (Int × Point)) : tG := (v.1, x.2.1, x.2.2.1, v.2, x.2.2.2.2)
theorem q8Q (x : tG) : LE.step X q8M q8F q8H 12 x = chart_Vector_L0_step x.2.1 x.2.2.1 x.2.2.2.2 x.1 x.2.2.2.1 (fun w0 w1 => (Sum.inl (w0, x.2.1, x.2.2.1, w1, x.2.2.2.2))) (fun p0 => (Sum.inr (x.2.2.1, p0, x.2.2.2.2))):=by kernel_rfl
theorem q8S {R : Type} (x : tG) (k : ((List Int) × Point × Point) → Option R) (r : R) (h : q8O x k = some r) : ∃ o, Runs (LE.step X q8M q8F q8H 12) x o ∧ k o = some r := by
  obtain ⟨o, h1, h2⟩ := some_bind h
  exact ⟨q8N x o, small_ok (st := fun (x : tG) => chart_Vector_L0_st x.2.1 x.2.2.1 x.2.2.2.2) (prj := fun x => (x.1, x.2.2.2.1)) (emb := q8P) (embO := q8N) (fun x => (q8Q x).trans (by unfold chart_Vector_L0_st chart_Vector_L0_step; simp only [map_cond,map_bindO,map_elim,Option.map_some,Option.map_none]; rfl)) (fun _ _ => rfl) (fun _ _ => rfl) (fun _ _ _ => rfl) (fun _ _ _ => rfl) (fun _ => rfl) (runOf_some.1 h1), by
    first
    | exact h2
    | (rcases o with o <;> exact h2)⟩
noncomputable def q8T {R : Type} : Loops S R := LE.ls X q8M q8O q8H
theorem q8U {R : Type} : LoopsOk X (q8T (R := R)) := loop_ok xok q8G (e := q8M) q8I q8S q8I
theorem q8V (x0 : Int) : evFn X q8F [(.int .i64)] [(.st 2), (.int .i64)] q8T 12 112 (x0, ()) = chart_Vector x0:=by kernel_rfl
noncomputable def q8W : F7 S := ⟨[(.int .i64)], [(.st 2), (.int .i64)], fun xs => chart_Vector xs.1⟩
theorem q8X : FSOk X 112 q8W := fsOk_eq (evFn_ok xok q8G q8U 12 112) fun xs _ h => (q8V xs.1).trans h
noncomputable def q8Y : List (Nat × F7 S) := [(62, q35), (112, q8W)]
theorem q8Z : TabOk X (q8Y) := ⟨q36, q8X, trivial⟩
abbrev q90 {R : Type} : Loops S R := noLoops
theorem q91 {R : Type} : LoopsOk X (q90 (R := R)) := noLoops_ok X
def q92 : Key := ⟨[77], 77, none, [0, 0, 1, 0, 1, 1, 1, 1, 1, 1], 0, 89⟩
def q93 : StT S := ⟨(N (N (N L none (N L (some (.fn (.func 111) [] [(.ptr 16 0)])) L)) none (N L (some (.ptr 1 0)) L)) none v18), oI, 89⟩
def q94 : Way S := ⟨.ret, ⟨(N L none (N (N (N L vB L) none L) none L)), (N (N (N L of (N L none (N L none (N L none (N L of L))))) ob (N L none o1a)) oa (N (N (N (N L of L) none (N (N L on L) none L)) none (N L none o17)) of (N (N (N L none (N (N (N L of L) none L) none L)) none L) none L))), 163⟩, [.bool, (.st 2), (.st 2), (.st 10), (.lst (.int .i64)), (.st 14), (.st 2), (.lst (.int .i64)), (.lst (.int .i64)), (.st 2), (.st 2)]⟩
def q95 : Way S := ⟨(.exit 0), ⟨L, oI, 93⟩, [(.st 2), (.st 10), (.lst (.int .i64)), (.st 14), (.st 2), (.lst (.int .i64)), (.lst (.int .i64)), (.st 2)]⟩
def q96 : LE S := ⟨q92, q93, [.int, (.st 2), (.st 10), (.lst (.int .i64)), (.st 14), (.st 2), (.lst (.int .i64)), (.lst (.int .i64)), (.st 2)], [q94, q95]⟩
def q97 (x : tn) : ((Bool × Point × Point) ⊕ Unit) → t7 := Sum.elim (fun y0 => (.inl (y0.1, x.2.1, y0.2.1, x.2.2.1, x.2.2.2.1, x.2.2.2.2.1, x.2.2.2.2.2.1, x.2.2.2.2.2.2.1, x.2.2.2.2.2.2.2.1, x.2.2.2.2.2.2.2.2, y0.2.2))) (fun y1 => (.inr (x.2.1, x.2.2.1, x.2.2.2.1, x.2.2.2.2.1, x.2.2.2.2.2.1, x.2.2.2.2.2.2.1, x.2.2.2.2.2.2.2.1, x.2.2.2.2.2.2.2.2)))
noncomputable def q98 {R : Type} (x : tn) (k : t7 → Option R) : Option R := (swing_mooring_lies_L0_run x.2.1 x.2.2.1 x.2.2.2.1 x.2.2.2.2.1 x.2.2.2.2.2.1 x.2.2.2.2.2.2.1 x.2.2.2.2.2.2.2.1 x.2.2.2.2.2.2.2.2 x.1).bind (Sum.elim (fun y0 => k (.inl (y0.1, x.2.1, y0.2.1, x.2.2.1, x.2.2.2.1, x.2.2.2.2.1, x.2.2.2.2.2.1, x.2.2.2.2.2.2.1, x.2.2.2.2.2.2.2.1, x.2.2.2.2.2.2.2.2, y0.2.2))) (fun y1 => k (.inr (x.2.1, x.2.2.1, x.2.2.2.1, x.2.2.2.2.1, x.2.2.2.2.2.1, x.2.2.2.2.2.2.1, x.2.2.2.2.2.2.2.1, x.2.2.2.2.2.2.2.2))))
def q99 (x : tn) (v : Int) : tn := (v, x.2.1, x.2.2.1, x.2.2.2.1, x.2.2.2.2.1, x.2.2.2.2.2.1, x.2.2.2.2.2.2.1, x.2.2.2.2.2.2.2.1, x.2.2.2.2.2.2.2.2)
theorem q9a (x : tn) : LE.step X q96 q8Y q90 12 x = swing_mooring_lies_L0_step x.2.1 x.2.2.1 x.2.2.2.1 x.2.2.2.2.1 x.2.2.2.2.2.1 x.2.2.2.2.2.2.1 x.2.2.2.2.2.2.2.1 x.2.2.2.2.2.2.2.2 x.1 (fun w0 => (Sum.inl (w0, x.2.1, x.2.2.1, x.2.2.2.1, x.2.2.2.2.1, x.2.2.2.2.2.1, x.2.2.2.2.2.2.1, x.2.2.2.2.2.2.2.1, x.2.2.2.2.2.2.2.2))) (fun p0 p1 p2 => (Sum.inr (.inl (p0, x.2.1, p1, x.2.2.1, x.2.2.2.1, x.2.2.2.2.1, x.2.2.2.2.2.1, x.2.2.2.2.2.2.1, x.2.2.2.2.2.2.2.1, x.2.2.2.2.2.2.2.2, p2)))) (Sum.inr (.inr (x.2.1, x.2.2.1, x.2.2.2.1, x.2.2.2.2.1, x.2.2.2.2.2.1, x.2.2.2.2.2.2.1, x.2.2.2.2.2.2.2.1, x.2.2.2.2.2.2.2.2))):=by kernel_rfl
theorem q9c {R : Type} (x : tn) (k : t7 → Option R) (r : R) (h : q98 x k = some r) : ∃ o, Runs (LE.step X q96 q8Y q90 12) x o ∧ k o = some r := by
  obtain ⟨o, h1, h2⟩ := some_bind h
  exact ⟨q97 x o, small_ok (st := fun (x : tn) => swing_mooring_lies_L0_st x.2.1 x.2.2.1 x.2.2.2.1 x.2.2.2.2.1 x.2.2.2.2.2.1 x.2.2.2.2.2.2.1 x.2.2.2.2.2.2.2.1 x.2.2.2.2.2.2.2.2) (prj := fun x => x.1) (emb := q99) (embO := q97) (fun x => (q9a x).trans (by unfold swing_mooring_lies_L0_st swing_mooring_lies_L0_step; simp only [map_cond,map_bindO,map_elim,Option.map_some,Option.map_none]; rfl)) (fun _ _ => rfl) (fun _ _ => rfl) (fun _ _ _ => rfl) (fun _ _ _ => rfl) (fun _ => rfl) (runOf_some.1 h1), by
    first
    | exact h2
    | (rcases o with o | o <;> exact h2)⟩
noncomputable def q9d {R : Type} : Loops S R := LE.ls X q96 q98 q90
theorem q9e {R : Type} : LoopsOk X (q9d (R := R)) := loop_ok xok q8Z (e := q96) q91 q9c q91
theorem q9f (x0 : swing_mooring) (x1 : SgLook) (x2 : Point) (x3 : Point) : evFn X q8Y [(.st 14), (.st 10), (.st 2), (.st 2)] [.bool] q9d 12 77 (x0, x1, x2, x3, ()) = swing_mooring_lies x0 x1 x2 x3:=by kernel_rfl
noncomputable def q9g : F7 S := ⟨[(.st 14), (.st 10), (.st 2), (.st 2)], [.bool], fun xs => swing_mooring_lies xs.1 xs.2.1 xs.2.2.1 xs.2.2.2.1⟩
theorem q9h : FSOk X 77 q9g := fsOk_eq (evFn_ok xok q8Z q9e 12 77) fun xs _ h => (q9f xs.1 xs.2.1 xs.2.2.1 xs.2.2.2.1).trans h
noncomputable def q9i : List (Nat × F7 S) := [(77, q9g)]
theorem q9j : TabOk X (q9i) := ⟨q9h, trivial⟩
abbrev q9k {R : Type} : Loops S R := noLoops
theorem q9l {R : Type} : LoopsOk X (q9k (R := R)) := noLoops_ok X
def q9m : Key := ⟨[108, 2, 11, 5, 7, 108, 0, 107], 108, none, [0, 0, 1, 0, 0, 1, 0, 0, 1, 1], 2, 64⟩
def q9n : StT S := ⟨(N (N (N L vC L) (some (.ptr 45 0)) (N L vC L)) (some (.yld 49)) (N (N L vC L) none L)), oG, 64⟩
def q9o : Way S := ⟨.ret, ⟨L, oD, 98⟩, [(.st 6), (.st 10), (.st 14), (.st 10), (.st 10), .int, (.st 14), .int, .int, (.st 6), (.st 14), (.st 2), (.st 2), (.arr (.int .u64)), .int]⟩
def q9p : Way S := ⟨(.exit 2), ⟨vS, oG, 69⟩, [.int, .int, (.st 6), (.st 10), (.st 14), (.st 10), (.st 10), .int, (.st 14), .int, .int, (.st 6), (.st 14), (.st 2), (.arr (.int .u64)), .int]⟩
def q9q : LE S := ⟨q9m, q9n, [.int, .int, .int, (.st 6), (.st 10), (.st 14), (.st 10), (.st 10), .int, (.st 14), .int, .int, (.st 6), (.st 14), (.st 2), (.arr (.int .u64)), .int], [q9o, q9p]⟩
def q9r (x : ta) : ((Point × (Nat → Int)) ⊕ Int) → t2 := Sum.elim (fun y0 => (.inl (x.2.2.2.1, x.2.2.2.2.1, x.2.2.2.2.2.1, x.2.2.2.2.2.2.1, x.2.2.2.2.2.2.2.1, x.2.2.2.2.2.2.2.2.1, x.2.2.2.2.2.2.2.2.2.1, x.2.2.2.2.2.2.2.2.2.2.1, x.2.2.2.2.2.2.2.2.2.2.2.1, x.2.2.2.2.2.2.2.2.2.2.2.2.1, x.2.2.2.2.2.2.2.2.2.2.2.2.2.1, x.2.2.2.2.2.2.2.2.2.2.2.2.2.2.1, y0.1, y0.2, x.2.2.2.2.2.2.2.2.2.2.2.2.2.2.2.2))) (fun y1 => (.inr (y1, x.2.2.1, x.2.2.2.1, x.2.2.2.2.1, x.2.2.2.2.2.1, x.2.2.2.2.2.2.1, x.2.2.2.2.2.2.2.1, x.2.2.2.2.2.2.2.2.1, x.2.2.2.2.2.2.2.2.2.1, x.2.2.2.2.2.2.2.2.2.2.1, x.2.2.2.2.2.2.2.2.2.2.2.1, x.2.2.2.2.2.2.2.2.2.2.2.2.1, x.2.2.2.2.2.2.2.2.2.2.2.2.2.1, x.2.2.2.2.2.2.2.2.2.2.2.2.2.2.1, x.2.2.2.2.2.2.2.2.2.2.2.2.2.2.2.1, x.2.2.2.2.2.2.2.2.2.2.2.2.2.2.2.2)))
noncomputable def q9s {R : Type} (x : ta) (k : t2 → Option R) : Option R := (swing_mooring_held_L3_run x.2.2.1 x.2.2.2.1 x.2.2.2.2.1 x.2.2.2.2.2.1 x.2.2.2.2.2.2.1 x.2.2.2.2.2.2.2.1 x.2.2.2.2.2.2.2.2.1 x.2.2.2.2.2.2.2.2.2.1 x.2.2.2.2.2.2.2.2.2.2.1 x.2.2.2.2.2.2.2.2.2.2.2.1 x.2.2.2.2.2.2.2.2.2.2.2.2.1 x.2.2.2.2.2.2.2.2.2.2.2.2.2.1 x.2.2.2.2.2.2.2.2.2.2.2.2.2.2.1 x.2.2.2.2.2.2.2.2.2.2.2.2.2.2.2.1 x.2.2.2.2.2.2.2.2.2.2.2.2.2.2.2.2 (x.1, x.2.1)).bind (Sum.elim (fun y0 => k (.inl (x.2.2.2.1, x.2.2.2.2.1, x.2.2.2.2.2.1, x.2.2.2.2.2.2.1, x.2.2.2.2.2.2.2.1, x.2.2.2.2.2.2.2.2.1, x.2.2.2.2.2.2.2.2.2.1, x.2.2.2.2.2.2.2.2.2.2.1, x.2.2.2.2.2.2.2.2.2.2.2.1, x.2.2.2.2.2.2.2.2.2.2.2.2.1, x.2.2.2.2.2.2.2.2.2.2.2.2.2.1, x.2.2.2.2.2.2.2.2.2.2.2.2.2.2.1, y0.1, y0.2, x.2.2.2.2.2.2.2.2.2.2.2.2.2.2.2.2))) (fun y1 => k (.inr (y1, x.2.2.1, x.2.2.2.1, x.2.2.2.2.1, x.2.2.2.2.2.1, x.2.2.2.2.2.2.1, x.2.2.2.2.2.2.2.1, x.2.2.2.2.2.2.2.2.1, x.2.2.2.2.2.2.2.2.2.1, x.2.2.2.2.2.2.2.2.2.2.1, x.2.2.2.2.2.2.2.2.2.2.2.1, x.2.2.2.2.2.2.2.2.2.2.2.2.1, x.2.2.2.2.2.2.2.2.2.2.2.2.2.1, x.2.2.2.2.2.2.2.2.2.2.2.2.2.2.1, x.2.2.2.2.2.2.2.2.2.2.2.2.2.2.2.1, x.2.2.2.2.2.2.2.2.2.2.2.2.2.2.2.2))))
def q9t (x : ta) (v : (Int × Int)) : ta := (v.1, v.2, x.2.2.1, x.2.2.2.1, x.2.2.2.2.1, x.2.2.2.2.2.1, x.2.2.2.2.2.2.1, x.2.2.2.2.2.2.2.1, x.2.2.2.2.2.2.2.2.1, x.2.2.2.2.2.2.2.2.2.1, x.2.2.2.2.2.2.2.2.2.2.1, x.2.2.2.2.2.2.2.2.2.2.2.1, x.2.2.2.2.2.2.2.2.2.2.2.2.1, x.2.2.2.2.2.2.2.2.2.2.2.2.2.1, x.2.2.2.2.2.2.2.2.2.2.2.2.2.2.1, x.2.2.2.2.2.2.2.2.2.2.2.2.2.2.2.1, x.2.2.2.2.2.2.2.2.2.2.2.2.2.2.2.2)
theorem q9u (x : ta) : LE.step X q9q q9i q9k 12 x = swing_mooring_held_L3_step x.2.2.1 x.2.2.2.1 x.2.2.2.2.1 x.2.2.2.2.2.1 x.2.2.2.2.2.2.1 x.2.2.2.2.2.2.2.1 x.2.2.2.2.2.2.2.2.1 x.2.2.2.2.2.2.2.2.2.1 x.2.2.2.2.2.2.2.2.2.2.1 x.2.2.2.2.2.2.2.2.2.2.2.1 x.2.2.2.2.2.2.2.2.2.2.2.2.1 x.2.2.2.2.2.2.2.2.2.2.2.2.2.1 x.2.2.2.2.2.2.2.2.2.2.2.2.2.2.1 x.2.2.2.2.2.2.2.2.2.2.2.2.2.2.2.1 x.2.2.2.2.2.2.2.2.2.2.2.2.2.2.2.2 x.1 x.2.1 (fun w0 w1 => (Sum.inl (w0, w1, x.2.2.1, x.2.2.2.1, x.2.2.2.2.1, x.2.2.2.2.2.1, x.2.2.2.2.2.2.1, x.2.2.2.2.2.2.2.1, x.2.2.2.2.2.2.2.2.1, x.2.2.2.2.2.2.2.2.2.1, x.2.2.2.2.2.2.2.2.2.2.1, x.2.2.2.2.2.2.2.2.2.2.2.1, x.2.2.2.2.2.2.2.2.2.2.2.2.1, x.2.2.2.2.2.2.2.2.2.2.2.2.2.1, x.2.2.2.2.2.2.2.2.2.2.2.2.2.2.1, x.2.2.2.2.2.2.2.2.2.2.2.2.2.2.2.1, x.2.2.2.2.2.2.2.2.2.2.2.2.2.2.2.2))) (fun p0 p1 => (Sum.inr (.inl (x.2.2.2.1, x.2.2.2.2.1, x.2.2.2.2.2.1, x.2.2.2.2.2.2.1, x.2.2.2.2.2.2.2.1, x.2.2.2.2.2.2.2.2.1, x.2.2.2.2.2.2.2.2.2.1, x.2.2.2.2.2.2.2.2.2.2.1, x.2.2.2.2.2.2.2.2.2.2.2.1, x.2.2.2.2.2.2.2.2.2.2.2.2.1, x.2.2.2.2.2.2.2.2.2.2.2.2.2.1, x.2.2.2.2.2.2.2.2.2.2.2.2.2.2.1, p0, p1, x.2.2.2.2.2.2.2.2.2.2.2.2.2.2.2.2)))) (fun p0 => (Sum.inr (.inr (p0, x.2.2.1, x.2.2.2.1, x.2.2.2.2.1, x.2.2.2.2.2.1, x.2.2.2.2.2.2.1, x.2.2.2.2.2.2.2.1, x.2.2.2.2.2.2.2.2.1, x.2.2.2.2.2.2.2.2.2.1, x.2.2.2.2.2.2.2.2.2.2.1, x.2.2.2.2.2.2.2.2.2.2.2.1, x.2.2.2.2.2.2.2.2.2.2.2.2.1, x.2.2.2.2.2.2.2.2.2.2.2.2.2.1, x.2.2.2.2.2.2.2.2.2.2.2.2.2.2.1, x.2.2.2.2.2.2.2.2.2.2.2.2.2.2.2.1, x.2.2.2.2.2.2.2.2.2.2.2.2.2.2.2.2)))):=by kernel_rfl
theorem q9w {R : Type} (x : ta) (k : t2 → Option R) (r : R) (h : q9s x k = some r) : ∃ o, Runs (LE.step X q9q q9i q9k 12) x o ∧ k o = some r := by
  obtain ⟨o, h1, h2⟩ := some_bind h
  exact ⟨q9r x o, small_ok (st := fun (x : ta) => swing_mooring_held_L3_st x.2.2.1 x.2.2.2.1 x.2.2.2.2.1 x.2.2.2.2.2.1 x.2.2.2.2.2.2.1 x.2.2.2.2.2.2.2.1 x.2.2.2.2.2.2.2.2.1 x.2.2.2.2.2.2.2.2.2.1 x.2.2.2.2.2.2.2.2.2.2.1 x.2.2.2.2.2.2.2.2.2.2.2.1 x.2.2.2.2.2.2.2.2.2.2.2.2.1 x.2.2.2.2.2.2.2.2.2.2.2.2.2.1 x.2.2.2.2.2.2.2.2.2.2.2.2.2.2.1 x.2.2.2.2.2.2.2.2.2.2.2.2.2.2.2.1 x.2.2.2.2.2.2.2.2.2.2.2.2.2.2.2.2) (prj := fun x => (x.1, x.2.1)) (emb := q9t) (embO := q9r) (fun x => (q9u x).trans (by unfold swing_mooring_held_L3_st swing_mooring_held_L3_step; simp only [map_cond,map_bindO,map_elim,Option.map_some,Option.map_none]; rfl)) (fun _ _ => rfl) (fun _ _ => rfl) (fun _ _ _ => rfl) (fun _ _ _ => rfl) (fun _ => rfl) (runOf_some.1 h1), by
    first
    | exact h2
    | (rcases o with o | o <;> exact h2)⟩
noncomputable def q9x {R : Type} : Loops S R := LE.ls X q9q q9s q9k
theorem q9y {R : Type} : LoopsOk X (q9x (R := R)) := loop_ok xok q9j (e := q9q) q9l q9w q9l
def q9z : Key := ⟨[108, 2, 11, 5, 7, 108, 0, 107], 108, none, [0, 0, 1, 1], 0, 55⟩
def q9A : StT S := ⟨vS, oG, 55⟩
def q9B : Way S := ⟨.ret, ⟨L, oD, 98⟩, [(.st 6), (.st 10), (.st 14), (.st 10), (.st 10), .int, (.st 14), .int, .int, (.st 6), (.st 14), (.st 2), (.st 2), (.arr (.int .u64)), .int]⟩
def q9C : Way S := ⟨(.exit 0), ⟨L, oG, 60⟩, [(.st 6), (.st 10), (.st 14), (.st 10), (.st 10), .int, (.st 14), .int, .int, (.st 6), (.st 14), (.st 2), (.arr (.int .u64)), .int]⟩
def q9D : LE S := ⟨q9z, q9A, [.int, .int, (.st 6), (.st 10), (.st 14), (.st 10), (.st 10), .int, (.st 14), .int, .int, (.st 6), (.st 14), (.st 2), (.arr (.int .u64)), .int], [q9B, q9C]⟩
def q9E (x : tb) : ((Point × (Nat → Int)) ⊕ Unit) → t3 := Sum.elim (fun y0 => (.inl (x.2.2.1, x.2.2.2.1, x.2.2.2.2.1, x.2.2.2.2.2.1, x.2.2.2.2.2.2.1, x.2.2.2.2.2.2.2.1, x.2.2.2.2.2.2.2.2.1, x.2.2.2.2.2.2.2.2.2.1, x.2.2.2.2.2.2.2.2.2.2.1, x.2.2.2.2.2.2.2.2.2.2.2.1, x.2.2.2.2.2.2.2.2.2.2.2.2.1, x.2.2.2.2.2.2.2.2.2.2.2.2.2.1, y0.1, y0.2, x.2.2.2.2.2.2.2.2.2.2.2.2.2.2.2))) (fun y1 => (.inr (x.2.2.1, x.2.2.2.1, x.2.2.2.2.1, x.2.2.2.2.2.1, x.2.2.2.2.2.2.1, x.2.2.2.2.2.2.2.1, x.2.2.2.2.2.2.2.2.1, x.2.2.2.2.2.2.2.2.2.1, x.2.2.2.2.2.2.2.2.2.2.1, x.2.2.2.2.2.2.2.2.2.2.2.1, x.2.2.2.2.2.2.2.2.2.2.2.2.1, x.2.2.2.2.2.2.2.2.2.2.2.2.2.1, x.2.2.2.2.2.2.2.2.2.2.2.2.2.2.1, x.2.2.2.2.2.2.2.2.2.2.2.2.2.2.2)))
noncomputable def q9F {R : Type} (x : tb) (k : t3 → Option R) : Option R := (swing_mooring_held_L2_run x.2.2.1 x.2.2.2.1 x.2.2.2.2.1 x.2.2.2.2.2.1 x.2.2.2.2.2.2.1 x.2.2.2.2.2.2.2.1 x.2.2.2.2.2.2.2.2.1 x.2.2.2.2.2.2.2.2.2.1 x.2.2.2.2.2.2.2.2.2.2.1 x.2.2.2.2.2.2.2.2.2.2.2.1 x.2.2.2.2.2.2.2.2.2.2.2.2.1 x.2.2.2.2.2.2.2.2.2.2.2.2.2.1 x.2.2.2.2.2.2.2.2.2.2.2.2.2.2.1 x.2.2.2.2.2.2.2.2.2.2.2.2.2.2.2 (x.1, x.2.1)).bind (Sum.elim (fun y0 => k (.inl (x.2.2.1, x.2.2.2.1, x.2.2.2.2.1, x.2.2.2.2.2.1, x.2.2.2.2.2.2.1, x.2.2.2.2.2.2.2.1, x.2.2.2.2.2.2.2.2.1, x.2.2.2.2.2.2.2.2.2.1, x.2.2.2.2.2.2.2.2.2.2.1, x.2.2.2.2.2.2.2.2.2.2.2.1, x.2.2.2.2.2.2.2.2.2.2.2.2.1, x.2.2.2.2.2.2.2.2.2.2.2.2.2.1, y0.1, y0.2, x.2.2.2.2.2.2.2.2.2.2.2.2.2.2.2))) (fun y1 => k (.inr (x.2.2.1, x.2.2.2.1, x.2.2.2.2.1, x.2.2.2.2.2.1, x.2.2.2.2.2.2.1, x.2.2.2.2.2.2.2.1, x.2.2.2.2.2.2.2.2.1, x.2.2.2.2.2.2.2.2.2.1, x.2.2.2.2.2.2.2.2.2.2.1, x.2.2.2.2.2.2.2.2.2.2.2.1, x.2.2.2.2.2.2.2.2.2.2.2.2.1, x.2.2.2.2.2.2.2.2.2.2.2.2.2.1, x.2.2.2.2.2.2.2.2.2.2.2.2.2.2.1, x.2.2.2.2.2.2.2.2.2.2.2.2.2.2.2))))
def q9G (x : tb) (v : (Int × Int)) : tb := (v.1, v.2, x.2.2.1, x.2.2.2.1, x.2.2.2.2.1, x.2.2.2.2.2.1, x.2.2.2.2.2.2.1, x.2.2.2.2.2.2.2.1, x.2.2.2.2.2.2.2.2.1, x.2.2.2.2.2.2.2.2.2.1, x.2.2.2.2.2.2.2.2.2.2.1, x.2.2.2.2.2.2.2.2.2.2.2.1, x.2.2.2.2.2.2.2.2.2.2.2.2.1, x.2.2.2.2.2.2.2.2.2.2.2.2.2.1, x.2.2.2.2.2.2.2.2.2.2.2.2.2.2.1, x.2.2.2.2.2.2.2.2.2.2.2.2.2.2.2)
theorem q9H (x : tb) : LE.step X q9D q9i q9x 12 x = swing_mooring_held_L2_step x.2.2.1 x.2.2.2.1 x.2.2.2.2.1 x.2.2.2.2.2.1 x.2.2.2.2.2.2.1 x.2.2.2.2.2.2.2.1 x.2.2.2.2.2.2.2.2.1 x.2.2.2.2.2.2.2.2.2.1 x.2.2.2.2.2.2.2.2.2.2.1 x.2.2.2.2.2.2.2.2.2.2.2.1 x.2.2.2.2.2.2.2.2.2.2.2.2.1 x.2.2.2.2.2.2.2.2.2.2.2.2.2.1 x.2.2.2.2.2.2.2.2.2.2.2.2.2.2.1 x.2.2.2.2.2.2.2.2.2.2.2.2.2.2.2 x.1 x.2.1 (fun w0 w1 => (Sum.inl (w0, w1, x.2.2.1, x.2.2.2.1, x.2.2.2.2.1, x.2.2.2.2.2.1, x.2.2.2.2.2.2.1, x.2.2.2.2.2.2.2.1, x.2.2.2.2.2.2.2.2.1, x.2.2.2.2.2.2.2.2.2.1, x.2.2.2.2.2.2.2.2.2.2.1, x.2.2.2.2.2.2.2.2.2.2.2.1, x.2.2.2.2.2.2.2.2.2.2.2.2.1, x.2.2.2.2.2.2.2.2.2.2.2.2.2.1, x.2.2.2.2.2.2.2.2.2.2.2.2.2.2.1, x.2.2.2.2.2.2.2.2.2.2.2.2.2.2.2))) (fun p0 p1 => (Sum.inr (.inl (x.2.2.1, x.2.2.2.1, x.2.2.2.2.1, x.2.2.2.2.2.1, x.2.2.2.2.2.2.1, x.2.2.2.2.2.2.2.1, x.2.2.2.2.2.2.2.2.1, x.2.2.2.2.2.2.2.2.2.1, x.2.2.2.2.2.2.2.2.2.2.1, x.2.2.2.2.2.2.2.2.2.2.2.1, x.2.2.2.2.2.2.2.2.2.2.2.2.1, x.2.2.2.2.2.2.2.2.2.2.2.2.2.1, p0, p1, x.2.2.2.2.2.2.2.2.2.2.2.2.2.2.2)))) (Sum.inr (.inr (x.2.2.1, x.2.2.2.1, x.2.2.2.2.1, x.2.2.2.2.2.1, x.2.2.2.2.2.2.1, x.2.2.2.2.2.2.2.1, x.2.2.2.2.2.2.2.2.1, x.2.2.2.2.2.2.2.2.2.1, x.2.2.2.2.2.2.2.2.2.2.1, x.2.2.2.2.2.2.2.2.2.2.2.1, x.2.2.2.2.2.2.2.2.2.2.2.2.1, x.2.2.2.2.2.2.2.2.2.2.2.2.2.1, x.2.2.2.2.2.2.2.2.2.2.2.2.2.2.1, x.2.2.2.2.2.2.2.2.2.2.2.2.2.2.2))):=by kernel_rfl
theorem q9J {R : Type} (x : tb) (k : t3 → Option R) (r : R) (h : q9F x k = some r) : ∃ o, Runs (LE.step X q9D q9i q9x 12) x o ∧ k o = some r := by
  obtain ⟨o, h1, h2⟩ := some_bind h
  exact ⟨q9E x o, small_ok (st := fun (x : tb) => swing_mooring_held_L2_st x.2.2.1 x.2.2.2.1 x.2.2.2.2.1 x.2.2.2.2.2.1 x.2.2.2.2.2.2.1 x.2.2.2.2.2.2.2.1 x.2.2.2.2.2.2.2.2.1 x.2.2.2.2.2.2.2.2.2.1 x.2.2.2.2.2.2.2.2.2.2.1 x.2.2.2.2.2.2.2.2.2.2.2.1 x.2.2.2.2.2.2.2.2.2.2.2.2.1 x.2.2.2.2.2.2.2.2.2.2.2.2.2.1 x.2.2.2.2.2.2.2.2.2.2.2.2.2.2.1 x.2.2.2.2.2.2.2.2.2.2.2.2.2.2.2) (prj := fun x => (x.1, x.2.1)) (emb := q9G) (embO := q9E) (fun x => (q9H x).trans (by unfold swing_mooring_held_L2_st swing_mooring_held_L2_step; simp only [map_cond,map_bindO,map_elim,Option.map_some,Option.map_none]; rfl)) (fun _ _ => rfl) (fun _ _ => rfl) (fun _ _ _ => rfl) (fun _ _ _ => rfl) (fun _ => rfl) (runOf_some.1 h1), by
    first
    | exact h2
    | (rcases o with o | o <;> exact h2)⟩
noncomputable def q9K {R : Type} : Loops S R := LE.ls X q9D q9F q9x
theorem q9L {R : Type} : LoopsOk X (q9K (R := R)) := loop_ok xok q9j (e := q9D) q9y q9J q9y
def q9M : Key := ⟨[108, 0, 107], 108, none, [0, 0, 1, 0, 0, 1, 0, 0, 1, 1], 2, 26⟩
def q9N : StT S := ⟨(N (N (N L vC L) (some (.ptr 7 0)) (N L vC L)) (some (.yld 11)) (N (N L vC L) none L)), oZ, 26⟩
def q9O : Way S := ⟨(.exit 2), ⟨vV, oZ, 31⟩, [.int, .int, (.st 6), (.st 10), (.st 14), (.st 10), (.st 14), (.arr (.int .u64))]⟩
def q9P : LE S := ⟨q9M, q9N, [.int, .int, .int, (.st 6), (.st 10), (.st 14), (.st 10), (.st 14), (.arr (.int .u64))], [q9O]⟩
def q9Q (x : to) : (Int × (Nat → Int)) → tq := fun y0 => (y0.1, x.2.2.1, x.2.2.2.1, x.2.2.2.2.1, x.2.2.2.2.2.1, x.2.2.2.2.2.2.1, x.2.2.2.2.2.2.2.1, y0.2)
noncomputable def q9R {R : Type} (x : to) (k : tq → Option R) : Option R := (swing_mooring_held_L1_run x.2.2.1 x.2.2.2.1 x.2.2.2.2.1 x.2.2.2.2.2.1 x.2.2.2.2.2.2.1 x.2.2.2.2.2.2.2.1 (x.1, x.2.1, x.2.2.2.2.2.2.2.2)).bind (fun y0 => k (y0.1, x.2.2.1, x.2.2.2.1, x.2.2.2.2.1, x.2.2.2.2.2.1, x.2.2.2.2.2.2.1, x.2.2.2.2.2.2.2.1, y0.2))
def q9S (x : to) (v : (Int × Int × (Nat → Int))) : to := (v.1, v.2.1, x.2.2.1, x.2.2.2.1, x.2.2.2.2.1, x.2.2.2.2.2.1, x.2.2.2.2.2.2.1, x.2.2.2.2.2.2.2.1, v.2.2)
theorem q9T (x : to) : LE.step X q9P q9i q9K 12 x = swing_mooring_held_L1_step x.2.2.1 x.2.2.2.1 x.2.2.2.2.1 x.2.2.2.2.2.1 x.2.2.2.2.2.2.1 x.2.2.2.2.2.2.2.1 x.1 x.2.1 x.2.2.2.2.2.2.2.2 (fun w0 w1 w2 => (Sum.inl (w0, w1, x.2.2.1, x.2.2.2.1, x.2.2.2.2.1, x.2.2.2.2.2.1, x.2.2.2.2.2.2.1, x.2.2.2.2.2.2.2.1, w2))) (fun p0 p1 => (Sum.inr (p0, x.2.2.1, x.2.2.2.1, x.2.2.2.2.1, x.2.2.2.2.2.1, x.2.2.2.2.2.2.1, x.2.2.2.2.2.2.2.1, p1))):=by kernel_rfl
theorem q9V {R : Type} (x : to) (k : tq → Option R) (r : R) (h : q9R x k = some r) : ∃ o, Runs (LE.step X q9P q9i q9K 12) x o ∧ k o = some r := by
  obtain ⟨o, h1, h2⟩ := some_bind h
  exact ⟨q9Q x o, small_ok (st := fun (x : to) => swing_mooring_held_L1_st x.2.2.1 x.2.2.2.1 x.2.2.2.2.1 x.2.2.2.2.2.1 x.2.2.2.2.2.2.1 x.2.2.2.2.2.2.2.1) (prj := fun x => (x.1, x.2.1, x.2.2.2.2.2.2.2.2)) (emb := q9S) (embO := q9Q) (fun x => (q9T x).trans (by unfold swing_mooring_held_L1_st swing_mooring_held_L1_step; simp only [map_cond,map_bindO,map_elim,Option.map_some,Option.map_none]; rfl)) (fun _ _ => rfl) (fun _ _ => rfl) (fun _ _ _ => rfl) (fun _ _ _ => rfl) (fun _ => rfl) (runOf_some.1 h1), by
    first
    | exact h2
    | (rcases o with o <;> exact h2)⟩
noncomputable def q9W {R : Type} : Loops S R := LE.ls X q9P q9R q9K
theorem q9X {R : Type} : LoopsOk X (q9W (R := R)) := loop_ok xok q9j (e := q9P) q9L q9V q9L
def q9Y : Key := ⟨[108, 0, 107], 108, none, [0, 0, 1, 1], 0, 17⟩
def q9Z : StT S := ⟨vV, oZ, 17⟩
def qa0 : Way S := ⟨(.exit 0), ⟨L, oZ, 22⟩, [(.st 6), (.st 10), (.st 14), (.st 10), (.st 14), (.arr (.int .u64))]⟩
def qa1 : LE S := ⟨q9Y, q9Z, [.int, .int, (.st 6), (.st 10), (.st 14), (.st 10), (.st 14), (.arr (.int .u64))], [qa0]⟩
def qa2 (x : tq) : (Nat → Int) → tt := fun y0 => (x.2.2.1, x.2.2.2.1, x.2.2.2.2.1, x.2.2.2.2.2.1, x.2.2.2.2.2.2.1, y0)
noncomputable def qa3 {R : Type} (x : tq) (k : tt → Option R) : Option R := (swing_mooring_held_L0_run x.2.2.1 x.2.2.2.1 x.2.2.2.2.1 x.2.2.2.2.2.1 x.2.2.2.2.2.2.1 (x.1, x.2.1, x.2.2.2.2.2.2.2)).bind (fun y0 => k (x.2.2.1, x.2.2.2.1, x.2.2.2.2.1, x.2.2.2.2.2.1, x.2.2.2.2.2.2.1, y0))
def qa4 (x : tq) (v : (Int × Int × (Nat → Int))) : tq := (v.1, v.2.1, x.2.2.1, x.2.2.2.1, x.2.2.2.2.1, x.2.2.2.2.2.1, x.2.2.2.2.2.2.1, v.2.2)
theorem qa5 (x : tq) : LE.step X qa1 q9i q9W 12 x = swing_mooring_held_L0_step x.2.2.1 x.2.2.2.1 x.2.2.2.2.1 x.2.2.2.2.2.1 x.2.2.2.2.2.2.1 x.1 x.2.1 x.2.2.2.2.2.2.2 (fun w0 w1 w2 => (Sum.inl (w0, w1, x.2.2.1, x.2.2.2.1, x.2.2.2.2.1, x.2.2.2.2.2.1, x.2.2.2.2.2.2.1, w2))) (fun p0 => (Sum.inr (x.2.2.1, x.2.2.2.1, x.2.2.2.2.1, x.2.2.2.2.2.1, x.2.2.2.2.2.2.1, p0))):=by kernel_rfl
theorem qa7 {R : Type} (x : tq) (k : tt → Option R) (r : R) (h : qa3 x k = some r) : ∃ o, Runs (LE.step X qa1 q9i q9W 12) x o ∧ k o = some r := by
  obtain ⟨o, h1, h2⟩ := some_bind h
  exact ⟨qa2 x o, small_ok (st := fun (x : tq) => swing_mooring_held_L0_st x.2.2.1 x.2.2.2.1 x.2.2.2.2.1 x.2.2.2.2.2.1 x.2.2.2.2.2.2.1) (prj := fun x => (x.1, x.2.1, x.2.2.2.2.2.2.2)) (emb := qa4) (embO := qa2) (fun x => (qa5 x).trans (by unfold swing_mooring_held_L0_st swing_mooring_held_L0_step; simp only [map_cond,map_bindO,map_elim,Option.map_some,Option.map_none]; rfl)) (fun _ _ => rfl) (fun _ _ => rfl) (fun _ _ _ => rfl) (fun _ _ _ => rfl) (fun _ => rfl) (runOf_some.1 h1), by
    first
    | exact h2
    | (rcases o with o <;> exact h2)⟩
noncomputable def qa8 {R : Type} : Loops S R := LE.ls X qa1 qa3 q9W
theorem qa9 {R : Type} : LoopsOk X (qa8 (R := R)) := loop_ok xok q9j (e := qa1) q9X qa7 q9X
theorem qaa (x0 : swing_mooring) (x1 : SgLook) : evFn X q9i [(.st 14), (.st 10)] [(.arr 5 (.int .u64))] qa8 12 107 (x0, x1, ()) = swing_mooring_held x0 x1:=by kernel_rfl
noncomputable def qab : F7 S := ⟨[(.st 14), (.st 10)], [(.arr 5 (.int .u64))], fun xs => swing_mooring_held xs.1 xs.2.1⟩
theorem qac : FSOk X 107 qab := fsOk_eq (evFn_ok xok q9j qa9 12 107) fun xs _ h => (qaa xs.1 xs.2.1).trans h
noncomputable def qad : List (Nat × F7 S) := [(19, q7A), (76, q8w), (107, qab)]
theorem qae : TabOk X (qad) := ⟨q7B, q8x, qac, trivial⟩
abbrev qaf {R : Type} : Loops S R := noLoops
theorem qag {R : Type} : LoopsOk X (qaf (R := R)) := noLoops_ok X
def qah : Key := ⟨[70], 70, none, [0, 0, 1, 0, 1, 1, 1], 0, 19⟩
def qai : StT S := ⟨(N (N v18 none (N L (some (.rs 19 0)) (N (N L vz L) none L))) none (N (N L (some (.ptr 1 0)) L) none v16)), oP, 20⟩
def qaj : Way S := ⟨(.exit 0), ⟨(N (N L none (N L (some (.rs 19 0)) L)) none (N (N L (some (.ptr 1 0)) L) none L)), oP, 21⟩, [(.lst (.arr 5 (.int .u64))), (.st 14), (.st 9)]⟩
def qak : LE S := ⟨qah, qai, [.int, (.lst (.st 10)), .int, (.lst (.arr 5 (.int .u64))), (.st 14), (.st 9)], [qaj]⟩
def qal (x : tr) : (List (Nat → Int)) → tE := fun y0 => (y0, x.2.2.2.2.1, x.2.2.2.2.2)
noncomputable def qam {R : Type} (x : tr) (k : tE → Option R) : Option R := (swing_enter_L0_run x.2.1 x.2.2.1 x.2.2.2.2.1 x.2.2.2.2.2 (x.1, x.2.2.2.1)).bind (fun y0 => k (y0, x.2.2.2.2.1, x.2.2.2.2.2))
def qan (x : tr) (v : (Int × (List (Nat → Int)))) : tr := (v.1, x.2.1, x.2.2.1, v.2, x.2.2.2.2.1, x.2.2.2.2.2)
theorem qao (x : tr) : LE.step X qak qad qaf 12 x = swing_enter_L0_step x.2.1 x.2.2.1 x.2.2.2.2.1 x.2.2.2.2.2 x.1 x.2.2.2.1 (fun w0 w1 => (Sum.inl (w0, x.2.1, x.2.2.1, w1, x.2.2.2.2.1, x.2.2.2.2.2))) (fun p0 => (Sum.inr (p0, x.2.2.2.2.1, x.2.2.2.2.2))):=by kernel_rfl
theorem qaq {R : Type} (x : tr) (k : tE → Option R) (r : R) (h : qam x k = some r) : ∃ o, Runs (LE.step X qak qad qaf 12) x o ∧ k o = some r := by
  obtain ⟨o, h1, h2⟩ := some_bind h
  exact ⟨qal x o, small_ok (st := fun (x : tr) => swing_enter_L0_st x.2.1 x.2.2.1 x.2.2.2.2.1 x.2.2.2.2.2) (prj := fun x => (x.1, x.2.2.2.1)) (emb := qan) (embO := qal) (fun x => (qao x).trans (by unfold swing_enter_L0_st swing_enter_L0_step; simp only [map_cond,map_bindO,map_elim,Option.map_some,Option.map_none]; rfl)) (fun _ _ => rfl) (fun _ _ => rfl) (fun _ _ _ => rfl) (fun _ _ _ => rfl) (fun _ => rfl) (runOf_some.1 h1), by
    first
    | exact h2
    | (rcases o with o <;> exact h2)⟩
noncomputable def qar {R : Type} : Loops S R := LE.ls X qak qam qaf
theorem qas {R : Type} : LoopsOk X (qar (R := R)) := loop_ok xok qae (e := qak) qag qaq qag
theorem qat (x0 : SgMooring) (x1 : List SgLook) : evFn X qad [(.st 9), (.sl (.st 10))] [(.st 14), (.sl (.arr 5 (.int .u64))), (.int .i64)] qar 12 70 (x0, x1, ()) = swing_enter x0 x1:=by kernel_rfl
noncomputable def qau : F7 S := ⟨[(.st 9), (.sl (.st 10))], [(.st 14), (.sl (.arr 5 (.int .u64))), (.int .i64)], fun xs => swing_enter xs.1 xs.2.1⟩
theorem qav : FSOk X 70 qau := fsOk_eq (evFn_ok xok qae qas 12 70) fun xs _ h => (qat xs.1 xs.2.1).trans h
noncomputable def qaw : List (Nat × F7 S) := []
theorem qax : TabOk X (qaw) := trivial
abbrev qay {R : Type} : Loops S R := noLoops
theorem qaz {R : Type} : LoopsOk X (qay (R := R)) := noLoops_ok X
def qaA : Key := ⟨[80], 80, none, [0, 0, 1, 0, 1], 0, 5⟩
def qaB : StT S := ⟨(N (N (N (N L (some (.agg [(.arr (.int .u64) 5 (fun _ => tdf T (.int .u64)))])) L) (some (.ptr 1 0)) L) none L) none (N (N (N L vC L) (some (.ptr 2 0)) L) none L)), (N (N L o6 L) o6 (N L o6 L)), 5⟩
def qaC : Way S := ⟨(.exit 0), ⟨(N L none (N (N L (some (.ptr 2 0)) L) none L)), (N (N L o6 L) o6 (N L o6 L)), 6⟩, [(.arr (.int .u64)), (.arr (.int .u64)), (.arr (.int .u64))]⟩
def qaD : LE S := ⟨qaA, qaB, [(.arr (.int .u64)), .int, (.arr (.int .u64)), (.arr (.int .u64)), (.arr (.int .u64))], [qaC]⟩
def qaE (x : tA) : (Nat → Int) → ((Nat → Int) × (Nat → Int) × (Nat → Int)) := fun y0 => (x.2.2.1, x.2.2.2.1, y0)
noncomputable def qaF {R : Type} (x : tA) (k : ((Nat → Int) × (Nat → Int) × (Nat → Int)) → Option R) : Option R := (swing_set_common_L0_run x.1 x.2.2.1 x.2.2.2.1 (x.2.1, x.2.2.2.2)).bind (fun y0 => k (x.2.2.1, x.2.2.2.1, y0))
def qaG (x : tA) (v : (Int × (Nat → Int))) : tA := (x.1, v.1, x.2.2.1, x.2.2.2.1, v.2)
theorem qaH (x : tA) : LE.step X qaD qaw qay 12 x = swing_set_common_L0_step x.1 x.2.2.1 x.2.2.2.1 x.2.1 x.2.2.2.2 (fun w0 w1 => (Sum.inl (x.1, w0, x.2.2.1, x.2.2.2.1, w1))) (fun p0 => (Sum.inr (x.2.2.1, x.2.2.2.1, p0))):=by kernel_rfl
theorem qaJ {R : Type} (x : tA) (k : ((Nat → Int) × (Nat → Int) × (Nat → Int)) → Option R) (r : R) (h : qaF x k = some r) : ∃ o, Runs (LE.step X qaD qaw qay 12) x o ∧ k o = some r := by
  obtain ⟨o, h1, h2⟩ := some_bind h
  exact ⟨qaE x o, small_ok (st := fun (x : tA) => swing_set_common_L0_st x.1 x.2.2.1 x.2.2.2.1) (prj := fun x => (x.2.1, x.2.2.2.2)) (emb := qaG) (embO := qaE) (fun x => (qaH x).trans (by unfold swing_set_common_L0_st swing_set_common_L0_step; simp only [map_cond,map_bindO,map_elim,Option.map_some,Option.map_none]; rfl)) (fun _ _ => rfl) (fun _ _ => rfl) (fun _ _ _ => rfl) (fun _ _ _ => rfl) (fun _ => rfl) (runOf_some.1 h1), by
    first
    | exact h2
    | (rcases o with o <;> exact h2)⟩
noncomputable def qaK {R : Type} : Loops S R := LE.ls X qaD qaF qay
theorem qaL {R : Type} : LoopsOk X (qaK (R := R)) := loop_ok xok qax (e := qaD) qaz qaJ qaz
theorem qaM (x0 : Nat → Int) (x1 : Nat → Int) : evFn X qaw [(.arr 5 (.int .u64)), (.arr 5 (.int .u64))] [(.arr 5 (.int .u64))] qaK 12 80 (x0, x1, ()) = swing_set_common x0 x1:=by kernel_rfl
noncomputable def qaN : F7 S := ⟨[(.arr 5 (.int .u64)), (.arr 5 (.int .u64))], [(.arr 5 (.int .u64))], fun xs => swing_set_common xs.1 xs.2.1⟩
theorem qaO : FSOk X 80 qaN := fsOk_eq (evFn_ok xok qax qaL 12 80) fun xs _ h => (qaM xs.1 xs.2.1).trans h
noncomputable def qaP : List (Nat × F7 S) := [(80, qaN)]
theorem qaQ : TabOk X (qaP) := ⟨qaO, trivial⟩
abbrev qaR {R : Type} : Loops S R := noLoops
theorem qaS {R : Type} : LoopsOk X (qaR (R := R)) := noLoops_ok X
def qaT : Key := ⟨[71], 71, none, [0, 0, 1, 0, 1], 0, 5⟩
def qaU : StT S := ⟨(N v16 none (N (N (N L (some (.sl (.arr 5 (.int .u64)) [])) L) (some (.ptr 1 0)) L) (some (.ptr 0 0)) (N (N L vC L) none L))), (N (N L o6 L) o6 L), 5⟩
def qaV : Way S := ⟨(.exit 0), ⟨(N L none (N (N L (some (.ptr 1 0)) L) (some (.ptr 0 0)) L)), (N (N L o6 L) o6 L), 6⟩, [(.arr (.int .u64)), (.arr (.int .u64))]⟩
def qaW : LE S := ⟨qaT, qaU, [.int, (.lst (.arr 5 (.int .u64))), .int, (.arr (.int .u64)), (.arr (.int .u64))], [qaV]⟩
def qaX (x : tB) : (Nat → Int) → ((Nat → Int) × (Nat → Int)) := fun y0 => (x.2.2.2.1, y0)
noncomputable def qaY {R : Type} (x : tB) (k : ((Nat → Int) × (Nat → Int)) → Option R) : Option R := (swing_fold_L0_run x.1 x.2.1 x.2.2.2.1 (x.2.2.1, x.2.2.2.2)).bind (fun y0 => k (x.2.2.2.1, y0))
def qaZ (x : tB) (v : (Int × (Nat → Int))) : tB := (x.1, x.2.1, v.1, x.2.2.2.1, v.2)
theorem qb0 (x : tB) : LE.step X qaW qaP qaR 12 x = swing_fold_L0_step x.1 x.2.1 x.2.2.2.1 x.2.2.1 x.2.2.2.2 (fun w0 w1 => (Sum.inl (x.1, x.2.1, w0, x.2.2.2.1, w1))) (fun p0 => (Sum.inr (x.2.2.2.1, p0))):=by kernel_rfl
theorem qb2 {R : Type} (x : tB) (k : ((Nat → Int) × (Nat → Int)) → Option R) (r : R) (h : qaY x k = some r) : ∃ o, Runs (LE.step X qaW qaP qaR 12) x o ∧ k o = some r := by
  obtain ⟨o, h1, h2⟩ := some_bind h
  exact ⟨qaX x o, small_ok (st := fun (x : tB) => swing_fold_L0_st x.1 x.2.1 x.2.2.2.1) (prj := fun x => (x.2.2.1, x.2.2.2.2)) (emb := qaZ) (embO := qaX) (fun x => (qb0 x).trans (by unfold swing_fold_L0_st swing_fold_L0_step; simp only [map_cond,map_bindO,map_elim,Option.map_some,Option.map_none]; rfl)) (fun _ _ => rfl) (fun _ _ => rfl) (fun _ _ _ => rfl) (fun _ _ _ => rfl) (fun _ => rfl) (runOf_some.1 h1), by
    first
    | exact h2
    | (rcases o with o <;> exact h2)⟩
noncomputable def qb3 {R : Type} : Loops S R := LE.ls X qaW qaY qaR
theorem qb4 {R : Type} : LoopsOk X (qb3 (R := R)) := loop_ok xok qaQ (e := qaW) qaS qb2 qaS
theorem qb5 (x0 : Nat → Int) (x1 : List (Nat → Int)) : evFn X qaP [(.arr 5 (.int .u64)), (.sl (.arr 5 (.int .u64)))] [(.arr 5 (.int .u64))] qb3 12 71 (x0, x1, ()) = swing_fold x0 x1:=by kernel_rfl
noncomputable def qb6 : F7 S := ⟨[(.arr 5 (.int .u64)), (.sl (.arr 5 (.int .u64)))], [(.arr 5 (.int .u64))], fun xs => swing_fold xs.1 xs.2.1⟩
theorem qb7 : FSOk X 71 qb6 := fsOk_eq (evFn_ok xok qaQ qb4 12 71) fun xs _ h => (qb5 xs.1 xs.2.1).trans h
noncomputable def qb8 : List (Nat × F7 S) := []
theorem qb9 : TabOk X (qb8) := trivial
abbrev qba {R : Type} : Loops S R := noLoops
theorem qbb {R : Type} : LoopsOk X (qba (R := R)) := noLoops_ok X
theorem qbc (x0 : Nat → Int) (x1 : Int) : evFn X qb8 [(.arr 5 (.int .u64)), (.int .i64)] [.bool] qba 12 73 (x0, x1, ()) = swing_set_has x0 x1:=by kernel_rfl
noncomputable def qbd : F7 S := ⟨[(.arr 5 (.int .u64)), (.int .i64)], [.bool], fun xs => swing_set_has xs.1 xs.2.1⟩
theorem qbe : FSOk X 73 qbd := fsOk_eq (evFn_ok xok qb9 qbb 12 73) fun xs _ h => (qbc xs.1 xs.2.1).trans h
noncomputable def qbf : List (Nat × F7 S) := [(70, qau), (71, qb6), (73, qbd)]
theorem qbg : TabOk X (qbf) := ⟨qav, qb7, qbe, trivial⟩
abbrev qbh {R : Type} : Loops S R := noLoops
theorem qbi {R : Type} : LoopsOk X (qbh (R := R)) := noLoops_ok X
def qbj : Key := ⟨[108, 0, 21], 108, none, [0, 0, 1, 0, 0, 1, 0, 0, 1, 1], 2, 46⟩
def qbk : StT S := ⟨(N (N (N L vC L) (some (.ptr 25 0)) (N L vC L)) (some (.yld 30)) (N (N L vC L) none L)), oJ, 47⟩
def qbl : Way S := ⟨(.exit 2), ⟨vT, oJ, 52⟩, [.int, .int, (.st 6), (.st 9), (.arr (.int .u64)), (.st 14), (.lst (.st 2)), (.lst (.arr 5 (.int .u64))), .bool, (.lst (.st 10)), .int, (.st 9)]⟩
def qbm : LE S := ⟨qbj, qbk, [.int, .int, .int, (.st 6), (.st 9), (.arr (.int .u64)), (.st 14), (.lst (.st 2)), (.lst (.arr 5 (.int .u64))), .bool, (.lst (.st 10)), .int, (.st 9)], [qbl]⟩
def qbn (x : td) : (Int × (List Point)) → te := fun y0 => (y0.1, x.2.2.1, x.2.2.2.1, x.2.2.2.2.1, x.2.2.2.2.2.1, x.2.2.2.2.2.2.1, y0.2, x.2.2.2.2.2.2.2.2.1, x.2.2.2.2.2.2.2.2.2.1, x.2.2.2.2.2.2.2.2.2.2.1, x.2.2.2.2.2.2.2.2.2.2.2.1, x.2.2.2.2.2.2.2.2.2.2.2.2)
noncomputable def qbo {R : Type} (x : td) (k : te → Option R) : Option R := (swing_Anchors_L1_run x.2.2.1 x.2.2.2.1 x.2.2.2.2.1 x.2.2.2.2.2.1 x.2.2.2.2.2.2.1 x.2.2.2.2.2.2.2.2.1 x.2.2.2.2.2.2.2.2.2.1 x.2.2.2.2.2.2.2.2.2.2.1 x.2.2.2.2.2.2.2.2.2.2.2.1 x.2.2.2.2.2.2.2.2.2.2.2.2 (x.1, x.2.1, x.2.2.2.2.2.2.2.1)).bind (fun y0 => k (y0.1, x.2.2.1, x.2.2.2.1, x.2.2.2.2.1, x.2.2.2.2.2.1, x.2.2.2.2.2.2.1, y0.2, x.2.2.2.2.2.2.2.2.1, x.2.2.2.2.2.2.2.2.2.1, x.2.2.2.2.2.2.2.2.2.2.1, x.2.2.2.2.2.2.2.2.2.2.2.1, x.2.2.2.2.2.2.2.2.2.2.2.2))
def qbp (x : td) (v : (Int × Int × (List Point))) : td := (v.1, v.2.1, x.2.2.1, x.2.2.2.1, x.2.2.2.2.1, x.2.2.2.2.2.1, x.2.2.2.2.2.2.1, v.2.2, x.2.2.2.2.2.2.2.2.1, x.2.2.2.2.2.2.2.2.2.1, x.2.2.2.2.2.2.2.2.2.2.1, x.2.2.2.2.2.2.2.2.2.2.2.1, x.2.2.2.2.2.2.2.2.2.2.2.2)
theorem qbq (x : td) : LE.step X qbm qbf qbh 12 x = swing_Anchors_L1_step x.2.2.1 x.2.2.2.1 x.2.2.2.2.1 x.2.2.2.2.2.1 x.2.2.2.2.2.2.1 x.2.2.2.2.2.2.2.2.1 x.2.2.2.2.2.2.2.2.2.1 x.2.2.2.2.2.2.2.2.2.2.1 x.2.2.2.2.2.2.2.2.2.2.2.1 x.2.2.2.2.2.2.2.2.2.2.2.2 x.1 x.2.1 x.2.2.2.2.2.2.2.1 (fun w0 w1 w2 => (Sum.inl (w0, w1, x.2.2.1, x.2.2.2.1, x.2.2.2.2.1, x.2.2.2.2.2.1, x.2.2.2.2.2.2.1, w2, x.2.2.2.2.2.2.2.2.1, x.2.2.2.2.2.2.2.2.2.1, x.2.2.2.2.2.2.2.2.2.2.1, x.2.2.2.2.2.2.2.2.2.2.2.1, x.2.2.2.2.2.2.2.2.2.2.2.2))) (fun p0 p1 => (Sum.inr (p0, x.2.2.1, x.2.2.2.1, x.2.2.2.2.1, x.2.2.2.2.2.1, x.2.2.2.2.2.2.1, p1, x.2.2.2.2.2.2.2.2.1, x.2.2.2.2.2.2.2.2.2.1, x.2.2.2.2.2.2.2.2.2.2.1, x.2.2.2.2.2.2.2.2.2.2.2.1, x.2.2.2.2.2.2.2.2.2.2.2.2))):=by kernel_rfl
theorem qbs {R : Type} (x : td) (k : te → Option R) (r : R) (h : qbo x k = some r) : ∃ o, Runs (LE.step X qbm qbf qbh 12) x o ∧ k o = some r := by
  obtain ⟨o, h1, h2⟩ := some_bind h
  exact ⟨qbn x o, small_ok (st := fun (x : td) => swing_Anchors_L1_st x.2.2.1 x.2.2.2.1 x.2.2.2.2.1 x.2.2.2.2.2.1 x.2.2.2.2.2.2.1 x.2.2.2.2.2.2.2.2.1 x.2.2.2.2.2.2.2.2.2.1 x.2.2.2.2.2.2.2.2.2.2.1 x.2.2.2.2.2.2.2.2.2.2.2.1 x.2.2.2.2.2.2.2.2.2.2.2.2) (prj := fun x => (x.1, x.2.1, x.2.2.2.2.2.2.2.1)) (emb := qbp) (embO := qbn) (fun x => (qbq x).trans (by unfold swing_Anchors_L1_st swing_Anchors_L1_step; simp only [map_cond,map_bindO,map_elim,Option.map_some,Option.map_none]; rfl)) (fun _ _ => rfl) (fun _ _ => rfl) (fun _ _ _ => rfl) (fun _ _ _ => rfl) (fun _ => rfl) (runOf_some.1 h1), by
    first
    | exact h2
    | (rcases o with o <;> exact h2)⟩
noncomputable def qbt {R : Type} : Loops S R := LE.ls X qbm qbo qbh
theorem qbu {R : Type} : LoopsOk X (qbt (R := R)) := loop_ok xok qbg (e := qbm) qbi qbs qbi
def qbv : Key := ⟨[108, 0, 21], 108, none, [0, 0, 1, 1], 0, 36⟩
def qbw : StT S := ⟨vT, oK, 37⟩
def qbx : Way S := ⟨(.exit 0), ⟨L, oK, 42⟩, [(.st 6), (.st 9), (.lst (.st 2)), (.arr (.int .u64)), (.st 14), (.lst (.arr 5 (.int .u64))), .bool, (.lst (.st 10)), .int, (.st 9)]⟩
def qby : LE S := ⟨qbv, qbw, [.int, .int, (.st 6), (.st 9), (.lst (.st 2)), (.arr (.int .u64)), (.st 14), (.lst (.arr 5 (.int .u64))), .bool, (.lst (.st 10)), .int, (.st 9)], [qbx]⟩
def qbz (x : tf) : (List Point) → tg := fun y0 => (x.2.2.1, x.2.2.2.1, y0, x.2.2.2.2.2.1, x.2.2.2.2.2.2.1, x.2.2.2.2.2.2.2.1, x.2.2.2.2.2.2.2.2.1, x.2.2.2.2.2.2.2.2.2.1, x.2.2.2.2.2.2.2.2.2.2.1, x.2.2.2.2.2.2.2.2.2.2.2)
noncomputable def qbA {R : Type} (x : tf) (k : tg → Option R) : Option R := (swing_Anchors_L0_run x.2.2.1 x.2.2.2.1 x.2.2.2.2.2.1 x.2.2.2.2.2.2.1 x.2.2.2.2.2.2.2.1 x.2.2.2.2.2.2.2.2.1 x.2.2.2.2.2.2.2.2.2.1 x.2.2.2.2.2.2.2.2.2.2.1 x.2.2.2.2.2.2.2.2.2.2.2 (x.1, x.2.1, x.2.2.2.2.1)).bind (fun y0 => k (x.2.2.1, x.2.2.2.1, y0, x.2.2.2.2.2.1, x.2.2.2.2.2.2.1, x.2.2.2.2.2.2.2.1, x.2.2.2.2.2.2.2.2.1, x.2.2.2.2.2.2.2.2.2.1, x.2.2.2.2.2.2.2.2.2.2.1, x.2.2.2.2.2.2.2.2.2.2.2))
def qbB (x : tf) (v : (Int × Int × (List Point))) : tf := (v.1, v.2.1, x.2.2.1, x.2.2.2.1, v.2.2, x.2.2.2.2.2.1, x.2.2.2.2.2.2.1, x.2.2.2.2.2.2.2.1, x.2.2.2.2.2.2.2.2.1, x.2.2.2.2.2.2.2.2.2.1, x.2.2.2.2.2.2.2.2.2.2.1, x.2.2.2.2.2.2.2.2.2.2.2)
theorem qbC (x : tf) : LE.step X qby qbf qbt 12 x = swing_Anchors_L0_step x.2.2.1 x.2.2.2.1 x.2.2.2.2.2.1 x.2.2.2.2.2.2.1 x.2.2.2.2.2.2.2.1 x.2.2.2.2.2.2.2.2.1 x.2.2.2.2.2.2.2.2.2.1 x.2.2.2.2.2.2.2.2.2.2.1 x.2.2.2.2.2.2.2.2.2.2.2 x.1 x.2.1 x.2.2.2.2.1 (fun w0 w1 w2 => (Sum.inl (w0, w1, x.2.2.1, x.2.2.2.1, w2, x.2.2.2.2.2.1, x.2.2.2.2.2.2.1, x.2.2.2.2.2.2.2.1, x.2.2.2.2.2.2.2.2.1, x.2.2.2.2.2.2.2.2.2.1, x.2.2.2.2.2.2.2.2.2.2.1, x.2.2.2.2.2.2.2.2.2.2.2))) (fun p0 => (Sum.inr (x.2.2.1, x.2.2.2.1, p0, x.2.2.2.2.2.1, x.2.2.2.2.2.2.1, x.2.2.2.2.2.2.2.1, x.2.2.2.2.2.2.2.2.1, x.2.2.2.2.2.2.2.2.2.1, x.2.2.2.2.2.2.2.2.2.2.1, x.2.2.2.2.2.2.2.2.2.2.2))):=by kernel_rfl
theorem qbE {R : Type} (x : tf) (k : tg → Option R) (r : R) (h : qbA x k = some r) : ∃ o, Runs (LE.step X qby qbf qbt 12) x o ∧ k o = some r := by
  obtain ⟨o, h1, h2⟩ := some_bind h
  exact ⟨qbz x o, small_ok (st := fun (x : tf) => swing_Anchors_L0_st x.2.2.1 x.2.2.2.1 x.2.2.2.2.2.1 x.2.2.2.2.2.2.1 x.2.2.2.2.2.2.2.1 x.2.2.2.2.2.2.2.2.1 x.2.2.2.2.2.2.2.2.2.1 x.2.2.2.2.2.2.2.2.2.2.1 x.2.2.2.2.2.2.2.2.2.2.2) (prj := fun x => (x.1, x.2.1, x.2.2.2.2.1)) (emb := qbB) (embO := qbz) (fun x => (qbC x).trans (by unfold swing_Anchors_L0_st swing_Anchors_L0_step; simp only [map_cond,map_bindO,map_elim,Option.map_some,Option.map_none]; rfl)) (fun _ _ => rfl) (fun _ _ => rfl) (fun _ _ _ => rfl) (fun _ _ _ => rfl) (fun _ => rfl) (runOf_some.1 h1), by
    first
    | exact h2
    | (rcases o with o <;> exact h2)⟩
noncomputable def qbF {R : Type} : Loops S R := LE.ls X qby qbA qbt
theorem qbG {R : Type} : LoopsOk X (qbF (R := R)) := loop_ok xok qbg (e := qby) qbu qbE qbu
theorem qbH (x0 : SgMooring) (x1 : List SgLook) : evFn X qbf [(.st 9), (.sl (.st 10))] [(.sl (.st 2)), (.int .i64)] qbF 12 21 (x0, x1, ()) = swing_Anchors x0 x1:=by kernel_rfl
noncomputable def qbI : F7 S := ⟨[(.st 9), (.sl (.st 10))], [(.sl (.st 2)), (.int .i64)], fun xs => swing_Anchors xs.1 xs.2.1⟩
theorem qbJ : FSOk X 21 qbI := fsOk_eq (evFn_ok xok qbg qbG 12 21) fun xs _ h => (qbH xs.1 xs.2.1).trans h
noncomputable def qbK : List (Nat × F7 S) := []
theorem qbL : TabOk X (qbK) := trivial
abbrev qbM {R : Type} : Loops S R := noLoops
theorem qbN {R : Type} : LoopsOk X (qbM (R := R)) := noLoops_ok X
theorem qbO (x0 : Int) (x1 : Int) : evFn X qbK [(.int .i64), (.int .i64)] [(.st 5)] qbM 12 53 (x0, x1, ()) = law04_span x0 x1:=by kernel_rfl
noncomputable def qbP : F7 S := ⟨[(.int .i64), (.int .i64)], [(.st 5)], fun xs => law04_span xs.1 xs.2.1⟩
theorem qbQ : FSOk X 53 qbP := fsOk_eq (evFn_ok xok qbL qbN 12 53) fun xs _ h => (qbO xs.1 xs.2.1).trans h
noncomputable def qbR : F7 S := ⟨[], [.bool], fun _ => law04_Awake⟩
theorem qbS : FSOk X 24 qbR := closedTrue_ok (X := X) (F := law04_Awake) rfl law04_Awake_run
noncomputable def qbT : List (Nat × F7 S) := [(20, q81)]
theorem qbU : TabOk X (qbT) := ⟨q82, trivial⟩
abbrev qbV {R : Type} : Loops S R := noLoops
theorem qbW {R : Type} : LoopsOk X (qbV (R := R)) := noLoops_ok X
theorem qbX (x0 : SgMooring) (x1 : List SgLook) : evFn X qbT [(.st 9), (.sl (.st 10))] [.bool] qbV 12 48 (x0, x1, ()) = law04_good x0 x1:=by kernel_rfl
noncomputable def qbY : F7 S := ⟨[(.st 9), (.sl (.st 10))], [.bool], fun xs => law04_good xs.1 xs.2.1⟩
theorem qbZ : FSOk X 48 qbY := fsOk_eq (evFn_ok xok qbU qbW 12 48) fun xs _ h => (qbX xs.1 xs.2.1).trans h
noncomputable def qc0 : List (Nat × F7 S) := []
theorem qc1 : TabOk X (qc0) := trivial
abbrev qc2 {R : Type} : Loops S R := noLoops
theorem qc3 {R : Type} : LoopsOk X (qc2 (R := R)) := noLoops_ok X
def qc4 : Key := ⟨[46], 46, none, [0, 0, 1, 0, 1], 0, 3⟩
def qc5 : StT S := ⟨(N (N (N L (some (.ptr 0 0)) L) none (N L vC L)) vA L), (N L of L), 3⟩
def qc6 : Way S := ⟨.ret, ⟨(N L none (N (N L vB L) none L)), (N L of L), 14⟩, [.bool, (.st 2)]⟩
def qc7 : Way S := ⟨(.exit 0), ⟨L, (N L of L), 7⟩, [(.st 2)]⟩
def qc8 : LE S := ⟨qc4, qc5, [.int, (.lst (.st 2)), (.st 2)], [qc6, qc7]⟩
def qc9 (x : tR) : (Bool ⊕ Unit) → ((Bool × Point) ⊕ Point) := Sum.elim (fun y0 => (.inl (y0, x.2.2))) (fun y1 => (.inr x.2.2))
noncomputable def qca {R : Type} (x : tR) (k : ((Bool × Point) ⊕ Point) → Option R) : Option R := (law04_has_L0_run x.2.1 x.2.2 x.1).bind (Sum.elim (fun y0 => k (.inl (y0, x.2.2))) (fun y1 => k (.inr x.2.2)))
def qcb (x : tR) (v : Int) : tR := (v, x.2.1, x.2.2)
theorem qcc (x : tR) : LE.step X qc8 qc0 qc2 12 x = law04_has_L0_step x.2.1 x.2.2 x.1 (fun w0 => (Sum.inl (w0, x.2.1, x.2.2))) (fun p0 => (Sum.inr (.inl (p0, x.2.2)))) (Sum.inr (.inr x.2.2)):=by kernel_rfl
theorem qce {R : Type} (x : tR) (k : ((Bool × Point) ⊕ Point) → Option R) (r : R) (h : qca x k = some r) : ∃ o, Runs (LE.step X qc8 qc0 qc2 12) x o ∧ k o = some r := by
  obtain ⟨o, h1, h2⟩ := some_bind h
  exact ⟨qc9 x o, small_ok (st := fun (x : tR) => law04_has_L0_st x.2.1 x.2.2) (prj := fun x => x.1) (emb := qcb) (embO := qc9) (fun x => (qcc x).trans (by unfold law04_has_L0_st law04_has_L0_step; simp only [map_cond,map_bindO,map_elim,Option.map_some,Option.map_none]; rfl)) (fun _ _ => rfl) (fun _ _ => rfl) (fun _ _ _ => rfl) (fun _ _ _ => rfl) (fun _ => rfl) (runOf_some.1 h1), by
    first
    | exact h2
    | (rcases o with o | o <;> exact h2)⟩
noncomputable def qcf {R : Type} : Loops S R := LE.ls X qc8 qca qc2
theorem qcg {R : Type} : LoopsOk X (qcf (R := R)) := loop_ok xok qc1 (e := qc8) qc3 qce qc3
theorem qch (x0 : List Point) (x1 : Point) : evFn X qc0 [(.sl (.st 2)), (.st 2)] [.bool] qcf 12 46 (x0, x1, ()) = law04_has x0 x1:=by kernel_rfl
noncomputable def qci : F7 S := ⟨[(.sl (.st 2)), (.st 2)], [.bool], fun xs => law04_has xs.1 xs.2.1⟩
theorem qcj : FSOk X 46 qci := fsOk_eq (evFn_ok xok qc1 qcg 12 46) fun xs _ h => (qch xs.1 xs.2.1).trans h
noncomputable def qck : List (Nat × F7 S) := [(53, qbP)]
theorem qcl : TabOk X (qck) := ⟨qbQ, trivial⟩
abbrev qcm {R : Type} : Loops S R := noLoops
theorem qcn {R : Type} : LoopsOk X (qcm (R := R)) := noLoops_ok X
theorem qco (x0 : Span) (x1 : Int) (x2 : Int) (x3 : Int) (x4 : Int) : evFn X qck [(.st 5), (.int .i64), (.int .i64), (.int .i64), (.int .i64)] [(.st 5)] qcm 12 55 (x0, x1, x2, x3, x4, ()) = law04_wider_def x0 x1 x2 x3 x4:=by kernel_rfl
noncomputable def qcp : F7 S := ⟨[(.st 5), (.int .i64), (.int .i64), (.int .i64), (.int .i64)], [(.st 5)], fun xs => law04_wider xs.1 xs.2.1 xs.2.2.1 xs.2.2.2.1 xs.2.2.2.2.1⟩
theorem qcq : FSOk X 55 qcp := fsOk_eq (evFn_ok xok qcl qcn 12 55) fun xs _ h => ((qco xs.1 xs.2.1 xs.2.2.1 xs.2.2.2.1 xs.2.2.2.2.1).trans (law04_wider_eq xs.1 xs.2.1 xs.2.2.1 xs.2.2.2.1 xs.2.2.2.2.1).symm).trans h
noncomputable def qcr : List (Nat × F7 S) := [(48, qbY), (24, qbR), (55, qcp), (21, qbI), (46, qci)]
theorem qcs : TabOk X (qcr) := ⟨qbZ, qbS, qcq, qbJ, qcj, trivial⟩
abbrev qct {R : Type} : Loops S R := noLoops
theorem qcu {R : Type} : LoopsOk X (qct (R := R)) := noLoops_ok X
def qcv : Key := ⟨[15], 15, none, [0, 0, 1, 0, 1, 1, 1, 1, 1], 0, 23⟩
def qcw : StT S := ⟨(N (N (N (N L (some (.ptr 8 0)) L) (some (.ptr 0 0)) L) vz (N (N L vC L) (some (.ptr 1 0)) L)) none (N (N (N L (some (.rs 23 0)) L) none L) none L)), oR, 24⟩
def qcx : Way S := ⟨(.exit 0), ⟨(N (N (N (N L (some (.ptr 8 0)) L) (some (.ptr 0 0)) L) vz L) none (N (N (N L (some (.rs 23 0)) L) none L) none L)), oR, 28⟩, [(.lst (.st 10)), (.lst (.st 10)), (.arr (.int .u8)), (.st 9), (.st 9)]⟩
def qcy : LE S := ⟨qcv, qcw, [(.lst (.st 10)), .int, (.lst (.st 10)), (.arr (.int .u8)), (.st 9), (.st 9)], [qcx]⟩
def qcz (x : ts) : (List SgLook) → tu := fun y0 => (x.1, y0, x.2.2.2.1, x.2.2.2.2.1, x.2.2.2.2.2)
noncomputable def qcA {R : Type} (x : ts) (k : tu → Option R) : Option R := (law04_SwingWider_L0_run x.1 x.2.2.2.1 (x.2.1, x.2.2.1)).bind (fun y0 => k (x.1, y0, x.2.2.2.1, x.2.2.2.2.1, x.2.2.2.2.2))
def qcB (x : ts) (v : (Int × (List SgLook))) : ts := (x.1, v.1, v.2, x.2.2.2.1, x.2.2.2.2.1, x.2.2.2.2.2)
theorem qcC (x : ts) : LE.step X qcy qcr qct 12 x = law04_SwingWider_L0_step x.1 x.2.2.2.1 x.2.1 x.2.2.1 (fun w0 w1 => (Sum.inl (x.1, w0, w1, x.2.2.2.1, x.2.2.2.2.1, x.2.2.2.2.2))) (fun p0 => (Sum.inr (x.1, p0, x.2.2.2.1, x.2.2.2.2.1, x.2.2.2.2.2))):=by kernel_rfl
theorem qcE {R : Type} (x : ts) (k : tu → Option R) (r : R) (h : qcA x k = some r) : ∃ o, Runs (LE.step X qcy qcr qct 12) x o ∧ k o = some r := by
  obtain ⟨o, h1, h2⟩ := some_bind h
  exact ⟨qcz x o, small_ok (st := fun (x : ts) => law04_SwingWider_L0_st x.1 x.2.2.2.1) (prj := fun x => (x.2.1, x.2.2.1)) (emb := qcB) (embO := qcz) (fun x => (qcC x).trans (by unfold law04_SwingWider_L0_st law04_SwingWider_L0_step; simp only [map_cond,map_bindO,map_elim,Option.map_some,Option.map_none]; rfl)) (fun _ _ => rfl) (fun _ _ => rfl) (fun _ _ _ => rfl) (fun _ _ _ => rfl) (fun _ => rfl) (runOf_some.1 h1), by
    first
    | exact h2
    | (rcases o with o <;> exact h2)⟩
noncomputable def qcF {R : Type} : Loops S R := LE.ls X qcy qcA qct
theorem qcG {R : Type} : LoopsOk X (qcF (R := R)) := loop_ok xok qcs (e := qcy) qcu qcE qcu
def qcH : Key := ⟨[15], 15, none, [0, 0, 1, 0, 1, 1, 1, 1, 1, 1, 1, 1, 1], 2, 51⟩
def qcI : StT S := ⟨(N L none (N (N (N (N L vC L) none L) none (N L vA L)) none (N L none (N L vA L)))), oR, 51⟩
def qcJ : Way S := ⟨.ret, ⟨(N L none (N L none (N L vB L))), oR, 63⟩, [.bool, (.lst (.st 10)), (.arr (.int .u8)), (.st 9), (.st 9)]⟩
def qcK : Way S := ⟨(.exit 2), ⟨L, oR, 55⟩, [(.lst (.st 10)), (.arr (.int .u8)), (.st 9), (.st 9)]⟩
def qcL : LE S := ⟨qcH, qcI, [.int, (.lst (.st 2)), (.lst (.st 2)), (.lst (.st 10)), (.arr (.int .u8)), (.st 9), (.st 9)], [qcJ, qcK]⟩
def qcM (x : tp) : (Bool ⊕ Unit) → tk := Sum.elim (fun y0 => (.inl (y0, x.2.2.2.1, x.2.2.2.2.1, x.2.2.2.2.2.1, x.2.2.2.2.2.2))) (fun y1 => (.inr (x.2.2.2.1, x.2.2.2.2.1, x.2.2.2.2.2.1, x.2.2.2.2.2.2)))
noncomputable def qcN {R : Type} (x : tp) (k : tk → Option R) : Option R := (law04_SwingWider_L1_run x.2.1 x.2.2.1 x.1).bind (Sum.elim (fun y0 => k (.inl (y0, x.2.2.2.1, x.2.2.2.2.1, x.2.2.2.2.2.1, x.2.2.2.2.2.2))) (fun y1 => k (.inr (x.2.2.2.1, x.2.2.2.2.1, x.2.2.2.2.2.1, x.2.2.2.2.2.2))))
def qcO (x : tp) (v : Int) : tp := (v, x.2.1, x.2.2.1, x.2.2.2.1, x.2.2.2.2.1, x.2.2.2.2.2.1, x.2.2.2.2.2.2)
theorem qcP (x : tp) : LE.step X qcL qcr qcF 12 x = law04_SwingWider_L1_step x.2.1 x.2.2.1 x.1 (fun w0 => (Sum.inl (w0, x.2.1, x.2.2.1, x.2.2.2.1, x.2.2.2.2.1, x.2.2.2.2.2.1, x.2.2.2.2.2.2))) (fun p0 => (Sum.inr (.inl (p0, x.2.2.2.1, x.2.2.2.2.1, x.2.2.2.2.2.1, x.2.2.2.2.2.2)))) (Sum.inr (.inr (x.2.2.2.1, x.2.2.2.2.1, x.2.2.2.2.2.1, x.2.2.2.2.2.2))):=by kernel_rfl
theorem qcR {R : Type} (x : tp) (k : tk → Option R) (r : R) (h : qcN x k = some r) : ∃ o, Runs (LE.step X qcL qcr qcF 12) x o ∧ k o = some r := by
  obtain ⟨o, h1, h2⟩ := some_bind h
  exact ⟨qcM x o, small_ok (st := fun (x : tp) => law04_SwingWider_L1_st x.2.1 x.2.2.1) (prj := fun x => x.1) (emb := qcO) (embO := qcM) (fun x => (qcP x).trans (by unfold law04_SwingWider_L1_st law04_SwingWider_L1_step; simp only [map_cond,map_bindO,map_elim,Option.map_some,Option.map_none]; rfl)) (fun _ _ => rfl) (fun _ _ => rfl) (fun _ _ _ => rfl) (fun _ _ _ => rfl) (fun _ => rfl) (runOf_some.1 h1), by
    first
    | exact h2
    | (rcases o with o | o <;> exact h2)⟩
noncomputable def qcS {R : Type} : Loops S R := LE.ls X qcL qcN qcF
theorem qcT {R : Type} : LoopsOk X (qcS (R := R)) := loop_ok xok qcs (e := qcL) qcG qcR qcG
theorem qcU (x0 : SgMooring) (x1 : List SgLook) (x2 : Nat → Int) : evFn X qcr [(.st 9), (.sl (.st 10)), (.arr 4 (.int .u8))] [.bool] qcS 12 15 (x0, x1, x2, ()) = law04_SwingWider_def x0 x1 x2:=by kernel_rfl
noncomputable def qcV : F7 S := ⟨[(.st 9), (.sl (.st 10)), (.arr 4 (.int .u8))], [.bool], fun xs => law04_SwingWider xs.1 xs.2.1 xs.2.2.1⟩
theorem law04_SwingWider_fsok : FSOk X 15 qcV := fsOk_eq (evFn_ok xok qcs qcT 12 15) fun xs _ h => ((qcU xs.1 xs.2.1 xs.2.2.1).trans (law04_SwingWider_eq xs.1 xs.2.1 xs.2.2.1).symm).trans h
end Nore
