/- The code comes to the plain functions. -/
import Derived.Test.YtdoejdmpmpgmiaaY
import Derived.Test.YtdoejdmpmpgmiaaD
set_option linter.unusedSectionVars false
set_option linter.unusedVariables false
set_option linter.unusedSimpArgs false
set_option maxRecDepth 100000
open Go Go.Ab Go.Proofs Go.Proofs.Ytdoejdmpmpgmiaa
open Go.Ab.Tr renaming node → N, leaf → L
namespace Nore
abbrev tB : Type := List (ByteArray × Int)
abbrev tA : Type := Int × Int × (List Point) × Int
abbrev tz : Type := Int × (List Point) × Int × Int
abbrev ty : Type := (Int × Int × Int) ⊕ (Int × Int)
abbrev tx : Type := Int × ByteArray × ByteArray × Nat
abbrev tw : Type := ByteArray × Int × (List ByteArray)
abbrev tv : Type := Int × (List Int) × Int × Int × Int
abbrev tu : Type := Int × Int × (List Span) × Int × Int
abbrev tt : Type := (List SgLook) × Int × Int × SgMooring
abbrev ts : Type := Int × (List ByteArray) × Nat × CtChart
abbrev tr : Type := Int × CtChart × (List ByteArray) × Nat
abbrev tq : Type := Int × Int × (List Int) × Nat × Point × Point
abbrev tp : Type := (Int × Point × Int × (List Int) × Nat) ⊕ Int
abbrev to : Type := Int × Int × Int × tB × CtSand
abbrev tn : Type := Int × Int × Int × (List CtPaint) × (List Int) × Nat
abbrev tm : Type := Int × (List SgLook) × Int × (List SgLook) × SgMooring
abbrev tl : Type := Int × Int × Point × SgLook × SgMooring × Point × Point
abbrev tk : Type := Int × (List CtSand) × Int × CtChart × tB
abbrev tj : Type := Int × Int × (List CtMark) × CtChart × tB
abbrev ti : Type := (Bool × ByteArray × Nat) ⊕ tx
abbrev th : Type := Int × Int × Int × (List ByteArray) × Nat × CtMark × (List ByteArray) × Nat
abbrev tg : Type := Int × Int × SgLook × SgLook × (List Int) × Nat × (List Int) × Nat × (List Int) × Nat
abbrev tf : Type := (Bool × Point × SgLook × SgMooring × Point × Point) ⊕ (Point × SgLook × SgMooring × Point × Point)
abbrev te : Type := Int × Int × Int × Int × Int × Int × Int × (Nat → Int) × CtBox × SgMooring × SgMooring × swing_mooring
abbrev td : Type := Int × Point × SgLook × (List Int) × Nat × swing_mooring × Point × (List Int) × Nat × (List Int) × Nat × Point
abbrev tc : Type := Int × Int × Int × Int × Int × Int × Int × Int × Int × (Nat → Int) × CtBox × SgMooring × SgMooring × swing_mooring
abbrev tb : Type := Int × Int × Int × Int × Int × Int × Int × Int × Int × Int × (Nat → Int) × CtBox × SgMooring × SgMooring × swing_mooring
abbrev ta : Type := Int × Int × (List Point) × chart_sand × Bool × Int × Bool × chart_sand × Bool × Int × chart_sand × (List Int) × Nat × Point
abbrev t9 : Type := Int × chart_sand × Bool × Int × Bool × chart_sand × Bool × Int × chart_sand × Point × chart_side × (List Int) × Nat × Point
abbrev t8 : Type := Int × Int × (List Point) × Int × chart_sand × Bool × Int × Bool × chart_sand × Bool × Int × chart_sand × Point × chart_side × (List Int) × Nat × Point
abbrev t7 : Type := (Int × Int × Int × (List ByteArray) × Nat × (List ByteArray) × Nat × CtChart) ⊕ (Int × Int × Int × (List ByteArray) × Nat × (List ByteArray) × Nat × CtChart) ⊕ ((List ByteArray) × Nat × CtChart)
abbrev t6 : Type := (chart_sand × Bool × Int × Bool × chart_sand × Bool × Int × chart_sand × Point × chart_side × (List Int) × Nat × Point) ⊕ (chart_sand × Bool × Int × Bool × chart_sand × Bool × Int × chart_sand × (List Int) × Nat × Point)
abbrev t5 : Type := (Int × (List Int) × Nat × (List Int) × Nat × CtPaint) ⊕ (Int × (List Int) × Nat × (List Int) × Nat × (List Int) × Nat × CtPaint) ⊕ (Int × (List Int) × Nat × (List Int) × Nat × (List Int) × Nat × CtPaint) ⊕ ((List Int) × Nat)
abbrev t4 : Type := (Int × Int × Int × CtChart × tB × CtSand) ⊕ (Int × Int × Int × CtChart × tB × CtSand) ⊕ (Int × Int × Int × CtChart × tB × CtSand) ⊕ (CtChart × tB)
abbrev t3 : Type := (Bool × Point × Point × SgLook × (List Int) × Nat × swing_mooring × Point × (List Int) × Nat × (List Int) × Nat × Point × Point) ⊕ (Point × SgLook × (List Int) × Nat × swing_mooring × Point × (List Int) × Nat × (List Int) × Nat × Point)
abbrev t2 : Type := (Int × Int × Int × (List ByteArray) × Nat × CtMark × CtChart × (List ByteArray) × Nat) ⊕ (Int × Int × Int × (List ByteArray) × Nat × CtMark × CtChart × (List ByteArray) × Nat) ⊕ (Int × Int × Int × (List ByteArray) × Nat × CtMark × CtChart × (List ByteArray) × Nat) ⊕ (CtChart × (List ByteArray) × Nat)
abbrev t1 : Type := (Int × Int × Int × CtMark × CtChart × tB) ⊕ (Int × Int × Int × CtMark × CtChart × tB) ⊕ (Int × Int × Int × CtMark × CtChart × tB × (List Point) × Nat) ⊕ (Int × Int × Int × CtMark × CtChart × tB × (List Point) × Nat) ⊕ (CtChart × tB)
abbrev t0 : Type := (Int × Int × SgLook × SgLook × (List SgLook) × SgMooring) ⊕ (Int × Int × SgLook × SgLook × (List SgLook) × SgMooring × (List Int) × Nat) ⊕ (Int × Int × SgLook × SgLook × (List SgLook) × SgMooring × (List Int) × Nat × (List Int) × Nat) ⊕ (Int × Int × SgLook × SgLook × (List SgLook) × SgMooring × (List Int) × Nat × (List Int) × Nat × (List Int) × Nat) ⊕ (Int × Int × SgLook × SgLook × (List SgLook) × SgMooring × (List Int) × Nat × (List Int) × Nat × (List Int) × Nat) ⊕ (Int × Int × SgLook × SgLook × (List SgLook) × SgMooring × (List Int) × Nat × (List Int) × Nat × (List Int) × Nat) ⊕ ((List SgLook) × SgMooring)
noncomputable def q0 : List (Nat × F7 S) := []
theorem q1 : TabOk X (q0) := trivial
abbrev q2 {R : Type} : Loops S R := noLoops
theorem q3 {R : Type} : LoopsOk X (q2 (R := R)) := noLoops_ok X
def q4 : Key := ⟨[98], 98, none, [0, 0, 1, 0, 1, 1], 0, 4⟩
def q5 : StT S := ⟨(N (N (N (N L (some (.iter 3)) L) (some (.int .i32 0)) L) none L) (some (.str ByteArray.empty)) L), (N (N (N L (some (.siter ByteArray.empty 0)) L) none L) none L), 4⟩
def q6 : Way S := ⟨.ret, ⟨(N L none (N L (some (.bool false)) L)), (N (N (N L (some (.siter ByteArray.empty 0)) L) none L) none L), 23⟩, [.bool, .str, .nat]⟩
def q7 : Way S := ⟨(.exit 0), ⟨(N (N (N L (some (.int .i32 0)) L) none L) (some (.str ByteArray.empty)) L), (N (N (N L (some (.siter ByteArray.empty 0)) L) none L) none L), 6⟩, [.int, .str, .str, .nat]⟩
def q8 : LE S := ⟨q4, q5, [.int, .str, .str, .nat], [q6, q7]⟩
def q9 (x : tx) : ((Bool × Nat) ⊕ (Int × Nat)) → ti := Sum.elim (fun y0 => (.inl (y0.1, x.2.2.1, y0.2))) (fun y1 => (.inr (y1.1, x.2.1, x.2.2.1, y1.2)))
noncomputable def qa {R : Type} (x : tx) (k : ti → Option R) : Option R := (chart_Name_L0_run x.2.1 x.2.2.1 (x.1, x.2.2.2)).bind (Sum.elim (fun y0 => k (.inl (y0.1, x.2.2.1, y0.2))) (fun y1 => k (.inr (y1.1, x.2.1, x.2.2.1, y1.2))))
def qb (x : tx) (v : (Int × Nat)) : tx := (v.1, x.2.1, x.2.2.1, v.2)
theorem qc (x : tx) : LE.step X q8 q0 q2 12 x = chart_Name_L0_step x.2.1 x.2.2.1 x.1 x.2.2.2 (fun w0 w1 => (Sum.inl (w0, x.2.1, x.2.2.1, w1))) (fun p0 p1 => (Sum.inr (.inl (p0, x.2.2.1, p1)))) (fun p0 p1 => (Sum.inr (.inr (p0, x.2.1, x.2.2.1, p1)))):=by kernel_rfl
theorem qd {ρ ρ' : Type} (f : ρ → ρ') (x1 : ByteArray) (x2 : ByteArray) (x0 : Int) (x3 : Nat) (nx : (Int) → (Nat) → ρ) (e0 : (Bool) → (Nat) → ρ) (e1 : (Int) → (Nat) → ρ) : Option.map f (chart_Name_L0_step x1 x2 x0 x3 nx e0 e1) = chart_Name_L0_step x1 x2 x0 x3 (fun w0 w1 => (f (nx w0 w1))) (fun p0 p1 => (f (e0 p0 p1))) (fun p0 p1 => (f (e1 p0 p1))) := by
  unfold chart_Name_L0_step
  simp only [map_cond,map_bindO,map_elim,Option.map_some,Option.map_none]
theorem qe {R : Type} (x : tx) (k : ti → Option R) (r : R) (h : qa x k = some r) : ∃ o, Runs (LE.step X q8 q0 q2 12) x o ∧ k o = some r := by
  obtain ⟨o, h1, h2⟩ := some_bind h
  exact ⟨q9 x o, small_ok (st := fun (x : tx) => chart_Name_L0_st x.2.1 x.2.2.1) (prj := fun x => (x.1, x.2.2.2)) (emb := qb) (embO := q9) (fun x => (qc x).trans (qd (Sum.map (qb x) (q9 x)) x.2.1 x.2.2.1 x.1 x.2.2.2 (fun w0 w1 => (Sum.inl (w0, w1))) (fun p0 p1 => (Sum.inr (.inl (p0, p1)))) (fun p0 p1 => (Sum.inr (.inr (p0, p1))))).symm) (fun _ _ => rfl) (fun _ _ => rfl) (fun _ _ _ => rfl) (fun _ _ _ => rfl) (fun _ => rfl) (runOf_some.1 h1), by
    first
    | exact h2
    | (rcases o with o | o <;> exact h2)⟩
noncomputable def qf {R : Type} : Loops S R := LE.ls X q8 qa q2
theorem qg {R : Type} : LoopsOk X (qf (R := R)) := loop_ok xok q1 (e := q8) q3 qe q3
theorem qh (x0 : ByteArray) : evFn X q0 [.str] [.bool] qf 12 98 (x0, ()) = chart_Name x0:=by kernel_rfl
noncomputable def qi : F7 S := ⟨[.str], [.bool], fun xs => chart_Name xs.1⟩
theorem qj : FSOk X 98 qi := fsOk_eq (evFn_ok xok q1 qg 12 98) fun xs _ h => (qh xs.1).trans h
noncomputable def qk : List (Nat × F7 S) := []
theorem ql : TabOk X (qk) := trivial
abbrev qm {R : Type} : Loops S R := noLoops
theorem qn {R : Type} : LoopsOk X (qm (R := R)) := noLoops_ok X
def qo : Key := ⟨[127, 2, 1, 102, 2, 1, 124], 127, none, [0, 0, 1, 0, 1], 0, 17⟩
def qp : StT S := ⟨(N (N (N (N L (some (.int .i64 0)) L) none L) (some (.fn (.func 138) [] [(.ptr 0 0), (.ptr 1 0)])) L) (some (.sl (.int .i64) [])) (N (N (N L (some (.int .i64 0)) L) none L) none L)), (N (N L (some (.cells 3 [(.int .i64 0)])) L) (some (.cells 3 [(.int .i64 0)])) L), 17⟩
def qq : Way S := ⟨.ret, ⟨(N L none (N (N L (some (.int .i64 0)) L) none L)), (N (N L (some (.cells 3 [(.int .i64 0)])) L) (some (.cells 3 [(.int .i64 0)])) L), 38⟩, [.int, .int, .int]⟩
def qr : Way S := ⟨(.exit 0), ⟨L, (N (N L (some (.cells 3 [(.int .i64 0)])) L) (some (.cells 3 [(.int .i64 0)])) L), 18⟩, [.int, .int]⟩
def qs : LE S := ⟨qo, qp, [.int, (.lst (.int .i64)), .int, .int, .int], [qq, qr]⟩
def qt (x : tv) : (Int ⊕ Unit) → ty := Sum.elim (fun y0 => (.inl (y0, x.2.2.2.1, x.2.2.2.2))) (fun y1 => (.inr (x.2.2.2.1, x.2.2.2.2)))
noncomputable def qu {R : Type} (x : tv) (k : ty → Option R) : Option R := (chart_out_L0_run x.1 x.2.1 x.2.2.2.1 x.2.2.2.2 x.2.2.1).bind (Sum.elim (fun y0 => k (.inl (y0, x.2.2.2.1, x.2.2.2.2))) (fun y1 => k (.inr (x.2.2.2.1, x.2.2.2.2))))
def qv (x : tv) (v : Int) : tv := (x.1, x.2.1, v, x.2.2.2.1, x.2.2.2.2)
theorem qw (x : tv) : LE.step X qs qk qm 12 x = chart_out_L0_step x.1 x.2.1 x.2.2.2.1 x.2.2.2.2 x.2.2.1 (fun w0 => (Sum.inl (x.1, x.2.1, w0, x.2.2.2.1, x.2.2.2.2))) (fun p0 => (Sum.inr (.inl (p0, x.2.2.2.1, x.2.2.2.2)))) (Sum.inr (.inr (x.2.2.2.1, x.2.2.2.2))):=by kernel_rfl
theorem qx {ρ ρ' : Type} (f : ρ → ρ') (x0 : Int) (x1 : List Int) (x3 : Int) (x4 : Int) (x2 : Int) (nx : (Int) → ρ) (e0 : (Int) → ρ) (e1 : ρ) : Option.map f (chart_out_L0_step x0 x1 x3 x4 x2 nx e0 e1) = chart_out_L0_step x0 x1 x3 x4 x2 (fun w0 => (f (nx w0))) (fun p0 => (f (e0 p0))) (f (e1)) := by
  unfold chart_out_L0_step
  simp only [map_cond,map_bindO,map_elim,Option.map_some,Option.map_none]
theorem qy {R : Type} (x : tv) (k : ty → Option R) (r : R) (h : qu x k = some r) : ∃ o, Runs (LE.step X qs qk qm 12) x o ∧ k o = some r := by
  obtain ⟨o, h1, h2⟩ := some_bind h
  exact ⟨qt x o, small_ok (st := fun (x : tv) => chart_out_L0_st x.1 x.2.1 x.2.2.2.1 x.2.2.2.2) (prj := fun x => x.2.2.1) (emb := qv) (embO := qt) (fun x => (qw x).trans (qx (Sum.map (qv x) (qt x)) x.1 x.2.1 x.2.2.2.1 x.2.2.2.2 x.2.2.1 (fun w0 => (Sum.inl w0)) (fun p0 => (Sum.inr (.inl p0))) (Sum.inr (.inr ()))).symm) (fun _ _ => rfl) (fun _ _ => rfl) (fun _ _ _ => rfl) (fun _ _ _ => rfl) (fun _ => rfl) (runOf_some.1 h1), by
    first
    | exact h2
    | (rcases o with o | o <;> exact h2)⟩
noncomputable def qz {R : Type} : Loops S R := LE.ls X qs qu qm
theorem qA {R : Type} : LoopsOk X (qz (R := R)) := loop_ok xok ql (e := qs) qn qy qn
theorem qB (x0 : Int) (x1 : Int) (x2 : List Int) : evFn X qk [(.int .i64), (.int .i64), (.sl (.int .i64))] [.bool] qz 12 124 (x0, x1, x2, ()) = chart_out x0 x1 x2:=by kernel_rfl
noncomputable def qC : F7 S := ⟨[(.int .i64), (.int .i64), (.sl (.int .i64))], [.bool], fun xs => chart_out xs.1 xs.2.1 xs.2.2.1⟩
theorem qD : FSOk X 124 qC := fsOk_eq (evFn_ok xok ql qA 12 124) fun xs _ h => (qB xs.1 xs.2.1 xs.2.2.1).trans h
noncomputable def qE : List (Nat × F7 S) := [(124, qC)]
theorem qF : TabOk X (qE) := ⟨qD, trivial⟩
abbrev qG {R : Type} : Loops S R := noLoops
theorem qH {R : Type} : LoopsOk X (qG (R := R)) := noLoops_ok X
def qI : Key := ⟨[137, 2, 1, 122, 2, 1, 99], 137, none, [0, 0, 1, 0, 1], 0, 16⟩
def qJ : StT S := ⟨(N (N (N (N L (some (.int .i64 0)) L) none L) (some (.fn (.func 123) [] [(.ptr 0 0)])) L) (some (.sl (.st 2) [])) (N (N (N L (some (.int .i64 0)) L) none L) none L)), (N L (some (.cells 3 [(.int .i64 0)])) L), 16⟩
def qK : Way S := ⟨.ret, ⟨(N L none (N (N L (some (.int .i64 0)) L) none L)), (N (N L none (N (N L none (N L (some (.cells 46 [(.stc 2 (T.dflt 2))])) L)) none L)) (some (.cells 3 [(.int .i64 0)])) (N L none (N (N (N (N L (some (.row 3 (.int .i64) [] 0 0)) L) none L) none L) none L))), 39⟩, [.int, (.st 2), .int, (.lst (.int .i64)), .nat]⟩
def qL : Way S := ⟨(.exit 0), ⟨L, (N L (some (.cells 3 [(.int .i64 0)])) L), 17⟩, [.int]⟩
def qM : LE S := ⟨qI, qJ, [.int, (.lst (.st 2)), .int, .int], [qK, qL]⟩
def qN (x : tz) : ((Int × Point × (List Int) × Nat) ⊕ Unit) → tp := Sum.elim (fun y0 => (.inl (y0.1, y0.2.1, x.2.2.2, y0.2.2.1, y0.2.2.2))) (fun y1 => (.inr x.2.2.2))
noncomputable def qO {R : Type} (x : tz) (k : tp → Option R) : Option R := (chart_far_L0_run x.1 x.2.1 x.2.2.2 x.2.2.1).bind (Sum.elim (fun y0 => k (.inl (y0.1, y0.2.1, x.2.2.2, y0.2.2.1, y0.2.2.2))) (fun y1 => k (.inr x.2.2.2)))
def qP (x : tz) (v : Int) : tz := (x.1, x.2.1, v, x.2.2.2)
theorem qQ (x : tz) : LE.step X qM qE qG 12 x = chart_far_L0_step x.1 x.2.1 x.2.2.2 x.2.2.1 (fun w0 => (Sum.inl (x.1, x.2.1, w0, x.2.2.2))) (fun p0 p1 p2 p3 => (Sum.inr (.inl (p0, p1, x.2.2.2, p2, p3)))) (Sum.inr (.inr x.2.2.2)):=by kernel_rfl
theorem qR {ρ ρ' : Type} (f : ρ → ρ') (x0 : Int) (x1 : List Point) (x3 : Int) (x2 : Int) (nx : (Int) → ρ) (e0 : (Int) → (Point) → (List Int) → (Nat) → ρ) (e1 : ρ) : Option.map f (chart_far_L0_step x0 x1 x3 x2 nx e0 e1) = chart_far_L0_step x0 x1 x3 x2 (fun w0 => (f (nx w0))) (fun p0 p1 p2 p3 => (f (e0 p0 p1 p2 p3))) (f (e1)) := by
  unfold chart_far_L0_step
  simp only [map_cond,map_bindO,map_elim,Option.map_some,Option.map_none]
theorem qS {R : Type} (x : tz) (k : tp → Option R) (r : R) (h : qO x k = some r) : ∃ o, Runs (LE.step X qM qE qG 12) x o ∧ k o = some r := by
  obtain ⟨o, h1, h2⟩ := some_bind h
  exact ⟨qN x o, small_ok (st := fun (x : tz) => chart_far_L0_st x.1 x.2.1 x.2.2.2) (prj := fun x => x.2.2.1) (emb := qP) (embO := qN) (fun x => (qQ x).trans (qR (Sum.map (qP x) (qN x)) x.1 x.2.1 x.2.2.2 x.2.2.1 (fun w0 => (Sum.inl w0)) (fun p0 p1 p2 p3 => (Sum.inr (.inl (p0, p1, p2, p3)))) (Sum.inr (.inr ()))).symm) (fun _ _ => rfl) (fun _ _ => rfl) (fun _ _ _ => rfl) (fun _ _ _ => rfl) (fun _ => rfl) (runOf_some.1 h1), by
    first
    | exact h2
    | (rcases o with o | o <;> exact h2)⟩
noncomputable def qT {R : Type} : Loops S R := LE.ls X qM qO qG
theorem qU {R : Type} : LoopsOk X (qT (R := R)) := loop_ok xok qF (e := qM) qH qS qH
theorem qV (x0 : Int) (x1 : List Point) : evFn X qE [(.int .i64), (.sl (.st 2))] [.bool] qT 12 99 (x0, x1, ()) = chart_far x0 x1:=by kernel_rfl
noncomputable def qW : F7 S := ⟨[(.int .i64), (.sl (.st 2))], [.bool], fun xs => chart_far xs.1 xs.2.1⟩
theorem qX : FSOk X 99 qW := fsOk_eq (evFn_ok xok qF qU 12 99) fun xs _ h => (qV xs.1 xs.2.1).trans h
noncomputable def qY : List (Nat × F7 S) := [(124, qC)]
theorem qZ : TabOk X (qY) := ⟨qD, trivial⟩
abbrev q10 {R : Type} : Loops S R := noLoops
theorem q11 {R : Type} : LoopsOk X (q10 (R := R)) := noLoops_ok X
def q12 : Key := ⟨[100], 100, none, [0, 0, 1, 0, 1, 1, 1], 0, 9⟩
def q13 : StT S := ⟨(N (N (N L (some (.int .i64 0)) (N L (some (.int .i64 0)) L)) none L) none (N (N L none (N L (some (.int .i64 0)) L)) none (N (N L (some (.sl (.st 3) [])) L) none L))), (N (N (N L (some (.row 3 (.int .i64) [] 0 0)) L) none L) none L), 9⟩
def q14 : Way S := ⟨.ret, ⟨(N L none (N L (some (.int .i64 0)) L)), (N (N (N L (some (.row 3 (.int .i64) [] 0 0)) L) none L) none (N (N (N (N L (some (.row 3 (.int .i64) [] 0 0)) L) none L) none (N L (some (.cells 184 [(.stc 3 (T.dflt 3))])) L)) none L)), 26⟩, [.int, (.lst (.int .i64)), .nat, (.lst (.int .i64)), .nat, (.st 3)]⟩
def q15 : Way S := ⟨.ret, ⟨(N L none (N L (some (.int .i64 0)) L)), (N (N (N L (some (.row 3 (.int .i64) [] 0 0)) L) none (N L none (N (N L (some (.row 3 (.int .i64) [] 0 0)) L) none L))) none (N (N (N (N L (some (.row 3 (.int .i64) [] 0 0)) L) none L) none (N L (some (.cells 184 [(.stc 3 (T.dflt 3))])) L)) none L)), 26⟩, [.int, (.lst (.int .i64)), .nat, (.lst (.int .i64)), .nat, (.lst (.int .i64)), .nat, (.st 3)]⟩
def q16 : Way S := ⟨.ret, ⟨(N L none (N L (some (.int .i64 0)) L)), (N (N (N L (some (.row 3 (.int .i64) [] 0 0)) L) none (N L none (N (N L (some (.row 3 (.int .i64) [] 0 0)) L) none L))) none (N (N (N (N L (some (.row 3 (.int .i64) [] 0 0)) L) none L) none (N L (some (.cells 184 [(.stc 3 (T.dflt 3))])) L)) none L)), 31⟩, [.int, (.lst (.int .i64)), .nat, (.lst (.int .i64)), .nat, (.lst (.int .i64)), .nat, (.st 3)]⟩
def q17 : Way S := ⟨(.exit 0), ⟨L, (N (N (N L (some (.row 3 (.int .i64) [] 0 0)) L) none L) none L), 10⟩, [(.lst (.int .i64)), .nat]⟩
def q18 : LE S := ⟨q12, q13, [.int, .int, .int, (.lst (.st 3)), (.lst (.int .i64)), .nat], [q14, q15, q16, q17]⟩
def q19 (x : tn) : ((Int × (List Int) × Nat × CtPaint) ⊕ (Int × (List Int) × Nat × (List Int) × Nat × CtPaint) ⊕ (Int × (List Int) × Nat × (List Int) × Nat × CtPaint) ⊕ Unit) → t5 := Sum.elim (fun y0 => (.inl (y0.1, x.2.2.2.2.1, x.2.2.2.2.2, y0.2.1, y0.2.2.1, y0.2.2.2))) (Sum.elim (fun y1 => (.inr (.inl (y1.1, x.2.2.2.2.1, x.2.2.2.2.2, y1.2.1, y1.2.2.1, y1.2.2.2.1, y1.2.2.2.2.1, y1.2.2.2.2.2)))) (Sum.elim (fun y2 => (.inr (.inr (.inl (y2.1, x.2.2.2.2.1, x.2.2.2.2.2, y2.2.1, y2.2.2.1, y2.2.2.2.1, y2.2.2.2.2.1, y2.2.2.2.2.2))))) (fun y3 => (.inr (.inr (.inr (x.2.2.2.2.1, x.2.2.2.2.2)))))))
noncomputable def q1a {R : Type} (x : tn) (k : t5 → Option R) : Option R := (chart_paints_L0_run x.2.1 x.2.2.2.1 x.2.2.2.2.1 x.2.2.2.2.2 (x.1, x.2.2.1)).bind (Sum.elim (fun y0 => k (.inl (y0.1, x.2.2.2.2.1, x.2.2.2.2.2, y0.2.1, y0.2.2.1, y0.2.2.2))) (Sum.elim (fun y1 => k (.inr (.inl (y1.1, x.2.2.2.2.1, x.2.2.2.2.2, y1.2.1, y1.2.2.1, y1.2.2.2.1, y1.2.2.2.2.1, y1.2.2.2.2.2)))) (Sum.elim (fun y2 => k (.inr (.inr (.inl (y2.1, x.2.2.2.2.1, x.2.2.2.2.2, y2.2.1, y2.2.2.1, y2.2.2.2.1, y2.2.2.2.2.1, y2.2.2.2.2.2))))) (fun y3 => k (.inr (.inr (.inr (x.2.2.2.2.1, x.2.2.2.2.2))))))))
def q1b (x : tn) (v : (Int × Int)) : tn := (v.1, x.2.1, v.2, x.2.2.2.1, x.2.2.2.2.1, x.2.2.2.2.2)
theorem q1c (x : tn) : LE.step X q18 qY q10 12 x = chart_paints_L0_step x.2.1 x.2.2.2.1 x.2.2.2.2.1 x.2.2.2.2.2 x.1 x.2.2.1 (fun w0 w1 => (Sum.inl (w0, x.2.1, w1, x.2.2.2.1, x.2.2.2.2.1, x.2.2.2.2.2))) (fun p0 p1 p2 p3 => (Sum.inr (.inl (p0, x.2.2.2.2.1, x.2.2.2.2.2, p1, p2, p3)))) (fun p0 p1 p2 p3 p4 p5 => (Sum.inr (.inr (.inl (p0, x.2.2.2.2.1, x.2.2.2.2.2, p1, p2, p3, p4, p5))))) (fun p0 p1 p2 p3 p4 p5 => (Sum.inr (.inr (.inr (.inl (p0, x.2.2.2.2.1, x.2.2.2.2.2, p1, p2, p3, p4, p5)))))) (Sum.inr (.inr (.inr (.inr (x.2.2.2.2.1, x.2.2.2.2.2))))):=by kernel_rfl
theorem q1d {ρ ρ' : Type} (f : ρ → ρ') (x1 : Int) (x3 : List CtPaint) (x4 : List Int) (x5 : Nat) (x0 : Int) (x2 : Int) (nx : (Int) → (Int) → ρ) (e0 : (Int) → (List Int) → (Nat) → (CtPaint) → ρ) (e1 : (Int) → (List Int) → (Nat) → (List Int) → (Nat) → (CtPaint) → ρ) (e2 : (Int) → (List Int) → (Nat) → (List Int) → (Nat) → (CtPaint) → ρ) (e3 : ρ) : Option.map f (chart_paints_L0_step x1 x3 x4 x5 x0 x2 nx e0 e1 e2 e3) = chart_paints_L0_step x1 x3 x4 x5 x0 x2 (fun w0 w1 => (f (nx w0 w1))) (fun p0 p1 p2 p3 => (f (e0 p0 p1 p2 p3))) (fun p0 p1 p2 p3 p4 p5 => (f (e1 p0 p1 p2 p3 p4 p5))) (fun p0 p1 p2 p3 p4 p5 => (f (e2 p0 p1 p2 p3 p4 p5))) (f (e3)) := by
  unfold chart_paints_L0_step
  simp only [map_cond,map_bindO,map_elim,Option.map_some,Option.map_none]
theorem q1e {R : Type} (x : tn) (k : t5 → Option R) (r : R) (h : q1a x k = some r) : ∃ o, Runs (LE.step X q18 qY q10 12) x o ∧ k o = some r := by
  obtain ⟨o, h1, h2⟩ := some_bind h
  exact ⟨q19 x o, small_ok (st := fun (x : tn) => chart_paints_L0_st x.2.1 x.2.2.2.1 x.2.2.2.2.1 x.2.2.2.2.2) (prj := fun x => (x.1, x.2.2.1)) (emb := q1b) (embO := q19) (fun x => (q1c x).trans (q1d (Sum.map (q1b x) (q19 x)) x.2.1 x.2.2.2.1 x.2.2.2.2.1 x.2.2.2.2.2 x.1 x.2.2.1 (fun w0 w1 => (Sum.inl (w0, w1))) (fun p0 p1 p2 p3 => (Sum.inr (.inl (p0, p1, p2, p3)))) (fun p0 p1 p2 p3 p4 p5 => (Sum.inr (.inr (.inl (p0, p1, p2, p3, p4, p5))))) (fun p0 p1 p2 p3 p4 p5 => (Sum.inr (.inr (.inr (.inl (p0, p1, p2, p3, p4, p5)))))) (Sum.inr (.inr (.inr (.inr ()))))).symm) (fun _ _ => rfl) (fun _ _ => rfl) (fun _ _ _ => rfl) (fun _ _ _ => rfl) (fun _ => rfl) (runOf_some.1 h1), by
    first
    | exact h2
    | (rcases o with o | o | o | o <;> exact h2)⟩
noncomputable def q1f {R : Type} : Loops S R := LE.ls X q18 q1a q10
theorem q1g {R : Type} : LoopsOk X (q1f (R := R)) := loop_ok xok qZ (e := q18) q11 q1e q11
theorem q1h (x0 : List CtPaint) : evFn X qY [(.sl (.st 3))] [(.int .i64)] q1f 12 100 (x0, ()) = chart_paints x0:=by kernel_rfl
noncomputable def q1i : F7 S := ⟨[(.sl (.st 3))], [(.int .i64)], fun xs => chart_paints xs.1⟩
theorem q1j : FSOk X 100 q1i := fsOk_eq (evFn_ok xok qZ q1g 12 100) fun xs _ h => (q1h xs.1).trans h
noncomputable def q1k : List (Nat × F7 S) := [(124, qC)]
theorem q1l : TabOk X (q1k) := ⟨qD, trivial⟩
abbrev q1m {R : Type} : Loops S R := noLoops
theorem q1n {R : Type} : LoopsOk X (q1m (R := R)) := noLoops_ok X
theorem q1o (x0 : CtBox) (x1 : Int) : evFn X q1k [(.st 6), (.int .i64)] [(.int .i64)] q1m 12 125 (x0, x1, ()) = chart_box x0 x1:=by kernel_rfl
noncomputable def q1p : F7 S := ⟨[(.st 6), (.int .i64)], [(.int .i64)], fun xs => chart_box xs.1 xs.2.1⟩
theorem q1q : FSOk X 125 q1p := fsOk_eq (evFn_ok xok q1l q1n 12 125) fun xs _ h => (q1o xs.1 xs.2.1).trans h
noncomputable def q1r : List (Nat × F7 S) := []
theorem q1s : TabOk X (q1r) := trivial
abbrev q1t {R : Type} : Loops S R := noLoops
theorem q1u {R : Type} : LoopsOk X (q1t (R := R)) := noLoops_ok X
theorem q1v (x0 : Point) (x1 : Point) : evFn X q1r [(.st 2), (.st 2)] [(.st 2)] q1t 12 120 (x0, x1, ()) = chart_from x0 x1:=by kernel_rfl
noncomputable def q1w : F7 S := ⟨[(.st 2), (.st 2)], [(.st 2)], fun xs => chart_from xs.1 xs.2.1⟩
theorem q1x : FSOk X 120 q1w := fsOk_eq (evFn_ok xok q1s q1u 12 120) fun xs _ h => (q1v xs.1 xs.2.1).trans h
noncomputable def q1y : List (Nat × F7 S) := []
theorem q1z : TabOk X (q1y) := trivial
abbrev q1A {R : Type} : Loops S R := noLoops
theorem q1B {R : Type} : LoopsOk X (q1A (R := R)) := noLoops_ok X
theorem q1C (x0 : Point) (x1 : Point) : evFn X q1y [(.st 2), (.st 2)] [(.int .i64)] q1A 12 126 (x0, x1, ()) = chart_left x0 x1:=by kernel_rfl
noncomputable def q1D : F7 S := ⟨[(.st 2), (.st 2)], [(.int .i64)], fun xs => chart_left xs.1 xs.2.1⟩
theorem q1E : FSOk X 126 q1D := fsOk_eq (evFn_ok xok q1z q1B 12 126) fun xs _ h => (q1C xs.1 xs.2.1).trans h
noncomputable def q1F : List (Nat × F7 S) := [(124, qC), (99, qW), (125, q1p), (120, q1w), (126, q1D)]
theorem q1G : TabOk X (q1F) := ⟨qD, qX, q1q, q1x, q1E, trivial⟩
abbrev q1H {R : Type} : Loops S R := noLoops
theorem q1I {R : Type} : LoopsOk X (q1H (R := R)) := noLoops_ok X
def q1J : Key := ⟨[27, 6, 4, 135, 1, 101], 101, (some 27), [0, 0, 1, 0, 1, 0, 1, 0, 1, 0, 1, 1, 1], 3, 66⟩
def q1K : StT S := ⟨(N (N L none (N (N (N (N L (some (.int .i64 0)) L) none L) none L) (some (.int .i64 0)) L)) none (N (N (N (N (N L (some (.sl (.st 2) [])) L) none L) none L) (some (.ptr 58 0)) L) (some (.ptr 1 0)) (N (N (N (N L (some (.int .i64 0)) L) none L) none L) none L))), (N (N (N (N L none (N L (some (.cells 147 [(.stc 15 (T.dflt 15))])) L)) none (N L none (N L (some (.loop 101 (N (N (N (N (N L (some (.bool false)) L) none L) (some (.int .i64 0)) L) (some (.ptr 0 0)) (N (N L none (N L (some (.bool false)) L)) none L)) (some (.agg [(.stc 15 (T.dflt 15))])) (N (N (N L (some (.bool false)) L) none (N L none (N L (some (.fn (.func 135) [] [(.ptr 23 0)])) L))) (some (.ptr 1 0)) L)) (29 :: []) .skip .skip 1 .busy (1 :: (101 :: [])) (0 :: (1 :: (0 :: (1 :: (1 :: (1 :: [])))))))) L))) (some (.cells 33 [(.int .i64 0)])) L) (some (.cells 147 [(.stc 15 (T.dflt 15))])) (N (N (N (N L none (N L (some (.cells 46 [(.stc 2 (T.dflt 2))])) L)) none L) none L) none (N (N L none (N L none (N L (some (.cells 179 [(.stc 17 (T.dflt 17))])) L))) (some (.row 3 (.int .i64) [] 0 0)) (N (N (N L (some (.cells 46 [(.stc 2 (T.dflt 2))])) L) none L) none L)))), 66⟩
def q1L : Way S := ⟨(.exit 3), ⟨(N (N L none (N L (some (.int .i64 0)) L)) none (N (N L (some (.ptr 58 0)) L) (some (.ptr 1 0)) L)), (N (N (N (N L none (N L (some (.cells 147 [(.stc 15 (T.dflt 15))])) L)) none (N L none (N L (some (.loop 101 (N (N (N (N (N L (some (.bool false)) L) none L) (some (.int .i64 0)) L) (some (.ptr 0 0)) (N (N L none (N L (some (.bool false)) L)) none L)) (some (.agg [(.stc 15 (T.dflt 15))])) (N (N (N L (some (.bool false)) L) none (N L none (N L (some (.fn (.func 135) [] [(.ptr 23 0)])) L))) (some (.ptr 1 0)) L)) (29 :: []) .skip .skip 1 .busy (1 :: (101 :: [])) (0 :: (1 :: (0 :: (1 :: (1 :: (1 :: [])))))))) L))) (some (.cells 33 [(.int .i64 0)])) L) (some (.cells 147 [(.stc 15 (T.dflt 15))])) (N (N (N (N L none (N L (some (.cells 46 [(.stc 2 (T.dflt 2))])) L)) none L) none L) none (N (N L none (N L none (N L (some (.cells 179 [(.stc 17 (T.dflt 17))])) L))) (some (.row 3 (.int .i64) [] 0 0)) (N (N (N L (some (.cells 46 [(.stc 2 (T.dflt 2))])) L) none L) none L)))), 67⟩, [.int, (.st 15), .bool, .int, .bool, (.st 15), .bool, .int, (.st 15), (.st 2), (.st 17), (.lst (.int .i64)), .nat, (.st 2)]⟩
def q1M : LE S := ⟨q1J, q1K, [.int, .int, (.lst (.st 2)), .int, (.st 15), .bool, .int, .bool, (.st 15), .bool, .int, (.st 15), (.st 2), (.st 17), (.lst (.int .i64)), .nat, (.st 2)], [q1L]⟩
def q1N (x : t8) : Int → t9 := fun y0 => (y0, x.2.2.2.2.1, x.2.2.2.2.2.1, x.2.2.2.2.2.2.1, x.2.2.2.2.2.2.2.1, x.2.2.2.2.2.2.2.2.1, x.2.2.2.2.2.2.2.2.2.1, x.2.2.2.2.2.2.2.2.2.2.1, x.2.2.2.2.2.2.2.2.2.2.2.1, x.2.2.2.2.2.2.2.2.2.2.2.2.1, x.2.2.2.2.2.2.2.2.2.2.2.2.2.1, x.2.2.2.2.2.2.2.2.2.2.2.2.2.2.1, x.2.2.2.2.2.2.2.2.2.2.2.2.2.2.2.1, x.2.2.2.2.2.2.2.2.2.2.2.2.2.2.2.2)
noncomputable def q1O {R : Type} (x : t8) (k : t9 → Option R) : Option R := (chart_sand_check_L1_run x.1 x.2.2.1 x.2.2.2.2.1 x.2.2.2.2.2.1 x.2.2.2.2.2.2.1 x.2.2.2.2.2.2.2.1 x.2.2.2.2.2.2.2.2.1 x.2.2.2.2.2.2.2.2.2.1 x.2.2.2.2.2.2.2.2.2.2.1 x.2.2.2.2.2.2.2.2.2.2.2.1 x.2.2.2.2.2.2.2.2.2.2.2.2.1 x.2.2.2.2.2.2.2.2.2.2.2.2.2.1 x.2.2.2.2.2.2.2.2.2.2.2.2.2.2.1 x.2.2.2.2.2.2.2.2.2.2.2.2.2.2.2.1 x.2.2.2.2.2.2.2.2.2.2.2.2.2.2.2.2 (x.2.1, x.2.2.2.1)).bind (fun y0 => k (y0, x.2.2.2.2.1, x.2.2.2.2.2.1, x.2.2.2.2.2.2.1, x.2.2.2.2.2.2.2.1, x.2.2.2.2.2.2.2.2.1, x.2.2.2.2.2.2.2.2.2.1, x.2.2.2.2.2.2.2.2.2.2.1, x.2.2.2.2.2.2.2.2.2.2.2.1, x.2.2.2.2.2.2.2.2.2.2.2.2.1, x.2.2.2.2.2.2.2.2.2.2.2.2.2.1, x.2.2.2.2.2.2.2.2.2.2.2.2.2.2.1, x.2.2.2.2.2.2.2.2.2.2.2.2.2.2.2.1, x.2.2.2.2.2.2.2.2.2.2.2.2.2.2.2.2))
def q1P (x : t8) (v : (Int × Int)) : t8 := (x.1, v.1, x.2.2.1, v.2, x.2.2.2.2.1, x.2.2.2.2.2.1, x.2.2.2.2.2.2.1, x.2.2.2.2.2.2.2.1, x.2.2.2.2.2.2.2.2.1, x.2.2.2.2.2.2.2.2.2.1, x.2.2.2.2.2.2.2.2.2.2.1, x.2.2.2.2.2.2.2.2.2.2.2.1, x.2.2.2.2.2.2.2.2.2.2.2.2.1, x.2.2.2.2.2.2.2.2.2.2.2.2.2.1, x.2.2.2.2.2.2.2.2.2.2.2.2.2.2.1, x.2.2.2.2.2.2.2.2.2.2.2.2.2.2.2.1, x.2.2.2.2.2.2.2.2.2.2.2.2.2.2.2.2)
theorem q1Q (x : t8) : LE.step X q1M q1F q1H 12 x = chart_sand_check_L1_step x.1 x.2.2.1 x.2.2.2.2.1 x.2.2.2.2.2.1 x.2.2.2.2.2.2.1 x.2.2.2.2.2.2.2.1 x.2.2.2.2.2.2.2.2.1 x.2.2.2.2.2.2.2.2.2.1 x.2.2.2.2.2.2.2.2.2.2.1 x.2.2.2.2.2.2.2.2.2.2.2.1 x.2.2.2.2.2.2.2.2.2.2.2.2.1 x.2.2.2.2.2.2.2.2.2.2.2.2.2.1 x.2.2.2.2.2.2.2.2.2.2.2.2.2.2.1 x.2.2.2.2.2.2.2.2.2.2.2.2.2.2.2.1 x.2.2.2.2.2.2.2.2.2.2.2.2.2.2.2.2 x.2.1 x.2.2.2.1 (fun w0 w1 => (Sum.inl (x.1, w0, x.2.2.1, w1, x.2.2.2.2.1, x.2.2.2.2.2.1, x.2.2.2.2.2.2.1, x.2.2.2.2.2.2.2.1, x.2.2.2.2.2.2.2.2.1, x.2.2.2.2.2.2.2.2.2.1, x.2.2.2.2.2.2.2.2.2.2.1, x.2.2.2.2.2.2.2.2.2.2.2.1, x.2.2.2.2.2.2.2.2.2.2.2.2.1, x.2.2.2.2.2.2.2.2.2.2.2.2.2.1, x.2.2.2.2.2.2.2.2.2.2.2.2.2.2.1, x.2.2.2.2.2.2.2.2.2.2.2.2.2.2.2.1, x.2.2.2.2.2.2.2.2.2.2.2.2.2.2.2.2))) (fun p0 => (Sum.inr (p0, x.2.2.2.2.1, x.2.2.2.2.2.1, x.2.2.2.2.2.2.1, x.2.2.2.2.2.2.2.1, x.2.2.2.2.2.2.2.2.1, x.2.2.2.2.2.2.2.2.2.1, x.2.2.2.2.2.2.2.2.2.2.1, x.2.2.2.2.2.2.2.2.2.2.2.1, x.2.2.2.2.2.2.2.2.2.2.2.2.1, x.2.2.2.2.2.2.2.2.2.2.2.2.2.1, x.2.2.2.2.2.2.2.2.2.2.2.2.2.2.1, x.2.2.2.2.2.2.2.2.2.2.2.2.2.2.2.1, x.2.2.2.2.2.2.2.2.2.2.2.2.2.2.2.2))):=by kernel_rfl
theorem q1R {ρ ρ' : Type} (f : ρ → ρ') (x0 : Int) (x2 : List Point) (x4 : chart_sand) (x5 : Bool) (x6 : Int) (x7 : Bool) (x8 : chart_sand) (x9 : Bool) (x10 : Int) (x11 : chart_sand) (x12 : Point) (x13 : chart_side) (x14 : List Int) (x15 : Nat) (x16 : Point) (x1 : Int) (x3 : Int) (nx : (Int) → (Int) → ρ) (e0 : (Int) → ρ) : Option.map f (chart_sand_check_L1_step x0 x2 x4 x5 x6 x7 x8 x9 x10 x11 x12 x13 x14 x15 x16 x1 x3 nx e0) = chart_sand_check_L1_step x0 x2 x4 x5 x6 x7 x8 x9 x10 x11 x12 x13 x14 x15 x16 x1 x3 (fun w0 w1 => (f (nx w0 w1))) (fun p0 => (f (e0 p0))) := by
  unfold chart_sand_check_L1_step
  simp only [map_cond,map_bindO,map_elim,Option.map_some,Option.map_none]
theorem q1S {R : Type} (x : t8) (k : t9 → Option R) (r : R) (h : q1O x k = some r) : ∃ o, Runs (LE.step X q1M q1F q1H 12) x o ∧ k o = some r := by
  obtain ⟨o, h1, h2⟩ := some_bind h
  exact ⟨q1N x o, small_ok (st := fun (x : t8) => chart_sand_check_L1_st x.1 x.2.2.1 x.2.2.2.2.1 x.2.2.2.2.2.1 x.2.2.2.2.2.2.1 x.2.2.2.2.2.2.2.1 x.2.2.2.2.2.2.2.2.1 x.2.2.2.2.2.2.2.2.2.1 x.2.2.2.2.2.2.2.2.2.2.1 x.2.2.2.2.2.2.2.2.2.2.2.1 x.2.2.2.2.2.2.2.2.2.2.2.2.1 x.2.2.2.2.2.2.2.2.2.2.2.2.2.1 x.2.2.2.2.2.2.2.2.2.2.2.2.2.2.1 x.2.2.2.2.2.2.2.2.2.2.2.2.2.2.2.1 x.2.2.2.2.2.2.2.2.2.2.2.2.2.2.2.2) (prj := fun x => (x.2.1, x.2.2.2.1)) (emb := q1P) (embO := q1N) (fun x => (q1Q x).trans (q1R (Sum.map (q1P x) (q1N x)) x.1 x.2.2.1 x.2.2.2.2.1 x.2.2.2.2.2.1 x.2.2.2.2.2.2.1 x.2.2.2.2.2.2.2.1 x.2.2.2.2.2.2.2.2.1 x.2.2.2.2.2.2.2.2.2.1 x.2.2.2.2.2.2.2.2.2.2.1 x.2.2.2.2.2.2.2.2.2.2.2.1 x.2.2.2.2.2.2.2.2.2.2.2.2.1 x.2.2.2.2.2.2.2.2.2.2.2.2.2.1 x.2.2.2.2.2.2.2.2.2.2.2.2.2.2.1 x.2.2.2.2.2.2.2.2.2.2.2.2.2.2.2.1 x.2.2.2.2.2.2.2.2.2.2.2.2.2.2.2.2 x.2.1 x.2.2.2.1 (fun w0 w1 => (Sum.inl (w0, w1))) (fun p0 => (Sum.inr p0))).symm) (fun _ _ => rfl) (fun _ _ => rfl) (fun _ _ _ => rfl) (fun _ _ _ => rfl) (fun _ => rfl) (runOf_some.1 h1), by
    first
    | exact h2
    | (rcases o with o <;> exact h2)⟩
noncomputable def q1T {R : Type} : Loops S R := LE.ls X q1M q1O q1H
theorem q1U {R : Type} : LoopsOk X (q1T (R := R)) := loop_ok xok q1G (e := q1M) q1I q1S q1I
def q1V : Key := ⟨[135, 1, 101], 135, none, [0, 0, 1, 1], 0, 45⟩
def q1W : StT S := ⟨(N (N (N L (some (.ptr 38 0)) (N (N L (some (.int .i64 0)) L) none L)) none L) (some (.yld 27)) (N (N L none (N (N L (some (.int .i64 0)) L) none L)) none (N (N (N L (some (.sl (.st 2) [])) L) none L) none L))), (N (N (N (N L none (N L (some (.cells 147 [(.stc 15 (T.dflt 15))])) L)) none (N L none (N L (some (.loop 101 (N (N (N (N (N L (some (.bool false)) L) none L) (some (.int .i64 0)) L) (some (.ptr 0 0)) (N (N L none (N L (some (.bool false)) L)) none L)) (some (.agg [(.stc 15 (T.dflt 15))])) (N (N (N L (some (.bool false)) L) none (N L none (N L (some (.fn (.func 135) [] [(.ptr 23 0)])) L))) (some (.ptr 1 0)) L)) (29 :: []) .skip .skip 1 .normal (1 :: (101 :: [])) (0 :: (1 :: (0 :: (1 :: (1 :: (1 :: [])))))))) L))) (some (.cells 33 [(.int .i64 0)])) L) (some (.cells 147 [(.stc 15 (T.dflt 15))])) (N L none (N L (some (.row 3 (.int .i64) [] 0 0)) (N (N (N L (some (.cells 46 [(.stc 2 (T.dflt 2))])) L) none L) none L)))), 45⟩
def q1X : Way S := ⟨.ret, ⟨L, (N (N (N (N L none (N L (some (.cells 147 [(.stc 15 (T.dflt 15))])) L)) none (N L none (N L (some (.loop 101 (N (N (N (N (N L (some (.bool false)) L) none L) (some (.int .i64 0)) L) (some (.ptr 0 0)) (N (N L none (N L (some (.bool false)) L)) none L)) (some (.agg [(.stc 15 (T.dflt 15))])) (N (N (N L (some (.bool false)) L) none (N L none (N L (some (.fn (.func 135) [] [(.ptr 23 0)])) L))) (some (.ptr 1 0)) L)) (29 :: []) .skip .skip 1 .ret (1 :: (101 :: [])) (0 :: (1 :: (0 :: (1 :: (1 :: (1 :: [])))))))) L))) (some (.cells 33 [(.int .i64 0)])) L) (some (.cells 147 [(.stc 15 (T.dflt 15))])) (N (N (N (N L none (N L (some (.cells 46 [(.stc 2 (T.dflt 2))])) L)) none L) none L) none (N (N L none (N L none (N L (some (.cells 179 [(.stc 17 (T.dflt 17))])) L))) (some (.row 3 (.int .i64) [] 0 0)) (N (N (N L (some (.cells 46 [(.stc 2 (T.dflt 2))])) L) none L) none L)))), 76⟩, [(.st 15), .bool, .int, .bool, (.st 15), .bool, .int, (.st 15), (.st 2), (.st 17), (.lst (.int .i64)), .nat, (.st 2)]⟩
def q1Y : Way S := ⟨(.exit 0), ⟨L, (N (N (N (N L none (N L (some (.cells 147 [(.stc 15 (T.dflt 15))])) L)) none (N L none (N L (some (.loop 101 (N (N (N (N (N L (some (.bool false)) L) none L) (some (.int .i64 0)) L) (some (.ptr 0 0)) (N (N L none (N L (some (.bool false)) L)) none L)) (some (.agg [(.stc 15 (T.dflt 15))])) (N (N (N L (some (.bool false)) L) none (N L none (N L (some (.fn (.func 135) [] [(.ptr 23 0)])) L))) (some (.ptr 1 0)) L)) (29 :: []) .skip .skip 1 .normal (1 :: (101 :: [])) (0 :: (1 :: (0 :: (1 :: (1 :: (1 :: [])))))))) L))) (some (.cells 33 [(.int .i64 0)])) L) (some (.cells 147 [(.stc 15 (T.dflt 15))])) (N L none (N L (some (.row 3 (.int .i64) [] 0 0)) (N (N (N L (some (.cells 46 [(.stc 2 (T.dflt 2))])) L) none L) none L)))), 46⟩, [(.st 15), .bool, .int, .bool, (.st 15), .bool, .int, (.st 15), (.lst (.int .i64)), .nat, (.st 2)]⟩
def q1Z : LE S := ⟨q1V, q1W, [.int, .int, (.lst (.st 2)), (.st 15), .bool, .int, .bool, (.st 15), .bool, .int, (.st 15), (.lst (.int .i64)), .nat, (.st 2)], [q1X, q1Y]⟩
def q20 (x : ta) : ((Int × Point × chart_side × Point) ⊕ Point) → t6 := Sum.elim (fun y0 => (.inl (x.2.2.2.1, x.2.2.2.2.1, x.2.2.2.2.2.1, x.2.2.2.2.2.2.1, x.2.2.2.2.2.2.2.1, x.2.2.2.2.2.2.2.2.1, y0.1, x.2.2.2.2.2.2.2.2.2.2.1, y0.2.1, y0.2.2.1, x.2.2.2.2.2.2.2.2.2.2.2.1, x.2.2.2.2.2.2.2.2.2.2.2.2.1, y0.2.2.2))) (fun y1 => (.inr (x.2.2.2.1, x.2.2.2.2.1, x.2.2.2.2.2.1, x.2.2.2.2.2.2.1, x.2.2.2.2.2.2.2.1, x.2.2.2.2.2.2.2.2.1, x.2.2.2.2.2.2.2.2.2.1, x.2.2.2.2.2.2.2.2.2.2.1, x.2.2.2.2.2.2.2.2.2.2.2.1, x.2.2.2.2.2.2.2.2.2.2.2.2.1, y1)))
noncomputable def q21 {R : Type} (x : ta) (k : t6 → Option R) : Option R := (chart_sand_check_L0_run x.1 x.2.2.1 x.2.2.2.1 x.2.2.2.2.1 x.2.2.2.2.2.1 x.2.2.2.2.2.2.1 x.2.2.2.2.2.2.2.1 x.2.2.2.2.2.2.2.2.1 x.2.2.2.2.2.2.2.2.2.1 x.2.2.2.2.2.2.2.2.2.2.1 x.2.2.2.2.2.2.2.2.2.2.2.1 x.2.2.2.2.2.2.2.2.2.2.2.2.1 (x.2.1, x.2.2.2.2.2.2.2.2.2.2.2.2.2)).bind (Sum.elim (fun y0 => k (.inl (x.2.2.2.1, x.2.2.2.2.1, x.2.2.2.2.2.1, x.2.2.2.2.2.2.1, x.2.2.2.2.2.2.2.1, x.2.2.2.2.2.2.2.2.1, y0.1, x.2.2.2.2.2.2.2.2.2.2.1, y0.2.1, y0.2.2.1, x.2.2.2.2.2.2.2.2.2.2.2.1, x.2.2.2.2.2.2.2.2.2.2.2.2.1, y0.2.2.2))) (fun y1 => k (.inr (x.2.2.2.1, x.2.2.2.2.1, x.2.2.2.2.2.1, x.2.2.2.2.2.2.1, x.2.2.2.2.2.2.2.1, x.2.2.2.2.2.2.2.2.1, x.2.2.2.2.2.2.2.2.2.1, x.2.2.2.2.2.2.2.2.2.2.1, x.2.2.2.2.2.2.2.2.2.2.2.1, x.2.2.2.2.2.2.2.2.2.2.2.2.1, y1))))
def q22 (x : ta) (v : (Int × Point)) : ta := (x.1, v.1, x.2.2.1, x.2.2.2.1, x.2.2.2.2.1, x.2.2.2.2.2.1, x.2.2.2.2.2.2.1, x.2.2.2.2.2.2.2.1, x.2.2.2.2.2.2.2.2.1, x.2.2.2.2.2.2.2.2.2.1, x.2.2.2.2.2.2.2.2.2.2.1, x.2.2.2.2.2.2.2.2.2.2.2.1, x.2.2.2.2.2.2.2.2.2.2.2.2.1, v.2)
theorem q23 (x : ta) : LE.step X q1Z q1F q1T 12 x = chart_sand_check_L0_step x.1 x.2.2.1 x.2.2.2.1 x.2.2.2.2.1 x.2.2.2.2.2.1 x.2.2.2.2.2.2.1 x.2.2.2.2.2.2.2.1 x.2.2.2.2.2.2.2.2.1 x.2.2.2.2.2.2.2.2.2.1 x.2.2.2.2.2.2.2.2.2.2.1 x.2.2.2.2.2.2.2.2.2.2.2.1 x.2.2.2.2.2.2.2.2.2.2.2.2.1 x.2.1 x.2.2.2.2.2.2.2.2.2.2.2.2.2 (fun w0 w1 => (Sum.inl (x.1, w0, x.2.2.1, x.2.2.2.1, x.2.2.2.2.1, x.2.2.2.2.2.1, x.2.2.2.2.2.2.1, x.2.2.2.2.2.2.2.1, x.2.2.2.2.2.2.2.2.1, x.2.2.2.2.2.2.2.2.2.1, x.2.2.2.2.2.2.2.2.2.2.1, x.2.2.2.2.2.2.2.2.2.2.2.1, x.2.2.2.2.2.2.2.2.2.2.2.2.1, w1))) (fun p0 p1 p2 p3 => (Sum.inr (.inl (x.2.2.2.1, x.2.2.2.2.1, x.2.2.2.2.2.1, x.2.2.2.2.2.2.1, x.2.2.2.2.2.2.2.1, x.2.2.2.2.2.2.2.2.1, p0, x.2.2.2.2.2.2.2.2.2.2.1, p1, p2, x.2.2.2.2.2.2.2.2.2.2.2.1, x.2.2.2.2.2.2.2.2.2.2.2.2.1, p3)))) (fun p0 => (Sum.inr (.inr (x.2.2.2.1, x.2.2.2.2.1, x.2.2.2.2.2.1, x.2.2.2.2.2.2.1, x.2.2.2.2.2.2.2.1, x.2.2.2.2.2.2.2.2.1, x.2.2.2.2.2.2.2.2.2.1, x.2.2.2.2.2.2.2.2.2.2.1, x.2.2.2.2.2.2.2.2.2.2.2.1, x.2.2.2.2.2.2.2.2.2.2.2.2.1, p0)))):=by kernel_rfl
theorem q24 {ρ ρ' : Type} (f : ρ → ρ') (x0 : Int) (x2 : List Point) (x3 : chart_sand) (x4 : Bool) (x5 : Int) (x6 : Bool) (x7 : chart_sand) (x8 : Bool) (x9 : Int) (x10 : chart_sand) (x11 : List Int) (x12 : Nat) (x1 : Int) (x13 : Point) (nx : (Int) → (Point) → ρ) (e0 : (Int) → (Point) → (chart_side) → (Point) → ρ) (e1 : (Point) → ρ) : Option.map f (chart_sand_check_L0_step x0 x2 x3 x4 x5 x6 x7 x8 x9 x10 x11 x12 x1 x13 nx e0 e1) = chart_sand_check_L0_step x0 x2 x3 x4 x5 x6 x7 x8 x9 x10 x11 x12 x1 x13 (fun w0 w1 => (f (nx w0 w1))) (fun p0 p1 p2 p3 => (f (e0 p0 p1 p2 p3))) (fun p0 => (f (e1 p0))) := by
  unfold chart_sand_check_L0_step
  simp only [map_cond,map_bindO,map_elim,Option.map_some,Option.map_none]
theorem q25 {R : Type} (x : ta) (k : t6 → Option R) (r : R) (h : q21 x k = some r) : ∃ o, Runs (LE.step X q1Z q1F q1T 12) x o ∧ k o = some r := by
  obtain ⟨o, h1, h2⟩ := some_bind h
  exact ⟨q20 x o, small_ok (st := fun (x : ta) => chart_sand_check_L0_st x.1 x.2.2.1 x.2.2.2.1 x.2.2.2.2.1 x.2.2.2.2.2.1 x.2.2.2.2.2.2.1 x.2.2.2.2.2.2.2.1 x.2.2.2.2.2.2.2.2.1 x.2.2.2.2.2.2.2.2.2.1 x.2.2.2.2.2.2.2.2.2.2.1 x.2.2.2.2.2.2.2.2.2.2.2.1 x.2.2.2.2.2.2.2.2.2.2.2.2.1) (prj := fun x => (x.2.1, x.2.2.2.2.2.2.2.2.2.2.2.2.2)) (emb := q22) (embO := q20) (fun x => (q23 x).trans (q24 (Sum.map (q22 x) (q20 x)) x.1 x.2.2.1 x.2.2.2.1 x.2.2.2.2.1 x.2.2.2.2.2.1 x.2.2.2.2.2.2.1 x.2.2.2.2.2.2.2.1 x.2.2.2.2.2.2.2.2.1 x.2.2.2.2.2.2.2.2.2.1 x.2.2.2.2.2.2.2.2.2.2.1 x.2.2.2.2.2.2.2.2.2.2.2.1 x.2.2.2.2.2.2.2.2.2.2.2.2.1 x.2.1 x.2.2.2.2.2.2.2.2.2.2.2.2.2 (fun w0 w1 => (Sum.inl (w0, w1))) (fun p0 p1 p2 p3 => (Sum.inr (.inl (p0, p1, p2, p3)))) (fun p0 => (Sum.inr (.inr p0)))).symm) (fun _ _ => rfl) (fun _ _ => rfl) (fun _ _ _ => rfl) (fun _ _ _ => rfl) (fun _ => rfl) (runOf_some.1 h1), by
    first
    | exact h2
    | (rcases o with o | o <;> exact h2)⟩
noncomputable def q26 {R : Type} : Loops S R := LE.ls X q1Z q21 q1T
theorem q27 {R : Type} : LoopsOk X (q26 (R := R)) := loop_ok xok q1G (e := q1Z) q1U q25 q1U
theorem q28 (x0 : chart_sand) : evFn X q1F [(.st 15)] [(.int .i64)] q26 12 101 (x0, ()) = chart_sand_check x0:=by kernel_rfl
noncomputable def q29 : F7 S := ⟨[(.st 15)], [(.int .i64)], fun xs => chart_sand_check xs.1⟩
theorem q2a : FSOk X 101 q29 := fsOk_eq (evFn_ok xok q1G q27 12 101) fun xs _ h => (q28 xs.1).trans h
noncomputable def q2b : List (Nat × F7 S) := [(98, qi), (99, qW), (100, q1i), (101, q29)]
theorem q2c : TabOk X (q2b) := ⟨qj, qX, q1j, q2a, trivial⟩
abbrev q2d {R : Type} : Loops S R := noLoops
theorem q2e {R : Type} : LoopsOk X (q2d (R := R)) := noLoops_ok X
def q2f : Key := ⟨[60], 60, none, [0, 0, 1, 0, 1, 1, 1, 1], 0, 17⟩
def q2g : StT S := ⟨(N (N (N L none (N (N L (some (.int .i64 0)) L) none L)) (some (.ptr 0 0)) L) none (N (N L none (N (N L (some (.int .i64 0)) L) none L)) none (N (N (N L (some (.sl (.st 4) [])) L) none L) (some (.fn (.func 97) [] [(.ptr 5 0)])) L))), (N (N L none (N L (some (.cells 153 [(.map 4)])) L)) (some (.cells 25 [(.stc 8 (T.dflt 8))])) (N (N L (some (.map .str (.int .i64) [])) L) none L)), 17⟩
def q2h : Way S := ⟨.ret, ⟨(N (N (N L (some (.int .i64 0)) L) none L) none (N (N L (some (.int .i64 0)) L) (some (.int .i64 0)) L)), (N (N L none (N L (some (.cells 153 [(.map 4)])) (N (N L (some (.cells 158 [(.stc 4 (T.dflt 4))])) L) none L))) (some (.cells 25 [(.stc 8 (T.dflt 8))])) (N (N L (some (.map .str (.int .i64) [])) L) none L)), 57⟩, [.int, .int, .int, (.st 4), (.st 8), (.mp .str (.int .i64))]⟩
def q2i : Way S := ⟨.ret, ⟨(N (N (N L (some (.int .i64 0)) L) none L) none (N (N L (some (.int .i64 0)) L) (some (.int .i64 0)) L)), (N (N L none (N L (some (.cells 153 [(.map 4)])) (N (N L (some (.cells 158 [(.stc 4 (T.dflt 4))])) L) none L))) (some (.cells 25 [(.stc 8 (T.dflt 8))])) (N (N L (some (.map .str (.int .i64) [])) L) none L)), 62⟩, [.int, .int, .int, (.st 4), (.st 8), (.mp .str (.int .i64))]⟩
def q2j : Way S := ⟨.ret, ⟨(N (N (N L (some (.int .i64 0)) L) none L) none (N (N L (some (.int .i64 0)) L) (some (.int .i64 0)) L)), (N (N L none (N L (some (.cells 153 [(.map 4)])) (N (N L (some (.cells 158 [(.stc 4 (T.dflt 4))])) L) none L))) (some (.cells 25 [(.stc 8 (T.dflt 8))])) (N (N L (some (.map .str (.int .i64) [])) L) none (N (N (N L none (N L (some (.row 46 (.st 2) [] 0 0)) L)) none L) none L))), 63⟩, [.int, .int, .int, (.st 4), (.st 8), (.mp .str (.int .i64)), (.lst (.st 2)), .nat]⟩
def q2k : Way S := ⟨.ret, ⟨(N (N (N L (some (.int .i64 0)) L) none L) none (N (N L (some (.int .i64 0)) L) (some (.int .i64 0)) L)), (N (N L none (N L (some (.cells 153 [(.map 4)])) (N (N L (some (.cells 158 [(.stc 4 (T.dflt 4))])) L) none L))) (some (.cells 25 [(.stc 8 (T.dflt 8))])) (N (N L (some (.map .str (.int .i64) [])) L) none (N (N (N L none (N L (some (.row 46 (.st 2) [] 0 0)) L)) none L) none L))), 66⟩, [.int, .int, .int, (.st 4), (.st 8), (.mp .str (.int .i64)), (.lst (.st 2)), .nat]⟩
def q2l : Way S := ⟨(.exit 0), ⟨(N (N L (some (.ptr 0 0)) L) none (N L none (N L (some (.fn (.func 97) [] [(.ptr 5 0)])) L))), (N (N L none (N L (some (.cells 153 [(.map 4)])) L)) (some (.cells 25 [(.stc 8 (T.dflt 8))])) (N (N L (some (.map .str (.int .i64) [])) L) none L)), 18⟩, [(.st 8), (.mp .str (.int .i64))]⟩
def q2m : LE S := ⟨q2f, q2g, [.int, .int, (.lst (.st 4)), (.st 8), (.mp .str (.int .i64))], [q2h, q2i, q2j, q2k, q2l]⟩
def q2n (x : tj) : ((Int × Int × Int × CtMark × tB) ⊕ (Int × Int × Int × CtMark × tB) ⊕ (Int × Int × Int × CtMark × tB × (List Point) × Nat) ⊕ (Int × Int × Int × CtMark × tB × (List Point) × Nat) ⊕ tB) → t1 := Sum.elim (fun y0 => (.inl (y0.1, y0.2.1, y0.2.2.1, y0.2.2.2.1, x.2.2.2.1, y0.2.2.2.2))) (Sum.elim (fun y1 => (.inr (.inl (y1.1, y1.2.1, y1.2.2.1, y1.2.2.2.1, x.2.2.2.1, y1.2.2.2.2)))) (Sum.elim (fun y2 => (.inr (.inr (.inl (y2.1, y2.2.1, y2.2.2.1, y2.2.2.2.1, x.2.2.2.1, y2.2.2.2.2.1, y2.2.2.2.2.2.1, y2.2.2.2.2.2.2))))) (Sum.elim (fun y3 => (.inr (.inr (.inr (.inl (y3.1, y3.2.1, y3.2.2.1, y3.2.2.2.1, x.2.2.2.1, y3.2.2.2.2.1, y3.2.2.2.2.2.1, y3.2.2.2.2.2.2)))))) (fun y4 => (.inr (.inr (.inr (.inr (x.2.2.2.1, y4)))))))))
noncomputable def q2o {R : Type} (x : tj) (k : t1 → Option R) : Option R := (chart_Check_L0_run x.1 x.2.2.1 x.2.2.2.1 (x.2.1, x.2.2.2.2)).bind (Sum.elim (fun y0 => k (.inl (y0.1, y0.2.1, y0.2.2.1, y0.2.2.2.1, x.2.2.2.1, y0.2.2.2.2))) (Sum.elim (fun y1 => k (.inr (.inl (y1.1, y1.2.1, y1.2.2.1, y1.2.2.2.1, x.2.2.2.1, y1.2.2.2.2)))) (Sum.elim (fun y2 => k (.inr (.inr (.inl (y2.1, y2.2.1, y2.2.2.1, y2.2.2.2.1, x.2.2.2.1, y2.2.2.2.2.1, y2.2.2.2.2.2.1, y2.2.2.2.2.2.2))))) (Sum.elim (fun y3 => k (.inr (.inr (.inr (.inl (y3.1, y3.2.1, y3.2.2.1, y3.2.2.2.1, x.2.2.2.1, y3.2.2.2.2.1, y3.2.2.2.2.2.1, y3.2.2.2.2.2.2)))))) (fun y4 => k (.inr (.inr (.inr (.inr (x.2.2.2.1, y4))))))))))
def q2p (x : tj) (v : (Int × tB)) : tj := (x.1, v.1, x.2.2.1, x.2.2.2.1, v.2)
theorem q2q (x : tj) : LE.step X q2m q2b q2d 12 x = chart_Check_L0_step x.1 x.2.2.1 x.2.2.2.1 x.2.1 x.2.2.2.2 (fun w0 w1 => (Sum.inl (x.1, w0, x.2.2.1, x.2.2.2.1, w1))) (fun p0 p1 p2 p3 p4 => (Sum.inr (.inl (p0, p1, p2, p3, x.2.2.2.1, p4)))) (fun p0 p1 p2 p3 p4 => (Sum.inr (.inr (.inl (p0, p1, p2, p3, x.2.2.2.1, p4))))) (fun p0 p1 p2 p3 p4 p5 p6 => (Sum.inr (.inr (.inr (.inl (p0, p1, p2, p3, x.2.2.2.1, p4, p5, p6)))))) (fun p0 p1 p2 p3 p4 p5 p6 => (Sum.inr (.inr (.inr (.inr (.inl (p0, p1, p2, p3, x.2.2.2.1, p4, p5, p6))))))) (fun p0 => (Sum.inr (.inr (.inr (.inr (.inr (x.2.2.2.1, p0))))))):=by kernel_rfl
theorem q2r {ρ ρ' : Type} (f : ρ → ρ') (x0 : Int) (x2 : List CtMark) (x3 : CtChart) (x1 : Int) (x4 : List (ByteArray × Int)) (nx : (Int) → tB → ρ) (e0 : (Int) → (Int) → (Int) → (CtMark) → tB → ρ) (e1 : (Int) → (Int) → (Int) → (CtMark) → tB → ρ) (e2 : (Int) → (Int) → (Int) → (CtMark) → tB → (List Point) → (Nat) → ρ) (e3 : (Int) → (Int) → (Int) → (CtMark) → tB → (List Point) → (Nat) → ρ) (e4 : tB → ρ) : Option.map f (chart_Check_L0_step x0 x2 x3 x1 x4 nx e0 e1 e2 e3 e4) = chart_Check_L0_step x0 x2 x3 x1 x4 (fun w0 w1 => (f (nx w0 w1))) (fun p0 p1 p2 p3 p4 => (f (e0 p0 p1 p2 p3 p4))) (fun p0 p1 p2 p3 p4 => (f (e1 p0 p1 p2 p3 p4))) (fun p0 p1 p2 p3 p4 p5 p6 => (f (e2 p0 p1 p2 p3 p4 p5 p6))) (fun p0 p1 p2 p3 p4 p5 p6 => (f (e3 p0 p1 p2 p3 p4 p5 p6))) (fun p0 => (f (e4 p0))) := by
  unfold chart_Check_L0_step
  simp only [map_cond,map_bindO,map_elim,Option.map_some,Option.map_none]
theorem q2s {R : Type} (x : tj) (k : t1 → Option R) (r : R) (h : q2o x k = some r) : ∃ o, Runs (LE.step X q2m q2b q2d 12) x o ∧ k o = some r := by
  obtain ⟨o, h1, h2⟩ := some_bind h
  exact ⟨q2n x o, small_ok (st := fun (x : tj) => chart_Check_L0_st x.1 x.2.2.1 x.2.2.2.1) (prj := fun x => (x.2.1, x.2.2.2.2)) (emb := q2p) (embO := q2n) (fun x => (q2q x).trans (q2r (Sum.map (q2p x) (q2n x)) x.1 x.2.2.1 x.2.2.2.1 x.2.1 x.2.2.2.2 (fun w0 w1 => (Sum.inl (w0, w1))) (fun p0 p1 p2 p3 p4 => (Sum.inr (.inl (p0, p1, p2, p3, p4)))) (fun p0 p1 p2 p3 p4 => (Sum.inr (.inr (.inl (p0, p1, p2, p3, p4))))) (fun p0 p1 p2 p3 p4 p5 p6 => (Sum.inr (.inr (.inr (.inl (p0, p1, p2, p3, p4, p5, p6)))))) (fun p0 p1 p2 p3 p4 p5 p6 => (Sum.inr (.inr (.inr (.inr (.inl (p0, p1, p2, p3, p4, p5, p6))))))) (fun p0 => (Sum.inr (.inr (.inr (.inr (.inr p0))))))).symm) (fun _ _ => rfl) (fun _ _ => rfl) (fun _ _ _ => rfl) (fun _ _ _ => rfl) (fun _ => rfl) (runOf_some.1 h1), by
    first
    | exact h2
    | (rcases o with o | o | o | o | o <;> exact h2)⟩
noncomputable def q2t {R : Type} : Loops S R := LE.ls X q2m q2o q2d
theorem q2u {R : Type} : LoopsOk X (q2t (R := R)) := loop_ok xok q2c (e := q2m) q2e q2s q2e
def q2v : Key := ⟨[60], 60, none, [0, 0, 1, 0, 1, 1, 1, 1, 1, 1], 2, 26⟩
def q2w : StT S := ⟨(N (N L none (N L none (N (N L none (N L (some (.int .i64 0)) L)) none L))) none (N (N L none (N (N L none (N L (some (.sl (.st 7) [])) L)) none L)) none (N L (some (.fn (.func 97) [] [(.ptr 5 0)])) (N (N L none (N L (some (.int .i64 0)) L)) none L)))), (N (N L none (N L (some (.cells 153 [(.map 4)])) L)) (some (.cells 25 [(.stc 8 (T.dflt 8))])) (N (N L (some (.map .str (.int .i64) [])) L) none L)), 26⟩
def q2x : Way S := ⟨.ret, ⟨(N (N (N L (some (.int .i64 0)) L) none L) none (N (N L (some (.int .i64 0)) L) (some (.int .i64 0)) L)), (N (N L none (N L (some (.cells 153 [(.map 4)])) L)) (some (.cells 25 [(.stc 8 (T.dflt 8))])) (N (N L (some (.map .str (.int .i64) [])) L) none (N L none (N L none (N L (some (.cells 79 [(.stc 7 (T.dflt 7))])) L))))), 58⟩, [.int, .int, .int, (.st 8), (.mp .str (.int .i64)), (.st 7)]⟩
def q2y : Way S := ⟨.ret, ⟨(N (N (N L (some (.int .i64 0)) L) none L) none (N (N L (some (.int .i64 0)) L) (some (.int .i64 0)) L)), (N (N L none (N L (some (.cells 153 [(.map 4)])) L)) (some (.cells 25 [(.stc 8 (T.dflt 8))])) (N (N L (some (.map .str (.int .i64) [])) L) none (N L none (N L none (N L (some (.cells 79 [(.stc 7 (T.dflt 7))])) L))))), 63⟩, [.int, .int, .int, (.st 8), (.mp .str (.int .i64)), (.st 7)]⟩
def q2z : Way S := ⟨.ret, ⟨(N (N (N L (some (.int .i64 0)) L) none L) none (N (N L (some (.int .i64 0)) L) (some (.int .i64 0)) L)), (N (N L none (N L (some (.cells 153 [(.map 4)])) L)) (some (.cells 25 [(.stc 8 (T.dflt 8))])) (N (N L (some (.map .str (.int .i64) [])) L) none (N L none (N L none (N L (some (.cells 79 [(.stc 7 (T.dflt 7))])) L))))), 67⟩, [.int, .int, .int, (.st 8), (.mp .str (.int .i64)), (.st 7)]⟩
def q2A : Way S := ⟨(.exit 2), ⟨L, (N (N L none (N L (some (.cells 153 [(.map 4)])) L)) (some (.cells 25 [(.stc 8 (T.dflt 8))])) (N (N L (some (.map .str (.int .i64) [])) L) none L)), 27⟩, [(.st 8), (.mp .str (.int .i64))]⟩
def q2B : LE S := ⟨q2v, q2w, [.int, (.lst (.st 7)), .int, (.st 8), (.mp .str (.int .i64))], [q2x, q2y, q2z, q2A]⟩
def q2C (x : tk) : (to ⊕ to ⊕ to ⊕ tB) → t4 := Sum.elim (fun y0 => (.inl (y0.1, y0.2.1, y0.2.2.1, x.2.2.2.1, y0.2.2.2.1, y0.2.2.2.2))) (Sum.elim (fun y1 => (.inr (.inl (y1.1, y1.2.1, y1.2.2.1, x.2.2.2.1, y1.2.2.2.1, y1.2.2.2.2)))) (Sum.elim (fun y2 => (.inr (.inr (.inl (y2.1, y2.2.1, y2.2.2.1, x.2.2.2.1, y2.2.2.2.1, y2.2.2.2.2))))) (fun y3 => (.inr (.inr (.inr (x.2.2.2.1, y3)))))))
noncomputable def q2D {R : Type} (x : tk) (k : t4 → Option R) : Option R := (chart_Check_L1_run x.1 x.2.1 x.2.2.2.1 (x.2.2.1, x.2.2.2.2)).bind (Sum.elim (fun y0 => k (.inl (y0.1, y0.2.1, y0.2.2.1, x.2.2.2.1, y0.2.2.2.1, y0.2.2.2.2))) (Sum.elim (fun y1 => k (.inr (.inl (y1.1, y1.2.1, y1.2.2.1, x.2.2.2.1, y1.2.2.2.1, y1.2.2.2.2)))) (Sum.elim (fun y2 => k (.inr (.inr (.inl (y2.1, y2.2.1, y2.2.2.1, x.2.2.2.1, y2.2.2.2.1, y2.2.2.2.2))))) (fun y3 => k (.inr (.inr (.inr (x.2.2.2.1, y3))))))))
def q2E (x : tk) (v : (Int × tB)) : tk := (x.1, x.2.1, v.1, x.2.2.2.1, v.2)
theorem q2F (x : tk) : LE.step X q2B q2b q2t 12 x = chart_Check_L1_step x.1 x.2.1 x.2.2.2.1 x.2.2.1 x.2.2.2.2 (fun w0 w1 => (Sum.inl (x.1, x.2.1, w0, x.2.2.2.1, w1))) (fun p0 p1 p2 p3 p4 => (Sum.inr (.inl (p0, p1, p2, x.2.2.2.1, p3, p4)))) (fun p0 p1 p2 p3 p4 => (Sum.inr (.inr (.inl (p0, p1, p2, x.2.2.2.1, p3, p4))))) (fun p0 p1 p2 p3 p4 => (Sum.inr (.inr (.inr (.inl (p0, p1, p2, x.2.2.2.1, p3, p4)))))) (fun p0 => (Sum.inr (.inr (.inr (.inr (x.2.2.2.1, p0)))))):=by kernel_rfl
theorem q2G {ρ ρ' : Type} (f : ρ → ρ') (x0 : Int) (x1 : List CtSand) (x3 : CtChart) (x2 : Int) (x4 : List (ByteArray × Int)) (nx : (Int) → tB → ρ) (e0 : (Int) → (Int) → (Int) → tB → (CtSand) → ρ) (e1 : (Int) → (Int) → (Int) → tB → (CtSand) → ρ) (e2 : (Int) → (Int) → (Int) → tB → (CtSand) → ρ) (e3 : tB → ρ) : Option.map f (chart_Check_L1_step x0 x1 x3 x2 x4 nx e0 e1 e2 e3) = chart_Check_L1_step x0 x1 x3 x2 x4 (fun w0 w1 => (f (nx w0 w1))) (fun p0 p1 p2 p3 p4 => (f (e0 p0 p1 p2 p3 p4))) (fun p0 p1 p2 p3 p4 => (f (e1 p0 p1 p2 p3 p4))) (fun p0 p1 p2 p3 p4 => (f (e2 p0 p1 p2 p3 p4))) (fun p0 => (f (e3 p0))) := by
  unfold chart_Check_L1_step
  simp only [map_cond,map_bindO,map_elim,Option.map_some,Option.map_none]
theorem q2H {R : Type} (x : tk) (k : t4 → Option R) (r : R) (h : q2D x k = some r) : ∃ o, Runs (LE.step X q2B q2b q2t 12) x o ∧ k o = some r := by
  obtain ⟨o, h1, h2⟩ := some_bind h
  exact ⟨q2C x o, small_ok (st := fun (x : tk) => chart_Check_L1_st x.1 x.2.1 x.2.2.2.1) (prj := fun x => (x.2.2.1, x.2.2.2.2)) (emb := q2E) (embO := q2C) (fun x => (q2F x).trans (q2G (Sum.map (q2E x) (q2C x)) x.1 x.2.1 x.2.2.2.1 x.2.2.1 x.2.2.2.2 (fun w0 w1 => (Sum.inl (w0, w1))) (fun p0 p1 p2 p3 p4 => (Sum.inr (.inl (p0, p1, p2, p3, p4)))) (fun p0 p1 p2 p3 p4 => (Sum.inr (.inr (.inl (p0, p1, p2, p3, p4))))) (fun p0 p1 p2 p3 p4 => (Sum.inr (.inr (.inr (.inl (p0, p1, p2, p3, p4)))))) (fun p0 => (Sum.inr (.inr (.inr (.inr p0)))))).symm) (fun _ _ => rfl) (fun _ _ => rfl) (fun _ _ _ => rfl) (fun _ _ _ => rfl) (fun _ => rfl) (runOf_some.1 h1), by
    first
    | exact h2
    | (rcases o with o | o | o | o <;> exact h2)⟩
noncomputable def q2I {R : Type} : Loops S R := LE.ls X q2B q2D q2t
theorem q2J {R : Type} : LoopsOk X (q2I (R := R)) := loop_ok xok q2c (e := q2B) q2u q2H q2u
theorem q2K (x0 : CtChart) : evFn X q2b [(.st 8)] [(.int .i64), (.int .i64), (.int .i64)] q2I 12 60 (x0, ()) = chart_Check x0:=by kernel_rfl
noncomputable def q2L : F7 S := ⟨[(.st 8)], [(.int .i64), (.int .i64), (.int .i64)], fun xs => chart_Check xs.1⟩
theorem q2M : FSOk X 60 q2L := fsOk_eq (evFn_ok xok q2c q2J 12 60) fun xs _ h => (q2K xs.1).trans h
noncomputable def q2N : List (Nat × F7 S) := []
theorem q2O : TabOk X (q2N) := trivial
abbrev q2P {R : Type} : Loops S R := noLoops
theorem q2Q {R : Type} : LoopsOk X (q2P (R := R)) := noLoops_ok X
def q2R : Key := ⟨[127, 2, 1, 102, 2, 1, 62], 127, none, [0, 0, 1, 0, 1], 0, 17⟩
def q2S : StT S := ⟨(N (N (N (N L (some (.int .i64 0)) L) none L) (some (.fn (.func 103) [] [(.ptr 0 0), (.ptr 1 0)])) L) (some (.sl (.int .i64) [])) (N (N (N L (some (.int .i64 0)) L) none L) none L)), (N (N L (some (.cells 3 [(.int .i64 0)])) L) (some (.cells 3 [(.int .i64 0)])) L), 17⟩
def q2T : Way S := ⟨.ret, ⟨(N L none (N (N L (some (.int .i64 0)) L) none L)), (N (N L (some (.cells 3 [(.int .i64 0)])) L) (some (.cells 3 [(.int .i64 0)])) L), 38⟩, [.int, .int, .int]⟩
def q2U : Way S := ⟨(.exit 0), ⟨L, (N (N L (some (.cells 3 [(.int .i64 0)])) L) (some (.cells 3 [(.int .i64 0)])) L), 18⟩, [.int, .int]⟩
def q2V : LE S := ⟨q2R, q2S, [.int, (.lst (.int .i64)), .int, .int, .int], [q2T, q2U]⟩
def q2W (x : tv) : (Int ⊕ Unit) → ty := Sum.elim (fun y0 => (.inl (y0, x.2.2.2.1, x.2.2.2.2))) (fun y1 => (.inr (x.2.2.2.1, x.2.2.2.2)))
noncomputable def q2X {R : Type} (x : tv) (k : ty → Option R) : Option R := (swing_outside_L0_run x.1 x.2.1 x.2.2.2.1 x.2.2.2.2 x.2.2.1).bind (Sum.elim (fun y0 => k (.inl (y0, x.2.2.2.1, x.2.2.2.2))) (fun y1 => k (.inr (x.2.2.2.1, x.2.2.2.2))))
def q2Y (x : tv) (v : Int) : tv := (x.1, x.2.1, v, x.2.2.2.1, x.2.2.2.2)
theorem q2Z (x : tv) : LE.step X q2V q2N q2P 12 x = swing_outside_L0_step x.1 x.2.1 x.2.2.2.1 x.2.2.2.2 x.2.2.1 (fun w0 => (Sum.inl (x.1, x.2.1, w0, x.2.2.2.1, x.2.2.2.2))) (fun p0 => (Sum.inr (.inl (p0, x.2.2.2.1, x.2.2.2.2)))) (Sum.inr (.inr (x.2.2.2.1, x.2.2.2.2))):=by kernel_rfl
theorem q30 {ρ ρ' : Type} (f : ρ → ρ') (x0 : Int) (x1 : List Int) (x3 : Int) (x4 : Int) (x2 : Int) (nx : (Int) → ρ) (e0 : (Int) → ρ) (e1 : ρ) : Option.map f (swing_outside_L0_step x0 x1 x3 x4 x2 nx e0 e1) = swing_outside_L0_step x0 x1 x3 x4 x2 (fun w0 => (f (nx w0))) (fun p0 => (f (e0 p0))) (f (e1)) := by
  unfold swing_outside_L0_step
  simp only [map_cond,map_bindO,map_elim,Option.map_some,Option.map_none]
theorem q31 {R : Type} (x : tv) (k : ty → Option R) (r : R) (h : q2X x k = some r) : ∃ o, Runs (LE.step X q2V q2N q2P 12) x o ∧ k o = some r := by
  obtain ⟨o, h1, h2⟩ := some_bind h
  exact ⟨q2W x o, small_ok (st := fun (x : tv) => swing_outside_L0_st x.1 x.2.1 x.2.2.2.1 x.2.2.2.2) (prj := fun x => x.2.2.1) (emb := q2Y) (embO := q2W) (fun x => (q2Z x).trans (q30 (Sum.map (q2Y x) (q2W x)) x.1 x.2.1 x.2.2.2.1 x.2.2.2.2 x.2.2.1 (fun w0 => (Sum.inl w0)) (fun p0 => (Sum.inr (.inl p0))) (Sum.inr (.inr ()))).symm) (fun _ _ => rfl) (fun _ _ => rfl) (fun _ _ _ => rfl) (fun _ _ _ => rfl) (fun _ => rfl) (runOf_some.1 h1), by
    first
    | exact h2
    | (rcases o with o | o <;> exact h2)⟩
noncomputable def q32 {R : Type} : Loops S R := LE.ls X q2V q2X q2P
theorem q33 {R : Type} : LoopsOk X (q32 (R := R)) := loop_ok xok q2O (e := q2V) q2Q q31 q2Q
theorem q34 (x0 : Int) (x1 : Int) (x2 : List Int) : evFn X q2N [(.int .i64), (.int .i64), (.sl (.int .i64))] [.bool] q32 12 62 (x0, x1, x2, ()) = swing_outside x0 x1 x2:=by kernel_rfl
noncomputable def q35 : F7 S := ⟨[(.int .i64), (.int .i64), (.sl (.int .i64))], [.bool], fun xs => swing_outside xs.1 xs.2.1 xs.2.2.1⟩
theorem q36 : FSOk X 62 q35 := fsOk_eq (evFn_ok xok q2O q33 12 62) fun xs _ h => (q34 xs.1 xs.2.1 xs.2.2.1).trans h
noncomputable def q37 : List (Nat × F7 S) := [(62, q35)]
theorem q38 : TabOk X (q37) := ⟨q36, trivial⟩
abbrev q39 {R : Type} : Loops S R := noLoops
theorem q3a {R : Type} : LoopsOk X (q39 (R := R)) := noLoops_ok X
theorem q3b (x0 : CtBox) : evFn X q37 [(.st 6)] [(.int .i64)] q39 12 61 (x0, ()) = swing_box x0:=by kernel_rfl
noncomputable def q3c : F7 S := ⟨[(.st 6)], [(.int .i64)], fun xs => swing_box xs.1⟩
theorem q3d : FSOk X 61 q3c := fsOk_eq (evFn_ok xok q38 q3a 12 61) fun xs _ h => (q3b xs.1).trans h
noncomputable def q3e : List (Nat × F7 S) := [(60, q2L), (61, q3c), (62, q35)]
theorem q3f : TabOk X (q3e) := ⟨q2M, q3d, q36, trivial⟩
abbrev q3g {R : Type} : Loops S R := noLoops
theorem q3h {R : Type} : LoopsOk X (q3g (R := R)) := noLoops_ok X
theorem q3i (x0 : SgMooring) : evFn X q3e [(.st 9)] [(.int .i64), (.int .i64)] q3g 12 17 (x0, ()) = swing_Check x0:=by kernel_rfl
noncomputable def q3j : F7 S := ⟨[(.st 9)], [(.int .i64), (.int .i64)], fun xs => swing_Check xs.1⟩
theorem q3k : FSOk X 17 q3j := fsOk_eq (evFn_ok xok q3f q3h 12 17) fun xs _ h => (q3i xs.1).trans h
noncomputable def q3l : List (Nat × F7 S) := []
theorem q3m : TabOk X (q3l) := trivial
abbrev q3n {R : Type} : Loops S R := noLoops
theorem q3o {R : Type} : LoopsOk X (q3n (R := R)) := noLoops_ok X
theorem q3p (x0 : Int) (x1 : Int) (x2 : Int) : evFn X q3l [(.int .i64), (.int .i64), (.int .i64)] [.bool] q3n 12 113 (x0, x1, x2, ()) = ref01_in x0 x1 x2:=by kernel_rfl
noncomputable def q3q : F7 S := ⟨[(.int .i64), (.int .i64), (.int .i64)], [.bool], fun xs => ref01_in xs.1 xs.2.1 xs.2.2.1⟩
theorem q3r : FSOk X 113 q3q := fsOk_eq (evFn_ok xok q3m q3o 12 113) fun xs _ h => (q3p xs.1 xs.2.1 xs.2.2.1).trans h
noncomputable def q3s : List (Nat × F7 S) := [(113, q3q)]
theorem q3t : TabOk X (q3s) := ⟨q3r, trivial⟩
abbrev q3u {R : Type} : Loops S R := noLoops
theorem q3v {R : Type} : LoopsOk X (q3u (R := R)) := noLoops_ok X
def q3w : Key := ⟨[128], 128, none, [0, 0, 1, 0, 1, 1], 0, 6⟩
def q3x : StT S := ⟨(N (N (N L (some (.int .i64 0)) L) none L) (some (.str ByteArray.empty)) L), L, 6⟩
def q3y : Way S := ⟨.ret, ⟨(N L none (N L (some (.bool false)) L)), L, 43⟩, [.bool]⟩
def q3z : Way S := ⟨(.exit 0), ⟨L, L, 10⟩, []⟩
def q3A : LE S := ⟨q3w, q3x, [.int, .str], [q3y, q3z]⟩
def q3B (x : (Int × ByteArray)) : (Bool ⊕ Unit) → (Bool ⊕ Unit) := Sum.elim (fun y0 => (.inl y0)) (fun y1 => (.inr ()))
noncomputable def q3C {R : Type} (x : (Int × ByteArray)) (k : (Bool ⊕ Unit) → Option R) : Option R := (ref01_Name_L0_run x.2 x.1).bind (Sum.elim (fun y0 => k (.inl y0)) (fun y1 => k (.inr ())))
def q3D (x : (Int × ByteArray)) (v : Int) : (Int × ByteArray) := (v, x.2)
theorem q3E (x : (Int × ByteArray)) : LE.step X q3A q3s q3u 12 x = ref01_Name_L0_step x.2 x.1 (fun w0 => (Sum.inl (w0, x.2))) (fun p0 => (Sum.inr (.inl p0))) (Sum.inr (.inr ())):=by kernel_rfl
theorem q3F {ρ ρ' : Type} (f : ρ → ρ') (x1 : ByteArray) (x0 : Int) (nx : (Int) → ρ) (e0 : (Bool) → ρ) (e1 : ρ) : Option.map f (ref01_Name_L0_step x1 x0 nx e0 e1) = ref01_Name_L0_step x1 x0 (fun w0 => (f (nx w0))) (fun p0 => (f (e0 p0))) (f (e1)) := by
  unfold ref01_Name_L0_step
  simp only [map_cond,map_bindO,map_elim,Option.map_some,Option.map_none]
theorem q3G {R : Type} (x : (Int × ByteArray)) (k : (Bool ⊕ Unit) → Option R) (r : R) (h : q3C x k = some r) : ∃ o, Runs (LE.step X q3A q3s q3u 12) x o ∧ k o = some r := by
  obtain ⟨o, h1, h2⟩ := some_bind h
  exact ⟨q3B x o, small_ok (st := fun (x : (Int × ByteArray)) => ref01_Name_L0_st x.2) (prj := fun x => x.1) (emb := q3D) (embO := q3B) (fun x => (q3E x).trans (q3F (Sum.map (q3D x) (q3B x)) x.2 x.1 (fun w0 => (Sum.inl w0)) (fun p0 => (Sum.inr (.inl p0))) (Sum.inr (.inr ()))).symm) (fun _ _ => rfl) (fun _ _ => rfl) (fun _ _ _ => rfl) (fun _ _ _ => rfl) (fun _ => rfl) (runOf_some.1 h1), by
    first
    | exact h2
    | (rcases o with o | o <;> exact h2)⟩
noncomputable def q3H {R : Type} : Loops S R := LE.ls X q3A q3C q3u
theorem q3I {R : Type} : LoopsOk X (q3H (R := R)) := loop_ok xok q3t (e := q3A) q3v q3G q3v
theorem q3J (x0 : ByteArray) : evFn X q3s [.str] [.bool] q3H 12 128 (x0, ()) = ref01_Name x0:=by kernel_rfl
noncomputable def q3K : F7 S := ⟨[.str], [.bool], fun xs => ref01_Name xs.1⟩
theorem q3L : FSOk X 128 q3K := fsOk_eq (evFn_ok xok q3t q3I 12 128) fun xs _ h => (q3J xs.1).trans h
noncomputable def q3M : List (Nat × F7 S) := []
theorem q3N : TabOk X (q3M) := trivial
abbrev q3O {R : Type} : Loops S R := noLoops
theorem q3P {R : Type} : LoopsOk X (q3O (R := R)) := noLoops_ok X
def q3Q : Key := ⟨[129], 129, none, [0, 0, 1, 0, 1], 0, 2⟩
def q3R : StT S := ⟨(N (N L (some (.str ByteArray.empty)) (N L (some (.int .i64 0)) L)) (some (.sl .str [])) L), L, 2⟩
def q3S : Way S := ⟨.ret, ⟨(N L none (N (N L (some (.int .i64 0)) L) none L)), L, 14⟩, [.int]⟩
def q3T : Way S := ⟨(.exit 0), ⟨L, L, 6⟩, []⟩
def q3U : LE S := ⟨q3Q, q3R, [.str, .int, (.lst .str)], [q3S, q3T]⟩
def q3V (x : tw) : (Int ⊕ Unit) → (Int ⊕ Unit) := Sum.elim (fun y0 => (.inl y0)) (fun y1 => (.inr ()))
noncomputable def q3W {R : Type} (x : tw) (k : (Int ⊕ Unit) → Option R) : Option R := (ref01_Place_L0_run x.1 x.2.2 x.2.1).bind (Sum.elim (fun y0 => k (.inl y0)) (fun y1 => k (.inr ())))
def q3X (x : tw) (v : Int) : tw := (x.1, v, x.2.2)
theorem q3Y (x : tw) : LE.step X q3U q3M q3O 12 x = ref01_Place_L0_step x.1 x.2.2 x.2.1 (fun w0 => (Sum.inl (x.1, w0, x.2.2))) (fun p0 => (Sum.inr (.inl p0))) (Sum.inr (.inr ())):=by kernel_rfl
theorem q3Z {ρ ρ' : Type} (f : ρ → ρ') (x0 : ByteArray) (x2 : List ByteArray) (x1 : Int) (nx : (Int) → ρ) (e0 : (Int) → ρ) (e1 : ρ) : Option.map f (ref01_Place_L0_step x0 x2 x1 nx e0 e1) = ref01_Place_L0_step x0 x2 x1 (fun w0 => (f (nx w0))) (fun p0 => (f (e0 p0))) (f (e1)) := by
  unfold ref01_Place_L0_step
  simp only [map_cond,map_bindO,map_elim,Option.map_some,Option.map_none]
theorem q40 {R : Type} (x : tw) (k : (Int ⊕ Unit) → Option R) (r : R) (h : q3W x k = some r) : ∃ o, Runs (LE.step X q3U q3M q3O 12) x o ∧ k o = some r := by
  obtain ⟨o, h1, h2⟩ := some_bind h
  exact ⟨q3V x o, small_ok (st := fun (x : tw) => ref01_Place_L0_st x.1 x.2.2) (prj := fun x => x.2.1) (emb := q3X) (embO := q3V) (fun x => (q3Y x).trans (q3Z (Sum.map (q3X x) (q3V x)) x.1 x.2.2 x.2.1 (fun w0 => (Sum.inl w0)) (fun p0 => (Sum.inr (.inl p0))) (Sum.inr (.inr ()))).symm) (fun _ _ => rfl) (fun _ _ => rfl) (fun _ _ _ => rfl) (fun _ _ _ => rfl) (fun _ => rfl) (runOf_some.1 h1), by
    first
    | exact h2
    | (rcases o with o | o <;> exact h2)⟩
noncomputable def q41 {R : Type} : Loops S R := LE.ls X q3U q3W q3O
theorem q42 {R : Type} : LoopsOk X (q41 (R := R)) := loop_ok xok q3N (e := q3U) q3P q40 q3P
theorem q43 (x0 : List ByteArray) (x1 : ByteArray) : evFn X q3M [(.sl .str), .str] [(.int .i64)] q41 12 129 (x0, x1, ()) = ref01_Place x0 x1:=by kernel_rfl
noncomputable def q44 : F7 S := ⟨[(.sl .str), .str], [(.int .i64)], fun xs => ref01_Place xs.1 xs.2.1⟩
theorem q45 : FSOk X 129 q44 := fsOk_eq (evFn_ok xok q3N q42 12 129) fun xs _ h => (q43 xs.1 xs.2.1).trans h
noncomputable def q46 : List (Nat × F7 S) := [(128, q3K), (129, q44)]
theorem q47 : TabOk X (q46) := ⟨q3L, q45, trivial⟩
abbrev q48 {R : Type} : Loops S R := noLoops
theorem q49 {R : Type} : LoopsOk X (q48 (R := R)) := noLoops_ok X
theorem q4a (x0 : ByteArray) (x1 : List ByteArray) : evFn X q46 [.str, (.sl .str)] [(.int .i64)] q48 12 104 (x0, x1, ()) = ref01_Fresh x0 x1:=by kernel_rfl
noncomputable def q4b : F7 S := ⟨[.str, (.sl .str)], [(.int .i64)], fun xs => ref01_Fresh xs.1 xs.2.1⟩
theorem q4c : FSOk X 104 q4b := fsOk_eq (evFn_ok xok q47 q49 12 104) fun xs _ h => (q4a xs.1 xs.2.1).trans h
noncomputable def q4d : List (Nat × F7 S) := [(113, q3q)]
theorem q4e : TabOk X (q4d) := ⟨q3r, trivial⟩
abbrev q4f {R : Type} : Loops S R := noLoops
theorem q4g {R : Type} : LoopsOk X (q4f (R := R)) := noLoops_ok X
theorem q4h (x0 : Point) (x1 : Int) : evFn X q4d [(.st 2), (.int .i64)] [.bool] q4f 12 78 (x0, x1, ()) = ref01_Within x0 x1:=by kernel_rfl
noncomputable def q4i : F7 S := ⟨[(.st 2), (.int .i64)], [.bool], fun xs => ref01_Within xs.1 xs.2.1⟩
theorem q4j : FSOk X 78 q4i := fsOk_eq (evFn_ok xok q4e q4g 12 78) fun xs _ h => (q4h xs.1 xs.2.1).trans h
noncomputable def q4k : List (Nat × F7 S) := [(113, q3q)]
theorem q4l : TabOk X (q4k) := ⟨q3r, trivial⟩
abbrev q4m {R : Type} : Loops S R := noLoops
theorem q4n {R : Type} : LoopsOk X (q4m (R := R)) := noLoops_ok X
def q4o : Key := ⟨[105], 105, none, [0, 0, 1, 0, 1, 1], 0, 6⟩
def q4p : StT S := ⟨(N (N (N L (some (.int .i64 0)) L) none L) (some (.sl (.st 3) [])) L), L, 6⟩
def q4q : Way S := ⟨.ret, ⟨(N L none (N L (some (.int .i64 0)) L)), L, 27⟩, [.int]⟩
def q4r : Way S := ⟨.ret, ⟨(N L none (N L (some (.int .i64 0)) L)), L, 43⟩, [.int]⟩
def q4s : Way S := ⟨(.exit 0), ⟨L, L, 10⟩, []⟩
def q4t : LE S := ⟨q4o, q4p, [.int, (.lst (.st 3))], [q4q, q4r, q4s]⟩
def q4u (x : (Int × (List CtPaint))) : (Int ⊕ Int ⊕ Unit) → (Int ⊕ Int ⊕ Unit) := Sum.elim (fun y0 => (.inl y0)) (Sum.elim (fun y1 => (.inr (.inl y1))) (fun y2 => (.inr (.inr ()))))
noncomputable def q4v {R : Type} (x : (Int × (List CtPaint))) (k : (Int ⊕ Int ⊕ Unit) → Option R) : Option R := (ref01_paints_L0_run x.2 x.1).bind (Sum.elim (fun y0 => k (.inl y0)) (Sum.elim (fun y1 => k (.inr (.inl y1))) (fun y2 => k (.inr (.inr ())))))
def q4w (x : (Int × (List CtPaint))) (v : Int) : (Int × (List CtPaint)) := (v, x.2)
theorem q4x (x : (Int × (List CtPaint))) : LE.step X q4t q4k q4m 12 x = ref01_paints_L0_step x.2 x.1 (fun w0 => (Sum.inl (w0, x.2))) (fun p0 => (Sum.inr (.inl p0))) (fun p0 => (Sum.inr (.inr (.inl p0)))) (Sum.inr (.inr (.inr ()))):=by kernel_rfl
theorem q4y {ρ ρ' : Type} (f : ρ → ρ') (x1 : List CtPaint) (x0 : Int) (nx : (Int) → ρ) (e0 : (Int) → ρ) (e1 : (Int) → ρ) (e2 : ρ) : Option.map f (ref01_paints_L0_step x1 x0 nx e0 e1 e2) = ref01_paints_L0_step x1 x0 (fun w0 => (f (nx w0))) (fun p0 => (f (e0 p0))) (fun p0 => (f (e1 p0))) (f (e2)) := by
  unfold ref01_paints_L0_step
  simp only [map_cond,map_bindO,map_elim,Option.map_some,Option.map_none]
theorem q4z {R : Type} (x : (Int × (List CtPaint))) (k : (Int ⊕ Int ⊕ Unit) → Option R) (r : R) (h : q4v x k = some r) : ∃ o, Runs (LE.step X q4t q4k q4m 12) x o ∧ k o = some r := by
  obtain ⟨o, h1, h2⟩ := some_bind h
  exact ⟨q4u x o, small_ok (st := fun (x : (Int × (List CtPaint))) => ref01_paints_L0_st x.2) (prj := fun x => x.1) (emb := q4w) (embO := q4u) (fun x => (q4x x).trans (q4y (Sum.map (q4w x) (q4u x)) x.2 x.1 (fun w0 => (Sum.inl w0)) (fun p0 => (Sum.inr (.inl p0))) (fun p0 => (Sum.inr (.inr (.inl p0)))) (Sum.inr (.inr (.inr ())))).symm) (fun _ _ => rfl) (fun _ _ => rfl) (fun _ _ _ => rfl) (fun _ _ _ => rfl) (fun _ => rfl) (runOf_some.1 h1), by
    first
    | exact h2
    | (rcases o with o | o | o <;> exact h2)⟩
noncomputable def q4A {R : Type} : Loops S R := LE.ls X q4t q4v q4m
theorem q4B {R : Type} : LoopsOk X (q4A (R := R)) := loop_ok xok q4l (e := q4t) q4n q4z q4n
theorem q4C (x0 : List CtPaint) : evFn X q4k [(.sl (.st 3))] [(.int .i64)] q4A 12 105 (x0, ()) = ref01_paints x0:=by kernel_rfl
noncomputable def q4D : F7 S := ⟨[(.sl (.st 3))], [(.int .i64)], fun xs => ref01_paints xs.1⟩
theorem q4E : FSOk X 105 q4D := fsOk_eq (evFn_ok xok q4l q4B 12 105) fun xs _ h => (q4C xs.1).trans h
noncomputable def q4F : List (Nat × F7 S) := [(113, q3q)]
theorem q4G : TabOk X (q4F) := ⟨q3r, trivial⟩
abbrev q4H {R : Type} : Loops S R := noLoops
theorem q4I {R : Type} : LoopsOk X (q4H (R := R)) := noLoops_ok X
def q4J : Key := ⟨[96], 96, none, [0, 0, 1, 0, 1, 1], 0, 3⟩
def q4K : StT S := ⟨(N (N (N (N L (some (.int .i64 0)) L) none L) (some (.int .i64 0)) L) (some (.sl (.st 5) [])) (N (N (N L (some (.int .i64 0)) L) none L) (some (.int .i64 0)) L)), L, 3⟩
def q4L : Way S := ⟨.ret, ⟨(N L none (N L none (N L (some (.int .i64 0)) L))), L, 28⟩, [.int]⟩
def q4M : Way S := ⟨(.exit 0), ⟨(N (N (N (N L (some (.int .i64 0)) L) none L) none L) none L), L, 7⟩, [.int]⟩
def q4N : LE S := ⟨q4J, q4K, [.int, .int, (.lst (.st 5)), .int, .int], [q4L, q4M]⟩
def q4O (x : tu) : (Int ⊕ Int) → (Int ⊕ Int) := Sum.elim (fun y0 => (.inl y0)) (fun y1 => (.inr y1))
noncomputable def q4P {R : Type} (x : tu) (k : (Int ⊕ Int) → Option R) : Option R := (ref01_Spread_L0_run x.2.1 x.2.2.1 x.2.2.2.2 (x.1, x.2.2.2.1)).bind (Sum.elim (fun y0 => k (.inl y0)) (fun y1 => k (.inr y1)))
def q4Q (x : tu) (v : (Int × Int)) : tu := (v.1, x.2.1, x.2.2.1, v.2, x.2.2.2.2)
theorem q4R (x : tu) : LE.step X q4N q4F q4H 12 x = ref01_Spread_L0_step x.2.1 x.2.2.1 x.2.2.2.2 x.1 x.2.2.2.1 (fun w0 w1 => (Sum.inl (w0, x.2.1, x.2.2.1, w1, x.2.2.2.2))) (fun p0 => (Sum.inr (.inl p0))) (fun p0 => (Sum.inr (.inr p0))):=by kernel_rfl
theorem q4S {ρ ρ' : Type} (f : ρ → ρ') (x1 : Int) (x2 : List Span) (x4 : Int) (x0 : Int) (x3 : Int) (nx : (Int) → (Int) → ρ) (e0 : (Int) → ρ) (e1 : (Int) → ρ) : Option.map f (ref01_Spread_L0_step x1 x2 x4 x0 x3 nx e0 e1) = ref01_Spread_L0_step x1 x2 x4 x0 x3 (fun w0 w1 => (f (nx w0 w1))) (fun p0 => (f (e0 p0))) (fun p0 => (f (e1 p0))) := by
  unfold ref01_Spread_L0_step
  simp only [map_cond,map_bindO,map_elim,Option.map_some,Option.map_none]
theorem q4T {R : Type} (x : tu) (k : (Int ⊕ Int) → Option R) (r : R) (h : q4P x k = some r) : ∃ o, Runs (LE.step X q4N q4F q4H 12) x o ∧ k o = some r := by
  obtain ⟨o, h1, h2⟩ := some_bind h
  exact ⟨q4O x o, small_ok (st := fun (x : tu) => ref01_Spread_L0_st x.2.1 x.2.2.1 x.2.2.2.2) (prj := fun x => (x.1, x.2.2.2.1)) (emb := q4Q) (embO := q4O) (fun x => (q4R x).trans (q4S (Sum.map (q4Q x) (q4O x)) x.2.1 x.2.2.1 x.2.2.2.2 x.1 x.2.2.2.1 (fun w0 w1 => (Sum.inl (w0, w1))) (fun p0 => (Sum.inr (.inl p0))) (fun p0 => (Sum.inr (.inr p0)))).symm) (fun _ _ => rfl) (fun _ _ => rfl) (fun _ _ _ => rfl) (fun _ _ _ => rfl) (fun _ => rfl) (runOf_some.1 h1), by
    first
    | exact h2
    | (rcases o with o | o <;> exact h2)⟩
noncomputable def q4U {R : Type} : Loops S R := LE.ls X q4N q4P q4H
theorem q4V {R : Type} : LoopsOk X (q4U (R := R)) := loop_ok xok q4G (e := q4N) q4I q4T q4I
theorem q4W (x0 : List Span) (x1 : Int) (x2 : Int) : evFn X q4F [(.sl (.st 5)), (.int .i64), (.int .i64)] [(.int .i64)] q4U 12 96 (x0, x1, x2, ()) = ref01_Spread x0 x1 x2:=by kernel_rfl
noncomputable def q4X : F7 S := ⟨[(.sl (.st 5)), (.int .i64), (.int .i64)], [(.int .i64)], fun xs => ref01_Spread xs.1 xs.2.1 xs.2.2.1⟩
theorem q4Y : FSOk X 96 q4X := fsOk_eq (evFn_ok xok q4G q4V 12 96) fun xs _ h => (q4W xs.1 xs.2.1 xs.2.2.1).trans h
noncomputable def q4Z : List (Nat × F7 S) := [(96, q4X)]
theorem q50 : TabOk X (q4Z) := ⟨q4Y, trivial⟩
abbrev q51 {R : Type} : Loops S R := noLoops
theorem q52 {R : Type} : LoopsOk X (q51 (R := R)) := noLoops_ok X
theorem q53 (x0 : CtBox) (x1 : Int) (x2 : Int) : evFn X q4Z [(.st 6), (.int .i64), (.int .i64)] [(.int .i64)] q51 12 54 (x0, x1, x2, ()) = ref01_Box x0 x1 x2:=by kernel_rfl
noncomputable def q54 : F7 S := ⟨[(.st 6), (.int .i64), (.int .i64)], [(.int .i64)], fun xs => ref01_Box xs.1 xs.2.1 xs.2.2.1⟩
theorem q55 : FSOk X 54 q54 := fsOk_eq (evFn_ok xok q50 q52 12 54) fun xs _ h => (q53 xs.1 xs.2.1 xs.2.2.1).trans h
noncomputable def q56 : List (Nat × F7 S) := []
theorem q57 : TabOk X (q56) := trivial
abbrev q58 {R : Type} : Loops S R := noLoops
theorem q59 {R : Type} : LoopsOk X (q58 (R := R)) := noLoops_ok X
theorem q5a (x0 : Point) (x1 : Point) : evFn X q56 [(.st 2), (.st 2)] [(.st 2)] q58 12 93 (x0, x1, ()) = ref01_Less x0 x1:=by kernel_rfl
noncomputable def q5b : F7 S := ⟨[(.st 2), (.st 2)], [(.st 2)], fun xs => ref01_Less xs.1 xs.2.1⟩
theorem q5c : FSOk X 93 q5b := fsOk_eq (evFn_ok xok q57 q59 12 93) fun xs _ h => (q5a xs.1 xs.2.1).trans h
noncomputable def q5d : List (Nat × F7 S) := []
theorem q5e : TabOk X (q5d) := trivial
abbrev q5f {R : Type} : Loops S R := noLoops
theorem q5g {R : Type} : LoopsOk X (q5f (R := R)) := noLoops_ok X
theorem q5h (x0 : Point) (x1 : Point) : evFn X q5d [(.st 2), (.st 2)] [(.int .i64)] q5f 12 92 (x0, x1, ()) = ref01_Left x0 x1:=by kernel_rfl
noncomputable def q5i : F7 S := ⟨[(.st 2), (.st 2)], [(.int .i64)], fun xs => ref01_Left xs.1 xs.2.1⟩
theorem q5j : FSOk X 92 q5i := fsOk_eq (evFn_ok xok q5e q5g 12 92) fun xs _ h => (q5h xs.1 xs.2.1).trans h
noncomputable def q5k : List (Nat × F7 S) := [(93, q5b), (92, q5i)]
theorem q5l : TabOk X (q5k) := ⟨q5c, q5j, trivial⟩
abbrev q5m {R : Type} : Loops S R := noLoops
theorem q5n {R : Type} : LoopsOk X (q5m (R := R)) := noLoops_ok X
def q5o : Key := ⟨[130], 130, none, [0, 0, 1, 1, 0, 0, 1, 0, 0, 1, 0, 1], 2, 13⟩
def q5p : StT S := ⟨(N (N (N L (some (.int .i64 0)) L) none (N L (some (.int .i64 0)) L)) (some (.sl (.st 2) [])) (N (N L (some (.int .i64 0)) L) none L)), L, 13⟩
def q5q : Way S := ⟨.ret, ⟨(N L none (N L (some (.bool false)) L)), L, 48⟩, [.bool]⟩
def q5r : Way S := ⟨(.exit 2), ⟨(N (N (N L (some (.int .i64 0)) L) none L) (some (.sl (.st 2) [])) L), L, 17⟩, [.int, (.lst (.st 2))]⟩
def q5s : LE S := ⟨q5o, q5p, [.int, .int, (.lst (.st 2)), .int], [q5q, q5r]⟩
def q5t (x : tA) : (Bool ⊕ Unit) → (Bool ⊕ (Int × (List Point))) := Sum.elim (fun y0 => (.inl y0)) (fun y1 => (.inr (x.1, x.2.2.1)))
noncomputable def q5u {R : Type} (x : tA) (k : (Bool ⊕ (Int × (List Point))) → Option R) : Option R := (ref01_round_L1_run x.1 x.2.2.1 x.2.2.2 x.2.1).bind (Sum.elim (fun y0 => k (.inl y0)) (fun y1 => k (.inr (x.1, x.2.2.1))))
def q5v (x : tA) (v : Int) : tA := (x.1, v, x.2.2.1, x.2.2.2)
theorem q5w (x : tA) : LE.step X q5s q5k q5m 12 x = ref01_round_L1_step x.1 x.2.2.1 x.2.2.2 x.2.1 (fun w0 => (Sum.inl (x.1, w0, x.2.2.1, x.2.2.2))) (fun p0 => (Sum.inr (.inl p0))) (Sum.inr (.inr (x.1, x.2.2.1))):=by kernel_rfl
theorem q5x {ρ ρ' : Type} (f : ρ → ρ') (x0 : Int) (x2 : List Point) (x3 : Int) (x1 : Int) (nx : (Int) → ρ) (e0 : (Bool) → ρ) (e1 : ρ) : Option.map f (ref01_round_L1_step x0 x2 x3 x1 nx e0 e1) = ref01_round_L1_step x0 x2 x3 x1 (fun w0 => (f (nx w0))) (fun p0 => (f (e0 p0))) (f (e1)) := by
  unfold ref01_round_L1_step
  simp only [map_cond,map_bindO,map_elim,Option.map_some,Option.map_none]
theorem q5y {R : Type} (x : tA) (k : (Bool ⊕ (Int × (List Point))) → Option R) (r : R) (h : q5u x k = some r) : ∃ o, Runs (LE.step X q5s q5k q5m 12) x o ∧ k o = some r := by
  obtain ⟨o, h1, h2⟩ := some_bind h
  exact ⟨q5t x o, small_ok (st := fun (x : tA) => ref01_round_L1_st x.1 x.2.2.1 x.2.2.2) (prj := fun x => x.2.1) (emb := q5v) (embO := q5t) (fun x => (q5w x).trans (q5x (Sum.map (q5v x) (q5t x)) x.1 x.2.2.1 x.2.2.2 x.2.1 (fun w0 => (Sum.inl w0)) (fun p0 => (Sum.inr (.inl p0))) (Sum.inr (.inr ()))).symm) (fun _ _ => rfl) (fun _ _ => rfl) (fun _ _ _ => rfl) (fun _ _ _ => rfl) (fun _ => rfl) (runOf_some.1 h1), by
    first
    | exact h2
    | (rcases o with o | o <;> exact h2)⟩
noncomputable def q5z {R : Type} : Loops S R := LE.ls X q5s q5u q5m
theorem q5A {R : Type} : LoopsOk X (q5z (R := R)) := loop_ok xok q5l (e := q5s) q5n q5y q5n
def q5B : Key := ⟨[130], 130, none, [0, 0, 1, 0, 1], 0, 2⟩
def q5C : StT S := ⟨(N (N (N L (some (.int .i64 0)) L) none L) (some (.sl (.st 2) [])) L), L, 2⟩
def q5D : Way S := ⟨.ret, ⟨(N L none (N L (some (.bool false)) L)), L, 48⟩, [.bool]⟩
def q5E : Way S := ⟨(.exit 0), ⟨L, L, 6⟩, []⟩
def q5F : LE S := ⟨q5B, q5C, [.int, (.lst (.st 2))], [q5D, q5E]⟩
def q5G (x : (Int × (List Point))) : (Bool ⊕ Unit) → (Bool ⊕ Unit) := Sum.elim (fun y0 => (.inl y0)) (fun y1 => (.inr ()))
noncomputable def q5H {R : Type} (x : (Int × (List Point))) (k : (Bool ⊕ Unit) → Option R) : Option R := (ref01_round_L0_run x.2 x.1).bind (Sum.elim (fun y0 => k (.inl y0)) (fun y1 => k (.inr ())))
def q5I (x : (Int × (List Point))) (v : Int) : (Int × (List Point)) := (v, x.2)
theorem q5J (x : (Int × (List Point))) : LE.step X q5F q5k q5z 12 x = ref01_round_L0_step x.2 x.1 (fun w0 => (Sum.inl (w0, x.2))) (fun p0 => (Sum.inr (.inl p0))) (Sum.inr (.inr ())):=by kernel_rfl
theorem q5K {ρ ρ' : Type} (f : ρ → ρ') (x1 : List Point) (x0 : Int) (nx : (Int) → ρ) (e0 : (Bool) → ρ) (e1 : ρ) : Option.map f (ref01_round_L0_step x1 x0 nx e0 e1) = ref01_round_L0_step x1 x0 (fun w0 => (f (nx w0))) (fun p0 => (f (e0 p0))) (f (e1)) := by
  unfold ref01_round_L0_step
  simp only [map_cond,map_bindO,map_elim,Option.map_some,Option.map_none]
theorem q5L {R : Type} (x : (Int × (List Point))) (k : (Bool ⊕ Unit) → Option R) (r : R) (h : q5H x k = some r) : ∃ o, Runs (LE.step X q5F q5k q5z 12) x o ∧ k o = some r := by
  obtain ⟨o, h1, h2⟩ := some_bind h
  exact ⟨q5G x o, small_ok (st := fun (x : (Int × (List Point))) => ref01_round_L0_st x.2) (prj := fun x => x.1) (emb := q5I) (embO := q5G) (fun x => (q5J x).trans (q5K (Sum.map (q5I x) (q5G x)) x.2 x.1 (fun w0 => (Sum.inl w0)) (fun p0 => (Sum.inr (.inl p0))) (Sum.inr (.inr ()))).symm) (fun _ _ => rfl) (fun _ _ => rfl) (fun _ _ _ => rfl) (fun _ _ _ => rfl) (fun _ => rfl) (runOf_some.1 h1), by
    first
    | exact h2
    | (rcases o with o | o <;> exact h2)⟩
noncomputable def q5M {R : Type} : Loops S R := LE.ls X q5F q5H q5z
theorem q5N {R : Type} : LoopsOk X (q5M (R := R)) := loop_ok xok q5l (e := q5F) q5A q5L q5A
theorem q5O (x0 : List Point) : evFn X q5k [(.sl (.st 2))] [.bool] q5M 12 130 (x0, ()) = ref01_round x0:=by kernel_rfl
noncomputable def q5P : F7 S := ⟨[(.sl (.st 2))], [.bool], fun xs => ref01_round xs.1⟩
theorem q5Q : FSOk X 130 q5P := fsOk_eq (evFn_ok xok q5l q5N 12 130) fun xs _ h => (q5O xs.1).trans h
noncomputable def q5R : List (Nat × F7 S) := [(113, q3q), (78, q4i), (54, q54), (130, q5P)]
theorem q5S : TabOk X (q5R) := ⟨q3r, q4j, q55, q5Q, trivial⟩
abbrev q5T {R : Type} : Loops S R := noLoops
theorem q5U {R : Type} : LoopsOk X (q5T (R := R)) := noLoops_ok X
def q5V : Key := ⟨[106], 106, none, [0, 0, 1, 0, 1, 1], 0, 8⟩
def q5W : StT S := ⟨(N (N (N L (some (.int .i64 0)) L) (some (.ptr 0 0)) L) none L), (N L (some (.cells 79 [(.stc 7 (T.dflt 7))])) L), 8⟩
def q5X : Way S := ⟨.ret, ⟨(N L none (N L (some (.int .i64 0)) L)), (N L (some (.cells 79 [(.stc 7 (T.dflt 7))])) L), 21⟩, [.int, (.st 7)]⟩
def q5Y : Way S := ⟨(.exit 0), ⟨(N (N L (some (.ptr 0 0)) L) none L), (N L (some (.cells 79 [(.stc 7 (T.dflt 7))])) L), 13⟩, [(.st 7)]⟩
def q5Z : LE S := ⟨q5V, q5W, [.int, (.st 7)], [q5X, q5Y]⟩
def q60 (x : (Int × CtSand)) : (Int ⊕ Unit) → ((Int × CtSand) ⊕ CtSand) := Sum.elim (fun y0 => (.inl (y0, x.2))) (fun y1 => (.inr x.2))
noncomputable def q61 {R : Type} (x : (Int × CtSand)) (k : ((Int × CtSand) ⊕ CtSand) → Option R) : Option R := (ref01_sand_L0_run x.2 x.1).bind (Sum.elim (fun y0 => k (.inl (y0, x.2))) (fun y1 => k (.inr x.2)))
def q62 (x : (Int × CtSand)) (v : Int) : (Int × CtSand) := (v, x.2)
theorem q63 (x : (Int × CtSand)) : LE.step X q5Z q5R q5T 12 x = ref01_sand_L0_step x.2 x.1 (fun w0 => (Sum.inl (w0, x.2))) (fun p0 => (Sum.inr (.inl (p0, x.2)))) (Sum.inr (.inr x.2)):=by kernel_rfl
theorem q64 {ρ ρ' : Type} (f : ρ → ρ') (x1 : CtSand) (x0 : Int) (nx : (Int) → ρ) (e0 : (Int) → ρ) (e1 : ρ) : Option.map f (ref01_sand_L0_step x1 x0 nx e0 e1) = ref01_sand_L0_step x1 x0 (fun w0 => (f (nx w0))) (fun p0 => (f (e0 p0))) (f (e1)) := by
  unfold ref01_sand_L0_step
  simp only [map_cond,map_bindO,map_elim,Option.map_some,Option.map_none]
theorem q65 {R : Type} (x : (Int × CtSand)) (k : ((Int × CtSand) ⊕ CtSand) → Option R) (r : R) (h : q61 x k = some r) : ∃ o, Runs (LE.step X q5Z q5R q5T 12) x o ∧ k o = some r := by
  obtain ⟨o, h1, h2⟩ := some_bind h
  exact ⟨q60 x o, small_ok (st := fun (x : (Int × CtSand)) => ref01_sand_L0_st x.2) (prj := fun x => x.1) (emb := q62) (embO := q60) (fun x => (q63 x).trans (q64 (Sum.map (q62 x) (q60 x)) x.2 x.1 (fun w0 => (Sum.inl w0)) (fun p0 => (Sum.inr (.inl p0))) (Sum.inr (.inr ()))).symm) (fun _ _ => rfl) (fun _ _ => rfl) (fun _ _ _ => rfl) (fun _ _ _ => rfl) (fun _ => rfl) (runOf_some.1 h1), by
    first
    | exact h2
    | (rcases o with o | o <;> exact h2)⟩
noncomputable def q66 {R : Type} : Loops S R := LE.ls X q5Z q61 q5T
theorem q67 {R : Type} : LoopsOk X (q66 (R := R)) := loop_ok xok q5S (e := q5Z) q5U q65 q5U
theorem q68 (x0 : CtSand) : evFn X q5R [(.st 7)] [(.int .i64)] q66 12 106 (x0, ()) = ref01_sand x0:=by kernel_rfl
noncomputable def q69 : F7 S := ⟨[(.st 7)], [(.int .i64)], fun xs => ref01_sand xs.1⟩
theorem q6a : FSOk X 106 q69 := fsOk_eq (evFn_ok xok q5S q67 12 106) fun xs _ h => (q68 xs.1).trans h
noncomputable def q6b : List (Nat × F7 S) := [(104, q4b), (78, q4i), (105, q4D), (106, q69)]
theorem q6c : TabOk X (q6b) := ⟨q4c, q4j, q4E, q6a, trivial⟩
abbrev q6d {R : Type} : Loops S R := noLoops
theorem q6e {R : Type} : LoopsOk X (q6d (R := R)) := noLoops_ok X
def q6f : Key := ⟨[63], 63, none, [0, 0, 1, 0, 1, 1, 1], 0, 10⟩
def q6g : StT S := ⟨(N (N L (some (.ptr 0 0)) (N L (some (.rs 10 0)) L)) none (N L none (N L (some (.int .i64 0)) L))), (N L (some (.cells 25 [(.stc 8 (T.dflt 8))])) (N L none (N (N L (some (.row 9 .str [] 0 0)) L) none L))), 11⟩
def q6h : Way S := ⟨.ret, ⟨(N (N (N L (some (.int .i64 0)) L) none L) none (N (N L (some (.int .i64 0)) L) (some (.int .i64 0)) L)), (N (N (N (N (N (N L (some (.row 9 .str [] 0 0)) L) none L) none L) none L) none (N L none (N (N L (some (.cells 158 [(.stc 4 (T.dflt 4))])) L) none L))) (some (.cells 25 [(.stc 8 (T.dflt 8))])) (N L none (N (N L (some (.row 9 .str [] 0 1)) L) none L))), 52⟩, [.int, .int, .int, (.lst .str), .nat, (.st 4), (.st 8), (.lst .str), .nat]⟩
def q6i : Way S := ⟨.ret, ⟨(N (N (N L (some (.int .i64 0)) L) none L) none (N (N L (some (.int .i64 0)) L) (some (.int .i64 0)) L)), (N (N (N (N (N (N L (some (.row 9 .str [] 0 0)) L) none L) none L) none L) none (N L none (N (N L (some (.cells 158 [(.stc 4 (T.dflt 4))])) L) none L))) (some (.cells 25 [(.stc 8 (T.dflt 8))])) (N L none (N (N L (some (.row 9 .str [] 0 1)) L) none L))), 55⟩, [.int, .int, .int, (.lst .str), .nat, (.st 4), (.st 8), (.lst .str), .nat]⟩
def q6j : Way S := ⟨.ret, ⟨(N (N (N L (some (.int .i64 0)) L) none L) none (N (N L (some (.int .i64 0)) L) (some (.int .i64 0)) L)), (N (N (N (N (N (N L (some (.row 9 .str [] 0 0)) L) none L) none L) none L) none (N L none (N (N L (some (.cells 158 [(.stc 4 (T.dflt 4))])) L) none L))) (some (.cells 25 [(.stc 8 (T.dflt 8))])) (N L none (N (N L (some (.row 9 .str [] 0 1)) L) none L))), 51⟩, [.int, .int, .int, (.lst .str), .nat, (.st 4), (.st 8), (.lst .str), .nat]⟩
def q6k : Way S := ⟨(.exit 0), ⟨(N (N L (some (.ptr 0 0)) (N L (some (.rs 10 0)) L)) none L), (N L (some (.cells 25 [(.stc 8 (T.dflt 8))])) (N L none (N (N L (some (.row 9 .str [] 0 0)) L) none L))), 16⟩, [(.st 8), (.lst .str), .nat]⟩
def q6l : LE S := ⟨q6f, q6g, [.int, (.st 8), (.lst .str), .nat], [q6h, q6i, q6j, q6k]⟩
def q6m (x : tr) : (th ⊕ th ⊕ th ⊕ ((List ByteArray) × Nat)) → t2 := Sum.elim (fun y0 => (.inl (y0.1, y0.2.1, y0.2.2.1, y0.2.2.2.1, y0.2.2.2.2.1, y0.2.2.2.2.2.1, x.2.1, y0.2.2.2.2.2.2.1, y0.2.2.2.2.2.2.2))) (Sum.elim (fun y1 => (.inr (.inl (y1.1, y1.2.1, y1.2.2.1, y1.2.2.2.1, y1.2.2.2.2.1, y1.2.2.2.2.2.1, x.2.1, y1.2.2.2.2.2.2.1, y1.2.2.2.2.2.2.2)))) (Sum.elim (fun y2 => (.inr (.inr (.inl (y2.1, y2.2.1, y2.2.2.1, y2.2.2.2.1, y2.2.2.2.2.1, y2.2.2.2.2.2.1, x.2.1, y2.2.2.2.2.2.2.1, y2.2.2.2.2.2.2.2))))) (fun y3 => (.inr (.inr (.inr (x.2.1, y3.1, y3.2)))))))
noncomputable def q6n {R : Type} (x : tr) (k : t2 → Option R) : Option R := (ref01_Check_L0_run x.2.1 (x.1, x.2.2.1, x.2.2.2)).bind (Sum.elim (fun y0 => k (.inl (y0.1, y0.2.1, y0.2.2.1, y0.2.2.2.1, y0.2.2.2.2.1, y0.2.2.2.2.2.1, x.2.1, y0.2.2.2.2.2.2.1, y0.2.2.2.2.2.2.2))) (Sum.elim (fun y1 => k (.inr (.inl (y1.1, y1.2.1, y1.2.2.1, y1.2.2.2.1, y1.2.2.2.2.1, y1.2.2.2.2.2.1, x.2.1, y1.2.2.2.2.2.2.1, y1.2.2.2.2.2.2.2)))) (Sum.elim (fun y2 => k (.inr (.inr (.inl (y2.1, y2.2.1, y2.2.2.1, y2.2.2.2.1, y2.2.2.2.2.1, y2.2.2.2.2.2.1, x.2.1, y2.2.2.2.2.2.2.1, y2.2.2.2.2.2.2.2))))) (fun y3 => k (.inr (.inr (.inr (x.2.1, y3.1, y3.2))))))))
def q6o (x : tr) (v : (Int × (List ByteArray) × Nat)) : tr := (v.1, x.2.1, v.2.1, v.2.2)
theorem q6p (x : tr) : LE.step X q6l q6b q6d 12 x = ref01_Check_L0_step x.2.1 x.1 x.2.2.1 x.2.2.2 (fun w0 w1 w2 => (Sum.inl (w0, x.2.1, w1, w2))) (fun p0 p1 p2 p3 p4 p5 p6 p7 => (Sum.inr (.inl (p0, p1, p2, p3, p4, p5, x.2.1, p6, p7)))) (fun p0 p1 p2 p3 p4 p5 p6 p7 => (Sum.inr (.inr (.inl (p0, p1, p2, p3, p4, p5, x.2.1, p6, p7))))) (fun p0 p1 p2 p3 p4 p5 p6 p7 => (Sum.inr (.inr (.inr (.inl (p0, p1, p2, p3, p4, p5, x.2.1, p6, p7)))))) (fun p0 p1 => (Sum.inr (.inr (.inr (.inr (x.2.1, p0, p1)))))):=by kernel_rfl
theorem q6q {ρ ρ' : Type} (f : ρ → ρ') (x1 : CtChart) (x0 : Int) (x2 : List ByteArray) (x3 : Nat) (nx : (Int) → (List ByteArray) → (Nat) → ρ) (e0 : (Int) → (Int) → (Int) → (List ByteArray) → (Nat) → (CtMark) → (List ByteArray) → (Nat) → ρ) (e1 : (Int) → (Int) → (Int) → (List ByteArray) → (Nat) → (CtMark) → (List ByteArray) → (Nat) → ρ) (e2 : (Int) → (Int) → (Int) → (List ByteArray) → (Nat) → (CtMark) → (List ByteArray) → (Nat) → ρ) (e3 : (List ByteArray) → (Nat) → ρ) : Option.map f (ref01_Check_L0_step x1 x0 x2 x3 nx e0 e1 e2 e3) = ref01_Check_L0_step x1 x0 x2 x3 (fun w0 w1 w2 => (f (nx w0 w1 w2))) (fun p0 p1 p2 p3 p4 p5 p6 p7 => (f (e0 p0 p1 p2 p3 p4 p5 p6 p7))) (fun p0 p1 p2 p3 p4 p5 p6 p7 => (f (e1 p0 p1 p2 p3 p4 p5 p6 p7))) (fun p0 p1 p2 p3 p4 p5 p6 p7 => (f (e2 p0 p1 p2 p3 p4 p5 p6 p7))) (fun p0 p1 => (f (e3 p0 p1))) := by
  unfold ref01_Check_L0_step
  simp only [map_cond,map_bindO,map_elim,Option.map_some,Option.map_none]
theorem q6r {R : Type} (x : tr) (k : t2 → Option R) (r : R) (h : q6n x k = some r) : ∃ o, Runs (LE.step X q6l q6b q6d 12) x o ∧ k o = some r := by
  obtain ⟨o, h1, h2⟩ := some_bind h
  exact ⟨q6m x o, small_ok (st := fun (x : tr) => ref01_Check_L0_st x.2.1) (prj := fun x => (x.1, x.2.2.1, x.2.2.2)) (emb := q6o) (embO := q6m) (fun x => (q6p x).trans (q6q (Sum.map (q6o x) (q6m x)) x.2.1 x.1 x.2.2.1 x.2.2.2 (fun w0 w1 w2 => (Sum.inl (w0, w1, w2))) (fun p0 p1 p2 p3 p4 p5 p6 p7 => (Sum.inr (.inl (p0, p1, p2, p3, p4, p5, p6, p7)))) (fun p0 p1 p2 p3 p4 p5 p6 p7 => (Sum.inr (.inr (.inl (p0, p1, p2, p3, p4, p5, p6, p7))))) (fun p0 p1 p2 p3 p4 p5 p6 p7 => (Sum.inr (.inr (.inr (.inl (p0, p1, p2, p3, p4, p5, p6, p7)))))) (fun p0 p1 => (Sum.inr (.inr (.inr (.inr (p0, p1))))))).symm) (fun _ _ => rfl) (fun _ _ => rfl) (fun _ _ _ => rfl) (fun _ _ _ => rfl) (fun _ => rfl) (runOf_some.1 h1), by
    first
    | exact h2
    | (rcases o with o | o | o | o <;> exact h2)⟩
noncomputable def q6s {R : Type} : Loops S R := LE.ls X q6l q6n q6d
theorem q6t {R : Type} : LoopsOk X (q6s (R := R)) := loop_ok xok q6c (e := q6l) q6e q6r q6e
def q6u : Key := ⟨[63], 63, none, [0, 0, 1, 0, 1, 1, 1, 1, 1], 2, 21⟩
def q6v : StT S := ⟨(N (N L (some (.ptr 0 0)) (N (N L (some (.int .i64 0)) L) (some (.rs 21 0)) L)) none L), (N (N L none (N L none (N (N L (some (.row 9 .str [] 0 0)) L) none L))) (some (.cells 25 [(.stc 8 (T.dflt 8))])) L), 22⟩
def q6w : Way S := ⟨.ret, ⟨(N (N (N L (some (.int .i64 0)) L) none L) none (N (N L (some (.int .i64 0)) L) (some (.int .i64 0)) L)), (N (N (N L none (N L none (N (N L (some (.row 9 .str [] 0 0)) L) none L))) none (N L none (N (N L (some (.row 9 .str [] 0 1)) L) none L))) (some (.cells 25 [(.stc 8 (T.dflt 8))])) L), 62⟩, [.int, .int, .int, (.lst .str), .nat, (.lst .str), .nat, (.st 8)]⟩
def q6x : Way S := ⟨.ret, ⟨(N (N (N L (some (.int .i64 0)) L) none L) none (N (N L (some (.int .i64 0)) L) (some (.int .i64 0)) L)), (N (N (N L none (N L none (N (N L (some (.row 9 .str [] 0 0)) L) none L))) none (N L none (N (N L (some (.row 9 .str [] 0 1)) L) none L))) (some (.cells 25 [(.stc 8 (T.dflt 8))])) L), 55⟩, [.int, .int, .int, (.lst .str), .nat, (.lst .str), .nat, (.st 8)]⟩
def q6y : Way S := ⟨(.exit 2), ⟨L, (N (N L none (N L none (N (N L (some (.row 9 .str [] 0 0)) L) none L))) (some (.cells 25 [(.stc 8 (T.dflt 8))])) L), 27⟩, [(.lst .str), .nat, (.st 8)]⟩
def q6z : LE S := ⟨q6u, q6v, [.int, (.lst .str), .nat, (.st 8)], [q6w, q6x, q6y]⟩
def q6A (x : ts) : ((Int × Int × Int × (List ByteArray) × Nat × (List ByteArray) × Nat) ⊕ (Int × Int × Int × (List ByteArray) × Nat × (List ByteArray) × Nat) ⊕ ((List ByteArray) × Nat)) → t7 := Sum.elim (fun y0 => (.inl (y0.1, y0.2.1, y0.2.2.1, y0.2.2.2.1, y0.2.2.2.2.1, y0.2.2.2.2.2.1, y0.2.2.2.2.2.2, x.2.2.2))) (Sum.elim (fun y1 => (.inr (.inl (y1.1, y1.2.1, y1.2.2.1, y1.2.2.2.1, y1.2.2.2.2.1, y1.2.2.2.2.2.1, y1.2.2.2.2.2.2, x.2.2.2)))) (fun y2 => (.inr (.inr (y2.1, y2.2, x.2.2.2)))))
noncomputable def q6B {R : Type} (x : ts) (k : t7 → Option R) : Option R := (ref01_Check_L1_run x.2.2.2 (x.1, x.2.1, x.2.2.1)).bind (Sum.elim (fun y0 => k (.inl (y0.1, y0.2.1, y0.2.2.1, y0.2.2.2.1, y0.2.2.2.2.1, y0.2.2.2.2.2.1, y0.2.2.2.2.2.2, x.2.2.2))) (Sum.elim (fun y1 => k (.inr (.inl (y1.1, y1.2.1, y1.2.2.1, y1.2.2.2.1, y1.2.2.2.2.1, y1.2.2.2.2.2.1, y1.2.2.2.2.2.2, x.2.2.2)))) (fun y2 => k (.inr (.inr (y2.1, y2.2, x.2.2.2))))))
def q6C (x : ts) (v : (Int × (List ByteArray) × Nat)) : ts := (v.1, v.2.1, v.2.2, x.2.2.2)
theorem q6D (x : ts) : LE.step X q6z q6b q6s 12 x = ref01_Check_L1_step x.2.2.2 x.1 x.2.1 x.2.2.1 (fun w0 w1 w2 => (Sum.inl (w0, w1, w2, x.2.2.2))) (fun p0 p1 p2 p3 p4 p5 p6 => (Sum.inr (.inl (p0, p1, p2, p3, p4, p5, p6, x.2.2.2)))) (fun p0 p1 p2 p3 p4 p5 p6 => (Sum.inr (.inr (.inl (p0, p1, p2, p3, p4, p5, p6, x.2.2.2))))) (fun p0 p1 => (Sum.inr (.inr (.inr (p0, p1, x.2.2.2))))):=by kernel_rfl
theorem q6E {ρ ρ' : Type} (f : ρ → ρ') (x3 : CtChart) (x0 : Int) (x1 : List ByteArray) (x2 : Nat) (nx : (Int) → (List ByteArray) → (Nat) → ρ) (e0 : (Int) → (Int) → (Int) → (List ByteArray) → (Nat) → (List ByteArray) → (Nat) → ρ) (e1 : (Int) → (Int) → (Int) → (List ByteArray) → (Nat) → (List ByteArray) → (Nat) → ρ) (e2 : (List ByteArray) → (Nat) → ρ) : Option.map f (ref01_Check_L1_step x3 x0 x1 x2 nx e0 e1 e2) = ref01_Check_L1_step x3 x0 x1 x2 (fun w0 w1 w2 => (f (nx w0 w1 w2))) (fun p0 p1 p2 p3 p4 p5 p6 => (f (e0 p0 p1 p2 p3 p4 p5 p6))) (fun p0 p1 p2 p3 p4 p5 p6 => (f (e1 p0 p1 p2 p3 p4 p5 p6))) (fun p0 p1 => (f (e2 p0 p1))) := by
  unfold ref01_Check_L1_step
  simp only [map_cond,map_bindO,map_elim,Option.map_some,Option.map_none]
theorem q6F {R : Type} (x : ts) (k : t7 → Option R) (r : R) (h : q6B x k = some r) : ∃ o, Runs (LE.step X q6z q6b q6s 12) x o ∧ k o = some r := by
  obtain ⟨o, h1, h2⟩ := some_bind h
  exact ⟨q6A x o, small_ok (st := fun (x : ts) => ref01_Check_L1_st x.2.2.2) (prj := fun x => (x.1, x.2.1, x.2.2.1)) (emb := q6C) (embO := q6A) (fun x => (q6D x).trans (q6E (Sum.map (q6C x) (q6A x)) x.2.2.2 x.1 x.2.1 x.2.2.1 (fun w0 w1 w2 => (Sum.inl (w0, w1, w2))) (fun p0 p1 p2 p3 p4 p5 p6 => (Sum.inr (.inl (p0, p1, p2, p3, p4, p5, p6)))) (fun p0 p1 p2 p3 p4 p5 p6 => (Sum.inr (.inr (.inl (p0, p1, p2, p3, p4, p5, p6))))) (fun p0 p1 => (Sum.inr (.inr (.inr (p0, p1)))))).symm) (fun _ _ => rfl) (fun _ _ => rfl) (fun _ _ _ => rfl) (fun _ _ _ => rfl) (fun _ => rfl) (runOf_some.1 h1), by
    first
    | exact h2
    | (rcases o with o | o | o <;> exact h2)⟩
noncomputable def q6G {R : Type} : Loops S R := LE.ls X q6z q6B q6s
theorem q6H {R : Type} : LoopsOk X (q6G (R := R)) := loop_ok xok q6c (e := q6z) q6t q6F q6t
theorem q6I (x0 : CtChart) : evFn X q6b [(.st 8)] [(.int .i64), (.int .i64), (.int .i64)] q6G 12 63 (x0, ()) = ref01_Check x0:=by kernel_rfl
noncomputable def q6J : F7 S := ⟨[(.st 8)], [(.int .i64), (.int .i64), (.int .i64)], fun xs => ref01_Check xs.1⟩
theorem q6K : FSOk X 63 q6J := fsOk_eq (evFn_ok xok q6c q6H 12 63) fun xs _ h => (q6I xs.1).trans h
noncomputable def q6L : List (Nat × F7 S) := [(96, q4X)]
theorem q6M : TabOk X (q6L) := ⟨q4Y, trivial⟩
abbrev q6N {R : Type} : Loops S R := noLoops
theorem q6O {R : Type} : LoopsOk X (q6N (R := R)) := noLoops_ok X
theorem q6P (x0 : CtBox) : evFn X q6L [(.st 6)] [(.int .i64)] q6N 12 64 (x0, ()) = ref04_box x0:=by kernel_rfl
noncomputable def q6Q : F7 S := ⟨[(.st 6)], [(.int .i64)], fun xs => ref04_box xs.1⟩
theorem q6R : FSOk X 64 q6Q := fsOk_eq (evFn_ok xok q6M q6O 12 64) fun xs _ h => (q6P xs.1).trans h
noncomputable def q6S : List (Nat × F7 S) := [(96, q4X)]
theorem q6T : TabOk X (q6S) := ⟨q4Y, trivial⟩
abbrev q6U {R : Type} : Loops S R := noLoops
theorem q6V {R : Type} : LoopsOk X (q6U (R := R)) := noLoops_ok X
theorem q6W (x0 : Span) (x1 : Int) (x2 : Int) : evFn X q6S [(.st 5), (.int .i64), (.int .i64)] [(.int .i64)] q6U 12 65 (x0, x1, x2, ()) = ref01_Range x0 x1 x2:=by kernel_rfl
noncomputable def q6X : F7 S := ⟨[(.st 5), (.int .i64), (.int .i64)], [(.int .i64)], fun xs => ref01_Range xs.1 xs.2.1 xs.2.2.1⟩
theorem q6Y : FSOk X 65 q6X := fsOk_eq (evFn_ok xok q6T q6V 12 65) fun xs _ h => (q6W xs.1 xs.2.1 xs.2.2.1).trans h
noncomputable def q6Z : List (Nat × F7 S) := []
theorem q70 : TabOk X (q6Z) := trivial
abbrev q71 {R : Type} : Loops S R := noLoops
theorem q72 {R : Type} : LoopsOk X (q71 (R := R)) := noLoops_ok X
theorem q73 (x0 : Int) (x1 : Int) (x2 : Int) : evFn X q6Z [(.int .i64), (.int .i64), (.int .i64)] [.bool] q71 12 66 (x0, x1, x2, ()) = ref04_in x0 x1 x2:=by kernel_rfl
noncomputable def q74 : F7 S := ⟨[(.int .i64), (.int .i64), (.int .i64)], [.bool], fun xs => ref04_in xs.1 xs.2.1 xs.2.2.1⟩
theorem q75 : FSOk X 66 q74 := fsOk_eq (evFn_ok xok q70 q72 12 66) fun xs _ h => (q73 xs.1 xs.2.1 xs.2.2.1).trans h
noncomputable def q76 : List (Nat × F7 S) := [(63, q6J), (64, q6Q), (65, q6X), (66, q74)]
theorem q77 : TabOk X (q76) := ⟨q6K, q6R, q6Y, q75, trivial⟩
abbrev q78 {R : Type} : Loops S R := noLoops
theorem q79 {R : Type} : LoopsOk X (q78 (R := R)) := noLoops_ok X
theorem q7a (x0 : SgMooring) : evFn X q76 [(.st 9)] [(.int .i64), (.int .i64)] q78 12 18 (x0, ()) = ref04_Check x0:=by kernel_rfl
noncomputable def q7b : F7 S := ⟨[(.st 9)], [(.int .i64), (.int .i64)], fun xs => ref04_Check xs.1⟩
theorem q7c : FSOk X 18 q7b := fsOk_eq (evFn_ok xok q77 q79 12 18) fun xs _ h => (q7a xs.1).trans h
noncomputable def q7d : List (Nat × F7 S) := [(17, q3j), (61, q3c), (62, q35)]
theorem q7e : TabOk X (q7d) := ⟨q3k, q3d, q36, trivial⟩
abbrev q7f {R : Type} : Loops S R := noLoops
theorem q7g {R : Type} : LoopsOk X (q7f (R := R)) := noLoops_ok X
def q7h : Key := ⟨[67, 2, 6, 19], 67, none, [0, 0, 1, 0, 1], 0, 27⟩
def q7i : StT S := ⟨(N (N (N L none (N L (some (.int .i64 0)) L)) (some (.fn (.func 68) [] [(.ptr 1 0)])) (N (N L (some (.sl (.st 10) [])) L) none L)) none (N L none (N (N L (some (.int .i64 0)) L) none L))), (N (N L (some (.cells 32 [(.sl (.st 10) [])])) L) (some (.cells 31 [(.stc 9 (T.dflt 9))])) L), 27⟩
def q7j : Way S := ⟨.ret, ⟨(N (N L none (N L (some (.int .i64 0)) L)) none (N (N L (some (.int .i64 0)) L) none L)), (N (N (N (N (N (N L (some (.cells 44 [(.stc 10 (T.dflt 10))])) L) none L) none (N (N L (some (.cells 44 [(.stc 10 (T.dflt 10))])) L) none L)) none L) (some (.cells 32 [(.sl (.st 10) [])])) L) (some (.cells 31 [(.stc 9 (T.dflt 9))])) L), 73⟩, [.int, .int, (.st 10), (.st 10), (.lst (.st 10)), (.st 9)]⟩
def q7k : Way S := ⟨.ret, ⟨(N (N L none (N L (some (.int .i64 0)) L)) none (N (N L (some (.int .i64 0)) L) none L)), (N (N (N (N (N (N L (some (.cells 44 [(.stc 10 (T.dflt 10))])) L) none L) none (N (N L (some (.cells 44 [(.stc 10 (T.dflt 10))])) L) none L)) none L) (some (.cells 32 [(.sl (.st 10) [])])) L) (some (.cells 31 [(.stc 9 (T.dflt 9))])) (N L none (N (N (N L none (N L (some (.row 3 (.int .i64) [] 0 0)) L)) none L) none L))), 73⟩, [.int, .int, (.st 10), (.st 10), (.lst (.st 10)), (.st 9), (.lst (.int .i64)), .nat]⟩
def q7l : Way S := ⟨.ret, ⟨(N (N L none (N L (some (.int .i64 0)) L)) none (N (N L (some (.int .i64 0)) L) none L)), (N (N (N (N (N (N L (some (.cells 44 [(.stc 10 (T.dflt 10))])) L) none L) none (N (N L (some (.cells 44 [(.stc 10 (T.dflt 10))])) L) none L)) none L) (some (.cells 32 [(.sl (.st 10) [])])) L) (some (.cells 31 [(.stc 9 (T.dflt 9))])) (N (N (N L none (N L none (N L (some (.row 3 (.int .i64) [] 0 0)) L))) none L) none (N (N (N L none (N L (some (.row 3 (.int .i64) [] 0 0)) L)) none L) none L))), 73⟩, [.int, .int, (.st 10), (.st 10), (.lst (.st 10)), (.st 9), (.lst (.int .i64)), .nat, (.lst (.int .i64)), .nat]⟩
def q7m : Way S := ⟨.ret, ⟨(N (N L none (N L (some (.int .i64 0)) L)) none (N (N L (some (.int .i64 0)) L) none L)), (N (N (N (N (N (N L (some (.cells 44 [(.stc 10 (T.dflt 10))])) L) none L) none (N (N L (some (.cells 44 [(.stc 10 (T.dflt 10))])) L) none L)) none L) (some (.cells 32 [(.sl (.st 10) [])])) L) (some (.cells 31 [(.stc 9 (T.dflt 9))])) (N (N (N L none (N L none (N L (some (.row 3 (.int .i64) [] 0 0)) L))) none L) none (N (N (N L none (N L (some (.row 3 (.int .i64) [] 0 0)) L)) none L) none (N L none (N L none (N L (some (.row 3 (.int .i64) [] 0 0)) L)))))), 73⟩, [.int, .int, (.st 10), (.st 10), (.lst (.st 10)), (.st 9), (.lst (.int .i64)), .nat, (.lst (.int .i64)), .nat, (.lst (.int .i64)), .nat]⟩
def q7n : Way S := ⟨.ret, ⟨(N (N L none (N L (some (.int .i64 0)) L)) none (N (N L (some (.int .i64 0)) L) none L)), (N (N (N (N (N (N L (some (.cells 44 [(.stc 10 (T.dflt 10))])) L) none L) none (N (N L (some (.cells 44 [(.stc 10 (T.dflt 10))])) L) none L)) none L) (some (.cells 32 [(.sl (.st 10) [])])) L) (some (.cells 31 [(.stc 9 (T.dflt 9))])) (N (N (N L none (N L none (N L (some (.row 3 (.int .i64) [] 0 0)) L))) none L) none (N (N (N L none (N L (some (.row 3 (.int .i64) [] 0 0)) L)) none L) none (N L none (N L none (N L (some (.row 3 (.int .i64) [] 0 0)) L)))))), 91⟩, [.int, .int, (.st 10), (.st 10), (.lst (.st 10)), (.st 9), (.lst (.int .i64)), .nat, (.lst (.int .i64)), .nat, (.lst (.int .i64)), .nat]⟩
def q7o : Way S := ⟨.ret, ⟨(N (N L none (N L (some (.int .i64 0)) L)) none (N (N L (some (.int .i64 0)) L) none L)), (N (N (N (N (N (N L (some (.cells 44 [(.stc 10 (T.dflt 10))])) L) none L) none (N (N L (some (.cells 44 [(.stc 10 (T.dflt 10))])) L) none L)) none L) (some (.cells 32 [(.sl (.st 10) [])])) L) (some (.cells 31 [(.stc 9 (T.dflt 9))])) (N (N (N L none (N L none (N L (some (.row 3 (.int .i64) [] 0 0)) L))) none L) none (N (N (N L none (N L (some (.row 3 (.int .i64) [] 0 0)) L)) none L) none (N L none (N L none (N L (some (.row 3 (.int .i64) [] 0 0)) L)))))), 92⟩, [.int, .int, (.st 10), (.st 10), (.lst (.st 10)), (.st 9), (.lst (.int .i64)), .nat, (.lst (.int .i64)), .nat, (.lst (.int .i64)), .nat]⟩
def q7p : Way S := ⟨(.exit 0), ⟨L, (N (N L (some (.cells 32 [(.sl (.st 10) [])])) L) (some (.cells 31 [(.stc 9 (T.dflt 9))])) L), 28⟩, [(.lst (.st 10)), (.st 9)]⟩
def q7q : LE S := ⟨q7h, q7i, [.int, (.lst (.st 10)), .int, (.lst (.st 10)), (.st 9)], [q7j, q7k, q7l, q7m, q7n, q7o, q7p]⟩
def q7r (x : tm) : ((Int × Int × SgLook × SgLook) ⊕ (Int × Int × SgLook × SgLook × (List Int) × Nat) ⊕ (Int × Int × SgLook × SgLook × (List Int) × Nat × (List Int) × Nat) ⊕ tg ⊕ tg ⊕ tg ⊕ Unit) → t0 := Sum.elim (fun y0 => (.inl (y0.1, y0.2.1, y0.2.2.1, y0.2.2.2, x.2.2.2.1, x.2.2.2.2))) (Sum.elim (fun y1 => (.inr (.inl (y1.1, y1.2.1, y1.2.2.1, y1.2.2.2.1, x.2.2.2.1, x.2.2.2.2, y1.2.2.2.2.1, y1.2.2.2.2.2)))) (Sum.elim (fun y2 => (.inr (.inr (.inl (y2.1, y2.2.1, y2.2.2.1, y2.2.2.2.1, x.2.2.2.1, x.2.2.2.2, y2.2.2.2.2.1, y2.2.2.2.2.2.1, y2.2.2.2.2.2.2.1, y2.2.2.2.2.2.2.2))))) (Sum.elim (fun y3 => (.inr (.inr (.inr (.inl (y3.1, y3.2.1, y3.2.2.1, y3.2.2.2.1, x.2.2.2.1, x.2.2.2.2, y3.2.2.2.2.1, y3.2.2.2.2.2.1, y3.2.2.2.2.2.2.1, y3.2.2.2.2.2.2.2.1, y3.2.2.2.2.2.2.2.2.1, y3.2.2.2.2.2.2.2.2.2)))))) (Sum.elim (fun y4 => (.inr (.inr (.inr (.inr (.inl (y4.1, y4.2.1, y4.2.2.1, y4.2.2.2.1, x.2.2.2.1, x.2.2.2.2, y4.2.2.2.2.1, y4.2.2.2.2.2.1, y4.2.2.2.2.2.2.1, y4.2.2.2.2.2.2.2.1, y4.2.2.2.2.2.2.2.2.1, y4.2.2.2.2.2.2.2.2.2))))))) (Sum.elim (fun y5 => (.inr (.inr (.inr (.inr (.inr (.inl (y5.1, y5.2.1, y5.2.2.1, y5.2.2.2.1, x.2.2.2.1, x.2.2.2.2, y5.2.2.2.2.1, y5.2.2.2.2.2.1, y5.2.2.2.2.2.2.1, y5.2.2.2.2.2.2.2.1, y5.2.2.2.2.2.2.2.2.1, y5.2.2.2.2.2.2.2.2.2)))))))) (fun y6 => (.inr (.inr (.inr (.inr (.inr (.inr (x.2.2.2.1, x.2.2.2.2)))))))))))))
noncomputable def q7s {R : Type} (x : tm) (k : t0 → Option R) : Option R := (swing_CheckLooks_L0_run x.2.1 x.2.2.1 x.2.2.2.1 x.2.2.2.2 x.1).bind (Sum.elim (fun y0 => k (.inl (y0.1, y0.2.1, y0.2.2.1, y0.2.2.2, x.2.2.2.1, x.2.2.2.2))) (Sum.elim (fun y1 => k (.inr (.inl (y1.1, y1.2.1, y1.2.2.1, y1.2.2.2.1, x.2.2.2.1, x.2.2.2.2, y1.2.2.2.2.1, y1.2.2.2.2.2)))) (Sum.elim (fun y2 => k (.inr (.inr (.inl (y2.1, y2.2.1, y2.2.2.1, y2.2.2.2.1, x.2.2.2.1, x.2.2.2.2, y2.2.2.2.2.1, y2.2.2.2.2.2.1, y2.2.2.2.2.2.2.1, y2.2.2.2.2.2.2.2))))) (Sum.elim (fun y3 => k (.inr (.inr (.inr (.inl (y3.1, y3.2.1, y3.2.2.1, y3.2.2.2.1, x.2.2.2.1, x.2.2.2.2, y3.2.2.2.2.1, y3.2.2.2.2.2.1, y3.2.2.2.2.2.2.1, y3.2.2.2.2.2.2.2.1, y3.2.2.2.2.2.2.2.2.1, y3.2.2.2.2.2.2.2.2.2)))))) (Sum.elim (fun y4 => k (.inr (.inr (.inr (.inr (.inl (y4.1, y4.2.1, y4.2.2.1, y4.2.2.2.1, x.2.2.2.1, x.2.2.2.2, y4.2.2.2.2.1, y4.2.2.2.2.2.1, y4.2.2.2.2.2.2.1, y4.2.2.2.2.2.2.2.1, y4.2.2.2.2.2.2.2.2.1, y4.2.2.2.2.2.2.2.2.2))))))) (Sum.elim (fun y5 => k (.inr (.inr (.inr (.inr (.inr (.inl (y5.1, y5.2.1, y5.2.2.1, y5.2.2.2.1, x.2.2.2.1, x.2.2.2.2, y5.2.2.2.2.1, y5.2.2.2.2.2.1, y5.2.2.2.2.2.2.1, y5.2.2.2.2.2.2.2.1, y5.2.2.2.2.2.2.2.2.1, y5.2.2.2.2.2.2.2.2.2)))))))) (fun y6 => k (.inr (.inr (.inr (.inr (.inr (.inr (x.2.2.2.1, x.2.2.2.2))))))))))))))
def q7t (x : tm) (v : Int) : tm := (v, x.2.1, x.2.2.1, x.2.2.2.1, x.2.2.2.2)
theorem q7u (x : tm) : LE.step X q7q q7d q7f 12 x = swing_CheckLooks_L0_step x.2.1 x.2.2.1 x.2.2.2.1 x.2.2.2.2 x.1 (fun w0 => (Sum.inl (w0, x.2.1, x.2.2.1, x.2.2.2.1, x.2.2.2.2))) (fun p0 p1 p2 p3 => (Sum.inr (.inl (p0, p1, p2, p3, x.2.2.2.1, x.2.2.2.2)))) (fun p0 p1 p2 p3 p4 p5 => (Sum.inr (.inr (.inl (p0, p1, p2, p3, x.2.2.2.1, x.2.2.2.2, p4, p5))))) (fun p0 p1 p2 p3 p4 p5 p6 p7 => (Sum.inr (.inr (.inr (.inl (p0, p1, p2, p3, x.2.2.2.1, x.2.2.2.2, p4, p5, p6, p7)))))) (fun p0 p1 p2 p3 p4 p5 p6 p7 p8 p9 => (Sum.inr (.inr (.inr (.inr (.inl (p0, p1, p2, p3, x.2.2.2.1, x.2.2.2.2, p4, p5, p6, p7, p8, p9))))))) (fun p0 p1 p2 p3 p4 p5 p6 p7 p8 p9 => (Sum.inr (.inr (.inr (.inr (.inr (.inl (p0, p1, p2, p3, x.2.2.2.1, x.2.2.2.2, p4, p5, p6, p7, p8, p9)))))))) (fun p0 p1 p2 p3 p4 p5 p6 p7 p8 p9 => (Sum.inr (.inr (.inr (.inr (.inr (.inr (.inl (p0, p1, p2, p3, x.2.2.2.1, x.2.2.2.2, p4, p5, p6, p7, p8, p9))))))))) (Sum.inr (.inr (.inr (.inr (.inr (.inr (.inr (x.2.2.2.1, x.2.2.2.2)))))))):=by kernel_rfl
theorem q7v {ρ ρ' : Type} (f : ρ → ρ') (x1 : List SgLook) (x2 : Int) (x3 : List SgLook) (x4 : SgMooring) (x0 : Int) (nx : (Int) → ρ) (e0 : (Int) → (Int) → (SgLook) → (SgLook) → ρ) (e1 : (Int) → (Int) → (SgLook) → (SgLook) → (List Int) → (Nat) → ρ) (e2 : (Int) → (Int) → (SgLook) → (SgLook) → (List Int) → (Nat) → (List Int) → (Nat) → ρ) (e3 : (Int) → (Int) → (SgLook) → (SgLook) → (List Int) → (Nat) → (List Int) → (Nat) → (List Int) → (Nat) → ρ) (e4 : (Int) → (Int) → (SgLook) → (SgLook) → (List Int) → (Nat) → (List Int) → (Nat) → (List Int) → (Nat) → ρ) (e5 : (Int) → (Int) → (SgLook) → (SgLook) → (List Int) → (Nat) → (List Int) → (Nat) → (List Int) → (Nat) → ρ) (e6 : ρ) : Option.map f (swing_CheckLooks_L0_step x1 x2 x3 x4 x0 nx e0 e1 e2 e3 e4 e5 e6) = swing_CheckLooks_L0_step x1 x2 x3 x4 x0 (fun w0 => (f (nx w0))) (fun p0 p1 p2 p3 => (f (e0 p0 p1 p2 p3))) (fun p0 p1 p2 p3 p4 p5 => (f (e1 p0 p1 p2 p3 p4 p5))) (fun p0 p1 p2 p3 p4 p5 p6 p7 => (f (e2 p0 p1 p2 p3 p4 p5 p6 p7))) (fun p0 p1 p2 p3 p4 p5 p6 p7 p8 p9 => (f (e3 p0 p1 p2 p3 p4 p5 p6 p7 p8 p9))) (fun p0 p1 p2 p3 p4 p5 p6 p7 p8 p9 => (f (e4 p0 p1 p2 p3 p4 p5 p6 p7 p8 p9))) (fun p0 p1 p2 p3 p4 p5 p6 p7 p8 p9 => (f (e5 p0 p1 p2 p3 p4 p5 p6 p7 p8 p9))) (f (e6)) := by
  unfold swing_CheckLooks_L0_step
  simp only [map_cond,map_bindO,map_elim,Option.map_some,Option.map_none]
theorem q7w {R : Type} (x : tm) (k : t0 → Option R) (r : R) (h : q7s x k = some r) : ∃ o, Runs (LE.step X q7q q7d q7f 12) x o ∧ k o = some r := by
  obtain ⟨o, h1, h2⟩ := some_bind h
  exact ⟨q7r x o, small_ok (st := fun (x : tm) => swing_CheckLooks_L0_st x.2.1 x.2.2.1 x.2.2.2.1 x.2.2.2.2) (prj := fun x => x.1) (emb := q7t) (embO := q7r) (fun x => (q7u x).trans (q7v (Sum.map (q7t x) (q7r x)) x.2.1 x.2.2.1 x.2.2.2.1 x.2.2.2.2 x.1 (fun w0 => (Sum.inl w0)) (fun p0 p1 p2 p3 => (Sum.inr (.inl (p0, p1, p2, p3)))) (fun p0 p1 p2 p3 p4 p5 => (Sum.inr (.inr (.inl (p0, p1, p2, p3, p4, p5))))) (fun p0 p1 p2 p3 p4 p5 p6 p7 => (Sum.inr (.inr (.inr (.inl (p0, p1, p2, p3, p4, p5, p6, p7)))))) (fun p0 p1 p2 p3 p4 p5 p6 p7 p8 p9 => (Sum.inr (.inr (.inr (.inr (.inl (p0, p1, p2, p3, p4, p5, p6, p7, p8, p9))))))) (fun p0 p1 p2 p3 p4 p5 p6 p7 p8 p9 => (Sum.inr (.inr (.inr (.inr (.inr (.inl (p0, p1, p2, p3, p4, p5, p6, p7, p8, p9)))))))) (fun p0 p1 p2 p3 p4 p5 p6 p7 p8 p9 => (Sum.inr (.inr (.inr (.inr (.inr (.inr (.inl (p0, p1, p2, p3, p4, p5, p6, p7, p8, p9))))))))) (Sum.inr (.inr (.inr (.inr (.inr (.inr (.inr ())))))))).symm) (fun _ _ => rfl) (fun _ _ => rfl) (fun _ _ _ => rfl) (fun _ _ _ => rfl) (fun _ => rfl) (runOf_some.1 h1), by
    first
    | exact h2
    | (rcases o with o | o | o | o | o | o | o <;> exact h2)⟩
noncomputable def q7x {R : Type} : Loops S R := LE.ls X q7q q7s q7f
theorem q7y {R : Type} : LoopsOk X (q7x (R := R)) := loop_ok xok q7e (e := q7q) q7g q7w q7g
theorem q7z (x0 : SgMooring) (x1 : List SgLook) : evFn X q7d [(.st 9), (.sl (.st 10))] [(.int .i64), (.int .i64)] q7x 12 19 (x0, x1, ()) = swing_CheckLooks x0 x1:=by kernel_rfl
noncomputable def q7A : F7 S := ⟨[(.st 9), (.sl (.st 10))], [(.int .i64), (.int .i64)], fun xs => swing_CheckLooks xs.1 xs.2.1⟩
theorem q7B : FSOk X 19 q7A := fsOk_eq (evFn_ok xok q7e q7y 12 19) fun xs _ h => (q7z xs.1 xs.2.1).trans h
noncomputable def q7C : List (Nat × F7 S) := [(64, q6Q), (66, q74)]
theorem q7D : TabOk X (q7C) := ⟨q6R, q75, trivial⟩
abbrev q7E {R : Type} : Loops S R := noLoops
theorem q7F {R : Type} : LoopsOk X (q7E (R := R)) := noLoops_ok X
theorem q7G (x0 : SgLook) (x1 : Int) : evFn X q7C [(.st 10), (.int .i64)] [(.int .i64)] q7E 12 69 (x0, x1, ()) = ref04_look x0 x1:=by kernel_rfl
noncomputable def q7H : F7 S := ⟨[(.st 10), (.int .i64)], [(.int .i64)], fun xs => ref04_look xs.1 xs.2.1⟩
theorem q7I : FSOk X 69 q7H := fsOk_eq (evFn_ok xok q7D q7F 12 69) fun xs _ h => (q7G xs.1 xs.2.1).trans h
noncomputable def q7J : List (Nat × F7 S) := [(18, q7b), (69, q7H)]
theorem q7K : TabOk X (q7J) := ⟨q7c, q7I, trivial⟩
abbrev q7L {R : Type} : Loops S R := noLoops
theorem q7M {R : Type} : LoopsOk X (q7L (R := R)) := noLoops_ok X
def q7N : Key := ⟨[20], 20, none, [0, 0, 1, 0, 1, 1, 1, 1, 1], 0, 21⟩
def q7O : StT S := ⟨(N (N L (some (.sl (.st 10) [])) (N (N L (some (.int .i64 0)) L) none L)) none (N (N (N L (some (.int .i64 0)) L) none L) none L)), (N L (some (.cells 31 [(.stc 9 (T.dflt 9))])) L), 21⟩
def q7P : Way S := ⟨.ret, ⟨(N (N L none (N L (some (.int .i64 0)) L)) none (N (N L (some (.int .i64 0)) L) none L)), (N L (some (.cells 31 [(.stc 9 (T.dflt 9))])) L), 38⟩, [.int, .int, (.st 9)]⟩
def q7Q : Way S := ⟨(.exit 0), ⟨L, (N L (some (.cells 31 [(.stc 9 (T.dflt 9))])) L), 25⟩, [(.st 9)]⟩
def q7R : LE S := ⟨q7N, q7O, [(.lst (.st 10)), .int, .int, (.st 9)], [q7P, q7Q]⟩
def q7S (x : tt) : ((Int × Int) ⊕ Unit) → ((Int × Int × SgMooring) ⊕ SgMooring) := Sum.elim (fun y0 => (.inl (y0.1, y0.2, x.2.2.2))) (fun y1 => (.inr x.2.2.2))
noncomputable def q7T {R : Type} (x : tt) (k : ((Int × Int × SgMooring) ⊕ SgMooring) → Option R) : Option R := (ref04_CheckLooks_L0_run x.1 x.2.2.2 (x.2.1, x.2.2.1)).bind (Sum.elim (fun y0 => k (.inl (y0.1, y0.2, x.2.2.2))) (fun y1 => k (.inr x.2.2.2)))
def q7U (x : tt) (v : (Int × Int)) : tt := (x.1, v.1, v.2, x.2.2.2)
theorem q7V (x : tt) : LE.step X q7R q7J q7L 12 x = ref04_CheckLooks_L0_step x.1 x.2.2.2 x.2.1 x.2.2.1 (fun w0 w1 => (Sum.inl (x.1, w0, w1, x.2.2.2))) (fun p0 p1 => (Sum.inr (.inl (p0, p1, x.2.2.2)))) (Sum.inr (.inr x.2.2.2)):=by kernel_rfl
theorem q7W {ρ ρ' : Type} (f : ρ → ρ') (x0 : List SgLook) (x3 : SgMooring) (x1 : Int) (x2 : Int) (nx : (Int) → (Int) → ρ) (e0 : (Int) → (Int) → ρ) (e1 : ρ) : Option.map f (ref04_CheckLooks_L0_step x0 x3 x1 x2 nx e0 e1) = ref04_CheckLooks_L0_step x0 x3 x1 x2 (fun w0 w1 => (f (nx w0 w1))) (fun p0 p1 => (f (e0 p0 p1))) (f (e1)) := by
  unfold ref04_CheckLooks_L0_step
  simp only [map_cond,map_bindO,map_elim,Option.map_some,Option.map_none]
theorem q7X {R : Type} (x : tt) (k : ((Int × Int × SgMooring) ⊕ SgMooring) → Option R) (r : R) (h : q7T x k = some r) : ∃ o, Runs (LE.step X q7R q7J q7L 12) x o ∧ k o = some r := by
  obtain ⟨o, h1, h2⟩ := some_bind h
  exact ⟨q7S x o, small_ok (st := fun (x : tt) => ref04_CheckLooks_L0_st x.1 x.2.2.2) (prj := fun x => (x.2.1, x.2.2.1)) (emb := q7U) (embO := q7S) (fun x => (q7V x).trans (q7W (Sum.map (q7U x) (q7S x)) x.1 x.2.2.2 x.2.1 x.2.2.1 (fun w0 w1 => (Sum.inl (w0, w1))) (fun p0 p1 => (Sum.inr (.inl (p0, p1)))) (Sum.inr (.inr ()))).symm) (fun _ _ => rfl) (fun _ _ => rfl) (fun _ _ _ => rfl) (fun _ _ _ => rfl) (fun _ => rfl) (runOf_some.1 h1), by
    first
    | exact h2
    | (rcases o with o | o <;> exact h2)⟩
noncomputable def q7Y {R : Type} : Loops S R := LE.ls X q7R q7T q7L
theorem q7Z {R : Type} : LoopsOk X (q7Y (R := R)) := loop_ok xok q7K (e := q7R) q7M q7X q7M
theorem q80 (x0 : SgMooring) (x1 : List SgLook) : evFn X q7J [(.st 9), (.sl (.st 10))] [(.int .i64), (.int .i64)] q7Y 12 20 (x0, x1, ()) = ref04_CheckLooks x0 x1:=by kernel_rfl
noncomputable def q81 : F7 S := ⟨[(.st 9), (.sl (.st 10))], [(.int .i64), (.int .i64)], fun xs => ref04_CheckLooks xs.1 xs.2.1⟩
theorem q82 : FSOk X 20 q81 := fsOk_eq (evFn_ok xok q7K q7Z 12 20) fun xs _ h => (q80 xs.1 xs.2.1).trans h
noncomputable def q83 : List (Nat × F7 S) := []
theorem q84 : TabOk X (q83) := trivial
abbrev q85 {R : Type} : Loops S R := noLoops
theorem q86 {R : Type} : LoopsOk X (q85 (R := R)) := noLoops_ok X
def q87 : Key := ⟨[108, 0, 76], 108, none, [0, 0, 1, 0, 0, 1, 0, 0, 1, 1], 2, 28⟩
def q88 : StT S := ⟨(N (N (N L (some (.int .i64 0)) L) (some (.ptr 9 0)) (N L (some (.int .i64 0)) L)) (some (.yld 13)) (N (N L (some (.int .i64 0)) L) none L)), (N (N L (some (.cells 111 [.nils, .nils, (.int .i64 0), (.int .i64 0), (.int .i64 0), (.int .i64 0), (.int .i64 0), (.int .i64 0), (.int .i64 0), (.arr (.int .u64) 5 (fun _ => tdf T (.int .u64)))])) (N (N L (some (.cells 29 [(.stc 6 (T.dflt 6))])) L) none (N L (some (.loop 76 (N (N (N L (some (.ptr 4 0)) L) (some (.ptr 0 0)) (N (N L (some (.fn (.func 108) [] [(.ptr 9 0)])) L) none L)) (some (.agg [(.stc 9 (T.dflt 9))])) (N L (some (.ptr 1 0)) L)) (10 :: (11 :: [])) .skip .skip 0 .normal (0 :: (76 :: [])) (0 :: (1 :: (0 :: (1 :: (1 :: []))))))) L))) (some (.cells 31 [(.stc 9 (T.dflt 9))])) (N (N L (some (.cells 111 [(.stc 14 (T.dflt 14))])) L) none L)), 28⟩
def q89 : Way S := ⟨(.exit 2), ⟨(N (N (N L (some (.int .i64 0)) L) (some (.ptr 9 0)) L) (some (.yld 13)) (N (N L (some (.int .i64 0)) L) none L)), (N (N L (some (.cells 111 [.nils, .nils, (.int .i64 0), (.int .i64 0), (.int .i64 0), (.int .i64 0), (.int .i64 0), (.int .i64 0), (.int .i64 0), (.arr (.int .u64) 5 (fun _ => tdf T (.int .u64)))])) (N (N L (some (.cells 29 [(.stc 6 (T.dflt 6))])) L) none (N L (some (.loop 76 (N (N (N L (some (.ptr 4 0)) L) (some (.ptr 0 0)) (N (N L (some (.fn (.func 108) [] [(.ptr 9 0)])) L) none L)) (some (.agg [(.stc 9 (T.dflt 9))])) (N L (some (.ptr 1 0)) L)) (10 :: (11 :: [])) .skip .skip 0 .normal (0 :: (76 :: [])) (0 :: (1 :: (0 :: (1 :: (1 :: []))))))) L))) (some (.cells 31 [(.stc 9 (T.dflt 9))])) (N (N L (some (.cells 111 [(.stc 14 (T.dflt 14))])) L) none L)), 33⟩, [.int, .int, .int, .int, .int, .int, .int, .int, .int, (.arr (.int .u64)), (.st 6), (.st 9), (.st 9), (.st 14)]⟩
def q8a : LE S := ⟨q87, q88, [.int, .int, .int, .int, .int, .int, .int, .int, .int, .int, (.arr (.int .u64)), (.st 6), (.st 9), (.st 9), (.st 14)], [q89]⟩
def q8b (x : tb) : (Int × swing_mooring) → tc := fun y0 => (y0.1, x.2.2.1, x.2.2.2.1, x.2.2.2.2.1, x.2.2.2.2.2.1, x.2.2.2.2.2.2.1, x.2.2.2.2.2.2.2.1, x.2.2.2.2.2.2.2.2.1, x.2.2.2.2.2.2.2.2.2.1, x.2.2.2.2.2.2.2.2.2.2.1, x.2.2.2.2.2.2.2.2.2.2.2.1, x.2.2.2.2.2.2.2.2.2.2.2.2.1, x.2.2.2.2.2.2.2.2.2.2.2.2.2.1, y0.2)
noncomputable def q8c {R : Type} (x : tb) (k : tc → Option R) : Option R := (swing_open_L1_run x.2.2.1 x.2.2.2.1 x.2.2.2.2.1 x.2.2.2.2.2.1 x.2.2.2.2.2.2.1 x.2.2.2.2.2.2.2.1 x.2.2.2.2.2.2.2.2.1 x.2.2.2.2.2.2.2.2.2.1 x.2.2.2.2.2.2.2.2.2.2.1 x.2.2.2.2.2.2.2.2.2.2.2.1 x.2.2.2.2.2.2.2.2.2.2.2.2.1 x.2.2.2.2.2.2.2.2.2.2.2.2.2.1 (x.1, x.2.1, x.2.2.2.2.2.2.2.2.2.2.2.2.2.2)).bind (fun y0 => k (y0.1, x.2.2.1, x.2.2.2.1, x.2.2.2.2.1, x.2.2.2.2.2.1, x.2.2.2.2.2.2.1, x.2.2.2.2.2.2.2.1, x.2.2.2.2.2.2.2.2.1, x.2.2.2.2.2.2.2.2.2.1, x.2.2.2.2.2.2.2.2.2.2.1, x.2.2.2.2.2.2.2.2.2.2.2.1, x.2.2.2.2.2.2.2.2.2.2.2.2.1, x.2.2.2.2.2.2.2.2.2.2.2.2.2.1, y0.2))
def q8d (x : tb) (v : (Int × Int × swing_mooring)) : tb := (v.1, v.2.1, x.2.2.1, x.2.2.2.1, x.2.2.2.2.1, x.2.2.2.2.2.1, x.2.2.2.2.2.2.1, x.2.2.2.2.2.2.2.1, x.2.2.2.2.2.2.2.2.1, x.2.2.2.2.2.2.2.2.2.1, x.2.2.2.2.2.2.2.2.2.2.1, x.2.2.2.2.2.2.2.2.2.2.2.1, x.2.2.2.2.2.2.2.2.2.2.2.2.1, x.2.2.2.2.2.2.2.2.2.2.2.2.2.1, v.2.2)
theorem q8e (x : tb) : LE.step X q8a q83 q85 12 x = swing_open_L1_step x.2.2.1 x.2.2.2.1 x.2.2.2.2.1 x.2.2.2.2.2.1 x.2.2.2.2.2.2.1 x.2.2.2.2.2.2.2.1 x.2.2.2.2.2.2.2.2.1 x.2.2.2.2.2.2.2.2.2.1 x.2.2.2.2.2.2.2.2.2.2.1 x.2.2.2.2.2.2.2.2.2.2.2.1 x.2.2.2.2.2.2.2.2.2.2.2.2.1 x.2.2.2.2.2.2.2.2.2.2.2.2.2.1 x.1 x.2.1 x.2.2.2.2.2.2.2.2.2.2.2.2.2.2 (fun w0 w1 w2 => (Sum.inl (w0, w1, x.2.2.1, x.2.2.2.1, x.2.2.2.2.1, x.2.2.2.2.2.1, x.2.2.2.2.2.2.1, x.2.2.2.2.2.2.2.1, x.2.2.2.2.2.2.2.2.1, x.2.2.2.2.2.2.2.2.2.1, x.2.2.2.2.2.2.2.2.2.2.1, x.2.2.2.2.2.2.2.2.2.2.2.1, x.2.2.2.2.2.2.2.2.2.2.2.2.1, x.2.2.2.2.2.2.2.2.2.2.2.2.2.1, w2))) (fun p0 p1 => (Sum.inr (p0, x.2.2.1, x.2.2.2.1, x.2.2.2.2.1, x.2.2.2.2.2.1, x.2.2.2.2.2.2.1, x.2.2.2.2.2.2.2.1, x.2.2.2.2.2.2.2.2.1, x.2.2.2.2.2.2.2.2.2.1, x.2.2.2.2.2.2.2.2.2.2.1, x.2.2.2.2.2.2.2.2.2.2.2.1, x.2.2.2.2.2.2.2.2.2.2.2.2.1, x.2.2.2.2.2.2.2.2.2.2.2.2.2.1, p1))):=by kernel_rfl
theorem q8f {ρ ρ' : Type} (f : ρ → ρ') (x2 : Int) (x3 : Int) (x4 : Int) (x5 : Int) (x6 : Int) (x7 : Int) (x8 : Int) (x9 : Int) (x10 : Nat → Int) (x11 : CtBox) (x12 : SgMooring) (x13 : SgMooring) (x0 : Int) (x1 : Int) (x14 : swing_mooring) (nx : (Int) → (Int) → (swing_mooring) → ρ) (e0 : (Int) → (swing_mooring) → ρ) : Option.map f (swing_open_L1_step x2 x3 x4 x5 x6 x7 x8 x9 x10 x11 x12 x13 x0 x1 x14 nx e0) = swing_open_L1_step x2 x3 x4 x5 x6 x7 x8 x9 x10 x11 x12 x13 x0 x1 x14 (fun w0 w1 w2 => (f (nx w0 w1 w2))) (fun p0 p1 => (f (e0 p0 p1))) := by
  unfold swing_open_L1_step
  simp only [map_cond,map_bindO,map_elim,Option.map_some,Option.map_none]
theorem q8g {R : Type} (x : tb) (k : tc → Option R) (r : R) (h : q8c x k = some r) : ∃ o, Runs (LE.step X q8a q83 q85 12) x o ∧ k o = some r := by
  obtain ⟨o, h1, h2⟩ := some_bind h
  exact ⟨q8b x o, small_ok (st := fun (x : tb) => swing_open_L1_st x.2.2.1 x.2.2.2.1 x.2.2.2.2.1 x.2.2.2.2.2.1 x.2.2.2.2.2.2.1 x.2.2.2.2.2.2.2.1 x.2.2.2.2.2.2.2.2.1 x.2.2.2.2.2.2.2.2.2.1 x.2.2.2.2.2.2.2.2.2.2.1 x.2.2.2.2.2.2.2.2.2.2.2.1 x.2.2.2.2.2.2.2.2.2.2.2.2.1 x.2.2.2.2.2.2.2.2.2.2.2.2.2.1) (prj := fun x => (x.1, x.2.1, x.2.2.2.2.2.2.2.2.2.2.2.2.2.2)) (emb := q8d) (embO := q8b) (fun x => (q8e x).trans (q8f (Sum.map (q8d x) (q8b x)) x.2.2.1 x.2.2.2.1 x.2.2.2.2.1 x.2.2.2.2.2.1 x.2.2.2.2.2.2.1 x.2.2.2.2.2.2.2.1 x.2.2.2.2.2.2.2.2.1 x.2.2.2.2.2.2.2.2.2.1 x.2.2.2.2.2.2.2.2.2.2.1 x.2.2.2.2.2.2.2.2.2.2.2.1 x.2.2.2.2.2.2.2.2.2.2.2.2.1 x.2.2.2.2.2.2.2.2.2.2.2.2.2.1 x.1 x.2.1 x.2.2.2.2.2.2.2.2.2.2.2.2.2.2 (fun w0 w1 w2 => (Sum.inl (w0, w1, w2))) (fun p0 p1 => (Sum.inr (p0, p1)))).symm) (fun _ _ => rfl) (fun _ _ => rfl) (fun _ _ _ => rfl) (fun _ _ _ => rfl) (fun _ => rfl) (runOf_some.1 h1), by
    first
    | exact h2
    | (rcases o with o <;> exact h2)⟩
noncomputable def q8h {R : Type} : Loops S R := LE.ls X q8a q8c q85
theorem q8i {R : Type} : LoopsOk X (q8h (R := R)) := loop_ok xok q84 (e := q8a) q86 q8g q86
def q8j : Key := ⟨[108, 0, 76], 108, none, [0, 0, 1, 1], 0, 19⟩
def q8k : StT S := ⟨(N (N (N L (some (.int .i64 0)) L) (some (.ptr 9 0)) L) (some (.yld 13)) (N (N L (some (.int .i64 0)) L) none L)), (N (N L (some (.cells 111 [.nils, .nils, (.int .i64 0), (.int .i64 0), (.int .i64 0), (.int .i64 0), (.int .i64 0), (.int .i64 0), (.int .i64 0), (.arr (.int .u64) 5 (fun _ => tdf T (.int .u64)))])) (N (N L (some (.cells 29 [(.stc 6 (T.dflt 6))])) L) none (N L (some (.loop 76 (N (N (N L (some (.ptr 4 0)) L) (some (.ptr 0 0)) (N (N L (some (.fn (.func 108) [] [(.ptr 9 0)])) L) none L)) (some (.agg [(.stc 9 (T.dflt 9))])) (N L (some (.ptr 1 0)) L)) (10 :: (11 :: [])) .skip .skip 0 .normal (0 :: (76 :: [])) (0 :: (1 :: (0 :: (1 :: (1 :: []))))))) L))) (some (.cells 31 [(.stc 9 (T.dflt 9))])) (N (N L (some (.cells 111 [(.stc 14 (T.dflt 14))])) L) none L)), 19⟩
def q8l : Way S := ⟨(.exit 0), ⟨L, (N (N L (some (.cells 111 [.nils, .nils, (.int .i64 0), (.int .i64 0), (.int .i64 0), (.int .i64 0), (.int .i64 0), (.int .i64 0), (.int .i64 0), (.arr (.int .u64) 5 (fun _ => tdf T (.int .u64)))])) (N (N L (some (.cells 29 [(.stc 6 (T.dflt 6))])) L) none (N L (some (.loop 76 (N (N (N L (some (.ptr 4 0)) L) (some (.ptr 0 0)) (N (N L (some (.fn (.func 108) [] [(.ptr 9 0)])) L) none L)) (some (.agg [(.stc 9 (T.dflt 9))])) (N L (some (.ptr 1 0)) L)) (10 :: (11 :: [])) .skip .skip 0 .normal (0 :: (76 :: [])) (0 :: (1 :: (0 :: (1 :: (1 :: []))))))) L))) (some (.cells 31 [(.stc 9 (T.dflt 9))])) (N (N L (some (.cells 111 [(.stc 14 (T.dflt 14))])) L) none L)), 24⟩, [.int, .int, .int, .int, .int, .int, .int, (.arr (.int .u64)), (.st 6), (.st 9), (.st 9), (.st 14)]⟩
def q8m : LE S := ⟨q8j, q8k, [.int, .int, .int, .int, .int, .int, .int, .int, .int, (.arr (.int .u64)), (.st 6), (.st 9), (.st 9), (.st 14)], [q8l]⟩
def q8n (x : tc) : swing_mooring → te := fun y0 => (x.2.2.1, x.2.2.2.1, x.2.2.2.2.1, x.2.2.2.2.2.1, x.2.2.2.2.2.2.1, x.2.2.2.2.2.2.2.1, x.2.2.2.2.2.2.2.2.1, x.2.2.2.2.2.2.2.2.2.1, x.2.2.2.2.2.2.2.2.2.2.1, x.2.2.2.2.2.2.2.2.2.2.2.1, x.2.2.2.2.2.2.2.2.2.2.2.2.1, y0)
noncomputable def q8o {R : Type} (x : tc) (k : te → Option R) : Option R := (swing_open_L0_run x.2.2.1 x.2.2.2.1 x.2.2.2.2.1 x.2.2.2.2.2.1 x.2.2.2.2.2.2.1 x.2.2.2.2.2.2.2.1 x.2.2.2.2.2.2.2.2.1 x.2.2.2.2.2.2.2.2.2.1 x.2.2.2.2.2.2.2.2.2.2.1 x.2.2.2.2.2.2.2.2.2.2.2.1 x.2.2.2.2.2.2.2.2.2.2.2.2.1 (x.1, x.2.1, x.2.2.2.2.2.2.2.2.2.2.2.2.2)).bind (fun y0 => k (x.2.2.1, x.2.2.2.1, x.2.2.2.2.1, x.2.2.2.2.2.1, x.2.2.2.2.2.2.1, x.2.2.2.2.2.2.2.1, x.2.2.2.2.2.2.2.2.1, x.2.2.2.2.2.2.2.2.2.1, x.2.2.2.2.2.2.2.2.2.2.1, x.2.2.2.2.2.2.2.2.2.2.2.1, x.2.2.2.2.2.2.2.2.2.2.2.2.1, y0))
def q8p (x : tc) (v : (Int × Int × swing_mooring)) : tc := (v.1, v.2.1, x.2.2.1, x.2.2.2.1, x.2.2.2.2.1, x.2.2.2.2.2.1, x.2.2.2.2.2.2.1, x.2.2.2.2.2.2.2.1, x.2.2.2.2.2.2.2.2.1, x.2.2.2.2.2.2.2.2.2.1, x.2.2.2.2.2.2.2.2.2.2.1, x.2.2.2.2.2.2.2.2.2.2.2.1, x.2.2.2.2.2.2.2.2.2.2.2.2.1, v.2.2)
theorem q8q (x : tc) : LE.step X q8m q83 q8h 12 x = swing_open_L0_step x.2.2.1 x.2.2.2.1 x.2.2.2.2.1 x.2.2.2.2.2.1 x.2.2.2.2.2.2.1 x.2.2.2.2.2.2.2.1 x.2.2.2.2.2.2.2.2.1 x.2.2.2.2.2.2.2.2.2.1 x.2.2.2.2.2.2.2.2.2.2.1 x.2.2.2.2.2.2.2.2.2.2.2.1 x.2.2.2.2.2.2.2.2.2.2.2.2.1 x.1 x.2.1 x.2.2.2.2.2.2.2.2.2.2.2.2.2 (fun w0 w1 w2 => (Sum.inl (w0, w1, x.2.2.1, x.2.2.2.1, x.2.2.2.2.1, x.2.2.2.2.2.1, x.2.2.2.2.2.2.1, x.2.2.2.2.2.2.2.1, x.2.2.2.2.2.2.2.2.1, x.2.2.2.2.2.2.2.2.2.1, x.2.2.2.2.2.2.2.2.2.2.1, x.2.2.2.2.2.2.2.2.2.2.2.1, x.2.2.2.2.2.2.2.2.2.2.2.2.1, w2))) (fun p0 => (Sum.inr (x.2.2.1, x.2.2.2.1, x.2.2.2.2.1, x.2.2.2.2.2.1, x.2.2.2.2.2.2.1, x.2.2.2.2.2.2.2.1, x.2.2.2.2.2.2.2.2.1, x.2.2.2.2.2.2.2.2.2.1, x.2.2.2.2.2.2.2.2.2.2.1, x.2.2.2.2.2.2.2.2.2.2.2.1, x.2.2.2.2.2.2.2.2.2.2.2.2.1, p0))):=by kernel_rfl
theorem q8r {ρ ρ' : Type} (f : ρ → ρ') (x2 : Int) (x3 : Int) (x4 : Int) (x5 : Int) (x6 : Int) (x7 : Int) (x8 : Int) (x9 : Nat → Int) (x10 : CtBox) (x11 : SgMooring) (x12 : SgMooring) (x0 : Int) (x1 : Int) (x13 : swing_mooring) (nx : (Int) → (Int) → (swing_mooring) → ρ) (e0 : (swing_mooring) → ρ) : Option.map f (swing_open_L0_step x2 x3 x4 x5 x6 x7 x8 x9 x10 x11 x12 x0 x1 x13 nx e0) = swing_open_L0_step x2 x3 x4 x5 x6 x7 x8 x9 x10 x11 x12 x0 x1 x13 (fun w0 w1 w2 => (f (nx w0 w1 w2))) (fun p0 => (f (e0 p0))) := by
  unfold swing_open_L0_step
  simp only [map_cond,map_bindO,map_elim,Option.map_some,Option.map_none]
theorem q8s {R : Type} (x : tc) (k : te → Option R) (r : R) (h : q8o x k = some r) : ∃ o, Runs (LE.step X q8m q83 q8h 12) x o ∧ k o = some r := by
  obtain ⟨o, h1, h2⟩ := some_bind h
  exact ⟨q8n x o, small_ok (st := fun (x : tc) => swing_open_L0_st x.2.2.1 x.2.2.2.1 x.2.2.2.2.1 x.2.2.2.2.2.1 x.2.2.2.2.2.2.1 x.2.2.2.2.2.2.2.1 x.2.2.2.2.2.2.2.2.1 x.2.2.2.2.2.2.2.2.2.1 x.2.2.2.2.2.2.2.2.2.2.1 x.2.2.2.2.2.2.2.2.2.2.2.1 x.2.2.2.2.2.2.2.2.2.2.2.2.1) (prj := fun x => (x.1, x.2.1, x.2.2.2.2.2.2.2.2.2.2.2.2.2)) (emb := q8p) (embO := q8n) (fun x => (q8q x).trans (q8r (Sum.map (q8p x) (q8n x)) x.2.2.1 x.2.2.2.1 x.2.2.2.2.1 x.2.2.2.2.2.1 x.2.2.2.2.2.2.1 x.2.2.2.2.2.2.2.1 x.2.2.2.2.2.2.2.2.1 x.2.2.2.2.2.2.2.2.2.1 x.2.2.2.2.2.2.2.2.2.2.1 x.2.2.2.2.2.2.2.2.2.2.2.1 x.2.2.2.2.2.2.2.2.2.2.2.2.1 x.1 x.2.1 x.2.2.2.2.2.2.2.2.2.2.2.2.2 (fun w0 w1 w2 => (Sum.inl (w0, w1, w2))) (fun p0 => (Sum.inr p0))).symm) (fun _ _ => rfl) (fun _ _ => rfl) (fun _ _ _ => rfl) (fun _ _ _ => rfl) (fun _ => rfl) (runOf_some.1 h1), by
    first
    | exact h2
    | (rcases o with o <;> exact h2)⟩
noncomputable def q8t {R : Type} : Loops S R := LE.ls X q8m q8o q8h
theorem q8u {R : Type} : LoopsOk X (q8t (R := R)) := loop_ok xok q84 (e := q8m) q8i q8s q8i
theorem q8v (x0 : SgMooring) : evFn X q83 [(.st 9)] [(.st 14)] q8t 12 76 (x0, ()) = swing_open x0:=by kernel_rfl
noncomputable def q8w : F7 S := ⟨[(.st 9)], [(.st 14)], fun xs => swing_open xs.1⟩
theorem q8x : FSOk X 76 q8w := fsOk_eq (evFn_ok xok q84 q8u 12 76) fun xs _ h => (q8v xs.1).trans h
noncomputable def q8y : List (Nat × F7 S) := []
theorem q8z : TabOk X (q8y) := trivial
abbrev q8A {R : Type} : Loops S R := noLoops
theorem q8B {R : Type} : LoopsOk X (q8A (R := R)) := noLoops_ok X
theorem q8C : evFn X q8y [] [(.arr 8 (.st 2))] q8A 12 131 (()) = chart_quarter:=by kernel_rfl
noncomputable def q8D : F7 S := ⟨[], [(.arr 8 (.st 2))], fun xs => chart_quarter⟩
theorem q8E : FSOk X 131 q8D := fsOk_eq (evFn_ok xok q8z q8B 12 131) fun xs _ h => (q8C).trans h
noncomputable def q8F : List (Nat × F7 S) := [(124, qC), (131, q8D)]
theorem q8G : TabOk X (q8F) := ⟨qD, q8E, trivial⟩
abbrev q8H {R : Type} : Loops S R := noLoops
theorem q8I {R : Type} : LoopsOk X (q8H (R := R)) := noLoops_ok X
def q8J : Key := ⟨[112], 112, none, [0, 0, 1, 0, 1, 1, 1], 0, 14⟩
def q8K : StT S := ⟨(N (N (N (N (N L (some (.int .i64 0)) L) none L) none L) none L) none (N (N L (some (.ptr 9 0)) L) (some (.ptr 0 0)) (N L none (N L (some (.int .i64 0)) L)))), (N (N (N L (some (.row 3 (.int .i64) [] 0 0)) L) none (N (N L (some (.cells 46 [(.stc 2 (T.dflt 2))])) L) none L)) (some (.cells 46 [(.stc 2 (T.dflt 2))])) L), 14⟩
def q8L : Way S := ⟨(.exit 0), ⟨(N L none (N (N L (some (.ptr 9 0)) L) (some (.ptr 0 0)) L)), (N (N (N L (some (.row 3 (.int .i64) [] 0 0)) L) none (N (N L (some (.cells 46 [(.stc 2 (T.dflt 2))])) L) none L)) (some (.cells 46 [(.stc 2 (T.dflt 2))])) L), 15⟩, [(.lst (.int .i64)), .nat, (.st 2), (.st 2)]⟩
def q8M : LE S := ⟨q8J, q8K, [.int, .int, (.lst (.int .i64)), .nat, (.st 2), (.st 2)], [q8L]⟩
def q8N (x : tq) : Point → ((List Int) × Nat × Point × Point) := fun y0 => (x.2.2.1, x.2.2.2.1, y0, x.2.2.2.2.2)
noncomputable def q8O {R : Type} (x : tq) (k : ((List Int) × Nat × Point × Point) → Option R) : Option R := (chart_Vector_L0_run x.2.1 x.2.2.1 x.2.2.2.1 x.2.2.2.2.2 (x.1, x.2.2.2.2.1)).bind (fun y0 => k (x.2.2.1, x.2.2.2.1, y0, x.2.2.2.2.2))
def q8P (x : tq) (v : (Int × Point)) : tq := (v.1, x.2.1, x.2.2.1, x.2.2.2.1, v.2, x.2.2.2.2.2)
theorem q8Q (x : tq) : LE.step X q8M q8F q8H 12 x = chart_Vector_L0_step x.2.1 x.2.2.1 x.2.2.2.1 x.2.2.2.2.2 x.1 x.2.2.2.2.1 (fun w0 w1 => (Sum.inl (w0, x.2.1, x.2.2.1, x.2.2.2.1, w1, x.2.2.2.2.2))) (fun p0 => (Sum.inr (x.2.2.1, x.2.2.2.1, p0, x.2.2.2.2.2))):=by kernel_rfl
theorem q8R {ρ ρ' : Type} (f : ρ → ρ') (x1 : Int) (x2 : List Int) (x3 : Nat) (x5 : Point) (x0 : Int) (x4 : Point) (nx : (Int) → (Point) → ρ) (e0 : (Point) → ρ) : Option.map f (chart_Vector_L0_step x1 x2 x3 x5 x0 x4 nx e0) = chart_Vector_L0_step x1 x2 x3 x5 x0 x4 (fun w0 w1 => (f (nx w0 w1))) (fun p0 => (f (e0 p0))) := by
  unfold chart_Vector_L0_step
  simp only [map_cond,map_bindO,map_elim,Option.map_some,Option.map_none]
theorem q8S {R : Type} (x : tq) (k : ((List Int) × Nat × Point × Point) → Option R) (r : R) (h : q8O x k = some r) : ∃ o, Runs (LE.step X q8M q8F q8H 12) x o ∧ k o = some r := by
  obtain ⟨o, h1, h2⟩ := some_bind h
  exact ⟨q8N x o, small_ok (st := fun (x : tq) => chart_Vector_L0_st x.2.1 x.2.2.1 x.2.2.2.1 x.2.2.2.2.2) (prj := fun x => (x.1, x.2.2.2.2.1)) (emb := q8P) (embO := q8N) (fun x => (q8Q x).trans (q8R (Sum.map (q8P x) (q8N x)) x.2.1 x.2.2.1 x.2.2.2.1 x.2.2.2.2.2 x.1 x.2.2.2.2.1 (fun w0 w1 => (Sum.inl (w0, w1))) (fun p0 => (Sum.inr p0))).symm) (fun _ _ => rfl) (fun _ _ => rfl) (fun _ _ _ => rfl) (fun _ _ _ => rfl) (fun _ => rfl) (runOf_some.1 h1), by
    first
    | exact h2
    | (rcases o with o <;> exact h2)⟩
noncomputable def q8T {R : Type} : Loops S R := LE.ls X q8M q8O q8H
theorem q8U {R : Type} : LoopsOk X (q8T (R := R)) := loop_ok xok q8G (e := q8M) q8I q8S q8I
theorem q8V (x0 : Int) : evFn X q8F [(.int .i64)] [(.st 2), (.int .i64)] q8T 12 112 (x0, ()) = chart_Vector x0:=by kernel_rfl
noncomputable def q8W : F7 S := ⟨[(.int .i64)], [(.st 2), (.int .i64)], fun xs => chart_Vector xs.1⟩
theorem q8X : FSOk X 112 q8W := fsOk_eq (evFn_ok xok q8G q8U 12 112) fun xs _ h => (q8V xs.1).trans h
noncomputable def q8Y : List (Nat × F7 S) := [(62, q35), (112, q8W)]
theorem q8Z : TabOk X (q8Y) := ⟨q36, q8X, trivial⟩
abbrev q90 {R : Type} : Loops S R := noLoops
theorem q91 {R : Type} : LoopsOk X (q90 (R := R)) := noLoops_ok X
def q92 : Key := ⟨[77], 77, none, [0, 0, 1, 0, 1, 1, 1, 1, 1, 1], 0, 89⟩
def q93 : StT S := ⟨(N (N (N L none (N L (some (.fn (.func 111) [] [(.ptr 16 0)])) L)) none (N L (some (.ptr 1 0)) L)) none (N (N L none (N L (some (.int .i64 0)) L)) none L)), (N (N (N L (some (.cells 46 [(.stc 2 (T.dflt 2))])) L) (some (.cells 44 [(.stc 10 (T.dflt 10))])) (N L none (N (N L none (N L (some (.row 3 (.int .i64) [] 0 0)) L)) none L))) (some (.cells 111 [(.stc 14 (T.dflt 14))])) (N (N (N (N L (some (.cells 46 [(.stc 2 (T.dflt 2))])) L) none (N (N L (some (.row 3 (.int .i64) [] 0 0)) L) none L)) none (N L none (N (N (N L (some (.row 3 (.int .i64) [] 0 0)) L) none L) none L))) (some (.cells 46 [(.stc 2 (T.dflt 2))])) L)), 89⟩
def q94 : Way S := ⟨.ret, ⟨(N L none (N (N (N L (some (.bool false)) L) none L) none L)), (N (N (N L (some (.cells 46 [(.stc 2 (T.dflt 2))])) (N L none (N L none (N L none (N L (some (.cells 46 [(.stc 2 (T.dflt 2))])) L))))) (some (.cells 44 [(.stc 10 (T.dflt 10))])) (N L none (N (N L none (N L (some (.row 3 (.int .i64) [] 0 0)) L)) none L))) (some (.cells 111 [(.stc 14 (T.dflt 14))])) (N (N (N (N L (some (.cells 46 [(.stc 2 (T.dflt 2))])) L) none (N (N L (some (.row 3 (.int .i64) [] 0 0)) L) none L)) none (N L none (N (N (N L (some (.row 3 (.int .i64) [] 0 0)) L) none L) none L))) (some (.cells 46 [(.stc 2 (T.dflt 2))])) (N (N (N L none (N (N (N L (some (.cells 46 [(.stc 2 (T.dflt 2))])) L) none L) none L)) none L) none L))), 163⟩, [.bool, (.st 2), (.st 2), (.st 10), (.lst (.int .i64)), .nat, (.st 14), (.st 2), (.lst (.int .i64)), .nat, (.lst (.int .i64)), .nat, (.st 2), (.st 2)]⟩
def q95 : Way S := ⟨(.exit 0), ⟨L, (N (N (N L (some (.cells 46 [(.stc 2 (T.dflt 2))])) L) (some (.cells 44 [(.stc 10 (T.dflt 10))])) (N L none (N (N L none (N L (some (.row 3 (.int .i64) [] 0 0)) L)) none L))) (some (.cells 111 [(.stc 14 (T.dflt 14))])) (N (N (N (N L (some (.cells 46 [(.stc 2 (T.dflt 2))])) L) none (N (N L (some (.row 3 (.int .i64) [] 0 0)) L) none L)) none (N L none (N (N (N L (some (.row 3 (.int .i64) [] 0 0)) L) none L) none L))) (some (.cells 46 [(.stc 2 (T.dflt 2))])) L)), 93⟩, [(.st 2), (.st 10), (.lst (.int .i64)), .nat, (.st 14), (.st 2), (.lst (.int .i64)), .nat, (.lst (.int .i64)), .nat, (.st 2)]⟩
def q96 : LE S := ⟨q92, q93, [.int, (.st 2), (.st 10), (.lst (.int .i64)), .nat, (.st 14), (.st 2), (.lst (.int .i64)), .nat, (.lst (.int .i64)), .nat, (.st 2)], [q94, q95]⟩
def q97 (x : td) : ((Bool × Point × Point) ⊕ Unit) → t3 := Sum.elim (fun y0 => (.inl (y0.1, x.2.1, y0.2.1, x.2.2.1, x.2.2.2.1, x.2.2.2.2.1, x.2.2.2.2.2.1, x.2.2.2.2.2.2.1, x.2.2.2.2.2.2.2.1, x.2.2.2.2.2.2.2.2.1, x.2.2.2.2.2.2.2.2.2.1, x.2.2.2.2.2.2.2.2.2.2.1, x.2.2.2.2.2.2.2.2.2.2.2, y0.2.2))) (fun y1 => (.inr (x.2.1, x.2.2.1, x.2.2.2.1, x.2.2.2.2.1, x.2.2.2.2.2.1, x.2.2.2.2.2.2.1, x.2.2.2.2.2.2.2.1, x.2.2.2.2.2.2.2.2.1, x.2.2.2.2.2.2.2.2.2.1, x.2.2.2.2.2.2.2.2.2.2.1, x.2.2.2.2.2.2.2.2.2.2.2)))
noncomputable def q98 {R : Type} (x : td) (k : t3 → Option R) : Option R := (swing_mooring_lies_L0_run x.2.1 x.2.2.1 x.2.2.2.1 x.2.2.2.2.1 x.2.2.2.2.2.1 x.2.2.2.2.2.2.1 x.2.2.2.2.2.2.2.1 x.2.2.2.2.2.2.2.2.1 x.2.2.2.2.2.2.2.2.2.1 x.2.2.2.2.2.2.2.2.2.2.1 x.2.2.2.2.2.2.2.2.2.2.2 x.1).bind (Sum.elim (fun y0 => k (.inl (y0.1, x.2.1, y0.2.1, x.2.2.1, x.2.2.2.1, x.2.2.2.2.1, x.2.2.2.2.2.1, x.2.2.2.2.2.2.1, x.2.2.2.2.2.2.2.1, x.2.2.2.2.2.2.2.2.1, x.2.2.2.2.2.2.2.2.2.1, x.2.2.2.2.2.2.2.2.2.2.1, x.2.2.2.2.2.2.2.2.2.2.2, y0.2.2))) (fun y1 => k (.inr (x.2.1, x.2.2.1, x.2.2.2.1, x.2.2.2.2.1, x.2.2.2.2.2.1, x.2.2.2.2.2.2.1, x.2.2.2.2.2.2.2.1, x.2.2.2.2.2.2.2.2.1, x.2.2.2.2.2.2.2.2.2.1, x.2.2.2.2.2.2.2.2.2.2.1, x.2.2.2.2.2.2.2.2.2.2.2))))
def q99 (x : td) (v : Int) : td := (v, x.2.1, x.2.2.1, x.2.2.2.1, x.2.2.2.2.1, x.2.2.2.2.2.1, x.2.2.2.2.2.2.1, x.2.2.2.2.2.2.2.1, x.2.2.2.2.2.2.2.2.1, x.2.2.2.2.2.2.2.2.2.1, x.2.2.2.2.2.2.2.2.2.2.1, x.2.2.2.2.2.2.2.2.2.2.2)
theorem q9a (x : td) : LE.step X q96 q8Y q90 12 x = swing_mooring_lies_L0_step x.2.1 x.2.2.1 x.2.2.2.1 x.2.2.2.2.1 x.2.2.2.2.2.1 x.2.2.2.2.2.2.1 x.2.2.2.2.2.2.2.1 x.2.2.2.2.2.2.2.2.1 x.2.2.2.2.2.2.2.2.2.1 x.2.2.2.2.2.2.2.2.2.2.1 x.2.2.2.2.2.2.2.2.2.2.2 x.1 (fun w0 => (Sum.inl (w0, x.2.1, x.2.2.1, x.2.2.2.1, x.2.2.2.2.1, x.2.2.2.2.2.1, x.2.2.2.2.2.2.1, x.2.2.2.2.2.2.2.1, x.2.2.2.2.2.2.2.2.1, x.2.2.2.2.2.2.2.2.2.1, x.2.2.2.2.2.2.2.2.2.2.1, x.2.2.2.2.2.2.2.2.2.2.2))) (fun p0 p1 p2 => (Sum.inr (.inl (p0, x.2.1, p1, x.2.2.1, x.2.2.2.1, x.2.2.2.2.1, x.2.2.2.2.2.1, x.2.2.2.2.2.2.1, x.2.2.2.2.2.2.2.1, x.2.2.2.2.2.2.2.2.1, x.2.2.2.2.2.2.2.2.2.1, x.2.2.2.2.2.2.2.2.2.2.1, x.2.2.2.2.2.2.2.2.2.2.2, p2)))) (Sum.inr (.inr (x.2.1, x.2.2.1, x.2.2.2.1, x.2.2.2.2.1, x.2.2.2.2.2.1, x.2.2.2.2.2.2.1, x.2.2.2.2.2.2.2.1, x.2.2.2.2.2.2.2.2.1, x.2.2.2.2.2.2.2.2.2.1, x.2.2.2.2.2.2.2.2.2.2.1, x.2.2.2.2.2.2.2.2.2.2.2))):=by kernel_rfl
theorem q9b {ρ ρ' : Type} (f : ρ → ρ') (x1 : Point) (x2 : SgLook) (x3 : List Int) (x4 : Nat) (x5 : swing_mooring) (x6 : Point) (x7 : List Int) (x8 : Nat) (x9 : List Int) (x10 : Nat) (x11 : Point) (x0 : Int) (nx : (Int) → ρ) (e0 : (Bool) → (Point) → (Point) → ρ) (e1 : ρ) : Option.map f (swing_mooring_lies_L0_step x1 x2 x3 x4 x5 x6 x7 x8 x9 x10 x11 x0 nx e0 e1) = swing_mooring_lies_L0_step x1 x2 x3 x4 x5 x6 x7 x8 x9 x10 x11 x0 (fun w0 => (f (nx w0))) (fun p0 p1 p2 => (f (e0 p0 p1 p2))) (f (e1)) := by
  unfold swing_mooring_lies_L0_step
  simp only [map_cond,map_bindO,map_elim,Option.map_some,Option.map_none]
theorem q9c {R : Type} (x : td) (k : t3 → Option R) (r : R) (h : q98 x k = some r) : ∃ o, Runs (LE.step X q96 q8Y q90 12) x o ∧ k o = some r := by
  obtain ⟨o, h1, h2⟩ := some_bind h
  exact ⟨q97 x o, small_ok (st := fun (x : td) => swing_mooring_lies_L0_st x.2.1 x.2.2.1 x.2.2.2.1 x.2.2.2.2.1 x.2.2.2.2.2.1 x.2.2.2.2.2.2.1 x.2.2.2.2.2.2.2.1 x.2.2.2.2.2.2.2.2.1 x.2.2.2.2.2.2.2.2.2.1 x.2.2.2.2.2.2.2.2.2.2.1 x.2.2.2.2.2.2.2.2.2.2.2) (prj := fun x => x.1) (emb := q99) (embO := q97) (fun x => (q9a x).trans (q9b (Sum.map (q99 x) (q97 x)) x.2.1 x.2.2.1 x.2.2.2.1 x.2.2.2.2.1 x.2.2.2.2.2.1 x.2.2.2.2.2.2.1 x.2.2.2.2.2.2.2.1 x.2.2.2.2.2.2.2.2.1 x.2.2.2.2.2.2.2.2.2.1 x.2.2.2.2.2.2.2.2.2.2.1 x.2.2.2.2.2.2.2.2.2.2.2 x.1 (fun w0 => (Sum.inl w0)) (fun p0 p1 p2 => (Sum.inr (.inl (p0, p1, p2)))) (Sum.inr (.inr ()))).symm) (fun _ _ => rfl) (fun _ _ => rfl) (fun _ _ _ => rfl) (fun _ _ _ => rfl) (fun _ => rfl) (runOf_some.1 h1), by
    first
    | exact h2
    | (rcases o with o | o <;> exact h2)⟩
noncomputable def q9d {R : Type} : Loops S R := LE.ls X q96 q98 q90
theorem q9e {R : Type} : LoopsOk X (q9d (R := R)) := loop_ok xok q8Z (e := q96) q91 q9c q91
theorem q9f (x0 : swing_mooring) (x1 : SgLook) (x2 : Point) (x3 : Point) : evFn X q8Y [(.st 14), (.st 10), (.st 2), (.st 2)] [.bool] q9d 12 77 (x0, x1, x2, x3, ()) = swing_mooring_lies x0 x1 x2 x3:=by kernel_rfl
noncomputable def q9g : F7 S := ⟨[(.st 14), (.st 10), (.st 2), (.st 2)], [.bool], fun xs => swing_mooring_lies xs.1 xs.2.1 xs.2.2.1 xs.2.2.2.1⟩
theorem q9h : FSOk X 77 q9g := fsOk_eq (evFn_ok xok q8Z q9e 12 77) fun xs _ h => (q9f xs.1 xs.2.1 xs.2.2.1 xs.2.2.2.1).trans h
noncomputable def q9i : List (Nat × F7 S) := []
theorem q9j : TabOk X (q9i) := trivial
abbrev q9k {R : Type} : Loops S R := noLoops
theorem q9l {R : Type} : LoopsOk X (q9k (R := R)) := noLoops_ok X
theorem q9m (x0 : Point) : evFn X q9i [(.st 2)] [(.int .i64)] q9k 12 114 (x0, ()) = ref04_square x0:=by kernel_rfl
noncomputable def q9n : F7 S := ⟨[(.st 2)], [(.int .i64)], fun xs => ref04_square xs.1⟩
theorem q9o : FSOk X 114 q9n := fsOk_eq (evFn_ok xok q9j q9l 12 114) fun xs _ h => (q9m xs.1).trans h
noncomputable def q9p : List (Nat × F7 S) := []
theorem q9q : TabOk X (q9p) := trivial
abbrev q9r {R : Type} : Loops S R := noLoops
theorem q9s {R : Type} : LoopsOk X (q9r (R := R)) := noLoops_ok X
theorem q9t (x0 : Point) : evFn X q9p [(.st 2)] [(.st 2)] q9r 12 134 (x0, ()) = ref01_turned x0:=by kernel_rfl
noncomputable def q9u : F7 S := ⟨[(.st 2)], [(.st 2)], fun xs => ref01_turned xs.1⟩
theorem q9v : FSOk X 134 q9u := fsOk_eq (evFn_ok xok q9q q9s 12 134) fun xs _ h => (q9t xs.1).trans h
noncomputable def q9w (ih : (Int × Unit) → Option (Point)) : List (Nat × F7 S) := [(134, q9u), (118, ⟨[(.int .i64)], [(.st 2)], ih⟩)]
theorem q9x (ih : (Int × Unit) → Option (Point)) (hih : FSOk X 118 ⟨[(.int .i64)], [(.st 2)], ih⟩) : TabOk X (q9w ih) := ⟨q9v, hih, trivial⟩
abbrev q9y (ih : (Int × Unit) → Option (Point)) {R : Type} : Loops S R := noLoops
theorem q9z (ih : (Int × Unit) → Option (Point)) (hih : FSOk X 118 ⟨[(.int .i64)], [(.st 2)], ih⟩) {R : Type} : LoopsOk X (q9y ih (R := R)) := noLoops_ok X
theorem q9A (ih : (Int × Unit) → Option (Point)) (x0 : Int) : evFn X (q9w ih) [(.int .i64)] [(.st 2)] (q9y ih) 12 118 (x0, ()) = ref01_Compass_one ih x0:=by kernel_rfl
noncomputable def q9B : F7 S := ⟨[(.int .i64)], [(.st 2)], fun xs => ref01_Compass xs.1⟩
theorem q9C : FSOk X 118 q9B := rec_ok (X := X) (g := 118) (pts := [(.int .i64)]) (rts := [(.st 2)]) (t := ref01_Compass_rec) fun ih hih => fsOk_eq (evFn_ok xok (q9x ih hih) (q9z ih hih) 12 118) fun xs _ h => (q9A ih xs.1).trans h
noncomputable def q9D : List (Nat × F7 S) := [(118, q9B), (92, q5i)]
theorem q9E : TabOk X (q9D) := ⟨q9C, q5j, trivial⟩
abbrev q9F {R : Type} : Loops S R := noLoops
theorem q9G {R : Type} : LoopsOk X (q9F (R := R)) := noLoops_ok X
def q9H : Key := ⟨[91], 91, none, [0, 0, 0, 1, 1], 0, 3⟩
def q9I : StT S := ⟨(N (N (N L (some (.int .i64 0)) L) (some (.ptr 0 0)) L) none L), (N L (some (.cells 46 [(.stc 2 (T.dflt 2))])) L), 3⟩
def q9J : Way S := ⟨(.exit 0), ⟨(N (N (N L (some (.int .i64 0)) L) none L) none L), (N L (some (.cells 46 [(.stc 2 (T.dflt 2))])) L), 17⟩, [.int, (.st 2)]⟩
def q9K : LE S := ⟨q9H, q9I, [.int, (.st 2)], [q9J]⟩
def q9L (x : (Int × Point)) : Int → (Int × Point) := fun y0 => (y0, x.2)
noncomputable def q9M {R : Type} (x : (Int × Point)) (k : (Int × Point) → Option R) : Option R := (ref01_Toward_L0_run x.2 x.1).bind (fun y0 => k (y0, x.2))
def q9N (x : (Int × Point)) (v : Int) : (Int × Point) := (v, x.2)
theorem q9O (x : (Int × Point)) : LE.step X q9K q9D q9F 12 x = ref01_Toward_L0_step x.2 x.1 (fun w0 => (Sum.inl (w0, x.2))) (fun p0 => (Sum.inr (p0, x.2))):=by kernel_rfl
theorem q9P {ρ ρ' : Type} (f : ρ → ρ') (x1 : Point) (x0 : Int) (nx : (Int) → ρ) (e0 : (Int) → ρ) : Option.map f (ref01_Toward_L0_step x1 x0 nx e0) = ref01_Toward_L0_step x1 x0 (fun w0 => (f (nx w0))) (fun p0 => (f (e0 p0))) := by
  unfold ref01_Toward_L0_step
  simp only [map_cond,map_bindO,map_elim,Option.map_some,Option.map_none]
theorem q9Q {R : Type} (x : (Int × Point)) (k : (Int × Point) → Option R) (r : R) (h : q9M x k = some r) : ∃ o, Runs (LE.step X q9K q9D q9F 12) x o ∧ k o = some r := by
  obtain ⟨o, h1, h2⟩ := some_bind h
  exact ⟨q9L x o, small_ok (st := fun (x : (Int × Point)) => ref01_Toward_L0_st x.2) (prj := fun x => x.1) (emb := q9N) (embO := q9L) (fun x => (q9O x).trans (q9P (Sum.map (q9N x) (q9L x)) x.2 x.1 (fun w0 => (Sum.inl w0)) (fun p0 => (Sum.inr p0))).symm) (fun _ _ => rfl) (fun _ _ => rfl) (fun _ _ _ => rfl) (fun _ _ _ => rfl) (fun _ => rfl) (runOf_some.1 h1), by
    first
    | exact h2
    | (rcases o with o <;> exact h2)⟩
noncomputable def q9R {R : Type} : Loops S R := LE.ls X q9K q9M q9F
theorem q9S {R : Type} : LoopsOk X (q9R (R := R)) := loop_ok xok q9E (e := q9K) q9G q9Q q9G
theorem q9T (x0 : Point) : evFn X q9D [(.st 2)] [(.int .i64)] q9R 12 91 (x0, ()) = ref01_Toward x0:=by kernel_rfl
noncomputable def q9U : F7 S := ⟨[(.st 2)], [(.int .i64)], fun xs => ref01_Toward xs.1⟩
theorem q9V : FSOk X 91 q9U := fsOk_eq (evFn_ok xok q9E q9S 12 91) fun xs _ h => (q9T xs.1).trans h
noncomputable def q9W : List (Nat × F7 S) := [(93, q5b), (114, q9n), (66, q74), (91, q9U)]
theorem q9X : TabOk X (q9W) := ⟨q5c, q9o, q75, q9V, trivial⟩
abbrev q9Y {R : Type} : Loops S R := noLoops
theorem q9Z {R : Type} : LoopsOk X (q9Y (R := R)) := noLoops_ok X
def qa0 : Key := ⟨[79], 79, none, [0, 0, 1, 0, 1, 1, 1, 1, 1], 0, 63⟩
def qa1 : StT S := ⟨(N (N (N L none (N L (some (.int .i64 0)) L)) none (N L (some (.ptr 1 0)) L)) none (N L none (N (N L (some (.int .i64 0)) L) none L))), (N (N (N L (some (.cells 46 [(.stc 2 (T.dflt 2))])) L) (some (.cells 44 [(.stc 10 (T.dflt 10))])) L) (some (.cells 31 [(.stc 9 (T.dflt 9))])) (N (N (N L (some (.cells 46 [(.stc 2 (T.dflt 2))])) L) none L) (some (.cells 46 [(.stc 2 (T.dflt 2))])) L)), 63⟩
def qa2 : Way S := ⟨.ret, ⟨(N L none (N (N (N L (some (.bool false)) L) none L) none L)), (N (N (N L (some (.cells 46 [(.stc 2 (T.dflt 2))])) L) (some (.cells 44 [(.stc 10 (T.dflt 10))])) L) (some (.cells 31 [(.stc 9 (T.dflt 9))])) (N (N (N L (some (.cells 46 [(.stc 2 (T.dflt 2))])) L) none L) (some (.cells 46 [(.stc 2 (T.dflt 2))])) L)), 75⟩, [.bool, (.st 2), (.st 10), (.st 9), (.st 2), (.st 2)]⟩
def qa3 : Way S := ⟨(.exit 0), ⟨L, (N (N (N L (some (.cells 46 [(.stc 2 (T.dflt 2))])) L) (some (.cells 44 [(.stc 10 (T.dflt 10))])) L) (some (.cells 31 [(.stc 9 (T.dflt 9))])) (N (N (N L (some (.cells 46 [(.stc 2 (T.dflt 2))])) L) none L) (some (.cells 46 [(.stc 2 (T.dflt 2))])) L)), 67⟩, [(.st 2), (.st 10), (.st 9), (.st 2), (.st 2)]⟩
def qa4 : LE S := ⟨qa0, qa1, [.int, .int, (.st 2), (.st 10), (.st 9), (.st 2), (.st 2)], [qa2, qa3]⟩
def qa5 (x : tl) : (Bool ⊕ Unit) → tf := Sum.elim (fun y0 => (.inl (y0, x.2.2.1, x.2.2.2.1, x.2.2.2.2.1, x.2.2.2.2.2.1, x.2.2.2.2.2.2))) (fun y1 => (.inr (x.2.2.1, x.2.2.2.1, x.2.2.2.2.1, x.2.2.2.2.2.1, x.2.2.2.2.2.2)))
noncomputable def qa6 {R : Type} (x : tl) (k : tf → Option R) : Option R := (ref04_Can_L0_run x.2.1 x.2.2.1 x.2.2.2.1 x.2.2.2.2.1 x.2.2.2.2.2.1 x.2.2.2.2.2.2 x.1).bind (Sum.elim (fun y0 => k (.inl (y0, x.2.2.1, x.2.2.2.1, x.2.2.2.2.1, x.2.2.2.2.2.1, x.2.2.2.2.2.2))) (fun y1 => k (.inr (x.2.2.1, x.2.2.2.1, x.2.2.2.2.1, x.2.2.2.2.2.1, x.2.2.2.2.2.2))))
def qa7 (x : tl) (v : Int) : tl := (v, x.2.1, x.2.2.1, x.2.2.2.1, x.2.2.2.2.1, x.2.2.2.2.2.1, x.2.2.2.2.2.2)
theorem qa8 (x : tl) : LE.step X qa4 q9W q9Y 12 x = ref04_Can_L0_step x.2.1 x.2.2.1 x.2.2.2.1 x.2.2.2.2.1 x.2.2.2.2.2.1 x.2.2.2.2.2.2 x.1 (fun w0 => (Sum.inl (w0, x.2.1, x.2.2.1, x.2.2.2.1, x.2.2.2.2.1, x.2.2.2.2.2.1, x.2.2.2.2.2.2))) (fun p0 => (Sum.inr (.inl (p0, x.2.2.1, x.2.2.2.1, x.2.2.2.2.1, x.2.2.2.2.2.1, x.2.2.2.2.2.2)))) (Sum.inr (.inr (x.2.2.1, x.2.2.2.1, x.2.2.2.2.1, x.2.2.2.2.2.1, x.2.2.2.2.2.2))):=by kernel_rfl
theorem qa9 {ρ ρ' : Type} (f : ρ → ρ') (x1 : Int) (x2 : Point) (x3 : SgLook) (x4 : SgMooring) (x5 : Point) (x6 : Point) (x0 : Int) (nx : (Int) → ρ) (e0 : (Bool) → ρ) (e1 : ρ) : Option.map f (ref04_Can_L0_step x1 x2 x3 x4 x5 x6 x0 nx e0 e1) = ref04_Can_L0_step x1 x2 x3 x4 x5 x6 x0 (fun w0 => (f (nx w0))) (fun p0 => (f (e0 p0))) (f (e1)) := by
  unfold ref04_Can_L0_step
  simp only [map_cond,map_bindO,map_elim,Option.map_some,Option.map_none]
theorem qaa {R : Type} (x : tl) (k : tf → Option R) (r : R) (h : qa6 x k = some r) : ∃ o, Runs (LE.step X qa4 q9W q9Y 12) x o ∧ k o = some r := by
  obtain ⟨o, h1, h2⟩ := some_bind h
  exact ⟨qa5 x o, small_ok (st := fun (x : tl) => ref04_Can_L0_st x.2.1 x.2.2.1 x.2.2.2.1 x.2.2.2.2.1 x.2.2.2.2.2.1 x.2.2.2.2.2.2) (prj := fun x => x.1) (emb := qa7) (embO := qa5) (fun x => (qa8 x).trans (qa9 (Sum.map (qa7 x) (qa5 x)) x.2.1 x.2.2.1 x.2.2.2.1 x.2.2.2.2.1 x.2.2.2.2.2.1 x.2.2.2.2.2.2 x.1 (fun w0 => (Sum.inl w0)) (fun p0 => (Sum.inr (.inl p0))) (Sum.inr (.inr ()))).symm) (fun _ _ => rfl) (fun _ _ => rfl) (fun _ _ _ => rfl) (fun _ _ _ => rfl) (fun _ => rfl) (runOf_some.1 h1), by
    first
    | exact h2
    | (rcases o with o | o <;> exact h2)⟩
noncomputable def qab {R : Type} : Loops S R := LE.ls X qa4 qa6 q9Y
theorem qac {R : Type} : LoopsOk X (qab (R := R)) := loop_ok xok q9X (e := qa4) q9Z qaa q9Z
theorem qad (x0 : SgMooring) (x1 : SgLook) (x2 : Point) (x3 : Point) : evFn X q9W [(.st 9), (.st 10), (.st 2), (.st 2)] [.bool] qab 12 79 (x0, x1, x2, x3, ()) = ref04_Can x0 x1 x2 x3:=by kernel_rfl
noncomputable def qae : F7 S := ⟨[(.st 9), (.st 10), (.st 2), (.st 2)], [.bool], fun xs => ref04_Can xs.1 xs.2.1 xs.2.2.1 xs.2.2.2.1⟩
theorem qaf : FSOk X 79 qae := fsOk_eq (evFn_ok xok q9X qac 12 79) fun xs _ h => (qad xs.1 xs.2.1 xs.2.2.1 xs.2.2.2.1).trans h
noncomputable def qag : List (Nat × F7 S) := [(19, q7A), (62, q35), (76, q8w), (77, q9g)]
theorem qah : TabOk X (qag) := ⟨q7B, q36, q8x, q9h, trivial⟩
abbrev qai {R : Type} : Loops S R := noLoops
theorem qaj {R : Type} : LoopsOk X (qai (R := R)) := noLoops_ok X
theorem qak (x0 : SgMooring) (x1 : SgLook) (x2 : Point) (x3 : Point) : evFn X qag [(.st 9), (.st 10), (.st 2), (.st 2)] [.bool, (.int .i64)] qai 12 25 (x0, x1, x2, x3, ()) = swing_Lies x0 x1 x2 x3:=by kernel_rfl
noncomputable def qal : F7 S := ⟨[(.st 9), (.st 10), (.st 2), (.st 2)], [.bool, (.int .i64)], fun xs => swing_Lies xs.1 xs.2.1 xs.2.2.1 xs.2.2.2.1⟩
theorem qam : FSOk X 25 qal := fsOk_eq (evFn_ok xok qah qaj 12 25) fun xs _ h => (qak xs.1 xs.2.1 xs.2.2.1 xs.2.2.2.1).trans h
noncomputable def qan : F7 S := ⟨[], [.bool], fun _ => law04_Awake⟩
theorem qao : FSOk X 24 qan := closedTrue_ok (X := X) (F := law04_Awake) rfl law04_Awake_run
noncomputable def qap : List (Nat × F7 S) := [(20, q81), (78, q4i), (79, qae)]
theorem qaq : TabOk X (qap) := ⟨q82, q4j, qaf, trivial⟩
abbrev qar {R : Type} : Loops S R := noLoops
theorem qas {R : Type} : LoopsOk X (qar (R := R)) := noLoops_ok X
theorem qat (x0 : SgMooring) (x1 : SgLook) (x2 : Point) (x3 : Point) : evFn X qap [(.st 9), (.st 10), (.st 2), (.st 2)] [.bool, (.int .i64)] qar 12 26 (x0, x1, x2, x3, ()) = ref04_Lies x0 x1 x2 x3:=by kernel_rfl
noncomputable def qau : F7 S := ⟨[(.st 9), (.st 10), (.st 2), (.st 2)], [.bool, (.int .i64)], fun xs => ref04_Lies xs.1 xs.2.1 xs.2.2.1 xs.2.2.2.1⟩
theorem qav : FSOk X 26 qau := fsOk_eq (evFn_ok xok qaq qas 12 26) fun xs _ h => (qat xs.1 xs.2.1 xs.2.2.1 xs.2.2.2.1).trans h
noncomputable def qaw : List (Nat × F7 S) := [(25, qal), (26, qau), (24, qan)]
theorem qax : TabOk X (qaw) := ⟨qam, qav, qao, trivial⟩
abbrev qay {R : Type} : Loops S R := noLoops
theorem qaz {R : Type} : LoopsOk X (qay (R := R)) := noLoops_ok X
theorem qaA (x0 : SgMooring) (x1 : SgLook) (x2 : norelaw04_Laid) : evFn X qaw [(.st 9), (.st 10), (.st 11)] [.bool] qay 12 4 (x0, x1, x2, ()) = law04_SwingLies x0 x1 x2:=by kernel_rfl
noncomputable def qaB : F7 S := ⟨[(.st 9), (.st 10), (.st 11)], [.bool], fun xs => law04_SwingLies xs.1 xs.2.1 xs.2.2.1⟩
theorem law04_SwingLies_fsok : FSOk X 4 qaB := fsOk_eq (evFn_ok xok qax qaz 12 4) fun xs _ h => (qaA xs.1 xs.2.1 xs.2.2.1).trans h
end Nore
