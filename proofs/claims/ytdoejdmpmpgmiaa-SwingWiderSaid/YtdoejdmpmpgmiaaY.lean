/- The structs of the program as plain structures. -/
import Derived.Test.YtdoejdmpmpgmiaaTv13
import Derived.Test.YtdoejdmpmpgmiaaB
import Derived.Test.YtdoejdmpmpgmiaaAb31
import Derived.KernelRfl
import Derived.Test.YtdoejdmpmpgmiaaTv14
set_option linter.unusedSectionVars false
set_option linter.unusedVariables false
set_option linter.unusedSimpArgs false
namespace Nore
open Go Go.Ab
@[ext] structure runtime_boundsError where
  x : Int
  y : Int
  signed : Bool
  code : Int
@[ext] structure runtime_errorAddressString where
  msg : ByteArray
  addr : Int
@[ext] structure Point where
  X : Int
  Y : Int
@[ext] structure CtPaint where
  Day : Int
  Colour : Int
@[ext] structure CtMark where
  Name : ByteArray
  At : Point
  Paints : (List CtPaint)
@[ext] structure Span where
  Lo : Int
  Hi : Int
@[ext] structure CtBox where
  X : Span
  Y : Span
@[ext] structure CtSand where
  Name : ByteArray
  Corners : (List Point)
  Moves : CtBox
@[ext] structure CtChart where
  Marks : (List CtMark)
  Sands : (List CtSand)
@[ext] structure SgMooring where
  Chart : CtChart
  Anchor : CtBox
  Ring : Span
  Near : Int
@[ext] structure SgLook where
  Minute : Int
  Point : Int
  Points : Int
  At : CtBox
@[ext] structure norelaw04_Laid where
  Anchor : Point
  At : Point
@[ext] structure norelaw04_Past where
  Anchor : (Nat → Int)
  Lay : (List Int)
@[ext] structure norelaw04_Looks where
  List_ : (List SgLook)
  More : SgLook
@[ext] structure swing_mooring where
  SgMooring : SgMooring
  all_ : (Nat → Int)
@[ext] structure chart_sand where
  CtSand : CtSand
@[ext] structure chart_ends_int where
  lo : Int
  hi : Int
@[ext] structure chart_side where
  at_ : Point
  by_ : Point
def S : Nat → Type
  | 0 => runtime_boundsError
  | 1 => runtime_errorAddressString
  | 2 => Point
  | 3 => CtPaint
  | 4 => CtMark
  | 5 => Span
  | 6 => CtBox
  | 7 => CtSand
  | 8 => CtChart
  | 9 => SgMooring
  | 10 => SgLook
  | 11 => norelaw04_Laid
  | 12 => norelaw04_Past
  | 13 => norelaw04_Looks
  | 14 => swing_mooring
  | 15 => chart_sand
  | 16 => chart_ends_int
  | 17 => chart_side
  | _ + 18 => Unit
def runtime_boundsError.cl (x : runtime_boundsError) : List (TV S) := [.int .i64 x.x] ++ [.int .i64 x.y] ++ [.bool x.signed] ++ [.int .u8 x.code]
def runtime_boundsError.dl (x : runtime_boundsError) : List DV := [.int .i64 x.x] ++ [.int .i64 x.y] ++ [.bool x.signed] ++ [.int .u8 x.code]
def runtime_boundsError.df : runtime_boundsError := ⟨(0 : Int), (0 : Int), false, (0 : Int)⟩
def runtime_errorAddressString.cl (x : runtime_errorAddressString) : List (TV S) := [.str x.msg] ++ [.int .u64 x.addr]
def runtime_errorAddressString.dl (x : runtime_errorAddressString) : List DV := [.str x.msg] ++ [.int .u64 x.addr]
def runtime_errorAddressString.df : runtime_errorAddressString := ⟨ByteArray.empty, (0 : Int)⟩
def Point.cl (x : Point) : List (TV S) := [.int .i64 x.X] ++ [.int .i64 x.Y]
def Point.dl (x : Point) : List DV := [.int .i64 x.X] ++ [.int .i64 x.Y]
def Point.df : Point := ⟨(0 : Int), (0 : Int)⟩
def CtPaint.cl (x : CtPaint) : List (TV S) := [.int .i64 x.Day] ++ [.int .i64 x.Colour]
def CtPaint.dl (x : CtPaint) : List DV := [.int .i64 x.Day] ++ [.int .i64 x.Colour]
def CtPaint.df : CtPaint := ⟨(0 : Int), (0 : Int)⟩
def CtMark.cl (x : CtMark) : List (TV S) := [.str x.Name] ++ [.stc 2 x.At] ++ [.sl (.st 3) x.Paints]
def CtMark.dl (x : CtMark) : List DV := [.str x.Name] ++ (Point.dl x.At) ++ [.sl (List.map (fun y => (CtPaint.dl y)) x.Paints)]
def CtMark.df : CtMark := ⟨ByteArray.empty, ⟨(0 : Int), (0 : Int)⟩, []⟩
def Span.cl (x : Span) : List (TV S) := [.int .i64 x.Lo] ++ [.int .i64 x.Hi]
def Span.dl (x : Span) : List DV := [.int .i64 x.Lo] ++ [.int .i64 x.Hi]
def Span.df : Span := ⟨(0 : Int), (0 : Int)⟩
def CtBox.cl (x : CtBox) : List (TV S) := [.stc 5 x.X] ++ [.stc 5 x.Y]
def CtBox.dl (x : CtBox) : List DV := (Span.dl x.X) ++ (Span.dl x.Y)
def CtBox.df : CtBox := ⟨⟨(0 : Int), (0 : Int)⟩, ⟨(0 : Int), (0 : Int)⟩⟩
def CtSand.cl (x : CtSand) : List (TV S) := [.str x.Name] ++ [.sl (.st 2) x.Corners] ++ [.stc 6 x.Moves]
def CtSand.dl (x : CtSand) : List DV := [.str x.Name] ++ [.sl (List.map (fun y => (Point.dl y)) x.Corners)] ++ (CtBox.dl x.Moves)
def CtSand.df : CtSand := ⟨ByteArray.empty, [], ⟨⟨(0 : Int), (0 : Int)⟩, ⟨(0 : Int), (0 : Int)⟩⟩⟩
def CtChart.cl (x : CtChart) : List (TV S) := [.sl (.st 4) x.Marks] ++ [.sl (.st 7) x.Sands]
def CtChart.dl (x : CtChart) : List DV := [.sl (List.map (fun y => (CtMark.dl y)) x.Marks)] ++ [.sl (List.map (fun y => (CtSand.dl y)) x.Sands)]
def CtChart.df : CtChart := ⟨[], []⟩
def SgMooring.cl (x : SgMooring) : List (TV S) := [.stc 8 x.Chart] ++ [.stc 6 x.Anchor] ++ [.stc 5 x.Ring] ++ [.int .i64 x.Near]
def SgMooring.dl (x : SgMooring) : List DV := (CtChart.dl x.Chart) ++ (CtBox.dl x.Anchor) ++ (Span.dl x.Ring) ++ [.int .i64 x.Near]
def SgMooring.df : SgMooring := ⟨⟨[], []⟩, ⟨⟨(0 : Int), (0 : Int)⟩, ⟨(0 : Int), (0 : Int)⟩⟩, ⟨(0 : Int), (0 : Int)⟩, (0 : Int)⟩
def SgLook.cl (x : SgLook) : List (TV S) := [.int .i64 x.Minute] ++ [.int .i64 x.Point] ++ [.int .i64 x.Points] ++ [.stc 6 x.At]
def SgLook.dl (x : SgLook) : List DV := [.int .i64 x.Minute] ++ [.int .i64 x.Point] ++ [.int .i64 x.Points] ++ (CtBox.dl x.At)
def SgLook.df : SgLook := ⟨(0 : Int), (0 : Int), (0 : Int), ⟨⟨(0 : Int), (0 : Int)⟩, ⟨(0 : Int), (0 : Int)⟩⟩⟩
def norelaw04_Laid.cl (x : norelaw04_Laid) : List (TV S) := [.stc 2 x.Anchor] ++ [.stc 2 x.At]
def norelaw04_Laid.dl (x : norelaw04_Laid) : List DV := (Point.dl x.Anchor) ++ (Point.dl x.At)
def norelaw04_Laid.df : norelaw04_Laid := ⟨⟨(0 : Int), (0 : Int)⟩, ⟨(0 : Int), (0 : Int)⟩⟩
def norelaw04_Past.cl (x : norelaw04_Past) : List (TV S) := [.arr (.int .u8) 2 x.Anchor] ++ [.sl (.int .u16) x.Lay]
def norelaw04_Past.dl (x : norelaw04_Past) : List DV := ((List.range 2).flatMap fun j => [.int .u8 (x.Anchor j)]) ++ [.sl (List.map (fun y => [.int .u16 y]) x.Lay)]
def norelaw04_Past.df : norelaw04_Past := ⟨(fun _ => (0 : Int)), []⟩
def norelaw04_Looks.cl (x : norelaw04_Looks) : List (TV S) := [.sl (.st 10) x.List_] ++ [.stc 10 x.More]
def norelaw04_Looks.dl (x : norelaw04_Looks) : List DV := [.sl (List.map (fun y => (SgLook.dl y)) x.List_)] ++ (SgLook.dl x.More)
def norelaw04_Looks.df : norelaw04_Looks := ⟨[], ⟨(0 : Int), (0 : Int), (0 : Int), ⟨⟨(0 : Int), (0 : Int)⟩, ⟨(0 : Int), (0 : Int)⟩⟩⟩⟩
def swing_mooring.cl (x : swing_mooring) : List (TV S) := [.stc 9 x.SgMooring] ++ [.arr (.int .u64) 5 x.all_]
def swing_mooring.dl (x : swing_mooring) : List DV := (SgMooring.dl x.SgMooring) ++ ((List.range 5).flatMap fun j => [.int .u64 (x.all_ j)])
def swing_mooring.df : swing_mooring := ⟨⟨⟨[], []⟩, ⟨⟨(0 : Int), (0 : Int)⟩, ⟨(0 : Int), (0 : Int)⟩⟩, ⟨(0 : Int), (0 : Int)⟩, (0 : Int)⟩, (fun _ => (0 : Int))⟩
def chart_sand.cl (x : chart_sand) : List (TV S) := [.stc 7 x.CtSand]
def chart_sand.dl (x : chart_sand) : List DV := (CtSand.dl x.CtSand)
def chart_sand.df : chart_sand := ⟨⟨ByteArray.empty, [], ⟨⟨(0 : Int), (0 : Int)⟩, ⟨(0 : Int), (0 : Int)⟩⟩⟩⟩
def chart_ends_int.cl (x : chart_ends_int) : List (TV S) := [.int .i64 x.lo] ++ [.int .i64 x.hi]
def chart_ends_int.dl (x : chart_ends_int) : List DV := [.int .i64 x.lo] ++ [.int .i64 x.hi]
def chart_ends_int.df : chart_ends_int := ⟨(0 : Int), (0 : Int)⟩
def chart_side.cl (x : chart_side) : List (TV S) := [.stc 2 x.at_] ++ [.stc 2 x.by_]
def chart_side.dl (x : chart_side) : List DV := (Point.dl x.at_) ++ (Point.dl x.by_)
def chart_side.df : chart_side := ⟨⟨(0 : Int), (0 : Int)⟩, ⟨(0 : Int), (0 : Int)⟩⟩
def T0 : TS S where
  size := fun i => match i with
    | 0 => 4
    | 1 => 2
    | 2 => 2
    | 3 => 2
    | 4 => 4
    | 5 => 2
    | 6 => 4
    | 7 => 6
    | 8 => 2
    | 9 => 9
    | 10 => 7
    | 11 => 4
    | 12 => 3
    | 13 => 8
    | 14 => 14
    | 15 => 6
    | 16 => 2
    | 17 => 4
    | _ => 0
  cells := fun i => match i with
    | 0 => runtime_boundsError.cl
    | 1 => runtime_errorAddressString.cl
    | 2 => Point.cl
    | 3 => CtPaint.cl
    | 4 => CtMark.cl
    | 5 => Span.cl
    | 6 => CtBox.cl
    | 7 => CtSand.cl
    | 8 => CtChart.cl
    | 9 => SgMooring.cl
    | 10 => SgLook.cl
    | 11 => norelaw04_Laid.cl
    | 12 => norelaw04_Past.cl
    | 13 => norelaw04_Looks.cl
    | 14 => swing_mooring.cl
    | 15 => chart_sand.cl
    | 16 => chart_ends_int.cl
    | 17 => chart_side.cl
    | _ + 18 => fun _ => []
  dcells := fun i => match i with
    | 0 => runtime_boundsError.dl
    | 1 => runtime_errorAddressString.dl
    | 2 => Point.dl
    | 3 => CtPaint.dl
    | 4 => CtMark.dl
    | 5 => Span.dl
    | 6 => CtBox.dl
    | 7 => CtSand.dl
    | 8 => CtChart.dl
    | 9 => SgMooring.dl
    | 10 => SgLook.dl
    | 11 => norelaw04_Laid.dl
    | 12 => norelaw04_Past.dl
    | 13 => norelaw04_Looks.dl
    | 14 => swing_mooring.dl
    | 15 => chart_sand.dl
    | 16 => chart_ends_int.dl
    | 17 => chart_side.dl
    | _ + 18 => fun _ => []
  rd := fun _ _ => none
  dflt := fun i => match i with
    | 0 => runtime_boundsError.df
    | 1 => runtime_errorAddressString.df
    | 2 => Point.df
    | 3 => CtPaint.df
    | 4 => CtMark.df
    | 5 => Span.df
    | 6 => CtBox.df
    | 7 => CtSand.df
    | 8 => CtChart.df
    | 9 => SgMooring.df
    | 10 => SgLook.df
    | 11 => norelaw04_Laid.df
    | 12 => norelaw04_Past.df
    | 13 => norelaw04_Looks.df
    | 14 => swing_mooring.df
    | 15 => chart_sand.df
    | 16 => chart_ends_int.df
    | 17 => chart_side.df
    | _ + 18 => ()
def runtime_boundsError.rd (cs : List (TV S)) : Option (runtime_boundsError × List (TV S)) := (rdInt .i64 cs).bind fun a0 => (rdInt .i64 a0.2).bind fun a1 => (rdBool a1.2).bind fun a2 => (rdInt .u8 a2.2).bind fun a3 => some (⟨a0.1, a1.1, a2.1, a3.1⟩, a3.2)
def runtime_errorAddressString.rd (cs : List (TV S)) : Option (runtime_errorAddressString × List (TV S)) := (rdStr cs).bind fun a0 => (rdInt .u64 a0.2).bind fun a1 => some (⟨a0.1, a1.1⟩, a1.2)
def Point.rd (cs : List (TV S)) : Option (Point × List (TV S)) := (rdInt .i64 cs).bind fun a0 => (rdInt .i64 a0.2).bind fun a1 => some (⟨a0.1, a1.1⟩, a1.2)
def CtPaint.rd (cs : List (TV S)) : Option (CtPaint × List (TV S)) := (rdInt .i64 cs).bind fun a0 => (rdInt .i64 a0.2).bind fun a1 => some (⟨a0.1, a1.1⟩, a1.2)
def CtMark.rd (cs : List (TV S)) : Option (CtMark × List (TV S)) := (rdStr cs).bind fun a0 => ((fun cs => rdW (S := S) 2 Point.rd (ahead T0 2 6 cs)) a0.2).bind fun a1 => (rdSl (S := S) (.st 3) a1.2).bind fun a2 => some (⟨a0.1, a1.1, a2.1⟩, a2.2)
def Span.rd (cs : List (TV S)) : Option (Span × List (TV S)) := (rdInt .i64 cs).bind fun a0 => (rdInt .i64 a0.2).bind fun a1 => some (⟨a0.1, a1.1⟩, a1.2)
def CtBox.rd (cs : List (TV S)) : Option (CtBox × List (TV S)) := ((fun cs => rdW (S := S) 5 Span.rd (ahead T0 5 6 cs)) cs).bind fun a0 => ((fun cs => rdW (S := S) 5 Span.rd (ahead T0 5 6 cs)) a0.2).bind fun a1 => some (⟨a0.1, a1.1⟩, a1.2)
def CtSand.rd (cs : List (TV S)) : Option (CtSand × List (TV S)) := (rdStr cs).bind fun a0 => (rdSl (S := S) (.st 2) a0.2).bind fun a1 => ((fun cs => rdW (S := S) 6 CtBox.rd (ahead T0 6 6 cs)) a1.2).bind fun a2 => some (⟨a0.1, a1.1, a2.1⟩, a2.2)
def CtChart.rd (cs : List (TV S)) : Option (CtChart × List (TV S)) := (rdSl (S := S) (.st 4) cs).bind fun a0 => (rdSl (S := S) (.st 7) a0.2).bind fun a1 => some (⟨a0.1, a1.1⟩, a1.2)
def SgMooring.rd (cs : List (TV S)) : Option (SgMooring × List (TV S)) := ((fun cs => rdW (S := S) 8 CtChart.rd (ahead T0 8 6 cs)) cs).bind fun a0 => ((fun cs => rdW (S := S) 6 CtBox.rd (ahead T0 6 6 cs)) a0.2).bind fun a1 => ((fun cs => rdW (S := S) 5 Span.rd (ahead T0 5 6 cs)) a1.2).bind fun a2 => (rdInt .i64 a2.2).bind fun a3 => some (⟨a0.1, a1.1, a2.1, a3.1⟩, a3.2)
def SgLook.rd (cs : List (TV S)) : Option (SgLook × List (TV S)) := (rdInt .i64 cs).bind fun a0 => (rdInt .i64 a0.2).bind fun a1 => (rdInt .i64 a1.2).bind fun a2 => ((fun cs => rdW (S := S) 6 CtBox.rd (ahead T0 6 6 cs)) a2.2).bind fun a3 => some (⟨a0.1, a1.1, a2.1, a3.1⟩, a3.2)
def norelaw04_Laid.rd (cs : List (TV S)) : Option (norelaw04_Laid × List (TV S)) := ((fun cs => rdW (S := S) 2 Point.rd (ahead T0 2 6 cs)) cs).bind fun a0 => ((fun cs => rdW (S := S) 2 Point.rd (ahead T0 2 6 cs)) a0.2).bind fun a1 => some (⟨a0.1, a1.1⟩, a1.2)
def norelaw04_Past.rd (cs : List (TV S)) : Option (norelaw04_Past × List (TV S)) := (rdArr (S := S) 2 (.int .u8) cs).bind fun a0 => (rdSl (S := S) (.int .u16) a0.2).bind fun a1 => some (⟨a0.1, a1.1⟩, a1.2)
def norelaw04_Looks.rd (cs : List (TV S)) : Option (norelaw04_Looks × List (TV S)) := (rdSl (S := S) (.st 10) cs).bind fun a0 => ((fun cs => rdW (S := S) 10 SgLook.rd (ahead T0 10 6 cs)) a0.2).bind fun a1 => some (⟨a0.1, a1.1⟩, a1.2)
def swing_mooring.rd (cs : List (TV S)) : Option (swing_mooring × List (TV S)) := ((fun cs => rdW (S := S) 9 SgMooring.rd (ahead T0 9 6 cs)) cs).bind fun a0 => (rdArr (S := S) 5 (.int .u64) a0.2).bind fun a1 => some (⟨a0.1, a1.1⟩, a1.2)
def chart_sand.rd (cs : List (TV S)) : Option (chart_sand × List (TV S)) := ((fun cs => rdW (S := S) 7 CtSand.rd (ahead T0 7 6 cs)) cs).bind fun a0 => some (⟨a0.1⟩, a0.2)
def chart_ends_int.rd (cs : List (TV S)) : Option (chart_ends_int × List (TV S)) := (rdInt .i64 cs).bind fun a0 => (rdInt .i64 a0.2).bind fun a1 => some (⟨a0.1, a1.1⟩, a1.2)
def chart_side.rd (cs : List (TV S)) : Option (chart_side × List (TV S)) := ((fun cs => rdW (S := S) 2 Point.rd (ahead T0 2 6 cs)) cs).bind fun a0 => ((fun cs => rdW (S := S) 2 Point.rd (ahead T0 2 6 cs)) a0.2).bind fun a1 => some (⟨a0.1, a1.1⟩, a1.2)
def T : TS S where
  size := fun i => match i with
    | 0 => 4
    | 1 => 2
    | 2 => 2
    | 3 => 2
    | 4 => 4
    | 5 => 2
    | 6 => 4
    | 7 => 6
    | 8 => 2
    | 9 => 9
    | 10 => 7
    | 11 => 4
    | 12 => 3
    | 13 => 8
    | 14 => 14
    | 15 => 6
    | 16 => 2
    | 17 => 4
    | _ => 0
  cells := fun i => match i with
    | 0 => runtime_boundsError.cl
    | 1 => runtime_errorAddressString.cl
    | 2 => Point.cl
    | 3 => CtPaint.cl
    | 4 => CtMark.cl
    | 5 => Span.cl
    | 6 => CtBox.cl
    | 7 => CtSand.cl
    | 8 => CtChart.cl
    | 9 => SgMooring.cl
    | 10 => SgLook.cl
    | 11 => norelaw04_Laid.cl
    | 12 => norelaw04_Past.cl
    | 13 => norelaw04_Looks.cl
    | 14 => swing_mooring.cl
    | 15 => chart_sand.cl
    | 16 => chart_ends_int.cl
    | 17 => chart_side.cl
    | _ + 18 => fun _ => []
  dcells := fun i => match i with
    | 0 => runtime_boundsError.dl
    | 1 => runtime_errorAddressString.dl
    | 2 => Point.dl
    | 3 => CtPaint.dl
    | 4 => CtMark.dl
    | 5 => Span.dl
    | 6 => CtBox.dl
    | 7 => CtSand.dl
    | 8 => CtChart.dl
    | 9 => SgMooring.dl
    | 10 => SgLook.dl
    | 11 => norelaw04_Laid.dl
    | 12 => norelaw04_Past.dl
    | 13 => norelaw04_Looks.dl
    | 14 => swing_mooring.dl
    | 15 => chart_sand.dl
    | 16 => chart_ends_int.dl
    | 17 => chart_side.dl
    | _ + 18 => fun _ => []
  rd := fun i => match i with
    | 0 => runtime_boundsError.rd
    | 1 => runtime_errorAddressString.rd
    | 2 => Point.rd
    | 3 => CtPaint.rd
    | 4 => CtMark.rd
    | 5 => Span.rd
    | 6 => CtBox.rd
    | 7 => CtSand.rd
    | 8 => CtChart.rd
    | 9 => SgMooring.rd
    | 10 => SgLook.rd
    | 11 => norelaw04_Laid.rd
    | 12 => norelaw04_Past.rd
    | 13 => norelaw04_Looks.rd
    | 14 => swing_mooring.rd
    | 15 => chart_sand.rd
    | 16 => chart_ends_int.rd
    | 17 => chart_side.rd
    | _ + 18 => fun cs => some ((), cs)
  dflt := fun i => match i with
    | 0 => runtime_boundsError.df
    | 1 => runtime_errorAddressString.df
    | 2 => Point.df
    | 3 => CtPaint.df
    | 4 => CtMark.df
    | 5 => Span.df
    | 6 => CtBox.df
    | 7 => CtSand.df
    | 8 => CtChart.df
    | 9 => SgMooring.df
    | 10 => SgLook.df
    | 11 => norelaw04_Laid.df
    | 12 => norelaw04_Past.df
    | 13 => norelaw04_Looks.df
    | 14 => swing_mooring.df
    | 15 => chart_sand.df
    | 16 => chart_ends_int.df
    | 17 => chart_side.df
    | _ + 18 => ()
abbrev dT (cs : List (TV S)) : List DV := dvs T cs
theorem runtime_boundsError.cl_ok (x : runtime_boundsError) : dvs T (runtime_boundsError.cl x) = runtime_boundsError.dl x := rfl
theorem runtime_errorAddressString.cl_ok (x : runtime_errorAddressString) : dvs T (runtime_errorAddressString.cl x) = runtime_errorAddressString.dl x := rfl
theorem Point.cl_ok (x : Point) : dvs T (Point.cl x) = Point.dl x := rfl
theorem CtPaint.cl_ok (x : CtPaint) : dvs T (CtPaint.cl x) = CtPaint.dl x := rfl
theorem CtMark.cl_ok (x : CtMark) : dvs T (CtMark.cl x) = CtMark.dl x := rfl
theorem Span.cl_ok (x : Span) : dvs T (Span.cl x) = Span.dl x := rfl
theorem CtBox.cl_ok (x : CtBox) : dvs T (CtBox.cl x) = CtBox.dl x := rfl
theorem CtSand.cl_ok (x : CtSand) : dvs T (CtSand.cl x) = CtSand.dl x := rfl
theorem CtChart.cl_ok (x : CtChart) : dvs T (CtChart.cl x) = CtChart.dl x := rfl
theorem SgMooring.cl_ok (x : SgMooring) : dvs T (SgMooring.cl x) = SgMooring.dl x := rfl
theorem SgLook.cl_ok (x : SgLook) : dvs T (SgLook.cl x) = SgLook.dl x := rfl
theorem norelaw04_Laid.cl_ok (x : norelaw04_Laid) : dvs T (norelaw04_Laid.cl x) = norelaw04_Laid.dl x := rfl
theorem norelaw04_Past.cl_ok (x : norelaw04_Past) : dvs T (norelaw04_Past.cl x) = norelaw04_Past.dl x := rfl
theorem norelaw04_Looks.cl_ok (x : norelaw04_Looks) : dvs T (norelaw04_Looks.cl x) = norelaw04_Looks.dl x := rfl
theorem swing_mooring.cl_ok (x : swing_mooring) : dvs T (swing_mooring.cl x) = swing_mooring.dl x := rfl
theorem chart_sand.cl_ok (x : chart_sand) : dvs T (chart_sand.cl x) = chart_sand.dl x := rfl
theorem chart_ends_int.cl_ok (x : chart_ends_int) : dvs T (chart_ends_int.cl x) = chart_ends_int.dl x := rfl
theorem chart_side.cl_ok (x : chart_side) : dvs T (chart_side.cl x) = chart_side.dl x := rfl
theorem cellsLaw : ∀ i (x : S i), dvs T (T0.cells i x) = T.dcells i x :=
   fun i => match i with
    | 0 => runtime_boundsError.cl_ok
    | 1 => runtime_errorAddressString.cl_ok
    | 2 => Point.cl_ok
    | 3 => CtPaint.cl_ok
    | 4 => CtMark.cl_ok
    | 5 => Span.cl_ok
    | 6 => CtBox.cl_ok
    | 7 => CtSand.cl_ok
    | 8 => CtChart.cl_ok
    | 9 => SgMooring.cl_ok
    | 10 => SgLook.cl_ok
    | 11 => norelaw04_Laid.cl_ok
    | 12 => norelaw04_Past.cl_ok
    | 13 => norelaw04_Looks.cl_ok
    | 14 => swing_mooring.cl_ok
    | 15 => chart_sand.cl_ok
    | 16 => chart_ends_int.cl_ok
    | 17 => chart_side.cl_ok
    | _ + 18 => fun _ => rfl
theorem ahead0_dvs (i : Nat) : ∀ (n : Nat) (cs : List (TV S)), dvs T (ahead T0 i n cs) = dvs T cs := ahead_dvs0 (T := T) (T0 := T0) cellsLaw i
theorem runtime_boundsError.len_ok (x : runtime_boundsError) : (runtime_boundsError.dl x).length = 4 := rfl
theorem runtime_boundsError.pl_ok (x : runtime_boundsError) : (runtime_boundsError.dl x).all plain = true := rfl
theorem runtime_boundsError.rd_ok {cs r : List (TV S)} {x : runtime_boundsError} (h : runtime_boundsError.rd cs = some (x, r)) : dvs T cs = runtime_boundsError.dl x ++ dvs T r := by
  unfold runtime_boundsError.rd at h
  obtain ⟨⟨a0, r0⟩, h0, h⟩ := some_bind h
  obtain ⟨⟨a1, r1⟩, h1, h⟩ := some_bind h
  obtain ⟨⟨a2, r2⟩, h2, h⟩ := some_bind h
  obtain ⟨⟨a3, r3⟩, h3, h⟩ := some_bind h
  cases h
  rw [rdInt_dvs h0, rdInt_dvs h1, rdBool_dvs h2, rdInt_dvs h3]
  rfl
theorem runtime_errorAddressString.len_ok (x : runtime_errorAddressString) : (runtime_errorAddressString.dl x).length = 2 := rfl
theorem runtime_errorAddressString.pl_ok (x : runtime_errorAddressString) : (runtime_errorAddressString.dl x).all plain = true := rfl
theorem runtime_errorAddressString.rd_ok {cs r : List (TV S)} {x : runtime_errorAddressString} (h : runtime_errorAddressString.rd cs = some (x, r)) : dvs T cs = runtime_errorAddressString.dl x ++ dvs T r := by
  unfold runtime_errorAddressString.rd at h
  obtain ⟨⟨a0, r0⟩, h0, h⟩ := some_bind h
  obtain ⟨⟨a1, r1⟩, h1, h⟩ := some_bind h
  cases h
  rw [rdStr_dvs h0, rdInt_dvs h1]
  rfl
theorem Point.len_ok (x : Point) : (Point.dl x).length = 2 := rfl
theorem Point.pl_ok (x : Point) : (Point.dl x).all plain = true := rfl
theorem Point.rd_ok {cs r : List (TV S)} {x : Point} (h : Point.rd cs = some (x, r)) : dvs T cs = Point.dl x ++ dvs T r := by
  unfold Point.rd at h
  obtain ⟨⟨a0, r0⟩, h0, h⟩ := some_bind h
  obtain ⟨⟨a1, r1⟩, h1, h⟩ := some_bind h
  cases h
  rw [rdInt_dvs h0, rdInt_dvs h1]
  rfl
theorem CtPaint.len_ok (x : CtPaint) : (CtPaint.dl x).length = 2 := rfl
theorem CtPaint.pl_ok (x : CtPaint) : (CtPaint.dl x).all plain = true := rfl
theorem CtPaint.rd_ok {cs r : List (TV S)} {x : CtPaint} (h : CtPaint.rd cs = some (x, r)) : dvs T cs = CtPaint.dl x ++ dvs T r := by
  unfold CtPaint.rd at h
  obtain ⟨⟨a0, r0⟩, h0, h⟩ := some_bind h
  obtain ⟨⟨a1, r1⟩, h1, h⟩ := some_bind h
  cases h
  rw [rdInt_dvs h0, rdInt_dvs h1]
  rfl
theorem CtMark.len_ok (x : CtMark) : (CtMark.dl x).length = 4 := rfl
theorem CtMark.pl_ok (x : CtMark) : (CtMark.dl x).all plain = true := rfl
theorem CtMark.rd_ok {cs r : List (TV S)} {x : CtMark} (h : CtMark.rd cs = some (x, r)) : dvs T cs = CtMark.dl x ++ dvs T r := by
  unfold CtMark.rd at h
  obtain ⟨⟨a0, r0⟩, h0, h⟩ := some_bind h
  obtain ⟨⟨a1, r1⟩, h1, h⟩ := some_bind h
  obtain ⟨⟨a2, r2⟩, h2, h⟩ := some_bind h
  cases h
  rw [rdStr_dvs h0, ← ahead0_dvs 2 6, rdW_dvs (T := T) (fun _ _ _ h => Point.rd_ok h) h1, rdSl_dvs h2]
  rfl
theorem Span.len_ok (x : Span) : (Span.dl x).length = 2 := rfl
theorem Span.pl_ok (x : Span) : (Span.dl x).all plain = true := rfl
theorem Span.rd_ok {cs r : List (TV S)} {x : Span} (h : Span.rd cs = some (x, r)) : dvs T cs = Span.dl x ++ dvs T r := by
  unfold Span.rd at h
  obtain ⟨⟨a0, r0⟩, h0, h⟩ := some_bind h
  obtain ⟨⟨a1, r1⟩, h1, h⟩ := some_bind h
  cases h
  rw [rdInt_dvs h0, rdInt_dvs h1]
  rfl
theorem CtBox.len_ok (x : CtBox) : (CtBox.dl x).length = 4 := rfl
theorem CtBox.pl_ok (x : CtBox) : (CtBox.dl x).all plain = true := rfl
theorem CtBox.rd_ok {cs r : List (TV S)} {x : CtBox} (h : CtBox.rd cs = some (x, r)) : dvs T cs = CtBox.dl x ++ dvs T r := by
  unfold CtBox.rd at h
  obtain ⟨⟨a0, r0⟩, h0, h⟩ := some_bind h
  obtain ⟨⟨a1, r1⟩, h1, h⟩ := some_bind h
  cases h
  rw [← ahead0_dvs 5 6, rdW_dvs (T := T) (fun _ _ _ h => Span.rd_ok h) h0, ← ahead0_dvs 5 6, rdW_dvs (T := T) (fun _ _ _ h => Span.rd_ok h) h1]
  rfl
theorem CtSand.len_ok (x : CtSand) : (CtSand.dl x).length = 6 := rfl
theorem CtSand.pl_ok (x : CtSand) : (CtSand.dl x).all plain = true := rfl
theorem CtSand.rd_ok {cs r : List (TV S)} {x : CtSand} (h : CtSand.rd cs = some (x, r)) : dvs T cs = CtSand.dl x ++ dvs T r := by
  unfold CtSand.rd at h
  obtain ⟨⟨a0, r0⟩, h0, h⟩ := some_bind h
  obtain ⟨⟨a1, r1⟩, h1, h⟩ := some_bind h
  obtain ⟨⟨a2, r2⟩, h2, h⟩ := some_bind h
  cases h
  rw [rdStr_dvs h0, rdSl_dvs h1, ← ahead0_dvs 6 6, rdW_dvs (T := T) (fun _ _ _ h => CtBox.rd_ok h) h2]
  rfl
theorem CtChart.len_ok (x : CtChart) : (CtChart.dl x).length = 2 := rfl
theorem CtChart.pl_ok (x : CtChart) : (CtChart.dl x).all plain = true := rfl
theorem CtChart.rd_ok {cs r : List (TV S)} {x : CtChart} (h : CtChart.rd cs = some (x, r)) : dvs T cs = CtChart.dl x ++ dvs T r := by
  unfold CtChart.rd at h
  obtain ⟨⟨a0, r0⟩, h0, h⟩ := some_bind h
  obtain ⟨⟨a1, r1⟩, h1, h⟩ := some_bind h
  cases h
  rw [rdSl_dvs h0, rdSl_dvs h1]
  rfl
theorem SgMooring.len_ok (x : SgMooring) : (SgMooring.dl x).length = 9 := rfl
theorem SgMooring.pl_ok (x : SgMooring) : (SgMooring.dl x).all plain = true := rfl
theorem SgMooring.rd_ok {cs r : List (TV S)} {x : SgMooring} (h : SgMooring.rd cs = some (x, r)) : dvs T cs = SgMooring.dl x ++ dvs T r := by
  unfold SgMooring.rd at h
  obtain ⟨⟨a0, r0⟩, h0, h⟩ := some_bind h
  obtain ⟨⟨a1, r1⟩, h1, h⟩ := some_bind h
  obtain ⟨⟨a2, r2⟩, h2, h⟩ := some_bind h
  obtain ⟨⟨a3, r3⟩, h3, h⟩ := some_bind h
  cases h
  rw [← ahead0_dvs 8 6, rdW_dvs (T := T) (fun _ _ _ h => CtChart.rd_ok h) h0, ← ahead0_dvs 6 6, rdW_dvs (T := T) (fun _ _ _ h => CtBox.rd_ok h) h1, ← ahead0_dvs 5 6, rdW_dvs (T := T) (fun _ _ _ h => Span.rd_ok h) h2, rdInt_dvs h3]
  rfl
theorem SgLook.len_ok (x : SgLook) : (SgLook.dl x).length = 7 := rfl
theorem SgLook.pl_ok (x : SgLook) : (SgLook.dl x).all plain = true := rfl
theorem SgLook.rd_ok {cs r : List (TV S)} {x : SgLook} (h : SgLook.rd cs = some (x, r)) : dvs T cs = SgLook.dl x ++ dvs T r := by
  unfold SgLook.rd at h
  obtain ⟨⟨a0, r0⟩, h0, h⟩ := some_bind h
  obtain ⟨⟨a1, r1⟩, h1, h⟩ := some_bind h
  obtain ⟨⟨a2, r2⟩, h2, h⟩ := some_bind h
  obtain ⟨⟨a3, r3⟩, h3, h⟩ := some_bind h
  cases h
  rw [rdInt_dvs h0, rdInt_dvs h1, rdInt_dvs h2, ← ahead0_dvs 6 6, rdW_dvs (T := T) (fun _ _ _ h => CtBox.rd_ok h) h3]
  rfl
theorem norelaw04_Laid.len_ok (x : norelaw04_Laid) : (norelaw04_Laid.dl x).length = 4 := rfl
theorem norelaw04_Laid.pl_ok (x : norelaw04_Laid) : (norelaw04_Laid.dl x).all plain = true := rfl
theorem norelaw04_Laid.rd_ok {cs r : List (TV S)} {x : norelaw04_Laid} (h : norelaw04_Laid.rd cs = some (x, r)) : dvs T cs = norelaw04_Laid.dl x ++ dvs T r := by
  unfold norelaw04_Laid.rd at h
  obtain ⟨⟨a0, r0⟩, h0, h⟩ := some_bind h
  obtain ⟨⟨a1, r1⟩, h1, h⟩ := some_bind h
  cases h
  rw [← ahead0_dvs 2 6, rdW_dvs (T := T) (fun _ _ _ h => Point.rd_ok h) h0, ← ahead0_dvs 2 6, rdW_dvs (T := T) (fun _ _ _ h => Point.rd_ok h) h1]
  rfl
theorem norelaw04_Past.len_ok (x : norelaw04_Past) : (norelaw04_Past.dl x).length = 3 := rfl
theorem norelaw04_Past.pl_ok (x : norelaw04_Past) : (norelaw04_Past.dl x).all plain = true := rfl
theorem norelaw04_Past.rd_ok {cs r : List (TV S)} {x : norelaw04_Past} (h : norelaw04_Past.rd cs = some (x, r)) : dvs T cs = norelaw04_Past.dl x ++ dvs T r := by
  unfold norelaw04_Past.rd at h
  obtain ⟨⟨a0, r0⟩, h0, h⟩ := some_bind h
  obtain ⟨⟨a1, r1⟩, h1, h⟩ := some_bind h
  cases h
  rw [rdArr_dvs h0, rdSl_dvs h1]
  rfl
theorem norelaw04_Looks.len_ok (x : norelaw04_Looks) : (norelaw04_Looks.dl x).length = 8 := rfl
theorem norelaw04_Looks.pl_ok (x : norelaw04_Looks) : (norelaw04_Looks.dl x).all plain = true := rfl
theorem norelaw04_Looks.rd_ok {cs r : List (TV S)} {x : norelaw04_Looks} (h : norelaw04_Looks.rd cs = some (x, r)) : dvs T cs = norelaw04_Looks.dl x ++ dvs T r := by
  unfold norelaw04_Looks.rd at h
  obtain ⟨⟨a0, r0⟩, h0, h⟩ := some_bind h
  obtain ⟨⟨a1, r1⟩, h1, h⟩ := some_bind h
  cases h
  rw [rdSl_dvs h0, ← ahead0_dvs 10 6, rdW_dvs (T := T) (fun _ _ _ h => SgLook.rd_ok h) h1]
  rfl
theorem swing_mooring.len_ok (x : swing_mooring) : (swing_mooring.dl x).length = 14 := rfl
theorem swing_mooring.pl_ok (x : swing_mooring) : (swing_mooring.dl x).all plain = true := rfl
theorem swing_mooring.rd_ok {cs r : List (TV S)} {x : swing_mooring} (h : swing_mooring.rd cs = some (x, r)) : dvs T cs = swing_mooring.dl x ++ dvs T r := by
  unfold swing_mooring.rd at h
  obtain ⟨⟨a0, r0⟩, h0, h⟩ := some_bind h
  obtain ⟨⟨a1, r1⟩, h1, h⟩ := some_bind h
  cases h
  rw [← ahead0_dvs 9 6, rdW_dvs (T := T) (fun _ _ _ h => SgMooring.rd_ok h) h0, rdArr_dvs h1]
  rfl
theorem chart_sand.len_ok (x : chart_sand) : (chart_sand.dl x).length = 6 := rfl
theorem chart_sand.pl_ok (x : chart_sand) : (chart_sand.dl x).all plain = true := rfl
theorem chart_sand.rd_ok {cs r : List (TV S)} {x : chart_sand} (h : chart_sand.rd cs = some (x, r)) : dvs T cs = chart_sand.dl x ++ dvs T r := by
  unfold chart_sand.rd at h
  obtain ⟨⟨a0, r0⟩, h0, h⟩ := some_bind h
  cases h
  rw [← ahead0_dvs 7 6, rdW_dvs (T := T) (fun _ _ _ h => CtSand.rd_ok h) h0]
  rfl
theorem chart_ends_int.len_ok (x : chart_ends_int) : (chart_ends_int.dl x).length = 2 := rfl
theorem chart_ends_int.pl_ok (x : chart_ends_int) : (chart_ends_int.dl x).all plain = true := rfl
theorem chart_ends_int.rd_ok {cs r : List (TV S)} {x : chart_ends_int} (h : chart_ends_int.rd cs = some (x, r)) : dvs T cs = chart_ends_int.dl x ++ dvs T r := by
  unfold chart_ends_int.rd at h
  obtain ⟨⟨a0, r0⟩, h0, h⟩ := some_bind h
  obtain ⟨⟨a1, r1⟩, h1, h⟩ := some_bind h
  cases h
  rw [rdInt_dvs h0, rdInt_dvs h1]
  rfl
theorem chart_side.len_ok (x : chart_side) : (chart_side.dl x).length = 4 := rfl
theorem chart_side.pl_ok (x : chart_side) : (chart_side.dl x).all plain = true := rfl
theorem chart_side.rd_ok {cs r : List (TV S)} {x : chart_side} (h : chart_side.rd cs = some (x, r)) : dvs T cs = chart_side.dl x ++ dvs T r := by
  unfold chart_side.rd at h
  obtain ⟨⟨a0, r0⟩, h0, h⟩ := some_bind h
  obtain ⟨⟨a1, r1⟩, h1, h⟩ := some_bind h
  cases h
  rw [← ahead0_dvs 2 6, rdW_dvs (T := T) (fun _ _ _ h => Point.rd_ok h) h0, ← ahead0_dvs 2 6, rdW_dvs (T := T) (fun _ _ _ h => Point.rd_ok h) h1]
  rfl
theorem tok : TOk T where
  cells := fun i => match i with
    | 0 => runtime_boundsError.cl_ok
    | 1 => runtime_errorAddressString.cl_ok
    | 2 => Point.cl_ok
    | 3 => CtPaint.cl_ok
    | 4 => CtMark.cl_ok
    | 5 => Span.cl_ok
    | 6 => CtBox.cl_ok
    | 7 => CtSand.cl_ok
    | 8 => CtChart.cl_ok
    | 9 => SgMooring.cl_ok
    | 10 => SgLook.cl_ok
    | 11 => norelaw04_Laid.cl_ok
    | 12 => norelaw04_Past.cl_ok
    | 13 => norelaw04_Looks.cl_ok
    | 14 => swing_mooring.cl_ok
    | 15 => chart_sand.cl_ok
    | 16 => chart_ends_int.cl_ok
    | 17 => chart_side.cl_ok
    | _ + 18 => fun _ => rfl
  len := fun i => match i with
    | 0 => runtime_boundsError.len_ok
    | 1 => runtime_errorAddressString.len_ok
    | 2 => Point.len_ok
    | 3 => CtPaint.len_ok
    | 4 => CtMark.len_ok
    | 5 => Span.len_ok
    | 6 => CtBox.len_ok
    | 7 => CtSand.len_ok
    | 8 => CtChart.len_ok
    | 9 => SgMooring.len_ok
    | 10 => SgLook.len_ok
    | 11 => norelaw04_Laid.len_ok
    | 12 => norelaw04_Past.len_ok
    | 13 => norelaw04_Looks.len_ok
    | 14 => swing_mooring.len_ok
    | 15 => chart_sand.len_ok
    | 16 => chart_ends_int.len_ok
    | 17 => chart_side.len_ok
    | _ + 18 => fun _ => rfl
  rd := fun i => match i with
    | 0 => fun _ _ _ h => runtime_boundsError.rd_ok h
    | 1 => fun _ _ _ h => runtime_errorAddressString.rd_ok h
    | 2 => fun _ _ _ h => Point.rd_ok h
    | 3 => fun _ _ _ h => CtPaint.rd_ok h
    | 4 => fun _ _ _ h => CtMark.rd_ok h
    | 5 => fun _ _ _ h => Span.rd_ok h
    | 6 => fun _ _ _ h => CtBox.rd_ok h
    | 7 => fun _ _ _ h => CtSand.rd_ok h
    | 8 => fun _ _ _ h => CtChart.rd_ok h
    | 9 => fun _ _ _ h => SgMooring.rd_ok h
    | 10 => fun _ _ _ h => SgLook.rd_ok h
    | 11 => fun _ _ _ h => norelaw04_Laid.rd_ok h
    | 12 => fun _ _ _ h => norelaw04_Past.rd_ok h
    | 13 => fun _ _ _ h => norelaw04_Looks.rd_ok h
    | 14 => fun _ _ _ h => swing_mooring.rd_ok h
    | 15 => fun _ _ _ h => chart_sand.rd_ok h
    | 16 => fun _ _ _ h => chart_ends_int.rd_ok h
    | 17 => fun _ _ _ h => chart_side.rd_ok h
    | _ + 18 => fun _ _ _ h => by cases h; rfl
  plain := fun i => match i with
    | 0 => runtime_boundsError.pl_ok
    | 1 => runtime_errorAddressString.pl_ok
    | 2 => Point.pl_ok
    | 3 => CtPaint.pl_ok
    | 4 => CtMark.pl_ok
    | 5 => Span.pl_ok
    | 6 => CtBox.pl_ok
    | 7 => CtSand.pl_ok
    | 8 => CtChart.pl_ok
    | 9 => SgMooring.pl_ok
    | 10 => SgLook.pl_ok
    | 11 => norelaw04_Laid.pl_ok
    | 12 => norelaw04_Past.pl_ok
    | 13 => norelaw04_Looks.pl_ok
    | 14 => swing_mooring.pl_ok
    | 15 => chart_sand.pl_ok
    | 16 => chart_ends_int.pl_ok
    | 17 => chart_side.pl_ok
    | _ + 18 => fun _ => rfl
end Nore
namespace Go.Proofs.Ytdoejdmpmpgmiaa
open Go.Ab Go.Proofs
def codeL : List (Nat × Ty) := [(2, (.int .i64)), (3, (.int .i64)), (4, .bool), (5, (.int .u8)), (6, (.int .u8)), (8, (.st 0)), (9, .str), (10, .str), (11, .str), (12, (.int .u64)), (14, (.st 1)), (21, (.int .i32)), (22, (.sl (.st 4))), (23, (.sl (.st 7))), (25, (.st 8)), (27, (.st 5)), (29, (.st 6)), (31, (.st 9)), (32, (.sl (.st 10))), (33, (.int .i64)), (37, (.sl (.st 2))), (44, (.st 10)), (46, (.st 2)), (48, (.st 11)), (52, (.sl (.int .i64))), (64, (.arr 2 (.int .u8))), (65, (.sl (.int .u16))), (67, (.st 12)), (75, (.st 13)), (79, (.st 7)), (86, (.arr 3 (.int .u8))), (90, (.arr 4 (.int .u8))), (107, (.int .u64)), (108, (.arr 5 (.int .u64))), (109, (.arr 5 (.int .u64))), (111, (.st 14)), (112, (.sl (.arr 5 (.int .u64)))), (131, (.sl (.sl .bool))), (133, (.sl (.sl (.int .i64)))), (142, (.int .u16)), (147, (.st 15)), (149, (.st 16)), (152, (.sl (.st 5))), (156, (.sl (.st 3))), (158, (.st 4)), (163, (.sl .str)), (173, (.sl .bool)), (179, (.st 17)), (184, (.st 3)), (190, (.arr 8 (.st 2))), (201, (.int .u32)), (202, (.int .u8)), (203, (.int .u8)), (206, (.int .i32)), (207, (.int .i32))]
def zeroL : List (Nat × List (TV Nore.S)) := [(1, [.nilfn]), (2, [.int .i64 (0)]), (3, [.int .i64 (0)]), (4, [.bool false]), (5, [.int .u8 (0)]), (6, [.int .u8 (0)]), (7, [.int .i64 (0), .int .i64 (0), .bool false, .int .u8 (0)]), (8, [.int .i64 (0), .int .i64 (0), .bool false, .int .u8 (0)]), (9, [.str ByteArray.empty]), (10, [.str ByteArray.empty]), (11, [.str ByteArray.empty]), (12, [.int .u64 (0)]), (13, [.str ByteArray.empty, .int .u64 (0)]), (14, [.str ByteArray.empty, .int .u64 (0)]), (15, [.nilp]), (16, [.nilp]), (17, [.nilp]), (18, [.nilp]), (19, [.nilp]), (20, [.nilif]), (21, [.int .i32 (0)]), (22, [.nils]), (23, [.nils]), (24, [.nils, .nils]), (25, [.nils, .nils]), (26, [.int .i64 (0), .int .i64 (0)]), (27, [.int .i64 (0), .int .i64 (0)]), (28, [.int .i64 (0), .int .i64 (0), .int .i64 (0), .int .i64 (0)]), (29, [.int .i64 (0), .int .i64 (0), .int .i64 (0), .int .i64 (0)]), (30, [.nils, .nils, .int .i64 (0), .int .i64 (0), .int .i64 (0), .int .i64 (0), .int .i64 (0), .int .i64 (0), .int .i64 (0)]), (31, [.nils, .nils, .int .i64 (0), .int .i64 (0), .int .i64 (0), .int .i64 (0), .int .i64 (0), .int .i64 (0), .int .i64 (0)]), (32, [.nils]), (33, [.int .i64 (0)]), (35, [.nilfn]), (36, [.nilfn]), (37, [.nils]), (39, [.nilfn]), (40, [.nilfn]), (41, [.nilfn]), (42, [.nilfn]), (43, [.int .i64 (0), .int .i64 (0), .int .i64 (0), .int .i64 (0), .int .i64 (0), .int .i64 (0), .int .i64 (0)]), (44, [.int .i64 (0), .int .i64 (0), .int .i64 (0), .int .i64 (0), .int .i64 (0), .int .i64 (0), .int .i64 (0)]), (45, [.int .i64 (0), .int .i64 (0)]), (46, [.int .i64 (0), .int .i64 (0)]), (47, [.int .i64 (0), .int .i64 (0), .int .i64 (0), .int .i64 (0)]), (48, [.int .i64 (0), .int .i64 (0), .int .i64 (0), .int .i64 (0)]), (50, [.nilfn]), (51, [.nilfn]), (52, [.nils]), (54, [.nilfn]), (55, [.nilfn]), (56, [.nilfn]), (58, [.nilfn]), (59, [.nilfn]), (60, [.nilfn]), (61, [.nilfn]), (62, [.nilfn]), (63, [.nilfn]), (64, [.arr (.int .u8) 2 (fun _ => (0 : Int))]), (65, [.nils]), (66, [.arr (.int .u8) 2 (fun _ => (0 : Int)), .nils]), (67, [.arr (.int .u8) 2 (fun _ => (0 : Int)), .nils]), (68, [.nilfn]), (70, [.nilfn]), (71, [.nilfn]), (72, [.nilfn]), (73, [.nilfn]), (74, [.nils, .int .i64 (0), .int .i64 (0), .int .i64 (0), .int .i64 (0), .int .i64 (0), .int .i64 (0), .int .i64 (0)]), (75, [.nils, .int .i64 (0), .int .i64 (0), .int .i64 (0), .int .i64 (0), .int .i64 (0), .int .i64 (0), .int .i64 (0)]), (76, [.nilfn]), (77, [.nilfn]), (78, [.str ByteArray.empty, .nils, .int .i64 (0), .int .i64 (0), .int .i64 (0), .int .i64 (0)]), (79, [.str ByteArray.empty, .nils, .int .i64 (0), .int .i64 (0), .int .i64 (0), .int .i64 (0)]), (80, [.nilfn]), (81, [.nilfn]), (83, [.nilfn]), (84, [.nilfn]), (85, [.nilfn]), (86, [.arr (.int .u8) 3 (fun _ => (0 : Int))]), (87, [.nilfn]), (88, [.nilfn]), (89, [.nilfn]), (90, [.arr (.int .u8) 4 (fun _ => (0 : Int))]), (91, [.nilfn]), (92, [.nilfn]), (93, [.nilfn]), (94, [.nilfn]), (95, [.nilfn]), (96, [.nilfn]), (97, [.nilfn]), (99, [.nilfn]), (100, [.nilfn]), (101, [.nilfn]), (102, [.nilfn]), (103, [.nilfn]), (104, [.nilfn]), (105, [.nilfn]), (106, [.nilfn]), (107, [.int .u64 (0)]), (108, [.arr (.int .u64) 5 (fun _ => (0 : Int))]), (109, [.arr (.int .u64) 5 (fun _ => (0 : Int))]), (110, [.nils, .nils, .int .i64 (0), .int .i64 (0), .int .i64 (0), .int .i64 (0), .int .i64 (0), .int .i64 (0), .int .i64 (0), .arr (.int .u64) 5 (fun _ => (0 : Int))]), (111, [.nils, .nils, .int .i64 (0), .int .i64 (0), .int .i64 (0), .int .i64 (0), .int .i64 (0), .int .i64 (0), .int .i64 (0), .arr (.int .u64) 5 (fun _ => (0 : Int))]), (112, [.nils]), (114, [.nilfn]), (115, [.nilfn]), (116, [.nilfn]), (117, [.nilfn]), (118, [.nilfn]), (119, [.nilfn]), (120, [.nilfn]), (121, [.nilfn]), (122, [.nilfn]), (123, [.nilfn]), (124, [.nilfn]), (125, [.nilfn]), (126, [.nilfn]), (127, [.nilfn]), (129, [.nilfn]), (130, [.nilfn]), (131, [.nils]), (132, [.nilfn]), (133, [.nils]), (134, [.nilfn]), (135, [.nilfn]), (136, [.nilfn]), (137, [.nilfn]), (139, [.nilfn]), (141, [.nilfn]), (142, [.int .u16 (0)]), (143, [.nilfn]), (144, [.nilfn]), (145, [.nilfn]), (146, [.str ByteArray.empty, .nils, .int .i64 (0), .int .i64 (0), .int .i64 (0), .int .i64 (0)]), (147, [.str ByteArray.empty, .nils, .int .i64 (0), .int .i64 (0), .int .i64 (0), .int .i64 (0)]), (148, [.int .i64 (0), .int .i64 (0)]), (149, [.int .i64 (0), .int .i64 (0)]), (150, [.nilfn]), (151, [.nilfn]), (152, [.nils]), (153, [.nilmap]), (154, [.nilfn]), (155, [.nilfn]), (156, [.nils]), (157, [.str ByteArray.empty, .int .i64 (0), .int .i64 (0), .nils]), (158, [.str ByteArray.empty, .int .i64 (0), .int .i64 (0), .nils]), (159, [.nilfn]), (160, [.nilfn]), (161, [.nilfn]), (162, [.nilfn]), (163, [.nils]), (164, [.nilfn]), (165, [.nilfn]), (166, [.nilfn]), (167, [.nilfn]), (168, [.nilfn]), (169, [.nilfn]), (171, [.nilfn]), (172, [.nilfn]), (173, [.nils]), (174, [.nilfn]), (175, [.nilfn]), (176, [.nilfn]), (177, [.nilfn]), (178, [.int .i64 (0), .int .i64 (0), .int .i64 (0), .int .i64 (0)]), (179, [.int .i64 (0), .int .i64 (0), .int .i64 (0), .int .i64 (0)]), (180, [.nilfn]), (181, [.nilfn]), (182, [.nilfn]), (183, [.int .i64 (0), .int .i64 (0)]), (184, [.int .i64 (0), .int .i64 (0)]), (185, [.nilfn]), (186, [.nilfn]), (187, [.nilfn]), (188, [.nilfn]), (189, [.nilp]), (190, [.arr (.st 2) 8 (fun _ => ⟨(0 : Int), (0 : Int)⟩)]), (191, [.nilfn]), (192, [.nilfn]), (193, [.nilfn]), (194, [.nilfn]), (195, [.nilp, .nilp, .nilp, .str ByteArray.empty]), (196, [.nilp, .nilp, .nilp, .str ByteArray.empty]), (197, []), (198, []), (199, []), (200, [.nilfn]), (201, [.int .u32 (0)]), (202, [.int .u8 (0)]), (203, [.int .u8 (0)]), (204, [.nilfn]), (205, [.nilp]), (206, [.int .i32 (0)]), (207, [.int .i32 (0)]), (208, [.int .u64 (0), .int .u64 (0), .int .u32 (0), .int .u8 (0), .int .u8 (0), .int .u8 (0), .int .u8 (0), .nilfn, .nilp, .int .i32 (0), .int .i32 (0)]), (209, [.int .u64 (0), .int .u64 (0), .int .u32 (0), .int .u8 (0), .int .u8 (0), .int .u8 (0), .int .u8 (0), .nilfn, .nilp, .int .i32 (0), .int .i32 (0)]), (210, [.nilp])]
def codeT : Tr Ty := Tr.ofList codeL
def zeroT : Tr (List (TV Nore.S)) := Tr.ofList zeroL
noncomputable def X : TEnv Nore.S := ⟨E, Nore.T, codeT.get, zeroT.get⟩
theorem codeAll : allB (fun t c => codeB Nore.T (tyT.get t) c) codeT = true := by kernel_rfl
theorem zeroAll : allB (fun t z => zeroB Nore.T (tyT.get t) z) zeroT = true := by kernel_rfl
theorem zeroLaw (t : Nat) (z : List (TV Nore.S)) (ti : TI) (h1 : zeroT.get t = some z) (h2 : tyT.get t = some ti) : dvs Nore.T z = ti.zero := zeroB_ok (allB_get (p := fun t z => zeroB Nore.T (tyT.get t) z) zeroAll h1) h2
theorem codeLaw (t : Nat) (c : Ty) (ti : TI) (h1 : codeT.get t = some c) (h2 : tyT.get t = some ti) : ti.size = tsz Nore.T c ∧ ti.isAgg = isAggT c := codeB_ok (allB_get (p := fun t c => codeB Nore.T (tyT.get t) c) codeAll h1) h2
set_option maxRecDepth 100000 in
theorem xok : XOk X := XOk.mk Nore.tok zeroLaw codeLaw
end Go.Proofs.Ytdoejdmpmpgmiaa
namespace Nore
open Go.Ab Go.Proofs Go.Proofs.Ytdoejdmpmpgmiaa
theorem law04_Awake_run : evF X.E 60 24 [] = some (.bool true) := by kernel_rfl
end Nore
open Go Go.Ab
namespace Nore
def runtime_boundsError.Ok (lim : Ty → Nat) (x : runtime_boundsError) : Prop := ((Lit.int .i64 x.x).wf = true) ∧ ((Lit.int .i64 x.y).wf = true) ∧ True ∧ ((Lit.int .u8 x.code).wf = true) ∧ True
def runtime_errorAddressString.Ok (lim : Ty → Nat) (x : runtime_errorAddressString) : Prop := (x.msg.size ≤ maxLen) ∧ ((Lit.int .u64 x.addr).wf = true) ∧ True
def Point.Ok (lim : Ty → Nat) (x : Point) : Prop := ((Lit.int .i64 x.X).wf = true) ∧ ((Lit.int .i64 x.Y).wf = true) ∧ True
def CtPaint.Ok (lim : Ty → Nat) (x : CtPaint) : Prop := ((Lit.int .i64 x.Day).wf = true) ∧ ((Lit.int .i64 x.Colour).wf = true) ∧ True
def CtMark.Ok (lim : Ty → Nat) (x : CtMark) : Prop := (x.Name.size ≤ maxLen) ∧ (Point.Ok lim x.At) ∧ (x.Paints.length ≤ lim (.st 3) ∧ ∀ y0, List.Mem y0 x.Paints → (CtPaint.Ok lim y0)) ∧ True
def Span.Ok (lim : Ty → Nat) (x : Span) : Prop := ((Lit.int .i64 x.Lo).wf = true) ∧ ((Lit.int .i64 x.Hi).wf = true) ∧ True
def CtBox.Ok (lim : Ty → Nat) (x : CtBox) : Prop := (Span.Ok lim x.X) ∧ (Span.Ok lim x.Y) ∧ True
def CtSand.Ok (lim : Ty → Nat) (x : CtSand) : Prop := (x.Name.size ≤ maxLen) ∧ (x.Corners.length ≤ lim (.st 2) ∧ ∀ y0, List.Mem y0 x.Corners → (Point.Ok lim y0)) ∧ (CtBox.Ok lim x.Moves) ∧ True
def CtChart.Ok (lim : Ty → Nat) (x : CtChart) : Prop := (x.Marks.length ≤ lim (.st 4) ∧ ∀ y0, List.Mem y0 x.Marks → (CtMark.Ok lim y0)) ∧ (x.Sands.length ≤ lim (.st 7) ∧ ∀ y0, List.Mem y0 x.Sands → (CtSand.Ok lim y0)) ∧ True
def SgMooring.Ok (lim : Ty → Nat) (x : SgMooring) : Prop := (CtChart.Ok lim x.Chart) ∧ (CtBox.Ok lim x.Anchor) ∧ (Span.Ok lim x.Ring) ∧ ((Lit.int .i64 x.Near).wf = true) ∧ True
def SgLook.Ok (lim : Ty → Nat) (x : SgLook) : Prop := ((Lit.int .i64 x.Minute).wf = true) ∧ ((Lit.int .i64 x.Point).wf = true) ∧ ((Lit.int .i64 x.Points).wf = true) ∧ (CtBox.Ok lim x.At) ∧ True
def norelaw04_Laid.Ok (lim : Ty → Nat) (x : norelaw04_Laid) : Prop := (Point.Ok lim x.Anchor) ∧ (Point.Ok lim x.At) ∧ True
def norelaw04_Past.Ok (lim : Ty → Nat) (x : norelaw04_Past) : Prop := (∀ j0, j0 < 2 → ((Lit.int .u8 (x.Anchor j0)).wf = true)) ∧ (x.Lay.length ≤ lim (.int .u16) ∧ ∀ y0, List.Mem y0 x.Lay → ((Lit.int .u16 y0).wf = true)) ∧ True
def norelaw04_Looks.Ok (lim : Ty → Nat) (x : norelaw04_Looks) : Prop := (x.List_.length ≤ lim (.st 10) ∧ ∀ y0, List.Mem y0 x.List_ → (SgLook.Ok lim y0)) ∧ (SgLook.Ok lim x.More) ∧ True
def swing_mooring.Ok (lim : Ty → Nat) (x : swing_mooring) : Prop := (SgMooring.Ok lim x.SgMooring) ∧ (∀ j0, j0 < 5 → ((Lit.int .u64 (x.all_ j0)).wf = true)) ∧ True
def chart_sand.Ok (lim : Ty → Nat) (x : chart_sand) : Prop := (CtSand.Ok lim x.CtSand) ∧ True
def chart_ends_int.Ok (lim : Ty → Nat) (x : chart_ends_int) : Prop := ((Lit.int .i64 x.lo).wf = true) ∧ ((Lit.int .i64 x.hi).wf = true) ∧ True
def chart_side.Ok (lim : Ty → Nat) (x : chart_side) : Prop := (Point.Ok lim x.at_) ∧ (Point.Ok lim x.by_) ∧ True
def sOk (lim : Ty → Nat) (i : Nat) : S i → Prop := match i with
  | 0 => runtime_boundsError.Ok lim
  | 1 => runtime_errorAddressString.Ok lim
  | 2 => Point.Ok lim
  | 3 => CtPaint.Ok lim
  | 4 => CtMark.Ok lim
  | 5 => Span.Ok lim
  | 6 => CtBox.Ok lim
  | 7 => CtSand.Ok lim
  | 8 => CtChart.Ok lim
  | 9 => SgMooring.Ok lim
  | 10 => SgLook.Ok lim
  | 11 => norelaw04_Laid.Ok lim
  | 12 => norelaw04_Past.Ok lim
  | 13 => norelaw04_Looks.Ok lim
  | 14 => swing_mooring.Ok lim
  | 15 => chart_sand.Ok lim
  | 16 => chart_ends_int.Ok lim
  | 17 => chart_side.Ok lim
  | _ + 18 => fun _ => True
def flds (i : Nat) : List Ty := match i with
  | 0 => [(.int .i64), (.int .i64), .bool, (.int .u8)]
  | 1 => [.str, (.int .u64)]
  | 2 => [(.int .i64), (.int .i64)]
  | 3 => [(.int .i64), (.int .i64)]
  | 4 => [.str, (.st 2), (.sl (.st 3))]
  | 5 => [(.int .i64), (.int .i64)]
  | 6 => [(.st 5), (.st 5)]
  | 7 => [.str, (.sl (.st 2)), (.st 6)]
  | 8 => [(.sl (.st 4)), (.sl (.st 7))]
  | 9 => [(.st 8), (.st 6), (.st 5), (.int .i64)]
  | 10 => [(.int .i64), (.int .i64), (.int .i64), (.st 6)]
  | 11 => [(.st 2), (.st 2)]
  | 12 => [(.arr 2 (.int .u8)), (.sl (.int .u16))]
  | 13 => [(.sl (.st 10)), (.st 10)]
  | 14 => [(.st 9), (.arr 5 (.int .u64))]
  | 15 => [(.st 7)]
  | 16 => [(.int .i64), (.int .i64)]
  | 17 => [(.st 2), (.st 2)]
  | _ + 18 => []
def smk (i : Nat) : Args S (flds i) → S i := match i with
  | 0 => fun xs => (⟨xs.1, xs.2.1, xs.2.2.1, xs.2.2.2.1⟩ : runtime_boundsError)
  | 1 => fun xs => (⟨xs.1, xs.2.1⟩ : runtime_errorAddressString)
  | 2 => fun xs => (⟨xs.1, xs.2.1⟩ : Point)
  | 3 => fun xs => (⟨xs.1, xs.2.1⟩ : CtPaint)
  | 4 => fun xs => (⟨xs.1, xs.2.1, xs.2.2.1⟩ : CtMark)
  | 5 => fun xs => (⟨xs.1, xs.2.1⟩ : Span)
  | 6 => fun xs => (⟨xs.1, xs.2.1⟩ : CtBox)
  | 7 => fun xs => (⟨xs.1, xs.2.1, xs.2.2.1⟩ : CtSand)
  | 8 => fun xs => (⟨xs.1, xs.2.1⟩ : CtChart)
  | 9 => fun xs => (⟨xs.1, xs.2.1, xs.2.2.1, xs.2.2.2.1⟩ : SgMooring)
  | 10 => fun xs => (⟨xs.1, xs.2.1, xs.2.2.1, xs.2.2.2.1⟩ : SgLook)
  | 11 => fun xs => (⟨xs.1, xs.2.1⟩ : norelaw04_Laid)
  | 12 => fun xs => (⟨xs.1, xs.2.1⟩ : norelaw04_Past)
  | 13 => fun xs => (⟨xs.1, xs.2.1⟩ : norelaw04_Looks)
  | 14 => fun xs => (⟨xs.1, xs.2.1⟩ : swing_mooring)
  | 15 => fun xs => (⟨xs.1⟩ : chart_sand)
  | 16 => fun xs => (⟨xs.1, xs.2.1⟩ : chart_ends_int)
  | 17 => fun xs => (⟨xs.1, xs.2.1⟩ : chart_side)
  | _ + 18 => fun _ => T.dflt _
theorem smk_dl (i : Nat) : ∀ xs, T.dcells i (smk i xs) = dacl T (flds i) xs := match i with
  | 0 => fun xs => by
    show runtime_boundsError.dl _ = _
    unfold runtime_boundsError.dl
    first | (simp only [flds, dacl, smk, dcl, List.append_assoc, List.append_nil]; done) | (simp only [flds, dacl, smk, dcl, List.append_assoc, List.append_nil]; rfl)
  | 1 => fun xs => by
    show runtime_errorAddressString.dl _ = _
    unfold runtime_errorAddressString.dl
    first | (simp only [flds, dacl, smk, dcl, List.append_assoc, List.append_nil]; done) | (simp only [flds, dacl, smk, dcl, List.append_assoc, List.append_nil]; rfl)
  | 2 => fun xs => by
    show Point.dl _ = _
    unfold Point.dl
    first | (simp only [flds, dacl, smk, dcl, List.append_assoc, List.append_nil]; done) | (simp only [flds, dacl, smk, dcl, List.append_assoc, List.append_nil]; rfl)
  | 3 => fun xs => by
    show CtPaint.dl _ = _
    unfold CtPaint.dl
    first | (simp only [flds, dacl, smk, dcl, List.append_assoc, List.append_nil]; done) | (simp only [flds, dacl, smk, dcl, List.append_assoc, List.append_nil]; rfl)
  | 4 => fun xs => by
    show CtMark.dl _ = _
    unfold CtMark.dl
    first | (simp only [flds, dacl, smk, dcl, List.append_assoc, List.append_nil]; done) | (simp only [flds, dacl, smk, dcl, List.append_assoc, List.append_nil]; rfl)
  | 5 => fun xs => by
    show Span.dl _ = _
    unfold Span.dl
    first | (simp only [flds, dacl, smk, dcl, List.append_assoc, List.append_nil]; done) | (simp only [flds, dacl, smk, dcl, List.append_assoc, List.append_nil]; rfl)
  | 6 => fun xs => by
    show CtBox.dl _ = _
    unfold CtBox.dl
    first | (simp only [flds, dacl, smk, dcl, List.append_assoc, List.append_nil]; done) | (simp only [flds, dacl, smk, dcl, List.append_assoc, List.append_nil]; rfl)
  | 7 => fun xs => by
    show CtSand.dl _ = _
    unfold CtSand.dl
    first | (simp only [flds, dacl, smk, dcl, List.append_assoc, List.append_nil]; done) | (simp only [flds, dacl, smk, dcl, List.append_assoc, List.append_nil]; rfl)
  | 8 => fun xs => by
    show CtChart.dl _ = _
    unfold CtChart.dl
    first | (simp only [flds, dacl, smk, dcl, List.append_assoc, List.append_nil]; done) | (simp only [flds, dacl, smk, dcl, List.append_assoc, List.append_nil]; rfl)
  | 9 => fun xs => by
    show SgMooring.dl _ = _
    unfold SgMooring.dl
    first | (simp only [flds, dacl, smk, dcl, List.append_assoc, List.append_nil]; done) | (simp only [flds, dacl, smk, dcl, List.append_assoc, List.append_nil]; rfl)
  | 10 => fun xs => by
    show SgLook.dl _ = _
    unfold SgLook.dl
    first | (simp only [flds, dacl, smk, dcl, List.append_assoc, List.append_nil]; done) | (simp only [flds, dacl, smk, dcl, List.append_assoc, List.append_nil]; rfl)
  | 11 => fun xs => by
    show norelaw04_Laid.dl _ = _
    unfold norelaw04_Laid.dl
    first | (simp only [flds, dacl, smk, dcl, List.append_assoc, List.append_nil]; done) | (simp only [flds, dacl, smk, dcl, List.append_assoc, List.append_nil]; rfl)
  | 12 => fun xs => by
    show norelaw04_Past.dl _ = _
    unfold norelaw04_Past.dl
    first | (simp only [flds, dacl, smk, dcl, List.append_assoc, List.append_nil]; done) | (simp only [flds, dacl, smk, dcl, List.append_assoc, List.append_nil]; rfl)
  | 13 => fun xs => by
    show norelaw04_Looks.dl _ = _
    unfold norelaw04_Looks.dl
    first | (simp only [flds, dacl, smk, dcl, List.append_assoc, List.append_nil]; done) | (simp only [flds, dacl, smk, dcl, List.append_assoc, List.append_nil]; rfl)
  | 14 => fun xs => by
    show swing_mooring.dl _ = _
    unfold swing_mooring.dl
    first | (simp only [flds, dacl, smk, dcl, List.append_assoc, List.append_nil]; done) | (simp only [flds, dacl, smk, dcl, List.append_assoc, List.append_nil]; rfl)
  | 15 => fun xs => by
    show chart_sand.dl _ = _
    unfold chart_sand.dl
    first | (simp only [flds, dacl, smk, dcl, List.append_assoc, List.append_nil]; done) | (simp only [flds, dacl, smk, dcl, List.append_assoc, List.append_nil]; rfl)
  | 16 => fun xs => by
    show chart_ends_int.dl _ = _
    unfold chart_ends_int.dl
    first | (simp only [flds, dacl, smk, dcl, List.append_assoc, List.append_nil]; done) | (simp only [flds, dacl, smk, dcl, List.append_assoc, List.append_nil]; rfl)
  | 17 => fun xs => by
    show chart_side.dl _ = _
    unfold chart_side.dl
    first | (simp only [flds, dacl, smk, dcl, List.append_assoc, List.append_nil]; done) | (simp only [flds, dacl, smk, dcl, List.append_assoc, List.append_nil]; rfl)
  | _ + 18 => fun _ => rfl
theorem smk_ok (lim : Ty → Nat) (i : Nat) : ∀ xs, aok lim (sOk lim) (flds i) xs → sOk lim i (smk i xs) := match i with
  | 0 => fun _ h => h
  | 1 => fun _ h => h
  | 2 => fun _ h => h
  | 3 => fun _ h => h
  | 4 => fun _ h => h
  | 5 => fun _ h => h
  | 6 => fun _ h => h
  | 7 => fun _ h => h
  | 8 => fun _ h => h
  | 9 => fun _ h => h
  | 10 => fun _ h => h
  | 11 => fun _ h => h
  | 12 => fun _ h => h
  | 13 => fun _ h => h
  | 14 => fun _ h => h
  | 15 => fun _ h => h
  | 16 => fun _ h => h
  | 17 => fun _ h => h
  | _ + 18 => fun _ _ => trivial
def F : SF T := ⟨flds, smk, sOk, smk_dl, smk_ok⟩
end Nore
namespace Go.Proofs.Ytdoejdmpmpgmiaa
open Go.Ab Go.Proofs
def tb : Ty → Nat
  | .st 10 => 56
  | .st 2 => 16
  | _ => 1
def limW (c : Ty) : Nat := reachBytes / tb c
theorem tbAll : allB (fun e c => Nat.beq (Try.prog.bytesOf e) 0 || Nat.ble (tb c) (Try.prog.bytesOf e)) codeT = true := by kernel_rfl
theorem readAll : allB (fun t c => readB codeT.get tyT.get (tsz Nore.T) Nore.flds (tyT.get t) c) codeT = true := by kernel_rfl
theorem readLaw (t : Nat) (c : Ty) (h : X.code t = some c) : readB X.code X.E.ty (tsz X.T) Nore.F.flds (X.E.ty t) c = true := allB_get (p := fun t c => readB codeT.get tyT.get (tsz Nore.T) Nore.flds (tyT.get t) c) readAll h
end Go.Proofs.Ytdoejdmpmpgmiaa
