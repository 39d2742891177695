/- The structs of the program as plain structures. -/
import Derived.Test.YtlgmncmjacjgmaaGreatDoorT2
import Derived.Test.YtlgmncmjacjgmaaGreatDoorB
import Derived.KernelRfl
set_option linter.unusedSectionVars false
set_option linter.unusedVariables false
set_option linter.unusedSimpArgs false
namespace Nore
open Go Go.Ab
@[ext] structure Z4 where
 x:Int
 y:Int
 signed:Bool
 code:Int
@[ext] structure Z1 where
 msg:ByteArray
 addr:Int
@[ext] structure Zm where
 Name:ByteArray
 States:Int
 First:Int
@[ext] structure Y2 where
 Lo:Int
 Hi:Int
@[ext] structure Zq where
 Device:Int
 State:Int
 At:Y2
@[ext] structure CoRecord where
 Devices:(List Zm)
 Entries:(List Zq)
@[ext] structure Zr where
 Device:Int
 State:Int
 At:Y2
@[ext] structure Z7 where
 Seen:(List Zr)
 Ask:Zr
@[ext] structure Z9 where
 Seen:Zr
 Narrower:(List Int)
@[ext] structure Za where
 Minutes:(List Int)
 Taken:(List Int)
@[ext] structure Zc where
 CoRecord:CoRecord
 seen:(List Zr)
@[ext] structure Z6 where
 from_:Int
 to_:Int
@[ext] structure Z8 where
 lo:(List Int)
 hi:(List Int)
 later:(List Z6)
@[ext] structure Zb where
 from_:Int
 to_:Int
@[ext] structure Z2 where
 lo:Int
 hi:Int
@[ext] structure Z5 where
 s:ByteArray
def S:Nat->Type
 | 0=>Z4
 | 1=>Z1
 | 2=>Unit
 | 3=>Unit
 | 4=>Unit
 | 5=>Y2
 | 6=>Unit
 | 7=>Unit
 | 8=>Unit
 | 9=>Unit
 | 10=>Unit
 | 11=>Unit
 | 12=>Unit
 | 13=>Unit
 | 14=>Unit
 | 15=>Unit
 | 16=>Unit
 | 17=>Unit
 | 18=>Zm
 | 19=>Zq
 | 20=>CoRecord
 | 21=>Zr
 | 22=>Z7
 | 23=>Z9
 | 24=>Za
 | 25=>Zc
 | 26=>Z6
 | 27=>Z8
 | 28=>Zb
 | 29=>Z2
 | 30=>Z5
 | _+31=>Unit
def Z4.cl (x:Z4):List (TV S):=[.int .i64 x.x]++[.int .i64 x.y]++[.bool x.signed]++[.int .u8 x.code]
def Z4.dl (x:Z4):List DV:=[.int .i64 x.x]++[.int .i64 x.y]++[.bool x.signed]++[.int .u8 x.code]
def Z4.df:Z4:=⟨(0:Int),(0:Int),false,(0:Int)⟩
def Z4.eqb (x y:Z4):Bool:=(x.x==y.x&&(x.y==y.y&&(x.signed==y.signed&&(x.code==y.code&&true))))
def Z4.seq:Option (Z4->Z4->Bool):=some Z4.eqb
def Z1.cl (x:Z1):List (TV S):=[.str x.msg]++[.int .u64 x.addr]
def Z1.dl (x:Z1):List DV:=[.str x.msg]++[.int .u64 x.addr]
def Z1.df:Z1:=⟨ByteArray.empty,(0:Int)⟩
def Z1.eqb (x y:Z1):Bool:=(x.msg==y.msg&&(x.addr==y.addr&&true))
def Z1.seq:Option (Z1->Z1->Bool):=some Z1.eqb
def Zm.cl (x:Zm):List (TV S):=[.str x.Name]++[.int .i64 x.States]++[.int .i64 x.First]
def Zm.dl (x:Zm):List DV:=[.str x.Name]++[.int .i64 x.States]++[.int .i64 x.First]
def Zm.df:Zm:=⟨ByteArray.empty,(0:Int),(0:Int)⟩
def Zm.eqb (x y:Zm):Bool:=(x.Name==y.Name&&(x.States==y.States&&(x.First==y.First&&true)))
def Zm.seq:Option (Zm->Zm->Bool):=some Zm.eqb
def Y2.cl (x:Y2):List (TV S):=[.int .i64 x.Lo]++[.int .i64 x.Hi]
def Y2.dl (x:Y2):List DV:=[.int .i64 x.Lo]++[.int .i64 x.Hi]
def Y2.df:Y2:=⟨(0:Int),(0:Int)⟩
def Y2.eqb (x y:Y2):Bool:=(x.Lo==y.Lo&&(x.Hi==y.Hi&&true))
def Y2.seq:Option (Y2->Y2->Bool):=some Y2.eqb
def Zq.cl (x:Zq):List (TV S):=[.int .i64 x.Device]++[.int .i64 x.State]++[.stc 5 x.At]
def Zq.dl (x:Zq):List DV:=[.int .i64 x.Device]++[.int .i64 x.State]++(Y2.dl x.At)
def Zq.df:Zq:=⟨(0:Int),(0:Int),⟨(0:Int),(0:Int)⟩⟩
def Zq.eqb (x y:Zq):Bool:=(x.Device==y.Device&&(x.State==y.State&&(x.At.Lo==y.At.Lo&&(x.At.Hi==y.At.Hi&&true))))
def Zq.seq:Option (Zq->Zq->Bool):=some Zq.eqb
def CoRecord.cl (x:CoRecord):List (TV S):=[.sl (.st 18) x.Devices]++[.sl (.st 19) x.Entries]
def CoRecord.dl (x:CoRecord):List DV:=[.sl (List.map (fun y=>(Zm.dl y)) x.Devices)]++[.sl (List.map (fun y=>(Zq.dl y)) x.Entries)]
def CoRecord.df:CoRecord:=⟨[],[]⟩
def CoRecord.seq:Option (CoRecord->CoRecord->Bool):=none
def Zr.cl (x:Zr):List (TV S):=[.int .i64 x.Device]++[.int .i64 x.State]++[.stc 5 x.At]
def Zr.dl (x:Zr):List DV:=[.int .i64 x.Device]++[.int .i64 x.State]++(Y2.dl x.At)
def Zr.df:Zr:=⟨(0:Int),(0:Int),⟨(0:Int),(0:Int)⟩⟩
def Zr.eqb (x y:Zr):Bool:=(x.Device==y.Device&&(x.State==y.State&&(x.At.Lo==y.At.Lo&&(x.At.Hi==y.At.Hi&&true))))
def Zr.seq:Option (Zr->Zr->Bool):=some Zr.eqb
def Z7.cl (x:Z7):List (TV S):=[.sl (.st 21) x.Seen]++[.stc 21 x.Ask]
def Z7.dl (x:Z7):List DV:=[.sl (List.map (fun y=>(Zr.dl y)) x.Seen)]++(Zr.dl x.Ask)
def Z7.df:Z7:=⟨[],⟨(0:Int),(0:Int),⟨(0:Int),(0:Int)⟩⟩⟩
def Z7.seq:Option (Z7->Z7->Bool):=none
def Z9.cl (x:Z9):List (TV S):=[.stc 21 x.Seen]++[.sl (.int .u8) x.Narrower]
def Z9.dl (x:Z9):List DV:=(Zr.dl x.Seen)++[.sl (List.map (fun y=>[.int .u8 y]) x.Narrower)]
def Z9.df:Z9:=⟨⟨(0:Int),(0:Int),⟨(0:Int),(0:Int)⟩⟩,[]⟩
def Z9.seq:Option (Z9->Z9->Bool):=none
def Za.cl (x:Za):List (TV S):=[.sl (.int .u16) x.Minutes]++[.sl (.int .u16) x.Taken]
def Za.dl (x:Za):List DV:=[.sl (List.map (fun y=>[.int .u16 y]) x.Minutes)]++[.sl (List.map (fun y=>[.int .u16 y]) x.Taken)]
def Za.df:Za:=⟨[],[]⟩
def Za.seq:Option (Za->Za->Bool):=none
def Zc.cl (x:Zc):List (TV S):=[.stc 20 x.CoRecord]++[.sl (.st 21) x.seen]
def Zc.dl (x:Zc):List DV:=(CoRecord.dl x.CoRecord)++[.sl (List.map (fun y=>(Zr.dl y)) x.seen)]
def Zc.df:Zc:=⟨⟨[],[]⟩,[]⟩
def Zc.seq:Option (Zc->Zc->Bool):=none
def Z6.cl (x:Z6):List (TV S):=[.int .i64 x.from_]++[.int .i64 x.to_]
def Z6.dl (x:Z6):List DV:=[.int .i64 x.from_]++[.int .i64 x.to_]
def Z6.df:Z6:=⟨(0:Int),(0:Int)⟩
def Z6.eqb (x y:Z6):Bool:=(x.from_==y.from_&&(x.to_==y.to_&&true))
def Z6.seq:Option (Z6->Z6->Bool):=some Z6.eqb
def Z8.cl (x:Z8):List (TV S):=[.sl (.int .i64) x.lo]++[.sl (.int .i64) x.hi]++[.sl (.st 26) x.later]
def Z8.dl (x:Z8):List DV:=[.sl (List.map (fun y=>[.int .i64 y]) x.lo)]++[.sl (List.map (fun y=>[.int .i64 y]) x.hi)]++[.sl (List.map (fun y=>(Z6.dl y)) x.later)]
def Z8.df:Z8:=⟨[],[],[]⟩
def Z8.seq:Option (Z8->Z8->Bool):=none
def Zb.cl (x:Zb):List (TV S):=[.int .i64 x.from_]++[.int .i64 x.to_]
def Zb.dl (x:Zb):List DV:=[.int .i64 x.from_]++[.int .i64 x.to_]
def Zb.df:Zb:=⟨(0:Int),(0:Int)⟩
def Zb.eqb (x y:Zb):Bool:=(x.from_==y.from_&&(x.to_==y.to_&&true))
def Zb.seq:Option (Zb->Zb->Bool):=some Zb.eqb
def Z2.cl (x:Z2):List (TV S):=[.int .u8 x.lo]++[.int .u8 x.hi]
def Z2.dl (x:Z2):List DV:=[.int .u8 x.lo]++[.int .u8 x.hi]
def Z2.df:Z2:=⟨(0:Int),(0:Int)⟩
def Z2.eqb (x y:Z2):Bool:=(x.lo==y.lo&&(x.hi==y.hi&&true))
def Z2.seq:Option (Z2->Z2->Bool):=some Z2.eqb
def Z5.cl (x:Z5):List (TV S):=[.str x.s]
def Z5.dl (x:Z5):List DV:=[.str x.s]
def Z5.df:Z5:=⟨ByteArray.empty⟩
def Z5.eqb (x y:Z5):Bool:=(x.s==y.s&&true)
def Z5.seq:Option (Z5->Z5->Bool):=some Z5.eqb
def T0:TS S where
 size:=fun i=>match i with
  | 0=>4
  | 1=>2
  | 18=>3
  | 5=>2
  | 19=>4
  | 20=>2
  | 21=>4
  | 22=>5
  | 23=>5
  | 24=>2
  | 25=>3
  | 26=>2
  | 27=>3
  | 28=>2
  | 29=>2
  | 30=>1
  | _=>0
 cells:=fun i=>match i with
  | 0=>Z4.cl
  | 1=>Z1.cl
  | 2=>fun _=>[]
  | 3=>fun _=>[]
  | 4=>fun _=>[]
  | 5=>Y2.cl
  | 6=>fun _=>[]
  | 7=>fun _=>[]
  | 8=>fun _=>[]
  | 9=>fun _=>[]
  | 10=>fun _=>[]
  | 11=>fun _=>[]
  | 12=>fun _=>[]
  | 13=>fun _=>[]
  | 14=>fun _=>[]
  | 15=>fun _=>[]
  | 16=>fun _=>[]
  | 17=>fun _=>[]
  | 18=>Zm.cl
  | 19=>Zq.cl
  | 20=>CoRecord.cl
  | 21=>Zr.cl
  | 22=>Z7.cl
  | 23=>Z9.cl
  | 24=>Za.cl
  | 25=>Zc.cl
  | 26=>Z6.cl
  | 27=>Z8.cl
  | 28=>Zb.cl
  | 29=>Z2.cl
  | 30=>Z5.cl
  | _+31=>fun _=>[]
 dcells:=fun i=>match i with
  | 0=>Z4.dl
  | 1=>Z1.dl
  | 2=>fun _=>[]
  | 3=>fun _=>[]
  | 4=>fun _=>[]
  | 5=>Y2.dl
  | 6=>fun _=>[]
  | 7=>fun _=>[]
  | 8=>fun _=>[]
  | 9=>fun _=>[]
  | 10=>fun _=>[]
  | 11=>fun _=>[]
  | 12=>fun _=>[]
  | 13=>fun _=>[]
  | 14=>fun _=>[]
  | 15=>fun _=>[]
  | 16=>fun _=>[]
  | 17=>fun _=>[]
  | 18=>Zm.dl
  | 19=>Zq.dl
  | 20=>CoRecord.dl
  | 21=>Zr.dl
  | 22=>Z7.dl
  | 23=>Z9.dl
  | 24=>Za.dl
  | 25=>Zc.dl
  | 26=>Z6.dl
  | 27=>Z8.dl
  | 28=>Zb.dl
  | 29=>Z2.dl
  | 30=>Z5.dl
  | _+31=>fun _=>[]
 rd:=fun _ _=>none
 dflt:=fun i=>match i with
  | 0=>Z4.df
  | 1=>Z1.df
  | 2=>()
  | 3=>()
  | 4=>()
  | 5=>Y2.df
  | 6=>()
  | 7=>()
  | 8=>()
  | 9=>()
  | 10=>()
  | 11=>()
  | 12=>()
  | 13=>()
  | 14=>()
  | 15=>()
  | 16=>()
  | 17=>()
  | 18=>Zm.df
  | 19=>Zq.df
  | 20=>CoRecord.df
  | 21=>Zr.df
  | 22=>Z7.df
  | 23=>Z9.df
  | 24=>Za.df
  | 25=>Zc.df
  | 26=>Z6.df
  | 27=>Z8.df
  | 28=>Zb.df
  | 29=>Z2.df
  | 30=>Z5.df
  | _+31=>()
 seq:=fun _=>none
def Z4.rd (cs:List (TV S)):Option (Z4×List (TV S)):=(Z1b .i64 cs).bind fun a0=>(Z1b .i64 a0.2).bind fun a1=>(Z7Z a1.2).bind fun a2=>(Z1b .u8 a2.2).bind fun a3=>some (⟨a0.1,a1.1,a2.1,a3.1⟩,a3.2)
def Z1.rd (cs:List (TV S)):Option (Z1×List (TV S)):=(Z8B cs).bind fun a0=>(Z1b .u64 a0.2).bind fun a1=>some (⟨a0.1,a1.1⟩,a1.2)
def Zm.rd (cs:List (TV S)):Option (Zm×List (TV S)):=(Z8B cs).bind fun a0=>(Z1b .i64 a0.2).bind fun a1=>(Z1b .i64 a1.2).bind fun a2=>some (⟨a0.1,a1.1,a2.1⟩,a2.2)
def Y2.rd (cs:List (TV S)):Option (Y2×List (TV S)):=(Z1b .i64 cs).bind fun a0=>(Z1b .i64 a0.2).bind fun a1=>some (⟨a0.1,a1.1⟩,a1.2)
def Zq.rd (cs:List (TV S)):Option (Zq×List (TV S)):=(Z1b .i64 cs).bind fun a0=>(Z1b .i64 a0.2).bind fun a1=>((fun cs=>rdW (S:=S) 5 Y2.rd (Z3z T0 5 6 cs)) a1.2).bind fun a2=>some (⟨a0.1,a1.1,a2.1⟩,a2.2)
def CoRecord.rd (cs:List (TV S)):Option (CoRecord×List (TV S)):=(Z78 (S:=S) (.st 18) cs).bind fun a0=>(Z78 (S:=S) (.st 19) a0.2).bind fun a1=>some (⟨a0.1,a1.1⟩,a1.2)
def Zr.rd (cs:List (TV S)):Option (Zr×List (TV S)):=(Z1b .i64 cs).bind fun a0=>(Z1b .i64 a0.2).bind fun a1=>((fun cs=>rdW (S:=S) 5 Y2.rd (Z3z T0 5 6 cs)) a1.2).bind fun a2=>some (⟨a0.1,a1.1,a2.1⟩,a2.2)
def Z7.rd (cs:List (TV S)):Option (Z7×List (TV S)):=(Z78 (S:=S) (.st 21) cs).bind fun a0=>((fun cs=>rdW (S:=S) 21 Zr.rd (Z3z T0 21 6 cs)) a0.2).bind fun a1=>some (⟨a0.1,a1.1⟩,a1.2)
def Z9.rd (cs:List (TV S)):Option (Z9×List (TV S)):=((fun cs=>rdW (S:=S) 21 Zr.rd (Z3z T0 21 6 cs)) cs).bind fun a0=>(Z78 (S:=S) (.int .u8) a0.2).bind fun a1=>some (⟨a0.1,a1.1⟩,a1.2)
def Za.rd (cs:List (TV S)):Option (Za×List (TV S)):=(Z78 (S:=S) (.int .u16) cs).bind fun a0=>(Z78 (S:=S) (.int .u16) a0.2).bind fun a1=>some (⟨a0.1,a1.1⟩,a1.2)
def Zc.rd (cs:List (TV S)):Option (Zc×List (TV S)):=((fun cs=>rdW (S:=S) 20 CoRecord.rd (Z3z T0 20 6 cs)) cs).bind fun a0=>(Z78 (S:=S) (.st 21) a0.2).bind fun a1=>some (⟨a0.1,a1.1⟩,a1.2)
def Z6.rd (cs:List (TV S)):Option (Z6×List (TV S)):=(Z1b .i64 cs).bind fun a0=>(Z1b .i64 a0.2).bind fun a1=>some (⟨a0.1,a1.1⟩,a1.2)
def Z8.rd (cs:List (TV S)):Option (Z8×List (TV S)):=(Z78 (S:=S) (.int .i64) cs).bind fun a0=>(Z78 (S:=S) (.int .i64) a0.2).bind fun a1=>(Z78 (S:=S) (.st 26) a1.2).bind fun a2=>some (⟨a0.1,a1.1,a2.1⟩,a2.2)
def Zb.rd (cs:List (TV S)):Option (Zb×List (TV S)):=(Z1b .i64 cs).bind fun a0=>(Z1b .i64 a0.2).bind fun a1=>some (⟨a0.1,a1.1⟩,a1.2)
def Z2.rd (cs:List (TV S)):Option (Z2×List (TV S)):=(Z1b .u8 cs).bind fun a0=>(Z1b .u8 a0.2).bind fun a1=>some (⟨a0.1,a1.1⟩,a1.2)
def Z5.rd (cs:List (TV S)):Option (Z5×List (TV S)):=(Z8B cs).bind fun a0=>some (⟨a0.1⟩,a0.2)
def T:TS S where
 size:=fun i=>match i with
  | 0=>4
  | 1=>2
  | 18=>3
  | 5=>2
  | 19=>4
  | 20=>2
  | 21=>4
  | 22=>5
  | 23=>5
  | 24=>2
  | 25=>3
  | 26=>2
  | 27=>3
  | 28=>2
  | 29=>2
  | 30=>1
  | _=>0
 cells:=fun i=>match i with
  | 0=>Z4.cl
  | 1=>Z1.cl
  | 2=>fun _=>[]
  | 3=>fun _=>[]
  | 4=>fun _=>[]
  | 5=>Y2.cl
  | 6=>fun _=>[]
  | 7=>fun _=>[]
  | 8=>fun _=>[]
  | 9=>fun _=>[]
  | 10=>fun _=>[]
  | 11=>fun _=>[]
  | 12=>fun _=>[]
  | 13=>fun _=>[]
  | 14=>fun _=>[]
  | 15=>fun _=>[]
  | 16=>fun _=>[]
  | 17=>fun _=>[]
  | 18=>Zm.cl
  | 19=>Zq.cl
  | 20=>CoRecord.cl
  | 21=>Zr.cl
  | 22=>Z7.cl
  | 23=>Z9.cl
  | 24=>Za.cl
  | 25=>Zc.cl
  | 26=>Z6.cl
  | 27=>Z8.cl
  | 28=>Zb.cl
  | 29=>Z2.cl
  | 30=>Z5.cl
  | _+31=>fun _=>[]
 dcells:=fun i=>match i with
  | 0=>Z4.dl
  | 1=>Z1.dl
  | 2=>fun _=>[]
  | 3=>fun _=>[]
  | 4=>fun _=>[]
  | 5=>Y2.dl
  | 6=>fun _=>[]
  | 7=>fun _=>[]
  | 8=>fun _=>[]
  | 9=>fun _=>[]
  | 10=>fun _=>[]
  | 11=>fun _=>[]
  | 12=>fun _=>[]
  | 13=>fun _=>[]
  | 14=>fun _=>[]
  | 15=>fun _=>[]
  | 16=>fun _=>[]
  | 17=>fun _=>[]
  | 18=>Zm.dl
  | 19=>Zq.dl
  | 20=>CoRecord.dl
  | 21=>Zr.dl
  | 22=>Z7.dl
  | 23=>Z9.dl
  | 24=>Za.dl
  | 25=>Zc.dl
  | 26=>Z6.dl
  | 27=>Z8.dl
  | 28=>Zb.dl
  | 29=>Z2.dl
  | 30=>Z5.dl
  | _+31=>fun _=>[]
 rd:=fun i=>match i with
  | 0=>Z4.rd
  | 1=>Z1.rd
  | 2=>fun cs=>some ((),cs)
  | 3=>fun cs=>some ((),cs)
  | 4=>fun cs=>some ((),cs)
  | 5=>Y2.rd
  | 6=>fun cs=>some ((),cs)
  | 7=>fun cs=>some ((),cs)
  | 8=>fun cs=>some ((),cs)
  | 9=>fun cs=>some ((),cs)
  | 10=>fun cs=>some ((),cs)
  | 11=>fun cs=>some ((),cs)
  | 12=>fun cs=>some ((),cs)
  | 13=>fun cs=>some ((),cs)
  | 14=>fun cs=>some ((),cs)
  | 15=>fun cs=>some ((),cs)
  | 16=>fun cs=>some ((),cs)
  | 17=>fun cs=>some ((),cs)
  | 18=>Zm.rd
  | 19=>Zq.rd
  | 20=>CoRecord.rd
  | 21=>Zr.rd
  | 22=>Z7.rd
  | 23=>Z9.rd
  | 24=>Za.rd
  | 25=>Zc.rd
  | 26=>Z6.rd
  | 27=>Z8.rd
  | 28=>Zb.rd
  | 29=>Z2.rd
  | 30=>Z5.rd
  | _+31=>fun cs=>some ((),cs)
 dflt:=fun i=>match i with
  | 0=>Z4.df
  | 1=>Z1.df
  | 2=>()
  | 3=>()
  | 4=>()
  | 5=>Y2.df
  | 6=>()
  | 7=>()
  | 8=>()
  | 9=>()
  | 10=>()
  | 11=>()
  | 12=>()
  | 13=>()
  | 14=>()
  | 15=>()
  | 16=>()
  | 17=>()
  | 18=>Zm.df
  | 19=>Zq.df
  | 20=>CoRecord.df
  | 21=>Zr.df
  | 22=>Z7.df
  | 23=>Z9.df
  | 24=>Za.df
  | 25=>Zc.df
  | 26=>Z6.df
  | 27=>Z8.df
  | 28=>Zb.df
  | 29=>Z2.df
  | 30=>Z5.df
  | _+31=>()
 seq:=fun i=>match i with
  | 0=>Z4.seq
  | 1=>Z1.seq
  | 2=>none
  | 3=>none
  | 4=>none
  | 5=>Y2.seq
  | 6=>none
  | 7=>none
  | 8=>none
  | 9=>none
  | 10=>none
  | 11=>none
  | 12=>none
  | 13=>none
  | 14=>none
  | 15=>none
  | 16=>none
  | 17=>none
  | 18=>Zm.seq
  | 19=>Zq.seq
  | 20=>CoRecord.seq
  | 21=>Zr.seq
  | 22=>Z7.seq
  | 23=>Z9.seq
  | 24=>Za.seq
  | 25=>Zc.seq
  | 26=>Z6.seq
  | 27=>Z8.seq
  | 28=>Zb.seq
  | 29=>Z2.seq
  | 30=>Z5.seq
  | _+31=>none
abbrev dT (cs:List (TV S)):List DV:=dvs T cs
theorem Z4.cl_ok (x:Z4):dvs T (Z4.cl x)=Z4.dl x:=rfl
theorem Z1.cl_ok (x:Z1):dvs T (Z1.cl x)=Z1.dl x:=rfl
theorem Zm.cl_ok (x:Zm):dvs T (Zm.cl x)=Zm.dl x:=rfl
theorem Y2.cl_ok (x:Y2):dvs T (Y2.cl x)=Y2.dl x:=rfl
theorem Zq.cl_ok (x:Zq):dvs T (Zq.cl x)=Zq.dl x:=rfl
theorem CoRecord.cl_ok (x:CoRecord):dvs T (CoRecord.cl x)=CoRecord.dl x:=rfl
theorem Zr.cl_ok (x:Zr):dvs T (Zr.cl x)=Zr.dl x:=rfl
theorem Z7.cl_ok (x:Z7):dvs T (Z7.cl x)=Z7.dl x:=rfl
theorem Z9.cl_ok (x:Z9):dvs T (Z9.cl x)=Z9.dl x:=rfl
theorem Za.cl_ok (x:Za):dvs T (Za.cl x)=Za.dl x:=rfl
theorem Zc.cl_ok (x:Zc):dvs T (Zc.cl x)=Zc.dl x:=rfl
theorem Z6.cl_ok (x:Z6):dvs T (Z6.cl x)=Z6.dl x:=rfl
theorem Z8.cl_ok (x:Z8):dvs T (Z8.cl x)=Z8.dl x:=rfl
theorem Zb.cl_ok (x:Zb):dvs T (Zb.cl x)=Zb.dl x:=rfl
theorem Z2.cl_ok (x:Z2):dvs T (Z2.cl x)=Z2.dl x:=rfl
theorem Z5.cl_ok (x:Z5):dvs T (Z5.cl x)=Z5.dl x:=rfl
theorem Zhe:∀i (x:S i),dvs T (T0.cells i x)=T.dcells i x :=
   fun i=>match i with
    | 0=>Z4.cl_ok
    | 1=>Z1.cl_ok
    | 2=>fun _=>rfl
    | 3=>fun _=>rfl
    | 4=>fun _=>rfl
    | 5=>Y2.cl_ok
    | 6=>fun _=>rfl
    | 7=>fun _=>rfl
    | 8=>fun _=>rfl
    | 9=>fun _=>rfl
    | 10=>fun _=>rfl
    | 11=>fun _=>rfl
    | 12=>fun _=>rfl
    | 13=>fun _=>rfl
    | 14=>fun _=>rfl
    | 15=>fun _=>rfl
    | 16=>fun _=>rfl
    | 17=>fun _=>rfl
    | 18=>Zm.cl_ok
    | 19=>Zq.cl_ok
    | 20=>CoRecord.cl_ok
    | 21=>Zr.cl_ok
    | 22=>Z7.cl_ok
    | 23=>Z9.cl_ok
    | 24=>Za.cl_ok
    | 25=>Zc.cl_ok
    | 26=>Z6.cl_ok
    | 27=>Z8.cl_ok
    | 28=>Zb.cl_ok
    | 29=>Z2.cl_ok
    | 30=>Z5.cl_ok
    | _+31=>fun _=>rfl
theorem Z3a (i:Nat):∀(n:Nat) (cs:List (TV S)),dvs T (Z3z T0 i n cs)=dvs T cs:=Z96 (T:=T) (T0:=T0) Zhe i
theorem Z4.len_ok (x:Z4):(Z4.dl x).length=4:=rfl
theorem Z4.pl_ok (x:Z4):(Z4.dl x).all plain=true:=rfl
theorem Z4.seq_ok (e:Z4->Z4->Bool) (h:Z4.seq=some e) (x y:Z4):Zn (Z4.dl x) (Z4.dl y)=some (e x y):=by
 cases h;rfl
theorem Z4.rd_ok {cs r:List (TV S)} {x:Z4} (h:Z4.rd cs=some (x,r)):dvs T cs=Z4.dl x++dvs T r:=by
 unfold Z4.rd at h;obtain⟨⟨a0,r0⟩,h0,h⟩:=Z0 h;obtain⟨⟨a1,r1⟩,h1,h⟩:=Z0 h;obtain⟨⟨a2,r2⟩,h2,h⟩:=Z0 h;obtain⟨⟨a3,r3⟩,h3,h⟩:=Z0 h;cases h;rw[Y7 h0,Y7 h1,Zf0 h2,Y7 h3];rfl
theorem Z1.len_ok (x:Z1):(Z1.dl x).length=2:=rfl
theorem Z1.pl_ok (x:Z1):(Z1.dl x).all plain=true:=rfl
theorem Z1.seq_ok (e:Z1->Z1->Bool) (h:Z1.seq=some e) (x y:Z1):Zn (Z1.dl x) (Z1.dl y)=some (e x y):=by
 cases h;rfl
theorem Z1.rd_ok {cs r:List (TV S)} {x:Z1} (h:Z1.rd cs=some (x,r)):dvs T cs=Z1.dl x++dvs T r:=by
 unfold Z1.rd at h;obtain⟨⟨a0,r0⟩,h0,h⟩:=Z0 h;obtain⟨⟨a1,r1⟩,h1,h⟩:=Z0 h;cases h;rw[Z80 h0,Y7 h1];rfl
theorem Zm.len_ok (x:Zm):(Zm.dl x).length=3:=rfl
theorem Zm.pl_ok (x:Zm):(Zm.dl x).all plain=true:=rfl
theorem Zm.seq_ok (e:Zm->Zm->Bool) (h:Zm.seq=some e) (x y:Zm):Zn (Zm.dl x) (Zm.dl y)=some (e x y):=by
 cases h;rfl
theorem Zm.rd_ok {cs r:List (TV S)} {x:Zm} (h:Zm.rd cs=some (x,r)):dvs T cs=Zm.dl x++dvs T r:=by
 unfold Zm.rd at h;obtain⟨⟨a0,r0⟩,h0,h⟩:=Z0 h;obtain⟨⟨a1,r1⟩,h1,h⟩:=Z0 h;obtain⟨⟨a2,r2⟩,h2,h⟩:=Z0 h;cases h;rw[Z80 h0,Y7 h1,Y7 h2];rfl
theorem Y2.len_ok (x:Y2):(Y2.dl x).length=2:=rfl
theorem Y2.pl_ok (x:Y2):(Y2.dl x).all plain=true:=rfl
theorem Y2.seq_ok (e:Y2->Y2->Bool) (h:Y2.seq=some e) (x y:Y2):Zn (Y2.dl x) (Y2.dl y)=some (e x y):=by
 cases h;rfl
theorem Y2.rd_ok {cs r:List (TV S)} {x:Y2} (h:Y2.rd cs=some (x,r)):dvs T cs=Y2.dl x++dvs T r:=by
 unfold Y2.rd at h;obtain⟨⟨a0,r0⟩,h0,h⟩:=Z0 h;obtain⟨⟨a1,r1⟩,h1,h⟩:=Z0 h;cases h;rw[Y7 h0,Y7 h1];rfl
theorem Zq.len_ok (x:Zq):(Zq.dl x).length=4:=rfl
theorem Zq.pl_ok (x:Zq):(Zq.dl x).all plain=true:=rfl
theorem Zq.seq_ok (e:Zq->Zq->Bool) (h:Zq.seq=some e) (x y:Zq):Zn (Zq.dl x) (Zq.dl y)=some (e x y):=by
 cases h;rfl
theorem Zq.rd_ok {cs r:List (TV S)} {x:Zq} (h:Zq.rd cs=some (x,r)):dvs T cs=Zq.dl x++dvs T r:=by
 unfold Zq.rd at h;obtain⟨⟨a0,r0⟩,h0,h⟩:=Z0 h;obtain⟨⟨a1,r1⟩,h1,h⟩:=Z0 h;obtain⟨⟨a2,r2⟩,h2,h⟩:=Z0 h;cases h;rw[Y7 h0,Y7 h1,<-Z3a 5 6,Z5K (T:=T) (fun _ _ _ h=>Y2.rd_ok h) h2];rfl
theorem CoRecord.len_ok (x:CoRecord):(CoRecord.dl x).length=2:=rfl
theorem CoRecord.pl_ok (x:CoRecord):(CoRecord.dl x).all plain=true:=rfl
theorem CoRecord.seq_ok (e:CoRecord->CoRecord->Bool) (h:CoRecord.seq=some e) (x y:CoRecord):Zn (CoRecord.dl x) (CoRecord.dl y)=some (e x y):=by cases h
theorem CoRecord.rd_ok {cs r:List (TV S)} {x:CoRecord} (h:CoRecord.rd cs=some (x,r)):dvs T cs=CoRecord.dl x++dvs T r:=by
 unfold CoRecord.rd at h;obtain⟨⟨a0,r0⟩,h0,h⟩:=Z0 h;obtain⟨⟨a1,r1⟩,h1,h⟩:=Z0 h;cases h;rw[Z1c h0,Z1c h1];rfl
theorem Zr.len_ok (x:Zr):(Zr.dl x).length=4:=rfl
theorem Zr.pl_ok (x:Zr):(Zr.dl x).all plain=true:=rfl
theorem Zr.seq_ok (e:Zr->Zr->Bool) (h:Zr.seq=some e) (x y:Zr):Zn (Zr.dl x) (Zr.dl y)=some (e x y):=by
 cases h;rfl
theorem Zr.rd_ok {cs r:List (TV S)} {x:Zr} (h:Zr.rd cs=some (x,r)):dvs T cs=Zr.dl x++dvs T r:=by
 unfold Zr.rd at h;obtain⟨⟨a0,r0⟩,h0,h⟩:=Z0 h;obtain⟨⟨a1,r1⟩,h1,h⟩:=Z0 h;obtain⟨⟨a2,r2⟩,h2,h⟩:=Z0 h;cases h;rw[Y7 h0,Y7 h1,<-Z3a 5 6,Z5K (T:=T) (fun _ _ _ h=>Y2.rd_ok h) h2];rfl
theorem Z7.len_ok (x:Z7):(Z7.dl x).length=5:=rfl
theorem Z7.pl_ok (x:Z7):(Z7.dl x).all plain=true:=rfl
theorem Z7.seq_ok (e:Z7->Z7->Bool) (h:Z7.seq=some e) (x y:Z7):Zn (Z7.dl x) (Z7.dl y)=some (e x y):=by cases h
theorem Z7.rd_ok {cs r:List (TV S)} {x:Z7} (h:Z7.rd cs=some (x,r)):dvs T cs=Z7.dl x++dvs T r:=by
 unfold Z7.rd at h;obtain⟨⟨a0,r0⟩,h0,h⟩:=Z0 h;obtain⟨⟨a1,r1⟩,h1,h⟩:=Z0 h;cases h;rw[Z1c h0,<-Z3a 21 6,Z5K (T:=T) (fun _ _ _ h=>Zr.rd_ok h) h1];rfl
theorem Z9.len_ok (x:Z9):(Z9.dl x).length=5:=rfl
theorem Z9.pl_ok (x:Z9):(Z9.dl x).all plain=true:=rfl
theorem Z9.seq_ok (e:Z9->Z9->Bool) (h:Z9.seq=some e) (x y:Z9):Zn (Z9.dl x) (Z9.dl y)=some (e x y):=by cases h
theorem Z9.rd_ok {cs r:List (TV S)} {x:Z9} (h:Z9.rd cs=some (x,r)):dvs T cs=Z9.dl x++dvs T r:=by
 unfold Z9.rd at h;obtain⟨⟨a0,r0⟩,h0,h⟩:=Z0 h;obtain⟨⟨a1,r1⟩,h1,h⟩:=Z0 h;cases h;rw[<-Z3a 21 6,Z5K (T:=T) (fun _ _ _ h=>Zr.rd_ok h) h0,Z1c h1];rfl
theorem Za.len_ok (x:Za):(Za.dl x).length=2:=rfl
theorem Za.pl_ok (x:Za):(Za.dl x).all plain=true:=rfl
theorem Za.seq_ok (e:Za->Za->Bool) (h:Za.seq=some e) (x y:Za):Zn (Za.dl x) (Za.dl y)=some (e x y):=by cases h
theorem Za.rd_ok {cs r:List (TV S)} {x:Za} (h:Za.rd cs=some (x,r)):dvs T cs=Za.dl x++dvs T r:=by
 unfold Za.rd at h;obtain⟨⟨a0,r0⟩,h0,h⟩:=Z0 h;obtain⟨⟨a1,r1⟩,h1,h⟩:=Z0 h;cases h;rw[Z1c h0,Z1c h1];rfl
theorem Zc.len_ok (x:Zc):(Zc.dl x).length=3:=rfl
theorem Zc.pl_ok (x:Zc):(Zc.dl x).all plain=true:=rfl
theorem Zc.seq_ok (e:Zc->Zc->Bool) (h:Zc.seq=some e) (x y:Zc):Zn (Zc.dl x) (Zc.dl y)=some (e x y):=by cases h
theorem Zc.rd_ok {cs r:List (TV S)} {x:Zc} (h:Zc.rd cs=some (x,r)):dvs T cs=Zc.dl x++dvs T r:=by
 unfold Zc.rd at h;obtain⟨⟨a0,r0⟩,h0,h⟩:=Z0 h;obtain⟨⟨a1,r1⟩,h1,h⟩:=Z0 h;cases h;rw[<-Z3a 20 6,Z5K (T:=T) (fun _ _ _ h=>CoRecord.rd_ok h) h0,Z1c h1];rfl
theorem Z6.len_ok (x:Z6):(Z6.dl x).length=2:=rfl
theorem Z6.pl_ok (x:Z6):(Z6.dl x).all plain=true:=rfl
theorem Z6.seq_ok (e:Z6->Z6->Bool) (h:Z6.seq=some e) (x y:Z6):Zn (Z6.dl x) (Z6.dl y)=some (e x y):=by
 cases h;rfl
theorem Z6.rd_ok {cs r:List (TV S)} {x:Z6} (h:Z6.rd cs=some (x,r)):dvs T cs=Z6.dl x++dvs T r:=by
 unfold Z6.rd at h;obtain⟨⟨a0,r0⟩,h0,h⟩:=Z0 h;obtain⟨⟨a1,r1⟩,h1,h⟩:=Z0 h;cases h;rw[Y7 h0,Y7 h1];rfl
theorem Z8.len_ok (x:Z8):(Z8.dl x).length=3:=rfl
theorem Z8.pl_ok (x:Z8):(Z8.dl x).all plain=true:=rfl
theorem Z8.seq_ok (e:Z8->Z8->Bool) (h:Z8.seq=some e) (x y:Z8):Zn (Z8.dl x) (Z8.dl y)=some (e x y):=by cases h
theorem Z8.rd_ok {cs r:List (TV S)} {x:Z8} (h:Z8.rd cs=some (x,r)):dvs T cs=Z8.dl x++dvs T r:=by
 unfold Z8.rd at h;obtain⟨⟨a0,r0⟩,h0,h⟩:=Z0 h;obtain⟨⟨a1,r1⟩,h1,h⟩:=Z0 h;obtain⟨⟨a2,r2⟩,h2,h⟩:=Z0 h;cases h;rw[Z1c h0,Z1c h1,Z1c h2];rfl
theorem Zb.len_ok (x:Zb):(Zb.dl x).length=2:=rfl
theorem Zb.pl_ok (x:Zb):(Zb.dl x).all plain=true:=rfl
theorem Zb.seq_ok (e:Zb->Zb->Bool) (h:Zb.seq=some e) (x y:Zb):Zn (Zb.dl x) (Zb.dl y)=some (e x y):=by
 cases h;rfl
theorem Zb.rd_ok {cs r:List (TV S)} {x:Zb} (h:Zb.rd cs=some (x,r)):dvs T cs=Zb.dl x++dvs T r:=by
 unfold Zb.rd at h;obtain⟨⟨a0,r0⟩,h0,h⟩:=Z0 h;obtain⟨⟨a1,r1⟩,h1,h⟩:=Z0 h;cases h;rw[Y7 h0,Y7 h1];rfl
theorem Z2.len_ok (x:Z2):(Z2.dl x).length=2:=rfl
theorem Z2.pl_ok (x:Z2):(Z2.dl x).all plain=true:=rfl
theorem Z2.seq_ok (e:Z2->Z2->Bool) (h:Z2.seq=some e) (x y:Z2):Zn (Z2.dl x) (Z2.dl y)=some (e x y):=by
 cases h;rfl
theorem Z2.rd_ok {cs r:List (TV S)} {x:Z2} (h:Z2.rd cs=some (x,r)):dvs T cs=Z2.dl x++dvs T r:=by
 unfold Z2.rd at h;obtain⟨⟨a0,r0⟩,h0,h⟩:=Z0 h;obtain⟨⟨a1,r1⟩,h1,h⟩:=Z0 h;cases h;rw[Y7 h0,Y7 h1];rfl
theorem Z5.len_ok (x:Z5):(Z5.dl x).length=1:=rfl
theorem Z5.pl_ok (x:Z5):(Z5.dl x).all plain=true:=rfl
theorem Z5.seq_ok (e:Z5->Z5->Bool) (h:Z5.seq=some e) (x y:Z5):Zn (Z5.dl x) (Z5.dl y)=some (e x y):=by
 cases h;rfl
theorem Z5.rd_ok {cs r:List (TV S)} {x:Z5} (h:Z5.rd cs=some (x,r)):dvs T cs=Z5.dl x++dvs T r:=by
 unfold Z5.rd at h;obtain⟨⟨a0,r0⟩,h0,h⟩:=Z0 h;cases h;rw[Z80 h0];rfl
theorem tok:TOk T where
 cells:=fun i=>match i with
  | 0=>Z4.cl_ok
  | 1=>Z1.cl_ok
  | 2=>fun _=>rfl
  | 3=>fun _=>rfl
  | 4=>fun _=>rfl
  | 5=>Y2.cl_ok
  | 6=>fun _=>rfl
  | 7=>fun _=>rfl
  | 8=>fun _=>rfl
  | 9=>fun _=>rfl
  | 10=>fun _=>rfl
  | 11=>fun _=>rfl
  | 12=>fun _=>rfl
  | 13=>fun _=>rfl
  | 14=>fun _=>rfl
  | 15=>fun _=>rfl
  | 16=>fun _=>rfl
  | 17=>fun _=>rfl
  | 18=>Zm.cl_ok
  | 19=>Zq.cl_ok
  | 20=>CoRecord.cl_ok
  | 21=>Zr.cl_ok
  | 22=>Z7.cl_ok
  | 23=>Z9.cl_ok
  | 24=>Za.cl_ok
  | 25=>Zc.cl_ok
  | 26=>Z6.cl_ok
  | 27=>Z8.cl_ok
  | 28=>Zb.cl_ok
  | 29=>Z2.cl_ok
  | 30=>Z5.cl_ok
  | _+31=>fun _=>rfl
 len:=fun i=>match i with
  | 0=>Z4.len_ok
  | 1=>Z1.len_ok
  | 2=>fun _=>rfl
  | 3=>fun _=>rfl
  | 4=>fun _=>rfl
  | 5=>Y2.len_ok
  | 6=>fun _=>rfl
  | 7=>fun _=>rfl
  | 8=>fun _=>rfl
  | 9=>fun _=>rfl
  | 10=>fun _=>rfl
  | 11=>fun _=>rfl
  | 12=>fun _=>rfl
  | 13=>fun _=>rfl
  | 14=>fun _=>rfl
  | 15=>fun _=>rfl
  | 16=>fun _=>rfl
  | 17=>fun _=>rfl
  | 18=>Zm.len_ok
  | 19=>Zq.len_ok
  | 20=>CoRecord.len_ok
  | 21=>Zr.len_ok
  | 22=>Z7.len_ok
  | 23=>Z9.len_ok
  | 24=>Za.len_ok
  | 25=>Zc.len_ok
  | 26=>Z6.len_ok
  | 27=>Z8.len_ok
  | 28=>Zb.len_ok
  | 29=>Z2.len_ok
  | 30=>Z5.len_ok
  | _+31=>fun _=>rfl
 rd:=fun i=>match i with
  | 0=>fun _ _ _ h=>Z4.rd_ok h
  | 1=>fun _ _ _ h=>Z1.rd_ok h
  | 2=>fun _ _ _ h=>by cases h;rfl
  | 3=>fun _ _ _ h=>by cases h;rfl
  | 4=>fun _ _ _ h=>by cases h;rfl
  | 5=>fun _ _ _ h=>Y2.rd_ok h
  | 6=>fun _ _ _ h=>by cases h;rfl
  | 7=>fun _ _ _ h=>by cases h;rfl
  | 8=>fun _ _ _ h=>by cases h;rfl
  | 9=>fun _ _ _ h=>by cases h;rfl
  | 10=>fun _ _ _ h=>by cases h;rfl
  | 11=>fun _ _ _ h=>by cases h;rfl
  | 12=>fun _ _ _ h=>by cases h;rfl
  | 13=>fun _ _ _ h=>by cases h;rfl
  | 14=>fun _ _ _ h=>by cases h;rfl
  | 15=>fun _ _ _ h=>by cases h;rfl
  | 16=>fun _ _ _ h=>by cases h;rfl
  | 17=>fun _ _ _ h=>by cases h;rfl
  | 18=>fun _ _ _ h=>Zm.rd_ok h
  | 19=>fun _ _ _ h=>Zq.rd_ok h
  | 20=>fun _ _ _ h=>CoRecord.rd_ok h
  | 21=>fun _ _ _ h=>Zr.rd_ok h
  | 22=>fun _ _ _ h=>Z7.rd_ok h
  | 23=>fun _ _ _ h=>Z9.rd_ok h
  | 24=>fun _ _ _ h=>Za.rd_ok h
  | 25=>fun _ _ _ h=>Zc.rd_ok h
  | 26=>fun _ _ _ h=>Z6.rd_ok h
  | 27=>fun _ _ _ h=>Z8.rd_ok h
  | 28=>fun _ _ _ h=>Zb.rd_ok h
  | 29=>fun _ _ _ h=>Z2.rd_ok h
  | 30=>fun _ _ _ h=>Z5.rd_ok h
  | _+31=>fun _ _ _ h=>by cases h;rfl
 plain:=fun i=>match i with
  | 0=>Z4.pl_ok
  | 1=>Z1.pl_ok
  | 2=>fun _=>rfl
  | 3=>fun _=>rfl
  | 4=>fun _=>rfl
  | 5=>Y2.pl_ok
  | 6=>fun _=>rfl
  | 7=>fun _=>rfl
  | 8=>fun _=>rfl
  | 9=>fun _=>rfl
  | 10=>fun _=>rfl
  | 11=>fun _=>rfl
  | 12=>fun _=>rfl
  | 13=>fun _=>rfl
  | 14=>fun _=>rfl
  | 15=>fun _=>rfl
  | 16=>fun _=>rfl
  | 17=>fun _=>rfl
  | 18=>Zm.pl_ok
  | 19=>Zq.pl_ok
  | 20=>CoRecord.pl_ok
  | 21=>Zr.pl_ok
  | 22=>Z7.pl_ok
  | 23=>Z9.pl_ok
  | 24=>Za.pl_ok
  | 25=>Zc.pl_ok
  | 26=>Z6.pl_ok
  | 27=>Z8.pl_ok
  | 28=>Zb.pl_ok
  | 29=>Z2.pl_ok
  | 30=>Z5.pl_ok
  | _+31=>fun _=>rfl
 seq:=fun i=>match i with
  | 0=>fun e h x y=>Z4.seq_ok e h x y
  | 1=>fun e h x y=>Z1.seq_ok e h x y
  | 2=>fun _ h=>by cases h
  | 3=>fun _ h=>by cases h
  | 4=>fun _ h=>by cases h
  | 5=>fun e h x y=>Y2.seq_ok e h x y
  | 6=>fun _ h=>by cases h
  | 7=>fun _ h=>by cases h
  | 8=>fun _ h=>by cases h
  | 9=>fun _ h=>by cases h
  | 10=>fun _ h=>by cases h
  | 11=>fun _ h=>by cases h
  | 12=>fun _ h=>by cases h
  | 13=>fun _ h=>by cases h
  | 14=>fun _ h=>by cases h
  | 15=>fun _ h=>by cases h
  | 16=>fun _ h=>by cases h
  | 17=>fun _ h=>by cases h
  | 18=>fun e h x y=>Zm.seq_ok e h x y
  | 19=>fun e h x y=>Zq.seq_ok e h x y
  | 20=>fun e h x y=>CoRecord.seq_ok e h x y
  | 21=>fun e h x y=>Zr.seq_ok e h x y
  | 22=>fun e h x y=>Z7.seq_ok e h x y
  | 23=>fun e h x y=>Z9.seq_ok e h x y
  | 24=>fun e h x y=>Za.seq_ok e h x y
  | 25=>fun e h x y=>Zc.seq_ok e h x y
  | 26=>fun e h x y=>Z6.seq_ok e h x y
  | 27=>fun e h x y=>Z8.seq_ok e h x y
  | 28=>fun e h x y=>Zb.seq_ok e h x y
  | 29=>fun e h x y=>Z2.seq_ok e h x y
  | 30=>fun e h x y=>Z5.seq_ok e h x y
  | _+31=>fun _ h=>by cases h
end Nore
namespace Go.Proofs.YtlgmncmjacjgmaaGreatDoor
open Go.Ab Go.Proofs
def codeL:List (Nat×Ty):=[(2,(.int .i64)),(3,(.int .i64)),(4,.bool),(5,(.int .u8)),(6,(.int .u8)),(8,(.st 0)),(9,.str),(10,.str),(11,.str),(12,(.int .u64)),(14,(.st 1)),(21,(.int .i32)),(22,(.sl (.st 18))),(23,(.sl (.st 19))),(25,(.st 20)),(26,(.sl (.st 21))),(28,(.st 5)),(30,(.st 21)),(31,(.int .i64)),(34,(.sl (.int .i64))),(42,(.st 22)),(43,(.sl (.int .u8))),(45,(.st 23)),(49,(.st 19)),(52,(.sl (.int .u16))),(54,(.sl (.st 5))),(60,(.st 24)),(61,(.int .u16)),(62,(.arr 3 (.int .u16))),(69,(.st 18)),(73,(.arr 4 (.int .u16))),(78,(.st 25)),(89,(.sl (.sl (.int .i64)))),(103,(.arr 10 (.st 5))),(104,(.arr 10 (.st 5))),(116,(.sl (.st 27))),(118,(.sl (.st 26))),(120,(.st 27)),(126,(.sl .str)),(143,(.sl (.st 28))),(150,(.st 28)),(163,(.st 26)),(185,(.int .u64)),(199,(.int .i64)),(208,(.int .u32)),(210,(.int .u64)),(217,(.int .i64)),(223,(.arr 24 (.int .u8))),(227,(.int .u64)),(241,(.arr 20 (.int .u64))),(242,(.arr 65 (.int .u8))),(246,(.arr 256 (.int .u8))),(248,(.st 29)),(249,(.arr 16 (.st 29))),(255,(.st 30)),(256,(.arr 32 (.int .u8))),(257,(.arr 64 (.int .u8))),(264,(.int .u8)),(265,(.int .u8)),(267,(.int .i32)),(268,(.int .i32))]
def zeroL:List (Nat×List (TV Nore.S)):=[(1,[.nilfn]),(2,[.int .i64 (0)]),(3,[.int .i64 (0)]),(4,[.bool false]),(5,[.int .u8 (0)]),(6,[.int .u8 (0)]),(7,[.int .i64 (0),.int .i64 (0),.bool false,.int .u8 (0)]),(8,[.int .i64 (0),.int .i64 (0),.bool false,.int .u8 (0)]),(9,[.str ByteArray.empty]),(10,[.str ByteArray.empty]),(11,[.str ByteArray.empty]),(12,[.int .u64 (0)]),(13,[.str ByteArray.empty,.int .u64 (0)]),(14,[.str ByteArray.empty,.int .u64 (0)]),(15,[.nilp]),(16,[.nilp]),(17,[.nilp]),(18,[.nilp]),(19,[.nilp]),(20,[.nilif]),(21,[.int .i32 (0)]),(22,[.nils]),(23,[.nils]),(24,[.nils,.nils]),(25,[.nils,.nils]),(26,[.nils]),(27,[.int .i64 (0),.int .i64 (0)]),(28,[.int .i64 (0),.int .i64 (0)]),(29,[.int .i64 (0),.int .i64 (0),.int .i64 (0),.int .i64 (0)]),(30,[.int .i64 (0),.int .i64 (0),.int .i64 (0),.int .i64 (0)]),(31,[.int .i64 (0)]),(33,[.nilfn]),(34,[.nils]),(36,[.nilfn]),(37,[.nilfn]),(38,[.nilfn]),(39,[.nilfn]),(40,[.nilfn]),(41,[.nils,.int .i64 (0),.int .i64 (0),.int .i64 (0),.int .i64 (0)]),(42,[.nils,.int .i64 (0),.int .i64 (0),.int .i64 (0),.int .i64 (0)]),(43,[.nils]),(44,[.int .i64 (0),.int .i64 (0),.int .i64 (0),.int .i64 (0),.nils]),(45,[.int .i64 (0),.int .i64 (0),.int .i64 (0),.int .i64 (0),.nils]),(46,[.nilfn]),(47,[.nilfn]),(48,[.nilfn]),(49,[.int .i64 (0),.int .i64 (0),.int .i64 (0),.int .i64 (0)]),(50,[.nilfn]),(51,[.nilfn]),(52,[.nils]),(53,[.nilfn]),(54,[.nils]),(56,[.nilfn]),(57,[.nilfn]),(58,[.nilfn]),(59,[.nils,.nils]),(60,[.nils,.nils]),(61,[.int .u16 (0)]),(62,[.arr (.int .u16) 3 (fun _=>(0:Int))]),(63,[.nilfn]),(65,[.nilfn]),(66,[.nilfn]),(67,[.nilfn]),(68,[.str ByteArray.empty,.int .i64 (0),.int .i64 (0)]),(69,[.str ByteArray.empty,.int .i64 (0),.int .i64 (0)]),(70,[.nilfn]),(71,[.nilfn]),(72,[.nilfn]),(73,[.arr (.int .u16) 4 (fun _=>(0:Int))]),(74,[.nilfn]),(75,[.nilfn]),(76,[.nilfn]),(77,[.nils,.nils,.nils]),(78,[.nils,.nils,.nils]),(80,[.nilfn]),(81,[.nilfn]),(82,[.nilfn]),(83,[.nilfn]),(84,[.nilfn]),(85,[.nilfn]),(86,[.nilfn]),(87,[.nilfn]),(88,[.nilfn]),(89,[.nils]),(90,[.nilfn]),(91,[.nilfn]),(92,[.nilfn]),(93,[.nilfn]),(94,[.nilfn]),(96,[.nilfn]),(98,[.nilfn]),(99,[.nilfn]),(100,[.nilfn]),(101,[.nilfn]),(102,[.nilfn]),(103,[.arr (.st 5) 10 (fun _=>⟨(0:Int),(0:Int)⟩)]),(104,[.arr (.st 5) 10 (fun _=>⟨(0:Int),(0:Int)⟩)]),(105,[.nilfn]),(106,[.nilfn]),(107,[.nilfn]),(108,[.nilfn]),(110,[.nilfn]),(111,[.nilfn]),(112,[.nilfn]),(113,[.nilfn]),(114,[.nilfn]),(115,[.nilfn]),(116,[.nils]),(117,[.nilfn]),(118,[.nils]),(119,[.nils,.nils,.nils]),(120,[.nils,.nils,.nils]),(121,[.nilfn]),(122,[.nilfn]),(123,[.nilfn]),(124,[.nilfn]),(125,[.nilfn]),(126,[.nils]),(127,[.nilfn]),(128,[.nilfn]),(129,[.nilfn]),(130,[.nilfn]),(132,[.nilfn]),(133,[.nilfn]),(134,[.nilfn]),(135,[.nilfn]),(136,[.nilfn]),(137,[.nilfn]),(138,[.nilmap]),(139,[.nilfn]),(140,[.nilfn]),(141,[.nilfn]),(142,[.nilfn]),(143,[.nils]),(145,[.nilfn]),(146,[.nilfn]),(147,[.nilfn]),(148,[.nilfn]),(149,[.int .i64 (0),.int .i64 (0)]),(150,[.int .i64 (0),.int .i64 (0)]),(151,[.nilfn]),(152,[.nilfn]),(153,[.nilfn]),(154,[.nilfn]),(155,[.nilfn]),(156,[.nilfn]),(157,[.nilfn]),(159,[.nilfn]),(160,[.nilfn]),(161,[.nilfn]),(162,[.int .i64 (0),.int .i64 (0)]),(163,[.int .i64 (0),.int .i64 (0)]),(164,[.nilfn]),(165,[.nilfn]),(166,[.nilfn]),(167,[.nilfn]),(168,[.nilfn]),(169,[.nilfn]),(170,[.nilfn]),(171,[.nilp]),(172,[.nilp,.nils]),(173,[.nilp,.nils]),(174,[.nilif]),(175,[.nilif]),(177,[.nilfn]),(178,[.nilfn]),(179,[.nilfn]),(180,[.nilfn]),(181,[.nilfn]),(182,[.nilfn]),(183,[.nilfn]),(184,[.nilfn]),(185,[.int .u64 (0)]),(186,[.nilfn]),(187,[.nilfn]),(188,[.nilfn]),(189,[.nilfn]),(190,[.nilfn]),(191,[.nilfn]),(192,[.nilp]),(193,[.nilfn]),(194,[.nilfn]),(195,[.nilfn]),(196,[.nilfn]),(197,[.nilfn]),(198,[.nilfn]),(199,[.int .i64 (0)]),(201,[.nilfn]),(202,[.nilfn]),(203,[.nilfn]),(204,[.nilfn]),(206,[.nilfn]),(207,[.nilfn]),(208,[.int .u32 (0)]),(209,[.nilfn]),(210,[.int .u64 (0)]),(211,[.nilfn]),(212,[.nilp]),(213,[.nilfn]),(214,[.nilfn]),(216,[.nilfn]),(217,[.int .i64 (0)]),(219,[.nilfn]),(220,[.nilp]),(221,[.nilfn]),(222,[.nilfn]),(223,[.arr (.int .u8) 24 (fun _=>(0:Int))]),(224,[.nilfn]),(226,[.nilfn]),(227,[.int .u64 (0)]),(228,[.nilfn]),(229,[.nilfn]),(230,[.nilfn]),(231,[.nilp]),(232,[.nilfn]),(233,[.nilfn]),(235,[.nilfn]),(236,[.nilfn]),(237,[.str ByteArray.empty,.str ByteArray.empty,.nilif]),(238,[.str ByteArray.empty,.str ByteArray.empty,.nilif]),(239,[.nilfn]),(240,[.nilfn]),(241,[.arr (.int .u64) 20 (fun _=>(0:Int))]),(242,[.arr (.int .u8) 65 (fun _=>(0:Int))]),(243,[.nilp]),(245,[.nilfn]),(246,[.arr (.int .u8) 256 (fun _=>(0:Int))]),(247,[.int .u8 (0),.int .u8 (0)]),(248,[.int .u8 (0),.int .u8 (0)]),(249,[.arr (.st 29) 16 (fun _=>⟨(0:Int),(0:Int)⟩)]),(251,[.nilfn]),(252,[.nilfn]),(253,[.nilp]),(254,[.str ByteArray.empty]),(255,[.str ByteArray.empty]),(256,[.arr (.int .u8) 32 (fun _=>(0:Int))]),(257,[.arr (.int .u8) 64 (fun _=>(0:Int))]),(258,[.nilp,.nilp,.nilp,.str ByteArray.empty]),(259,[.nilp,.nilp,.nilp,.str ByteArray.empty]),(260,[]),(261,[]),(262,[]),(263,[.nilfn]),(264,[.int .u8 (0)]),(265,[.int .u8 (0)]),(266,[.nilfn]),(267,[.int .i32 (0)]),(268,[.int .i32 (0)]),(269,[.int .u64 (0),.int .u64 (0),.int .u32 (0),.int .u8 (0),.int .u8 (0),.int .u8 (0),.int .u8 (0),.nilfn,.nilp,.int .i32 (0),.int .i32 (0)]),(270,[.int .u64 (0),.int .u64 (0),.int .u32 (0),.int .u8 (0),.int .u8 (0),.int .u8 (0),.int .u8 (0),.nilfn,.nilp,.int .i32 (0),.int .i32 (0)])]
def codeT:Tr Ty:=Tr.ofList codeL
def zeroT:Tr (List (TV Nore.S)):=Tr.ofList zeroL
noncomputable def X:Yf Nore.S:=⟨E,Nore.T,codeT.get,zeroT.get⟩
theorem codeAll:Zek (fun t c=>Zfw Nore.T (tyT.get t) c) codeT=true:=by kernel_rfl
theorem zeroAll:Zek (fun t z=>Zil Nore.T (tyT.get t) z) zeroT=true:=by kernel_rfl
theorem zeroLaw (t:Nat) (z:List (TV Nore.S)) (ti:TI) (h1:zeroT.get t=some z) (h2:tyT.get t=some ti):dvs Nore.T z=ti.zero:=Zim (Z6D (p:=fun t z=>Zil Nore.T (tyT.get t) z) zeroAll h1) h2
theorem codeLaw (t:Nat) (c:Ty) (ti:TI) (h1:codeT.get t=some c) (h2:tyT.get t=some ti):ti.size=tsz Nore.T c/\ti.isAgg=YY c:=Zhi (Z6D (p:=fun t c=>Zfw Nore.T (tyT.get t) c) codeAll h1) h2
set_option maxRecDepth 100000 in
theorem xok:XOk X:=XOk.mk Nore.tok zeroLaw codeLaw
end Go.Proofs.YtlgmncmjacjgmaaGreatDoor
open Go Go.Ab
namespace Nore
def Z4.Ok (lim:Ty->Nat) (x:Z4):Prop:=((Lit.int .i64 x.x).wf=true)/\((Lit.int .i64 x.y).wf=true)/\True/\((Lit.int .u8 x.code).wf=true)/\True
def Z1.Ok (lim:Ty->Nat) (x:Z1):Prop:=(x.msg.size<=maxLen)/\((Lit.int .u64 x.addr).wf=true)/\True
def Zm.Ok (lim:Ty->Nat) (x:Zm):Prop:=(x.Name.size<=maxLen)/\((Lit.int .i64 x.States).wf=true)/\((Lit.int .i64 x.First).wf=true)/\True
def Y2.Ok (lim:Ty->Nat) (x:Y2):Prop:=((Lit.int .i64 x.Lo).wf=true)/\((Lit.int .i64 x.Hi).wf=true)/\True
def Zq.Ok (lim:Ty->Nat) (x:Zq):Prop:=((Lit.int .i64 x.Device).wf=true)/\((Lit.int .i64 x.State).wf=true)/\(Y2.Ok lim x.At)/\True
def CoRecord.Ok (lim:Ty->Nat) (x:CoRecord):Prop:=(x.Devices.length<=lim (.st 18)/\∀y0,List.Mem y0 x.Devices->(Zm.Ok lim y0))/\(x.Entries.length<=lim (.st 19)/\∀y0,List.Mem y0 x.Entries->(Zq.Ok lim y0))/\True
def Zr.Ok (lim:Ty->Nat) (x:Zr):Prop:=((Lit.int .i64 x.Device).wf=true)/\((Lit.int .i64 x.State).wf=true)/\(Y2.Ok lim x.At)/\True
def Z7.Ok (lim:Ty->Nat) (x:Z7):Prop:=(x.Seen.length<=lim (.st 21)/\∀y0,List.Mem y0 x.Seen->(Zr.Ok lim y0))/\(Zr.Ok lim x.Ask)/\True
def Z9.Ok (lim:Ty->Nat) (x:Z9):Prop:=(Zr.Ok lim x.Seen)/\(x.Narrower.length<=lim (.int .u8)/\∀y0,List.Mem y0 x.Narrower->((Lit.int .u8 y0).wf=true))/\True
def Za.Ok (lim:Ty->Nat) (x:Za):Prop:=(x.Minutes.length<=lim (.int .u16)/\∀y0,List.Mem y0 x.Minutes->((Lit.int .u16 y0).wf=true))/\(x.Taken.length<=lim (.int .u16)/\∀y0,List.Mem y0 x.Taken->((Lit.int .u16 y0).wf=true))/\True
def Zc.Ok (lim:Ty->Nat) (x:Zc):Prop:=(CoRecord.Ok lim x.CoRecord)/\(x.seen.length<=lim (.st 21)/\∀y0,List.Mem y0 x.seen->(Zr.Ok lim y0))/\True
def Z6.Ok (lim:Ty->Nat) (x:Z6):Prop:=((Lit.int .i64 x.from_).wf=true)/\((Lit.int .i64 x.to_).wf=true)/\True
def Z8.Ok (lim:Ty->Nat) (x:Z8):Prop:=(x.lo.length<=lim (.int .i64)/\∀y0,List.Mem y0 x.lo->((Lit.int .i64 y0).wf=true))/\(x.hi.length<=lim (.int .i64)/\∀y0,List.Mem y0 x.hi->((Lit.int .i64 y0).wf=true))/\(x.later.length<=lim (.st 26)/\∀y0,List.Mem y0 x.later->(Z6.Ok lim y0))/\True
def Zb.Ok (lim:Ty->Nat) (x:Zb):Prop:=((Lit.int .i64 x.from_).wf=true)/\((Lit.int .i64 x.to_).wf=true)/\True
def Z2.Ok (lim:Ty->Nat) (x:Z2):Prop:=((Lit.int .u8 x.lo).wf=true)/\((Lit.int .u8 x.hi).wf=true)/\True
def Z5.Ok (lim:Ty->Nat) (x:Z5):Prop:=(x.s.size<=maxLen)/\True
def sOk (lim:Ty->Nat) (i:Nat):S i->Prop:=match i with
 | 0=>Z4.Ok lim
 | 1=>Z1.Ok lim
 | 5=>Y2.Ok lim
 | 18=>Zm.Ok lim
 | 19=>Zq.Ok lim
 | 20=>CoRecord.Ok lim
 | 21=>Zr.Ok lim
 | 22=>Z7.Ok lim
 | 23=>Z9.Ok lim
 | 24=>Za.Ok lim
 | 25=>Zc.Ok lim
 | 26=>Z6.Ok lim
 | 27=>Z8.Ok lim
 | 28=>Zb.Ok lim
 | 29=>Z2.Ok lim
 | 30=>Z5.Ok lim
 | 2=>fun _=>True
 | 3=>fun _=>True
 | 4=>fun _=>True
 | 6=>fun _=>True
 | 7=>fun _=>True
 | 8=>fun _=>True
 | 9=>fun _=>True
 | 10=>fun _=>True
 | 11=>fun _=>True
 | 12=>fun _=>True
 | 13=>fun _=>True
 | 14=>fun _=>True
 | 15=>fun _=>True
 | 16=>fun _=>True
 | 17=>fun _=>True
 | _+31=>fun _=>True
def flds (i:Nat):List Ty:=match i with
 | 0=>[(.int .i64),(.int .i64),.bool,(.int .u8)]
 | 1=>[.str,(.int .u64)]
 | 5=>[(.int .i64),(.int .i64)]
 | 18=>[.str,(.int .i64),(.int .i64)]
 | 19=>[(.int .i64),(.int .i64),(.st 5)]
 | 20=>[(.sl (.st 18)),(.sl (.st 19))]
 | 21=>[(.int .i64),(.int .i64),(.st 5)]
 | 22=>[(.sl (.st 21)),(.st 21)]
 | 23=>[(.st 21),(.sl (.int .u8))]
 | 24=>[(.sl (.int .u16)),(.sl (.int .u16))]
 | 25=>[(.st 20),(.sl (.st 21))]
 | 26=>[(.int .i64),(.int .i64)]
 | 27=>[(.sl (.int .i64)),(.sl (.int .i64)),(.sl (.st 26))]
 | 28=>[(.int .i64),(.int .i64)]
 | 29=>[(.int .u8),(.int .u8)]
 | 30=>[.str]
 | 2=>[]
 | 3=>[]
 | 4=>[]
 | 6=>[]
 | 7=>[]
 | 8=>[]
 | 9=>[]
 | 10=>[]
 | 11=>[]
 | 12=>[]
 | 13=>[]
 | 14=>[]
 | 15=>[]
 | 16=>[]
 | 17=>[]
 | _+31=>[]
def smk (i:Nat):Z4T S (flds i)->S i:=match i with
 | 0=>fun xs=>(⟨xs.1,xs.2.1,xs.2.2.1,xs.2.2.2.1⟩:Z4)
 | 1=>fun xs=>(⟨xs.1,xs.2.1⟩:Z1)
 | 5=>fun xs=>(⟨xs.1,xs.2.1⟩:Y2)
 | 18=>fun xs=>(⟨xs.1,xs.2.1,xs.2.2.1⟩:Zm)
 | 19=>fun xs=>(⟨xs.1,xs.2.1,xs.2.2.1⟩:Zq)
 | 20=>fun xs=>(⟨xs.1,xs.2.1⟩:CoRecord)
 | 21=>fun xs=>(⟨xs.1,xs.2.1,xs.2.2.1⟩:Zr)
 | 22=>fun xs=>(⟨xs.1,xs.2.1⟩:Z7)
 | 23=>fun xs=>(⟨xs.1,xs.2.1⟩:Z9)
 | 24=>fun xs=>(⟨xs.1,xs.2.1⟩:Za)
 | 25=>fun xs=>(⟨xs.1,xs.2.1⟩:Zc)
 | 26=>fun xs=>(⟨xs.1,xs.2.1⟩:Z6)
 | 27=>fun xs=>(⟨xs.1,xs.2.1,xs.2.2.1⟩:Z8)
 | 28=>fun xs=>(⟨xs.1,xs.2.1⟩:Zb)
 | 29=>fun xs=>(⟨xs.1,xs.2.1⟩:Z2)
 | 30=>fun xs=>(⟨xs.1⟩:Z5)
 | 2=>fun _=>T.dflt _
 | 3=>fun _=>T.dflt _
 | 4=>fun _=>T.dflt _
 | 6=>fun _=>T.dflt _
 | 7=>fun _=>T.dflt _
 | 8=>fun _=>T.dflt _
 | 9=>fun _=>T.dflt _
 | 10=>fun _=>T.dflt _
 | 11=>fun _=>T.dflt _
 | 12=>fun _=>T.dflt _
 | 13=>fun _=>T.dflt _
 | 14=>fun _=>T.dflt _
 | 15=>fun _=>T.dflt _
 | 16=>fun _=>T.dflt _
 | 17=>fun _=>T.dflt _
 | _+31=>fun _=>T.dflt _
theorem ZjL (i:Nat):∀xs,T.dcells i (smk i xs)=Z16 T (flds i) xs:=match i with
 | 0=>fun xs=>by
  show Z4.dl _=_;unfold Z4.dl
  first|(simp only[flds,Z16,smk,dcl,List.append_assoc,List.append_nil];done)|(simp only[flds,Z16,smk,dcl,List.append_assoc,List.append_nil];rfl)
 | 1=>fun xs=>by
  show Z1.dl _=_;unfold Z1.dl
  first|(simp only[flds,Z16,smk,dcl,List.append_assoc,List.append_nil];done)|(simp only[flds,Z16,smk,dcl,List.append_assoc,List.append_nil];rfl)
 | 5=>fun xs=>by
  show Y2.dl _=_;unfold Y2.dl
  first|(simp only[flds,Z16,smk,dcl,List.append_assoc,List.append_nil];done)|(simp only[flds,Z16,smk,dcl,List.append_assoc,List.append_nil];rfl)
 | 18=>fun xs=>by
  show Zm.dl _=_;unfold Zm.dl
  first|(simp only[flds,Z16,smk,dcl,List.append_assoc,List.append_nil];done)|(simp only[flds,Z16,smk,dcl,List.append_assoc,List.append_nil];rfl)
 | 19=>fun xs=>by
  show Zq.dl _=_;unfold Zq.dl
  first|(simp only[flds,Z16,smk,dcl,List.append_assoc,List.append_nil];done)|(simp only[flds,Z16,smk,dcl,List.append_assoc,List.append_nil];rfl)
 | 20=>fun xs=>by
  show CoRecord.dl _=_;unfold CoRecord.dl
  first|(simp only[flds,Z16,smk,dcl,List.append_assoc,List.append_nil];done)|(simp only[flds,Z16,smk,dcl,List.append_assoc,List.append_nil];rfl)
 | 21=>fun xs=>by
  show Zr.dl _=_;unfold Zr.dl
  first|(simp only[flds,Z16,smk,dcl,List.append_assoc,List.append_nil];done)|(simp only[flds,Z16,smk,dcl,List.append_assoc,List.append_nil];rfl)
 | 22=>fun xs=>by
  show Z7.dl _=_;unfold Z7.dl
  first|(simp only[flds,Z16,smk,dcl,List.append_assoc,List.append_nil];done)|(simp only[flds,Z16,smk,dcl,List.append_assoc,List.append_nil];rfl)
 | 23=>fun xs=>by
  show Z9.dl _=_;unfold Z9.dl
  first|(simp only[flds,Z16,smk,dcl,List.append_assoc,List.append_nil];done)|(simp only[flds,Z16,smk,dcl,List.append_assoc,List.append_nil];rfl)
 | 24=>fun xs=>by
  show Za.dl _=_;unfold Za.dl
  first|(simp only[flds,Z16,smk,dcl,List.append_assoc,List.append_nil];done)|(simp only[flds,Z16,smk,dcl,List.append_assoc,List.append_nil];rfl)
 | 25=>fun xs=>by
  show Zc.dl _=_;unfold Zc.dl
  first|(simp only[flds,Z16,smk,dcl,List.append_assoc,List.append_nil];done)|(simp only[flds,Z16,smk,dcl,List.append_assoc,List.append_nil];rfl)
 | 26=>fun xs=>by
  show Z6.dl _=_;unfold Z6.dl
  first|(simp only[flds,Z16,smk,dcl,List.append_assoc,List.append_nil];done)|(simp only[flds,Z16,smk,dcl,List.append_assoc,List.append_nil];rfl)
 | 27=>fun xs=>by
  show Z8.dl _=_;unfold Z8.dl
  first|(simp only[flds,Z16,smk,dcl,List.append_assoc,List.append_nil];done)|(simp only[flds,Z16,smk,dcl,List.append_assoc,List.append_nil];rfl)
 | 28=>fun xs=>by
  show Zb.dl _=_;unfold Zb.dl
  first|(simp only[flds,Z16,smk,dcl,List.append_assoc,List.append_nil];done)|(simp only[flds,Z16,smk,dcl,List.append_assoc,List.append_nil];rfl)
 | 29=>fun xs=>by
  show Z2.dl _=_;unfold Z2.dl
  first|(simp only[flds,Z16,smk,dcl,List.append_assoc,List.append_nil];done)|(simp only[flds,Z16,smk,dcl,List.append_assoc,List.append_nil];rfl)
 | 30=>fun xs=>by
  show Z5.dl _=_;unfold Z5.dl
  first|(simp only[flds,Z16,smk,dcl,List.append_assoc,List.append_nil];done)|(simp only[flds,Z16,smk,dcl,List.append_assoc,List.append_nil];rfl)
 | 2=>fun _=>rfl
 | 3=>fun _=>rfl
 | 4=>fun _=>rfl
 | 6=>fun _=>rfl
 | 7=>fun _=>rfl
 | 8=>fun _=>rfl
 | 9=>fun _=>rfl
 | 10=>fun _=>rfl
 | 11=>fun _=>rfl
 | 12=>fun _=>rfl
 | 13=>fun _=>rfl
 | 14=>fun _=>rfl
 | 15=>fun _=>rfl
 | 16=>fun _=>rfl
 | 17=>fun _=>rfl
 | _+31=>fun _=>rfl
theorem ZjM (lim:Ty->Nat) (i:Nat):∀xs,aok lim (sOk lim) (flds i) xs->sOk lim i (smk i xs):=match i with
 | 0=>fun _ h=>h
 | 1=>fun _ h=>h
 | 5=>fun _ h=>h
 | 18=>fun _ h=>h
 | 19=>fun _ h=>h
 | 20=>fun _ h=>h
 | 21=>fun _ h=>h
 | 22=>fun _ h=>h
 | 23=>fun _ h=>h
 | 24=>fun _ h=>h
 | 25=>fun _ h=>h
 | 26=>fun _ h=>h
 | 27=>fun _ h=>h
 | 28=>fun _ h=>h
 | 29=>fun _ h=>h
 | 30=>fun _ h=>h
 | 2=>fun _ _=>trivial
 | 3=>fun _ _=>trivial
 | 4=>fun _ _=>trivial
 | 6=>fun _ _=>trivial
 | 7=>fun _ _=>trivial
 | 8=>fun _ _=>trivial
 | 9=>fun _ _=>trivial
 | 10=>fun _ _=>trivial
 | 11=>fun _ _=>trivial
 | 12=>fun _ _=>trivial
 | 13=>fun _ _=>trivial
 | 14=>fun _ _=>trivial
 | 15=>fun _ _=>trivial
 | 16=>fun _ _=>trivial
 | 17=>fun _ _=>trivial
 | _+31=>fun _ _=>trivial
def F:SF T:=⟨flds,smk,sOk,ZjL,ZjM⟩
end Nore
namespace Go.Proofs.YtlgmncmjacjgmaaGreatDoor
open Go.Ab Go.Proofs
def tb:Ty->Nat
 | _=>1
def limW (c:Ty):Nat:=reachBytes / tb c
theorem tbAll:Zek (fun e c=>Nat.beq (Tryz.prog.bytesOf e) 0||Nat.ble (tb c) (Tryz.prog.bytesOf e)) codeT=true:=by kernel_rfl
theorem readAll:Zek (fun t c=>Z9X codeT.get tyT.get (tsz Nore.T) Nore.flds (tyT.get t) c) codeT=true:=by kernel_rfl
theorem readLaw (t:Nat) (c:Ty) (h:X.code t=some c):Z9X X.code X.E.ty (tsz X.T) Nore.F.flds (X.E.ty t) c=true:=Z6D (p:=fun t c=>Z9X codeT.get tyT.get (tsz Nore.T) Nore.flds (tyT.get t) c) readAll h
end Go.Proofs.YtlgmncmjacjgmaaGreatDoor
