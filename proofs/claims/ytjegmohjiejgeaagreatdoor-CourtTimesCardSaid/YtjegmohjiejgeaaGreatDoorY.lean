/- The structs of the program as plain structures. -/
import Derived.Test.YtjegmohjiejgeaaGreatDoorT2
import Derived.Test.YtjegmohjiejgeaaGreatDoorB
import Derived.KernelRfl
set_option linter.unusedSectionVars false
set_option linter.unusedVariables false
set_option linter.unusedSimpArgs false
namespace Nore
open Go Go.Ab
@[ext] structure Z4 where
 x:Int
 y:Int
 signed:Bool
 code:Int
@[ext] structure Z1 where
 msg:ByteArray
 addr:Int
@[ext] structure Zj where
 Name:ByteArray
 States:Int
 First:Int
@[ext] structure ZZ where
 Lo:Int
 Hi:Int
@[ext] structure Zn where
 Device:Int
 State:Int
 At:ZZ
@[ext] structure CoRecord where
 Devices:(List Zj)
 Entries:(List Zn)
@[ext] structure Zt where
 Device:Int
 State:Int
 At:ZZ
@[ext] structure Z9 where
 CoRecord:CoRecord
 seen:(List Zt)
@[ext] structure Z6 where
 from_:Int
 to_:Int
@[ext] structure Z7 where
 lo:(List Int)
 hi:(List Int)
 later:(List Z6)
@[ext] structure Z8 where
 from_:Int
 to_:Int
@[ext] structure Z2 where
 lo:Int
 hi:Int
@[ext] structure Z5 where
 s:ByteArray
def S:Nat->Type
 | 0=>Z4
 | 1=>Z1
 | 2=>Unit
 | 3=>Unit
 | 4=>Unit
 | 5=>ZZ
 | 6=>Unit
 | 7=>Unit
 | 8=>Unit
 | 9=>Unit
 | 10=>Unit
 | 11=>Unit
 | 12=>Unit
 | 13=>Unit
 | 14=>Unit
 | 15=>Unit
 | 16=>Unit
 | 17=>Unit
 | 18=>Zj
 | 19=>Zn
 | 20=>CoRecord
 | 21=>Zt
 | 22=>Z9
 | 23=>Z6
 | 24=>Z7
 | 25=>Z8
 | 26=>Z2
 | 27=>Z5
 | _+28=>Unit
def Z4.cl (x:Z4):List (TV S):=[.int .i64 x.x]++[.int .i64 x.y]++[.bool x.signed]++[.int .u8 x.code]
def Z4.dl (x:Z4):List DV:=[.int .i64 x.x]++[.int .i64 x.y]++[.bool x.signed]++[.int .u8 x.code]
def Z4.df:Z4:=⟨(0:Int),(0:Int),false,(0:Int)⟩
def Z4.eqb (x y:Z4):Bool:=(x.x==y.x&&(x.y==y.y&&(x.signed==y.signed&&(x.code==y.code&&true))))
def Z4.seq:Option (Z4->Z4->Bool):=some Z4.eqb
def Z1.cl (x:Z1):List (TV S):=[.str x.msg]++[.int .u64 x.addr]
def Z1.dl (x:Z1):List DV:=[.str x.msg]++[.int .u64 x.addr]
def Z1.df:Z1:=⟨ByteArray.empty,(0:Int)⟩
def Z1.eqb (x y:Z1):Bool:=(x.msg==y.msg&&(x.addr==y.addr&&true))
def Z1.seq:Option (Z1->Z1->Bool):=some Z1.eqb
def Zj.cl (x:Zj):List (TV S):=[.str x.Name]++[.int .i64 x.States]++[.int .i64 x.First]
def Zj.dl (x:Zj):List DV:=[.str x.Name]++[.int .i64 x.States]++[.int .i64 x.First]
def Zj.df:Zj:=⟨ByteArray.empty,(0:Int),(0:Int)⟩
def Zj.eqb (x y:Zj):Bool:=(x.Name==y.Name&&(x.States==y.States&&(x.First==y.First&&true)))
def Zj.seq:Option (Zj->Zj->Bool):=some Zj.eqb
def ZZ.cl (x:ZZ):List (TV S):=[.int .i64 x.Lo]++[.int .i64 x.Hi]
def ZZ.dl (x:ZZ):List DV:=[.int .i64 x.Lo]++[.int .i64 x.Hi]
def ZZ.df:ZZ:=⟨(0:Int),(0:Int)⟩
def ZZ.eqb (x y:ZZ):Bool:=(x.Lo==y.Lo&&(x.Hi==y.Hi&&true))
def ZZ.seq:Option (ZZ->ZZ->Bool):=some ZZ.eqb
def Zn.cl (x:Zn):List (TV S):=[.int .i64 x.Device]++[.int .i64 x.State]++[.stc 5 x.At]
def Zn.dl (x:Zn):List DV:=[.int .i64 x.Device]++[.int .i64 x.State]++(ZZ.dl x.At)
def Zn.df:Zn:=⟨(0:Int),(0:Int),⟨(0:Int),(0:Int)⟩⟩
def Zn.eqb (x y:Zn):Bool:=(x.Device==y.Device&&(x.State==y.State&&(x.At.Lo==y.At.Lo&&(x.At.Hi==y.At.Hi&&true))))
def Zn.seq:Option (Zn->Zn->Bool):=some Zn.eqb
def CoRecord.cl (x:CoRecord):List (TV S):=[.sl (.st 18) x.Devices]++[.sl (.st 19) x.Entries]
def CoRecord.dl (x:CoRecord):List DV:=[.sl (List.map (fun y=>(Zj.dl y)) x.Devices)]++[.sl (List.map (fun y=>(Zn.dl y)) x.Entries)]
def CoRecord.df:CoRecord:=⟨[],[]⟩
def CoRecord.seq:Option (CoRecord->CoRecord->Bool):=none
def Zt.cl (x:Zt):List (TV S):=[.int .i64 x.Device]++[.int .i64 x.State]++[.stc 5 x.At]
def Zt.dl (x:Zt):List DV:=[.int .i64 x.Device]++[.int .i64 x.State]++(ZZ.dl x.At)
def Zt.df:Zt:=⟨(0:Int),(0:Int),⟨(0:Int),(0:Int)⟩⟩
def Zt.eqb (x y:Zt):Bool:=(x.Device==y.Device&&(x.State==y.State&&(x.At.Lo==y.At.Lo&&(x.At.Hi==y.At.Hi&&true))))
def Zt.seq:Option (Zt->Zt->Bool):=some Zt.eqb
def Z9.cl (x:Z9):List (TV S):=[.stc 20 x.CoRecord]++[.sl (.st 21) x.seen]
def Z9.dl (x:Z9):List DV:=(CoRecord.dl x.CoRecord)++[.sl (List.map (fun y=>(Zt.dl y)) x.seen)]
def Z9.df:Z9:=⟨⟨[],[]⟩,[]⟩
def Z9.seq:Option (Z9->Z9->Bool):=none
def Z6.cl (x:Z6):List (TV S):=[.int .i64 x.from_]++[.int .i64 x.to_]
def Z6.dl (x:Z6):List DV:=[.int .i64 x.from_]++[.int .i64 x.to_]
def Z6.df:Z6:=⟨(0:Int),(0:Int)⟩
def Z6.eqb (x y:Z6):Bool:=(x.from_==y.from_&&(x.to_==y.to_&&true))
def Z6.seq:Option (Z6->Z6->Bool):=some Z6.eqb
def Z7.cl (x:Z7):List (TV S):=[.sl (.int .i64) x.lo]++[.sl (.int .i64) x.hi]++[.sl (.st 23) x.later]
def Z7.dl (x:Z7):List DV:=[.sl (List.map (fun y=>[.int .i64 y]) x.lo)]++[.sl (List.map (fun y=>[.int .i64 y]) x.hi)]++[.sl (List.map (fun y=>(Z6.dl y)) x.later)]
def Z7.df:Z7:=⟨[],[],[]⟩
def Z7.seq:Option (Z7->Z7->Bool):=none
def Z8.cl (x:Z8):List (TV S):=[.int .i64 x.from_]++[.int .i64 x.to_]
def Z8.dl (x:Z8):List DV:=[.int .i64 x.from_]++[.int .i64 x.to_]
def Z8.df:Z8:=⟨(0:Int),(0:Int)⟩
def Z8.eqb (x y:Z8):Bool:=(x.from_==y.from_&&(x.to_==y.to_&&true))
def Z8.seq:Option (Z8->Z8->Bool):=some Z8.eqb
def Z2.cl (x:Z2):List (TV S):=[.int .u8 x.lo]++[.int .u8 x.hi]
def Z2.dl (x:Z2):List DV:=[.int .u8 x.lo]++[.int .u8 x.hi]
def Z2.df:Z2:=⟨(0:Int),(0:Int)⟩
def Z2.eqb (x y:Z2):Bool:=(x.lo==y.lo&&(x.hi==y.hi&&true))
def Z2.seq:Option (Z2->Z2->Bool):=some Z2.eqb
def Z5.cl (x:Z5):List (TV S):=[.str x.s]
def Z5.dl (x:Z5):List DV:=[.str x.s]
def Z5.df:Z5:=⟨ByteArray.empty⟩
def Z5.eqb (x y:Z5):Bool:=(x.s==y.s&&true)
def Z5.seq:Option (Z5->Z5->Bool):=some Z5.eqb
def T0:TS S where
 size:=fun i=>match i with
  | 0=>4
  | 1=>2
  | 18=>3
  | 5=>2
  | 19=>4
  | 20=>2
  | 21=>4
  | 22=>3
  | 23=>2
  | 24=>3
  | 25=>2
  | 26=>2
  | 27=>1
  | _=>0
 cells:=fun i=>match i with
  | 0=>Z4.cl
  | 1=>Z1.cl
  | 2=>fun _=>[]
  | 3=>fun _=>[]
  | 4=>fun _=>[]
  | 5=>ZZ.cl
  | 6=>fun _=>[]
  | 7=>fun _=>[]
  | 8=>fun _=>[]
  | 9=>fun _=>[]
  | 10=>fun _=>[]
  | 11=>fun _=>[]
  | 12=>fun _=>[]
  | 13=>fun _=>[]
  | 14=>fun _=>[]
  | 15=>fun _=>[]
  | 16=>fun _=>[]
  | 17=>fun _=>[]
  | 18=>Zj.cl
  | 19=>Zn.cl
  | 20=>CoRecord.cl
  | 21=>Zt.cl
  | 22=>Z9.cl
  | 23=>Z6.cl
  | 24=>Z7.cl
  | 25=>Z8.cl
  | 26=>Z2.cl
  | 27=>Z5.cl
  | _+28=>fun _=>[]
 dcells:=fun i=>match i with
  | 0=>Z4.dl
  | 1=>Z1.dl
  | 2=>fun _=>[]
  | 3=>fun _=>[]
  | 4=>fun _=>[]
  | 5=>ZZ.dl
  | 6=>fun _=>[]
  | 7=>fun _=>[]
  | 8=>fun _=>[]
  | 9=>fun _=>[]
  | 10=>fun _=>[]
  | 11=>fun _=>[]
  | 12=>fun _=>[]
  | 13=>fun _=>[]
  | 14=>fun _=>[]
  | 15=>fun _=>[]
  | 16=>fun _=>[]
  | 17=>fun _=>[]
  | 18=>Zj.dl
  | 19=>Zn.dl
  | 20=>CoRecord.dl
  | 21=>Zt.dl
  | 22=>Z9.dl
  | 23=>Z6.dl
  | 24=>Z7.dl
  | 25=>Z8.dl
  | 26=>Z2.dl
  | 27=>Z5.dl
  | _+28=>fun _=>[]
 rd:=fun _ _=>none
 dflt:=fun i=>match i with
  | 0=>Z4.df
  | 1=>Z1.df
  | 2=>()
  | 3=>()
  | 4=>()
  | 5=>ZZ.df
  | 6=>()
  | 7=>()
  | 8=>()
  | 9=>()
  | 10=>()
  | 11=>()
  | 12=>()
  | 13=>()
  | 14=>()
  | 15=>()
  | 16=>()
  | 17=>()
  | 18=>Zj.df
  | 19=>Zn.df
  | 20=>CoRecord.df
  | 21=>Zt.df
  | 22=>Z9.df
  | 23=>Z6.df
  | 24=>Z7.df
  | 25=>Z8.df
  | 26=>Z2.df
  | 27=>Z5.df
  | _+28=>()
 seq:=fun _=>none
def Z4.rd (cs:List (TV S)):Option (Z4×List (TV S)):=(Z17 .i64 cs).bind fun a0=>(Z17 .i64 a0.2).bind fun a1=>(Z7U a1.2).bind fun a2=>(Z17 .u8 a2.2).bind fun a3=>some (⟨a0.1,a1.1,a2.1,a3.1⟩,a3.2)
def Z1.rd (cs:List (TV S)):Option (Z1×List (TV S)):=(Z8v cs).bind fun a0=>(Z17 .u64 a0.2).bind fun a1=>some (⟨a0.1,a1.1⟩,a1.2)
def Zj.rd (cs:List (TV S)):Option (Zj×List (TV S)):=(Z8v cs).bind fun a0=>(Z17 .i64 a0.2).bind fun a1=>(Z17 .i64 a1.2).bind fun a2=>some (⟨a0.1,a1.1,a2.1⟩,a2.2)
def ZZ.rd (cs:List (TV S)):Option (ZZ×List (TV S)):=(Z17 .i64 cs).bind fun a0=>(Z17 .i64 a0.2).bind fun a1=>some (⟨a0.1,a1.1⟩,a1.2)
def Zn.rd (cs:List (TV S)):Option (Zn×List (TV S)):=(Z17 .i64 cs).bind fun a0=>(Z17 .i64 a0.2).bind fun a1=>((fun cs=>rdW (S:=S) 5 ZZ.rd (Z4G T0 5 6 cs)) a1.2).bind fun a2=>some (⟨a0.1,a1.1,a2.1⟩,a2.2)
def CoRecord.rd (cs:List (TV S)):Option (CoRecord×List (TV S)):=(Zax (S:=S) (.st 18) cs).bind fun a0=>(Zax (S:=S) (.st 19) a0.2).bind fun a1=>some (⟨a0.1,a1.1⟩,a1.2)
def Zt.rd (cs:List (TV S)):Option (Zt×List (TV S)):=(Z17 .i64 cs).bind fun a0=>(Z17 .i64 a0.2).bind fun a1=>((fun cs=>rdW (S:=S) 5 ZZ.rd (Z4G T0 5 6 cs)) a1.2).bind fun a2=>some (⟨a0.1,a1.1,a2.1⟩,a2.2)
def Z9.rd (cs:List (TV S)):Option (Z9×List (TV S)):=((fun cs=>rdW (S:=S) 20 CoRecord.rd (Z4G T0 20 6 cs)) cs).bind fun a0=>(Zax (S:=S) (.st 21) a0.2).bind fun a1=>some (⟨a0.1,a1.1⟩,a1.2)
def Z6.rd (cs:List (TV S)):Option (Z6×List (TV S)):=(Z17 .i64 cs).bind fun a0=>(Z17 .i64 a0.2).bind fun a1=>some (⟨a0.1,a1.1⟩,a1.2)
def Z7.rd (cs:List (TV S)):Option (Z7×List (TV S)):=(Zax (S:=S) (.int .i64) cs).bind fun a0=>(Zax (S:=S) (.int .i64) a0.2).bind fun a1=>(Zax (S:=S) (.st 23) a1.2).bind fun a2=>some (⟨a0.1,a1.1,a2.1⟩,a2.2)
def Z8.rd (cs:List (TV S)):Option (Z8×List (TV S)):=(Z17 .i64 cs).bind fun a0=>(Z17 .i64 a0.2).bind fun a1=>some (⟨a0.1,a1.1⟩,a1.2)
def Z2.rd (cs:List (TV S)):Option (Z2×List (TV S)):=(Z17 .u8 cs).bind fun a0=>(Z17 .u8 a0.2).bind fun a1=>some (⟨a0.1,a1.1⟩,a1.2)
def Z5.rd (cs:List (TV S)):Option (Z5×List (TV S)):=(Z8v cs).bind fun a0=>some (⟨a0.1⟩,a0.2)
def T:TS S where
 size:=fun i=>match i with
  | 0=>4
  | 1=>2
  | 18=>3
  | 5=>2
  | 19=>4
  | 20=>2
  | 21=>4
  | 22=>3
  | 23=>2
  | 24=>3
  | 25=>2
  | 26=>2
  | 27=>1
  | _=>0
 cells:=fun i=>match i with
  | 0=>Z4.cl
  | 1=>Z1.cl
  | 2=>fun _=>[]
  | 3=>fun _=>[]
  | 4=>fun _=>[]
  | 5=>ZZ.cl
  | 6=>fun _=>[]
  | 7=>fun _=>[]
  | 8=>fun _=>[]
  | 9=>fun _=>[]
  | 10=>fun _=>[]
  | 11=>fun _=>[]
  | 12=>fun _=>[]
  | 13=>fun _=>[]
  | 14=>fun _=>[]
  | 15=>fun _=>[]
  | 16=>fun _=>[]
  | 17=>fun _=>[]
  | 18=>Zj.cl
  | 19=>Zn.cl
  | 20=>CoRecord.cl
  | 21=>Zt.cl
  | 22=>Z9.cl
  | 23=>Z6.cl
  | 24=>Z7.cl
  | 25=>Z8.cl
  | 26=>Z2.cl
  | 27=>Z5.cl
  | _+28=>fun _=>[]
 dcells:=fun i=>match i with
  | 0=>Z4.dl
  | 1=>Z1.dl
  | 2=>fun _=>[]
  | 3=>fun _=>[]
  | 4=>fun _=>[]
  | 5=>ZZ.dl
  | 6=>fun _=>[]
  | 7=>fun _=>[]
  | 8=>fun _=>[]
  | 9=>fun _=>[]
  | 10=>fun _=>[]
  | 11=>fun _=>[]
  | 12=>fun _=>[]
  | 13=>fun _=>[]
  | 14=>fun _=>[]
  | 15=>fun _=>[]
  | 16=>fun _=>[]
  | 17=>fun _=>[]
  | 18=>Zj.dl
  | 19=>Zn.dl
  | 20=>CoRecord.dl
  | 21=>Zt.dl
  | 22=>Z9.dl
  | 23=>Z6.dl
  | 24=>Z7.dl
  | 25=>Z8.dl
  | 26=>Z2.dl
  | 27=>Z5.dl
  | _+28=>fun _=>[]
 rd:=fun i=>match i with
  | 0=>Z4.rd
  | 1=>Z1.rd
  | 2=>fun cs=>some ((),cs)
  | 3=>fun cs=>some ((),cs)
  | 4=>fun cs=>some ((),cs)
  | 5=>ZZ.rd
  | 6=>fun cs=>some ((),cs)
  | 7=>fun cs=>some ((),cs)
  | 8=>fun cs=>some ((),cs)
  | 9=>fun cs=>some ((),cs)
  | 10=>fun cs=>some ((),cs)
  | 11=>fun cs=>some ((),cs)
  | 12=>fun cs=>some ((),cs)
  | 13=>fun cs=>some ((),cs)
  | 14=>fun cs=>some ((),cs)
  | 15=>fun cs=>some ((),cs)
  | 16=>fun cs=>some ((),cs)
  | 17=>fun cs=>some ((),cs)
  | 18=>Zj.rd
  | 19=>Zn.rd
  | 20=>CoRecord.rd
  | 21=>Zt.rd
  | 22=>Z9.rd
  | 23=>Z6.rd
  | 24=>Z7.rd
  | 25=>Z8.rd
  | 26=>Z2.rd
  | 27=>Z5.rd
  | _+28=>fun cs=>some ((),cs)
 dflt:=fun i=>match i with
  | 0=>Z4.df
  | 1=>Z1.df
  | 2=>()
  | 3=>()
  | 4=>()
  | 5=>ZZ.df
  | 6=>()
  | 7=>()
  | 8=>()
  | 9=>()
  | 10=>()
  | 11=>()
  | 12=>()
  | 13=>()
  | 14=>()
  | 15=>()
  | 16=>()
  | 17=>()
  | 18=>Zj.df
  | 19=>Zn.df
  | 20=>CoRecord.df
  | 21=>Zt.df
  | 22=>Z9.df
  | 23=>Z6.df
  | 24=>Z7.df
  | 25=>Z8.df
  | 26=>Z2.df
  | 27=>Z5.df
  | _+28=>()
 seq:=fun i=>match i with
  | 0=>Z4.seq
  | 1=>Z1.seq
  | 2=>none
  | 3=>none
  | 4=>none
  | 5=>ZZ.seq
  | 6=>none
  | 7=>none
  | 8=>none
  | 9=>none
  | 10=>none
  | 11=>none
  | 12=>none
  | 13=>none
  | 14=>none
  | 15=>none
  | 16=>none
  | 17=>none
  | 18=>Zj.seq
  | 19=>Zn.seq
  | 20=>CoRecord.seq
  | 21=>Zt.seq
  | 22=>Z9.seq
  | 23=>Z6.seq
  | 24=>Z7.seq
  | 25=>Z8.seq
  | 26=>Z2.seq
  | 27=>Z5.seq
  | _+28=>none
abbrev dT (cs:List (TV S)):List DV:=dvs T cs
theorem Z4.cl_ok (x:Z4):dvs T (Z4.cl x)=Z4.dl x:=rfl
theorem Z1.cl_ok (x:Z1):dvs T (Z1.cl x)=Z1.dl x:=rfl
theorem Zj.cl_ok (x:Zj):dvs T (Zj.cl x)=Zj.dl x:=rfl
theorem ZZ.cl_ok (x:ZZ):dvs T (ZZ.cl x)=ZZ.dl x:=rfl
theorem Zn.cl_ok (x:Zn):dvs T (Zn.cl x)=Zn.dl x:=rfl
theorem CoRecord.cl_ok (x:CoRecord):dvs T (CoRecord.cl x)=CoRecord.dl x:=rfl
theorem Zt.cl_ok (x:Zt):dvs T (Zt.cl x)=Zt.dl x:=rfl
theorem Z9.cl_ok (x:Z9):dvs T (Z9.cl x)=Z9.dl x:=rfl
theorem Z6.cl_ok (x:Z6):dvs T (Z6.cl x)=Z6.dl x:=rfl
theorem Z7.cl_ok (x:Z7):dvs T (Z7.cl x)=Z7.dl x:=rfl
theorem Z8.cl_ok (x:Z8):dvs T (Z8.cl x)=Z8.dl x:=rfl
theorem Z2.cl_ok (x:Z2):dvs T (Z2.cl x)=Z2.dl x:=rfl
theorem Z5.cl_ok (x:Z5):dvs T (Z5.cl x)=Z5.dl x:=rfl
theorem Zhb:∀i (x:S i),dvs T (T0.cells i x)=T.dcells i x :=
   fun i=>match i with
    | 0=>Z4.cl_ok
    | 1=>Z1.cl_ok
    | 2=>fun _=>rfl
    | 3=>fun _=>rfl
    | 4=>fun _=>rfl
    | 5=>ZZ.cl_ok
    | 6=>fun _=>rfl
    | 7=>fun _=>rfl
    | 8=>fun _=>rfl
    | 9=>fun _=>rfl
    | 10=>fun _=>rfl
    | 11=>fun _=>rfl
    | 12=>fun _=>rfl
    | 13=>fun _=>rfl
    | 14=>fun _=>rfl
    | 15=>fun _=>rfl
    | 16=>fun _=>rfl
    | 17=>fun _=>rfl
    | 18=>Zj.cl_ok
    | 19=>Zn.cl_ok
    | 20=>CoRecord.cl_ok
    | 21=>Zt.cl_ok
    | 22=>Z9.cl_ok
    | 23=>Z6.cl_ok
    | 24=>Z7.cl_ok
    | 25=>Z8.cl_ok
    | 26=>Z2.cl_ok
    | 27=>Z5.cl_ok
    | _+28=>fun _=>rfl
theorem Z68 (i:Nat):∀(n:Nat) (cs:List (TV S)),dvs T (Z4G T0 i n cs)=dvs T cs:=Z90 (T:=T) (T0:=T0) Zhb i
theorem Z4.len_ok (x:Z4):(Z4.dl x).length=4:=rfl
theorem Z4.pl_ok (x:Z4):(Z4.dl x).all plain=true:=rfl
theorem Z4.seq_ok (e:Z4->Z4->Bool) (h:Z4.seq=some e) (x y:Z4):Zl (Z4.dl x) (Z4.dl y)=some (e x y):=by
 cases h;rfl
theorem Z4.rd_ok {cs r:List (TV S)} {x:Z4} (h:Z4.rd cs=some (x,r)):dvs T cs=Z4.dl x++dvs T r:=by
 unfold Z4.rd at h;obtain⟨⟨a0,r0⟩,h0,h⟩:=Z0 h;obtain⟨⟨a1,r1⟩,h1,h⟩:=Z0 h;obtain⟨⟨a2,r2⟩,h2,h⟩:=Z0 h;obtain⟨⟨a3,r3⟩,h3,h⟩:=Z0 h;cases h;rw[Y4 h0,Y4 h1,ZeX h2,Y4 h3];rfl
theorem Z1.len_ok (x:Z1):(Z1.dl x).length=2:=rfl
theorem Z1.pl_ok (x:Z1):(Z1.dl x).all plain=true:=rfl
theorem Z1.seq_ok (e:Z1->Z1->Bool) (h:Z1.seq=some e) (x y:Z1):Zl (Z1.dl x) (Z1.dl y)=some (e x y):=by
 cases h;rfl
theorem Z1.rd_ok {cs r:List (TV S)} {x:Z1} (h:Z1.rd cs=some (x,r)):dvs T cs=Z1.dl x++dvs T r:=by
 unfold Z1.rd at h;obtain⟨⟨a0,r0⟩,h0,h⟩:=Z0 h;obtain⟨⟨a1,r1⟩,h1,h⟩:=Z0 h;cases h;rw[Z7V h0,Y4 h1];rfl
theorem Zj.len_ok (x:Zj):(Zj.dl x).length=3:=rfl
theorem Zj.pl_ok (x:Zj):(Zj.dl x).all plain=true:=rfl
theorem Zj.seq_ok (e:Zj->Zj->Bool) (h:Zj.seq=some e) (x y:Zj):Zl (Zj.dl x) (Zj.dl y)=some (e x y):=by
 cases h;rfl
theorem Zj.rd_ok {cs r:List (TV S)} {x:Zj} (h:Zj.rd cs=some (x,r)):dvs T cs=Zj.dl x++dvs T r:=by
 unfold Zj.rd at h;obtain⟨⟨a0,r0⟩,h0,h⟩:=Z0 h;obtain⟨⟨a1,r1⟩,h1,h⟩:=Z0 h;obtain⟨⟨a2,r2⟩,h2,h⟩:=Z0 h;cases h;rw[Z7V h0,Y4 h1,Y4 h2];rfl
theorem ZZ.len_ok (x:ZZ):(ZZ.dl x).length=2:=rfl
theorem ZZ.pl_ok (x:ZZ):(ZZ.dl x).all plain=true:=rfl
theorem ZZ.seq_ok (e:ZZ->ZZ->Bool) (h:ZZ.seq=some e) (x y:ZZ):Zl (ZZ.dl x) (ZZ.dl y)=some (e x y):=by
 cases h;rfl
theorem ZZ.rd_ok {cs r:List (TV S)} {x:ZZ} (h:ZZ.rd cs=some (x,r)):dvs T cs=ZZ.dl x++dvs T r:=by
 unfold ZZ.rd at h;obtain⟨⟨a0,r0⟩,h0,h⟩:=Z0 h;obtain⟨⟨a1,r1⟩,h1,h⟩:=Z0 h;cases h;rw[Y4 h0,Y4 h1];rfl
theorem Zn.len_ok (x:Zn):(Zn.dl x).length=4:=rfl
theorem Zn.pl_ok (x:Zn):(Zn.dl x).all plain=true:=rfl
theorem Zn.seq_ok (e:Zn->Zn->Bool) (h:Zn.seq=some e) (x y:Zn):Zl (Zn.dl x) (Zn.dl y)=some (e x y):=by
 cases h;rfl
theorem Zn.rd_ok {cs r:List (TV S)} {x:Zn} (h:Zn.rd cs=some (x,r)):dvs T cs=Zn.dl x++dvs T r:=by
 unfold Zn.rd at h;obtain⟨⟨a0,r0⟩,h0,h⟩:=Z0 h;obtain⟨⟨a1,r1⟩,h1,h⟩:=Z0 h;obtain⟨⟨a2,r2⟩,h2,h⟩:=Z0 h;cases h;rw[Y4 h0,Y4 h1,<-Z68 5 6,Z8S (T:=T) (fun _ _ _ h=>ZZ.rd_ok h) h2];rfl
theorem CoRecord.len_ok (x:CoRecord):(CoRecord.dl x).length=2:=rfl
theorem CoRecord.pl_ok (x:CoRecord):(CoRecord.dl x).all plain=true:=rfl
theorem CoRecord.seq_ok (e:CoRecord->CoRecord->Bool) (h:CoRecord.seq=some e) (x y:CoRecord):Zl (CoRecord.dl x) (CoRecord.dl y)=some (e x y):=by cases h
theorem CoRecord.rd_ok {cs r:List (TV S)} {x:CoRecord} (h:CoRecord.rd cs=some (x,r)):dvs T cs=CoRecord.dl x++dvs T r:=by
 unfold CoRecord.rd at h;obtain⟨⟨a0,r0⟩,h0,h⟩:=Z0 h;obtain⟨⟨a1,r1⟩,h1,h⟩:=Z0 h;cases h;rw[Z3f h0,Z3f h1];rfl
theorem Zt.len_ok (x:Zt):(Zt.dl x).length=4:=rfl
theorem Zt.pl_ok (x:Zt):(Zt.dl x).all plain=true:=rfl
theorem Zt.seq_ok (e:Zt->Zt->Bool) (h:Zt.seq=some e) (x y:Zt):Zl (Zt.dl x) (Zt.dl y)=some (e x y):=by
 cases h;rfl
theorem Zt.rd_ok {cs r:List (TV S)} {x:Zt} (h:Zt.rd cs=some (x,r)):dvs T cs=Zt.dl x++dvs T r:=by
 unfold Zt.rd at h;obtain⟨⟨a0,r0⟩,h0,h⟩:=Z0 h;obtain⟨⟨a1,r1⟩,h1,h⟩:=Z0 h;obtain⟨⟨a2,r2⟩,h2,h⟩:=Z0 h;cases h;rw[Y4 h0,Y4 h1,<-Z68 5 6,Z8S (T:=T) (fun _ _ _ h=>ZZ.rd_ok h) h2];rfl
theorem Z9.len_ok (x:Z9):(Z9.dl x).length=3:=rfl
theorem Z9.pl_ok (x:Z9):(Z9.dl x).all plain=true:=rfl
theorem Z9.seq_ok (e:Z9->Z9->Bool) (h:Z9.seq=some e) (x y:Z9):Zl (Z9.dl x) (Z9.dl y)=some (e x y):=by cases h
theorem Z9.rd_ok {cs r:List (TV S)} {x:Z9} (h:Z9.rd cs=some (x,r)):dvs T cs=Z9.dl x++dvs T r:=by
 unfold Z9.rd at h;obtain⟨⟨a0,r0⟩,h0,h⟩:=Z0 h;obtain⟨⟨a1,r1⟩,h1,h⟩:=Z0 h;cases h;rw[<-Z68 20 6,Z8S (T:=T) (fun _ _ _ h=>CoRecord.rd_ok h) h0,Z3f h1];rfl
theorem Z6.len_ok (x:Z6):(Z6.dl x).length=2:=rfl
theorem Z6.pl_ok (x:Z6):(Z6.dl x).all plain=true:=rfl
theorem Z6.seq_ok (e:Z6->Z6->Bool) (h:Z6.seq=some e) (x y:Z6):Zl (Z6.dl x) (Z6.dl y)=some (e x y):=by
 cases h;rfl
theorem Z6.rd_ok {cs r:List (TV S)} {x:Z6} (h:Z6.rd cs=some (x,r)):dvs T cs=Z6.dl x++dvs T r:=by
 unfold Z6.rd at h;obtain⟨⟨a0,r0⟩,h0,h⟩:=Z0 h;obtain⟨⟨a1,r1⟩,h1,h⟩:=Z0 h;cases h;rw[Y4 h0,Y4 h1];rfl
theorem Z7.len_ok (x:Z7):(Z7.dl x).length=3:=rfl
theorem Z7.pl_ok (x:Z7):(Z7.dl x).all plain=true:=rfl
theorem Z7.seq_ok (e:Z7->Z7->Bool) (h:Z7.seq=some e) (x y:Z7):Zl (Z7.dl x) (Z7.dl y)=some (e x y):=by cases h
theorem Z7.rd_ok {cs r:List (TV S)} {x:Z7} (h:Z7.rd cs=some (x,r)):dvs T cs=Z7.dl x++dvs T r:=by
 unfold Z7.rd at h;obtain⟨⟨a0,r0⟩,h0,h⟩:=Z0 h;obtain⟨⟨a1,r1⟩,h1,h⟩:=Z0 h;obtain⟨⟨a2,r2⟩,h2,h⟩:=Z0 h;cases h;rw[Z3f h0,Z3f h1,Z3f h2];rfl
theorem Z8.len_ok (x:Z8):(Z8.dl x).length=2:=rfl
theorem Z8.pl_ok (x:Z8):(Z8.dl x).all plain=true:=rfl
theorem Z8.seq_ok (e:Z8->Z8->Bool) (h:Z8.seq=some e) (x y:Z8):Zl (Z8.dl x) (Z8.dl y)=some (e x y):=by
 cases h;rfl
theorem Z8.rd_ok {cs r:List (TV S)} {x:Z8} (h:Z8.rd cs=some (x,r)):dvs T cs=Z8.dl x++dvs T r:=by
 unfold Z8.rd at h;obtain⟨⟨a0,r0⟩,h0,h⟩:=Z0 h;obtain⟨⟨a1,r1⟩,h1,h⟩:=Z0 h;cases h;rw[Y4 h0,Y4 h1];rfl
theorem Z2.len_ok (x:Z2):(Z2.dl x).length=2:=rfl
theorem Z2.pl_ok (x:Z2):(Z2.dl x).all plain=true:=rfl
theorem Z2.seq_ok (e:Z2->Z2->Bool) (h:Z2.seq=some e) (x y:Z2):Zl (Z2.dl x) (Z2.dl y)=some (e x y):=by
 cases h;rfl
theorem Z2.rd_ok {cs r:List (TV S)} {x:Z2} (h:Z2.rd cs=some (x,r)):dvs T cs=Z2.dl x++dvs T r:=by
 unfold Z2.rd at h;obtain⟨⟨a0,r0⟩,h0,h⟩:=Z0 h;obtain⟨⟨a1,r1⟩,h1,h⟩:=Z0 h;cases h;rw[Y4 h0,Y4 h1];rfl
theorem Z5.len_ok (x:Z5):(Z5.dl x).length=1:=rfl
theorem Z5.pl_ok (x:Z5):(Z5.dl x).all plain=true:=rfl
theorem Z5.seq_ok (e:Z5->Z5->Bool) (h:Z5.seq=some e) (x y:Z5):Zl (Z5.dl x) (Z5.dl y)=some (e x y):=by
 cases h;rfl
theorem Z5.rd_ok {cs r:List (TV S)} {x:Z5} (h:Z5.rd cs=some (x,r)):dvs T cs=Z5.dl x++dvs T r:=by
 unfold Z5.rd at h;obtain⟨⟨a0,r0⟩,h0,h⟩:=Z0 h;cases h;rw[Z7V h0];rfl
theorem tok:TOk T where
 cells:=fun i=>match i with
  | 0=>Z4.cl_ok
  | 1=>Z1.cl_ok
  | 2=>fun _=>rfl
  | 3=>fun _=>rfl
  | 4=>fun _=>rfl
  | 5=>ZZ.cl_ok
  | 6=>fun _=>rfl
  | 7=>fun _=>rfl
  | 8=>fun _=>rfl
  | 9=>fun _=>rfl
  | 10=>fun _=>rfl
  | 11=>fun _=>rfl
  | 12=>fun _=>rfl
  | 13=>fun _=>rfl
  | 14=>fun _=>rfl
  | 15=>fun _=>rfl
  | 16=>fun _=>rfl
  | 17=>fun _=>rfl
  | 18=>Zj.cl_ok
  | 19=>Zn.cl_ok
  | 20=>CoRecord.cl_ok
  | 21=>Zt.cl_ok
  | 22=>Z9.cl_ok
  | 23=>Z6.cl_ok
  | 24=>Z7.cl_ok
  | 25=>Z8.cl_ok
  | 26=>Z2.cl_ok
  | 27=>Z5.cl_ok
  | _+28=>fun _=>rfl
 len:=fun i=>match i with
  | 0=>Z4.len_ok
  | 1=>Z1.len_ok
  | 2=>fun _=>rfl
  | 3=>fun _=>rfl
  | 4=>fun _=>rfl
  | 5=>ZZ.len_ok
  | 6=>fun _=>rfl
  | 7=>fun _=>rfl
  | 8=>fun _=>rfl
  | 9=>fun _=>rfl
  | 10=>fun _=>rfl
  | 11=>fun _=>rfl
  | 12=>fun _=>rfl
  | 13=>fun _=>rfl
  | 14=>fun _=>rfl
  | 15=>fun _=>rfl
  | 16=>fun _=>rfl
  | 17=>fun _=>rfl
  | 18=>Zj.len_ok
  | 19=>Zn.len_ok
  | 20=>CoRecord.len_ok
  | 21=>Zt.len_ok
  | 22=>Z9.len_ok
  | 23=>Z6.len_ok
  | 24=>Z7.len_ok
  | 25=>Z8.len_ok
  | 26=>Z2.len_ok
  | 27=>Z5.len_ok
  | _+28=>fun _=>rfl
 rd:=fun i=>match i with
  | 0=>fun _ _ _ h=>Z4.rd_ok h
  | 1=>fun _ _ _ h=>Z1.rd_ok h
  | 2=>fun _ _ _ h=>by cases h;rfl
  | 3=>fun _ _ _ h=>by cases h;rfl
  | 4=>fun _ _ _ h=>by cases h;rfl
  | 5=>fun _ _ _ h=>ZZ.rd_ok h
  | 6=>fun _ _ _ h=>by cases h;rfl
  | 7=>fun _ _ _ h=>by cases h;rfl
  | 8=>fun _ _ _ h=>by cases h;rfl
  | 9=>fun _ _ _ h=>by cases h;rfl
  | 10=>fun _ _ _ h=>by cases h;rfl
  | 11=>fun _ _ _ h=>by cases h;rfl
  | 12=>fun _ _ _ h=>by cases h;rfl
  | 13=>fun _ _ _ h=>by cases h;rfl
  | 14=>fun _ _ _ h=>by cases h;rfl
  | 15=>fun _ _ _ h=>by cases h;rfl
  | 16=>fun _ _ _ h=>by cases h;rfl
  | 17=>fun _ _ _ h=>by cases h;rfl
  | 18=>fun _ _ _ h=>Zj.rd_ok h
  | 19=>fun _ _ _ h=>Zn.rd_ok h
  | 20=>fun _ _ _ h=>CoRecord.rd_ok h
  | 21=>fun _ _ _ h=>Zt.rd_ok h
  | 22=>fun _ _ _ h=>Z9.rd_ok h
  | 23=>fun _ _ _ h=>Z6.rd_ok h
  | 24=>fun _ _ _ h=>Z7.rd_ok h
  | 25=>fun _ _ _ h=>Z8.rd_ok h
  | 26=>fun _ _ _ h=>Z2.rd_ok h
  | 27=>fun _ _ _ h=>Z5.rd_ok h
  | _+28=>fun _ _ _ h=>by cases h;rfl
 plain:=fun i=>match i with
  | 0=>Z4.pl_ok
  | 1=>Z1.pl_ok
  | 2=>fun _=>rfl
  | 3=>fun _=>rfl
  | 4=>fun _=>rfl
  | 5=>ZZ.pl_ok
  | 6=>fun _=>rfl
  | 7=>fun _=>rfl
  | 8=>fun _=>rfl
  | 9=>fun _=>rfl
  | 10=>fun _=>rfl
  | 11=>fun _=>rfl
  | 12=>fun _=>rfl
  | 13=>fun _=>rfl
  | 14=>fun _=>rfl
  | 15=>fun _=>rfl
  | 16=>fun _=>rfl
  | 17=>fun _=>rfl
  | 18=>Zj.pl_ok
  | 19=>Zn.pl_ok
  | 20=>CoRecord.pl_ok
  | 21=>Zt.pl_ok
  | 22=>Z9.pl_ok
  | 23=>Z6.pl_ok
  | 24=>Z7.pl_ok
  | 25=>Z8.pl_ok
  | 26=>Z2.pl_ok
  | 27=>Z5.pl_ok
  | _+28=>fun _=>rfl
 seq:=fun i=>match i with
  | 0=>fun e h x y=>Z4.seq_ok e h x y
  | 1=>fun e h x y=>Z1.seq_ok e h x y
  | 2=>fun _ h=>by cases h
  | 3=>fun _ h=>by cases h
  | 4=>fun _ h=>by cases h
  | 5=>fun e h x y=>ZZ.seq_ok e h x y
  | 6=>fun _ h=>by cases h
  | 7=>fun _ h=>by cases h
  | 8=>fun _ h=>by cases h
  | 9=>fun _ h=>by cases h
  | 10=>fun _ h=>by cases h
  | 11=>fun _ h=>by cases h
  | 12=>fun _ h=>by cases h
  | 13=>fun _ h=>by cases h
  | 14=>fun _ h=>by cases h
  | 15=>fun _ h=>by cases h
  | 16=>fun _ h=>by cases h
  | 17=>fun _ h=>by cases h
  | 18=>fun e h x y=>Zj.seq_ok e h x y
  | 19=>fun e h x y=>Zn.seq_ok e h x y
  | 20=>fun e h x y=>CoRecord.seq_ok e h x y
  | 21=>fun e h x y=>Zt.seq_ok e h x y
  | 22=>fun e h x y=>Z9.seq_ok e h x y
  | 23=>fun e h x y=>Z6.seq_ok e h x y
  | 24=>fun e h x y=>Z7.seq_ok e h x y
  | 25=>fun e h x y=>Z8.seq_ok e h x y
  | 26=>fun e h x y=>Z2.seq_ok e h x y
  | 27=>fun e h x y=>Z5.seq_ok e h x y
  | _+28=>fun _ h=>by cases h
end Nore
namespace Go.Proofs.YtjegmohjiejgeaaGreatDoor
open Go.Ab Go.Proofs
def codeL:List (Nat×Ty):=[(2,(.int .i64)),(3,(.int .i64)),(4,.bool),(5,(.int .u8)),(6,(.int .u8)),(8,(.st 0)),(9,.str),(10,.str),(11,.str),(12,(.int .u64)),(14,(.st 1)),(21,(.int .i32)),(22,(.sl (.st 18))),(23,(.sl (.st 19))),(25,(.st 20)),(26,(.sl (.st 21))),(27,(.int .i64)),(34,(.sl (.st 5))),(43,(.st 18)),(50,(.st 5)),(52,(.st 19)),(54,(.st 21)),(57,(.sl .str)),(63,(.st 22)),(66,(.arr 10 (.st 5))),(67,(.arr 10 (.st 5))),(72,(.sl (.st 24))),(74,(.sl (.int .i64))),(75,(.sl (.st 23))),(77,(.st 24)),(103,(.sl (.st 25))),(110,(.st 25)),(117,(.st 23)),(147,(.sl (.int .u8))),(161,(.int .u64)),(170,(.int .i64)),(179,(.int .u32)),(181,(.int .u64)),(187,(.int .i64)),(193,(.arr 24 (.int .u8))),(197,(.int .u64)),(211,(.arr 20 (.int .u64))),(212,(.arr 65 (.int .u8))),(216,(.arr 256 (.int .u8))),(218,(.st 26)),(219,(.arr 16 (.st 26))),(225,(.st 27)),(226,(.arr 32 (.int .u8))),(227,(.arr 64 (.int .u8))),(234,(.int .u8)),(235,(.int .u8)),(237,(.int .i32)),(238,(.int .i32))]
def zeroL:List (Nat×List (TV Nore.S)):=[(1,[.nilfn]),(2,[.int .i64 (0)]),(3,[.int .i64 (0)]),(4,[.bool false]),(5,[.int .u8 (0)]),(6,[.int .u8 (0)]),(7,[.int .i64 (0),.int .i64 (0),.bool false,.int .u8 (0)]),(8,[.int .i64 (0),.int .i64 (0),.bool false,.int .u8 (0)]),(9,[.str ByteArray.empty]),(10,[.str ByteArray.empty]),(11,[.str ByteArray.empty]),(12,[.int .u64 (0)]),(13,[.str ByteArray.empty,.int .u64 (0)]),(14,[.str ByteArray.empty,.int .u64 (0)]),(15,[.nilp]),(16,[.nilp]),(17,[.nilp]),(18,[.nilp]),(19,[.nilp]),(20,[.nilif]),(21,[.int .i32 (0)]),(22,[.nils]),(23,[.nils]),(24,[.nils,.nils]),(25,[.nils,.nils]),(26,[.nils]),(27,[.int .i64 (0)]),(29,[.nilfn]),(31,[.nilfn]),(33,[.nilfn]),(34,[.nils]),(36,[.nilfn]),(37,[.nilfn]),(38,[.nilfn]),(39,[.nilfn]),(40,[.nilfn]),(41,[.nilfn]),(42,[.str ByteArray.empty,.int .i64 (0),.int .i64 (0)]),(43,[.str ByteArray.empty,.int .i64 (0),.int .i64 (0)]),(44,[.nilfn]),(45,[.nilfn]),(46,[.nilfn]),(47,[.nilfn]),(48,[.nilfn]),(49,[.int .i64 (0),.int .i64 (0)]),(50,[.int .i64 (0),.int .i64 (0)]),(51,[.int .i64 (0),.int .i64 (0),.int .i64 (0),.int .i64 (0)]),(52,[.int .i64 (0),.int .i64 (0),.int .i64 (0),.int .i64 (0)]),(53,[.nilfn]),(54,[.int .i64 (0),.int .i64 (0),.int .i64 (0),.int .i64 (0)]),(55,[.nilfn]),(56,[.nilfn]),(57,[.nils]),(58,[.nilfn]),(59,[.nilfn]),(60,[.nilfn]),(61,[.nilfn]),(62,[.nils,.nils,.nils]),(63,[.nils,.nils,.nils]),(65,[.nilfn]),(66,[.arr (.st 5) 10 (fun _=>⟨(0:Int),(0:Int)⟩)]),(67,[.arr (.st 5) 10 (fun _=>⟨(0:Int),(0:Int)⟩)]),(68,[.nilfn]),(69,[.nilfn]),(70,[.nilfn]),(71,[.nilfn]),(72,[.nils]),(73,[.nilfn]),(74,[.nils]),(75,[.nils]),(76,[.nils,.nils,.nils]),(77,[.nils,.nils,.nils]),(78,[.nilfn]),(79,[.nilfn]),(80,[.nilfn]),(81,[.nilfn]),(83,[.nilfn]),(84,[.nilfn]),(85,[.nilfn]),(86,[.nilfn]),(87,[.nilfn]),(88,[.nilfn]),(90,[.nilfn]),(92,[.nilfn]),(93,[.nilfn]),(94,[.nilfn]),(95,[.nilfn]),(96,[.nilfn]),(97,[.nilfn]),(98,[.nilfn]),(99,[.nilfn]),(100,[.nilfn]),(101,[.nilfn]),(102,[.nilfn]),(103,[.nils]),(105,[.nilfn]),(106,[.nilfn]),(107,[.nilfn]),(108,[.nilfn]),(109,[.int .i64 (0),.int .i64 (0)]),(110,[.int .i64 (0),.int .i64 (0)]),(111,[.nilfn]),(113,[.nilfn]),(114,[.nilfn]),(115,[.nilfn]),(116,[.int .i64 (0),.int .i64 (0)]),(117,[.int .i64 (0),.int .i64 (0)]),(118,[.nilfn]),(119,[.nilfn]),(120,[.nilfn]),(121,[.nilfn]),(122,[.nilfn]),(123,[.nilfn]),(124,[.nilfn]),(125,[.nilfn]),(126,[.nilfn]),(127,[.nilfn]),(128,[.nilfn]),(129,[.nilfn]),(130,[.nilfn]),(132,[.nilfn]),(133,[.nilfn]),(134,[.nilfn]),(135,[.nilfn]),(136,[.nilfn]),(137,[.nilfn]),(138,[.nilfn]),(139,[.nilfn]),(140,[.nilfn]),(141,[.nilmap]),(142,[.nilfn]),(143,[.nilfn]),(144,[.nilfn]),(145,[.nilfn]),(146,[.nilp]),(147,[.nils]),(148,[.nilp,.nils]),(149,[.nilp,.nils]),(150,[.nilif]),(151,[.nilif]),(153,[.nilfn]),(154,[.nilfn]),(155,[.nilfn]),(156,[.nilfn]),(157,[.nilfn]),(158,[.nilfn]),(159,[.nilfn]),(160,[.nilfn]),(161,[.int .u64 (0)]),(162,[.nilfn]),(163,[.nilp]),(164,[.nilfn]),(165,[.nilfn]),(166,[.nilfn]),(167,[.nilfn]),(168,[.nilfn]),(169,[.nilfn]),(170,[.int .i64 (0)]),(172,[.nilfn]),(173,[.nilfn]),(174,[.nilfn]),(175,[.nilfn]),(177,[.nilfn]),(178,[.nilfn]),(179,[.int .u32 (0)]),(180,[.nilfn]),(181,[.int .u64 (0)]),(182,[.nilp]),(183,[.nilfn]),(184,[.nilfn]),(186,[.nilfn]),(187,[.int .i64 (0)]),(189,[.nilfn]),(190,[.nilp]),(191,[.nilfn]),(192,[.nilfn]),(193,[.arr (.int .u8) 24 (fun _=>(0:Int))]),(194,[.nilfn]),(196,[.nilfn]),(197,[.int .u64 (0)]),(198,[.nilfn]),(199,[.nilfn]),(200,[.nilfn]),(201,[.nilp]),(202,[.nilfn]),(203,[.nilfn]),(205,[.nilfn]),(206,[.nilfn]),(207,[.str ByteArray.empty,.str ByteArray.empty,.nilif]),(208,[.str ByteArray.empty,.str ByteArray.empty,.nilif]),(209,[.nilfn]),(210,[.nilfn]),(211,[.arr (.int .u64) 20 (fun _=>(0:Int))]),(212,[.arr (.int .u8) 65 (fun _=>(0:Int))]),(213,[.nilp]),(215,[.nilfn]),(216,[.arr (.int .u8) 256 (fun _=>(0:Int))]),(217,[.int .u8 (0),.int .u8 (0)]),(218,[.int .u8 (0),.int .u8 (0)]),(219,[.arr (.st 26) 16 (fun _=>⟨(0:Int),(0:Int)⟩)]),(221,[.nilfn]),(222,[.nilfn]),(223,[.nilp]),(224,[.str ByteArray.empty]),(225,[.str ByteArray.empty]),(226,[.arr (.int .u8) 32 (fun _=>(0:Int))]),(227,[.arr (.int .u8) 64 (fun _=>(0:Int))]),(228,[.nilp,.nilp,.nilp,.str ByteArray.empty]),(229,[.nilp,.nilp,.nilp,.str ByteArray.empty]),(230,[]),(231,[]),(232,[]),(233,[.nilfn]),(234,[.int .u8 (0)]),(235,[.int .u8 (0)]),(236,[.nilfn]),(237,[.int .i32 (0)]),(238,[.int .i32 (0)]),(239,[.int .u64 (0),.int .u64 (0),.int .u32 (0),.int .u8 (0),.int .u8 (0),.int .u8 (0),.int .u8 (0),.nilfn,.nilp,.int .i32 (0),.int .i32 (0)]),(240,[.int .u64 (0),.int .u64 (0),.int .u32 (0),.int .u8 (0),.int .u8 (0),.int .u8 (0),.int .u8 (0),.nilfn,.nilp,.int .i32 (0),.int .i32 (0)])]
def codeT:Tr Ty:=Tr.ofList codeL
def zeroT:Tr (List (TV Nore.S)):=Tr.ofList zeroL
noncomputable def X:Ye Nore.S:=⟨E,Nore.T,codeT.get,zeroT.get⟩
theorem codeAll:Zeh (fun t c=>Zft Nore.T (tyT.get t) c) codeT=true:=by kernel_rfl
theorem zeroAll:Zeh (fun t z=>Zih Nore.T (tyT.get t) z) zeroT=true:=by kernel_rfl
theorem zeroLaw (t:Nat) (z:List (TV Nore.S)) (ti:TI) (h1:zeroT.get t=some z) (h2:tyT.get t=some ti):dvs Nore.T z=ti.zero:=Zii (Z6z (p:=fun t z=>Zih Nore.T (tyT.get t) z) zeroAll h1) h2
theorem codeLaw (t:Nat) (c:Ty) (ti:TI) (h1:codeT.get t=some c) (h2:tyT.get t=some ti):ti.size=tsz Nore.T c/\ti.isAgg=YV c:=Zhf (Z6z (p:=fun t c=>Zft Nore.T (tyT.get t) c) codeAll h1) h2
set_option maxRecDepth 100000 in
theorem xok:XOk X:=XOk.mk Nore.tok zeroLaw codeLaw
end Go.Proofs.YtjegmohjiejgeaaGreatDoor
open Go Go.Ab
namespace Nore
def Z4.Ok (lim:Ty->Nat) (x:Z4):Prop:=((Lit.int .i64 x.x).wf=true)/\((Lit.int .i64 x.y).wf=true)/\True/\((Lit.int .u8 x.code).wf=true)/\True
def Z1.Ok (lim:Ty->Nat) (x:Z1):Prop:=(x.msg.size<=maxLen)/\((Lit.int .u64 x.addr).wf=true)/\True
def Zj.Ok (lim:Ty->Nat) (x:Zj):Prop:=(x.Name.size<=maxLen)/\((Lit.int .i64 x.States).wf=true)/\((Lit.int .i64 x.First).wf=true)/\True
def ZZ.Ok (lim:Ty->Nat) (x:ZZ):Prop:=((Lit.int .i64 x.Lo).wf=true)/\((Lit.int .i64 x.Hi).wf=true)/\True
def Zn.Ok (lim:Ty->Nat) (x:Zn):Prop:=((Lit.int .i64 x.Device).wf=true)/\((Lit.int .i64 x.State).wf=true)/\(ZZ.Ok lim x.At)/\True
def CoRecord.Ok (lim:Ty->Nat) (x:CoRecord):Prop:=(x.Devices.length<=lim (.st 18)/\∀y0,List.Mem y0 x.Devices->(Zj.Ok lim y0))/\(x.Entries.length<=lim (.st 19)/\∀y0,List.Mem y0 x.Entries->(Zn.Ok lim y0))/\True
def Zt.Ok (lim:Ty->Nat) (x:Zt):Prop:=((Lit.int .i64 x.Device).wf=true)/\((Lit.int .i64 x.State).wf=true)/\(ZZ.Ok lim x.At)/\True
def Z9.Ok (lim:Ty->Nat) (x:Z9):Prop:=(CoRecord.Ok lim x.CoRecord)/\(x.seen.length<=lim (.st 21)/\∀y0,List.Mem y0 x.seen->(Zt.Ok lim y0))/\True
def Z6.Ok (lim:Ty->Nat) (x:Z6):Prop:=((Lit.int .i64 x.from_).wf=true)/\((Lit.int .i64 x.to_).wf=true)/\True
def Z7.Ok (lim:Ty->Nat) (x:Z7):Prop:=(x.lo.length<=lim (.int .i64)/\∀y0,List.Mem y0 x.lo->((Lit.int .i64 y0).wf=true))/\(x.hi.length<=lim (.int .i64)/\∀y0,List.Mem y0 x.hi->((Lit.int .i64 y0).wf=true))/\(x.later.length<=lim (.st 23)/\∀y0,List.Mem y0 x.later->(Z6.Ok lim y0))/\True
def Z8.Ok (lim:Ty->Nat) (x:Z8):Prop:=((Lit.int .i64 x.from_).wf=true)/\((Lit.int .i64 x.to_).wf=true)/\True
def Z2.Ok (lim:Ty->Nat) (x:Z2):Prop:=((Lit.int .u8 x.lo).wf=true)/\((Lit.int .u8 x.hi).wf=true)/\True
def Z5.Ok (lim:Ty->Nat) (x:Z5):Prop:=(x.s.size<=maxLen)/\True
def sOk (lim:Ty->Nat) (i:Nat):S i->Prop:=match i with
 | 0=>Z4.Ok lim
 | 1=>Z1.Ok lim
 | 5=>ZZ.Ok lim
 | 18=>Zj.Ok lim
 | 19=>Zn.Ok lim
 | 20=>CoRecord.Ok lim
 | 21=>Zt.Ok lim
 | 22=>Z9.Ok lim
 | 23=>Z6.Ok lim
 | 24=>Z7.Ok lim
 | 25=>Z8.Ok lim
 | 26=>Z2.Ok lim
 | 27=>Z5.Ok lim
 | 2=>fun _=>True
 | 3=>fun _=>True
 | 4=>fun _=>True
 | 6=>fun _=>True
 | 7=>fun _=>True
 | 8=>fun _=>True
 | 9=>fun _=>True
 | 10=>fun _=>True
 | 11=>fun _=>True
 | 12=>fun _=>True
 | 13=>fun _=>True
 | 14=>fun _=>True
 | 15=>fun _=>True
 | 16=>fun _=>True
 | 17=>fun _=>True
 | _+28=>fun _=>True
def flds (i:Nat):List Ty:=match i with
 | 0=>[(.int .i64),(.int .i64),.bool,(.int .u8)]
 | 1=>[.str,(.int .u64)]
 | 5=>[(.int .i64),(.int .i64)]
 | 18=>[.str,(.int .i64),(.int .i64)]
 | 19=>[(.int .i64),(.int .i64),(.st 5)]
 | 20=>[(.sl (.st 18)),(.sl (.st 19))]
 | 21=>[(.int .i64),(.int .i64),(.st 5)]
 | 22=>[(.st 20),(.sl (.st 21))]
 | 23=>[(.int .i64),(.int .i64)]
 | 24=>[(.sl (.int .i64)),(.sl (.int .i64)),(.sl (.st 23))]
 | 25=>[(.int .i64),(.int .i64)]
 | 26=>[(.int .u8),(.int .u8)]
 | 27=>[.str]
 | 2=>[]
 | 3=>[]
 | 4=>[]
 | 6=>[]
 | 7=>[]
 | 8=>[]
 | 9=>[]
 | 10=>[]
 | 11=>[]
 | 12=>[]
 | 13=>[]
 | 14=>[]
 | 15=>[]
 | 16=>[]
 | 17=>[]
 | _+28=>[]
def smk (i:Nat):Z4P S (flds i)->S i:=match i with
 | 0=>fun xs=>(⟨xs.1,xs.2.1,xs.2.2.1,xs.2.2.2.1⟩:Z4)
 | 1=>fun xs=>(⟨xs.1,xs.2.1⟩:Z1)
 | 5=>fun xs=>(⟨xs.1,xs.2.1⟩:ZZ)
 | 18=>fun xs=>(⟨xs.1,xs.2.1,xs.2.2.1⟩:Zj)
 | 19=>fun xs=>(⟨xs.1,xs.2.1,xs.2.2.1⟩:Zn)
 | 20=>fun xs=>(⟨xs.1,xs.2.1⟩:CoRecord)
 | 21=>fun xs=>(⟨xs.1,xs.2.1,xs.2.2.1⟩:Zt)
 | 22=>fun xs=>(⟨xs.1,xs.2.1⟩:Z9)
 | 23=>fun xs=>(⟨xs.1,xs.2.1⟩:Z6)
 | 24=>fun xs=>(⟨xs.1,xs.2.1,xs.2.2.1⟩:Z7)
 | 25=>fun xs=>(⟨xs.1,xs.2.1⟩:Z8)
 | 26=>fun xs=>(⟨xs.1,xs.2.1⟩:Z2)
 | 27=>fun xs=>(⟨xs.1⟩:Z5)
 | 2=>fun _=>T.dflt _
 | 3=>fun _=>T.dflt _
 | 4=>fun _=>T.dflt _
 | 6=>fun _=>T.dflt _
 | 7=>fun _=>T.dflt _
 | 8=>fun _=>T.dflt _
 | 9=>fun _=>T.dflt _
 | 10=>fun _=>T.dflt _
 | 11=>fun _=>T.dflt _
 | 12=>fun _=>T.dflt _
 | 13=>fun _=>T.dflt _
 | 14=>fun _=>T.dflt _
 | 15=>fun _=>T.dflt _
 | 16=>fun _=>T.dflt _
 | 17=>fun _=>T.dflt _
 | _+28=>fun _=>T.dflt _
theorem ZjG (i:Nat):∀xs,T.dcells i (smk i xs)=Z1K T (flds i) xs:=match i with
 | 0=>fun xs=>by
  show Z4.dl _=_;unfold Z4.dl
  first|(simp only[flds,Z1K,smk,dcl,List.append_assoc,List.append_nil];done)|(simp only[flds,Z1K,smk,dcl,List.append_assoc,List.append_nil];rfl)
 | 1=>fun xs=>by
  show Z1.dl _=_;unfold Z1.dl
  first|(simp only[flds,Z1K,smk,dcl,List.append_assoc,List.append_nil];done)|(simp only[flds,Z1K,smk,dcl,List.append_assoc,List.append_nil];rfl)
 | 5=>fun xs=>by
  show ZZ.dl _=_;unfold ZZ.dl
  first|(simp only[flds,Z1K,smk,dcl,List.append_assoc,List.append_nil];done)|(simp only[flds,Z1K,smk,dcl,List.append_assoc,List.append_nil];rfl)
 | 18=>fun xs=>by
  show Zj.dl _=_;unfold Zj.dl
  first|(simp only[flds,Z1K,smk,dcl,List.append_assoc,List.append_nil];done)|(simp only[flds,Z1K,smk,dcl,List.append_assoc,List.append_nil];rfl)
 | 19=>fun xs=>by
  show Zn.dl _=_;unfold Zn.dl
  first|(simp only[flds,Z1K,smk,dcl,List.append_assoc,List.append_nil];done)|(simp only[flds,Z1K,smk,dcl,List.append_assoc,List.append_nil];rfl)
 | 20=>fun xs=>by
  show CoRecord.dl _=_;unfold CoRecord.dl
  first|(simp only[flds,Z1K,smk,dcl,List.append_assoc,List.append_nil];done)|(simp only[flds,Z1K,smk,dcl,List.append_assoc,List.append_nil];rfl)
 | 21=>fun xs=>by
  show Zt.dl _=_;unfold Zt.dl
  first|(simp only[flds,Z1K,smk,dcl,List.append_assoc,List.append_nil];done)|(simp only[flds,Z1K,smk,dcl,List.append_assoc,List.append_nil];rfl)
 | 22=>fun xs=>by
  show Z9.dl _=_;unfold Z9.dl
  first|(simp only[flds,Z1K,smk,dcl,List.append_assoc,List.append_nil];done)|(simp only[flds,Z1K,smk,dcl,List.append_assoc,List.append_nil];rfl)
 | 23=>fun xs=>by
  show Z6.dl _=_;unfold Z6.dl
  first|(simp only[flds,Z1K,smk,dcl,List.append_assoc,List.append_nil];done)|(simp only[flds,Z1K,smk,dcl,List.append_assoc,List.append_nil];rfl)
 | 24=>fun xs=>by
  show Z7.dl _=_;unfold Z7.dl
  first|(simp only[flds,Z1K,smk,dcl,List.append_assoc,List.append_nil];done)|(simp only[flds,Z1K,smk,dcl,List.append_assoc,List.append_nil];rfl)
 | 25=>fun xs=>by
  show Z8.dl _=_;unfold Z8.dl
  first|(simp only[flds,Z1K,smk,dcl,List.append_assoc,List.append_nil];done)|(simp only[flds,Z1K,smk,dcl,List.append_assoc,List.append_nil];rfl)
 | 26=>fun xs=>by
  show Z2.dl _=_;unfold Z2.dl
  first|(simp only[flds,Z1K,smk,dcl,List.append_assoc,List.append_nil];done)|(simp only[flds,Z1K,smk,dcl,List.append_assoc,List.append_nil];rfl)
 | 27=>fun xs=>by
  show Z5.dl _=_;unfold Z5.dl
  first|(simp only[flds,Z1K,smk,dcl,List.append_assoc,List.append_nil];done)|(simp only[flds,Z1K,smk,dcl,List.append_assoc,List.append_nil];rfl)
 | 2=>fun _=>rfl
 | 3=>fun _=>rfl
 | 4=>fun _=>rfl
 | 6=>fun _=>rfl
 | 7=>fun _=>rfl
 | 8=>fun _=>rfl
 | 9=>fun _=>rfl
 | 10=>fun _=>rfl
 | 11=>fun _=>rfl
 | 12=>fun _=>rfl
 | 13=>fun _=>rfl
 | 14=>fun _=>rfl
 | 15=>fun _=>rfl
 | 16=>fun _=>rfl
 | 17=>fun _=>rfl
 | _+28=>fun _=>rfl
theorem ZjH (lim:Ty->Nat) (i:Nat):∀xs,aok lim (sOk lim) (flds i) xs->sOk lim i (smk i xs):=match i with
 | 0=>fun _ h=>h
 | 1=>fun _ h=>h
 | 5=>fun _ h=>h
 | 18=>fun _ h=>h
 | 19=>fun _ h=>h
 | 20=>fun _ h=>h
 | 21=>fun _ h=>h
 | 22=>fun _ h=>h
 | 23=>fun _ h=>h
 | 24=>fun _ h=>h
 | 25=>fun _ h=>h
 | 26=>fun _ h=>h
 | 27=>fun _ h=>h
 | 2=>fun _ _=>trivial
 | 3=>fun _ _=>trivial
 | 4=>fun _ _=>trivial
 | 6=>fun _ _=>trivial
 | 7=>fun _ _=>trivial
 | 8=>fun _ _=>trivial
 | 9=>fun _ _=>trivial
 | 10=>fun _ _=>trivial
 | 11=>fun _ _=>trivial
 | 12=>fun _ _=>trivial
 | 13=>fun _ _=>trivial
 | 14=>fun _ _=>trivial
 | 15=>fun _ _=>trivial
 | 16=>fun _ _=>trivial
 | 17=>fun _ _=>trivial
 | _+28=>fun _ _=>trivial
def F:SF T:=⟨flds,smk,sOk,ZjG,ZjH⟩
end Nore
namespace Go.Proofs.YtjegmohjiejgeaaGreatDoor
open Go.Ab Go.Proofs
def tb:Ty->Nat
 | _=>1
def limW (c:Ty):Nat:=reachBytes / tb c
theorem tbAll:Zeh (fun e c=>Nat.beq (Tryz.prog.bytesOf e) 0||Nat.ble (tb c) (Tryz.prog.bytesOf e)) codeT=true:=by kernel_rfl
theorem readAll:Zeh (fun t c=>Z9R codeT.get tyT.get (tsz Nore.T) Nore.flds (tyT.get t) c) codeT=true:=by kernel_rfl
theorem readLaw (t:Nat) (c:Ty) (h:X.code t=some c):Z9R X.code X.E.ty (tsz X.T) Nore.F.flds (X.E.ty t) c=true:=Z6z (p:=fun t c=>Z9R codeT.get tyT.get (tsz Nore.T) Nore.flds (tyT.get t) c) readAll h
end Go.Proofs.YtjegmohjiejgeaaGreatDoor
