/- The structs of the program as plain structures. -/
import Derived.Test.YtehofdemanfenaaGreatT2
import Derived.Test.YtehofdemanfenaaGreatB
import Derived.KernelRfl
set_option linter.unusedSectionVars false
set_option linter.unusedVariables false
set_option linter.unusedSimpArgs false
namespace Nore
open Go Go.Ab
@[ext] structure Z3 where
  x:Int
  y:Int
  signed:Bool
  code:Int
@[ext] structure Z1 where
  msg:ByteArray
  addr:Int
@[ext] structure Zu where
  X:Int
  Y:Int
@[ext] structure Zj where
  Day:Int
  Hz4:Int
@[ext] structure Zx where
  Name:ByteArray
  At:Zu
  Hz3:(List Zj)
@[ext] structure ZE where
  Lo:Int
  Hi:Int
@[ext] structure ZC where
  X:ZE
  Y:ZE
@[ext] structure CtSand where
  Name:ByteArray
  Hz2:(List Zu)
  Hzc:ZC
@[ext] structure Zk where
  Hz8:(List Zx)
  Hzb:(List CtSand)
@[ext] structure Z5 where
  Name:ByteArray
  Lead:Bool
  Off:ZE
@[ext] structure Zt where
  X:ZE
  Y:ZE
  Hza:ZE
  Hz5:Int
@[ext] structure ZI where
  Hz9:Zk
  Day:Int
  Hz0:(List Z5)
  Hz7:(List Zt)
  Step:Int
  Half:Int
@[ext] structure Zm where
  Hz1:Int
  Mark:Int
  Hz6:Int
  Hz5:Int
@[ext] structure Z4 where
  Place:(Nat→Int)
  Offs:(List Int)
  Taken:(List Int)
@[ext] structure Z8 where
  CtSand:CtSand
@[ext] structure Zh where
  mark:Int
  from_:Zu
@[ext] structure Z6 where
  at_:Zu
  by_:Zu
def S:Nat→Type
  | 0=>Z3
  | 1=>Z1
  | 2=>Zu
  | 3=>Zj
  | 4=>Zx
  | 5=>ZE
  | 6=>ZC
  | 7=>CtSand
  | 8=>Zk
  | 9=>Unit
  | 10=>Unit
  | 11=>Unit
  | 12=>Unit
  | 13=>Unit
  | 14=>Unit
  | 15=>Z8
  | 16=>Unit
  | 17=>Z6
  | 18=>Z5
  | 19=>Zt
  | 20=>ZI
  | 21=>Zm
  | 22=>Z4
  | 23=>Zh
  | _+24=>Unit
def Z3.cl (x:Z3):List (TV S):=[.int .i64 x.x]++[.int .i64 x.y]++[.bool x.signed]++[.int .u8 x.code]
def Z3.dl (x:Z3):List DV:=[.int .i64 x.x]++[.int .i64 x.y]++[.bool x.signed]++[.int .u8 x.code]
def Z3.df:Z3:=⟨(0:Int),(0:Int),false,(0:Int)⟩
def Z3.eqb (x y:Z3):Bool:=(x.x==y.x&&(x.y==y.y&&(x.signed==y.signed&&(x.code==y.code&&true))))
def Z3.seq:Option (Z3→Z3→Bool):=some Z3.eqb
def Z1.cl (x:Z1):List (TV S):=[.str x.msg]++[.int .u64 x.addr]
def Z1.dl (x:Z1):List DV:=[.str x.msg]++[.int .u64 x.addr]
def Z1.df:Z1:=⟨ByteArray.empty,(0:Int)⟩
def Z1.eqb (x y:Z1):Bool:=(x.msg==y.msg&&(x.addr==y.addr&&true))
def Z1.seq:Option (Z1→Z1→Bool):=some Z1.eqb
def Zu.cl (x:Zu):List (TV S):=[.int .i64 x.X]++[.int .i64 x.Y]
def Zu.dl (x:Zu):List DV:=[.int .i64 x.X]++[.int .i64 x.Y]
def Zu.df:Zu:=⟨(0:Int),(0:Int)⟩
def Zu.eqb (x y:Zu):Bool:=(x.X==y.X&&(x.Y==y.Y&&true))
def Zu.seq:Option (Zu→Zu→Bool):=some Zu.eqb
def Zj.cl (x:Zj):List (TV S):=[.int .i64 x.Day]++[.int .i64 x.Hz4]
def Zj.dl (x:Zj):List DV:=[.int .i64 x.Day]++[.int .i64 x.Hz4]
def Zj.df:Zj:=⟨(0:Int),(0:Int)⟩
def Zj.eqb (x y:Zj):Bool:=(x.Day==y.Day&&(x.Hz4==y.Hz4&&true))
def Zj.seq:Option (Zj→Zj→Bool):=some Zj.eqb
def Zx.cl (x:Zx):List (TV S):=[.str x.Name]++[.stc 2 x.At]++[.sl (.st 3) x.Hz3]
def Zx.dl (x:Zx):List DV:=[.str x.Name]++(Zu.dl x.At)++[.sl (List.map (fun y=>(Zj.dl y)) x.Hz3)]
def Zx.df:Zx:=⟨ByteArray.empty,⟨(0:Int),(0:Int)⟩,[]⟩
def Zx.seq:Option (Zx→Zx→Bool):=none
def ZE.cl (x:ZE):List (TV S):=[.int .i64 x.Lo]++[.int .i64 x.Hi]
def ZE.dl (x:ZE):List DV:=[.int .i64 x.Lo]++[.int .i64 x.Hi]
def ZE.df:ZE:=⟨(0:Int),(0:Int)⟩
def ZE.eqb (x y:ZE):Bool:=(x.Lo==y.Lo&&(x.Hi==y.Hi&&true))
def ZE.seq:Option (ZE→ZE→Bool):=some ZE.eqb
def ZC.cl (x:ZC):List (TV S):=[.stc 5 x.X]++[.stc 5 x.Y]
def ZC.dl (x:ZC):List DV:=(ZE.dl x.X)++(ZE.dl x.Y)
def ZC.df:ZC:=⟨⟨(0:Int),(0:Int)⟩,⟨(0:Int),(0:Int)⟩⟩
def ZC.eqb (x y:ZC):Bool:=(x.X.Lo==y.X.Lo&&(x.X.Hi==y.X.Hi&&(x.Y.Lo==y.Y.Lo&&(x.Y.Hi==y.Y.Hi&&true))))
def ZC.seq:Option (ZC→ZC→Bool):=some ZC.eqb
def CtSand.cl (x:CtSand):List (TV S):=[.str x.Name]++[.sl (.st 2) x.Hz2]++[.stc 6 x.Hzc]
def CtSand.dl (x:CtSand):List DV:=[.str x.Name]++[.sl (List.map (fun y=>(Zu.dl y)) x.Hz2)]++(ZC.dl x.Hzc)
def CtSand.df:CtSand:=⟨ByteArray.empty,[],⟨⟨(0:Int),(0:Int)⟩,⟨(0:Int),(0:Int)⟩⟩⟩
def CtSand.seq:Option (CtSand→CtSand→Bool):=none
def Zk.cl (x:Zk):List (TV S):=[.sl (.st 4) x.Hz8]++[.sl (.st 7) x.Hzb]
def Zk.dl (x:Zk):List DV:=[.sl (List.map (fun y=>(Zx.dl y)) x.Hz8)]++[.sl (List.map (fun y=>(CtSand.dl y)) x.Hzb)]
def Zk.df:Zk:=⟨[],[]⟩
def Zk.seq:Option (Zk→Zk→Bool):=none
def Z5.cl (x:Z5):List (TV S):=[.str x.Name]++[.bool x.Lead]++[.stc 5 x.Off]
def Z5.dl (x:Z5):List DV:=[.str x.Name]++[.bool x.Lead]++(ZE.dl x.Off)
def Z5.df:Z5:=⟨ByteArray.empty,false,⟨(0:Int),(0:Int)⟩⟩
def Z5.eqb (x y:Z5):Bool:=(x.Name==y.Name&&(x.Lead==y.Lead&&(x.Off.Lo==y.Off.Lo&&(x.Off.Hi==y.Off.Hi&&true))))
def Z5.seq:Option (Z5→Z5→Bool):=some Z5.eqb
def Zt.cl (x:Zt):List (TV S):=[.stc 5 x.X]++[.stc 5 x.Y]++[.stc 5 x.Hza]++[.int .i64 x.Hz5]
def Zt.dl (x:Zt):List DV:=(ZE.dl x.X)++(ZE.dl x.Y)++(ZE.dl x.Hza)++[.int .i64 x.Hz5]
def Zt.df:Zt:=⟨⟨(0:Int),(0:Int)⟩,⟨(0:Int),(0:Int)⟩,⟨(0:Int),(0:Int)⟩,(0:Int)⟩
def Zt.eqb (x y:Zt):Bool:=(x.X.Lo==y.X.Lo&&(x.X.Hi==y.X.Hi&&(x.Y.Lo==y.Y.Lo&&(x.Y.Hi==y.Y.Hi&&(x.Hza.Lo==y.Hza.Lo&&(x.Hza.Hi==y.Hza.Hi&&(x.Hz5==y.Hz5&&true)))))))
def Zt.seq:Option (Zt→Zt→Bool):=some Zt.eqb
def ZI.cl (x:ZI):List (TV S):=[.stc 8 x.Hz9]++[.int .i64 x.Day]++[.sl (.st 18) x.Hz0]++[.sl (.st 19) x.Hz7]++[.int .i64 x.Step]++[.int .i64 x.Half]
def ZI.dl (x:ZI):List DV:=(Zk.dl x.Hz9)++[.int .i64 x.Day]++[.sl (List.map (fun y=>(Z5.dl y)) x.Hz0)]++[.sl (List.map (fun y=>(Zt.dl y)) x.Hz7)]++[.int .i64 x.Step]++[.int .i64 x.Half]
def ZI.df:ZI:=⟨⟨[],[]⟩,(0:Int),[],[],(0:Int),(0:Int)⟩
def ZI.seq:Option (ZI→ZI→Bool):=none
def Zm.cl (x:Zm):List (TV S):=[.int .i64 x.Hz1]++[.int .i64 x.Mark]++[.int .i64 x.Hz6]++[.int .i64 x.Hz5]
def Zm.dl (x:Zm):List DV:=[.int .i64 x.Hz1]++[.int .i64 x.Mark]++[.int .i64 x.Hz6]++[.int .i64 x.Hz5]
def Zm.df:Zm:=⟨(0:Int),(0:Int),(0:Int),(0:Int)⟩
def Zm.eqb (x y:Zm):Bool:=(x.Hz1==y.Hz1&&(x.Mark==y.Mark&&(x.Hz6==y.Hz6&&(x.Hz5==y.Hz5&&true))))
def Zm.seq:Option (Zm→Zm→Bool):=some Zm.eqb
def Z4.cl (x:Z4):List (TV S):=[.arr (.int .u8) 2 x.Place]++[.sl (.int .u16) x.Offs]++[.sl (.int .u16) x.Taken]
def Z4.dl (x:Z4):List DV:=((List.range 2).flatMap fun j=>[.int .u8 (x.Place j)])++[.sl (List.map (fun y=>[.int .u16 y]) x.Offs)]++[.sl (List.map (fun y=>[.int .u16 y]) x.Taken)]
def Z4.df:Z4:=⟨(fun _=>(0:Int)),[],[]⟩
def Z4.seq:Option (Z4→Z4→Bool):=none
def Z8.cl (x:Z8):List (TV S):=[.stc 7 x.CtSand]
def Z8.dl (x:Z8):List DV:=(CtSand.dl x.CtSand)
def Z8.df:Z8:=⟨⟨ByteArray.empty,[],⟨⟨(0:Int),(0:Int)⟩,⟨(0:Int),(0:Int)⟩⟩⟩⟩
def Z8.seq:Option (Z8→Z8→Bool):=none
def Zh.cl (x:Zh):List (TV S):=[.int .i64 x.mark]++[.stc 2 x.from_]
def Zh.dl (x:Zh):List DV:=[.int .i64 x.mark]++(Zu.dl x.from_)
def Zh.df:Zh:=⟨(0:Int),⟨(0:Int),(0:Int)⟩⟩
def Zh.eqb (x y:Zh):Bool:=(x.mark==y.mark&&(x.from_.X==y.from_.X&&(x.from_.Y==y.from_.Y&&true)))
def Zh.seq:Option (Zh→Zh→Bool):=some Zh.eqb
def Z6.cl (x:Z6):List (TV S):=[.stc 2 x.at_]++[.stc 2 x.by_]
def Z6.dl (x:Z6):List DV:=(Zu.dl x.at_)++(Zu.dl x.by_)
def Z6.df:Z6:=⟨⟨(0:Int),(0:Int)⟩,⟨(0:Int),(0:Int)⟩⟩
def Z6.eqb (x y:Z6):Bool:=(x.at_.X==y.at_.X&&(x.at_.Y==y.at_.Y&&(x.by_.X==y.by_.X&&(x.by_.Y==y.by_.Y&&true))))
def Z6.seq:Option (Z6→Z6→Bool):=some Z6.eqb
def T0:TS S where
  size:=fun i=>match i with
    | 0=>4
    | 1=>2
    | 2=>2
    | 3=>2
    | 4=>4
    | 5=>2
    | 6=>4
    | 7=>6
    | 8=>2
    | 18=>4
    | 19=>7
    | 20=>7
    | 21=>4
    | 22=>4
    | 15=>6
    | 23=>3
    | 17=>4
    | _=>0
  cells:=fun i=>match i with
    | 0=>Z3.cl
    | 1=>Z1.cl
    | 2=>Zu.cl
    | 3=>Zj.cl
    | 4=>Zx.cl
    | 5=>ZE.cl
    | 6=>ZC.cl
    | 7=>CtSand.cl
    | 8=>Zk.cl
    | 9=>fun _=>[]
    | 10=>fun _=>[]
    | 11=>fun _=>[]
    | 12=>fun _=>[]
    | 13=>fun _=>[]
    | 14=>fun _=>[]
    | 15=>Z8.cl
    | 16=>fun _=>[]
    | 17=>Z6.cl
    | 18=>Z5.cl
    | 19=>Zt.cl
    | 20=>ZI.cl
    | 21=>Zm.cl
    | 22=>Z4.cl
    | 23=>Zh.cl
    | _+24=>fun _=>[]
  dcells:=fun i=>match i with
    | 0=>Z3.dl
    | 1=>Z1.dl
    | 2=>Zu.dl
    | 3=>Zj.dl
    | 4=>Zx.dl
    | 5=>ZE.dl
    | 6=>ZC.dl
    | 7=>CtSand.dl
    | 8=>Zk.dl
    | 9=>fun _=>[]
    | 10=>fun _=>[]
    | 11=>fun _=>[]
    | 12=>fun _=>[]
    | 13=>fun _=>[]
    | 14=>fun _=>[]
    | 15=>Z8.dl
    | 16=>fun _=>[]
    | 17=>Z6.dl
    | 18=>Z5.dl
    | 19=>Zt.dl
    | 20=>ZI.dl
    | 21=>Zm.dl
    | 22=>Z4.dl
    | 23=>Zh.dl
    | _+24=>fun _=>[]
  rd:=fun _ _=>none
  dflt:=fun i=>match i with
    | 0=>Z3.df
    | 1=>Z1.df
    | 2=>Zu.df
    | 3=>Zj.df
    | 4=>Zx.df
    | 5=>ZE.df
    | 6=>ZC.df
    | 7=>CtSand.df
    | 8=>Zk.df
    | 9=>()
    | 10=>()
    | 11=>()
    | 12=>()
    | 13=>()
    | 14=>()
    | 15=>Z8.df
    | 16=>()
    | 17=>Z6.df
    | 18=>Z5.df
    | 19=>Zt.df
    | 20=>ZI.df
    | 21=>Zm.df
    | 22=>Z4.df
    | 23=>Zh.df
    | _+24=>()
  seq:=fun _=>none
def Z3.rd (cs:List (TV S)):Option (Z3×List (TV S)):=(YW .i64 cs).bind fun a0=>(YW .i64 a0.2).bind fun a1=>(Z5R a1.2).bind fun a2=>(YW .u8 a2.2).bind fun a3=>some (⟨a0.1,a1.1,a2.1,a3.1⟩,a3.2)
def Z1.rd (cs:List (TV S)):Option (Z1×List (TV S)):=(Z6s cs).bind fun a0=>(YW .u64 a0.2).bind fun a1=>some (⟨a0.1,a1.1⟩,a1.2)
def Zu.rd (cs:List (TV S)):Option (Zu×List (TV S)):=(YW .i64 cs).bind fun a0=>(YW .i64 a0.2).bind fun a1=>some (⟨a0.1,a1.1⟩,a1.2)
def Zj.rd (cs:List (TV S)):Option (Zj×List (TV S)):=(YW .i64 cs).bind fun a0=>(YW .i64 a0.2).bind fun a1=>some (⟨a0.1,a1.1⟩,a1.2)
def Zx.rd (cs:List (TV S)):Option (Zx×List (TV S)):=(Z6s cs).bind fun a0=>((fun cs=>rdW (S:=S) 2 Zu.rd (Z1g T0 2 6 cs)) a0.2).bind fun a1=>(Z7M (S:=S) (.st 3) a1.2).bind fun a2=>some (⟨a0.1,a1.1,a2.1⟩,a2.2)
def ZE.rd (cs:List (TV S)):Option (ZE×List (TV S)):=(YW .i64 cs).bind fun a0=>(YW .i64 a0.2).bind fun a1=>some (⟨a0.1,a1.1⟩,a1.2)
def ZC.rd (cs:List (TV S)):Option (ZC×List (TV S)):=((fun cs=>rdW (S:=S) 5 ZE.rd (Z1g T0 5 6 cs)) cs).bind fun a0=>((fun cs=>rdW (S:=S) 5 ZE.rd (Z1g T0 5 6 cs)) a0.2).bind fun a1=>some (⟨a0.1,a1.1⟩,a1.2)
def CtSand.rd (cs:List (TV S)):Option (CtSand×List (TV S)):=(Z6s cs).bind fun a0=>(Z7M (S:=S) (.st 2) a0.2).bind fun a1=>((fun cs=>rdW (S:=S) 6 ZC.rd (Z1g T0 6 6 cs)) a1.2).bind fun a2=>some (⟨a0.1,a1.1,a2.1⟩,a2.2)
def Zk.rd (cs:List (TV S)):Option (Zk×List (TV S)):=(Z7M (S:=S) (.st 4) cs).bind fun a0=>(Z7M (S:=S) (.st 7) a0.2).bind fun a1=>some (⟨a0.1,a1.1⟩,a1.2)
def Z5.rd (cs:List (TV S)):Option (Z5×List (TV S)):=(Z6s cs).bind fun a0=>(Z5R a0.2).bind fun a1=>((fun cs=>rdW (S:=S) 5 ZE.rd (Z1g T0 5 6 cs)) a1.2).bind fun a2=>some (⟨a0.1,a1.1,a2.1⟩,a2.2)
def Zt.rd (cs:List (TV S)):Option (Zt×List (TV S)):=((fun cs=>rdW (S:=S) 5 ZE.rd (Z1g T0 5 6 cs)) cs).bind fun a0=>((fun cs=>rdW (S:=S) 5 ZE.rd (Z1g T0 5 6 cs)) a0.2).bind fun a1=>((fun cs=>rdW (S:=S) 5 ZE.rd (Z1g T0 5 6 cs)) a1.2).bind fun a2=>(YW .i64 a2.2).bind fun a3=>some (⟨a0.1,a1.1,a2.1,a3.1⟩,a3.2)
def ZI.rd (cs:List (TV S)):Option (ZI×List (TV S)):=((fun cs=>rdW (S:=S) 8 Zk.rd (Z1g T0 8 6 cs)) cs).bind fun a0=>(YW .i64 a0.2).bind fun a1=>(Z7M (S:=S) (.st 18) a1.2).bind fun a2=>(Z7M (S:=S) (.st 19) a2.2).bind fun a3=>(YW .i64 a3.2).bind fun a4=>(YW .i64 a4.2).bind fun a5=>some (⟨a0.1,a1.1,a2.1,a3.1,a4.1,a5.1⟩,a5.2)
def Zm.rd (cs:List (TV S)):Option (Zm×List (TV S)):=(YW .i64 cs).bind fun a0=>(YW .i64 a0.2).bind fun a1=>(YW .i64 a1.2).bind fun a2=>(YW .i64 a2.2).bind fun a3=>some (⟨a0.1,a1.1,a2.1,a3.1⟩,a3.2)
def Z4.rd (cs:List (TV S)):Option (Z4×List (TV S)):=(Zc0 (S:=S) 2 (.int .u8) cs).bind fun a0=>(Z7M (S:=S) (.int .u16) a0.2).bind fun a1=>(Z7M (S:=S) (.int .u16) a1.2).bind fun a2=>some (⟨a0.1,a1.1,a2.1⟩,a2.2)
def Z8.rd (cs:List (TV S)):Option (Z8×List (TV S)):=((fun cs=>rdW (S:=S) 7 CtSand.rd (Z1g T0 7 6 cs)) cs).bind fun a0=>some (⟨a0.1⟩,a0.2)
def Zh.rd (cs:List (TV S)):Option (Zh×List (TV S)):=(YW .i64 cs).bind fun a0=>((fun cs=>rdW (S:=S) 2 Zu.rd (Z1g T0 2 6 cs)) a0.2).bind fun a1=>some (⟨a0.1,a1.1⟩,a1.2)
def Z6.rd (cs:List (TV S)):Option (Z6×List (TV S)):=((fun cs=>rdW (S:=S) 2 Zu.rd (Z1g T0 2 6 cs)) cs).bind fun a0=>((fun cs=>rdW (S:=S) 2 Zu.rd (Z1g T0 2 6 cs)) a0.2).bind fun a1=>some (⟨a0.1,a1.1⟩,a1.2)
def T:TS S where
  size:=fun i=>match i with
    | 0=>4
    | 1=>2
    | 2=>2
    | 3=>2
    | 4=>4
    | 5=>2
    | 6=>4
    | 7=>6
    | 8=>2
    | 18=>4
    | 19=>7
    | 20=>7
    | 21=>4
    | 22=>4
    | 15=>6
    | 23=>3
    | 17=>4
    | _=>0
  cells:=fun i=>match i with
    | 0=>Z3.cl
    | 1=>Z1.cl
    | 2=>Zu.cl
    | 3=>Zj.cl
    | 4=>Zx.cl
    | 5=>ZE.cl
    | 6=>ZC.cl
    | 7=>CtSand.cl
    | 8=>Zk.cl
    | 9=>fun _=>[]
    | 10=>fun _=>[]
    | 11=>fun _=>[]
    | 12=>fun _=>[]
    | 13=>fun _=>[]
    | 14=>fun _=>[]
    | 15=>Z8.cl
    | 16=>fun _=>[]
    | 17=>Z6.cl
    | 18=>Z5.cl
    | 19=>Zt.cl
    | 20=>ZI.cl
    | 21=>Zm.cl
    | 22=>Z4.cl
    | 23=>Zh.cl
    | _+24=>fun _=>[]
  dcells:=fun i=>match i with
    | 0=>Z3.dl
    | 1=>Z1.dl
    | 2=>Zu.dl
    | 3=>Zj.dl
    | 4=>Zx.dl
    | 5=>ZE.dl
    | 6=>ZC.dl
    | 7=>CtSand.dl
    | 8=>Zk.dl
    | 9=>fun _=>[]
    | 10=>fun _=>[]
    | 11=>fun _=>[]
    | 12=>fun _=>[]
    | 13=>fun _=>[]
    | 14=>fun _=>[]
    | 15=>Z8.dl
    | 16=>fun _=>[]
    | 17=>Z6.dl
    | 18=>Z5.dl
    | 19=>Zt.dl
    | 20=>ZI.dl
    | 21=>Zm.dl
    | 22=>Z4.dl
    | 23=>Zh.dl
    | _+24=>fun _=>[]
  rd:=fun i=>match i with
    | 0=>Z3.rd
    | 1=>Z1.rd
    | 2=>Zu.rd
    | 3=>Zj.rd
    | 4=>Zx.rd
    | 5=>ZE.rd
    | 6=>ZC.rd
    | 7=>CtSand.rd
    | 8=>Zk.rd
    | 9=>fun cs=>some ((),cs)
    | 10=>fun cs=>some ((),cs)
    | 11=>fun cs=>some ((),cs)
    | 12=>fun cs=>some ((),cs)
    | 13=>fun cs=>some ((),cs)
    | 14=>fun cs=>some ((),cs)
    | 15=>Z8.rd
    | 16=>fun cs=>some ((),cs)
    | 17=>Z6.rd
    | 18=>Z5.rd
    | 19=>Zt.rd
    | 20=>ZI.rd
    | 21=>Zm.rd
    | 22=>Z4.rd
    | 23=>Zh.rd
    | _+24=>fun cs=>some ((),cs)
  dflt:=fun i=>match i with
    | 0=>Z3.df
    | 1=>Z1.df
    | 2=>Zu.df
    | 3=>Zj.df
    | 4=>Zx.df
    | 5=>ZE.df
    | 6=>ZC.df
    | 7=>CtSand.df
    | 8=>Zk.df
    | 9=>()
    | 10=>()
    | 11=>()
    | 12=>()
    | 13=>()
    | 14=>()
    | 15=>Z8.df
    | 16=>()
    | 17=>Z6.df
    | 18=>Z5.df
    | 19=>Zt.df
    | 20=>ZI.df
    | 21=>Zm.df
    | 22=>Z4.df
    | 23=>Zh.df
    | _+24=>()
  seq:=fun i=>match i with
    | 0=>Z3.seq
    | 1=>Z1.seq
    | 2=>Zu.seq
    | 3=>Zj.seq
    | 4=>Zx.seq
    | 5=>ZE.seq
    | 6=>ZC.seq
    | 7=>CtSand.seq
    | 8=>Zk.seq
    | 9=>none
    | 10=>none
    | 11=>none
    | 12=>none
    | 13=>none
    | 14=>none
    | 15=>Z8.seq
    | 16=>none
    | 17=>Z6.seq
    | 18=>Z5.seq
    | 19=>Zt.seq
    | 20=>ZI.seq
    | 21=>Zm.seq
    | 22=>Z4.seq
    | 23=>Zh.seq
    | _+24=>none
abbrev dT (cs:List (TV S)):List DV:=dvs T cs
theorem Z3.cl_ok (x:Z3):dvs T (Z3.cl x)=Z3.dl x:=rfl
theorem Z1.cl_ok (x:Z1):dvs T (Z1.cl x)=Z1.dl x:=rfl
theorem Zu.cl_ok (x:Zu):dvs T (Zu.cl x)=Zu.dl x:=rfl
theorem Zj.cl_ok (x:Zj):dvs T (Zj.cl x)=Zj.dl x:=rfl
theorem Zx.cl_ok (x:Zx):dvs T (Zx.cl x)=Zx.dl x:=rfl
theorem ZE.cl_ok (x:ZE):dvs T (ZE.cl x)=ZE.dl x:=rfl
theorem ZC.cl_ok (x:ZC):dvs T (ZC.cl x)=ZC.dl x:=rfl
theorem CtSand.cl_ok (x:CtSand):dvs T (CtSand.cl x)=CtSand.dl x:=rfl
theorem Zk.cl_ok (x:Zk):dvs T (Zk.cl x)=Zk.dl x:=rfl
theorem Z5.cl_ok (x:Z5):dvs T (Z5.cl x)=Z5.dl x:=rfl
theorem Zt.cl_ok (x:Zt):dvs T (Zt.cl x)=Zt.dl x:=rfl
theorem ZI.cl_ok (x:ZI):dvs T (ZI.cl x)=ZI.dl x:=rfl
theorem Zm.cl_ok (x:Zm):dvs T (Zm.cl x)=Zm.dl x:=rfl
theorem Z4.cl_ok (x:Z4):dvs T (Z4.cl x)=Z4.dl x:=rfl
theorem Z8.cl_ok (x:Z8):dvs T (Z8.cl x)=Z8.dl x:=rfl
theorem Zh.cl_ok (x:Zh):dvs T (Zh.cl x)=Zh.dl x:=rfl
theorem Z6.cl_ok (x:Z6):dvs T (Z6.cl x)=Z6.dl x:=rfl
theorem Zfc:∀ i (x:S i),dvs T (T0.cells i x)=T.dcells i x :=
   fun i=>match i with
    | 0=>Z3.cl_ok
    | 1=>Z1.cl_ok
    | 2=>Zu.cl_ok
    | 3=>Zj.cl_ok
    | 4=>Zx.cl_ok
    | 5=>ZE.cl_ok
    | 6=>ZC.cl_ok
    | 7=>CtSand.cl_ok
    | 8=>Zk.cl_ok
    | 9=>fun _=>rfl
    | 10=>fun _=>rfl
    | 11=>fun _=>rfl
    | 12=>fun _=>rfl
    | 13=>fun _=>rfl
    | 14=>fun _=>rfl
    | 15=>Z8.cl_ok
    | 16=>fun _=>rfl
    | 17=>Z6.cl_ok
    | 18=>Z5.cl_ok
    | 19=>Zt.cl_ok
    | 20=>ZI.cl_ok
    | 21=>Zm.cl_ok
    | 22=>Z4.cl_ok
    | 23=>Zh.cl_ok
    | _+24=>fun _=>rfl
theorem Yf (i:Nat):∀ (n:Nat) (cs:List (TV S)),dvs T (Z1g T0 i n cs)=dvs T cs:=Z83 (T:=T) (T0:=T0) Zfc i
theorem Z3.len_ok (x:Z3):(Z3.dl x).length=4:=rfl
theorem Z3.pl_ok (x:Z3):(Z3.dl x).all plain=true:=rfl
theorem Z3.seq_ok (e:Z3→Z3→Bool) (h:Z3.seq=some e) (x y:Z3):Zg (Z3.dl x) (Z3.dl y)=some (e x y):=by
  cases h;rfl
theorem Z3.rd_ok {cs r:List (TV S)} {x:Z3} (h:Z3.rd cs=some (x,r)):dvs T cs=Z3.dl x++dvs T r:=by
  unfold Z3.rd at h
  obtain ⟨⟨a0,r0⟩,h0,h⟩:=Z0 h
  obtain ⟨⟨a1,r1⟩,h1,h⟩:=Z0 h
  obtain ⟨⟨a2,r2⟩,h2,h⟩:=Z0 h
  obtain ⟨⟨a3,r3⟩,h3,h⟩:=Z0 h
  cases h
  rw [ZV h0,ZV h1,Z8S h2,ZV h3]
  rfl
theorem Z1.len_ok (x:Z1):(Z1.dl x).length=2:=rfl
theorem Z1.pl_ok (x:Z1):(Z1.dl x).all plain=true:=rfl
theorem Z1.seq_ok (e:Z1→Z1→Bool) (h:Z1.seq=some e) (x y:Z1):Zg (Z1.dl x) (Z1.dl y)=some (e x y):=by
  cases h;rfl
theorem Z1.rd_ok {cs r:List (TV S)} {x:Z1} (h:Z1.rd cs=some (x,r)):dvs T cs=Z1.dl x++dvs T r:=by
  unfold Z1.rd at h
  obtain ⟨⟨a0,r0⟩,h0,h⟩:=Z0 h
  obtain ⟨⟨a1,r1⟩,h1,h⟩:=Z0 h
  cases h
  rw [Z58 h0,ZV h1]
  rfl
theorem Zu.len_ok (x:Zu):(Zu.dl x).length=2:=rfl
theorem Zu.pl_ok (x:Zu):(Zu.dl x).all plain=true:=rfl
theorem Zu.seq_ok (e:Zu→Zu→Bool) (h:Zu.seq=some e) (x y:Zu):Zg (Zu.dl x) (Zu.dl y)=some (e x y):=by
  cases h;rfl
theorem Zu.rd_ok {cs r:List (TV S)} {x:Zu} (h:Zu.rd cs=some (x,r)):dvs T cs=Zu.dl x++dvs T r:=by
  unfold Zu.rd at h
  obtain ⟨⟨a0,r0⟩,h0,h⟩:=Z0 h
  obtain ⟨⟨a1,r1⟩,h1,h⟩:=Z0 h
  cases h
  rw [ZV h0,ZV h1]
  rfl
theorem Zj.len_ok (x:Zj):(Zj.dl x).length=2:=rfl
theorem Zj.pl_ok (x:Zj):(Zj.dl x).all plain=true:=rfl
theorem Zj.seq_ok (e:Zj→Zj→Bool) (h:Zj.seq=some e) (x y:Zj):Zg (Zj.dl x) (Zj.dl y)=some (e x y):=by
  cases h;rfl
theorem Zj.rd_ok {cs r:List (TV S)} {x:Zj} (h:Zj.rd cs=some (x,r)):dvs T cs=Zj.dl x++dvs T r:=by
  unfold Zj.rd at h
  obtain ⟨⟨a0,r0⟩,h0,h⟩:=Z0 h
  obtain ⟨⟨a1,r1⟩,h1,h⟩:=Z0 h
  cases h
  rw [ZV h0,ZV h1]
  rfl
theorem Zx.len_ok (x:Zx):(Zx.dl x).length=4:=rfl
theorem Zx.pl_ok (x:Zx):(Zx.dl x).all plain=true:=rfl
theorem Zx.seq_ok (e:Zx→Zx→Bool) (h:Zx.seq=some e) (x y:Zx):Zg (Zx.dl x) (Zx.dl y)=some (e x y):=by cases h
theorem Zx.rd_ok {cs r:List (TV S)} {x:Zx} (h:Zx.rd cs=some (x,r)):dvs T cs=Zx.dl x++dvs T r:=by
  unfold Zx.rd at h
  obtain ⟨⟨a0,r0⟩,h0,h⟩:=Z0 h
  obtain ⟨⟨a1,r1⟩,h1,h⟩:=Z0 h
  obtain ⟨⟨a2,r2⟩,h2,h⟩:=Z0 h
  cases h
  rw [Z58 h0,←Yf 2 6,YX (T:=T) (fun _ _ _ h=>Zu.rd_ok h) h1,Z1J h2]
  rfl
theorem ZE.len_ok (x:ZE):(ZE.dl x).length=2:=rfl
theorem ZE.pl_ok (x:ZE):(ZE.dl x).all plain=true:=rfl
theorem ZE.seq_ok (e:ZE→ZE→Bool) (h:ZE.seq=some e) (x y:ZE):Zg (ZE.dl x) (ZE.dl y)=some (e x y):=by
  cases h;rfl
theorem ZE.rd_ok {cs r:List (TV S)} {x:ZE} (h:ZE.rd cs=some (x,r)):dvs T cs=ZE.dl x++dvs T r:=by
  unfold ZE.rd at h
  obtain ⟨⟨a0,r0⟩,h0,h⟩:=Z0 h
  obtain ⟨⟨a1,r1⟩,h1,h⟩:=Z0 h
  cases h
  rw [ZV h0,ZV h1]
  rfl
theorem ZC.len_ok (x:ZC):(ZC.dl x).length=4:=rfl
theorem ZC.pl_ok (x:ZC):(ZC.dl x).all plain=true:=rfl
theorem ZC.seq_ok (e:ZC→ZC→Bool) (h:ZC.seq=some e) (x y:ZC):Zg (ZC.dl x) (ZC.dl y)=some (e x y):=by
  cases h;rfl
theorem ZC.rd_ok {cs r:List (TV S)} {x:ZC} (h:ZC.rd cs=some (x,r)):dvs T cs=ZC.dl x++dvs T r:=by
  unfold ZC.rd at h
  obtain ⟨⟨a0,r0⟩,h0,h⟩:=Z0 h
  obtain ⟨⟨a1,r1⟩,h1,h⟩:=Z0 h
  cases h
  rw [←Yf 5 6,YX (T:=T) (fun _ _ _ h=>ZE.rd_ok h) h0,←Yf 5 6,YX (T:=T) (fun _ _ _ h=>ZE.rd_ok h) h1]
  rfl
theorem CtSand.len_ok (x:CtSand):(CtSand.dl x).length=6:=rfl
theorem CtSand.pl_ok (x:CtSand):(CtSand.dl x).all plain=true:=rfl
theorem CtSand.seq_ok (e:CtSand→CtSand→Bool) (h:CtSand.seq=some e) (x y:CtSand):Zg (CtSand.dl x) (CtSand.dl y)=some (e x y):=by cases h
theorem CtSand.rd_ok {cs r:List (TV S)} {x:CtSand} (h:CtSand.rd cs=some (x,r)):dvs T cs=CtSand.dl x++dvs T r:=by
  unfold CtSand.rd at h
  obtain ⟨⟨a0,r0⟩,h0,h⟩:=Z0 h
  obtain ⟨⟨a1,r1⟩,h1,h⟩:=Z0 h
  obtain ⟨⟨a2,r2⟩,h2,h⟩:=Z0 h
  cases h
  rw [Z58 h0,Z1J h1,←Yf 6 6,YX (T:=T) (fun _ _ _ h=>ZC.rd_ok h) h2]
  rfl
theorem Zk.len_ok (x:Zk):(Zk.dl x).length=2:=rfl
theorem Zk.pl_ok (x:Zk):(Zk.dl x).all plain=true:=rfl
theorem Zk.seq_ok (e:Zk→Zk→Bool) (h:Zk.seq=some e) (x y:Zk):Zg (Zk.dl x) (Zk.dl y)=some (e x y):=by cases h
theorem Zk.rd_ok {cs r:List (TV S)} {x:Zk} (h:Zk.rd cs=some (x,r)):dvs T cs=Zk.dl x++dvs T r:=by
  unfold Zk.rd at h
  obtain ⟨⟨a0,r0⟩,h0,h⟩:=Z0 h
  obtain ⟨⟨a1,r1⟩,h1,h⟩:=Z0 h
  cases h
  rw [Z1J h0,Z1J h1]
  rfl
theorem Z5.len_ok (x:Z5):(Z5.dl x).length=4:=rfl
theorem Z5.pl_ok (x:Z5):(Z5.dl x).all plain=true:=rfl
theorem Z5.seq_ok (e:Z5→Z5→Bool) (h:Z5.seq=some e) (x y:Z5):Zg (Z5.dl x) (Z5.dl y)=some (e x y):=by
  cases h;rfl
theorem Z5.rd_ok {cs r:List (TV S)} {x:Z5} (h:Z5.rd cs=some (x,r)):dvs T cs=Z5.dl x++dvs T r:=by
  unfold Z5.rd at h
  obtain ⟨⟨a0,r0⟩,h0,h⟩:=Z0 h
  obtain ⟨⟨a1,r1⟩,h1,h⟩:=Z0 h
  obtain ⟨⟨a2,r2⟩,h2,h⟩:=Z0 h
  cases h
  rw [Z58 h0,Z8S h1,←Yf 5 6,YX (T:=T) (fun _ _ _ h=>ZE.rd_ok h) h2]
  rfl
theorem Zt.len_ok (x:Zt):(Zt.dl x).length=7:=rfl
theorem Zt.pl_ok (x:Zt):(Zt.dl x).all plain=true:=rfl
theorem Zt.seq_ok (e:Zt→Zt→Bool) (h:Zt.seq=some e) (x y:Zt):Zg (Zt.dl x) (Zt.dl y)=some (e x y):=by
  cases h;rfl
theorem Zt.rd_ok {cs r:List (TV S)} {x:Zt} (h:Zt.rd cs=some (x,r)):dvs T cs=Zt.dl x++dvs T r:=by
  unfold Zt.rd at h
  obtain ⟨⟨a0,r0⟩,h0,h⟩:=Z0 h
  obtain ⟨⟨a1,r1⟩,h1,h⟩:=Z0 h
  obtain ⟨⟨a2,r2⟩,h2,h⟩:=Z0 h
  obtain ⟨⟨a3,r3⟩,h3,h⟩:=Z0 h
  cases h
  rw [←Yf 5 6,YX (T:=T) (fun _ _ _ h=>ZE.rd_ok h) h0,←Yf 5 6,YX (T:=T) (fun _ _ _ h=>ZE.rd_ok h) h1,←Yf 5 6,YX (T:=T) (fun _ _ _ h=>ZE.rd_ok h) h2,ZV h3]
  rfl
theorem ZI.len_ok (x:ZI):(ZI.dl x).length=7:=rfl
theorem ZI.pl_ok (x:ZI):(ZI.dl x).all plain=true:=rfl
theorem ZI.seq_ok (e:ZI→ZI→Bool) (h:ZI.seq=some e) (x y:ZI):Zg (ZI.dl x) (ZI.dl y)=some (e x y):=by cases h
theorem ZI.rd_ok {cs r:List (TV S)} {x:ZI} (h:ZI.rd cs=some (x,r)):dvs T cs=ZI.dl x++dvs T r:=by
  unfold ZI.rd at h
  obtain ⟨⟨a0,r0⟩,h0,h⟩:=Z0 h
  obtain ⟨⟨a1,r1⟩,h1,h⟩:=Z0 h
  obtain ⟨⟨a2,r2⟩,h2,h⟩:=Z0 h
  obtain ⟨⟨a3,r3⟩,h3,h⟩:=Z0 h
  obtain ⟨⟨a4,r4⟩,h4,h⟩:=Z0 h
  obtain ⟨⟨a5,r5⟩,h5,h⟩:=Z0 h
  cases h
  rw [←Yf 8 6,YX (T:=T) (fun _ _ _ h=>Zk.rd_ok h) h0,ZV h1,Z1J h2,Z1J h3,ZV h4,ZV h5]
  rfl
theorem Zm.len_ok (x:Zm):(Zm.dl x).length=4:=rfl
theorem Zm.pl_ok (x:Zm):(Zm.dl x).all plain=true:=rfl
theorem Zm.seq_ok (e:Zm→Zm→Bool) (h:Zm.seq=some e) (x y:Zm):Zg (Zm.dl x) (Zm.dl y)=some (e x y):=by
  cases h;rfl
theorem Zm.rd_ok {cs r:List (TV S)} {x:Zm} (h:Zm.rd cs=some (x,r)):dvs T cs=Zm.dl x++dvs T r:=by
  unfold Zm.rd at h
  obtain ⟨⟨a0,r0⟩,h0,h⟩:=Z0 h
  obtain ⟨⟨a1,r1⟩,h1,h⟩:=Z0 h
  obtain ⟨⟨a2,r2⟩,h2,h⟩:=Z0 h
  obtain ⟨⟨a3,r3⟩,h3,h⟩:=Z0 h
  cases h
  rw [ZV h0,ZV h1,ZV h2,ZV h3]
  rfl
theorem Z4.len_ok (x:Z4):(Z4.dl x).length=4:=rfl
theorem Z4.pl_ok (x:Z4):(Z4.dl x).all plain=true:=rfl
theorem Z4.seq_ok (e:Z4→Z4→Bool) (h:Z4.seq=some e) (x y:Z4):Zg (Z4.dl x) (Z4.dl y)=some (e x y):=by cases h
theorem Z4.rd_ok {cs r:List (TV S)} {x:Z4} (h:Z4.rd cs=some (x,r)):dvs T cs=Z4.dl x++dvs T r:=by
  unfold Z4.rd at h
  obtain ⟨⟨a0,r0⟩,h0,h⟩:=Z0 h
  obtain ⟨⟨a1,r1⟩,h1,h⟩:=Z0 h
  obtain ⟨⟨a2,r2⟩,h2,h⟩:=Z0 h
  cases h
  rw [ZeK h0,Z1J h1,Z1J h2]
  rfl
theorem Z8.len_ok (x:Z8):(Z8.dl x).length=6:=rfl
theorem Z8.pl_ok (x:Z8):(Z8.dl x).all plain=true:=rfl
theorem Z8.seq_ok (e:Z8→Z8→Bool) (h:Z8.seq=some e) (x y:Z8):Zg (Z8.dl x) (Z8.dl y)=some (e x y):=by cases h
theorem Z8.rd_ok {cs r:List (TV S)} {x:Z8} (h:Z8.rd cs=some (x,r)):dvs T cs=Z8.dl x++dvs T r:=by
  unfold Z8.rd at h
  obtain ⟨⟨a0,r0⟩,h0,h⟩:=Z0 h
  cases h
  rw [←Yf 7 6,YX (T:=T) (fun _ _ _ h=>CtSand.rd_ok h) h0]
  rfl
theorem Zh.len_ok (x:Zh):(Zh.dl x).length=3:=rfl
theorem Zh.pl_ok (x:Zh):(Zh.dl x).all plain=true:=rfl
theorem Zh.seq_ok (e:Zh→Zh→Bool) (h:Zh.seq=some e) (x y:Zh):Zg (Zh.dl x) (Zh.dl y)=some (e x y):=by
  cases h;rfl
theorem Zh.rd_ok {cs r:List (TV S)} {x:Zh} (h:Zh.rd cs=some (x,r)):dvs T cs=Zh.dl x++dvs T r:=by
  unfold Zh.rd at h
  obtain ⟨⟨a0,r0⟩,h0,h⟩:=Z0 h
  obtain ⟨⟨a1,r1⟩,h1,h⟩:=Z0 h
  cases h
  rw [ZV h0,←Yf 2 6,YX (T:=T) (fun _ _ _ h=>Zu.rd_ok h) h1]
  rfl
theorem Z6.len_ok (x:Z6):(Z6.dl x).length=4:=rfl
theorem Z6.pl_ok (x:Z6):(Z6.dl x).all plain=true:=rfl
theorem Z6.seq_ok (e:Z6→Z6→Bool) (h:Z6.seq=some e) (x y:Z6):Zg (Z6.dl x) (Z6.dl y)=some (e x y):=by
  cases h;rfl
theorem Z6.rd_ok {cs r:List (TV S)} {x:Z6} (h:Z6.rd cs=some (x,r)):dvs T cs=Z6.dl x++dvs T r:=by
  unfold Z6.rd at h
  obtain ⟨⟨a0,r0⟩,h0,h⟩:=Z0 h
  obtain ⟨⟨a1,r1⟩,h1,h⟩:=Z0 h
  cases h
  rw [←Yf 2 6,YX (T:=T) (fun _ _ _ h=>Zu.rd_ok h) h0,←Yf 2 6,YX (T:=T) (fun _ _ _ h=>Zu.rd_ok h) h1]
  rfl
theorem tok:TOk T where
  cells:=fun i=>match i with
    | 0=>Z3.cl_ok
    | 1=>Z1.cl_ok
    | 2=>Zu.cl_ok
    | 3=>Zj.cl_ok
    | 4=>Zx.cl_ok
    | 5=>ZE.cl_ok
    | 6=>ZC.cl_ok
    | 7=>CtSand.cl_ok
    | 8=>Zk.cl_ok
    | 9=>fun _=>rfl
    | 10=>fun _=>rfl
    | 11=>fun _=>rfl
    | 12=>fun _=>rfl
    | 13=>fun _=>rfl
    | 14=>fun _=>rfl
    | 15=>Z8.cl_ok
    | 16=>fun _=>rfl
    | 17=>Z6.cl_ok
    | 18=>Z5.cl_ok
    | 19=>Zt.cl_ok
    | 20=>ZI.cl_ok
    | 21=>Zm.cl_ok
    | 22=>Z4.cl_ok
    | 23=>Zh.cl_ok
    | _+24=>fun _=>rfl
  len:=fun i=>match i with
    | 0=>Z3.len_ok
    | 1=>Z1.len_ok
    | 2=>Zu.len_ok
    | 3=>Zj.len_ok
    | 4=>Zx.len_ok
    | 5=>ZE.len_ok
    | 6=>ZC.len_ok
    | 7=>CtSand.len_ok
    | 8=>Zk.len_ok
    | 9=>fun _=>rfl
    | 10=>fun _=>rfl
    | 11=>fun _=>rfl
    | 12=>fun _=>rfl
    | 13=>fun _=>rfl
    | 14=>fun _=>rfl
    | 15=>Z8.len_ok
    | 16=>fun _=>rfl
    | 17=>Z6.len_ok
    | 18=>Z5.len_ok
    | 19=>Zt.len_ok
    | 20=>ZI.len_ok
    | 21=>Zm.len_ok
    | 22=>Z4.len_ok
    | 23=>Zh.len_ok
    | _+24=>fun _=>rfl
  rd:=fun i=>match i with
    | 0=>fun _ _ _ h=>Z3.rd_ok h
    | 1=>fun _ _ _ h=>Z1.rd_ok h
    | 2=>fun _ _ _ h=>Zu.rd_ok h
    | 3=>fun _ _ _ h=>Zj.rd_ok h
    | 4=>fun _ _ _ h=>Zx.rd_ok h
    | 5=>fun _ _ _ h=>ZE.rd_ok h
    | 6=>fun _ _ _ h=>ZC.rd_ok h
    | 7=>fun _ _ _ h=>CtSand.rd_ok h
    | 8=>fun _ _ _ h=>Zk.rd_ok h
    | 9=>fun _ _ _ h=>by cases h;rfl
    | 10=>fun _ _ _ h=>by cases h;rfl
    | 11=>fun _ _ _ h=>by cases h;rfl
    | 12=>fun _ _ _ h=>by cases h;rfl
    | 13=>fun _ _ _ h=>by cases h;rfl
    | 14=>fun _ _ _ h=>by cases h;rfl
    | 15=>fun _ _ _ h=>Z8.rd_ok h
    | 16=>fun _ _ _ h=>by cases h;rfl
    | 17=>fun _ _ _ h=>Z6.rd_ok h
    | 18=>fun _ _ _ h=>Z5.rd_ok h
    | 19=>fun _ _ _ h=>Zt.rd_ok h
    | 20=>fun _ _ _ h=>ZI.rd_ok h
    | 21=>fun _ _ _ h=>Zm.rd_ok h
    | 22=>fun _ _ _ h=>Z4.rd_ok h
    | 23=>fun _ _ _ h=>Zh.rd_ok h
    | _+24=>fun _ _ _ h=>by cases h;rfl
  plain:=fun i=>match i with
    | 0=>Z3.pl_ok
    | 1=>Z1.pl_ok
    | 2=>Zu.pl_ok
    | 3=>Zj.pl_ok
    | 4=>Zx.pl_ok
    | 5=>ZE.pl_ok
    | 6=>ZC.pl_ok
    | 7=>CtSand.pl_ok
    | 8=>Zk.pl_ok
    | 9=>fun _=>rfl
    | 10=>fun _=>rfl
    | 11=>fun _=>rfl
    | 12=>fun _=>rfl
    | 13=>fun _=>rfl
    | 14=>fun _=>rfl
    | 15=>Z8.pl_ok
    | 16=>fun _=>rfl
    | 17=>Z6.pl_ok
    | 18=>Z5.pl_ok
    | 19=>Zt.pl_ok
    | 20=>ZI.pl_ok
    | 21=>Zm.pl_ok
    | 22=>Z4.pl_ok
    | 23=>Zh.pl_ok
    | _+24=>fun _=>rfl
  seq:=fun i=>match i with
    | 0=>fun e h x y=>Z3.seq_ok e h x y
    | 1=>fun e h x y=>Z1.seq_ok e h x y
    | 2=>fun e h x y=>Zu.seq_ok e h x y
    | 3=>fun e h x y=>Zj.seq_ok e h x y
    | 4=>fun e h x y=>Zx.seq_ok e h x y
    | 5=>fun e h x y=>ZE.seq_ok e h x y
    | 6=>fun e h x y=>ZC.seq_ok e h x y
    | 7=>fun e h x y=>CtSand.seq_ok e h x y
    | 8=>fun e h x y=>Zk.seq_ok e h x y
    | 9=>fun _ h=>by cases h
    | 10=>fun _ h=>by cases h
    | 11=>fun _ h=>by cases h
    | 12=>fun _ h=>by cases h
    | 13=>fun _ h=>by cases h
    | 14=>fun _ h=>by cases h
    | 15=>fun e h x y=>Z8.seq_ok e h x y
    | 16=>fun _ h=>by cases h
    | 17=>fun e h x y=>Z6.seq_ok e h x y
    | 18=>fun e h x y=>Z5.seq_ok e h x y
    | 19=>fun e h x y=>Zt.seq_ok e h x y
    | 20=>fun e h x y=>ZI.seq_ok e h x y
    | 21=>fun e h x y=>Zm.seq_ok e h x y
    | 22=>fun e h x y=>Z4.seq_ok e h x y
    | 23=>fun e h x y=>Zh.seq_ok e h x y
    | _+24=>fun _ h=>by cases h
end Nore
namespace Go.Proofs.YtehofdemanfenaaGreat
open Go.Ab Go.Proofs
def codeL:List (Nat×Ty):=[(2,(.int .i64)),(3,(.int .i64)),(4,.bool),(5,(.int .u8)),(6,(.int .u8)),(8,(.st 0)),(9,.str),(10,.str),(11,.str),(12,(.int .u64)),(14,(.st 1)),(21,(.int .i32)),(22,(.sl (.st 4))),(23,(.sl (.st 7))),(25,(.st 8)),(26,(.sl (.st 18))),(27,(.sl (.st 19))),(29,(.st 20)),(30,(.sl (.st 21))),(31,(.sl (.st 2))),(32,(.int .i64)),(37,(.st 5)),(39,(.st 6)),(44,(.sl (.int .i64))),(50,(.arr 2 (.int .u8))),(51,(.sl (.int .u16))),(53,(.st 22)),(57,(.st 2)),(59,(.sl (.st 5))),(66,(.arr 3 (.int .u8))),(70,(.st 18)),(72,(.st 21)),(93,(.sl (.sl (.int .i64)))),(107,(.sl (.st 3))),(109,(.st 4)),(111,(.int .u16)),(115,(.st 19)),(118,(.arr 4 (.st 5))),(119,(.arr 4 (.st 5))),(132,(.sl .str)),(141,(.sl .bool)),(148,(.st 3)),(151,(.arr 32 (.int .i64))),(169,(.st 7)),(171,(.st 15)),(186,(.st 23)),(196,(.st 17)),(209,(.arr 8 (.st 2))),(217,(.int .u32)),(218,(.int .u8)),(219,(.int .u8)),(222,(.int .i32)),(223,(.int .i32))]
def zeroL:List (Nat×List (TV Nore.S)):=[(1,[.nilfn]),(2,[.int .i64 (0)]),(3,[.int .i64 (0)]),(4,[.bool false]),(5,[.int .u8 (0)]),(6,[.int .u8 (0)]),(7,[.int .i64 (0),.int .i64 (0),.bool false,.int .u8 (0)]),(8,[.int .i64 (0),.int .i64 (0),.bool false,.int .u8 (0)]),(9,[.str ByteArray.empty]),(10,[.str ByteArray.empty]),(11,[.str ByteArray.empty]),(12,[.int .u64 (0)]),(13,[.str ByteArray.empty,.int .u64 (0)]),(14,[.str ByteArray.empty,.int .u64 (0)]),(15,[.nilp]),(16,[.nilp]),(17,[.nilp]),(18,[.nilp]),(19,[.nilp]),(20,[.nilif]),(21,[.int .i32 (0)]),(22,[.nils]),(23,[.nils]),(24,[.nils,.nils]),(25,[.nils,.nils]),(26,[.nils]),(27,[.nils]),(28,[.nils,.nils,.int .i64 (0),.nils,.nils,.int .i64 (0),.int .i64 (0)]),(29,[.nils,.nils,.int .i64 (0),.nils,.nils,.int .i64 (0),.int .i64 (0)]),(30,[.nils]),(31,[.nils]),(32,[.int .i64 (0)]),(34,[.nilfn]),(35,[.nilfn]),(36,[.int .i64 (0),.int .i64 (0)]),(37,[.int .i64 (0),.int .i64 (0)]),(38,[.int .i64 (0),.int .i64 (0),.int .i64 (0),.int .i64 (0)]),(39,[.int .i64 (0),.int .i64 (0),.int .i64 (0),.int .i64 (0)]),(41,[.nilfn]),(42,[.nilfn]),(43,[.nilfn]),(44,[.nils]),(46,[.nilfn]),(47,[.nilfn]),(49,[.nilfn]),(50,[.arr (.int .u8) 2 (fun _=>(0:Int))]),(51,[.nils]),(52,[.arr (.int .u8) 2 (fun _=>(0:Int)),.nils,.nils]),(53,[.arr (.int .u8) 2 (fun _=>(0:Int)),.nils,.nils]),(54,[.nilfn]),(55,[.nilfn]),(56,[.int .i64 (0),.int .i64 (0)]),(57,[.int .i64 (0),.int .i64 (0)]),(58,[.nilfn]),(59,[.nils]),(61,[.nilfn]),(62,[.nilfn]),(63,[.nilfn]),(64,[.nilfn]),(65,[.nilfn]),(66,[.arr (.int .u8) 3 (fun _=>(0:Int))]),(67,[.nilfn]),(68,[.nilfn]),(69,[.str ByteArray.empty,.bool false,.int .i64 (0),.int .i64 (0)]),(70,[.str ByteArray.empty,.bool false,.int .i64 (0),.int .i64 (0)]),(71,[.int .i64 (0),.int .i64 (0),.int .i64 (0),.int .i64 (0)]),(72,[.int .i64 (0),.int .i64 (0),.int .i64 (0),.int .i64 (0)]),(73,[.nilfn]),(75,[.nilfn]),(77,[.nilfn]),(78,[.nilfn]),(79,[.nilfn]),(80,[.nilp]),(82,[.nilfn]),(83,[.nilfn]),(84,[.nilfn]),(85,[.nilfn]),(86,[.nilfn]),(87,[.nilfn]),(88,[.nilfn]),(89,[.nilfn]),(90,[.nilfn]),(91,[.nilfn]),(93,[.nils]),(94,[.nilfn]),(95,[.nilfn]),(96,[.nilp]),(97,[.nilp]),(99,[.nilif]),(100,[.nilif]),(101,[.narr [97,159] 4]),(102,[.nilmap]),(103,[.nils,.nils,.int .i64 (0),.nils,.nils,.int .i64 (0),.int .i64 (0),.nils,.narr [97,159] 4,.nilmap]),(104,[.nils,.nils,.int .i64 (0),.nils,.nils,.int .i64 (0),.int .i64 (0),.nils,.narr [97,159] 4,.nilmap]),(105,[.nilfn]),(106,[.nilfn]),(107,[.nils]),(108,[.str ByteArray.empty,.int .i64 (0),.int .i64 (0),.nils]),(109,[.str ByteArray.empty,.int .i64 (0),.int .i64 (0),.nils]),(110,[.nilfn]),(111,[.int .u16 (0)]),(112,[.nilfn]),(113,[.nilfn]),(114,[.int .i64 (0),.int .i64 (0),.int .i64 (0),.int .i64 (0),.int .i64 (0),.int .i64 (0),.int .i64 (0)]),(115,[.int .i64 (0),.int .i64 (0),.int .i64 (0),.int .i64 (0),.int .i64 (0),.int .i64 (0),.int .i64 (0)]),(116,[.nilfn]),(117,[.nilfn]),(118,[.arr (.st 5) 4 (fun _=>⟨(0:Int),(0:Int)⟩)]),(119,[.arr (.st 5) 4 (fun _=>⟨(0:Int),(0:Int)⟩)]),(121,[.nilfn]),(122,[.nilfn]),(123,[.nilfn]),(124,[.nilfn]),(125,[.nilfn]),(126,[.nilfn]),(127,[.nilfn]),(128,[.nilfn]),(129,[.nilfn]),(130,[.nilfn]),(131,[.nilfn]),(132,[.nils]),(133,[.nilfn]),(134,[.nilfn]),(135,[.nilfn]),(137,[.nilfn]),(138,[.nilfn]),(139,[.nilfn]),(140,[.nilfn]),(141,[.nils]),(142,[.nilfn]),(143,[.nilfn]),(144,[.nilfn]),(145,[.nilfn]),(146,[.nilfn]),(147,[.int .i64 (0),.int .i64 (0)]),(148,[.int .i64 (0),.int .i64 (0)]),(149,[.nilfn]),(150,[.nilfn]),(151,[.arr (.int .i64) 32 (fun _=>(0:Int))]),(152,[.nilfn]),(153,[.nilfn]),(154,[.nilfn]),(155,[.nilfn]),(156,[.nilfn]),(157,[.nilfn]),(158,[.nilfn]),(159,[.nilp]),(162,[.nilfn]),(163,[.nilmap]),(164,[.nilfn]),(165,[.nilfn]),(166,[.nilfn]),(167,[.nilfn]),(168,[.str ByteArray.empty,.nils,.int .i64 (0),.int .i64 (0),.int .i64 (0),.int .i64 (0)]),(169,[.str ByteArray.empty,.nils,.int .i64 (0),.int .i64 (0),.int .i64 (0),.int .i64 (0)]),(170,[.str ByteArray.empty,.nils,.int .i64 (0),.int .i64 (0),.int .i64 (0),.int .i64 (0)]),(171,[.str ByteArray.empty,.nils,.int .i64 (0),.int .i64 (0),.int .i64 (0),.int .i64 (0)]),(172,[.nilfn]),(173,[.nilfn]),(174,[.nilfn]),(175,[.nilfn]),(176,[.nilfn]),(177,[.nilfn]),(178,[.nilfn]),(179,[.nilfn]),(180,[.nilfn]),(181,[.nilfn]),(182,[.nilfn]),(184,[.nilfn]),(185,[.int .i64 (0),.int .i64 (0),.int .i64 (0)]),(186,[.int .i64 (0),.int .i64 (0),.int .i64 (0)]),(187,[.nilfn]),(188,[.nilfn]),(189,[.nilfn]),(190,[.nilfn]),(191,[.nilfn]),(192,[.nilfn]),(193,[.nilfn]),(194,[.nilfn]),(195,[.int .i64 (0),.int .i64 (0),.int .i64 (0),.int .i64 (0)]),(196,[.int .i64 (0),.int .i64 (0),.int .i64 (0),.int .i64 (0)]),(197,[.nilfn]),(198,[.nilfn]),(199,[.nilfn]),(200,[.nilfn]),(201,[.nilfn]),(202,[.nilfn]),(204,[.nilfn]),(205,[.nilfn]),(206,[.nilfn]),(207,[.nilfn]),(208,[.nilfn]),(209,[.arr (.st 2) 8 (fun _=>⟨(0:Int),(0:Int)⟩)]),(210,[.nilfn]),(211,[.nilfn]),(212,[.nilp,.nilp,.nilp,.str ByteArray.empty]),(213,[.nilp,.nilp,.nilp,.str ByteArray.empty]),(214,[]),(215,[]),(216,[]),(217,[.int .u32 (0)]),(218,[.int .u8 (0)]),(219,[.int .u8 (0)]),(220,[.nilfn]),(221,[.nilp]),(222,[.int .i32 (0)]),(223,[.int .i32 (0)]),(224,[.int .u64 (0),.int .u64 (0),.int .u32 (0),.int .u8 (0),.int .u8 (0),.int .u8 (0),.int .u8 (0),.nilfn,.nilp,.int .i32 (0),.int .i32 (0)]),(225,[.int .u64 (0),.int .u64 (0),.int .u32 (0),.int .u8 (0),.int .u8 (0),.int .u8 (0),.int .u8 (0),.nilfn,.nilp,.int .i32 (0),.int .i32 (0)]),(226,[.nilfn]),(227,[.nilfn]),(228,[.nilp])]
def codeT:Tr Ty:=Tr.ofList codeL
def zeroT:Tr (List (TV Nore.S)):=Tr.ofList zeroL
noncomputable def X:Yb Nore.S:=⟨E,Nore.T,codeT.get,zeroT.get⟩
theorem codeAll:ZcC (fun t c=>ZdB Nore.T (tyT.get t) c) codeT=true:=by kernel_rfl
theorem zeroAll:ZcC (fun t z=>Zg7 Nore.T (tyT.get t) z) zeroT=true:=by kernel_rfl
theorem zeroLaw (t:Nat) (z:List (TV Nore.S)) (ti:TI) (h1:zeroT.get t=some z) (h2:tyT.get t=some ti):dvs Nore.T z=ti.zero:=Zg8 (Z5Y (p:=fun t z=>Zg7 Nore.T (tyT.get t) z) zeroAll h1) h2
theorem codeLaw (t:Nat) (c:Ty) (ti:TI) (h1:codeT.get t=some c) (h2:tyT.get t=some ti):ti.size=tsz Nore.T c∧ti.isAgg=YO c:=Zff (Z5Y (p:=fun t c=>ZdB Nore.T (tyT.get t) c) codeAll h1) h2
set_option maxRecDepth 100000 in
theorem xok:XOk X:=XOk.mk Nore.tok zeroLaw codeLaw
end Go.Proofs.YtehofdemanfenaaGreat
open Go Go.Ab
namespace Nore
def Z3.Ok (lim:Ty→Nat) (x:Z3):Prop:=((Lit.int .i64 x.x).wf=true)∧((Lit.int .i64 x.y).wf=true)∧True∧((Lit.int .u8 x.code).wf=true)∧True
def Z1.Ok (lim:Ty→Nat) (x:Z1):Prop:=(x.msg.size≤maxLen)∧((Lit.int .u64 x.addr).wf=true)∧True
def Zu.Ok (lim:Ty→Nat) (x:Zu):Prop:=((Lit.int .i64 x.X).wf=true)∧((Lit.int .i64 x.Y).wf=true)∧True
def Zj.Ok (lim:Ty→Nat) (x:Zj):Prop:=((Lit.int .i64 x.Day).wf=true)∧((Lit.int .i64 x.Hz4).wf=true)∧True
def Zx.Ok (lim:Ty→Nat) (x:Zx):Prop:=(x.Name.size≤maxLen)∧(Zu.Ok lim x.At)∧(x.Hz3.length≤lim (.st 3)∧∀ y0,List.Mem y0 x.Hz3→(Zj.Ok lim y0))∧True
def ZE.Ok (lim:Ty→Nat) (x:ZE):Prop:=((Lit.int .i64 x.Lo).wf=true)∧((Lit.int .i64 x.Hi).wf=true)∧True
def ZC.Ok (lim:Ty→Nat) (x:ZC):Prop:=(ZE.Ok lim x.X)∧(ZE.Ok lim x.Y)∧True
def CtSand.Ok (lim:Ty→Nat) (x:CtSand):Prop:=(x.Name.size≤maxLen)∧(x.Hz2.length≤lim (.st 2)∧∀ y0,List.Mem y0 x.Hz2→(Zu.Ok lim y0))∧(ZC.Ok lim x.Hzc)∧True
def Zk.Ok (lim:Ty→Nat) (x:Zk):Prop:=(x.Hz8.length≤lim (.st 4)∧∀ y0,List.Mem y0 x.Hz8→(Zx.Ok lim y0))∧(x.Hzb.length≤lim (.st 7)∧∀ y0,List.Mem y0 x.Hzb→(CtSand.Ok lim y0))∧True
def Z5.Ok (lim:Ty→Nat) (x:Z5):Prop:=(x.Name.size≤maxLen)∧True∧(ZE.Ok lim x.Off)∧True
def Zt.Ok (lim:Ty→Nat) (x:Zt):Prop:=(ZE.Ok lim x.X)∧(ZE.Ok lim x.Y)∧(ZE.Ok lim x.Hza)∧((Lit.int .i64 x.Hz5).wf=true)∧True
def ZI.Ok (lim:Ty→Nat) (x:ZI):Prop:=(Zk.Ok lim x.Hz9)∧((Lit.int .i64 x.Day).wf=true)∧(x.Hz0.length≤lim (.st 18)∧∀ y0,List.Mem y0 x.Hz0→(Z5.Ok lim y0))∧(x.Hz7.length≤lim (.st 19)∧∀ y0,List.Mem y0 x.Hz7→(Zt.Ok lim y0))∧((Lit.int .i64 x.Step).wf=true)∧((Lit.int .i64 x.Half).wf=true)∧True
def Zm.Ok (lim:Ty→Nat) (x:Zm):Prop:=((Lit.int .i64 x.Hz1).wf=true)∧((Lit.int .i64 x.Mark).wf=true)∧((Lit.int .i64 x.Hz6).wf=true)∧((Lit.int .i64 x.Hz5).wf=true)∧True
def Z4.Ok (lim:Ty→Nat) (x:Z4):Prop:=(∀ j0,j0<2→((Lit.int .u8 (x.Place j0)).wf=true))∧(x.Offs.length≤lim (.int .u16)∧∀ y0,List.Mem y0 x.Offs→((Lit.int .u16 y0).wf=true))∧(x.Taken.length≤lim (.int .u16)∧∀ y0,List.Mem y0 x.Taken→((Lit.int .u16 y0).wf=true))∧True
def Z8.Ok (lim:Ty→Nat) (x:Z8):Prop:=(CtSand.Ok lim x.CtSand)∧True
def Zh.Ok (lim:Ty→Nat) (x:Zh):Prop:=((Lit.int .i64 x.mark).wf=true)∧(Zu.Ok lim x.from_)∧True
def Z6.Ok (lim:Ty→Nat) (x:Z6):Prop:=(Zu.Ok lim x.at_)∧(Zu.Ok lim x.by_)∧True
def sOk (lim:Ty→Nat) (i:Nat):S i→Prop:=match i with
  | 0=>Z3.Ok lim
  | 1=>Z1.Ok lim
  | 2=>Zu.Ok lim
  | 3=>Zj.Ok lim
  | 4=>Zx.Ok lim
  | 5=>ZE.Ok lim
  | 6=>ZC.Ok lim
  | 7=>CtSand.Ok lim
  | 8=>Zk.Ok lim
  | 15=>Z8.Ok lim
  | 17=>Z6.Ok lim
  | 18=>Z5.Ok lim
  | 19=>Zt.Ok lim
  | 20=>ZI.Ok lim
  | 21=>Zm.Ok lim
  | 22=>Z4.Ok lim
  | 23=>Zh.Ok lim
  | 9=>fun _=>True
  | 10=>fun _=>True
  | 11=>fun _=>True
  | 12=>fun _=>True
  | 13=>fun _=>True
  | 14=>fun _=>True
  | 16=>fun _=>True
  | _+24=>fun _=>True
def flds (i:Nat):List Ty:=match i with
  | 0=>[(.int .i64),(.int .i64),.bool,(.int .u8)]
  | 1=>[.str,(.int .u64)]
  | 2=>[(.int .i64),(.int .i64)]
  | 3=>[(.int .i64),(.int .i64)]
  | 4=>[.str,(.st 2),(.sl (.st 3))]
  | 5=>[(.int .i64),(.int .i64)]
  | 6=>[(.st 5),(.st 5)]
  | 7=>[.str,(.sl (.st 2)),(.st 6)]
  | 8=>[(.sl (.st 4)),(.sl (.st 7))]
  | 15=>[(.st 7)]
  | 17=>[(.st 2),(.st 2)]
  | 18=>[.str,.bool,(.st 5)]
  | 19=>[(.st 5),(.st 5),(.st 5),(.int .i64)]
  | 20=>[(.st 8),(.int .i64),(.sl (.st 18)),(.sl (.st 19)),(.int .i64),(.int .i64)]
  | 21=>[(.int .i64),(.int .i64),(.int .i64),(.int .i64)]
  | 22=>[(.arr 2 (.int .u8)),(.sl (.int .u16)),(.sl (.int .u16))]
  | 23=>[(.int .i64),(.st 2)]
  | 9=>[]
  | 10=>[]
  | 11=>[]
  | 12=>[]
  | 13=>[]
  | 14=>[]
  | 16=>[]
  | _+24=>[]
def smk (i:Nat):Z4l S (flds i)→S i:=match i with
  | 0=>fun xs=>(⟨xs.1,xs.2.1,xs.2.2.1,xs.2.2.2.1⟩:Z3)
  | 1=>fun xs=>(⟨xs.1,xs.2.1⟩:Z1)
  | 2=>fun xs=>(⟨xs.1,xs.2.1⟩:Zu)
  | 3=>fun xs=>(⟨xs.1,xs.2.1⟩:Zj)
  | 4=>fun xs=>(⟨xs.1,xs.2.1,xs.2.2.1⟩:Zx)
  | 5=>fun xs=>(⟨xs.1,xs.2.1⟩:ZE)
  | 6=>fun xs=>(⟨xs.1,xs.2.1⟩:ZC)
  | 7=>fun xs=>(⟨xs.1,xs.2.1,xs.2.2.1⟩:CtSand)
  | 8=>fun xs=>(⟨xs.1,xs.2.1⟩:Zk)
  | 15=>fun xs=>(⟨xs.1⟩:Z8)
  | 17=>fun xs=>(⟨xs.1,xs.2.1⟩:Z6)
  | 18=>fun xs=>(⟨xs.1,xs.2.1,xs.2.2.1⟩:Z5)
  | 19=>fun xs=>(⟨xs.1,xs.2.1,xs.2.2.1,xs.2.2.2.1⟩:Zt)
  | 20=>fun xs=>(⟨xs.1,xs.2.1,xs.2.2.1,xs.2.2.2.1,xs.2.2.2.2.1,xs.2.2.2.2.2.1⟩:ZI)
  | 21=>fun xs=>(⟨xs.1,xs.2.1,xs.2.2.1,xs.2.2.2.1⟩:Zm)
  | 22=>fun xs=>(⟨xs.1,xs.2.1,xs.2.2.1⟩:Z4)
  | 23=>fun xs=>(⟨xs.1,xs.2.1⟩:Zh)
  | 9=>fun _=>T.dflt _
  | 10=>fun _=>T.dflt _
  | 11=>fun _=>T.dflt _
  | 12=>fun _=>T.dflt _
  | 13=>fun _=>T.dflt _
  | 14=>fun _=>T.dflt _
  | 16=>fun _=>T.dflt _
  | _+24=>fun _=>T.dflt _
theorem Zhm (i:Nat):∀ xs,T.dcells i (smk i xs)=YR T (flds i) xs:=match i with
  | 0=>fun xs=>by
    show Z3.dl _=_
    unfold Z3.dl
    first|(simp only [flds,YR,smk,dcl,List.append_assoc,List.append_nil];done)|(simp only [flds,YR,smk,dcl,List.append_assoc,List.append_nil];rfl)
  | 1=>fun xs=>by
    show Z1.dl _=_
    unfold Z1.dl
    first|(simp only [flds,YR,smk,dcl,List.append_assoc,List.append_nil];done)|(simp only [flds,YR,smk,dcl,List.append_assoc,List.append_nil];rfl)
  | 2=>fun xs=>by
    show Zu.dl _=_
    unfold Zu.dl
    first|(simp only [flds,YR,smk,dcl,List.append_assoc,List.append_nil];done)|(simp only [flds,YR,smk,dcl,List.append_assoc,List.append_nil];rfl)
  | 3=>fun xs=>by
    show Zj.dl _=_
    unfold Zj.dl
    first|(simp only [flds,YR,smk,dcl,List.append_assoc,List.append_nil];done)|(simp only [flds,YR,smk,dcl,List.append_assoc,List.append_nil];rfl)
  | 4=>fun xs=>by
    show Zx.dl _=_
    unfold Zx.dl
    first|(simp only [flds,YR,smk,dcl,List.append_assoc,List.append_nil];done)|(simp only [flds,YR,smk,dcl,List.append_assoc,List.append_nil];rfl)
  | 5=>fun xs=>by
    show ZE.dl _=_
    unfold ZE.dl
    first|(simp only [flds,YR,smk,dcl,List.append_assoc,List.append_nil];done)|(simp only [flds,YR,smk,dcl,List.append_assoc,List.append_nil];rfl)
  | 6=>fun xs=>by
    show ZC.dl _=_
    unfold ZC.dl
    first|(simp only [flds,YR,smk,dcl,List.append_assoc,List.append_nil];done)|(simp only [flds,YR,smk,dcl,List.append_assoc,List.append_nil];rfl)
  | 7=>fun xs=>by
    show CtSand.dl _=_
    unfold CtSand.dl
    first|(simp only [flds,YR,smk,dcl,List.append_assoc,List.append_nil];done)|(simp only [flds,YR,smk,dcl,List.append_assoc,List.append_nil];rfl)
  | 8=>fun xs=>by
    show Zk.dl _=_
    unfold Zk.dl
    first|(simp only [flds,YR,smk,dcl,List.append_assoc,List.append_nil];done)|(simp only [flds,YR,smk,dcl,List.append_assoc,List.append_nil];rfl)
  | 15=>fun xs=>by
    show Z8.dl _=_
    unfold Z8.dl
    first|(simp only [flds,YR,smk,dcl,List.append_assoc,List.append_nil];done)|(simp only [flds,YR,smk,dcl,List.append_assoc,List.append_nil];rfl)
  | 17=>fun xs=>by
    show Z6.dl _=_
    unfold Z6.dl
    first|(simp only [flds,YR,smk,dcl,List.append_assoc,List.append_nil];done)|(simp only [flds,YR,smk,dcl,List.append_assoc,List.append_nil];rfl)
  | 18=>fun xs=>by
    show Z5.dl _=_
    unfold Z5.dl
    first|(simp only [flds,YR,smk,dcl,List.append_assoc,List.append_nil];done)|(simp only [flds,YR,smk,dcl,List.append_assoc,List.append_nil];rfl)
  | 19=>fun xs=>by
    show Zt.dl _=_
    unfold Zt.dl
    first|(simp only [flds,YR,smk,dcl,List.append_assoc,List.append_nil];done)|(simp only [flds,YR,smk,dcl,List.append_assoc,List.append_nil];rfl)
  | 20=>fun xs=>by
    show ZI.dl _=_
    unfold ZI.dl
    first|(simp only [flds,YR,smk,dcl,List.append_assoc,List.append_nil];done)|(simp only [flds,YR,smk,dcl,List.append_assoc,List.append_nil];rfl)
  | 21=>fun xs=>by
    show Zm.dl _=_
    unfold Zm.dl
    first|(simp only [flds,YR,smk,dcl,List.append_assoc,List.append_nil];done)|(simp only [flds,YR,smk,dcl,List.append_assoc,List.append_nil];rfl)
  | 22=>fun xs=>by
    show Z4.dl _=_
    unfold Z4.dl
    first|(simp only [flds,YR,smk,dcl,List.append_assoc,List.append_nil];done)|(simp only [flds,YR,smk,dcl,List.append_assoc,List.append_nil];rfl)
  | 23=>fun xs=>by
    show Zh.dl _=_
    unfold Zh.dl
    first|(simp only [flds,YR,smk,dcl,List.append_assoc,List.append_nil];done)|(simp only [flds,YR,smk,dcl,List.append_assoc,List.append_nil];rfl)
  | 9=>fun _=>rfl
  | 10=>fun _=>rfl
  | 11=>fun _=>rfl
  | 12=>fun _=>rfl
  | 13=>fun _=>rfl
  | 14=>fun _=>rfl
  | 16=>fun _=>rfl
  | _+24=>fun _=>rfl
theorem Zhn (lim:Ty→Nat) (i:Nat):∀ xs,aok lim (sOk lim) (flds i) xs→sOk lim i (smk i xs):=match i with
  | 0=>fun _ h=>h
  | 1=>fun _ h=>h
  | 2=>fun _ h=>h
  | 3=>fun _ h=>h
  | 4=>fun _ h=>h
  | 5=>fun _ h=>h
  | 6=>fun _ h=>h
  | 7=>fun _ h=>h
  | 8=>fun _ h=>h
  | 15=>fun _ h=>h
  | 17=>fun _ h=>h
  | 18=>fun _ h=>h
  | 19=>fun _ h=>h
  | 20=>fun _ h=>h
  | 21=>fun _ h=>h
  | 22=>fun _ h=>h
  | 23=>fun _ h=>h
  | 9=>fun _ _=>trivial
  | 10=>fun _ _=>trivial
  | 11=>fun _ _=>trivial
  | 12=>fun _ _=>trivial
  | 13=>fun _ _=>trivial
  | 14=>fun _ _=>trivial
  | 16=>fun _ _=>trivial
  | _+24=>fun _ _=>trivial
def F:SF T:=⟨flds,smk,sOk,Zhm,Zhn⟩
end Nore
namespace Go.Proofs.YtehofdemanfenaaGreat
open Go.Ab Go.Proofs
def tb:Ty→Nat
  | .st 21=>32
  | .st 2=>16
  | _=>1
def limW (c:Ty):Nat:=reachBytes / tb c
theorem tbAll:ZcC (fun e c=>Nat.beq (Tryz.prog.bytesOf e) 0||Nat.ble (tb c) (Tryz.prog.bytesOf e)) codeT=true:=by kernel_rfl
theorem readAll:ZcC (fun t c=>Z8T codeT.get tyT.get (tsz Nore.T) Nore.flds (tyT.get t) c) codeT=true:=by kernel_rfl
theorem readLaw (t:Nat) (c:Ty) (h:X.code t=some c):Z8T X.code X.E.ty (tsz X.T) Nore.F.flds (X.E.ty t) c=true:=Z5Y (p:=fun t c=>Z8T codeT.get tyT.get (tsz Nore.T) Nore.flds (tyT.get t) c) readAll h
end Go.Proofs.YtehofdemanfenaaGreat
