/- The structs of the program as plain structures. -/
import Derived.Test.YtaaalkppbbpacaaGreatDoorT2
import Derived.Test.YtaaalkppbbpacaaGreatDoorB
import Derived.KernelRfl
set_option linter.unusedSectionVars false
set_option linter.unusedVariables false
set_option linter.unusedSimpArgs false
namespace Nore
open Go Go.Ab
@[ext] structure Z4 where
 x:Int
 y:Int
 signed:Bool
 code:Int
@[ext] structure Z1 where
 msg:ByteArray
 addr:Int
@[ext] structure Point where
 X:Int
 Y:Int
@[ext] structure Zr where
 Day:Int
 Hz4:Int
@[ext] structure ZC where
 Name:ByteArray
 At:Point
 Hz3:(List Zr)
@[ext] structure ZN where
 Lo:Int
 Hi:Int
@[ext] structure ZF where
 X:ZN
 Y:ZN
@[ext] structure CtSand where
 Name:ByteArray
 Hz2:(List Point)
 Hzc:ZF
@[ext] structure Zo where
 Hz8:(List ZC)
 Hzb:(List CtSand)
@[ext] structure SgMooring where
 Hz9:Zo
 Anchor:ZF
 Ring:ZN
 Near:Int
@[ext] structure ZD where
 Minute:Int
 Point:Int
 Points:Int
 At:ZF
@[ext] structure Z9 where
 Name:ByteArray
 Lead:Bool
 Off:ZN
@[ext] structure Zz where
 X:ZN
 Y:ZN
 Hza:ZN
 Hz5:Int
@[ext] structure ZS where
 Hz9:Zo
 Day:Int
 Hz0:(List Z9)
 Hz7:(List Zz)
 Step:Int
 Half:Int
@[ext] structure Z7 where
 Place:(Nat->Int)
 Offs:(List Int)
 Taken:(List Int)
@[ext] structure Z6 where
 Past:Z7
 Hzc:(Nat->Int)
@[ext] structure Zt where
 Hz1:Int
 Mark:Int
 Hz6:Int
 Hz5:Int
@[ext] structure Za where
 SgMooring:SgMooring
 all_:(Nat->Int)
@[ext] structure Zf where
 CtSand:CtSand
@[ext] structure Z8 where
 lo:Int
 hi:Int
@[ext] structure Ze where
 at_:Point
 by_:Point
@[ext] structure Zn where
 mark:Int
 from_:Point
@[ext] structure Z2 where
 lo:Int
 hi:Int
@[ext] structure Z5 where
 s:ByteArray
def S:Nat->Type
 | 0=>Z4
 | 1=>Z1
 | 2=>Point
 | 3=>Zr
 | 4=>ZC
 | 5=>ZN
 | 6=>ZF
 | 7=>CtSand
 | 8=>Zo
 | 9=>SgMooring
 | 10=>ZD
 | 11=>Unit
 | 12=>Unit
 | 13=>Unit
 | 14=>Za
 | 15=>Zf
 | 16=>Z8
 | 17=>Ze
 | 18=>Z9
 | 19=>Zz
 | 20=>ZS
 | 21=>Z7
 | 22=>Z6
 | 23=>Zt
 | 24=>Zn
 | 25=>Z2
 | 26=>Z5
 | _+27=>Unit
def Z4.cl (x:Z4):List (TV S):=[.int .i64 x.x]++[.int .i64 x.y]++[.bool x.signed]++[.int .u8 x.code]
def Z4.dl (x:Z4):List DV:=[.int .i64 x.x]++[.int .i64 x.y]++[.bool x.signed]++[.int .u8 x.code]
def Z4.df:Z4:=⟨(0:Int),(0:Int),false,(0:Int)⟩
def Z4.eqb (x y:Z4):Bool:=(x.x==y.x&&(x.y==y.y&&(x.signed==y.signed&&(x.code==y.code&&true))))
def Z4.seq:Option (Z4->Z4->Bool):=some Z4.eqb
def Z1.cl (x:Z1):List (TV S):=[.str x.msg]++[.int .u64 x.addr]
def Z1.dl (x:Z1):List DV:=[.str x.msg]++[.int .u64 x.addr]
def Z1.df:Z1:=⟨ByteArray.empty,(0:Int)⟩
def Z1.eqb (x y:Z1):Bool:=(x.msg==y.msg&&(x.addr==y.addr&&true))
def Z1.seq:Option (Z1->Z1->Bool):=some Z1.eqb
def Point.cl (x:Point):List (TV S):=[.int .i64 x.X]++[.int .i64 x.Y]
def Point.dl (x:Point):List DV:=[.int .i64 x.X]++[.int .i64 x.Y]
def Point.df:Point:=⟨(0:Int),(0:Int)⟩
def Point.eqb (x y:Point):Bool:=(x.X==y.X&&(x.Y==y.Y&&true))
def Point.seq:Option (Point->Point->Bool):=some Point.eqb
def Zr.cl (x:Zr):List (TV S):=[.int .i64 x.Day]++[.int .i64 x.Hz4]
def Zr.dl (x:Zr):List DV:=[.int .i64 x.Day]++[.int .i64 x.Hz4]
def Zr.df:Zr:=⟨(0:Int),(0:Int)⟩
def Zr.eqb (x y:Zr):Bool:=(x.Day==y.Day&&(x.Hz4==y.Hz4&&true))
def Zr.seq:Option (Zr->Zr->Bool):=some Zr.eqb
def ZC.cl (x:ZC):List (TV S):=[.str x.Name]++[.stc 2 x.At]++[.sl (.st 3) x.Hz3]
def ZC.dl (x:ZC):List DV:=[.str x.Name]++(Point.dl x.At)++[.sl (List.map (fun y=>(Zr.dl y)) x.Hz3)]
def ZC.df:ZC:=⟨ByteArray.empty,⟨(0:Int),(0:Int)⟩,[]⟩
def ZC.seq:Option (ZC->ZC->Bool):=none
def ZN.cl (x:ZN):List (TV S):=[.int .i64 x.Lo]++[.int .i64 x.Hi]
def ZN.dl (x:ZN):List DV:=[.int .i64 x.Lo]++[.int .i64 x.Hi]
def ZN.df:ZN:=⟨(0:Int),(0:Int)⟩
def ZN.eqb (x y:ZN):Bool:=(x.Lo==y.Lo&&(x.Hi==y.Hi&&true))
def ZN.seq:Option (ZN->ZN->Bool):=some ZN.eqb
def ZF.cl (x:ZF):List (TV S):=[.stc 5 x.X]++[.stc 5 x.Y]
def ZF.dl (x:ZF):List DV:=(ZN.dl x.X)++(ZN.dl x.Y)
def ZF.df:ZF:=⟨⟨(0:Int),(0:Int)⟩,⟨(0:Int),(0:Int)⟩⟩
def ZF.eqb (x y:ZF):Bool:=(x.X.Lo==y.X.Lo&&(x.X.Hi==y.X.Hi&&(x.Y.Lo==y.Y.Lo&&(x.Y.Hi==y.Y.Hi&&true))))
def ZF.seq:Option (ZF->ZF->Bool):=some ZF.eqb
def CtSand.cl (x:CtSand):List (TV S):=[.str x.Name]++[.sl (.st 2) x.Hz2]++[.stc 6 x.Hzc]
def CtSand.dl (x:CtSand):List DV:=[.str x.Name]++[.sl (List.map (fun y=>(Point.dl y)) x.Hz2)]++(ZF.dl x.Hzc)
def CtSand.df:CtSand:=⟨ByteArray.empty,[],⟨⟨(0:Int),(0:Int)⟩,⟨(0:Int),(0:Int)⟩⟩⟩
def CtSand.seq:Option (CtSand->CtSand->Bool):=none
def Zo.cl (x:Zo):List (TV S):=[.sl (.st 4) x.Hz8]++[.sl (.st 7) x.Hzb]
def Zo.dl (x:Zo):List DV:=[.sl (List.map (fun y=>(ZC.dl y)) x.Hz8)]++[.sl (List.map (fun y=>(CtSand.dl y)) x.Hzb)]
def Zo.df:Zo:=⟨[],[]⟩
def Zo.seq:Option (Zo->Zo->Bool):=none
def SgMooring.cl (x:SgMooring):List (TV S):=[.stc 8 x.Hz9]++[.stc 6 x.Anchor]++[.stc 5 x.Ring]++[.int .i64 x.Near]
def SgMooring.dl (x:SgMooring):List DV:=(Zo.dl x.Hz9)++(ZF.dl x.Anchor)++(ZN.dl x.Ring)++[.int .i64 x.Near]
def SgMooring.df:SgMooring:=⟨⟨[],[]⟩,⟨⟨(0:Int),(0:Int)⟩,⟨(0:Int),(0:Int)⟩⟩,⟨(0:Int),(0:Int)⟩,(0:Int)⟩
def SgMooring.seq:Option (SgMooring->SgMooring->Bool):=none
def ZD.cl (x:ZD):List (TV S):=[.int .i64 x.Minute]++[.int .i64 x.Point]++[.int .i64 x.Points]++[.stc 6 x.At]
def ZD.dl (x:ZD):List DV:=[.int .i64 x.Minute]++[.int .i64 x.Point]++[.int .i64 x.Points]++(ZF.dl x.At)
def ZD.df:ZD:=⟨(0:Int),(0:Int),(0:Int),⟨⟨(0:Int),(0:Int)⟩,⟨(0:Int),(0:Int)⟩⟩⟩
def ZD.eqb (x y:ZD):Bool:=(x.Minute==y.Minute&&(x.Point==y.Point&&(x.Points==y.Points&&(x.At.X.Lo==y.At.X.Lo&&(x.At.X.Hi==y.At.X.Hi&&(x.At.Y.Lo==y.At.Y.Lo&&(x.At.Y.Hi==y.At.Y.Hi&&true)))))))
def ZD.seq:Option (ZD->ZD->Bool):=some ZD.eqb
def Z9.cl (x:Z9):List (TV S):=[.str x.Name]++[.bool x.Lead]++[.stc 5 x.Off]
def Z9.dl (x:Z9):List DV:=[.str x.Name]++[.bool x.Lead]++(ZN.dl x.Off)
def Z9.df:Z9:=⟨ByteArray.empty,false,⟨(0:Int),(0:Int)⟩⟩
def Z9.eqb (x y:Z9):Bool:=(x.Name==y.Name&&(x.Lead==y.Lead&&(x.Off.Lo==y.Off.Lo&&(x.Off.Hi==y.Off.Hi&&true))))
def Z9.seq:Option (Z9->Z9->Bool):=some Z9.eqb
def Zz.cl (x:Zz):List (TV S):=[.stc 5 x.X]++[.stc 5 x.Y]++[.stc 5 x.Hza]++[.int .i64 x.Hz5]
def Zz.dl (x:Zz):List DV:=(ZN.dl x.X)++(ZN.dl x.Y)++(ZN.dl x.Hza)++[.int .i64 x.Hz5]
def Zz.df:Zz:=⟨⟨(0:Int),(0:Int)⟩,⟨(0:Int),(0:Int)⟩,⟨(0:Int),(0:Int)⟩,(0:Int)⟩
def Zz.eqb (x y:Zz):Bool:=(x.X.Lo==y.X.Lo&&(x.X.Hi==y.X.Hi&&(x.Y.Lo==y.Y.Lo&&(x.Y.Hi==y.Y.Hi&&(x.Hza.Lo==y.Hza.Lo&&(x.Hza.Hi==y.Hza.Hi&&(x.Hz5==y.Hz5&&true)))))))
def Zz.seq:Option (Zz->Zz->Bool):=some Zz.eqb
def ZS.cl (x:ZS):List (TV S):=[.stc 8 x.Hz9]++[.int .i64 x.Day]++[.sl (.st 18) x.Hz0]++[.sl (.st 19) x.Hz7]++[.int .i64 x.Step]++[.int .i64 x.Half]
def ZS.dl (x:ZS):List DV:=(Zo.dl x.Hz9)++[.int .i64 x.Day]++[.sl (List.map (fun y=>(Z9.dl y)) x.Hz0)]++[.sl (List.map (fun y=>(Zz.dl y)) x.Hz7)]++[.int .i64 x.Step]++[.int .i64 x.Half]
def ZS.df:ZS:=⟨⟨[],[]⟩,(0:Int),[],[],(0:Int),(0:Int)⟩
def ZS.seq:Option (ZS->ZS->Bool):=none
def Z7.cl (x:Z7):List (TV S):=[.arr (.int .u8) 2 x.Place]++[.sl (.int .u16) x.Offs]++[.sl (.int .u16) x.Taken]
def Z7.dl (x:Z7):List DV:=((List.range 2).flatMap fun j=>[.int .u8 (x.Place j)])++[.sl (List.map (fun y=>[.int .u16 y]) x.Offs)]++[.sl (List.map (fun y=>[.int .u16 y]) x.Taken)]
def Z7.df:Z7:=⟨(fun _=>(0:Int)),[],[]⟩
def Z7.seq:Option (Z7->Z7->Bool):=none
def Z6.cl (x:Z6):List (TV S):=[.stc 21 x.Past]++[.arr (.int .u8) 2 x.Hzc]
def Z6.dl (x:Z6):List DV:=(Z7.dl x.Past)++((List.range 2).flatMap fun j=>[.int .u8 (x.Hzc j)])
def Z6.df:Z6:=⟨⟨(fun _=>(0:Int)),[],[]⟩,(fun _=>(0:Int))⟩
def Z6.seq:Option (Z6->Z6->Bool):=none
def Zt.cl (x:Zt):List (TV S):=[.int .i64 x.Hz1]++[.int .i64 x.Mark]++[.int .i64 x.Hz6]++[.int .i64 x.Hz5]
def Zt.dl (x:Zt):List DV:=[.int .i64 x.Hz1]++[.int .i64 x.Mark]++[.int .i64 x.Hz6]++[.int .i64 x.Hz5]
def Zt.df:Zt:=⟨(0:Int),(0:Int),(0:Int),(0:Int)⟩
def Zt.eqb (x y:Zt):Bool:=(x.Hz1==y.Hz1&&(x.Mark==y.Mark&&(x.Hz6==y.Hz6&&(x.Hz5==y.Hz5&&true))))
def Zt.seq:Option (Zt->Zt->Bool):=some Zt.eqb
def Za.cl (x:Za):List (TV S):=[.stc 9 x.SgMooring]++[.arr (.int .u64) 5 x.all_]
def Za.dl (x:Za):List DV:=(SgMooring.dl x.SgMooring)++((List.range 5).flatMap fun j=>[.int .u64 (x.all_ j)])
def Za.df:Za:=⟨⟨⟨[],[]⟩,⟨⟨(0:Int),(0:Int)⟩,⟨(0:Int),(0:Int)⟩⟩,⟨(0:Int),(0:Int)⟩,(0:Int)⟩,(fun _=>(0:Int))⟩
def Za.seq:Option (Za->Za->Bool):=none
def Zf.cl (x:Zf):List (TV S):=[.stc 7 x.CtSand]
def Zf.dl (x:Zf):List DV:=(CtSand.dl x.CtSand)
def Zf.df:Zf:=⟨⟨ByteArray.empty,[],⟨⟨(0:Int),(0:Int)⟩,⟨(0:Int),(0:Int)⟩⟩⟩⟩
def Zf.seq:Option (Zf->Zf->Bool):=none
def Z8.cl (x:Z8):List (TV S):=[.int .i64 x.lo]++[.int .i64 x.hi]
def Z8.dl (x:Z8):List DV:=[.int .i64 x.lo]++[.int .i64 x.hi]
def Z8.df:Z8:=⟨(0:Int),(0:Int)⟩
def Z8.eqb (x y:Z8):Bool:=(x.lo==y.lo&&(x.hi==y.hi&&true))
def Z8.seq:Option (Z8->Z8->Bool):=some Z8.eqb
def Ze.cl (x:Ze):List (TV S):=[.stc 2 x.at_]++[.stc 2 x.by_]
def Ze.dl (x:Ze):List DV:=(Point.dl x.at_)++(Point.dl x.by_)
def Ze.df:Ze:=⟨⟨(0:Int),(0:Int)⟩,⟨(0:Int),(0:Int)⟩⟩
def Ze.eqb (x y:Ze):Bool:=(x.at_.X==y.at_.X&&(x.at_.Y==y.at_.Y&&(x.by_.X==y.by_.X&&(x.by_.Y==y.by_.Y&&true))))
def Ze.seq:Option (Ze->Ze->Bool):=some Ze.eqb
def Zn.cl (x:Zn):List (TV S):=[.int .i64 x.mark]++[.stc 2 x.from_]
def Zn.dl (x:Zn):List DV:=[.int .i64 x.mark]++(Point.dl x.from_)
def Zn.df:Zn:=⟨(0:Int),⟨(0:Int),(0:Int)⟩⟩
def Zn.eqb (x y:Zn):Bool:=(x.mark==y.mark&&(x.from_.X==y.from_.X&&(x.from_.Y==y.from_.Y&&true)))
def Zn.seq:Option (Zn->Zn->Bool):=some Zn.eqb
def Z2.cl (x:Z2):List (TV S):=[.int .u8 x.lo]++[.int .u8 x.hi]
def Z2.dl (x:Z2):List DV:=[.int .u8 x.lo]++[.int .u8 x.hi]
def Z2.df:Z2:=⟨(0:Int),(0:Int)⟩
def Z2.eqb (x y:Z2):Bool:=(x.lo==y.lo&&(x.hi==y.hi&&true))
def Z2.seq:Option (Z2->Z2->Bool):=some Z2.eqb
def Z5.cl (x:Z5):List (TV S):=[.str x.s]
def Z5.dl (x:Z5):List DV:=[.str x.s]
def Z5.df:Z5:=⟨ByteArray.empty⟩
def Z5.eqb (x y:Z5):Bool:=(x.s==y.s&&true)
def Z5.seq:Option (Z5->Z5->Bool):=some Z5.eqb
def T0:TS S where
 size:=fun i=>match i with
  | 0=>4
  | 1=>2
  | 2=>2
  | 3=>2
  | 4=>4
  | 5=>2
  | 6=>4
  | 7=>6
  | 8=>2
  | 9=>9
  | 10=>7
  | 18=>4
  | 19=>7
  | 20=>7
  | 21=>4
  | 22=>6
  | 23=>4
  | 14=>14
  | 15=>6
  | 16=>2
  | 17=>4
  | 24=>3
  | 25=>2
  | 26=>1
  | _=>0
 cells:=fun i=>match i with
  | 0=>Z4.cl
  | 1=>Z1.cl
  | 2=>Point.cl
  | 3=>Zr.cl
  | 4=>ZC.cl
  | 5=>ZN.cl
  | 6=>ZF.cl
  | 7=>CtSand.cl
  | 8=>Zo.cl
  | 9=>SgMooring.cl
  | 10=>ZD.cl
  | 11=>fun _=>[]
  | 12=>fun _=>[]
  | 13=>fun _=>[]
  | 14=>Za.cl
  | 15=>Zf.cl
  | 16=>Z8.cl
  | 17=>Ze.cl
  | 18=>Z9.cl
  | 19=>Zz.cl
  | 20=>ZS.cl
  | 21=>Z7.cl
  | 22=>Z6.cl
  | 23=>Zt.cl
  | 24=>Zn.cl
  | 25=>Z2.cl
  | 26=>Z5.cl
  | _+27=>fun _=>[]
 dcells:=fun i=>match i with
  | 0=>Z4.dl
  | 1=>Z1.dl
  | 2=>Point.dl
  | 3=>Zr.dl
  | 4=>ZC.dl
  | 5=>ZN.dl
  | 6=>ZF.dl
  | 7=>CtSand.dl
  | 8=>Zo.dl
  | 9=>SgMooring.dl
  | 10=>ZD.dl
  | 11=>fun _=>[]
  | 12=>fun _=>[]
  | 13=>fun _=>[]
  | 14=>Za.dl
  | 15=>Zf.dl
  | 16=>Z8.dl
  | 17=>Ze.dl
  | 18=>Z9.dl
  | 19=>Zz.dl
  | 20=>ZS.dl
  | 21=>Z7.dl
  | 22=>Z6.dl
  | 23=>Zt.dl
  | 24=>Zn.dl
  | 25=>Z2.dl
  | 26=>Z5.dl
  | _+27=>fun _=>[]
 rd:=fun _ _=>none
 dflt:=fun i=>match i with
  | 0=>Z4.df
  | 1=>Z1.df
  | 2=>Point.df
  | 3=>Zr.df
  | 4=>ZC.df
  | 5=>ZN.df
  | 6=>ZF.df
  | 7=>CtSand.df
  | 8=>Zo.df
  | 9=>SgMooring.df
  | 10=>ZD.df
  | 11=>()
  | 12=>()
  | 13=>()
  | 14=>Za.df
  | 15=>Zf.df
  | 16=>Z8.df
  | 17=>Ze.df
  | 18=>Z9.df
  | 19=>Zz.df
  | 20=>ZS.df
  | 21=>Z7.df
  | 22=>Z6.df
  | 23=>Zt.df
  | 24=>Zn.df
  | 25=>Z2.df
  | 26=>Z5.df
  | _+27=>()
 seq:=fun _=>none
def Z4.rd (cs:List (TV S)):Option (Z4×List (TV S)):=(Yw .i64 cs).bind fun a0=>(Yw .i64 a0.2).bind fun a1=>(Z69 a1.2).bind fun a2=>(Yw .u8 a2.2).bind fun a3=>some (⟨a0.1,a1.1,a2.1,a3.1⟩,a3.2)
def Z1.rd (cs:List (TV S)):Option (Z1×List (TV S)):=(Z5G cs).bind fun a0=>(Yw .u64 a0.2).bind fun a1=>some (⟨a0.1,a1.1⟩,a1.2)
def Point.rd (cs:List (TV S)):Option (Point×List (TV S)):=(Yw .i64 cs).bind fun a0=>(Yw .i64 a0.2).bind fun a1=>some (⟨a0.1,a1.1⟩,a1.2)
def Zr.rd (cs:List (TV S)):Option (Zr×List (TV S)):=(Yw .i64 cs).bind fun a0=>(Yw .i64 a0.2).bind fun a1=>some (⟨a0.1,a1.1⟩,a1.2)
def ZC.rd (cs:List (TV S)):Option (ZC×List (TV S)):=(Z5G cs).bind fun a0=>((fun cs=>rdW (S:=S) 2 Point.rd (YT T0 2 6 cs)) a0.2).bind fun a1=>(Z8b (S:=S) (.st 3) a1.2).bind fun a2=>some (⟨a0.1,a1.1,a2.1⟩,a2.2)
def ZN.rd (cs:List (TV S)):Option (ZN×List (TV S)):=(Yw .i64 cs).bind fun a0=>(Yw .i64 a0.2).bind fun a1=>some (⟨a0.1,a1.1⟩,a1.2)
def ZF.rd (cs:List (TV S)):Option (ZF×List (TV S)):=((fun cs=>rdW (S:=S) 5 ZN.rd (YT T0 5 6 cs)) cs).bind fun a0=>((fun cs=>rdW (S:=S) 5 ZN.rd (YT T0 5 6 cs)) a0.2).bind fun a1=>some (⟨a0.1,a1.1⟩,a1.2)
def CtSand.rd (cs:List (TV S)):Option (CtSand×List (TV S)):=(Z5G cs).bind fun a0=>(Z8b (S:=S) (.st 2) a0.2).bind fun a1=>((fun cs=>rdW (S:=S) 6 ZF.rd (YT T0 6 6 cs)) a1.2).bind fun a2=>some (⟨a0.1,a1.1,a2.1⟩,a2.2)
def Zo.rd (cs:List (TV S)):Option (Zo×List (TV S)):=(Z8b (S:=S) (.st 4) cs).bind fun a0=>(Z8b (S:=S) (.st 7) a0.2).bind fun a1=>some (⟨a0.1,a1.1⟩,a1.2)
def SgMooring.rd (cs:List (TV S)):Option (SgMooring×List (TV S)):=((fun cs=>rdW (S:=S) 8 Zo.rd (YT T0 8 6 cs)) cs).bind fun a0=>((fun cs=>rdW (S:=S) 6 ZF.rd (YT T0 6 6 cs)) a0.2).bind fun a1=>((fun cs=>rdW (S:=S) 5 ZN.rd (YT T0 5 6 cs)) a1.2).bind fun a2=>(Yw .i64 a2.2).bind fun a3=>some (⟨a0.1,a1.1,a2.1,a3.1⟩,a3.2)
def ZD.rd (cs:List (TV S)):Option (ZD×List (TV S)):=(Yw .i64 cs).bind fun a0=>(Yw .i64 a0.2).bind fun a1=>(Yw .i64 a1.2).bind fun a2=>((fun cs=>rdW (S:=S) 6 ZF.rd (YT T0 6 6 cs)) a2.2).bind fun a3=>some (⟨a0.1,a1.1,a2.1,a3.1⟩,a3.2)
def Z9.rd (cs:List (TV S)):Option (Z9×List (TV S)):=(Z5G cs).bind fun a0=>(Z69 a0.2).bind fun a1=>((fun cs=>rdW (S:=S) 5 ZN.rd (YT T0 5 6 cs)) a1.2).bind fun a2=>some (⟨a0.1,a1.1,a2.1⟩,a2.2)
def Zz.rd (cs:List (TV S)):Option (Zz×List (TV S)):=((fun cs=>rdW (S:=S) 5 ZN.rd (YT T0 5 6 cs)) cs).bind fun a0=>((fun cs=>rdW (S:=S) 5 ZN.rd (YT T0 5 6 cs)) a0.2).bind fun a1=>((fun cs=>rdW (S:=S) 5 ZN.rd (YT T0 5 6 cs)) a1.2).bind fun a2=>(Yw .i64 a2.2).bind fun a3=>some (⟨a0.1,a1.1,a2.1,a3.1⟩,a3.2)
def ZS.rd (cs:List (TV S)):Option (ZS×List (TV S)):=((fun cs=>rdW (S:=S) 8 Zo.rd (YT T0 8 6 cs)) cs).bind fun a0=>(Yw .i64 a0.2).bind fun a1=>(Z8b (S:=S) (.st 18) a1.2).bind fun a2=>(Z8b (S:=S) (.st 19) a2.2).bind fun a3=>(Yw .i64 a3.2).bind fun a4=>(Yw .i64 a4.2).bind fun a5=>some (⟨a0.1,a1.1,a2.1,a3.1,a4.1,a5.1⟩,a5.2)
def Z7.rd (cs:List (TV S)):Option (Z7×List (TV S)):=(Z9h (S:=S) 2 (.int .u8) cs).bind fun a0=>(Z8b (S:=S) (.int .u16) a0.2).bind fun a1=>(Z8b (S:=S) (.int .u16) a1.2).bind fun a2=>some (⟨a0.1,a1.1,a2.1⟩,a2.2)
def Z6.rd (cs:List (TV S)):Option (Z6×List (TV S)):=((fun cs=>rdW (S:=S) 21 Z7.rd (YT T0 21 6 cs)) cs).bind fun a0=>(Z9h (S:=S) 2 (.int .u8) a0.2).bind fun a1=>some (⟨a0.1,a1.1⟩,a1.2)
def Zt.rd (cs:List (TV S)):Option (Zt×List (TV S)):=(Yw .i64 cs).bind fun a0=>(Yw .i64 a0.2).bind fun a1=>(Yw .i64 a1.2).bind fun a2=>(Yw .i64 a2.2).bind fun a3=>some (⟨a0.1,a1.1,a2.1,a3.1⟩,a3.2)
def Za.rd (cs:List (TV S)):Option (Za×List (TV S)):=((fun cs=>rdW (S:=S) 9 SgMooring.rd (YT T0 9 6 cs)) cs).bind fun a0=>(Z9h (S:=S) 5 (.int .u64) a0.2).bind fun a1=>some (⟨a0.1,a1.1⟩,a1.2)
def Zf.rd (cs:List (TV S)):Option (Zf×List (TV S)):=((fun cs=>rdW (S:=S) 7 CtSand.rd (YT T0 7 6 cs)) cs).bind fun a0=>some (⟨a0.1⟩,a0.2)
def Z8.rd (cs:List (TV S)):Option (Z8×List (TV S)):=(Yw .i64 cs).bind fun a0=>(Yw .i64 a0.2).bind fun a1=>some (⟨a0.1,a1.1⟩,a1.2)
def Ze.rd (cs:List (TV S)):Option (Ze×List (TV S)):=((fun cs=>rdW (S:=S) 2 Point.rd (YT T0 2 6 cs)) cs).bind fun a0=>((fun cs=>rdW (S:=S) 2 Point.rd (YT T0 2 6 cs)) a0.2).bind fun a1=>some (⟨a0.1,a1.1⟩,a1.2)
def Zn.rd (cs:List (TV S)):Option (Zn×List (TV S)):=(Yw .i64 cs).bind fun a0=>((fun cs=>rdW (S:=S) 2 Point.rd (YT T0 2 6 cs)) a0.2).bind fun a1=>some (⟨a0.1,a1.1⟩,a1.2)
def Z2.rd (cs:List (TV S)):Option (Z2×List (TV S)):=(Yw .u8 cs).bind fun a0=>(Yw .u8 a0.2).bind fun a1=>some (⟨a0.1,a1.1⟩,a1.2)
def Z5.rd (cs:List (TV S)):Option (Z5×List (TV S)):=(Z5G cs).bind fun a0=>some (⟨a0.1⟩,a0.2)
def T:TS S where
 size:=fun i=>match i with
  | 0=>4
  | 1=>2
  | 2=>2
  | 3=>2
  | 4=>4
  | 5=>2
  | 6=>4
  | 7=>6
  | 8=>2
  | 9=>9
  | 10=>7
  | 18=>4
  | 19=>7
  | 20=>7
  | 21=>4
  | 22=>6
  | 23=>4
  | 14=>14
  | 15=>6
  | 16=>2
  | 17=>4
  | 24=>3
  | 25=>2
  | 26=>1
  | _=>0
 cells:=fun i=>match i with
  | 0=>Z4.cl
  | 1=>Z1.cl
  | 2=>Point.cl
  | 3=>Zr.cl
  | 4=>ZC.cl
  | 5=>ZN.cl
  | 6=>ZF.cl
  | 7=>CtSand.cl
  | 8=>Zo.cl
  | 9=>SgMooring.cl
  | 10=>ZD.cl
  | 11=>fun _=>[]
  | 12=>fun _=>[]
  | 13=>fun _=>[]
  | 14=>Za.cl
  | 15=>Zf.cl
  | 16=>Z8.cl
  | 17=>Ze.cl
  | 18=>Z9.cl
  | 19=>Zz.cl
  | 20=>ZS.cl
  | 21=>Z7.cl
  | 22=>Z6.cl
  | 23=>Zt.cl
  | 24=>Zn.cl
  | 25=>Z2.cl
  | 26=>Z5.cl
  | _+27=>fun _=>[]
 dcells:=fun i=>match i with
  | 0=>Z4.dl
  | 1=>Z1.dl
  | 2=>Point.dl
  | 3=>Zr.dl
  | 4=>ZC.dl
  | 5=>ZN.dl
  | 6=>ZF.dl
  | 7=>CtSand.dl
  | 8=>Zo.dl
  | 9=>SgMooring.dl
  | 10=>ZD.dl
  | 11=>fun _=>[]
  | 12=>fun _=>[]
  | 13=>fun _=>[]
  | 14=>Za.dl
  | 15=>Zf.dl
  | 16=>Z8.dl
  | 17=>Ze.dl
  | 18=>Z9.dl
  | 19=>Zz.dl
  | 20=>ZS.dl
  | 21=>Z7.dl
  | 22=>Z6.dl
  | 23=>Zt.dl
  | 24=>Zn.dl
  | 25=>Z2.dl
  | 26=>Z5.dl
  | _+27=>fun _=>[]
 rd:=fun i=>match i with
  | 0=>Z4.rd
  | 1=>Z1.rd
  | 2=>Point.rd
  | 3=>Zr.rd
  | 4=>ZC.rd
  | 5=>ZN.rd
  | 6=>ZF.rd
  | 7=>CtSand.rd
  | 8=>Zo.rd
  | 9=>SgMooring.rd
  | 10=>ZD.rd
  | 11=>fun cs=>some ((),cs)
  | 12=>fun cs=>some ((),cs)
  | 13=>fun cs=>some ((),cs)
  | 14=>Za.rd
  | 15=>Zf.rd
  | 16=>Z8.rd
  | 17=>Ze.rd
  | 18=>Z9.rd
  | 19=>Zz.rd
  | 20=>ZS.rd
  | 21=>Z7.rd
  | 22=>Z6.rd
  | 23=>Zt.rd
  | 24=>Zn.rd
  | 25=>Z2.rd
  | 26=>Z5.rd
  | _+27=>fun cs=>some ((),cs)
 dflt:=fun i=>match i with
  | 0=>Z4.df
  | 1=>Z1.df
  | 2=>Point.df
  | 3=>Zr.df
  | 4=>ZC.df
  | 5=>ZN.df
  | 6=>ZF.df
  | 7=>CtSand.df
  | 8=>Zo.df
  | 9=>SgMooring.df
  | 10=>ZD.df
  | 11=>()
  | 12=>()
  | 13=>()
  | 14=>Za.df
  | 15=>Zf.df
  | 16=>Z8.df
  | 17=>Ze.df
  | 18=>Z9.df
  | 19=>Zz.df
  | 20=>ZS.df
  | 21=>Z7.df
  | 22=>Z6.df
  | 23=>Zt.df
  | 24=>Zn.df
  | 25=>Z2.df
  | 26=>Z5.df
  | _+27=>()
 seq:=fun i=>match i with
  | 0=>Z4.seq
  | 1=>Z1.seq
  | 2=>Point.seq
  | 3=>Zr.seq
  | 4=>ZC.seq
  | 5=>ZN.seq
  | 6=>ZF.seq
  | 7=>CtSand.seq
  | 8=>Zo.seq
  | 9=>SgMooring.seq
  | 10=>ZD.seq
  | 11=>none
  | 12=>none
  | 13=>none
  | 14=>Za.seq
  | 15=>Zf.seq
  | 16=>Z8.seq
  | 17=>Ze.seq
  | 18=>Z9.seq
  | 19=>Zz.seq
  | 20=>ZS.seq
  | 21=>Z7.seq
  | 22=>Z6.seq
  | 23=>Zt.seq
  | 24=>Zn.seq
  | 25=>Z2.seq
  | 26=>Z5.seq
  | _+27=>none
abbrev dT (cs:List (TV S)):List DV:=dvs T cs
theorem Z4.cl_ok (x:Z4):dvs T (Z4.cl x)=Z4.dl x:=rfl
theorem Z1.cl_ok (x:Z1):dvs T (Z1.cl x)=Z1.dl x:=rfl
theorem Point.cl_ok (x:Point):dvs T (Point.cl x)=Point.dl x:=rfl
theorem Zr.cl_ok (x:Zr):dvs T (Zr.cl x)=Zr.dl x:=rfl
theorem ZC.cl_ok (x:ZC):dvs T (ZC.cl x)=ZC.dl x:=rfl
theorem ZN.cl_ok (x:ZN):dvs T (ZN.cl x)=ZN.dl x:=rfl
theorem ZF.cl_ok (x:ZF):dvs T (ZF.cl x)=ZF.dl x:=rfl
theorem CtSand.cl_ok (x:CtSand):dvs T (CtSand.cl x)=CtSand.dl x:=rfl
theorem Zo.cl_ok (x:Zo):dvs T (Zo.cl x)=Zo.dl x:=rfl
theorem SgMooring.cl_ok (x:SgMooring):dvs T (SgMooring.cl x)=SgMooring.dl x:=rfl
theorem ZD.cl_ok (x:ZD):dvs T (ZD.cl x)=ZD.dl x:=rfl
theorem Z9.cl_ok (x:Z9):dvs T (Z9.cl x)=Z9.dl x:=rfl
theorem Zz.cl_ok (x:Zz):dvs T (Zz.cl x)=Zz.dl x:=rfl
theorem ZS.cl_ok (x:ZS):dvs T (ZS.cl x)=ZS.dl x:=rfl
theorem Z7.cl_ok (x:Z7):dvs T (Z7.cl x)=Z7.dl x:=rfl
theorem Z6.cl_ok (x:Z6):dvs T (Z6.cl x)=Z6.dl x:=rfl
theorem Zt.cl_ok (x:Zt):dvs T (Zt.cl x)=Zt.dl x:=rfl
theorem Za.cl_ok (x:Za):dvs T (Za.cl x)=Za.dl x:=rfl
theorem Zf.cl_ok (x:Zf):dvs T (Zf.cl x)=Zf.dl x:=rfl
theorem Z8.cl_ok (x:Z8):dvs T (Z8.cl x)=Z8.dl x:=rfl
theorem Ze.cl_ok (x:Ze):dvs T (Ze.cl x)=Ze.dl x:=rfl
theorem Zn.cl_ok (x:Zn):dvs T (Zn.cl x)=Zn.dl x:=rfl
theorem Z2.cl_ok (x:Z2):dvs T (Z2.cl x)=Z2.dl x:=rfl
theorem Z5.cl_ok (x:Z5):dvs T (Z5.cl x)=Z5.dl x:=rfl
theorem Zg9:∀i (x:S i),dvs T (T0.cells i x)=T.dcells i x :=
   fun i=>match i with
    | 0=>Z4.cl_ok
    | 1=>Z1.cl_ok
    | 2=>Point.cl_ok
    | 3=>Zr.cl_ok
    | 4=>ZC.cl_ok
    | 5=>ZN.cl_ok
    | 6=>ZF.cl_ok
    | 7=>CtSand.cl_ok
    | 8=>Zo.cl_ok
    | 9=>SgMooring.cl_ok
    | 10=>ZD.cl_ok
    | 11=>fun _=>rfl
    | 12=>fun _=>rfl
    | 13=>fun _=>rfl
    | 14=>Za.cl_ok
    | 15=>Zf.cl_ok
    | 16=>Z8.cl_ok
    | 17=>Ze.cl_ok
    | 18=>Z9.cl_ok
    | 19=>Zz.cl_ok
    | 20=>ZS.cl_ok
    | 21=>Z7.cl_ok
    | 22=>Z6.cl_ok
    | 23=>Zt.cl_ok
    | 24=>Zn.cl_ok
    | 25=>Z2.cl_ok
    | 26=>Z5.cl_ok
    | _+27=>fun _=>rfl
theorem ZV (i:Nat):∀(n:Nat) (cs:List (TV S)),dvs T (YT T0 i n cs)=dvs T cs:=Z8s (T:=T) (T0:=T0) Zg9 i
theorem Z4.len_ok (x:Z4):(Z4.dl x).length=4:=rfl
theorem Z4.pl_ok (x:Z4):(Z4.dl x).all plain=true:=rfl
theorem Z4.seq_ok (e:Z4->Z4->Bool) (h:Z4.seq=some e) (x y:Z4):Zl (Z4.dl x) (Z4.dl y)=some (e x y):=by
 cases h;rfl
theorem Z4.rd_ok {cs r:List (TV S)} {x:Z4} (h:Z4.rd cs=some (x,r)):dvs T cs=Z4.dl x++dvs T r:=by
 unfold Z4.rd at h;obtain⟨⟨a0,r0⟩,h0,h⟩:=Z0 h;obtain⟨⟨a1,r1⟩,h1,h⟩:=Z0 h;obtain⟨⟨a2,r2⟩,h2,h⟩:=Z0 h;obtain⟨⟨a3,r3⟩,h3,h⟩:=Z0 h;cases h;rw[ZK h0,ZK h1,Z9i h2,ZK h3];rfl
theorem Z1.len_ok (x:Z1):(Z1.dl x).length=2:=rfl
theorem Z1.pl_ok (x:Z1):(Z1.dl x).all plain=true:=rfl
theorem Z1.seq_ok (e:Z1->Z1->Bool) (h:Z1.seq=some e) (x y:Z1):Zl (Z1.dl x) (Z1.dl y)=some (e x y):=by
 cases h;rfl
theorem Z1.rd_ok {cs r:List (TV S)} {x:Z1} (h:Z1.rd cs=some (x,r)):dvs T cs=Z1.dl x++dvs T r:=by
 unfold Z1.rd at h;obtain⟨⟨a0,r0⟩,h0,h⟩:=Z0 h;obtain⟨⟨a1,r1⟩,h1,h⟩:=Z0 h;cases h;rw[Z3S h0,ZK h1];rfl
theorem Point.len_ok (x:Point):(Point.dl x).length=2:=rfl
theorem Point.pl_ok (x:Point):(Point.dl x).all plain=true:=rfl
theorem Point.seq_ok (e:Point->Point->Bool) (h:Point.seq=some e) (x y:Point):Zl (Point.dl x) (Point.dl y)=some (e x y):=by
 cases h;rfl
theorem Point.rd_ok {cs r:List (TV S)} {x:Point} (h:Point.rd cs=some (x,r)):dvs T cs=Point.dl x++dvs T r:=by
 unfold Point.rd at h;obtain⟨⟨a0,r0⟩,h0,h⟩:=Z0 h;obtain⟨⟨a1,r1⟩,h1,h⟩:=Z0 h;cases h;rw[ZK h0,ZK h1];rfl
theorem Zr.len_ok (x:Zr):(Zr.dl x).length=2:=rfl
theorem Zr.pl_ok (x:Zr):(Zr.dl x).all plain=true:=rfl
theorem Zr.seq_ok (e:Zr->Zr->Bool) (h:Zr.seq=some e) (x y:Zr):Zl (Zr.dl x) (Zr.dl y)=some (e x y):=by
 cases h;rfl
theorem Zr.rd_ok {cs r:List (TV S)} {x:Zr} (h:Zr.rd cs=some (x,r)):dvs T cs=Zr.dl x++dvs T r:=by
 unfold Zr.rd at h;obtain⟨⟨a0,r0⟩,h0,h⟩:=Z0 h;obtain⟨⟨a1,r1⟩,h1,h⟩:=Z0 h;cases h;rw[ZK h0,ZK h1];rfl
theorem ZC.len_ok (x:ZC):(ZC.dl x).length=4:=rfl
theorem ZC.pl_ok (x:ZC):(ZC.dl x).all plain=true:=rfl
theorem ZC.seq_ok (e:ZC->ZC->Bool) (h:ZC.seq=some e) (x y:ZC):Zl (ZC.dl x) (ZC.dl y)=some (e x y):=by cases h
theorem ZC.rd_ok {cs r:List (TV S)} {x:ZC} (h:ZC.rd cs=some (x,r)):dvs T cs=ZC.dl x++dvs T r:=by
 unfold ZC.rd at h;obtain⟨⟨a0,r0⟩,h0,h⟩:=Z0 h;obtain⟨⟨a1,r1⟩,h1,h⟩:=Z0 h;obtain⟨⟨a2,r2⟩,h2,h⟩:=Z0 h;cases h;rw[Z3S h0,<-ZV 2 6,Yt (T:=T) (fun _ _ _ h=>Point.rd_ok h) h1,Z1T h2];rfl
theorem ZN.len_ok (x:ZN):(ZN.dl x).length=2:=rfl
theorem ZN.pl_ok (x:ZN):(ZN.dl x).all plain=true:=rfl
theorem ZN.seq_ok (e:ZN->ZN->Bool) (h:ZN.seq=some e) (x y:ZN):Zl (ZN.dl x) (ZN.dl y)=some (e x y):=by
 cases h;rfl
theorem ZN.rd_ok {cs r:List (TV S)} {x:ZN} (h:ZN.rd cs=some (x,r)):dvs T cs=ZN.dl x++dvs T r:=by
 unfold ZN.rd at h;obtain⟨⟨a0,r0⟩,h0,h⟩:=Z0 h;obtain⟨⟨a1,r1⟩,h1,h⟩:=Z0 h;cases h;rw[ZK h0,ZK h1];rfl
theorem ZF.len_ok (x:ZF):(ZF.dl x).length=4:=rfl
theorem ZF.pl_ok (x:ZF):(ZF.dl x).all plain=true:=rfl
theorem ZF.seq_ok (e:ZF->ZF->Bool) (h:ZF.seq=some e) (x y:ZF):Zl (ZF.dl x) (ZF.dl y)=some (e x y):=by
 cases h;rfl
theorem ZF.rd_ok {cs r:List (TV S)} {x:ZF} (h:ZF.rd cs=some (x,r)):dvs T cs=ZF.dl x++dvs T r:=by
 unfold ZF.rd at h;obtain⟨⟨a0,r0⟩,h0,h⟩:=Z0 h;obtain⟨⟨a1,r1⟩,h1,h⟩:=Z0 h;cases h;rw[<-ZV 5 6,Yt (T:=T) (fun _ _ _ h=>ZN.rd_ok h) h0,<-ZV 5 6,Yt (T:=T) (fun _ _ _ h=>ZN.rd_ok h) h1];rfl
theorem CtSand.len_ok (x:CtSand):(CtSand.dl x).length=6:=rfl
theorem CtSand.pl_ok (x:CtSand):(CtSand.dl x).all plain=true:=rfl
theorem CtSand.seq_ok (e:CtSand->CtSand->Bool) (h:CtSand.seq=some e) (x y:CtSand):Zl (CtSand.dl x) (CtSand.dl y)=some (e x y):=by cases h
theorem CtSand.rd_ok {cs r:List (TV S)} {x:CtSand} (h:CtSand.rd cs=some (x,r)):dvs T cs=CtSand.dl x++dvs T r:=by
 unfold CtSand.rd at h;obtain⟨⟨a0,r0⟩,h0,h⟩:=Z0 h;obtain⟨⟨a1,r1⟩,h1,h⟩:=Z0 h;obtain⟨⟨a2,r2⟩,h2,h⟩:=Z0 h;cases h;rw[Z3S h0,Z1T h1,<-ZV 6 6,Yt (T:=T) (fun _ _ _ h=>ZF.rd_ok h) h2];rfl
theorem Zo.len_ok (x:Zo):(Zo.dl x).length=2:=rfl
theorem Zo.pl_ok (x:Zo):(Zo.dl x).all plain=true:=rfl
theorem Zo.seq_ok (e:Zo->Zo->Bool) (h:Zo.seq=some e) (x y:Zo):Zl (Zo.dl x) (Zo.dl y)=some (e x y):=by cases h
theorem Zo.rd_ok {cs r:List (TV S)} {x:Zo} (h:Zo.rd cs=some (x,r)):dvs T cs=Zo.dl x++dvs T r:=by
 unfold Zo.rd at h;obtain⟨⟨a0,r0⟩,h0,h⟩:=Z0 h;obtain⟨⟨a1,r1⟩,h1,h⟩:=Z0 h;cases h;rw[Z1T h0,Z1T h1];rfl
theorem SgMooring.len_ok (x:SgMooring):(SgMooring.dl x).length=9:=rfl
theorem SgMooring.pl_ok (x:SgMooring):(SgMooring.dl x).all plain=true:=rfl
theorem SgMooring.seq_ok (e:SgMooring->SgMooring->Bool) (h:SgMooring.seq=some e) (x y:SgMooring):Zl (SgMooring.dl x) (SgMooring.dl y)=some (e x y):=by cases h
theorem SgMooring.rd_ok {cs r:List (TV S)} {x:SgMooring} (h:SgMooring.rd cs=some (x,r)):dvs T cs=SgMooring.dl x++dvs T r:=by
 unfold SgMooring.rd at h;obtain⟨⟨a0,r0⟩,h0,h⟩:=Z0 h;obtain⟨⟨a1,r1⟩,h1,h⟩:=Z0 h;obtain⟨⟨a2,r2⟩,h2,h⟩:=Z0 h;obtain⟨⟨a3,r3⟩,h3,h⟩:=Z0 h;cases h;rw[<-ZV 8 6,Yt (T:=T) (fun _ _ _ h=>Zo.rd_ok h) h0,<-ZV 6 6,Yt (T:=T) (fun _ _ _ h=>ZF.rd_ok h) h1,<-ZV 5 6,Yt (T:=T) (fun _ _ _ h=>ZN.rd_ok h) h2,ZK h3];rfl
theorem ZD.len_ok (x:ZD):(ZD.dl x).length=7:=rfl
theorem ZD.pl_ok (x:ZD):(ZD.dl x).all plain=true:=rfl
theorem ZD.seq_ok (e:ZD->ZD->Bool) (h:ZD.seq=some e) (x y:ZD):Zl (ZD.dl x) (ZD.dl y)=some (e x y):=by
 cases h;rfl
theorem ZD.rd_ok {cs r:List (TV S)} {x:ZD} (h:ZD.rd cs=some (x,r)):dvs T cs=ZD.dl x++dvs T r:=by
 unfold ZD.rd at h;obtain⟨⟨a0,r0⟩,h0,h⟩:=Z0 h;obtain⟨⟨a1,r1⟩,h1,h⟩:=Z0 h;obtain⟨⟨a2,r2⟩,h2,h⟩:=Z0 h;obtain⟨⟨a3,r3⟩,h3,h⟩:=Z0 h;cases h;rw[ZK h0,ZK h1,ZK h2,<-ZV 6 6,Yt (T:=T) (fun _ _ _ h=>ZF.rd_ok h) h3];rfl
theorem Z9.len_ok (x:Z9):(Z9.dl x).length=4:=rfl
theorem Z9.pl_ok (x:Z9):(Z9.dl x).all plain=true:=rfl
theorem Z9.seq_ok (e:Z9->Z9->Bool) (h:Z9.seq=some e) (x y:Z9):Zl (Z9.dl x) (Z9.dl y)=some (e x y):=by
 cases h;rfl
theorem Z9.rd_ok {cs r:List (TV S)} {x:Z9} (h:Z9.rd cs=some (x,r)):dvs T cs=Z9.dl x++dvs T r:=by
 unfold Z9.rd at h;obtain⟨⟨a0,r0⟩,h0,h⟩:=Z0 h;obtain⟨⟨a1,r1⟩,h1,h⟩:=Z0 h;obtain⟨⟨a2,r2⟩,h2,h⟩:=Z0 h;cases h;rw[Z3S h0,Z9i h1,<-ZV 5 6,Yt (T:=T) (fun _ _ _ h=>ZN.rd_ok h) h2];rfl
theorem Zz.len_ok (x:Zz):(Zz.dl x).length=7:=rfl
theorem Zz.pl_ok (x:Zz):(Zz.dl x).all plain=true:=rfl
theorem Zz.seq_ok (e:Zz->Zz->Bool) (h:Zz.seq=some e) (x y:Zz):Zl (Zz.dl x) (Zz.dl y)=some (e x y):=by
 cases h;rfl
theorem Zz.rd_ok {cs r:List (TV S)} {x:Zz} (h:Zz.rd cs=some (x,r)):dvs T cs=Zz.dl x++dvs T r:=by
 unfold Zz.rd at h;obtain⟨⟨a0,r0⟩,h0,h⟩:=Z0 h;obtain⟨⟨a1,r1⟩,h1,h⟩:=Z0 h;obtain⟨⟨a2,r2⟩,h2,h⟩:=Z0 h;obtain⟨⟨a3,r3⟩,h3,h⟩:=Z0 h;cases h;rw[<-ZV 5 6,Yt (T:=T) (fun _ _ _ h=>ZN.rd_ok h) h0,<-ZV 5 6,Yt (T:=T) (fun _ _ _ h=>ZN.rd_ok h) h1,<-ZV 5 6,Yt (T:=T) (fun _ _ _ h=>ZN.rd_ok h) h2,ZK h3];rfl
theorem ZS.len_ok (x:ZS):(ZS.dl x).length=7:=rfl
theorem ZS.pl_ok (x:ZS):(ZS.dl x).all plain=true:=rfl
theorem ZS.seq_ok (e:ZS->ZS->Bool) (h:ZS.seq=some e) (x y:ZS):Zl (ZS.dl x) (ZS.dl y)=some (e x y):=by cases h
theorem ZS.rd_ok {cs r:List (TV S)} {x:ZS} (h:ZS.rd cs=some (x,r)):dvs T cs=ZS.dl x++dvs T r:=by
 unfold ZS.rd at h;obtain⟨⟨a0,r0⟩,h0,h⟩:=Z0 h;obtain⟨⟨a1,r1⟩,h1,h⟩:=Z0 h;obtain⟨⟨a2,r2⟩,h2,h⟩:=Z0 h;obtain⟨⟨a3,r3⟩,h3,h⟩:=Z0 h;obtain⟨⟨a4,r4⟩,h4,h⟩:=Z0 h;obtain⟨⟨a5,r5⟩,h5,h⟩:=Z0 h;cases h;rw[<-ZV 8 6,Yt (T:=T) (fun _ _ _ h=>Zo.rd_ok h) h0,ZK h1,Z1T h2,Z1T h3,ZK h4,ZK h5];rfl
theorem Z7.len_ok (x:Z7):(Z7.dl x).length=4:=rfl
theorem Z7.pl_ok (x:Z7):(Z7.dl x).all plain=true:=rfl
theorem Z7.seq_ok (e:Z7->Z7->Bool) (h:Z7.seq=some e) (x y:Z7):Zl (Z7.dl x) (Z7.dl y)=some (e x y):=by cases h
theorem Z7.rd_ok {cs r:List (TV S)} {x:Z7} (h:Z7.rd cs=some (x,r)):dvs T cs=Z7.dl x++dvs T r:=by
 unfold Z7.rd at h;obtain⟨⟨a0,r0⟩,h0,h⟩:=Z0 h;obtain⟨⟨a1,r1⟩,h1,h⟩:=Z0 h;obtain⟨⟨a2,r2⟩,h2,h⟩:=Z0 h;cases h;rw[Z7r h0,Z1T h1,Z1T h2];rfl
theorem Z6.len_ok (x:Z6):(Z6.dl x).length=6:=rfl
theorem Z6.pl_ok (x:Z6):(Z6.dl x).all plain=true:=rfl
theorem Z6.seq_ok (e:Z6->Z6->Bool) (h:Z6.seq=some e) (x y:Z6):Zl (Z6.dl x) (Z6.dl y)=some (e x y):=by cases h
theorem Z6.rd_ok {cs r:List (TV S)} {x:Z6} (h:Z6.rd cs=some (x,r)):dvs T cs=Z6.dl x++dvs T r:=by
 unfold Z6.rd at h;obtain⟨⟨a0,r0⟩,h0,h⟩:=Z0 h;obtain⟨⟨a1,r1⟩,h1,h⟩:=Z0 h;cases h;rw[<-ZV 21 6,Yt (T:=T) (fun _ _ _ h=>Z7.rd_ok h) h0,Z7r h1];rfl
theorem Zt.len_ok (x:Zt):(Zt.dl x).length=4:=rfl
theorem Zt.pl_ok (x:Zt):(Zt.dl x).all plain=true:=rfl
theorem Zt.seq_ok (e:Zt->Zt->Bool) (h:Zt.seq=some e) (x y:Zt):Zl (Zt.dl x) (Zt.dl y)=some (e x y):=by
 cases h;rfl
theorem Zt.rd_ok {cs r:List (TV S)} {x:Zt} (h:Zt.rd cs=some (x,r)):dvs T cs=Zt.dl x++dvs T r:=by
 unfold Zt.rd at h;obtain⟨⟨a0,r0⟩,h0,h⟩:=Z0 h;obtain⟨⟨a1,r1⟩,h1,h⟩:=Z0 h;obtain⟨⟨a2,r2⟩,h2,h⟩:=Z0 h;obtain⟨⟨a3,r3⟩,h3,h⟩:=Z0 h;cases h;rw[ZK h0,ZK h1,ZK h2,ZK h3];rfl
theorem Za.len_ok (x:Za):(Za.dl x).length=14:=rfl
theorem Za.pl_ok (x:Za):(Za.dl x).all plain=true:=rfl
theorem Za.seq_ok (e:Za->Za->Bool) (h:Za.seq=some e) (x y:Za):Zl (Za.dl x) (Za.dl y)=some (e x y):=by cases h
theorem Za.rd_ok {cs r:List (TV S)} {x:Za} (h:Za.rd cs=some (x,r)):dvs T cs=Za.dl x++dvs T r:=by
 unfold Za.rd at h;obtain⟨⟨a0,r0⟩,h0,h⟩:=Z0 h;obtain⟨⟨a1,r1⟩,h1,h⟩:=Z0 h;cases h;rw[<-ZV 9 6,Yt (T:=T) (fun _ _ _ h=>SgMooring.rd_ok h) h0,Z7r h1];rfl
theorem Zf.len_ok (x:Zf):(Zf.dl x).length=6:=rfl
theorem Zf.pl_ok (x:Zf):(Zf.dl x).all plain=true:=rfl
theorem Zf.seq_ok (e:Zf->Zf->Bool) (h:Zf.seq=some e) (x y:Zf):Zl (Zf.dl x) (Zf.dl y)=some (e x y):=by cases h
theorem Zf.rd_ok {cs r:List (TV S)} {x:Zf} (h:Zf.rd cs=some (x,r)):dvs T cs=Zf.dl x++dvs T r:=by
 unfold Zf.rd at h;obtain⟨⟨a0,r0⟩,h0,h⟩:=Z0 h;cases h;rw[<-ZV 7 6,Yt (T:=T) (fun _ _ _ h=>CtSand.rd_ok h) h0];rfl
theorem Z8.len_ok (x:Z8):(Z8.dl x).length=2:=rfl
theorem Z8.pl_ok (x:Z8):(Z8.dl x).all plain=true:=rfl
theorem Z8.seq_ok (e:Z8->Z8->Bool) (h:Z8.seq=some e) (x y:Z8):Zl (Z8.dl x) (Z8.dl y)=some (e x y):=by
 cases h;rfl
theorem Z8.rd_ok {cs r:List (TV S)} {x:Z8} (h:Z8.rd cs=some (x,r)):dvs T cs=Z8.dl x++dvs T r:=by
 unfold Z8.rd at h;obtain⟨⟨a0,r0⟩,h0,h⟩:=Z0 h;obtain⟨⟨a1,r1⟩,h1,h⟩:=Z0 h;cases h;rw[ZK h0,ZK h1];rfl
theorem Ze.len_ok (x:Ze):(Ze.dl x).length=4:=rfl
theorem Ze.pl_ok (x:Ze):(Ze.dl x).all plain=true:=rfl
theorem Ze.seq_ok (e:Ze->Ze->Bool) (h:Ze.seq=some e) (x y:Ze):Zl (Ze.dl x) (Ze.dl y)=some (e x y):=by
 cases h;rfl
theorem Ze.rd_ok {cs r:List (TV S)} {x:Ze} (h:Ze.rd cs=some (x,r)):dvs T cs=Ze.dl x++dvs T r:=by
 unfold Ze.rd at h;obtain⟨⟨a0,r0⟩,h0,h⟩:=Z0 h;obtain⟨⟨a1,r1⟩,h1,h⟩:=Z0 h;cases h;rw[<-ZV 2 6,Yt (T:=T) (fun _ _ _ h=>Point.rd_ok h) h0,<-ZV 2 6,Yt (T:=T) (fun _ _ _ h=>Point.rd_ok h) h1];rfl
theorem Zn.len_ok (x:Zn):(Zn.dl x).length=3:=rfl
theorem Zn.pl_ok (x:Zn):(Zn.dl x).all plain=true:=rfl
theorem Zn.seq_ok (e:Zn->Zn->Bool) (h:Zn.seq=some e) (x y:Zn):Zl (Zn.dl x) (Zn.dl y)=some (e x y):=by
 cases h;rfl
theorem Zn.rd_ok {cs r:List (TV S)} {x:Zn} (h:Zn.rd cs=some (x,r)):dvs T cs=Zn.dl x++dvs T r:=by
 unfold Zn.rd at h;obtain⟨⟨a0,r0⟩,h0,h⟩:=Z0 h;obtain⟨⟨a1,r1⟩,h1,h⟩:=Z0 h;cases h;rw[ZK h0,<-ZV 2 6,Yt (T:=T) (fun _ _ _ h=>Point.rd_ok h) h1];rfl
theorem Z2.len_ok (x:Z2):(Z2.dl x).length=2:=rfl
theorem Z2.pl_ok (x:Z2):(Z2.dl x).all plain=true:=rfl
theorem Z2.seq_ok (e:Z2->Z2->Bool) (h:Z2.seq=some e) (x y:Z2):Zl (Z2.dl x) (Z2.dl y)=some (e x y):=by
 cases h;rfl
theorem Z2.rd_ok {cs r:List (TV S)} {x:Z2} (h:Z2.rd cs=some (x,r)):dvs T cs=Z2.dl x++dvs T r:=by
 unfold Z2.rd at h;obtain⟨⟨a0,r0⟩,h0,h⟩:=Z0 h;obtain⟨⟨a1,r1⟩,h1,h⟩:=Z0 h;cases h;rw[ZK h0,ZK h1];rfl
theorem Z5.len_ok (x:Z5):(Z5.dl x).length=1:=rfl
theorem Z5.pl_ok (x:Z5):(Z5.dl x).all plain=true:=rfl
theorem Z5.seq_ok (e:Z5->Z5->Bool) (h:Z5.seq=some e) (x y:Z5):Zl (Z5.dl x) (Z5.dl y)=some (e x y):=by
 cases h;rfl
theorem Z5.rd_ok {cs r:List (TV S)} {x:Z5} (h:Z5.rd cs=some (x,r)):dvs T cs=Z5.dl x++dvs T r:=by
 unfold Z5.rd at h;obtain⟨⟨a0,r0⟩,h0,h⟩:=Z0 h;cases h;rw[Z3S h0];rfl
theorem tok:TOk T where
 cells:=fun i=>match i with
  | 0=>Z4.cl_ok
  | 1=>Z1.cl_ok
  | 2=>Point.cl_ok
  | 3=>Zr.cl_ok
  | 4=>ZC.cl_ok
  | 5=>ZN.cl_ok
  | 6=>ZF.cl_ok
  | 7=>CtSand.cl_ok
  | 8=>Zo.cl_ok
  | 9=>SgMooring.cl_ok
  | 10=>ZD.cl_ok
  | 11=>fun _=>rfl
  | 12=>fun _=>rfl
  | 13=>fun _=>rfl
  | 14=>Za.cl_ok
  | 15=>Zf.cl_ok
  | 16=>Z8.cl_ok
  | 17=>Ze.cl_ok
  | 18=>Z9.cl_ok
  | 19=>Zz.cl_ok
  | 20=>ZS.cl_ok
  | 21=>Z7.cl_ok
  | 22=>Z6.cl_ok
  | 23=>Zt.cl_ok
  | 24=>Zn.cl_ok
  | 25=>Z2.cl_ok
  | 26=>Z5.cl_ok
  | _+27=>fun _=>rfl
 len:=fun i=>match i with
  | 0=>Z4.len_ok
  | 1=>Z1.len_ok
  | 2=>Point.len_ok
  | 3=>Zr.len_ok
  | 4=>ZC.len_ok
  | 5=>ZN.len_ok
  | 6=>ZF.len_ok
  | 7=>CtSand.len_ok
  | 8=>Zo.len_ok
  | 9=>SgMooring.len_ok
  | 10=>ZD.len_ok
  | 11=>fun _=>rfl
  | 12=>fun _=>rfl
  | 13=>fun _=>rfl
  | 14=>Za.len_ok
  | 15=>Zf.len_ok
  | 16=>Z8.len_ok
  | 17=>Ze.len_ok
  | 18=>Z9.len_ok
  | 19=>Zz.len_ok
  | 20=>ZS.len_ok
  | 21=>Z7.len_ok
  | 22=>Z6.len_ok
  | 23=>Zt.len_ok
  | 24=>Zn.len_ok
  | 25=>Z2.len_ok
  | 26=>Z5.len_ok
  | _+27=>fun _=>rfl
 rd:=fun i=>match i with
  | 0=>fun _ _ _ h=>Z4.rd_ok h
  | 1=>fun _ _ _ h=>Z1.rd_ok h
  | 2=>fun _ _ _ h=>Point.rd_ok h
  | 3=>fun _ _ _ h=>Zr.rd_ok h
  | 4=>fun _ _ _ h=>ZC.rd_ok h
  | 5=>fun _ _ _ h=>ZN.rd_ok h
  | 6=>fun _ _ _ h=>ZF.rd_ok h
  | 7=>fun _ _ _ h=>CtSand.rd_ok h
  | 8=>fun _ _ _ h=>Zo.rd_ok h
  | 9=>fun _ _ _ h=>SgMooring.rd_ok h
  | 10=>fun _ _ _ h=>ZD.rd_ok h
  | 11=>fun _ _ _ h=>by cases h;rfl
  | 12=>fun _ _ _ h=>by cases h;rfl
  | 13=>fun _ _ _ h=>by cases h;rfl
  | 14=>fun _ _ _ h=>Za.rd_ok h
  | 15=>fun _ _ _ h=>Zf.rd_ok h
  | 16=>fun _ _ _ h=>Z8.rd_ok h
  | 17=>fun _ _ _ h=>Ze.rd_ok h
  | 18=>fun _ _ _ h=>Z9.rd_ok h
  | 19=>fun _ _ _ h=>Zz.rd_ok h
  | 20=>fun _ _ _ h=>ZS.rd_ok h
  | 21=>fun _ _ _ h=>Z7.rd_ok h
  | 22=>fun _ _ _ h=>Z6.rd_ok h
  | 23=>fun _ _ _ h=>Zt.rd_ok h
  | 24=>fun _ _ _ h=>Zn.rd_ok h
  | 25=>fun _ _ _ h=>Z2.rd_ok h
  | 26=>fun _ _ _ h=>Z5.rd_ok h
  | _+27=>fun _ _ _ h=>by cases h;rfl
 plain:=fun i=>match i with
  | 0=>Z4.pl_ok
  | 1=>Z1.pl_ok
  | 2=>Point.pl_ok
  | 3=>Zr.pl_ok
  | 4=>ZC.pl_ok
  | 5=>ZN.pl_ok
  | 6=>ZF.pl_ok
  | 7=>CtSand.pl_ok
  | 8=>Zo.pl_ok
  | 9=>SgMooring.pl_ok
  | 10=>ZD.pl_ok
  | 11=>fun _=>rfl
  | 12=>fun _=>rfl
  | 13=>fun _=>rfl
  | 14=>Za.pl_ok
  | 15=>Zf.pl_ok
  | 16=>Z8.pl_ok
  | 17=>Ze.pl_ok
  | 18=>Z9.pl_ok
  | 19=>Zz.pl_ok
  | 20=>ZS.pl_ok
  | 21=>Z7.pl_ok
  | 22=>Z6.pl_ok
  | 23=>Zt.pl_ok
  | 24=>Zn.pl_ok
  | 25=>Z2.pl_ok
  | 26=>Z5.pl_ok
  | _+27=>fun _=>rfl
 seq:=fun i=>match i with
  | 0=>fun e h x y=>Z4.seq_ok e h x y
  | 1=>fun e h x y=>Z1.seq_ok e h x y
  | 2=>fun e h x y=>Point.seq_ok e h x y
  | 3=>fun e h x y=>Zr.seq_ok e h x y
  | 4=>fun e h x y=>ZC.seq_ok e h x y
  | 5=>fun e h x y=>ZN.seq_ok e h x y
  | 6=>fun e h x y=>ZF.seq_ok e h x y
  | 7=>fun e h x y=>CtSand.seq_ok e h x y
  | 8=>fun e h x y=>Zo.seq_ok e h x y
  | 9=>fun e h x y=>SgMooring.seq_ok e h x y
  | 10=>fun e h x y=>ZD.seq_ok e h x y
  | 11=>fun _ h=>by cases h
  | 12=>fun _ h=>by cases h
  | 13=>fun _ h=>by cases h
  | 14=>fun e h x y=>Za.seq_ok e h x y
  | 15=>fun e h x y=>Zf.seq_ok e h x y
  | 16=>fun e h x y=>Z8.seq_ok e h x y
  | 17=>fun e h x y=>Ze.seq_ok e h x y
  | 18=>fun e h x y=>Z9.seq_ok e h x y
  | 19=>fun e h x y=>Zz.seq_ok e h x y
  | 20=>fun e h x y=>ZS.seq_ok e h x y
  | 21=>fun e h x y=>Z7.seq_ok e h x y
  | 22=>fun e h x y=>Z6.seq_ok e h x y
  | 23=>fun e h x y=>Zt.seq_ok e h x y
  | 24=>fun e h x y=>Zn.seq_ok e h x y
  | 25=>fun e h x y=>Z2.seq_ok e h x y
  | 26=>fun e h x y=>Z5.seq_ok e h x y
  | _+27=>fun _ h=>by cases h
end Nore
namespace Go.Proofs.YtaaalkppbbpacaaGreatDoor
open Go.Ab Go.Proofs
def codeL:List (Nat×Ty):=[(2,(.int .i64)),(3,(.int .i64)),(4,.bool),(5,(.int .u8)),(6,(.int .u8)),(8,(.st 0)),(9,.str),(10,.str),(11,.str),(12,(.int .u64)),(14,(.st 1)),(21,(.int .i32)),(22,(.sl (.st 4))),(23,(.sl (.st 7))),(25,(.st 8)),(27,(.st 5)),(29,(.st 6)),(31,(.st 9)),(32,(.sl (.st 10))),(34,(.st 10)),(35,(.int .i64)),(39,(.sl (.st 2))),(43,(.st 2)),(49,(.sl (.st 18))),(50,(.sl (.st 19))),(52,(.st 20)),(53,(.arr 2 (.int .u8))),(54,(.sl (.int .u16))),(56,(.st 21)),(58,(.st 22)),(61,(.sl (.st 23))),(67,(.sl (.int .i64))),(71,(.st 7)),(104,(.int .u64)),(105,(.arr 5 (.int .u64))),(106,(.arr 5 (.int .u64))),(108,(.st 14)),(109,(.sl (.arr 5 (.int .u64)))),(123,(.sl .str)),(125,(.st 18)),(131,(.st 19)),(134,(.st 23)),(136,(.sl (.st 5))),(144,(.int .u16)),(153,(.st 15)),(155,(.st 16)),(159,(.sl (.st 3))),(161,(.st 4)),(168,(.arr 32 (.int .i64))),(170,(.arr 8 (.st 2))),(173,(.st 3)),(195,(.arr 4 (.st 5))),(196,(.arr 4 (.st 5))),(225,(.st 17)),(236,(.sl (.int .u8))),(247,(.sl .str)),(277,(.st 24)),(289,(.int .u64)),(293,(.arr 24 (.int .u8))),(298,(.int .u32)),(307,(.arr 20 (.int .u64))),(308,(.arr 65 (.int .u8))),(310,(.int .i64)),(317,(.arr 256 (.int .u8))),(319,(.st 25)),(320,(.arr 16 (.st 25))),(327,(.arr 32 (.int .u8))),(328,(.arr 64 (.int .u8))),(332,(.st 26)),(338,(.int .u8)),(339,(.int .u8)),(341,(.int .i32)),(342,(.int .i32))]
def zeroL:List (Nat×List (TV Nore.S)):=[(1,[.nilfn]),(2,[.int .i64 (0)]),(3,[.int .i64 (0)]),(4,[.bool false]),(5,[.int .u8 (0)]),(6,[.int .u8 (0)]),(7,[.int .i64 (0),.int .i64 (0),.bool false,.int .u8 (0)]),(8,[.int .i64 (0),.int .i64 (0),.bool false,.int .u8 (0)]),(9,[.str ByteArray.empty]),(10,[.str ByteArray.empty]),(11,[.str ByteArray.empty]),(12,[.int .u64 (0)]),(13,[.str ByteArray.empty,.int .u64 (0)]),(14,[.str ByteArray.empty,.int .u64 (0)]),(15,[.nilp]),(16,[.nilp]),(17,[.nilp]),(18,[.nilp]),(19,[.nilp]),(20,[.nilif]),(21,[.int .i32 (0)]),(22,[.nils]),(23,[.nils]),(24,[.nils,.nils]),(25,[.nils,.nils]),(26,[.int .i64 (0),.int .i64 (0)]),(27,[.int .i64 (0),.int .i64 (0)]),(28,[.int .i64 (0),.int .i64 (0),.int .i64 (0),.int .i64 (0)]),(29,[.int .i64 (0),.int .i64 (0),.int .i64 (0),.int .i64 (0)]),(30,[.nils,.nils,.int .i64 (0),.int .i64 (0),.int .i64 (0),.int .i64 (0),.int .i64 (0),.int .i64 (0),.int .i64 (0)]),(31,[.nils,.nils,.int .i64 (0),.int .i64 (0),.int .i64 (0),.int .i64 (0),.int .i64 (0),.int .i64 (0),.int .i64 (0)]),(32,[.nils]),(33,[.int .i64 (0),.int .i64 (0),.int .i64 (0),.int .i64 (0),.int .i64 (0),.int .i64 (0),.int .i64 (0)]),(34,[.int .i64 (0),.int .i64 (0),.int .i64 (0),.int .i64 (0),.int .i64 (0),.int .i64 (0),.int .i64 (0)]),(35,[.int .i64 (0)]),(37,[.nilfn]),(38,[.nilfn]),(39,[.nils]),(41,[.nilfn]),(42,[.int .i64 (0),.int .i64 (0)]),(43,[.int .i64 (0),.int .i64 (0)]),(45,[.nilfn]),(47,[.nilfn]),(48,[.nilfn]),(49,[.nils]),(50,[.nils]),(51,[.nils,.nils,.int .i64 (0),.nils,.nils,.int .i64 (0),.int .i64 (0)]),(52,[.nils,.nils,.int .i64 (0),.nils,.nils,.int .i64 (0),.int .i64 (0)]),(53,[.arr (.int .u8) 2 (fun _=>(0:Int))]),(54,[.nils]),(55,[.arr (.int .u8) 2 (fun _=>(0:Int)),.nils,.nils]),(56,[.arr (.int .u8) 2 (fun _=>(0:Int)),.nils,.nils]),(57,[.arr (.int .u8) 2 (fun _=>(0:Int)),.nils,.nils,.arr (.int .u8) 2 (fun _=>(0:Int))]),(58,[.arr (.int .u8) 2 (fun _=>(0:Int)),.nils,.nils,.arr (.int .u8) 2 (fun _=>(0:Int))]),(60,[.nilfn]),(61,[.nils]),(62,[.nilfn]),(63,[.nilfn]),(64,[.nilfn]),(66,[.nilfn]),(67,[.nils]),(69,[.nilfn]),(70,[.str ByteArray.empty,.nils,.int .i64 (0),.int .i64 (0),.int .i64 (0),.int .i64 (0)]),(71,[.str ByteArray.empty,.nils,.int .i64 (0),.int .i64 (0),.int .i64 (0),.int .i64 (0)]),(72,[.nilfn]),(73,[.nilfn]),(74,[.nilfn]),(75,[.nilfn]),(77,[.nilfn]),(78,[.nilfn]),(79,[.nilfn]),(80,[.nilfn]),(82,[.nilfn]),(83,[.nilfn]),(84,[.nilfn]),(85,[.nilfn]),(86,[.nilfn]),(87,[.nilfn]),(89,[.nilfn]),(91,[.nilfn]),(92,[.nilfn]),(93,[.nilfn]),(94,[.nilfn]),(95,[.nilfn]),(96,[.nilfn]),(97,[.nilfn]),(98,[.nilfn]),(100,[.nilfn]),(101,[.nilfn]),(102,[.nilfn]),(103,[.nilfn]),(104,[.int .u64 (0)]),(105,[.arr (.int .u64) 5 (fun _=>(0:Int))]),(106,[.arr (.int .u64) 5 (fun _=>(0:Int))]),(107,[.nils,.nils,.int .i64 (0),.int .i64 (0),.int .i64 (0),.int .i64 (0),.int .i64 (0),.int .i64 (0),.int .i64 (0),.arr (.int .u64) 5 (fun _=>(0:Int))]),(108,[.nils,.nils,.int .i64 (0),.int .i64 (0),.int .i64 (0),.int .i64 (0),.int .i64 (0),.int .i64 (0),.int .i64 (0),.arr (.int .u64) 5 (fun _=>(0:Int))]),(109,[.nils]),(111,[.nilfn]),(112,[.nilfn]),(113,[.nilfn]),(114,[.nilfn]),(115,[.nilfn]),(116,[.nilfn]),(117,[.nilfn]),(118,[.nilfn]),(120,[.nilfn]),(121,[.nilfn]),(122,[.nilfn]),(123,[.nils]),(124,[.str ByteArray.empty,.bool false,.int .i64 (0),.int .i64 (0)]),(125,[.str ByteArray.empty,.bool false,.int .i64 (0),.int .i64 (0)]),(126,[.nilfn]),(127,[.nilfn]),(128,[.nilfn]),(129,[.nilfn]),(130,[.int .i64 (0),.int .i64 (0),.int .i64 (0),.int .i64 (0),.int .i64 (0),.int .i64 (0),.int .i64 (0)]),(131,[.int .i64 (0),.int .i64 (0),.int .i64 (0),.int .i64 (0),.int .i64 (0),.int .i64 (0),.int .i64 (0)]),(132,[.nilfn]),(133,[.int .i64 (0),.int .i64 (0),.int .i64 (0),.int .i64 (0)]),(134,[.int .i64 (0),.int .i64 (0),.int .i64 (0),.int .i64 (0)]),(135,[.nilfn]),(136,[.nils]),(138,[.nilfn]),(139,[.nilfn]),(141,[.nilfn]),(142,[.nilfn]),(143,[.nilfn]),(144,[.int .u16 (0)]),(145,[.nilfn]),(146,[.nilfn]),(147,[.nilfn]),(148,[.nilp]),(150,[.nilfn]),(151,[.nilfn]),(152,[.str ByteArray.empty,.nils,.int .i64 (0),.int .i64 (0),.int .i64 (0),.int .i64 (0)]),(153,[.str ByteArray.empty,.nils,.int .i64 (0),.int .i64 (0),.int .i64 (0),.int .i64 (0)]),(154,[.int .i64 (0),.int .i64 (0)]),(155,[.int .i64 (0),.int .i64 (0)]),(156,[.nilfn]),(157,[.nilfn]),(158,[.nilfn]),(159,[.nils]),(160,[.str ByteArray.empty,.int .i64 (0),.int .i64 (0),.nils]),(161,[.str ByteArray.empty,.int .i64 (0),.int .i64 (0),.nils]),(163,[.nilfn]),(164,[.nilfn]),(165,[.nilfn]),(166,[.nilfn]),(167,[.nilfn]),(168,[.arr (.int .i64) 32 (fun _=>(0:Int))]),(169,[.nilfn]),(170,[.arr (.st 2) 8 (fun _=>⟨(0:Int),(0:Int)⟩)]),(171,[.nilfn]),(172,[.int .i64 (0),.int .i64 (0)]),(173,[.int .i64 (0),.int .i64 (0)]),(175,[.nilfn]),(176,[.nilfn]),(178,[.nilfn]),(179,[.nilfn]),(180,[.nilfn]),(181,[.nilp]),(182,[.nilfn]),(183,[.nilfn]),(184,[.nilfn]),(186,[.nilfn]),(187,[.nilfn]),(188,[.nilfn]),(189,[.nilfn]),(190,[.nilfn]),(191,[.nilfn]),(192,[.nilfn]),(193,[.nilfn]),(194,[.nilfn]),(195,[.arr (.st 5) 4 (fun _=>⟨(0:Int),(0:Int)⟩)]),(196,[.arr (.st 5) 4 (fun _=>⟨(0:Int),(0:Int)⟩)]),(198,[.nilfn]),(199,[.nilfn]),(200,[.nilfn]),(201,[.nilfn]),(203,[.nilp]),(204,[.nilp]),(206,[.nilif]),(207,[.nilif]),(208,[.narr [204,256] 4]),(209,[.nilmap]),(210,[.nils,.nils,.int .i64 (0),.nils,.nils,.int .i64 (0),.int .i64 (0),.nils,.narr [204,256] 4,.nilmap]),(211,[.nils,.nils,.int .i64 (0),.nils,.nils,.int .i64 (0),.int .i64 (0),.nils,.narr [204,256] 4,.nilmap]),(212,[.nilfn]),(213,[.nilfn]),(214,[.nilfn]),(215,[.nilfn]),(217,[.nilfn]),(218,[.nilfn]),(219,[.nilfn]),(220,[.nilfn]),(221,[.nilfn]),(222,[.nilfn]),(223,[.nilfn]),(224,[.int .i64 (0),.int .i64 (0),.int .i64 (0),.int .i64 (0)]),(225,[.int .i64 (0),.int .i64 (0),.int .i64 (0),.int .i64 (0)]),(226,[.nilfn]),(227,[.nilfn]),(228,[.nilfn]),(229,[.nilfn]),(230,[.nilfn]),(231,[.nilfn]),(232,[.nilmap]),(233,[.nilfn]),(234,[.nilfn]),(235,[.nilp]),(236,[.nils]),(237,[.nilp,.nils]),(238,[.nilp,.nils]),(239,[.nilif]),(240,[.nilif]),(242,[.nilfn]),(243,[.nilfn]),(244,[.nilfn]),(245,[.nilfn]),(246,[.nilfn]),(247,[.nils]),(248,[.nilfn]),(249,[.nilfn]),(250,[.nilfn]),(251,[.nilfn]),(252,[.nilfn]),(253,[.nilfn]),(254,[.nilfn]),(255,[.nilfn]),(256,[.nilp]),(259,[.nilfn]),(260,[.nilfn]),(261,[.nilfn]),(262,[.nilfn]),(263,[.nilfn]),(264,[.nilfn]),(265,[.nilfn]),(266,[.nilfn]),(267,[.nilfn]),(268,[.nilfn]),(269,[.nilfn]),(270,[.nilfn]),(271,[.nilp]),(272,[.nilfn]),(273,[.nilfn]),(274,[.nilp]),(275,[.nilp]),(276,[.int .i64 (0),.int .i64 (0),.int .i64 (0)]),(277,[.int .i64 (0),.int .i64 (0),.int .i64 (0)]),(278,[.nilfn]),(279,[.nilfn]),(280,[.nilfn]),(281,[.nilfn]),(282,[.nilfn]),(283,[.nilfn]),(284,[.nilp]),(285,[.nilfn]),(286,[.nilfn]),(287,[.nilfn]),(288,[.nilfn]),(289,[.int .u64 (0)]),(290,[.nilfn]),(291,[.nilfn]),(292,[.nilfn]),(293,[.arr (.int .u8) 24 (fun _=>(0:Int))]),(294,[.nilfn]),(295,[.nilfn]),(297,[.nilfn]),(298,[.int .u32 (0)]),(300,[.nilfn]),(301,[.nilfn]),(303,[.nilfn]),(304,[.nilfn]),(305,[.nilfn]),(306,[.nilfn]),(307,[.arr (.int .u64) 20 (fun _=>(0:Int))]),(308,[.arr (.int .u8) 65 (fun _=>(0:Int))]),(309,[.nilfn]),(310,[.int .i64 (0)]),(312,[.nilfn]),(313,[.nilp]),(314,[.nilfn]),(315,[.nilfn]),(316,[.nilfn]),(317,[.arr (.int .u8) 256 (fun _=>(0:Int))]),(318,[.int .u8 (0),.int .u8 (0)]),(319,[.int .u8 (0),.int .u8 (0)]),(320,[.arr (.st 25) 16 (fun _=>⟨(0:Int),(0:Int)⟩)]),(322,[.nilfn]),(323,[.nilfn]),(324,[.str ByteArray.empty,.str ByteArray.empty,.nilif]),(325,[.str ByteArray.empty,.str ByteArray.empty,.nilif]),(326,[.nilfn]),(327,[.arr (.int .u8) 32 (fun _=>(0:Int))]),(328,[.arr (.int .u8) 64 (fun _=>(0:Int))]),(329,[.nilfn]),(330,[.nilp]),(331,[.str ByteArray.empty]),(332,[.str ByteArray.empty]),(333,[.nilp,.nilp,.nilp,.str ByteArray.empty]),(334,[.nilp,.nilp,.nilp,.str ByteArray.empty]),(335,[]),(336,[]),(337,[]),(338,[.int .u8 (0)]),(339,[.int .u8 (0)]),(340,[.nilfn]),(341,[.int .i32 (0)]),(342,[.int .i32 (0)]),(343,[.int .u64 (0),.int .u64 (0),.int .u32 (0),.int .u8 (0),.int .u8 (0),.int .u8 (0),.int .u8 (0),.nilfn,.nilp,.int .i32 (0),.int .i32 (0)]),(344,[.int .u64 (0),.int .u64 (0),.int .u32 (0),.int .u8 (0),.int .u8 (0),.int .u8 (0),.int .u8 (0),.nilfn,.nilp,.int .i32 (0),.int .i32 (0)]),(345,[.nilfn]),(346,[.nilfn])]
def codeT:Tr Ty:=Tr.ofList codeL
def zeroT:Tr (List (TV Nore.S)):=Tr.ofList zeroL
noncomputable def X:Yk Nore.S:=⟨E,Nore.T,codeT.get,zeroT.get⟩
theorem codeAll:Zdt (fun t c=>Zex Nore.T (tyT.get t) c) codeT=true:=by kernel_rfl
theorem zeroAll:Zdt (fun t z=>Zh6 Nore.T (tyT.get t) z) zeroT=true:=by kernel_rfl
theorem zeroLaw (t:Nat) (z:List (TV Nore.S)) (ti:TI) (h1:zeroT.get t=some z) (h2:tyT.get t=some ti):dvs Nore.T z=ti.zero:=Zh7 (Z6g (p:=fun t z=>Zh6 Nore.T (tyT.get t) z) zeroAll h1) h2
theorem codeLaw (t:Nat) (c:Ty) (ti:TI) (h1:codeT.get t=some c) (h2:tyT.get t=some ti):ti.size=tsz Nore.T c/\ti.isAgg=YZ c:=Zgc (Z6g (p:=fun t c=>Zex Nore.T (tyT.get t) c) codeAll h1) h2
set_option maxRecDepth 100000 in
theorem xok:XOk X:=XOk.mk Nore.tok zeroLaw codeLaw
end Go.Proofs.YtaaalkppbbpacaaGreatDoor
open Go Go.Ab
namespace Nore
def Z4.Ok (lim:Ty->Nat) (x:Z4):Prop:=((Lit.int .i64 x.x).wf=true)/\((Lit.int .i64 x.y).wf=true)/\True/\((Lit.int .u8 x.code).wf=true)/\True
def Z1.Ok (lim:Ty->Nat) (x:Z1):Prop:=(x.msg.size<=maxLen)/\((Lit.int .u64 x.addr).wf=true)/\True
def Point.Ok (lim:Ty->Nat) (x:Point):Prop:=((Lit.int .i64 x.X).wf=true)/\((Lit.int .i64 x.Y).wf=true)/\True
def Zr.Ok (lim:Ty->Nat) (x:Zr):Prop:=((Lit.int .i64 x.Day).wf=true)/\((Lit.int .i64 x.Hz4).wf=true)/\True
def ZC.Ok (lim:Ty->Nat) (x:ZC):Prop:=(x.Name.size<=maxLen)/\(Point.Ok lim x.At)/\(x.Hz3.length<=lim (.st 3)/\∀y0,List.Mem y0 x.Hz3->(Zr.Ok lim y0))/\True
def ZN.Ok (lim:Ty->Nat) (x:ZN):Prop:=((Lit.int .i64 x.Lo).wf=true)/\((Lit.int .i64 x.Hi).wf=true)/\True
def ZF.Ok (lim:Ty->Nat) (x:ZF):Prop:=(ZN.Ok lim x.X)/\(ZN.Ok lim x.Y)/\True
def CtSand.Ok (lim:Ty->Nat) (x:CtSand):Prop:=(x.Name.size<=maxLen)/\(x.Hz2.length<=lim (.st 2)/\∀y0,List.Mem y0 x.Hz2->(Point.Ok lim y0))/\(ZF.Ok lim x.Hzc)/\True
def Zo.Ok (lim:Ty->Nat) (x:Zo):Prop:=(x.Hz8.length<=lim (.st 4)/\∀y0,List.Mem y0 x.Hz8->(ZC.Ok lim y0))/\(x.Hzb.length<=lim (.st 7)/\∀y0,List.Mem y0 x.Hzb->(CtSand.Ok lim y0))/\True
def SgMooring.Ok (lim:Ty->Nat) (x:SgMooring):Prop:=(Zo.Ok lim x.Hz9)/\(ZF.Ok lim x.Anchor)/\(ZN.Ok lim x.Ring)/\((Lit.int .i64 x.Near).wf=true)/\True
def ZD.Ok (lim:Ty->Nat) (x:ZD):Prop:=((Lit.int .i64 x.Minute).wf=true)/\((Lit.int .i64 x.Point).wf=true)/\((Lit.int .i64 x.Points).wf=true)/\(ZF.Ok lim x.At)/\True
def Z9.Ok (lim:Ty->Nat) (x:Z9):Prop:=(x.Name.size<=maxLen)/\True/\(ZN.Ok lim x.Off)/\True
def Zz.Ok (lim:Ty->Nat) (x:Zz):Prop:=(ZN.Ok lim x.X)/\(ZN.Ok lim x.Y)/\(ZN.Ok lim x.Hza)/\((Lit.int .i64 x.Hz5).wf=true)/\True
def ZS.Ok (lim:Ty->Nat) (x:ZS):Prop:=(Zo.Ok lim x.Hz9)/\((Lit.int .i64 x.Day).wf=true)/\(x.Hz0.length<=lim (.st 18)/\∀y0,List.Mem y0 x.Hz0->(Z9.Ok lim y0))/\(x.Hz7.length<=lim (.st 19)/\∀y0,List.Mem y0 x.Hz7->(Zz.Ok lim y0))/\((Lit.int .i64 x.Step).wf=true)/\((Lit.int .i64 x.Half).wf=true)/\True
def Z7.Ok (lim:Ty->Nat) (x:Z7):Prop:=(∀j0,j0<2->((Lit.int .u8 (x.Place j0)).wf=true))/\(x.Offs.length<=lim (.int .u16)/\∀y0,List.Mem y0 x.Offs->((Lit.int .u16 y0).wf=true))/\(x.Taken.length<=lim (.int .u16)/\∀y0,List.Mem y0 x.Taken->((Lit.int .u16 y0).wf=true))/\True
def Z6.Ok (lim:Ty->Nat) (x:Z6):Prop:=(Z7.Ok lim x.Past)/\(∀j0,j0<2->((Lit.int .u8 (x.Hzc j0)).wf=true))/\True
def Zt.Ok (lim:Ty->Nat) (x:Zt):Prop:=((Lit.int .i64 x.Hz1).wf=true)/\((Lit.int .i64 x.Mark).wf=true)/\((Lit.int .i64 x.Hz6).wf=true)/\((Lit.int .i64 x.Hz5).wf=true)/\True
def Za.Ok (lim:Ty->Nat) (x:Za):Prop:=(SgMooring.Ok lim x.SgMooring)/\(∀j0,j0<5->((Lit.int .u64 (x.all_ j0)).wf=true))/\True
def Zf.Ok (lim:Ty->Nat) (x:Zf):Prop:=(CtSand.Ok lim x.CtSand)/\True
def Z8.Ok (lim:Ty->Nat) (x:Z8):Prop:=((Lit.int .i64 x.lo).wf=true)/\((Lit.int .i64 x.hi).wf=true)/\True
def Ze.Ok (lim:Ty->Nat) (x:Ze):Prop:=(Point.Ok lim x.at_)/\(Point.Ok lim x.by_)/\True
def Zn.Ok (lim:Ty->Nat) (x:Zn):Prop:=((Lit.int .i64 x.mark).wf=true)/\(Point.Ok lim x.from_)/\True
def Z2.Ok (lim:Ty->Nat) (x:Z2):Prop:=((Lit.int .u8 x.lo).wf=true)/\((Lit.int .u8 x.hi).wf=true)/\True
def Z5.Ok (lim:Ty->Nat) (x:Z5):Prop:=(x.s.size<=maxLen)/\True
def sOk (lim:Ty->Nat) (i:Nat):S i->Prop:=match i with
 | 0=>Z4.Ok lim
 | 1=>Z1.Ok lim
 | 2=>Point.Ok lim
 | 3=>Zr.Ok lim
 | 4=>ZC.Ok lim
 | 5=>ZN.Ok lim
 | 6=>ZF.Ok lim
 | 7=>CtSand.Ok lim
 | 8=>Zo.Ok lim
 | 9=>SgMooring.Ok lim
 | 10=>ZD.Ok lim
 | 14=>Za.Ok lim
 | 15=>Zf.Ok lim
 | 16=>Z8.Ok lim
 | 17=>Ze.Ok lim
 | 18=>Z9.Ok lim
 | 19=>Zz.Ok lim
 | 20=>ZS.Ok lim
 | 21=>Z7.Ok lim
 | 22=>Z6.Ok lim
 | 23=>Zt.Ok lim
 | 24=>Zn.Ok lim
 | 25=>Z2.Ok lim
 | 26=>Z5.Ok lim
 | 11=>fun _=>True
 | 12=>fun _=>True
 | 13=>fun _=>True
 | _+27=>fun _=>True
def flds (i:Nat):List Ty:=match i with
 | 0=>[(.int .i64),(.int .i64),.bool,(.int .u8)]
 | 1=>[.str,(.int .u64)]
 | 2=>[(.int .i64),(.int .i64)]
 | 3=>[(.int .i64),(.int .i64)]
 | 4=>[.str,(.st 2),(.sl (.st 3))]
 | 5=>[(.int .i64),(.int .i64)]
 | 6=>[(.st 5),(.st 5)]
 | 7=>[.str,(.sl (.st 2)),(.st 6)]
 | 8=>[(.sl (.st 4)),(.sl (.st 7))]
 | 9=>[(.st 8),(.st 6),(.st 5),(.int .i64)]
 | 10=>[(.int .i64),(.int .i64),(.int .i64),(.st 6)]
 | 14=>[(.st 9),(.arr 5 (.int .u64))]
 | 15=>[(.st 7)]
 | 16=>[(.int .i64),(.int .i64)]
 | 17=>[(.st 2),(.st 2)]
 | 18=>[.str,.bool,(.st 5)]
 | 19=>[(.st 5),(.st 5),(.st 5),(.int .i64)]
 | 20=>[(.st 8),(.int .i64),(.sl (.st 18)),(.sl (.st 19)),(.int .i64),(.int .i64)]
 | 21=>[(.arr 2 (.int .u8)),(.sl (.int .u16)),(.sl (.int .u16))]
 | 22=>[(.st 21),(.arr 2 (.int .u8))]
 | 23=>[(.int .i64),(.int .i64),(.int .i64),(.int .i64)]
 | 24=>[(.int .i64),(.st 2)]
 | 25=>[(.int .u8),(.int .u8)]
 | 26=>[.str]
 | 11=>[]
 | 12=>[]
 | 13=>[]
 | _+27=>[]
def smk (i:Nat):Z4D S (flds i)->S i:=match i with
 | 0=>fun xs=>(⟨xs.1,xs.2.1,xs.2.2.1,xs.2.2.2.1⟩:Z4)
 | 1=>fun xs=>(⟨xs.1,xs.2.1⟩:Z1)
 | 2=>fun xs=>(⟨xs.1,xs.2.1⟩:Point)
 | 3=>fun xs=>(⟨xs.1,xs.2.1⟩:Zr)
 | 4=>fun xs=>(⟨xs.1,xs.2.1,xs.2.2.1⟩:ZC)
 | 5=>fun xs=>(⟨xs.1,xs.2.1⟩:ZN)
 | 6=>fun xs=>(⟨xs.1,xs.2.1⟩:ZF)
 | 7=>fun xs=>(⟨xs.1,xs.2.1,xs.2.2.1⟩:CtSand)
 | 8=>fun xs=>(⟨xs.1,xs.2.1⟩:Zo)
 | 9=>fun xs=>(⟨xs.1,xs.2.1,xs.2.2.1,xs.2.2.2.1⟩:SgMooring)
 | 10=>fun xs=>(⟨xs.1,xs.2.1,xs.2.2.1,xs.2.2.2.1⟩:ZD)
 | 14=>fun xs=>(⟨xs.1,xs.2.1⟩:Za)
 | 15=>fun xs=>(⟨xs.1⟩:Zf)
 | 16=>fun xs=>(⟨xs.1,xs.2.1⟩:Z8)
 | 17=>fun xs=>(⟨xs.1,xs.2.1⟩:Ze)
 | 18=>fun xs=>(⟨xs.1,xs.2.1,xs.2.2.1⟩:Z9)
 | 19=>fun xs=>(⟨xs.1,xs.2.1,xs.2.2.1,xs.2.2.2.1⟩:Zz)
 | 20=>fun xs=>(⟨xs.1,xs.2.1,xs.2.2.1,xs.2.2.2.1,xs.2.2.2.2.1,xs.2.2.2.2.2.1⟩:ZS)
 | 21=>fun xs=>(⟨xs.1,xs.2.1,xs.2.2.1⟩:Z7)
 | 22=>fun xs=>(⟨xs.1,xs.2.1⟩:Z6)
 | 23=>fun xs=>(⟨xs.1,xs.2.1,xs.2.2.1,xs.2.2.2.1⟩:Zt)
 | 24=>fun xs=>(⟨xs.1,xs.2.1⟩:Zn)
 | 25=>fun xs=>(⟨xs.1,xs.2.1⟩:Z2)
 | 26=>fun xs=>(⟨xs.1⟩:Z5)
 | 11=>fun _=>T.dflt _
 | 12=>fun _=>T.dflt _
 | 13=>fun _=>T.dflt _
 | _+27=>fun _=>T.dflt _
theorem Ziq (i:Nat):∀xs,T.dcells i (smk i xs)=Yr T (flds i) xs:=match i with
 | 0=>fun xs=>by
  show Z4.dl _=_;unfold Z4.dl
  first|(simp only[flds,Yr,smk,dcl,List.append_assoc,List.append_nil];done)|(simp only[flds,Yr,smk,dcl,List.append_assoc,List.append_nil];rfl)
 | 1=>fun xs=>by
  show Z1.dl _=_;unfold Z1.dl
  first|(simp only[flds,Yr,smk,dcl,List.append_assoc,List.append_nil];done)|(simp only[flds,Yr,smk,dcl,List.append_assoc,List.append_nil];rfl)
 | 2=>fun xs=>by
  show Point.dl _=_;unfold Point.dl
  first|(simp only[flds,Yr,smk,dcl,List.append_assoc,List.append_nil];done)|(simp only[flds,Yr,smk,dcl,List.append_assoc,List.append_nil];rfl)
 | 3=>fun xs=>by
  show Zr.dl _=_;unfold Zr.dl
  first|(simp only[flds,Yr,smk,dcl,List.append_assoc,List.append_nil];done)|(simp only[flds,Yr,smk,dcl,List.append_assoc,List.append_nil];rfl)
 | 4=>fun xs=>by
  show ZC.dl _=_;unfold ZC.dl
  first|(simp only[flds,Yr,smk,dcl,List.append_assoc,List.append_nil];done)|(simp only[flds,Yr,smk,dcl,List.append_assoc,List.append_nil];rfl)
 | 5=>fun xs=>by
  show ZN.dl _=_;unfold ZN.dl
  first|(simp only[flds,Yr,smk,dcl,List.append_assoc,List.append_nil];done)|(simp only[flds,Yr,smk,dcl,List.append_assoc,List.append_nil];rfl)
 | 6=>fun xs=>by
  show ZF.dl _=_;unfold ZF.dl
  first|(simp only[flds,Yr,smk,dcl,List.append_assoc,List.append_nil];done)|(simp only[flds,Yr,smk,dcl,List.append_assoc,List.append_nil];rfl)
 | 7=>fun xs=>by
  show CtSand.dl _=_;unfold CtSand.dl
  first|(simp only[flds,Yr,smk,dcl,List.append_assoc,List.append_nil];done)|(simp only[flds,Yr,smk,dcl,List.append_assoc,List.append_nil];rfl)
 | 8=>fun xs=>by
  show Zo.dl _=_;unfold Zo.dl
  first|(simp only[flds,Yr,smk,dcl,List.append_assoc,List.append_nil];done)|(simp only[flds,Yr,smk,dcl,List.append_assoc,List.append_nil];rfl)
 | 9=>fun xs=>by
  show SgMooring.dl _=_;unfold SgMooring.dl
  first|(simp only[flds,Yr,smk,dcl,List.append_assoc,List.append_nil];done)|(simp only[flds,Yr,smk,dcl,List.append_assoc,List.append_nil];rfl)
 | 10=>fun xs=>by
  show ZD.dl _=_;unfold ZD.dl
  first|(simp only[flds,Yr,smk,dcl,List.append_assoc,List.append_nil];done)|(simp only[flds,Yr,smk,dcl,List.append_assoc,List.append_nil];rfl)
 | 14=>fun xs=>by
  show Za.dl _=_;unfold Za.dl
  first|(simp only[flds,Yr,smk,dcl,List.append_assoc,List.append_nil];done)|(simp only[flds,Yr,smk,dcl,List.append_assoc,List.append_nil];rfl)
 | 15=>fun xs=>by
  show Zf.dl _=_;unfold Zf.dl
  first|(simp only[flds,Yr,smk,dcl,List.append_assoc,List.append_nil];done)|(simp only[flds,Yr,smk,dcl,List.append_assoc,List.append_nil];rfl)
 | 16=>fun xs=>by
  show Z8.dl _=_;unfold Z8.dl
  first|(simp only[flds,Yr,smk,dcl,List.append_assoc,List.append_nil];done)|(simp only[flds,Yr,smk,dcl,List.append_assoc,List.append_nil];rfl)
 | 17=>fun xs=>by
  show Ze.dl _=_;unfold Ze.dl
  first|(simp only[flds,Yr,smk,dcl,List.append_assoc,List.append_nil];done)|(simp only[flds,Yr,smk,dcl,List.append_assoc,List.append_nil];rfl)
 | 18=>fun xs=>by
  show Z9.dl _=_;unfold Z9.dl
  first|(simp only[flds,Yr,smk,dcl,List.append_assoc,List.append_nil];done)|(simp only[flds,Yr,smk,dcl,List.append_assoc,List.append_nil];rfl)
 | 19=>fun xs=>by
  show Zz.dl _=_;unfold Zz.dl
  first|(simp only[flds,Yr,smk,dcl,List.append_assoc,List.append_nil];done)|(simp only[flds,Yr,smk,dcl,List.append_assoc,List.append_nil];rfl)
 | 20=>fun xs=>by
  show ZS.dl _=_;unfold ZS.dl
  first|(simp only[flds,Yr,smk,dcl,List.append_assoc,List.append_nil];done)|(simp only[flds,Yr,smk,dcl,List.append_assoc,List.append_nil];rfl)
 | 21=>fun xs=>by
  show Z7.dl _=_;unfold Z7.dl
  first|(simp only[flds,Yr,smk,dcl,List.append_assoc,List.append_nil];done)|(simp only[flds,Yr,smk,dcl,List.append_assoc,List.append_nil];rfl)
 | 22=>fun xs=>by
  show Z6.dl _=_;unfold Z6.dl
  first|(simp only[flds,Yr,smk,dcl,List.append_assoc,List.append_nil];done)|(simp only[flds,Yr,smk,dcl,List.append_assoc,List.append_nil];rfl)
 | 23=>fun xs=>by
  show Zt.dl _=_;unfold Zt.dl
  first|(simp only[flds,Yr,smk,dcl,List.append_assoc,List.append_nil];done)|(simp only[flds,Yr,smk,dcl,List.append_assoc,List.append_nil];rfl)
 | 24=>fun xs=>by
  show Zn.dl _=_;unfold Zn.dl
  first|(simp only[flds,Yr,smk,dcl,List.append_assoc,List.append_nil];done)|(simp only[flds,Yr,smk,dcl,List.append_assoc,List.append_nil];rfl)
 | 25=>fun xs=>by
  show Z2.dl _=_;unfold Z2.dl
  first|(simp only[flds,Yr,smk,dcl,List.append_assoc,List.append_nil];done)|(simp only[flds,Yr,smk,dcl,List.append_assoc,List.append_nil];rfl)
 | 26=>fun xs=>by
  show Z5.dl _=_;unfold Z5.dl
  first|(simp only[flds,Yr,smk,dcl,List.append_assoc,List.append_nil];done)|(simp only[flds,Yr,smk,dcl,List.append_assoc,List.append_nil];rfl)
 | 11=>fun _=>rfl
 | 12=>fun _=>rfl
 | 13=>fun _=>rfl
 | _+27=>fun _=>rfl
theorem Zir (lim:Ty->Nat) (i:Nat):∀xs,aok lim (sOk lim) (flds i) xs->sOk lim i (smk i xs):=match i with
 | 0=>fun _ h=>h
 | 1=>fun _ h=>h
 | 2=>fun _ h=>h
 | 3=>fun _ h=>h
 | 4=>fun _ h=>h
 | 5=>fun _ h=>h
 | 6=>fun _ h=>h
 | 7=>fun _ h=>h
 | 8=>fun _ h=>h
 | 9=>fun _ h=>h
 | 10=>fun _ h=>h
 | 14=>fun _ h=>h
 | 15=>fun _ h=>h
 | 16=>fun _ h=>h
 | 17=>fun _ h=>h
 | 18=>fun _ h=>h
 | 19=>fun _ h=>h
 | 20=>fun _ h=>h
 | 21=>fun _ h=>h
 | 22=>fun _ h=>h
 | 23=>fun _ h=>h
 | 24=>fun _ h=>h
 | 25=>fun _ h=>h
 | 26=>fun _ h=>h
 | 11=>fun _ _=>trivial
 | 12=>fun _ _=>trivial
 | 13=>fun _ _=>trivial
 | _+27=>fun _ _=>trivial
def F:SF T:=⟨flds,smk,sOk,Ziq,Zir⟩
end Nore
namespace Go.Proofs.YtaaalkppbbpacaaGreatDoor
open Go.Ab Go.Proofs
def tb:Ty->Nat
 | .st 10=>56
 | .st 23=>32
 | .st 2=>16
 | _=>1
def limW (c:Ty):Nat:=reachBytes / tb c
theorem tbAll:Zdt (fun e c=>Nat.beq (Tryz.prog.bytesOf e) 0||Nat.ble (tb c) (Tryz.prog.bytesOf e)) codeT=true:=by kernel_rfl
theorem readAll:Zdt (fun t c=>Z9j codeT.get tyT.get (tsz Nore.T) Nore.flds (tyT.get t) c) codeT=true:=by kernel_rfl
theorem readLaw (t:Nat) (c:Ty) (h:X.code t=some c):Z9j X.code X.E.ty (tsz X.T) Nore.F.flds (X.E.ty t) c=true:=Z6g (p:=fun t c=>Z9j codeT.get tyT.get (tsz Nore.T) Nore.flds (tyT.get t) c) readAll h
end Go.Proofs.YtaaalkppbbpacaaGreatDoor
