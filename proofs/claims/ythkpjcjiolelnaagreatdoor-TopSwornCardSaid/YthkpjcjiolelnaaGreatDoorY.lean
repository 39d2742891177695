/- The structs of the program as plain structures. -/
import Derived.Test.YthkpjcjiolelnaaGreatDoorT2
import Derived.Test.YthkpjcjiolelnaaGreatDoorB
import Derived.KernelRfl
set_option linter.unusedSectionVars false
set_option linter.unusedVariables false
set_option linter.unusedSimpArgs false
namespace Nore
open Go Go.Ab
@[ext] structure Cn where
 x:Int
 y:Int
 signed:Bool
 code:Int
@[ext] structure Cl where
 msg:ByteArray
 addr:Int
@[ext] structure A9 where
 Name:ByteArray
 Dk:Int
 FB:Int
@[ext] structure AE where
 AK:Int
 A0:Int
@[ext] structure AN where
 Device:Int
 State:Int
 At:AE
@[ext] structure AQ where
 Au:(List A9)
 Entries:(List AN)
@[ext] structure A7 where
 Name:ByteArray
 CF:AE
 IH:Int
@[ext] structure BC where
 BJ:(List A7)
 HD:AE
 Clear:AE
@[ext] structure A6 where
 X:Int
 Y:Int
@[ext] structure Ah where
 At:A6
 FJ:Int
 IW:Int
 H4:Int
@[ext] structure Bx where
 Jv:(List Int)
 Bh:(List Int)
@[ext] structure CG where
 Gg:(Nat->Int)
 Bh:(List Int)
@[ext] structure Cg where
 LO:Bx
 LN:CG
 At:(Nat->Int)
 Minute:Int
@[ext] structure C5 where
 Fk:Ah
 D3:Cg
@[ext] structure Aa where
 Device:Int
 State:Int
 At:AE
@[ext] structure Ak where
 At:A6
 MG:Bool
 MT:Bool
@[ext] structure C2 where
 A:Int
 B:Int
@[ext] structure BK where
 BC:BC
 Ah:Ah
 C0:(List Ak)
@[ext] structure CR where
 KU:Int
 F9:Int
@[ext] structure BQ where
 Pb:Int
 clear:Int
@[ext] structure AF where
 AQ:AQ
 seen:(List Aa)
@[ext] structure AG where
 from_:Int
 EJ:Int
@[ext] structure Cm where
 A1:Int
 AA:Int
@[ext] structure Co where
 s:ByteArray
def S:Nat->Type
 | 0=>Cn
 | 1=>Cl
 | 2=>A6
 | 3=>Unit
 | 4=>Unit
 | 5=>AE
 | 6=>Unit
 | 7=>Unit
 | 8=>Unit
 | 9=>Unit
 | 10=>Unit
 | 11=>Unit
 | 12=>Unit
 | 13=>Unit
 | 14=>Unit
 | 15=>Unit
 | 16=>Unit
 | 17=>Unit
 | 18=>A9
 | 19=>AN
 | 20=>AQ
 | 21=>A7
 | 22=>BC
 | 23=>Ah
 | 24=>Bx
 | 25=>CG
 | 26=>Cg
 | 27=>C5
 | 28=>Aa
 | 29=>Ak
 | 30=>C2
 | 31=>BK
 | 32=>CR
 | 33=>BQ
 | 34=>AF
 | 35=>AG
 | 36=>Cm
 | 37=>Co
 | _+38=>Unit
def Cn.BU (x:Cn):List (AJ S):=[.int .i64 x.x]++[.int .i64 x.y]++[.bool x.signed]++[.int .u8 x.code]
def Cn.dl (x:Cn):List AB:=[.int .i64 x.x]++[.int .i64 x.y]++[.bool x.signed]++[.int .u8 x.code]
def Cn.df:Cn:=⟨(0:Int),(0:Int),false,(0:Int)⟩
def Cn.Eu (x y:Cn):Bool:=(x.x==y.x&&(x.y==y.y&&(x.signed==y.signed&&(x.code==y.code&&true))))
def Cn.seq:Option (Cn->Cn->Bool):=some Cn.Eu
def Cl.BU (x:Cl):List (AJ S):=[.str x.msg]++[.int .u64 x.addr]
def Cl.dl (x:Cl):List AB:=[.str x.msg]++[.int .u64 x.addr]
def Cl.df:Cl:=⟨ByteArray.empty,(0:Int)⟩
def Cl.Eu (x y:Cl):Bool:=(x.msg==y.msg&&(x.addr==y.addr&&true))
def Cl.seq:Option (Cl->Cl->Bool):=some Cl.Eu
def A9.BU (x:A9):List (AJ S):=[.str x.Name]++[.int .i64 x.Dk]++[.int .i64 x.FB]
def A9.dl (x:A9):List AB:=[.str x.Name]++[.int .i64 x.Dk]++[.int .i64 x.FB]
def A9.df:A9:=⟨ByteArray.empty,(0:Int),(0:Int)⟩
def A9.Eu (x y:A9):Bool:=(x.Name==y.Name&&(x.Dk==y.Dk&&(x.FB==y.FB&&true)))
def A9.seq:Option (A9->A9->Bool):=some A9.Eu
def AE.BU (x:AE):List (AJ S):=[.int .i64 x.AK]++[.int .i64 x.A0]
def AE.dl (x:AE):List AB:=[.int .i64 x.AK]++[.int .i64 x.A0]
def AE.df:AE:=⟨(0:Int),(0:Int)⟩
def AE.Eu (x y:AE):Bool:=(x.AK==y.AK&&(x.A0==y.A0&&true))
def AE.seq:Option (AE->AE->Bool):=some AE.Eu
def AN.BU (x:AN):List (AJ S):=[.int .i64 x.Device]++[.int .i64 x.State]++[.BR 5 x.At]
def AN.dl (x:AN):List AB:=[.int .i64 x.Device]++[.int .i64 x.State]++(AE.dl x.At)
def AN.df:AN:=⟨(0:Int),(0:Int),⟨(0:Int),(0:Int)⟩⟩
def AN.Eu (x y:AN):Bool:=(x.Device==y.Device&&(x.State==y.State&&(x.At.AK==y.At.AK&&(x.At.A0==y.At.A0&&true))))
def AN.seq:Option (AN->AN->Bool):=some AN.Eu
def AQ.BU (x:AQ):List (AJ S):=[.AR (.st 18) x.Au]++[.AR (.st 19) x.Entries]
def AQ.dl (x:AQ):List AB:=[.AR (List.map (fun y=>(A9.dl y)) x.Au)]++[.AR (List.map (fun y=>(AN.dl y)) x.Entries)]
def AQ.df:AQ:=⟨[],[]⟩
def AQ.seq:Option (AQ->AQ->Bool):=none
def A7.BU (x:A7):List (AJ S):=[.str x.Name]++[.BR 5 x.CF]++[.int .i64 x.IH]
def A7.dl (x:A7):List AB:=[.str x.Name]++(AE.dl x.CF)++[.int .i64 x.IH]
def A7.df:A7:=⟨ByteArray.empty,⟨(0:Int),(0:Int)⟩,(0:Int)⟩
def A7.Eu (x y:A7):Bool:=(x.Name==y.Name&&(x.CF.AK==y.CF.AK&&(x.CF.A0==y.CF.A0&&(x.IH==y.IH&&true))))
def A7.seq:Option (A7->A7->Bool):=some A7.Eu
def BC.BU (x:BC):List (AJ S):=[.AR (.st 21) x.BJ]++[.BR 5 x.HD]++[.BR 5 x.Clear]
def BC.dl (x:BC):List AB:=[.AR (List.map (fun y=>(A7.dl y)) x.BJ)]++(AE.dl x.HD)++(AE.dl x.Clear)
def BC.df:BC:=⟨[],⟨(0:Int),(0:Int)⟩,⟨(0:Int),(0:Int)⟩⟩
def BC.seq:Option (BC->BC->Bool):=none
def A6.BU (x:A6):List (AJ S):=[.int .i64 x.X]++[.int .i64 x.Y]
def A6.dl (x:A6):List AB:=[.int .i64 x.X]++[.int .i64 x.Y]
def A6.df:A6:=⟨(0:Int),(0:Int)⟩
def A6.Eu (x y:A6):Bool:=(x.X==y.X&&(x.Y==y.Y&&true))
def A6.seq:Option (A6->A6->Bool):=some A6.Eu
def Ah.BU (x:Ah):List (AJ S):=[.BR 2 x.At]++[.int .i64 x.FJ]++[.int .i64 x.IW]++[.int .i64 x.H4]
def Ah.dl (x:Ah):List AB:=(A6.dl x.At)++[.int .i64 x.FJ]++[.int .i64 x.IW]++[.int .i64 x.H4]
def Ah.df:Ah:=⟨⟨(0:Int),(0:Int)⟩,(0:Int),(0:Int),(0:Int)⟩
def Ah.Eu (x y:Ah):Bool:=(x.At.X==y.At.X&&(x.At.Y==y.At.Y&&(x.FJ==y.FJ&&(x.IW==y.IW&&(x.H4==y.H4&&true)))))
def Ah.seq:Option (Ah->Ah->Bool):=some Ah.Eu
def Bx.BU (x:Bx):List (AJ S):=[.AR (.int .u16) x.Jv]++[.AR (.int .u16) x.Bh]
def Bx.dl (x:Bx):List AB:=[.AR (List.map (fun y=>[.int .u16 y]) x.Jv)]++[.AR (List.map (fun y=>[.int .u16 y]) x.Bh)]
def Bx.df:Bx:=⟨[],[]⟩
def Bx.seq:Option (Bx->Bx->Bool):=none
def CG.BU (x:CG):List (AJ S):=[.arr (.int .u16) 4 x.Gg]++[.AR (.int .u16) x.Bh]
def CG.dl (x:CG):List AB:=((List.range 4).flatMap fun j=>[.int .u16 (x.Gg j)])++[.AR (List.map (fun y=>[.int .u16 y]) x.Bh)]
def CG.df:CG:=⟨(fun _=>(0:Int)),[]⟩
def CG.seq:Option (CG->CG->Bool):=none
def Cg.BU (x:Cg):List (AJ S):=[.BR 24 x.LO]++[.BR 25 x.LN]++[.arr (.int .u16) 2 x.At]++[.int .u16 x.Minute]
def Cg.dl (x:Cg):List AB:=(Bx.dl x.LO)++(CG.dl x.LN)++((List.range 2).flatMap fun j=>[.int .u16 (x.At j)])++[.int .u16 x.Minute]
def Cg.df:Cg:=⟨⟨[],[]⟩,⟨(fun _=>(0:Int)),[]⟩,(fun _=>(0:Int)),(0:Int)⟩
def Cg.seq:Option (Cg->Cg->Bool):=none
def C5.BU (x:C5):List (AJ S):=[.BR 23 x.Fk]++[.BR 26 x.D3]
def C5.dl (x:C5):List AB:=(Ah.dl x.Fk)++(Cg.dl x.D3)
def C5.df:C5:=⟨⟨⟨(0:Int),(0:Int)⟩,(0:Int),(0:Int),(0:Int)⟩,⟨⟨[],[]⟩,⟨(fun _=>(0:Int)),[]⟩,(fun _=>(0:Int)),(0:Int)⟩⟩
def C5.seq:Option (C5->C5->Bool):=none
def Aa.BU (x:Aa):List (AJ S):=[.int .i64 x.Device]++[.int .i64 x.State]++[.BR 5 x.At]
def Aa.dl (x:Aa):List AB:=[.int .i64 x.Device]++[.int .i64 x.State]++(AE.dl x.At)
def Aa.df:Aa:=⟨(0:Int),(0:Int),⟨(0:Int),(0:Int)⟩⟩
def Aa.Eu (x y:Aa):Bool:=(x.Device==y.Device&&(x.State==y.State&&(x.At.AK==y.At.AK&&(x.At.A0==y.At.A0&&true))))
def Aa.seq:Option (Aa->Aa->Bool):=some Aa.Eu
def Ak.BU (x:Ak):List (AJ S):=[.BR 2 x.At]++[.bool x.MG]++[.bool x.MT]
def Ak.dl (x:Ak):List AB:=(A6.dl x.At)++[.bool x.MG]++[.bool x.MT]
def Ak.df:Ak:=⟨⟨(0:Int),(0:Int)⟩,false,false⟩
def Ak.Eu (x y:Ak):Bool:=(x.At.X==y.At.X&&(x.At.Y==y.At.Y&&(x.MG==y.MG&&(x.MT==y.MT&&true))))
def Ak.seq:Option (Ak->Ak->Bool):=some Ak.Eu
def C2.BU (x:C2):List (AJ S):=[.int .i64 x.A]++[.int .i64 x.B]
def C2.dl (x:C2):List AB:=[.int .i64 x.A]++[.int .i64 x.B]
def C2.df:C2:=⟨(0:Int),(0:Int)⟩
def C2.Eu (x y:C2):Bool:=(x.A==y.A&&(x.B==y.B&&true))
def C2.seq:Option (C2->C2->Bool):=some C2.Eu
def BK.BU (x:BK):List (AJ S):=[.BR 22 x.BC]++[.BR 23 x.Ah]++[.AR (.st 29) x.C0]
def BK.dl (x:BK):List AB:=(BC.dl x.BC)++(Ah.dl x.Ah)++[.AR (List.map (fun y=>(Ak.dl y)) x.C0)]
def BK.df:BK:=⟨⟨[],⟨(0:Int),(0:Int)⟩,⟨(0:Int),(0:Int)⟩⟩,⟨⟨(0:Int),(0:Int)⟩,(0:Int),(0:Int),(0:Int)⟩,[]⟩
def BK.seq:Option (BK->BK->Bool):=none
def CR.BU (x:CR):List (AJ S):=[.int .i64 x.KU]++[.int .i64 x.F9]
def CR.dl (x:CR):List AB:=[.int .i64 x.KU]++[.int .i64 x.F9]
def CR.df:CR:=⟨(0:Int),(0:Int)⟩
def CR.Eu (x y:CR):Bool:=(x.KU==y.KU&&(x.F9==y.F9&&true))
def CR.seq:Option (CR->CR->Bool):=some CR.Eu
def BQ.BU (x:BQ):List (AJ S):=[.int .i64 x.Pb]++[.int .i64 x.clear]
def BQ.dl (x:BQ):List AB:=[.int .i64 x.Pb]++[.int .i64 x.clear]
def BQ.df:BQ:=⟨(0:Int),(0:Int)⟩
def BQ.Eu (x y:BQ):Bool:=(x.Pb==y.Pb&&(x.clear==y.clear&&true))
def BQ.seq:Option (BQ->BQ->Bool):=some BQ.Eu
def AF.BU (x:AF):List (AJ S):=[.BR 20 x.AQ]++[.AR (.st 28) x.seen]
def AF.dl (x:AF):List AB:=(AQ.dl x.AQ)++[.AR (List.map (fun y=>(Aa.dl y)) x.seen)]
def AF.df:AF:=⟨⟨[],[]⟩,[]⟩
def AF.seq:Option (AF->AF->Bool):=none
def AG.BU (x:AG):List (AJ S):=[.int .i64 x.from_]++[.int .i64 x.EJ]
def AG.dl (x:AG):List AB:=[.int .i64 x.from_]++[.int .i64 x.EJ]
def AG.df:AG:=⟨(0:Int),(0:Int)⟩
def AG.Eu (x y:AG):Bool:=(x.from_==y.from_&&(x.EJ==y.EJ&&true))
def AG.seq:Option (AG->AG->Bool):=some AG.Eu
def Cm.BU (x:Cm):List (AJ S):=[.int .u8 x.A1]++[.int .u8 x.AA]
def Cm.dl (x:Cm):List AB:=[.int .u8 x.A1]++[.int .u8 x.AA]
def Cm.df:Cm:=⟨(0:Int),(0:Int)⟩
def Cm.Eu (x y:Cm):Bool:=(x.A1==y.A1&&(x.AA==y.AA&&true))
def Cm.seq:Option (Cm->Cm->Bool):=some Cm.Eu
def Co.BU (x:Co):List (AJ S):=[.str x.s]
def Co.dl (x:Co):List AB:=[.str x.s]
def Co.df:Co:=⟨ByteArray.empty⟩
def Co.Eu (x y:Co):Bool:=(x.s==y.s&&true)
def Co.seq:Option (Co->Co->Bool):=some Co.Eu
def Gf:BZ S where
 size:=fun i=>match i with
  | 0=>4
  | 1=>2
  | 18=>3
  | 5=>2
  | 19=>4
  | 20=>2
  | 21=>4
  | 22=>5
  | 2=>2
  | 23=>5
  | 24=>2
  | 25=>5
  | 26=>10
  | 27=>15
  | 28=>4
  | 29=>4
  | 30=>2
  | 31=>11
  | 32=>2
  | 33=>2
  | 34=>3
  | 35=>2
  | 36=>2
  | 37=>1
  | _=>0
 cells:=fun i=>match i with
  | 0=>Cn.BU
  | 1=>Cl.BU
  | 2=>A6.BU
  | 3=>fun _=>[]
  | 4=>fun _=>[]
  | 5=>AE.BU
  | 6=>fun _=>[]
  | 7=>fun _=>[]
  | 8=>fun _=>[]
  | 9=>fun _=>[]
  | 10=>fun _=>[]
  | 11=>fun _=>[]
  | 12=>fun _=>[]
  | 13=>fun _=>[]
  | 14=>fun _=>[]
  | 15=>fun _=>[]
  | 16=>fun _=>[]
  | 17=>fun _=>[]
  | 18=>A9.BU
  | 19=>AN.BU
  | 20=>AQ.BU
  | 21=>A7.BU
  | 22=>BC.BU
  | 23=>Ah.BU
  | 24=>Bx.BU
  | 25=>CG.BU
  | 26=>Cg.BU
  | 27=>C5.BU
  | 28=>Aa.BU
  | 29=>Ak.BU
  | 30=>C2.BU
  | 31=>BK.BU
  | 32=>CR.BU
  | 33=>BQ.BU
  | 34=>AF.BU
  | 35=>AG.BU
  | 36=>Cm.BU
  | 37=>Co.BU
  | _+38=>fun _=>[]
 G8:=fun i=>match i with
  | 0=>Cn.dl
  | 1=>Cl.dl
  | 2=>A6.dl
  | 3=>fun _=>[]
  | 4=>fun _=>[]
  | 5=>AE.dl
  | 6=>fun _=>[]
  | 7=>fun _=>[]
  | 8=>fun _=>[]
  | 9=>fun _=>[]
  | 10=>fun _=>[]
  | 11=>fun _=>[]
  | 12=>fun _=>[]
  | 13=>fun _=>[]
  | 14=>fun _=>[]
  | 15=>fun _=>[]
  | 16=>fun _=>[]
  | 17=>fun _=>[]
  | 18=>A9.dl
  | 19=>AN.dl
  | 20=>AQ.dl
  | 21=>A7.dl
  | 22=>BC.dl
  | 23=>Ah.dl
  | 24=>Bx.dl
  | 25=>CG.dl
  | 26=>Cg.dl
  | 27=>C5.dl
  | 28=>Aa.dl
  | 29=>Ak.dl
  | 30=>C2.dl
  | 31=>BK.dl
  | 32=>CR.dl
  | 33=>BQ.dl
  | 34=>AF.dl
  | 35=>AG.dl
  | 36=>Cm.dl
  | 37=>Co.dl
  | _+38=>fun _=>[]
 rd:=fun _ _=>none
 Bi:=fun i=>match i with
  | 0=>Cn.df
  | 1=>Cl.df
  | 2=>A6.df
  | 3=>()
  | 4=>()
  | 5=>AE.df
  | 6=>()
  | 7=>()
  | 8=>()
  | 9=>()
  | 10=>()
  | 11=>()
  | 12=>()
  | 13=>()
  | 14=>()
  | 15=>()
  | 16=>()
  | 17=>()
  | 18=>A9.df
  | 19=>AN.df
  | 20=>AQ.df
  | 21=>A7.df
  | 22=>BC.df
  | 23=>Ah.df
  | 24=>Bx.df
  | 25=>CG.df
  | 26=>Cg.df
  | 27=>C5.df
  | 28=>Aa.df
  | 29=>Ak.df
  | 30=>C2.df
  | 31=>BK.df
  | 32=>CR.df
  | 33=>BQ.df
  | 34=>AF.df
  | 35=>AG.df
  | 36=>Cm.df
  | 37=>Co.df
  | _+38=>()
 seq:=fun _=>none
def Cn.rd (cs:List (AJ S)):Option (Cn×List (AJ S)):=(E7 .i64 cs).bind fun i=>(E7 .i64 i.2).bind fun d=>(Ni d.2).bind fun j=>(E7 .u8 j.2).bind fun e=>some (⟨i.1,d.1,j.1,e.1⟩,e.2)
def Cl.rd (cs:List (AJ S)):Option (Cl×List (AJ S)):=(Mc cs).bind fun e=>(E7 .u64 e.2).bind fun d=>some (⟨e.1,d.1⟩,d.2)
def A9.rd (cs:List (AJ S)):Option (A9×List (AJ S)):=(Mc cs).bind fun e=>(E7 .i64 e.2).bind fun d=>(E7 .i64 d.2).bind fun i=>some (⟨e.1,d.1,i.1⟩,i.2)
def AE.rd (cs:List (AJ S)):Option (AE×List (AJ S)):=(E7 .i64 cs).bind fun e=>(E7 .i64 e.2).bind fun d=>some (⟨e.1,d.1⟩,d.2)
def AN.rd (cs:List (AJ S)):Option (AN×List (AJ S)):=(E7 .i64 cs).bind fun e=>(E7 .i64 e.2).bind fun d=>((fun cs=>IF (S:=S) 5 AE.rd (GB Gf 5 6 cs)) d.2).bind fun i=>some (⟨e.1,d.1,i.1⟩,i.2)
def AQ.rd (cs:List (AJ S)):Option (AQ×List (AJ S)):=(KQ (S:=S) (.st 18) cs).bind fun e=>(KQ (S:=S) (.st 19) e.2).bind fun d=>some (⟨e.1,d.1⟩,d.2)
def A7.rd (cs:List (AJ S)):Option (A7×List (AJ S)):=(Mc cs).bind fun e=>((fun cs=>IF (S:=S) 5 AE.rd (GB Gf 5 6 cs)) e.2).bind fun d=>(E7 .i64 d.2).bind fun i=>some (⟨e.1,d.1,i.1⟩,i.2)
def BC.rd (cs:List (AJ S)):Option (BC×List (AJ S)):=(KQ (S:=S) (.st 21) cs).bind fun e=>((fun cs=>IF (S:=S) 5 AE.rd (GB Gf 5 6 cs)) e.2).bind fun d=>((fun cs=>IF (S:=S) 5 AE.rd (GB Gf 5 6 cs)) d.2).bind fun i=>some (⟨e.1,d.1,i.1⟩,i.2)
def A6.rd (cs:List (AJ S)):Option (A6×List (AJ S)):=(E7 .i64 cs).bind fun e=>(E7 .i64 e.2).bind fun d=>some (⟨e.1,d.1⟩,d.2)
def Ah.rd (cs:List (AJ S)):Option (Ah×List (AJ S)):=((fun cs=>IF (S:=S) 2 A6.rd (GB Gf 2 6 cs)) cs).bind fun i=>(E7 .i64 i.2).bind fun d=>(E7 .i64 d.2).bind fun j=>(E7 .i64 j.2).bind fun e=>some (⟨i.1,d.1,j.1,e.1⟩,e.2)
def Bx.rd (cs:List (AJ S)):Option (Bx×List (AJ S)):=(KQ (S:=S) (.int .u16) cs).bind fun e=>(KQ (S:=S) (.int .u16) e.2).bind fun d=>some (⟨e.1,d.1⟩,d.2)
def CG.rd (cs:List (AJ S)):Option (CG×List (AJ S)):=(Ru (S:=S) 4 (.int .u16) cs).bind fun e=>(KQ (S:=S) (.int .u16) e.2).bind fun d=>some (⟨e.1,d.1⟩,d.2)
def Cg.rd (cs:List (AJ S)):Option (Cg×List (AJ S)):=((fun cs=>IF (S:=S) 24 Bx.rd (GB Gf 24 6 cs)) cs).bind fun i=>((fun cs=>IF (S:=S) 25 CG.rd (GB Gf 25 6 cs)) i.2).bind fun d=>(Ru (S:=S) 2 (.int .u16) d.2).bind fun j=>(E7 .u16 j.2).bind fun e=>some (⟨i.1,d.1,j.1,e.1⟩,e.2)
def C5.rd (cs:List (AJ S)):Option (C5×List (AJ S)):=((fun cs=>IF (S:=S) 23 Ah.rd (GB Gf 23 6 cs)) cs).bind fun e=>((fun cs=>IF (S:=S) 26 Cg.rd (GB Gf 26 6 cs)) e.2).bind fun d=>some (⟨e.1,d.1⟩,d.2)
def Aa.rd (cs:List (AJ S)):Option (Aa×List (AJ S)):=(E7 .i64 cs).bind fun e=>(E7 .i64 e.2).bind fun d=>((fun cs=>IF (S:=S) 5 AE.rd (GB Gf 5 6 cs)) d.2).bind fun i=>some (⟨e.1,d.1,i.1⟩,i.2)
def Ak.rd (cs:List (AJ S)):Option (Ak×List (AJ S)):=((fun cs=>IF (S:=S) 2 A6.rd (GB Gf 2 6 cs)) cs).bind fun e=>(Ni e.2).bind fun d=>(Ni d.2).bind fun i=>some (⟨e.1,d.1,i.1⟩,i.2)
def C2.rd (cs:List (AJ S)):Option (C2×List (AJ S)):=(E7 .i64 cs).bind fun e=>(E7 .i64 e.2).bind fun d=>some (⟨e.1,d.1⟩,d.2)
def BK.rd (cs:List (AJ S)):Option (BK×List (AJ S)):=((fun cs=>IF (S:=S) 22 BC.rd (GB Gf 22 6 cs)) cs).bind fun e=>((fun cs=>IF (S:=S) 23 Ah.rd (GB Gf 23 6 cs)) e.2).bind fun d=>(KQ (S:=S) (.st 29) d.2).bind fun i=>some (⟨e.1,d.1,i.1⟩,i.2)
def CR.rd (cs:List (AJ S)):Option (CR×List (AJ S)):=(E7 .i64 cs).bind fun e=>(E7 .i64 e.2).bind fun d=>some (⟨e.1,d.1⟩,d.2)
def BQ.rd (cs:List (AJ S)):Option (BQ×List (AJ S)):=(E7 .i64 cs).bind fun e=>(E7 .i64 e.2).bind fun d=>some (⟨e.1,d.1⟩,d.2)
def AF.rd (cs:List (AJ S)):Option (AF×List (AJ S)):=((fun cs=>IF (S:=S) 20 AQ.rd (GB Gf 20 6 cs)) cs).bind fun e=>(KQ (S:=S) (.st 28) e.2).bind fun d=>some (⟨e.1,d.1⟩,d.2)
def AG.rd (cs:List (AJ S)):Option (AG×List (AJ S)):=(E7 .i64 cs).bind fun e=>(E7 .i64 e.2).bind fun d=>some (⟨e.1,d.1⟩,d.2)
def Cm.rd (cs:List (AJ S)):Option (Cm×List (AJ S)):=(E7 .u8 cs).bind fun e=>(E7 .u8 e.2).bind fun d=>some (⟨e.1,d.1⟩,d.2)
def Co.rd (cs:List (AJ S)):Option (Co×List (AJ S)):=(Mc cs).bind fun d=>some (⟨d.1⟩,d.2)
def T:BZ S where
 size:=fun i=>match i with
  | 0=>4
  | 1=>2
  | 18=>3
  | 5=>2
  | 19=>4
  | 20=>2
  | 21=>4
  | 22=>5
  | 2=>2
  | 23=>5
  | 24=>2
  | 25=>5
  | 26=>10
  | 27=>15
  | 28=>4
  | 29=>4
  | 30=>2
  | 31=>11
  | 32=>2
  | 33=>2
  | 34=>3
  | 35=>2
  | 36=>2
  | 37=>1
  | _=>0
 cells:=fun i=>match i with
  | 0=>Cn.BU
  | 1=>Cl.BU
  | 2=>A6.BU
  | 3=>fun _=>[]
  | 4=>fun _=>[]
  | 5=>AE.BU
  | 6=>fun _=>[]
  | 7=>fun _=>[]
  | 8=>fun _=>[]
  | 9=>fun _=>[]
  | 10=>fun _=>[]
  | 11=>fun _=>[]
  | 12=>fun _=>[]
  | 13=>fun _=>[]
  | 14=>fun _=>[]
  | 15=>fun _=>[]
  | 16=>fun _=>[]
  | 17=>fun _=>[]
  | 18=>A9.BU
  | 19=>AN.BU
  | 20=>AQ.BU
  | 21=>A7.BU
  | 22=>BC.BU
  | 23=>Ah.BU
  | 24=>Bx.BU
  | 25=>CG.BU
  | 26=>Cg.BU
  | 27=>C5.BU
  | 28=>Aa.BU
  | 29=>Ak.BU
  | 30=>C2.BU
  | 31=>BK.BU
  | 32=>CR.BU
  | 33=>BQ.BU
  | 34=>AF.BU
  | 35=>AG.BU
  | 36=>Cm.BU
  | 37=>Co.BU
  | _+38=>fun _=>[]
 G8:=fun i=>match i with
  | 0=>Cn.dl
  | 1=>Cl.dl
  | 2=>A6.dl
  | 3=>fun _=>[]
  | 4=>fun _=>[]
  | 5=>AE.dl
  | 6=>fun _=>[]
  | 7=>fun _=>[]
  | 8=>fun _=>[]
  | 9=>fun _=>[]
  | 10=>fun _=>[]
  | 11=>fun _=>[]
  | 12=>fun _=>[]
  | 13=>fun _=>[]
  | 14=>fun _=>[]
  | 15=>fun _=>[]
  | 16=>fun _=>[]
  | 17=>fun _=>[]
  | 18=>A9.dl
  | 19=>AN.dl
  | 20=>AQ.dl
  | 21=>A7.dl
  | 22=>BC.dl
  | 23=>Ah.dl
  | 24=>Bx.dl
  | 25=>CG.dl
  | 26=>Cg.dl
  | 27=>C5.dl
  | 28=>Aa.dl
  | 29=>Ak.dl
  | 30=>C2.dl
  | 31=>BK.dl
  | 32=>CR.dl
  | 33=>BQ.dl
  | 34=>AF.dl
  | 35=>AG.dl
  | 36=>Cm.dl
  | 37=>Co.dl
  | _+38=>fun _=>[]
 rd:=fun i=>match i with
  | 0=>Cn.rd
  | 1=>Cl.rd
  | 2=>A6.rd
  | 3=>fun cs=>some ((),cs)
  | 4=>fun cs=>some ((),cs)
  | 5=>AE.rd
  | 6=>fun cs=>some ((),cs)
  | 7=>fun cs=>some ((),cs)
  | 8=>fun cs=>some ((),cs)
  | 9=>fun cs=>some ((),cs)
  | 10=>fun cs=>some ((),cs)
  | 11=>fun cs=>some ((),cs)
  | 12=>fun cs=>some ((),cs)
  | 13=>fun cs=>some ((),cs)
  | 14=>fun cs=>some ((),cs)
  | 15=>fun cs=>some ((),cs)
  | 16=>fun cs=>some ((),cs)
  | 17=>fun cs=>some ((),cs)
  | 18=>A9.rd
  | 19=>AN.rd
  | 20=>AQ.rd
  | 21=>A7.rd
  | 22=>BC.rd
  | 23=>Ah.rd
  | 24=>Bx.rd
  | 25=>CG.rd
  | 26=>Cg.rd
  | 27=>C5.rd
  | 28=>Aa.rd
  | 29=>Ak.rd
  | 30=>C2.rd
  | 31=>BK.rd
  | 32=>CR.rd
  | 33=>BQ.rd
  | 34=>AF.rd
  | 35=>AG.rd
  | 36=>Cm.rd
  | 37=>Co.rd
  | _+38=>fun cs=>some ((),cs)
 Bi:=fun i=>match i with
  | 0=>Cn.df
  | 1=>Cl.df
  | 2=>A6.df
  | 3=>()
  | 4=>()
  | 5=>AE.df
  | 6=>()
  | 7=>()
  | 8=>()
  | 9=>()
  | 10=>()
  | 11=>()
  | 12=>()
  | 13=>()
  | 14=>()
  | 15=>()
  | 16=>()
  | 17=>()
  | 18=>A9.df
  | 19=>AN.df
  | 20=>AQ.df
  | 21=>A7.df
  | 22=>BC.df
  | 23=>Ah.df
  | 24=>Bx.df
  | 25=>CG.df
  | 26=>Cg.df
  | 27=>C5.df
  | 28=>Aa.df
  | 29=>Ak.df
  | 30=>C2.df
  | 31=>BK.df
  | 32=>CR.df
  | 33=>BQ.df
  | 34=>AF.df
  | 35=>AG.df
  | 36=>Cm.df
  | 37=>Co.df
  | _+38=>()
 seq:=fun i=>match i with
  | 0=>Cn.seq
  | 1=>Cl.seq
  | 2=>A6.seq
  | 3=>none
  | 4=>none
  | 5=>AE.seq
  | 6=>none
  | 7=>none
  | 8=>none
  | 9=>none
  | 10=>none
  | 11=>none
  | 12=>none
  | 13=>none
  | 14=>none
  | 15=>none
  | 16=>none
  | 17=>none
  | 18=>A9.seq
  | 19=>AN.seq
  | 20=>AQ.seq
  | 21=>A7.seq
  | 22=>BC.seq
  | 23=>Ah.seq
  | 24=>Bx.seq
  | 25=>CG.seq
  | 26=>Cg.seq
  | 27=>C5.seq
  | 28=>Aa.seq
  | 29=>Ak.seq
  | 30=>C2.seq
  | 31=>BK.seq
  | 32=>CR.seq
  | 33=>BQ.seq
  | 34=>AF.seq
  | 35=>AG.seq
  | 36=>Cm.seq
  | 37=>Co.seq
  | _+38=>none
abbrev LD (cs:List (AJ S)):List AB:=AZ T cs
theorem Cn.CL (x:Cn):AZ T (Cn.BU x)=Cn.dl x:=rfl
theorem Cl.CL (x:Cl):AZ T (Cl.BU x)=Cl.dl x:=rfl
theorem A9.CL (x:A9):AZ T (A9.BU x)=A9.dl x:=rfl
theorem AE.CL (x:AE):AZ T (AE.BU x)=AE.dl x:=rfl
theorem AN.CL (x:AN):AZ T (AN.BU x)=AN.dl x:=rfl
theorem AQ.CL (x:AQ):AZ T (AQ.BU x)=AQ.dl x:=rfl
theorem A7.CL (x:A7):AZ T (A7.BU x)=A7.dl x:=rfl
theorem BC.CL (x:BC):AZ T (BC.BU x)=BC.dl x:=rfl
theorem A6.CL (x:A6):AZ T (A6.BU x)=A6.dl x:=rfl
theorem Ah.CL (x:Ah):AZ T (Ah.BU x)=Ah.dl x:=rfl
theorem Bx.CL (x:Bx):AZ T (Bx.BU x)=Bx.dl x:=rfl
theorem CG.CL (x:CG):AZ T (CG.BU x)=CG.dl x:=rfl
theorem Cg.CL (x:Cg):AZ T (Cg.BU x)=Cg.dl x:=rfl
theorem C5.CL (x:C5):AZ T (C5.BU x)=C5.dl x:=rfl
theorem Aa.CL (x:Aa):AZ T (Aa.BU x)=Aa.dl x:=rfl
theorem Ak.CL (x:Ak):AZ T (Ak.BU x)=Ak.dl x:=rfl
theorem C2.CL (x:C2):AZ T (C2.BU x)=C2.dl x:=rfl
theorem BK.CL (x:BK):AZ T (BK.BU x)=BK.dl x:=rfl
theorem CR.CL (x:CR):AZ T (CR.BU x)=CR.dl x:=rfl
theorem BQ.CL (x:BQ):AZ T (BQ.BU x)=BQ.dl x:=rfl
theorem AF.CL (x:AF):AZ T (AF.BU x)=AF.dl x:=rfl
theorem AG.CL (x:AG):AZ T (AG.BU x)=AG.dl x:=rfl
theorem Cm.CL (x:Cm):AZ T (Cm.BU x)=Cm.dl x:=rfl
theorem Co.CL (x:Co):AZ T (Co.BU x)=Co.dl x:=rfl
theorem AmA:∀i (x:S i),AZ T (Gf.cells i x)=T.G8 i x :=
   fun i=>match i with
    | 0=>Cn.CL
    | 1=>Cl.CL
    | 2=>A6.CL
    | 3=>fun _=>rfl
    | 4=>fun _=>rfl
    | 5=>AE.CL
    | 6=>fun _=>rfl
    | 7=>fun _=>rfl
    | 8=>fun _=>rfl
    | 9=>fun _=>rfl
    | 10=>fun _=>rfl
    | 11=>fun _=>rfl
    | 12=>fun _=>rfl
    | 13=>fun _=>rfl
    | 14=>fun _=>rfl
    | 15=>fun _=>rfl
    | 16=>fun _=>rfl
    | 17=>fun _=>rfl
    | 18=>A9.CL
    | 19=>AN.CL
    | 20=>AQ.CL
    | 21=>A7.CL
    | 22=>BC.CL
    | 23=>Ah.CL
    | 24=>Bx.CL
    | 25=>CG.CL
    | 26=>Cg.CL
    | 27=>C5.CL
    | 28=>Aa.CL
    | 29=>Ak.CL
    | 30=>C2.CL
    | 31=>BK.CL
    | 32=>CR.CL
    | 33=>BQ.CL
    | 34=>AF.CL
    | 35=>AG.CL
    | 36=>Cm.CL
    | 37=>Co.CL
    | _+38=>fun _=>rfl
theorem JB (i:Nat):∀(n:Nat) (cs:List (AJ S)),AZ T (GB Gf i n cs)=AZ T cs:=Aa1 (T:=T) (Gf:=Gf) AmA i
theorem Cn.DY (x:Cn):(Cn.dl x).length=4:=rfl
theorem Cn.D0 (x:Cn):(Cn.dl x).all plain=true:=rfl
theorem Cn.D1 (e:Cn->Cn->Bool) (h:Cn.seq=some e) (x y:Cn):Bz (Cn.dl x) (Cn.dl y)=some (e x y):=by
 cases h;rfl
theorem Cn.Ca {cs r:List (AJ S)} {x:Cn} (h:Cn.rd cs=some (x,r)):AZ T cs=Cn.dl x++AZ T r:=by
 unfold Cn.rd at h;obtain⟨⟨C,K⟩,d,h⟩:=AD h;obtain⟨⟨z,I⟩,j,h⟩:=AD h;obtain⟨⟨q,J⟩,e,h⟩:=AD h;obtain⟨⟨l,u⟩,i,h⟩:=AD h;cases h;rw[FP d,FP j,jE e,FP i];rfl
theorem Cl.DY (x:Cl):(Cl.dl x).length=2:=rfl
theorem Cl.D0 (x:Cl):(Cl.dl x).all plain=true:=rfl
theorem Cl.D1 (e:Cl->Cl->Bool) (h:Cl.seq=some e) (x y:Cl):Bz (Cl.dl x) (Cl.dl y)=some (e x y):=by
 cases h;rfl
theorem Cl.Ca {cs r:List (AJ S)} {x:Cl} (h:Cl.rd cs=some (x,r)):AZ T cs=Cl.dl x++AZ T r:=by
 unfold Cl.rd at h;obtain⟨⟨j,q⟩,d,h⟩:=AD h;obtain⟨⟨i,l⟩,e,h⟩:=AD h;cases h;rw[Xx d,FP e];rfl
theorem A9.DY (x:A9):(A9.dl x).length=3:=rfl
theorem A9.D0 (x:A9):(A9.dl x).all plain=true:=rfl
theorem A9.D1 (e:A9->A9->Bool) (h:A9.seq=some e) (x y:A9):Bz (A9.dl x) (A9.dl y)=some (e x y):=by
 cases h;rfl
theorem A9.Ca {cs r:List (AJ S)} {x:A9} (h:A9.rd cs=some (x,r)):AZ T cs=A9.dl x++AZ T r:=by
 unfold A9.rd at h;obtain⟨⟨q,C⟩,d,h⟩:=AD h;obtain⟨⟨l,u⟩,i,h⟩:=AD h;obtain⟨⟨j,z⟩,e,h⟩:=AD h;cases h;rw[Xx d,FP i,FP e];rfl
theorem AE.DY (x:AE):(AE.dl x).length=2:=rfl
theorem AE.D0 (x:AE):(AE.dl x).all plain=true:=rfl
theorem AE.D1 (e:AE->AE->Bool) (h:AE.seq=some e) (x y:AE):Bz (AE.dl x) (AE.dl y)=some (e x y):=by
 cases h;rfl
theorem AE.Ca {cs r:List (AJ S)} {x:AE} (h:AE.rd cs=some (x,r)):AZ T cs=AE.dl x++AZ T r:=by
 unfold AE.rd at h;obtain⟨⟨j,q⟩,d,h⟩:=AD h;obtain⟨⟨i,l⟩,e,h⟩:=AD h;cases h;rw[FP d,FP e];rfl
theorem AN.DY (x:AN):(AN.dl x).length=4:=rfl
theorem AN.D0 (x:AN):(AN.dl x).all plain=true:=rfl
theorem AN.D1 (e:AN->AN->Bool) (h:AN.seq=some e) (x y:AN):Bz (AN.dl x) (AN.dl y)=some (e x y):=by
 cases h;rfl
theorem AN.Ca {cs r:List (AJ S)} {x:AN} (h:AN.rd cs=some (x,r)):AZ T cs=AN.dl x++AZ T r:=by
 unfold AN.rd at h;obtain⟨⟨q,C⟩,d,h⟩:=AD h;obtain⟨⟨l,u⟩,i,h⟩:=AD h;obtain⟨⟨j,z⟩,e,h⟩:=AD h;cases h;rw[FP d,FP i,<-JB 5 6,I2 (T:=T) (fun _ _ _ h=>AE.Ca h) e];rfl
theorem AQ.DY (x:AQ):(AQ.dl x).length=2:=rfl
theorem AQ.D0 (x:AQ):(AQ.dl x).all plain=true:=rfl
theorem AQ.D1 (e:AQ->AQ->Bool) (h:AQ.seq=some e) (x y:AQ):Bz (AQ.dl x) (AQ.dl y)=some (e x y):=by cases h
theorem AQ.Ca {cs r:List (AJ S)} {x:AQ} (h:AQ.rd cs=some (x,r)):AZ T cs=AQ.dl x++AZ T r:=by
 unfold AQ.rd at h;obtain⟨⟨j,q⟩,d,h⟩:=AD h;obtain⟨⟨i,l⟩,e,h⟩:=AD h;cases h;rw[MW d,MW e];rfl
theorem A7.DY (x:A7):(A7.dl x).length=4:=rfl
theorem A7.D0 (x:A7):(A7.dl x).all plain=true:=rfl
theorem A7.D1 (e:A7->A7->Bool) (h:A7.seq=some e) (x y:A7):Bz (A7.dl x) (A7.dl y)=some (e x y):=by
 cases h;rfl
theorem A7.Ca {cs r:List (AJ S)} {x:A7} (h:A7.rd cs=some (x,r)):AZ T cs=A7.dl x++AZ T r:=by
 unfold A7.rd at h;obtain⟨⟨q,C⟩,d,h⟩:=AD h;obtain⟨⟨l,u⟩,i,h⟩:=AD h;obtain⟨⟨j,z⟩,e,h⟩:=AD h;cases h;rw[Xx d,<-JB 5 6,I2 (T:=T) (fun _ _ _ h=>AE.Ca h) i,FP e];rfl
theorem BC.DY (x:BC):(BC.dl x).length=5:=rfl
theorem BC.D0 (x:BC):(BC.dl x).all plain=true:=rfl
theorem BC.D1 (e:BC->BC->Bool) (h:BC.seq=some e) (x y:BC):Bz (BC.dl x) (BC.dl y)=some (e x y):=by cases h
theorem BC.Ca {cs r:List (AJ S)} {x:BC} (h:BC.rd cs=some (x,r)):AZ T cs=BC.dl x++AZ T r:=by
 unfold BC.rd at h;obtain⟨⟨q,C⟩,d,h⟩:=AD h;obtain⟨⟨l,u⟩,i,h⟩:=AD h;obtain⟨⟨j,z⟩,e,h⟩:=AD h;cases h;rw[MW d,<-JB 5 6,I2 (T:=T) (fun _ _ _ h=>AE.Ca h) i,<-JB 5 6,I2 (T:=T) (fun _ _ _ h=>AE.Ca h) e];rfl
theorem A6.DY (x:A6):(A6.dl x).length=2:=rfl
theorem A6.D0 (x:A6):(A6.dl x).all plain=true:=rfl
theorem A6.D1 (e:A6->A6->Bool) (h:A6.seq=some e) (x y:A6):Bz (A6.dl x) (A6.dl y)=some (e x y):=by
 cases h;rfl
theorem A6.Ca {cs r:List (AJ S)} {x:A6} (h:A6.rd cs=some (x,r)):AZ T cs=A6.dl x++AZ T r:=by
 unfold A6.rd at h;obtain⟨⟨j,q⟩,d,h⟩:=AD h;obtain⟨⟨i,l⟩,e,h⟩:=AD h;cases h;rw[FP d,FP e];rfl
theorem Ah.DY (x:Ah):(Ah.dl x).length=5:=rfl
theorem Ah.D0 (x:Ah):(Ah.dl x).all plain=true:=rfl
theorem Ah.D1 (e:Ah->Ah->Bool) (h:Ah.seq=some e) (x y:Ah):Bz (Ah.dl x) (Ah.dl y)=some (e x y):=by
 cases h;rfl
theorem Ah.Ca {cs r:List (AJ S)} {x:Ah} (h:Ah.rd cs=some (x,r)):AZ T cs=Ah.dl x++AZ T r:=by
 unfold Ah.rd at h;obtain⟨⟨C,K⟩,d,h⟩:=AD h;obtain⟨⟨z,I⟩,j,h⟩:=AD h;obtain⟨⟨q,J⟩,e,h⟩:=AD h;obtain⟨⟨l,u⟩,i,h⟩:=AD h;cases h;rw[<-JB 2 6,I2 (T:=T) (fun _ _ _ h=>A6.Ca h) d,FP j,FP e,FP i];rfl
theorem Bx.DY (x:Bx):(Bx.dl x).length=2:=rfl
theorem Bx.D0 (x:Bx):(Bx.dl x).all plain=true:=rfl
theorem Bx.D1 (e:Bx->Bx->Bool) (h:Bx.seq=some e) (x y:Bx):Bz (Bx.dl x) (Bx.dl y)=some (e x y):=by cases h
theorem Bx.Ca {cs r:List (AJ S)} {x:Bx} (h:Bx.rd cs=some (x,r)):AZ T cs=Bx.dl x++AZ T r:=by
 unfold Bx.rd at h;obtain⟨⟨j,q⟩,d,h⟩:=AD h;obtain⟨⟨i,l⟩,e,h⟩:=AD h;cases h;rw[MW d,MW e];rfl
theorem CG.DY (x:CG):(CG.dl x).length=5:=rfl
theorem CG.D0 (x:CG):(CG.dl x).all plain=true:=rfl
theorem CG.D1 (e:CG->CG->Bool) (h:CG.seq=some e) (x y:CG):Bz (CG.dl x) (CG.dl y)=some (e x y):=by cases h
theorem CG.Ca {cs r:List (AJ S)} {x:CG} (h:CG.rd cs=some (x,r)):AZ T cs=CG.dl x++AZ T r:=by
 unfold CG.rd at h;obtain⟨⟨j,q⟩,d,h⟩:=AD h;obtain⟨⟨i,l⟩,e,h⟩:=AD h;cases h;rw[AaV d,MW e];rfl
theorem Cg.DY (x:Cg):(Cg.dl x).length=10:=rfl
theorem Cg.D0 (x:Cg):(Cg.dl x).all plain=true:=rfl
theorem Cg.D1 (e:Cg->Cg->Bool) (h:Cg.seq=some e) (x y:Cg):Bz (Cg.dl x) (Cg.dl y)=some (e x y):=by cases h
theorem Cg.Ca {cs r:List (AJ S)} {x:Cg} (h:Cg.rd cs=some (x,r)):AZ T cs=Cg.dl x++AZ T r:=by
 unfold Cg.rd at h;obtain⟨⟨C,K⟩,d,h⟩:=AD h;obtain⟨⟨z,I⟩,j,h⟩:=AD h;obtain⟨⟨q,J⟩,e,h⟩:=AD h;obtain⟨⟨l,u⟩,i,h⟩:=AD h;cases h;rw[<-JB 24 6,I2 (T:=T) (fun _ _ _ h=>Bx.Ca h) d,<-JB 25 6,I2 (T:=T) (fun _ _ _ h=>CG.Ca h) j,AaV e,FP i];rfl
theorem C5.DY (x:C5):(C5.dl x).length=15:=rfl
theorem C5.D0 (x:C5):(C5.dl x).all plain=true:=rfl
theorem C5.D1 (e:C5->C5->Bool) (h:C5.seq=some e) (x y:C5):Bz (C5.dl x) (C5.dl y)=some (e x y):=by cases h
theorem C5.Ca {cs r:List (AJ S)} {x:C5} (h:C5.rd cs=some (x,r)):AZ T cs=C5.dl x++AZ T r:=by
 unfold C5.rd at h;obtain⟨⟨j,q⟩,d,h⟩:=AD h;obtain⟨⟨i,l⟩,e,h⟩:=AD h;cases h;rw[<-JB 23 6,I2 (T:=T) (fun _ _ _ h=>Ah.Ca h) d,<-JB 26 6,I2 (T:=T) (fun _ _ _ h=>Cg.Ca h) e];rfl
theorem Aa.DY (x:Aa):(Aa.dl x).length=4:=rfl
theorem Aa.D0 (x:Aa):(Aa.dl x).all plain=true:=rfl
theorem Aa.D1 (e:Aa->Aa->Bool) (h:Aa.seq=some e) (x y:Aa):Bz (Aa.dl x) (Aa.dl y)=some (e x y):=by
 cases h;rfl
theorem Aa.Ca {cs r:List (AJ S)} {x:Aa} (h:Aa.rd cs=some (x,r)):AZ T cs=Aa.dl x++AZ T r:=by
 unfold Aa.rd at h;obtain⟨⟨q,C⟩,d,h⟩:=AD h;obtain⟨⟨l,u⟩,i,h⟩:=AD h;obtain⟨⟨j,z⟩,e,h⟩:=AD h;cases h;rw[FP d,FP i,<-JB 5 6,I2 (T:=T) (fun _ _ _ h=>AE.Ca h) e];rfl
theorem Ak.DY (x:Ak):(Ak.dl x).length=4:=rfl
theorem Ak.D0 (x:Ak):(Ak.dl x).all plain=true:=rfl
theorem Ak.D1 (e:Ak->Ak->Bool) (h:Ak.seq=some e) (x y:Ak):Bz (Ak.dl x) (Ak.dl y)=some (e x y):=by
 cases h;rfl
theorem Ak.Ca {cs r:List (AJ S)} {x:Ak} (h:Ak.rd cs=some (x,r)):AZ T cs=Ak.dl x++AZ T r:=by
 unfold Ak.rd at h;obtain⟨⟨q,C⟩,d,h⟩:=AD h;obtain⟨⟨l,u⟩,i,h⟩:=AD h;obtain⟨⟨j,z⟩,e,h⟩:=AD h;cases h;rw[<-JB 2 6,I2 (T:=T) (fun _ _ _ h=>A6.Ca h) d,jE i,jE e];rfl
theorem C2.DY (x:C2):(C2.dl x).length=2:=rfl
theorem C2.D0 (x:C2):(C2.dl x).all plain=true:=rfl
theorem C2.D1 (e:C2->C2->Bool) (h:C2.seq=some e) (x y:C2):Bz (C2.dl x) (C2.dl y)=some (e x y):=by
 cases h;rfl
theorem C2.Ca {cs r:List (AJ S)} {x:C2} (h:C2.rd cs=some (x,r)):AZ T cs=C2.dl x++AZ T r:=by
 unfold C2.rd at h;obtain⟨⟨j,q⟩,d,h⟩:=AD h;obtain⟨⟨i,l⟩,e,h⟩:=AD h;cases h;rw[FP d,FP e];rfl
theorem BK.DY (x:BK):(BK.dl x).length=11:=rfl
theorem BK.D0 (x:BK):(BK.dl x).all plain=true:=rfl
theorem BK.D1 (e:BK->BK->Bool) (h:BK.seq=some e) (x y:BK):Bz (BK.dl x) (BK.dl y)=some (e x y):=by cases h
theorem BK.Ca {cs r:List (AJ S)} {x:BK} (h:BK.rd cs=some (x,r)):AZ T cs=BK.dl x++AZ T r:=by
 unfold BK.rd at h;obtain⟨⟨q,C⟩,d,h⟩:=AD h;obtain⟨⟨l,u⟩,i,h⟩:=AD h;obtain⟨⟨j,z⟩,e,h⟩:=AD h;cases h;rw[<-JB 22 6,I2 (T:=T) (fun _ _ _ h=>BC.Ca h) d,<-JB 23 6,I2 (T:=T) (fun _ _ _ h=>Ah.Ca h) i,MW e];rfl
theorem CR.DY (x:CR):(CR.dl x).length=2:=rfl
theorem CR.D0 (x:CR):(CR.dl x).all plain=true:=rfl
theorem CR.D1 (e:CR->CR->Bool) (h:CR.seq=some e) (x y:CR):Bz (CR.dl x) (CR.dl y)=some (e x y):=by
 cases h;rfl
theorem CR.Ca {cs r:List (AJ S)} {x:CR} (h:CR.rd cs=some (x,r)):AZ T cs=CR.dl x++AZ T r:=by
 unfold CR.rd at h;obtain⟨⟨j,q⟩,d,h⟩:=AD h;obtain⟨⟨i,l⟩,e,h⟩:=AD h;cases h;rw[FP d,FP e];rfl
theorem BQ.DY (x:BQ):(BQ.dl x).length=2:=rfl
theorem BQ.D0 (x:BQ):(BQ.dl x).all plain=true:=rfl
theorem BQ.D1 (e:BQ->BQ->Bool) (h:BQ.seq=some e) (x y:BQ):Bz (BQ.dl x) (BQ.dl y)=some (e x y):=by
 cases h;rfl
theorem BQ.Ca {cs r:List (AJ S)} {x:BQ} (h:BQ.rd cs=some (x,r)):AZ T cs=BQ.dl x++AZ T r:=by
 unfold BQ.rd at h;obtain⟨⟨j,q⟩,d,h⟩:=AD h;obtain⟨⟨i,l⟩,e,h⟩:=AD h;cases h;rw[FP d,FP e];rfl
theorem AF.DY (x:AF):(AF.dl x).length=3:=rfl
theorem AF.D0 (x:AF):(AF.dl x).all plain=true:=rfl
theorem AF.D1 (e:AF->AF->Bool) (h:AF.seq=some e) (x y:AF):Bz (AF.dl x) (AF.dl y)=some (e x y):=by cases h
theorem AF.Ca {cs r:List (AJ S)} {x:AF} (h:AF.rd cs=some (x,r)):AZ T cs=AF.dl x++AZ T r:=by
 unfold AF.rd at h;obtain⟨⟨j,q⟩,d,h⟩:=AD h;obtain⟨⟨i,l⟩,e,h⟩:=AD h;cases h;rw[<-JB 20 6,I2 (T:=T) (fun _ _ _ h=>AQ.Ca h) d,MW e];rfl
theorem AG.DY (x:AG):(AG.dl x).length=2:=rfl
theorem AG.D0 (x:AG):(AG.dl x).all plain=true:=rfl
theorem AG.D1 (e:AG->AG->Bool) (h:AG.seq=some e) (x y:AG):Bz (AG.dl x) (AG.dl y)=some (e x y):=by
 cases h;rfl
theorem AG.Ca {cs r:List (AJ S)} {x:AG} (h:AG.rd cs=some (x,r)):AZ T cs=AG.dl x++AZ T r:=by
 unfold AG.rd at h;obtain⟨⟨j,q⟩,d,h⟩:=AD h;obtain⟨⟨i,l⟩,e,h⟩:=AD h;cases h;rw[FP d,FP e];rfl
theorem Cm.DY (x:Cm):(Cm.dl x).length=2:=rfl
theorem Cm.D0 (x:Cm):(Cm.dl x).all plain=true:=rfl
theorem Cm.D1 (e:Cm->Cm->Bool) (h:Cm.seq=some e) (x y:Cm):Bz (Cm.dl x) (Cm.dl y)=some (e x y):=by
 cases h;rfl
theorem Cm.Ca {cs r:List (AJ S)} {x:Cm} (h:Cm.rd cs=some (x,r)):AZ T cs=Cm.dl x++AZ T r:=by
 unfold Cm.rd at h;obtain⟨⟨j,q⟩,d,h⟩:=AD h;obtain⟨⟨i,l⟩,e,h⟩:=AD h;cases h;rw[FP d,FP e];rfl
theorem Co.DY (x:Co):(Co.dl x).length=1:=rfl
theorem Co.D0 (x:Co):(Co.dl x).all plain=true:=rfl
theorem Co.D1 (e:Co->Co->Bool) (h:Co.seq=some e) (x y:Co):Bz (Co.dl x) (Co.dl y)=some (e x y):=by
 cases h;rfl
theorem Co.Ca {cs r:List (AJ S)} {x:Co} (h:Co.rd cs=some (x,r)):AZ T cs=Co.dl x++AZ T r:=by
 unfold Co.rd at h;obtain⟨⟨e,i⟩,d,h⟩:=AD h;cases h;rw[Xx d];rfl
theorem tok:IV T where
 cells:=fun i=>match i with
  | 0=>Cn.CL
  | 1=>Cl.CL
  | 2=>A6.CL
  | 3=>fun _=>rfl
  | 4=>fun _=>rfl
  | 5=>AE.CL
  | 6=>fun _=>rfl
  | 7=>fun _=>rfl
  | 8=>fun _=>rfl
  | 9=>fun _=>rfl
  | 10=>fun _=>rfl
  | 11=>fun _=>rfl
  | 12=>fun _=>rfl
  | 13=>fun _=>rfl
  | 14=>fun _=>rfl
  | 15=>fun _=>rfl
  | 16=>fun _=>rfl
  | 17=>fun _=>rfl
  | 18=>A9.CL
  | 19=>AN.CL
  | 20=>AQ.CL
  | 21=>A7.CL
  | 22=>BC.CL
  | 23=>Ah.CL
  | 24=>Bx.CL
  | 25=>CG.CL
  | 26=>Cg.CL
  | 27=>C5.CL
  | 28=>Aa.CL
  | 29=>Ak.CL
  | 30=>C2.CL
  | 31=>BK.CL
  | 32=>CR.CL
  | 33=>BQ.CL
  | 34=>AF.CL
  | 35=>AG.CL
  | 36=>Cm.CL
  | 37=>Co.CL
  | _+38=>fun _=>rfl
 len:=fun i=>match i with
  | 0=>Cn.DY
  | 1=>Cl.DY
  | 2=>A6.DY
  | 3=>fun _=>rfl
  | 4=>fun _=>rfl
  | 5=>AE.DY
  | 6=>fun _=>rfl
  | 7=>fun _=>rfl
  | 8=>fun _=>rfl
  | 9=>fun _=>rfl
  | 10=>fun _=>rfl
  | 11=>fun _=>rfl
  | 12=>fun _=>rfl
  | 13=>fun _=>rfl
  | 14=>fun _=>rfl
  | 15=>fun _=>rfl
  | 16=>fun _=>rfl
  | 17=>fun _=>rfl
  | 18=>A9.DY
  | 19=>AN.DY
  | 20=>AQ.DY
  | 21=>A7.DY
  | 22=>BC.DY
  | 23=>Ah.DY
  | 24=>Bx.DY
  | 25=>CG.DY
  | 26=>Cg.DY
  | 27=>C5.DY
  | 28=>Aa.DY
  | 29=>Ak.DY
  | 30=>C2.DY
  | 31=>BK.DY
  | 32=>CR.DY
  | 33=>BQ.DY
  | 34=>AF.DY
  | 35=>AG.DY
  | 36=>Cm.DY
  | 37=>Co.DY
  | _+38=>fun _=>rfl
 rd:=fun i=>match i with
  | 0=>fun _ _ _ h=>Cn.Ca h
  | 1=>fun _ _ _ h=>Cl.Ca h
  | 2=>fun _ _ _ h=>A6.Ca h
  | 3=>fun _ _ _ h=>by cases h;rfl
  | 4=>fun _ _ _ h=>by cases h;rfl
  | 5=>fun _ _ _ h=>AE.Ca h
  | 6=>fun _ _ _ h=>by cases h;rfl
  | 7=>fun _ _ _ h=>by cases h;rfl
  | 8=>fun _ _ _ h=>by cases h;rfl
  | 9=>fun _ _ _ h=>by cases h;rfl
  | 10=>fun _ _ _ h=>by cases h;rfl
  | 11=>fun _ _ _ h=>by cases h;rfl
  | 12=>fun _ _ _ h=>by cases h;rfl
  | 13=>fun _ _ _ h=>by cases h;rfl
  | 14=>fun _ _ _ h=>by cases h;rfl
  | 15=>fun _ _ _ h=>by cases h;rfl
  | 16=>fun _ _ _ h=>by cases h;rfl
  | 17=>fun _ _ _ h=>by cases h;rfl
  | 18=>fun _ _ _ h=>A9.Ca h
  | 19=>fun _ _ _ h=>AN.Ca h
  | 20=>fun _ _ _ h=>AQ.Ca h
  | 21=>fun _ _ _ h=>A7.Ca h
  | 22=>fun _ _ _ h=>BC.Ca h
  | 23=>fun _ _ _ h=>Ah.Ca h
  | 24=>fun _ _ _ h=>Bx.Ca h
  | 25=>fun _ _ _ h=>CG.Ca h
  | 26=>fun _ _ _ h=>Cg.Ca h
  | 27=>fun _ _ _ h=>C5.Ca h
  | 28=>fun _ _ _ h=>Aa.Ca h
  | 29=>fun _ _ _ h=>Ak.Ca h
  | 30=>fun _ _ _ h=>C2.Ca h
  | 31=>fun _ _ _ h=>BK.Ca h
  | 32=>fun _ _ _ h=>CR.Ca h
  | 33=>fun _ _ _ h=>BQ.Ca h
  | 34=>fun _ _ _ h=>AF.Ca h
  | 35=>fun _ _ _ h=>AG.Ca h
  | 36=>fun _ _ _ h=>Cm.Ca h
  | 37=>fun _ _ _ h=>Co.Ca h
  | _+38=>fun _ _ _ h=>by cases h;rfl
 plain:=fun i=>match i with
  | 0=>Cn.D0
  | 1=>Cl.D0
  | 2=>A6.D0
  | 3=>fun _=>rfl
  | 4=>fun _=>rfl
  | 5=>AE.D0
  | 6=>fun _=>rfl
  | 7=>fun _=>rfl
  | 8=>fun _=>rfl
  | 9=>fun _=>rfl
  | 10=>fun _=>rfl
  | 11=>fun _=>rfl
  | 12=>fun _=>rfl
  | 13=>fun _=>rfl
  | 14=>fun _=>rfl
  | 15=>fun _=>rfl
  | 16=>fun _=>rfl
  | 17=>fun _=>rfl
  | 18=>A9.D0
  | 19=>AN.D0
  | 20=>AQ.D0
  | 21=>A7.D0
  | 22=>BC.D0
  | 23=>Ah.D0
  | 24=>Bx.D0
  | 25=>CG.D0
  | 26=>Cg.D0
  | 27=>C5.D0
  | 28=>Aa.D0
  | 29=>Ak.D0
  | 30=>C2.D0
  | 31=>BK.D0
  | 32=>CR.D0
  | 33=>BQ.D0
  | 34=>AF.D0
  | 35=>AG.D0
  | 36=>Cm.D0
  | 37=>Co.D0
  | _+38=>fun _=>rfl
 seq:=fun i=>match i with
  | 0=>fun e h x y=>Cn.D1 e h x y
  | 1=>fun e h x y=>Cl.D1 e h x y
  | 2=>fun e h x y=>A6.D1 e h x y
  | 3=>fun _ h=>by cases h
  | 4=>fun _ h=>by cases h
  | 5=>fun e h x y=>AE.D1 e h x y
  | 6=>fun _ h=>by cases h
  | 7=>fun _ h=>by cases h
  | 8=>fun _ h=>by cases h
  | 9=>fun _ h=>by cases h
  | 10=>fun _ h=>by cases h
  | 11=>fun _ h=>by cases h
  | 12=>fun _ h=>by cases h
  | 13=>fun _ h=>by cases h
  | 14=>fun _ h=>by cases h
  | 15=>fun _ h=>by cases h
  | 16=>fun _ h=>by cases h
  | 17=>fun _ h=>by cases h
  | 18=>fun e h x y=>A9.D1 e h x y
  | 19=>fun e h x y=>AN.D1 e h x y
  | 20=>fun e h x y=>AQ.D1 e h x y
  | 21=>fun e h x y=>A7.D1 e h x y
  | 22=>fun e h x y=>BC.D1 e h x y
  | 23=>fun e h x y=>Ah.D1 e h x y
  | 24=>fun e h x y=>Bx.D1 e h x y
  | 25=>fun e h x y=>CG.D1 e h x y
  | 26=>fun e h x y=>Cg.D1 e h x y
  | 27=>fun e h x y=>C5.D1 e h x y
  | 28=>fun e h x y=>Aa.D1 e h x y
  | 29=>fun e h x y=>Ak.D1 e h x y
  | 30=>fun e h x y=>C2.D1 e h x y
  | 31=>fun e h x y=>BK.D1 e h x y
  | 32=>fun e h x y=>CR.D1 e h x y
  | 33=>fun e h x y=>BQ.D1 e h x y
  | 34=>fun e h x y=>AF.D1 e h x y
  | 35=>fun e h x y=>AG.D1 e h x y
  | 36=>fun e h x y=>Cm.D1 e h x y
  | 37=>fun e h x y=>Co.D1 e h x y
  | _+38=>fun _ h=>by cases h
end Nore
namespace Go.Proofs.YthkpjcjiolelnaaGreatDoor
open Go.Ab Go.Proofs
def Apv:List (Nat×Az):=[(2,(.int .i64)),(3,(.int .i64)),(4,.bool),(5,(.int .u8)),(6,(.int .u8)),(8,(.st 0)),(9,.str),(10,.str),(11,.str),(12,(.int .u64)),(14,(.st 1)),(21,(.int .i32)),(22,(.AR (.st 18))),(23,(.AR (.st 19))),(25,(.st 20)),(26,(.AR (.st 21))),(28,(.st 5)),(30,(.st 22)),(32,(.st 2)),(34,(.st 23)),(35,(.AR (.int .u16))),(37,(.st 24)),(38,(.int .u16)),(39,(.arr 4 (.int .u16))),(41,(.st 25)),(42,(.arr 2 (.int .u16))),(44,(.st 26)),(46,(.st 27)),(47,(.int .i64)),(53,(.AR (.st 28))),(55,(.AR (.int .i64))),(57,(.AR (.st 29))),(63,(.st 28)),(68,(.st 30)),(71,(.st 18)),(78,(.st 29)),(81,(.AR .str)),(83,(.st 19)),(103,(.AR (.st 5))),(121,(.st 31)),(127,(.st 32)),(135,(.st 33)),(141,(.st 34)),(148,(.st 21)),(159,(.arr 32 (.int .i64))),(170,(.arr 10 (.st 5))),(171,(.arr 10 (.st 5))),(205,(.int .u64)),(219,(.AR (.st 35))),(226,(.st 35)),(236,(.AR (.int .u8))),(254,(.arr 8 (.st 2))),(259,(.int .i64)),(268,(.int .u32)),(270,(.int .u64)),(283,(.AR (.st 2))),(284,(.int .u64)),(296,(.int .i64)),(302,(.arr 24 (.int .u8))),(317,(.arr 20 (.int .u64))),(318,(.arr 65 (.int .u8))),(319,(.arr 256 (.int .u8))),(321,(.st 36)),(322,(.arr 16 (.st 36))),(328,(.st 37)),(329,(.arr 32 (.int .u8))),(330,(.arr 64 (.int .u8))),(336,(.int .u8)),(337,(.int .u8)),(339,(.int .i32)),(340,(.int .i32))]
def AAN:List (Nat×List (AJ Nore.S)):=[(1,[.A2]),(2,[.int .i64 (0)]),(3,[.int .i64 (0)]),(4,[.bool false]),(5,[.int .u8 (0)]),(6,[.int .u8 (0)]),(7,[.int .i64 (0),.int .i64 (0),.bool false,.int .u8 (0)]),(8,[.int .i64 (0),.int .i64 (0),.bool false,.int .u8 (0)]),(9,[.str ByteArray.empty]),(10,[.str ByteArray.empty]),(11,[.str ByteArray.empty]),(12,[.int .u64 (0)]),(13,[.str ByteArray.empty,.int .u64 (0)]),(14,[.str ByteArray.empty,.int .u64 (0)]),(15,[.Bu]),(16,[.Bu]),(17,[.Bu]),(18,[.Bu]),(19,[.Bu]),(20,[.Bl]),(21,[.int .i32 (0)]),(22,[.Aq]),(23,[.Aq]),(24,[.Aq,.Aq]),(25,[.Aq,.Aq]),(26,[.Aq]),(27,[.int .i64 (0),.int .i64 (0)]),(28,[.int .i64 (0),.int .i64 (0)]),(29,[.Aq,.int .i64 (0),.int .i64 (0),.int .i64 (0),.int .i64 (0)]),(30,[.Aq,.int .i64 (0),.int .i64 (0),.int .i64 (0),.int .i64 (0)]),(31,[.int .i64 (0),.int .i64 (0)]),(32,[.int .i64 (0),.int .i64 (0)]),(33,[.int .i64 (0),.int .i64 (0),.int .i64 (0),.int .i64 (0),.int .i64 (0)]),(34,[.int .i64 (0),.int .i64 (0),.int .i64 (0),.int .i64 (0),.int .i64 (0)]),(35,[.Aq]),(36,[.Aq,.Aq]),(37,[.Aq,.Aq]),(38,[.int .u16 (0)]),(39,[.arr (.int .u16) 4 (fun _=>(0:Int))]),(40,[.arr (.int .u16) 4 (fun _=>(0:Int)),.Aq]),(41,[.arr (.int .u16) 4 (fun _=>(0:Int)),.Aq]),(42,[.arr (.int .u16) 2 (fun _=>(0:Int))]),(43,[.Aq,.Aq,.arr (.int .u16) 4 (fun _=>(0:Int)),.Aq,.arr (.int .u16) 2 (fun _=>(0:Int)),.int .u16 (0)]),(44,[.Aq,.Aq,.arr (.int .u16) 4 (fun _=>(0:Int)),.Aq,.arr (.int .u16) 2 (fun _=>(0:Int)),.int .u16 (0)]),(45,[.int .i64 (0),.int .i64 (0),.int .i64 (0),.int .i64 (0),.int .i64 (0),.Aq,.Aq,.arr (.int .u16) 4 (fun _=>(0:Int)),.Aq,.arr (.int .u16) 2 (fun _=>(0:Int)),.int .u16 (0)]),(46,[.int .i64 (0),.int .i64 (0),.int .i64 (0),.int .i64 (0),.int .i64 (0),.Aq,.Aq,.arr (.int .u16) 4 (fun _=>(0:Int)),.Aq,.arr (.int .u16) 2 (fun _=>(0:Int)),.int .u16 (0)]),(47,[.int .i64 (0)]),(49,[.A2]),(51,[.A2]),(52,[.A2]),(53,[.Aq]),(54,[.A2]),(55,[.Aq]),(56,[.A2]),(57,[.Aq]),(58,[.A2]),(59,[.A2]),(60,[.A2]),(61,[.A2]),(62,[.int .i64 (0),.int .i64 (0),.int .i64 (0),.int .i64 (0)]),(63,[.int .i64 (0),.int .i64 (0),.int .i64 (0),.int .i64 (0)]),(64,[.A2]),(65,[.A2]),(66,[.A2]),(67,[.int .i64 (0),.int .i64 (0)]),(68,[.int .i64 (0),.int .i64 (0)]),(69,[.A2]),(70,[.str ByteArray.empty,.int .i64 (0),.int .i64 (0)]),(71,[.str ByteArray.empty,.int .i64 (0),.int .i64 (0)]),(73,[.A2]),(74,[.A2]),(76,[.A2]),(77,[.int .i64 (0),.int .i64 (0),.bool false,.bool false]),(78,[.int .i64 (0),.int .i64 (0),.bool false,.bool false]),(79,[.A2]),(80,[.A2]),(81,[.Aq]),(82,[.A2]),(83,[.int .i64 (0),.int .i64 (0),.int .i64 (0),.int .i64 (0)]),(84,[.A2]),(85,[.A2]),(86,[.A2]),(87,[.A2]),(88,[.A2]),(89,[.A2]),(90,[.A2]),(91,[.A2]),(93,[.A2]),(94,[.A2]),(95,[.A2]),(97,[.A2]),(98,[.A2]),(99,[.A2]),(100,[.A2]),(101,[.A2]),(102,[.A2]),(103,[.Aq]),(105,[.A2]),(106,[.A2]),(107,[.A2]),(108,[.A2]),(109,[.A2]),(110,[.A2]),(112,[.A2]),(114,[.A2]),(115,[.A2]),(116,[.A2]),(117,[.A2]),(118,[.A2]),(119,[.A2]),(120,[.Aq,.int .i64 (0),.int .i64 (0),.int .i64 (0),.int .i64 (0),.int .i64 (0),.int .i64 (0),.int .i64 (0),.int .i64 (0),.int .i64 (0),.Aq]),(121,[.Aq,.int .i64 (0),.int .i64 (0),.int .i64 (0),.int .i64 (0),.int .i64 (0),.int .i64 (0),.int .i64 (0),.int .i64 (0),.int .i64 (0),.Aq]),(123,[.A2]),(124,[.A2]),(125,[.A2]),(126,[.int .i64 (0),.int .i64 (0)]),(127,[.int .i64 (0),.int .i64 (0)]),(128,[.A2]),(129,[.A2]),(130,[.A2]),(131,[.A2]),(132,[.A2]),(133,[.A2]),(134,[.int .i64 (0),.int .i64 (0)]),(135,[.int .i64 (0),.int .i64 (0)]),(136,[.A2]),(137,[.A2]),(138,[.A2]),(139,[.A2]),(140,[.Aq,.Aq,.Aq]),(141,[.Aq,.Aq,.Aq]),(143,[.A2]),(144,[.A2]),(145,[.A2]),(146,[.A2]),(147,[.str ByteArray.empty,.int .i64 (0),.int .i64 (0),.int .i64 (0)]),(148,[.str ByteArray.empty,.int .i64 (0),.int .i64 (0),.int .i64 (0)]),(149,[.A2]),(151,[.A2]),(152,[.A2]),(153,[.A2]),(154,[.A2]),(155,[.A2]),(156,[.A2]),(157,[.A2]),(158,[.A2]),(159,[.arr (.int .i64) 32 (fun _=>(0:Int))]),(160,[.A2]),(161,[.A2]),(162,[.A2]),(163,[.A2]),(164,[.A2]),(165,[.A2]),(166,[.A2]),(167,[.A2]),(168,[.A2]),(169,[.A2]),(170,[.arr (.st 5) 10 (fun _=>⟨(0:Int),(0:Int)⟩)]),(171,[.arr (.st 5) 10 (fun _=>⟨(0:Int),(0:Int)⟩)]),(172,[.A2]),(173,[.A2]),(174,[.A2]),(175,[.A2]),(176,[.A2]),(177,[.A2]),(178,[.A2]),(179,[.A2]),(180,[.A2]),(181,[.A2]),(182,[.A2]),(183,[.A2]),(184,[.A2]),(185,[.A2]),(186,[.A2]),(188,[.A2]),(189,[.A2]),(190,[.A2]),(191,[.A2]),(192,[.A2]),(193,[.A2]),(194,[.A2]),(195,[.A2]),(196,[.A2]),(197,[.A2]),(198,[.A2]),(199,[.A2]),(200,[.A2]),(201,[.A2]),(202,[.A2]),(203,[.A2]),(204,[.A2]),(205,[.int .u64 (0)]),(207,[.A2]),(208,[.A2]),(209,[.A2]),(210,[.A2]),(211,[.Cv]),(212,[.A2]),(213,[.A2]),(214,[.A2]),(215,[.A2]),(216,[.A2]),(217,[.A2]),(218,[.A2]),(219,[.Aq]),(221,[.A2]),(222,[.A2]),(223,[.A2]),(224,[.A2]),(225,[.int .i64 (0),.int .i64 (0)]),(226,[.int .i64 (0),.int .i64 (0)]),(227,[.A2]),(228,[.A2]),(229,[.A2]),(230,[.A2]),(231,[.A2]),(232,[.A2]),(233,[.A2]),(234,[.A2]),(235,[.Bu]),(236,[.Aq]),(237,[.Bu,.Aq]),(238,[.Bu,.Aq]),(239,[.Bl]),(240,[.Bl]),(242,[.A2]),(243,[.A2]),(244,[.A2]),(245,[.A2]),(246,[.A2]),(247,[.A2]),(248,[.A2]),(249,[.A2]),(250,[.A2]),(251,[.A2]),(252,[.A2]),(253,[.A2]),(254,[.arr (.st 2) 8 (fun _=>⟨(0:Int),(0:Int)⟩)]),(255,[.A2]),(256,[.A2]),(257,[.A2]),(258,[.A2]),(259,[.int .i64 (0)]),(261,[.A2]),(262,[.A2]),(263,[.A2]),(264,[.A2]),(266,[.A2]),(267,[.A2]),(268,[.int .u32 (0)]),(269,[.A2]),(270,[.int .u64 (0)]),(271,[.A2]),(272,[.A2]),(273,[.A2]),(274,[.A2]),(275,[.A2]),(276,[.A2]),(277,[.Bu]),(278,[.A2]),(279,[.A2]),(280,[.A2]),(281,[.A2]),(282,[.A2]),(283,[.Aq]),(284,[.int .u64 (0)]),(285,[.A2]),(286,[.A2]),(287,[.A2]),(288,[.Bu]),(289,[.A2]),(290,[.A2]),(291,[.Bu]),(292,[.A2]),(293,[.A2]),(295,[.A2]),(296,[.int .i64 (0)]),(298,[.A2]),(299,[.Bu]),(300,[.A2]),(301,[.A2]),(302,[.arr (.int .u8) 24 (fun _=>(0:Int))]),(303,[.A2]),(305,[.A2]),(306,[.Bu]),(308,[.A2]),(309,[.A2]),(311,[.A2]),(312,[.A2]),(313,[.str ByteArray.empty,.str ByteArray.empty,.Bl]),(314,[.str ByteArray.empty,.str ByteArray.empty,.Bl]),(315,[.A2]),(316,[.A2]),(317,[.arr (.int .u64) 20 (fun _=>(0:Int))]),(318,[.arr (.int .u8) 65 (fun _=>(0:Int))]),(319,[.arr (.int .u8) 256 (fun _=>(0:Int))]),(320,[.int .u8 (0),.int .u8 (0)]),(321,[.int .u8 (0),.int .u8 (0)]),(322,[.arr (.st 36) 16 (fun _=>⟨(0:Int),(0:Int)⟩)]),(324,[.A2]),(325,[.A2]),(326,[.Bu]),(327,[.str ByteArray.empty]),(328,[.str ByteArray.empty]),(329,[.arr (.int .u8) 32 (fun _=>(0:Int))]),(330,[.arr (.int .u8) 64 (fun _=>(0:Int))]),(331,[.Bu,.Bu,.Bu,.str ByteArray.empty]),(332,[.Bu,.Bu,.Bu,.str ByteArray.empty]),(333,[]),(334,[]),(335,[]),(336,[.int .u8 (0)]),(337,[.int .u8 (0)]),(338,[.A2]),(339,[.int .i32 (0)]),(340,[.int .i32 (0)]),(341,[.int .u64 (0),.int .u64 (0),.int .u32 (0),.int .u8 (0),.int .u8 (0),.int .u8 (0),.int .u8 (0),.A2,.Bu,.int .i32 (0),.int .i32 (0)]),(342,[.int .u64 (0),.int .u64 (0),.int .u32 (0),.int .u8 (0),.int .u8 (0),.int .u8 (0),.int .u8 (0),.A2,.Bu,.int .i32 (0),.int .i32 (0)])]
def Pd:Tr Az:=Tr.ofList Apv
def ME:Tr (List (AJ Nore.S)):=Tr.ofList AAN
noncomputable def X:C1 Nore.S:=⟨E,Nore.T,Pd.get,ME.get⟩
theorem Apu:Mf (fun t c=>Yx Nore.T (KY.get t) c) Pd=true:=by kernel_rfl
theorem AAM:Mf (fun t z=>nP Nore.T (KY.get t) z) ME=true:=by kernel_rfl
theorem AAO (t:Nat) (z:List (AJ Nore.S)) (ti:By) (e:ME.get t=some z) (d:KY.get t=some ti):AZ Nore.T z=ti.zero:=Ann (RY (p:=fun t z=>nP Nore.T (KY.get t) z) AAM e) d
theorem Apw (t:Nat) (c:Az) (ti:By) (e:Pd.get t=some c) (d:KY.get t=some ti):ti.size=Bd Nore.T c/\ti.isAgg=HX c:=AmD (RY (p:=fun t c=>Yx Nore.T (KY.get t) c) Apu e) d
set_option maxRecDepth 100000 in
theorem Gc:Ho X:=Ho.mk Nore.tok AAO Apw
end Go.Proofs.YthkpjcjiolelnaaGreatDoor
open Go Go.Ab
namespace Nore
def Cn.Ok (lim:Az->Nat) (x:Cn):Prop:=((Lit.int .i64 x.x).wf=true)/\((Lit.int .i64 x.y).wf=true)/\True/\((Lit.int .u8 x.code).wf=true)/\True
def Cl.Ok (lim:Az->Nat) (x:Cl):Prop:=(x.msg.size<=maxLen)/\((Lit.int .u64 x.addr).wf=true)/\True
def A9.Ok (lim:Az->Nat) (x:A9):Prop:=(x.Name.size<=maxLen)/\((Lit.int .i64 x.Dk).wf=true)/\((Lit.int .i64 x.FB).wf=true)/\True
def AE.Ok (lim:Az->Nat) (x:AE):Prop:=((Lit.int .i64 x.AK).wf=true)/\((Lit.int .i64 x.A0).wf=true)/\True
def AN.Ok (lim:Az->Nat) (x:AN):Prop:=((Lit.int .i64 x.Device).wf=true)/\((Lit.int .i64 x.State).wf=true)/\(AE.Ok lim x.At)/\True
def AQ.Ok (lim:Az->Nat) (x:AQ):Prop:=(x.Au.length<=lim (.st 18)/\∀d,List.Mem d x.Au->(A9.Ok lim d))/\(x.Entries.length<=lim (.st 19)/\∀d,List.Mem d x.Entries->(AN.Ok lim d))/\True
def A7.Ok (lim:Az->Nat) (x:A7):Prop:=(x.Name.size<=maxLen)/\(AE.Ok lim x.CF)/\((Lit.int .i64 x.IH).wf=true)/\True
def BC.Ok (lim:Az->Nat) (x:BC):Prop:=(x.BJ.length<=lim (.st 21)/\∀d,List.Mem d x.BJ->(A7.Ok lim d))/\(AE.Ok lim x.HD)/\(AE.Ok lim x.Clear)/\True
def A6.Ok (lim:Az->Nat) (x:A6):Prop:=((Lit.int .i64 x.X).wf=true)/\((Lit.int .i64 x.Y).wf=true)/\True
def Ah.Ok (lim:Az->Nat) (x:Ah):Prop:=(A6.Ok lim x.At)/\((Lit.int .i64 x.FJ).wf=true)/\((Lit.int .i64 x.IW).wf=true)/\((Lit.int .i64 x.H4).wf=true)/\True
def Bx.Ok (lim:Az->Nat) (x:Bx):Prop:=(x.Jv.length<=lim (.int .u16)/\∀d,List.Mem d x.Jv->((Lit.int .u16 d).wf=true))/\(x.Bh.length<=lim (.int .u16)/\∀d,List.Mem d x.Bh->((Lit.int .u16 d).wf=true))/\True
def CG.Ok (lim:Az->Nat) (x:CG):Prop:=(∀e,e<4->((Lit.int .u16 (x.Gg e)).wf=true))/\(x.Bh.length<=lim (.int .u16)/\∀d,List.Mem d x.Bh->((Lit.int .u16 d).wf=true))/\True
def Cg.Ok (lim:Az->Nat) (x:Cg):Prop:=(Bx.Ok lim x.LO)/\(CG.Ok lim x.LN)/\(∀d,d<2->((Lit.int .u16 (x.At d)).wf=true))/\((Lit.int .u16 x.Minute).wf=true)/\True
def C5.Ok (lim:Az->Nat) (x:C5):Prop:=(Ah.Ok lim x.Fk)/\(Cg.Ok lim x.D3)/\True
def Aa.Ok (lim:Az->Nat) (x:Aa):Prop:=((Lit.int .i64 x.Device).wf=true)/\((Lit.int .i64 x.State).wf=true)/\(AE.Ok lim x.At)/\True
def Ak.Ok (lim:Az->Nat) (x:Ak):Prop:=(A6.Ok lim x.At)/\True/\True/\True
def C2.Ok (lim:Az->Nat) (x:C2):Prop:=((Lit.int .i64 x.A).wf=true)/\((Lit.int .i64 x.B).wf=true)/\True
def BK.Ok (lim:Az->Nat) (x:BK):Prop:=(BC.Ok lim x.BC)/\(Ah.Ok lim x.Ah)/\(x.C0.length<=lim (.st 29)/\∀d,List.Mem d x.C0->(Ak.Ok lim d))/\True
def CR.Ok (lim:Az->Nat) (x:CR):Prop:=((Lit.int .i64 x.KU).wf=true)/\((Lit.int .i64 x.F9).wf=true)/\True
def BQ.Ok (lim:Az->Nat) (x:BQ):Prop:=((Lit.int .i64 x.Pb).wf=true)/\((Lit.int .i64 x.clear).wf=true)/\True
def AF.Ok (lim:Az->Nat) (x:AF):Prop:=(AQ.Ok lim x.AQ)/\(x.seen.length<=lim (.st 28)/\∀d,List.Mem d x.seen->(Aa.Ok lim d))/\True
def AG.Ok (lim:Az->Nat) (x:AG):Prop:=((Lit.int .i64 x.from_).wf=true)/\((Lit.int .i64 x.EJ).wf=true)/\True
def Cm.Ok (lim:Az->Nat) (x:Cm):Prop:=((Lit.int .u8 x.A1).wf=true)/\((Lit.int .u8 x.AA).wf=true)/\True
def Co.Ok (lim:Az->Nat) (x:Co):Prop:=(x.s.size<=maxLen)/\True
def aR (lim:Az->Nat) (i:Nat):S i->Prop:=match i with
 | 0=>Cn.Ok lim
 | 1=>Cl.Ok lim
 | 2=>A6.Ok lim
 | 5=>AE.Ok lim
 | 18=>A9.Ok lim
 | 19=>AN.Ok lim
 | 20=>AQ.Ok lim
 | 21=>A7.Ok lim
 | 22=>BC.Ok lim
 | 23=>Ah.Ok lim
 | 24=>Bx.Ok lim
 | 25=>CG.Ok lim
 | 26=>Cg.Ok lim
 | 27=>C5.Ok lim
 | 28=>Aa.Ok lim
 | 29=>Ak.Ok lim
 | 30=>C2.Ok lim
 | 31=>BK.Ok lim
 | 32=>CR.Ok lim
 | 33=>BQ.Ok lim
 | 34=>AF.Ok lim
 | 35=>AG.Ok lim
 | 36=>Cm.Ok lim
 | 37=>Co.Ok lim
 | 3=>fun _=>True
 | 4=>fun _=>True
 | 6=>fun _=>True
 | 7=>fun _=>True
 | 8=>fun _=>True
 | 9=>fun _=>True
 | 10=>fun _=>True
 | 11=>fun _=>True
 | 12=>fun _=>True
 | 13=>fun _=>True
 | 14=>fun _=>True
 | 15=>fun _=>True
 | 16=>fun _=>True
 | 17=>fun _=>True
 | _+38=>fun _=>True
def C6 (i:Nat):List Az:=match i with
 | 0=>[(.int .i64),(.int .i64),.bool,(.int .u8)]
 | 1=>[.str,(.int .u64)]
 | 2=>[(.int .i64),(.int .i64)]
 | 5=>[(.int .i64),(.int .i64)]
 | 18=>[.str,(.int .i64),(.int .i64)]
 | 19=>[(.int .i64),(.int .i64),(.st 5)]
 | 20=>[(.AR (.st 18)),(.AR (.st 19))]
 | 21=>[.str,(.st 5),(.int .i64)]
 | 22=>[(.AR (.st 21)),(.st 5),(.st 5)]
 | 23=>[(.st 2),(.int .i64),(.int .i64),(.int .i64)]
 | 24=>[(.AR (.int .u16)),(.AR (.int .u16))]
 | 25=>[(.arr 4 (.int .u16)),(.AR (.int .u16))]
 | 26=>[(.st 24),(.st 25),(.arr 2 (.int .u16)),(.int .u16)]
 | 27=>[(.st 23),(.st 26)]
 | 28=>[(.int .i64),(.int .i64),(.st 5)]
 | 29=>[(.st 2),.bool,.bool]
 | 30=>[(.int .i64),(.int .i64)]
 | 31=>[(.st 22),(.st 23),(.AR (.st 29))]
 | 32=>[(.int .i64),(.int .i64)]
 | 33=>[(.int .i64),(.int .i64)]
 | 34=>[(.st 20),(.AR (.st 28))]
 | 35=>[(.int .i64),(.int .i64)]
 | 36=>[(.int .u8),(.int .u8)]
 | 37=>[.str]
 | 3=>[]
 | 4=>[]
 | 6=>[]
 | 7=>[]
 | 8=>[]
 | 9=>[]
 | 10=>[]
 | 11=>[]
 | 12=>[]
 | 13=>[]
 | 14=>[]
 | 15=>[]
 | 16=>[]
 | 17=>[]
 | _+38=>[]
def DN (i:Nat):Gu S (C6 i)->S i:=match i with
 | 0=>fun xs=>(⟨xs.1,xs.2.1,xs.2.2.1,xs.2.2.2.1⟩:Cn)
 | 1=>fun xs=>(⟨xs.1,xs.2.1⟩:Cl)
 | 2=>fun xs=>(⟨xs.1,xs.2.1⟩:A6)
 | 5=>fun xs=>(⟨xs.1,xs.2.1⟩:AE)
 | 18=>fun xs=>(⟨xs.1,xs.2.1,xs.2.2.1⟩:A9)
 | 19=>fun xs=>(⟨xs.1,xs.2.1,xs.2.2.1⟩:AN)
 | 20=>fun xs=>(⟨xs.1,xs.2.1⟩:AQ)
 | 21=>fun xs=>(⟨xs.1,xs.2.1,xs.2.2.1⟩:A7)
 | 22=>fun xs=>(⟨xs.1,xs.2.1,xs.2.2.1⟩:BC)
 | 23=>fun xs=>(⟨xs.1,xs.2.1,xs.2.2.1,xs.2.2.2.1⟩:Ah)
 | 24=>fun xs=>(⟨xs.1,xs.2.1⟩:Bx)
 | 25=>fun xs=>(⟨xs.1,xs.2.1⟩:CG)
 | 26=>fun xs=>(⟨xs.1,xs.2.1,xs.2.2.1,xs.2.2.2.1⟩:Cg)
 | 27=>fun xs=>(⟨xs.1,xs.2.1⟩:C5)
 | 28=>fun xs=>(⟨xs.1,xs.2.1,xs.2.2.1⟩:Aa)
 | 29=>fun xs=>(⟨xs.1,xs.2.1,xs.2.2.1⟩:Ak)
 | 30=>fun xs=>(⟨xs.1,xs.2.1⟩:C2)
 | 31=>fun xs=>(⟨xs.1,xs.2.1,xs.2.2.1⟩:BK)
 | 32=>fun xs=>(⟨xs.1,xs.2.1⟩:CR)
 | 33=>fun xs=>(⟨xs.1,xs.2.1⟩:BQ)
 | 34=>fun xs=>(⟨xs.1,xs.2.1⟩:AF)
 | 35=>fun xs=>(⟨xs.1,xs.2.1⟩:AG)
 | 36=>fun xs=>(⟨xs.1,xs.2.1⟩:Cm)
 | 37=>fun xs=>(⟨xs.1⟩:Co)
 | 3=>fun _=>T.Bi _
 | 4=>fun _=>T.Bi _
 | 6=>fun _=>T.Bi _
 | 7=>fun _=>T.Bi _
 | 8=>fun _=>T.Bi _
 | 9=>fun _=>T.Bi _
 | 10=>fun _=>T.Bi _
 | 11=>fun _=>T.Bi _
 | 12=>fun _=>T.Bi _
 | 13=>fun _=>T.Bi _
 | 14=>fun _=>T.Bi _
 | 15=>fun _=>T.Bi _
 | 16=>fun _=>T.Bi _
 | 17=>fun _=>T.Bi _
 | _+38=>fun _=>T.Bi _
theorem Aoy (i:Nat):∀xs,T.G8 i (DN i xs)=DG T (C6 i) xs:=match i with
 | 0=>fun xs=>by
  show Cn.dl _=_;unfold Cn.dl
  first|(simp only[C6,DG,DN,BF,List.append_assoc,List.append_nil];done)|(simp only[C6,DG,DN,BF,List.append_assoc,List.append_nil];rfl)
 | 1=>fun xs=>by
  show Cl.dl _=_;unfold Cl.dl
  first|(simp only[C6,DG,DN,BF,List.append_assoc,List.append_nil];done)|(simp only[C6,DG,DN,BF,List.append_assoc,List.append_nil];rfl)
 | 2=>fun xs=>by
  show A6.dl _=_;unfold A6.dl
  first|(simp only[C6,DG,DN,BF,List.append_assoc,List.append_nil];done)|(simp only[C6,DG,DN,BF,List.append_assoc,List.append_nil];rfl)
 | 5=>fun xs=>by
  show AE.dl _=_;unfold AE.dl
  first|(simp only[C6,DG,DN,BF,List.append_assoc,List.append_nil];done)|(simp only[C6,DG,DN,BF,List.append_assoc,List.append_nil];rfl)
 | 18=>fun xs=>by
  show A9.dl _=_;unfold A9.dl
  first|(simp only[C6,DG,DN,BF,List.append_assoc,List.append_nil];done)|(simp only[C6,DG,DN,BF,List.append_assoc,List.append_nil];rfl)
 | 19=>fun xs=>by
  show AN.dl _=_;unfold AN.dl
  first|(simp only[C6,DG,DN,BF,List.append_assoc,List.append_nil];done)|(simp only[C6,DG,DN,BF,List.append_assoc,List.append_nil];rfl)
 | 20=>fun xs=>by
  show AQ.dl _=_;unfold AQ.dl
  first|(simp only[C6,DG,DN,BF,List.append_assoc,List.append_nil];done)|(simp only[C6,DG,DN,BF,List.append_assoc,List.append_nil];rfl)
 | 21=>fun xs=>by
  show A7.dl _=_;unfold A7.dl
  first|(simp only[C6,DG,DN,BF,List.append_assoc,List.append_nil];done)|(simp only[C6,DG,DN,BF,List.append_assoc,List.append_nil];rfl)
 | 22=>fun xs=>by
  show BC.dl _=_;unfold BC.dl
  first|(simp only[C6,DG,DN,BF,List.append_assoc,List.append_nil];done)|(simp only[C6,DG,DN,BF,List.append_assoc,List.append_nil];rfl)
 | 23=>fun xs=>by
  show Ah.dl _=_;unfold Ah.dl
  first|(simp only[C6,DG,DN,BF,List.append_assoc,List.append_nil];done)|(simp only[C6,DG,DN,BF,List.append_assoc,List.append_nil];rfl)
 | 24=>fun xs=>by
  show Bx.dl _=_;unfold Bx.dl
  first|(simp only[C6,DG,DN,BF,List.append_assoc,List.append_nil];done)|(simp only[C6,DG,DN,BF,List.append_assoc,List.append_nil];rfl)
 | 25=>fun xs=>by
  show CG.dl _=_;unfold CG.dl
  first|(simp only[C6,DG,DN,BF,List.append_assoc,List.append_nil];done)|(simp only[C6,DG,DN,BF,List.append_assoc,List.append_nil];rfl)
 | 26=>fun xs=>by
  show Cg.dl _=_;unfold Cg.dl
  first|(simp only[C6,DG,DN,BF,List.append_assoc,List.append_nil];done)|(simp only[C6,DG,DN,BF,List.append_assoc,List.append_nil];rfl)
 | 27=>fun xs=>by
  show C5.dl _=_;unfold C5.dl
  first|(simp only[C6,DG,DN,BF,List.append_assoc,List.append_nil];done)|(simp only[C6,DG,DN,BF,List.append_assoc,List.append_nil];rfl)
 | 28=>fun xs=>by
  show Aa.dl _=_;unfold Aa.dl
  first|(simp only[C6,DG,DN,BF,List.append_assoc,List.append_nil];done)|(simp only[C6,DG,DN,BF,List.append_assoc,List.append_nil];rfl)
 | 29=>fun xs=>by
  show Ak.dl _=_;unfold Ak.dl
  first|(simp only[C6,DG,DN,BF,List.append_assoc,List.append_nil];done)|(simp only[C6,DG,DN,BF,List.append_assoc,List.append_nil];rfl)
 | 30=>fun xs=>by
  show C2.dl _=_;unfold C2.dl
  first|(simp only[C6,DG,DN,BF,List.append_assoc,List.append_nil];done)|(simp only[C6,DG,DN,BF,List.append_assoc,List.append_nil];rfl)
 | 31=>fun xs=>by
  show BK.dl _=_;unfold BK.dl
  first|(simp only[C6,DG,DN,BF,List.append_assoc,List.append_nil];done)|(simp only[C6,DG,DN,BF,List.append_assoc,List.append_nil];rfl)
 | 32=>fun xs=>by
  show CR.dl _=_;unfold CR.dl
  first|(simp only[C6,DG,DN,BF,List.append_assoc,List.append_nil];done)|(simp only[C6,DG,DN,BF,List.append_assoc,List.append_nil];rfl)
 | 33=>fun xs=>by
  show BQ.dl _=_;unfold BQ.dl
  first|(simp only[C6,DG,DN,BF,List.append_assoc,List.append_nil];done)|(simp only[C6,DG,DN,BF,List.append_assoc,List.append_nil];rfl)
 | 34=>fun xs=>by
  show AF.dl _=_;unfold AF.dl
  first|(simp only[C6,DG,DN,BF,List.append_assoc,List.append_nil];done)|(simp only[C6,DG,DN,BF,List.append_assoc,List.append_nil];rfl)
 | 35=>fun xs=>by
  show AG.dl _=_;unfold AG.dl
  first|(simp only[C6,DG,DN,BF,List.append_assoc,List.append_nil];done)|(simp only[C6,DG,DN,BF,List.append_assoc,List.append_nil];rfl)
 | 36=>fun xs=>by
  show Cm.dl _=_;unfold Cm.dl
  first|(simp only[C6,DG,DN,BF,List.append_assoc,List.append_nil];done)|(simp only[C6,DG,DN,BF,List.append_assoc,List.append_nil];rfl)
 | 37=>fun xs=>by
  show Co.dl _=_;unfold Co.dl
  first|(simp only[C6,DG,DN,BF,List.append_assoc,List.append_nil];done)|(simp only[C6,DG,DN,BF,List.append_assoc,List.append_nil];rfl)
 | 3=>fun _=>rfl
 | 4=>fun _=>rfl
 | 6=>fun _=>rfl
 | 7=>fun _=>rfl
 | 8=>fun _=>rfl
 | 9=>fun _=>rfl
 | 10=>fun _=>rfl
 | 11=>fun _=>rfl
 | 12=>fun _=>rfl
 | 13=>fun _=>rfl
 | 14=>fun _=>rfl
 | 15=>fun _=>rfl
 | 16=>fun _=>rfl
 | 17=>fun _=>rfl
 | _+38=>fun _=>rfl
theorem Aoz (lim:Az->Nat) (i:Nat):∀xs,SH lim (aR lim) (C6 i) xs->aR lim i (DN i xs):=match i with
 | 0=>fun _ h=>h
 | 1=>fun _ h=>h
 | 2=>fun _ h=>h
 | 5=>fun _ h=>h
 | 18=>fun _ h=>h
 | 19=>fun _ h=>h
 | 20=>fun _ h=>h
 | 21=>fun _ h=>h
 | 22=>fun _ h=>h
 | 23=>fun _ h=>h
 | 24=>fun _ h=>h
 | 25=>fun _ h=>h
 | 26=>fun _ h=>h
 | 27=>fun _ h=>h
 | 28=>fun _ h=>h
 | 29=>fun _ h=>h
 | 30=>fun _ h=>h
 | 31=>fun _ h=>h
 | 32=>fun _ h=>h
 | 33=>fun _ h=>h
 | 34=>fun _ h=>h
 | 35=>fun _ h=>h
 | 36=>fun _ h=>h
 | 37=>fun _ h=>h
 | 3=>fun _ _=>trivial
 | 4=>fun _ _=>trivial
 | 6=>fun _ _=>trivial
 | 7=>fun _ _=>trivial
 | 8=>fun _ _=>trivial
 | 9=>fun _ _=>trivial
 | 10=>fun _ _=>trivial
 | 11=>fun _ _=>trivial
 | 12=>fun _ _=>trivial
 | 13=>fun _ _=>trivial
 | 14=>fun _ _=>trivial
 | 15=>fun _ _=>trivial
 | 16=>fun _ _=>trivial
 | 17=>fun _ _=>trivial
 | _+38=>fun _ _=>trivial
def F:sA T:=⟨C6,DN,aR,Aoy,Aoz⟩
end Nore
namespace Go.Proofs.YthkpjcjiolelnaaGreatDoor
open Go.Ab Go.Proofs
def Ps:Az->Nat
 | .st 2=>16
 | _=>1
def Adq (c:Az):Nat:=reachBytes / Ps c
theorem AAE:Mf (fun e c=>Nat.beq (Tryz.prog.bytesOf e) 0||Nat.ble (Ps c) (Tryz.prog.bytesOf e)) Pd=true:=by kernel_rfl
theorem readAll:Mf (fun t c=>PW Pd.get KY.get (Bd Nore.T) Nore.C6 (KY.get t) c) Pd=true:=by kernel_rfl
theorem AAy (t:Nat) (c:Az) (h:X.code t=some c):PW X.code X.E.ty (Bd X.T) Nore.F.C6 (X.E.ty t) c=true:=RY (p:=fun t c=>PW Pd.get KY.get (Bd Nore.T) Nore.C6 (KY.get t) c) readAll h
end Go.Proofs.YthkpjcjiolelnaaGreatDoor
