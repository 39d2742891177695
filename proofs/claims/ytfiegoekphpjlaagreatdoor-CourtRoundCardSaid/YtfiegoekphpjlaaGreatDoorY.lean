/- The structs of the program as plain structures. -/
import Derived.Test.YtfiegoekphpjlaaGreatDoorT2
import Derived.Test.YtfiegoekphpjlaaGreatDoorB
import Derived.Test.YtfiegoekphpjlaaGreatDoorU
import Derived.KernelRfl
set_option linter.unusedSectionVars false
set_option linter.unusedVariables false
set_option linter.unusedSimpArgs false
namespace Nore
open Go Go.Ab
@[ext] structure Z4 where
 x:Int
 y:Int
 signed:Bool
 code:Int
@[ext] structure Z2 where
 msg:ByteArray
 addr:Int
@[ext] structure Zh where
 Name:ByteArray
 States:Int
 First:Int
@[ext] structure Y1 where
 Lo:Int
 Hi:Int
@[ext] structure Zl where
 Device:Int
 State:Int
 At:Y1
@[ext] structure CoRecord where
 Devices:(List Zh)
 Entries:(List Zl)
@[ext] structure Zt where
 Device:Int
 State:Int
 At:Y1
@[ext] structure Z7 where
 CoRecord:CoRecord
 seen:(List Zt)
@[ext] structure Z6 where
 from_:Int
 to_:Int
@[ext] structure Z3 where
 lo:Int
 hi:Int
@[ext] structure Z5 where
 s:ByteArray
def S:Nat->Type
 | 0=>Z4
 | 1=>Z2
 | 2=>Unit
 | 3=>Unit
 | 4=>Unit
 | 5=>Y1
 | 6=>Unit
 | 7=>Unit
 | 8=>Unit
 | 9=>Unit
 | 10=>Unit
 | 11=>Unit
 | 12=>Unit
 | 13=>Unit
 | 14=>Unit
 | 15=>Unit
 | 16=>Unit
 | 17=>Unit
 | 18=>Zh
 | 19=>Zl
 | 20=>CoRecord
 | 21=>Zt
 | 22=>Z7
 | 23=>Z6
 | 24=>Z3
 | 25=>Z5
 | _+26=>Unit
def Z4.cl (x:Z4):List (TV S):=[.int .i64 x.x]++[.int .i64 x.y]++[.bool x.signed]++[.int .u8 x.code]
def Z4.dl (x:Z4):List DV:=[.int .i64 x.x]++[.int .i64 x.y]++[.bool x.signed]++[.int .u8 x.code]
def Z4.df:Z4:=⟨(0:Int),(0:Int),false,(0:Int)⟩
def Z4.eqb (x y:Z4):Bool:=(x.x==y.x&&(x.y==y.y&&(x.signed==y.signed&&(x.code==y.code&&true))))
def Z4.seq:Option (Z4->Z4->Bool):=some Z4.eqb
def Z2.cl (x:Z2):List (TV S):=[.str x.msg]++[.int .u64 x.addr]
def Z2.dl (x:Z2):List DV:=[.str x.msg]++[.int .u64 x.addr]
def Z2.df:Z2:=⟨ByteArray.empty,(0:Int)⟩
def Z2.eqb (x y:Z2):Bool:=(x.msg==y.msg&&(x.addr==y.addr&&true))
def Z2.seq:Option (Z2->Z2->Bool):=some Z2.eqb
def Zh.cl (x:Zh):List (TV S):=[.str x.Name]++[.int .i64 x.States]++[.int .i64 x.First]
def Zh.dl (x:Zh):List DV:=[.str x.Name]++[.int .i64 x.States]++[.int .i64 x.First]
def Zh.df:Zh:=⟨ByteArray.empty,(0:Int),(0:Int)⟩
def Zh.eqb (x y:Zh):Bool:=(x.Name==y.Name&&(x.States==y.States&&(x.First==y.First&&true)))
def Zh.seq:Option (Zh->Zh->Bool):=some Zh.eqb
def Y1.cl (x:Y1):List (TV S):=[.int .i64 x.Lo]++[.int .i64 x.Hi]
def Y1.dl (x:Y1):List DV:=[.int .i64 x.Lo]++[.int .i64 x.Hi]
def Y1.df:Y1:=⟨(0:Int),(0:Int)⟩
def Y1.eqb (x y:Y1):Bool:=(x.Lo==y.Lo&&(x.Hi==y.Hi&&true))
def Y1.seq:Option (Y1->Y1->Bool):=some Y1.eqb
def Zl.cl (x:Zl):List (TV S):=[.int .i64 x.Device]++[.int .i64 x.State]++[.stc 5 x.At]
def Zl.dl (x:Zl):List DV:=[.int .i64 x.Device]++[.int .i64 x.State]++(Y1.dl x.At)
def Zl.df:Zl:=⟨(0:Int),(0:Int),⟨(0:Int),(0:Int)⟩⟩
def Zl.eqb (x y:Zl):Bool:=(x.Device==y.Device&&(x.State==y.State&&(x.At.Lo==y.At.Lo&&(x.At.Hi==y.At.Hi&&true))))
def Zl.seq:Option (Zl->Zl->Bool):=some Zl.eqb
def CoRecord.cl (x:CoRecord):List (TV S):=[.sl (.st 18) x.Devices]++[.sl (.st 19) x.Entries]
def CoRecord.dl (x:CoRecord):List DV:=[.sl (List.map (fun y=>(Zh.dl y)) x.Devices)]++[.sl (List.map (fun y=>(Zl.dl y)) x.Entries)]
def CoRecord.df:CoRecord:=⟨[],[]⟩
def CoRecord.seq:Option (CoRecord->CoRecord->Bool):=none
def Zt.cl (x:Zt):List (TV S):=[.int .i64 x.Device]++[.int .i64 x.State]++[.stc 5 x.At]
def Zt.dl (x:Zt):List DV:=[.int .i64 x.Device]++[.int .i64 x.State]++(Y1.dl x.At)
def Zt.df:Zt:=⟨(0:Int),(0:Int),⟨(0:Int),(0:Int)⟩⟩
def Zt.eqb (x y:Zt):Bool:=(x.Device==y.Device&&(x.State==y.State&&(x.At.Lo==y.At.Lo&&(x.At.Hi==y.At.Hi&&true))))
def Zt.seq:Option (Zt->Zt->Bool):=some Zt.eqb
def Z7.cl (x:Z7):List (TV S):=[.stc 20 x.CoRecord]++[.sl (.st 21) x.seen]
def Z7.dl (x:Z7):List DV:=(CoRecord.dl x.CoRecord)++[.sl (List.map (fun y=>(Zt.dl y)) x.seen)]
def Z7.df:Z7:=⟨⟨[],[]⟩,[]⟩
def Z7.seq:Option (Z7->Z7->Bool):=none
def Z6.cl (x:Z6):List (TV S):=[.int .i64 x.from_]++[.int .i64 x.to_]
def Z6.dl (x:Z6):List DV:=[.int .i64 x.from_]++[.int .i64 x.to_]
def Z6.df:Z6:=⟨(0:Int),(0:Int)⟩
def Z6.eqb (x y:Z6):Bool:=(x.from_==y.from_&&(x.to_==y.to_&&true))
def Z6.seq:Option (Z6->Z6->Bool):=some Z6.eqb
def Z3.cl (x:Z3):List (TV S):=[.int .u8 x.lo]++[.int .u8 x.hi]
def Z3.dl (x:Z3):List DV:=[.int .u8 x.lo]++[.int .u8 x.hi]
def Z3.df:Z3:=⟨(0:Int),(0:Int)⟩
def Z3.eqb (x y:Z3):Bool:=(x.lo==y.lo&&(x.hi==y.hi&&true))
def Z3.seq:Option (Z3->Z3->Bool):=some Z3.eqb
def Z5.cl (x:Z5):List (TV S):=[.str x.s]
def Z5.dl (x:Z5):List DV:=[.str x.s]
def Z5.df:Z5:=⟨ByteArray.empty⟩
def Z5.eqb (x y:Z5):Bool:=(x.s==y.s&&true)
def Z5.seq:Option (Z5->Z5->Bool):=some Z5.eqb
def T0:TS S where
 size:=fun i=>match i with
  | 0=>4
  | 1=>2
  | 18=>3
  | 5=>2
  | 19=>4
  | 20=>2
  | 21=>4
  | 22=>3
  | 23=>2
  | 24=>2
  | 25=>1
  | _=>0
 cells:=fun i=>match i with
  | 0=>Z4.cl
  | 1=>Z2.cl
  | 2=>fun _=>[]
  | 3=>fun _=>[]
  | 4=>fun _=>[]
  | 5=>Y1.cl
  | 6=>fun _=>[]
  | 7=>fun _=>[]
  | 8=>fun _=>[]
  | 9=>fun _=>[]
  | 10=>fun _=>[]
  | 11=>fun _=>[]
  | 12=>fun _=>[]
  | 13=>fun _=>[]
  | 14=>fun _=>[]
  | 15=>fun _=>[]
  | 16=>fun _=>[]
  | 17=>fun _=>[]
  | 18=>Zh.cl
  | 19=>Zl.cl
  | 20=>CoRecord.cl
  | 21=>Zt.cl
  | 22=>Z7.cl
  | 23=>Z6.cl
  | 24=>Z3.cl
  | 25=>Z5.cl
  | _+26=>fun _=>[]
 dcells:=fun i=>match i with
  | 0=>Z4.dl
  | 1=>Z2.dl
  | 2=>fun _=>[]
  | 3=>fun _=>[]
  | 4=>fun _=>[]
  | 5=>Y1.dl
  | 6=>fun _=>[]
  | 7=>fun _=>[]
  | 8=>fun _=>[]
  | 9=>fun _=>[]
  | 10=>fun _=>[]
  | 11=>fun _=>[]
  | 12=>fun _=>[]
  | 13=>fun _=>[]
  | 14=>fun _=>[]
  | 15=>fun _=>[]
  | 16=>fun _=>[]
  | 17=>fun _=>[]
  | 18=>Zh.dl
  | 19=>Zl.dl
  | 20=>CoRecord.dl
  | 21=>Zt.dl
  | 22=>Z7.dl
  | 23=>Z6.dl
  | 24=>Z3.dl
  | 25=>Z5.dl
  | _+26=>fun _=>[]
 rd:=fun _ _=>none
 dflt:=fun i=>match i with
  | 0=>Z4.df
  | 1=>Z2.df
  | 2=>()
  | 3=>()
  | 4=>()
  | 5=>Y1.df
  | 6=>()
  | 7=>()
  | 8=>()
  | 9=>()
  | 10=>()
  | 11=>()
  | 12=>()
  | 13=>()
  | 14=>()
  | 15=>()
  | 16=>()
  | 17=>()
  | 18=>Zh.df
  | 19=>Zl.df
  | 20=>CoRecord.df
  | 21=>Zt.df
  | 22=>Z7.df
  | 23=>Z6.df
  | 24=>Z3.df
  | 25=>Z5.df
  | _+26=>()
 seq:=fun _=>none
def Z4.rd (cs:List (TV S)):Option (Z4×List (TV S)):=(Z1u .i64 cs).bind fun a0=>(Z1u .i64 a0.2).bind fun a1=>(Z8m a1.2).bind fun a2=>(Z1u .u8 a2.2).bind fun a3=>some (⟨a0.1,a1.1,a2.1,a3.1⟩,a3.2)
def Z2.rd (cs:List (TV S)):Option (Z2×List (TV S)):=(Z92 cs).bind fun a0=>(Z1u .u64 a0.2).bind fun a1=>some (⟨a0.1,a1.1⟩,a1.2)
def Zh.rd (cs:List (TV S)):Option (Zh×List (TV S)):=(Z92 cs).bind fun a0=>(Z1u .i64 a0.2).bind fun a1=>(Z1u .i64 a1.2).bind fun a2=>some (⟨a0.1,a1.1,a2.1⟩,a2.2)
def Y1.rd (cs:List (TV S)):Option (Y1×List (TV S)):=(Z1u .i64 cs).bind fun a0=>(Z1u .i64 a0.2).bind fun a1=>some (⟨a0.1,a1.1⟩,a1.2)
def Zl.rd (cs:List (TV S)):Option (Zl×List (TV S)):=(Z1u .i64 cs).bind fun a0=>(Z1u .i64 a0.2).bind fun a1=>((fun cs=>rdW (S:=S) 5 Y1.rd (Z58 T0 5 6 cs)) a1.2).bind fun a2=>some (⟨a0.1,a1.1,a2.1⟩,a2.2)
def CoRecord.rd (cs:List (TV S)):Option (CoRecord×List (TV S)):=(ZfW (S:=S) (.st 18) cs).bind fun a0=>(ZfW (S:=S) (.st 19) a0.2).bind fun a1=>some (⟨a0.1,a1.1⟩,a1.2)
def Zt.rd (cs:List (TV S)):Option (Zt×List (TV S)):=(Z1u .i64 cs).bind fun a0=>(Z1u .i64 a0.2).bind fun a1=>((fun cs=>rdW (S:=S) 5 Y1.rd (Z58 T0 5 6 cs)) a1.2).bind fun a2=>some (⟨a0.1,a1.1,a2.1⟩,a2.2)
def Z7.rd (cs:List (TV S)):Option (Z7×List (TV S)):=((fun cs=>rdW (S:=S) 20 CoRecord.rd (Z58 T0 20 6 cs)) cs).bind fun a0=>(ZfW (S:=S) (.st 21) a0.2).bind fun a1=>some (⟨a0.1,a1.1⟩,a1.2)
def Z6.rd (cs:List (TV S)):Option (Z6×List (TV S)):=(Z1u .i64 cs).bind fun a0=>(Z1u .i64 a0.2).bind fun a1=>some (⟨a0.1,a1.1⟩,a1.2)
def Z3.rd (cs:List (TV S)):Option (Z3×List (TV S)):=(Z1u .u8 cs).bind fun a0=>(Z1u .u8 a0.2).bind fun a1=>some (⟨a0.1,a1.1⟩,a1.2)
def Z5.rd (cs:List (TV S)):Option (Z5×List (TV S)):=(Z92 cs).bind fun a0=>some (⟨a0.1⟩,a0.2)
def T:TS S where
 size:=fun i=>match i with
  | 0=>4
  | 1=>2
  | 18=>3
  | 5=>2
  | 19=>4
  | 20=>2
  | 21=>4
  | 22=>3
  | 23=>2
  | 24=>2
  | 25=>1
  | _=>0
 cells:=fun i=>match i with
  | 0=>Z4.cl
  | 1=>Z2.cl
  | 2=>fun _=>[]
  | 3=>fun _=>[]
  | 4=>fun _=>[]
  | 5=>Y1.cl
  | 6=>fun _=>[]
  | 7=>fun _=>[]
  | 8=>fun _=>[]
  | 9=>fun _=>[]
  | 10=>fun _=>[]
  | 11=>fun _=>[]
  | 12=>fun _=>[]
  | 13=>fun _=>[]
  | 14=>fun _=>[]
  | 15=>fun _=>[]
  | 16=>fun _=>[]
  | 17=>fun _=>[]
  | 18=>Zh.cl
  | 19=>Zl.cl
  | 20=>CoRecord.cl
  | 21=>Zt.cl
  | 22=>Z7.cl
  | 23=>Z6.cl
  | 24=>Z3.cl
  | 25=>Z5.cl
  | _+26=>fun _=>[]
 dcells:=fun i=>match i with
  | 0=>Z4.dl
  | 1=>Z2.dl
  | 2=>fun _=>[]
  | 3=>fun _=>[]
  | 4=>fun _=>[]
  | 5=>Y1.dl
  | 6=>fun _=>[]
  | 7=>fun _=>[]
  | 8=>fun _=>[]
  | 9=>fun _=>[]
  | 10=>fun _=>[]
  | 11=>fun _=>[]
  | 12=>fun _=>[]
  | 13=>fun _=>[]
  | 14=>fun _=>[]
  | 15=>fun _=>[]
  | 16=>fun _=>[]
  | 17=>fun _=>[]
  | 18=>Zh.dl
  | 19=>Zl.dl
  | 20=>CoRecord.dl
  | 21=>Zt.dl
  | 22=>Z7.dl
  | 23=>Z6.dl
  | 24=>Z3.dl
  | 25=>Z5.dl
  | _+26=>fun _=>[]
 rd:=fun i=>match i with
  | 0=>Z4.rd
  | 1=>Z2.rd
  | 2=>fun cs=>some ((),cs)
  | 3=>fun cs=>some ((),cs)
  | 4=>fun cs=>some ((),cs)
  | 5=>Y1.rd
  | 6=>fun cs=>some ((),cs)
  | 7=>fun cs=>some ((),cs)
  | 8=>fun cs=>some ((),cs)
  | 9=>fun cs=>some ((),cs)
  | 10=>fun cs=>some ((),cs)
  | 11=>fun cs=>some ((),cs)
  | 12=>fun cs=>some ((),cs)
  | 13=>fun cs=>some ((),cs)
  | 14=>fun cs=>some ((),cs)
  | 15=>fun cs=>some ((),cs)
  | 16=>fun cs=>some ((),cs)
  | 17=>fun cs=>some ((),cs)
  | 18=>Zh.rd
  | 19=>Zl.rd
  | 20=>CoRecord.rd
  | 21=>Zt.rd
  | 22=>Z7.rd
  | 23=>Z6.rd
  | 24=>Z3.rd
  | 25=>Z5.rd
  | _+26=>fun cs=>some ((),cs)
 dflt:=fun i=>match i with
  | 0=>Z4.df
  | 1=>Z2.df
  | 2=>()
  | 3=>()
  | 4=>()
  | 5=>Y1.df
  | 6=>()
  | 7=>()
  | 8=>()
  | 9=>()
  | 10=>()
  | 11=>()
  | 12=>()
  | 13=>()
  | 14=>()
  | 15=>()
  | 16=>()
  | 17=>()
  | 18=>Zh.df
  | 19=>Zl.df
  | 20=>CoRecord.df
  | 21=>Zt.df
  | 22=>Z7.df
  | 23=>Z6.df
  | 24=>Z3.df
  | 25=>Z5.df
  | _+26=>()
 seq:=fun i=>match i with
  | 0=>Z4.seq
  | 1=>Z2.seq
  | 2=>none
  | 3=>none
  | 4=>none
  | 5=>Y1.seq
  | 6=>none
  | 7=>none
  | 8=>none
  | 9=>none
  | 10=>none
  | 11=>none
  | 12=>none
  | 13=>none
  | 14=>none
  | 15=>none
  | 16=>none
  | 17=>none
  | 18=>Zh.seq
  | 19=>Zl.seq
  | 20=>CoRecord.seq
  | 21=>Zt.seq
  | 22=>Z7.seq
  | 23=>Z6.seq
  | 24=>Z3.seq
  | 25=>Z5.seq
  | _+26=>none
abbrev dT (cs:List (TV S)):List DV:=dvs T cs
theorem Z4.cl_ok (x:Z4):dvs T (Z4.cl x)=Z4.dl x:=rfl
theorem Z2.cl_ok (x:Z2):dvs T (Z2.cl x)=Z2.dl x:=rfl
theorem Zh.cl_ok (x:Zh):dvs T (Zh.cl x)=Zh.dl x:=rfl
theorem Y1.cl_ok (x:Y1):dvs T (Y1.cl x)=Y1.dl x:=rfl
theorem Zl.cl_ok (x:Zl):dvs T (Zl.cl x)=Zl.dl x:=rfl
theorem CoRecord.cl_ok (x:CoRecord):dvs T (CoRecord.cl x)=CoRecord.dl x:=rfl
theorem Zt.cl_ok (x:Zt):dvs T (Zt.cl x)=Zt.dl x:=rfl
theorem Z7.cl_ok (x:Z7):dvs T (Z7.cl x)=Z7.dl x:=rfl
theorem Z6.cl_ok (x:Z6):dvs T (Z6.cl x)=Z6.dl x:=rfl
theorem Z3.cl_ok (x:Z3):dvs T (Z3.cl x)=Z3.dl x:=rfl
theorem Z5.cl_ok (x:Z5):dvs T (Z5.cl x)=Z5.dl x:=rfl
theorem Zis:∀i (x:S i),dvs T (T0.cells i x)=T.dcells i x :=
   fun i=>match i with
    | 0=>Z4.cl_ok
    | 1=>Z2.cl_ok
    | 2=>fun _=>rfl
    | 3=>fun _=>rfl
    | 4=>fun _=>rfl
    | 5=>Y1.cl_ok
    | 6=>fun _=>rfl
    | 7=>fun _=>rfl
    | 8=>fun _=>rfl
    | 9=>fun _=>rfl
    | 10=>fun _=>rfl
    | 11=>fun _=>rfl
    | 12=>fun _=>rfl
    | 13=>fun _=>rfl
    | 14=>fun _=>rfl
    | 15=>fun _=>rfl
    | 16=>fun _=>rfl
    | 17=>fun _=>rfl
    | 18=>Zh.cl_ok
    | 19=>Zl.cl_ok
    | 20=>CoRecord.cl_ok
    | 21=>Zt.cl_ok
    | 22=>Z7.cl_ok
    | 23=>Z6.cl_ok
    | 24=>Z3.cl_ok
    | 25=>Z5.cl_ok
    | _+26=>fun _=>rfl
theorem Z6D (i:Nat):∀(n:Nat) (cs:List (TV S)),dvs T (Z58 T0 i n cs)=dvs T cs:=Z9A (T:=T) (T0:=T0) Zis i
theorem Z4.len_ok (x:Z4):(Z4.dl x).length=4:=rfl
theorem Z4.pl_ok (x:Z4):(Z4.dl x).all plain=true:=rfl
theorem Z4.seq_ok (e:Z4->Z4->Bool) (h:Z4.seq=some e) (x y:Z4):Zj (Z4.dl x) (Z4.dl y)=some (e x y):=by
 cases h;rfl
theorem Z4.rd_ok {cs r:List (TV S)} {x:Z4} (h:Z4.rd cs=some (x,r)):dvs T cs=Z4.dl x++dvs T r:=by
 unfold Z4.rd at h;obtain⟨⟨a0,r0⟩,h0,h⟩:=Z0 h;obtain⟨⟨a1,r1⟩,h1,h⟩:=Z0 h;obtain⟨⟨a2,r2⟩,h2,h⟩:=Z0 h;obtain⟨⟨a3,r3⟩,h3,h⟩:=Z0 h;cases h;rw[Yh h0,Yh h1,ZfV h2,Yh h3];rfl
theorem Z2.len_ok (x:Z2):(Z2.dl x).length=2:=rfl
theorem Z2.pl_ok (x:Z2):(Z2.dl x).all plain=true:=rfl
theorem Z2.seq_ok (e:Z2->Z2->Bool) (h:Z2.seq=some e) (x y:Z2):Zj (Z2.dl x) (Z2.dl y)=some (e x y):=by
 cases h;rfl
theorem Z2.rd_ok {cs r:List (TV S)} {x:Z2} (h:Z2.rd cs=some (x,r)):dvs T cs=Z2.dl x++dvs T r:=by
 unfold Z2.rd at h;obtain⟨⟨a0,r0⟩,h0,h⟩:=Z0 h;obtain⟨⟨a1,r1⟩,h1,h⟩:=Z0 h;cases h;rw[Z8n h0,Yh h1];rfl
theorem Zh.len_ok (x:Zh):(Zh.dl x).length=3:=rfl
theorem Zh.pl_ok (x:Zh):(Zh.dl x).all plain=true:=rfl
theorem Zh.seq_ok (e:Zh->Zh->Bool) (h:Zh.seq=some e) (x y:Zh):Zj (Zh.dl x) (Zh.dl y)=some (e x y):=by
 cases h;rfl
theorem Zh.rd_ok {cs r:List (TV S)} {x:Zh} (h:Zh.rd cs=some (x,r)):dvs T cs=Zh.dl x++dvs T r:=by
 unfold Zh.rd at h;obtain⟨⟨a0,r0⟩,h0,h⟩:=Z0 h;obtain⟨⟨a1,r1⟩,h1,h⟩:=Z0 h;obtain⟨⟨a2,r2⟩,h2,h⟩:=Z0 h;cases h;rw[Z8n h0,Yh h1,Yh h2];rfl
theorem Y1.len_ok (x:Y1):(Y1.dl x).length=2:=rfl
theorem Y1.pl_ok (x:Y1):(Y1.dl x).all plain=true:=rfl
theorem Y1.seq_ok (e:Y1->Y1->Bool) (h:Y1.seq=some e) (x y:Y1):Zj (Y1.dl x) (Y1.dl y)=some (e x y):=by
 cases h;rfl
theorem Y1.rd_ok {cs r:List (TV S)} {x:Y1} (h:Y1.rd cs=some (x,r)):dvs T cs=Y1.dl x++dvs T r:=by
 unfold Y1.rd at h;obtain⟨⟨a0,r0⟩,h0,h⟩:=Z0 h;obtain⟨⟨a1,r1⟩,h1,h⟩:=Z0 h;cases h;rw[Yh h0,Yh h1];rfl
theorem Zl.len_ok (x:Zl):(Zl.dl x).length=4:=rfl
theorem Zl.pl_ok (x:Zl):(Zl.dl x).all plain=true:=rfl
theorem Zl.seq_ok (e:Zl->Zl->Bool) (h:Zl.seq=some e) (x y:Zl):Zj (Zl.dl x) (Zl.dl y)=some (e x y):=by
 cases h;rfl
theorem Zl.rd_ok {cs r:List (TV S)} {x:Zl} (h:Zl.rd cs=some (x,r)):dvs T cs=Zl.dl x++dvs T r:=by
 unfold Zl.rd at h;obtain⟨⟨a0,r0⟩,h0,h⟩:=Z0 h;obtain⟨⟨a1,r1⟩,h1,h⟩:=Z0 h;obtain⟨⟨a2,r2⟩,h2,h⟩:=Z0 h;cases h;rw[Yh h0,Yh h1,<-Z6D 5 6,Z9t (T:=T) (fun _ _ _ h=>Y1.rd_ok h) h2];rfl
theorem CoRecord.len_ok (x:CoRecord):(CoRecord.dl x).length=2:=rfl
theorem CoRecord.pl_ok (x:CoRecord):(CoRecord.dl x).all plain=true:=rfl
theorem CoRecord.seq_ok (e:CoRecord->CoRecord->Bool) (h:CoRecord.seq=some e) (x y:CoRecord):Zj (CoRecord.dl x) (CoRecord.dl y)=some (e x y):=by cases h
theorem CoRecord.rd_ok {cs r:List (TV S)} {x:CoRecord} (h:CoRecord.rd cs=some (x,r)):dvs T cs=CoRecord.dl x++dvs T r:=by
 unfold CoRecord.rd at h;obtain⟨⟨a0,r0⟩,h0,h⟩:=Z0 h;obtain⟨⟨a1,r1⟩,h1,h⟩:=Z0 h;cases h;rw[Z7y h0,Z7y h1];rfl
theorem Zt.len_ok (x:Zt):(Zt.dl x).length=4:=rfl
theorem Zt.pl_ok (x:Zt):(Zt.dl x).all plain=true:=rfl
theorem Zt.seq_ok (e:Zt->Zt->Bool) (h:Zt.seq=some e) (x y:Zt):Zj (Zt.dl x) (Zt.dl y)=some (e x y):=by
 cases h;rfl
theorem Zt.rd_ok {cs r:List (TV S)} {x:Zt} (h:Zt.rd cs=some (x,r)):dvs T cs=Zt.dl x++dvs T r:=by
 unfold Zt.rd at h;obtain⟨⟨a0,r0⟩,h0,h⟩:=Z0 h;obtain⟨⟨a1,r1⟩,h1,h⟩:=Z0 h;obtain⟨⟨a2,r2⟩,h2,h⟩:=Z0 h;cases h;rw[Yh h0,Yh h1,<-Z6D 5 6,Z9t (T:=T) (fun _ _ _ h=>Y1.rd_ok h) h2];rfl
theorem Z7.len_ok (x:Z7):(Z7.dl x).length=3:=rfl
theorem Z7.pl_ok (x:Z7):(Z7.dl x).all plain=true:=rfl
theorem Z7.seq_ok (e:Z7->Z7->Bool) (h:Z7.seq=some e) (x y:Z7):Zj (Z7.dl x) (Z7.dl y)=some (e x y):=by cases h
theorem Z7.rd_ok {cs r:List (TV S)} {x:Z7} (h:Z7.rd cs=some (x,r)):dvs T cs=Z7.dl x++dvs T r:=by
 unfold Z7.rd at h;obtain⟨⟨a0,r0⟩,h0,h⟩:=Z0 h;obtain⟨⟨a1,r1⟩,h1,h⟩:=Z0 h;cases h;rw[<-Z6D 20 6,Z9t (T:=T) (fun _ _ _ h=>CoRecord.rd_ok h) h0,Z7y h1];rfl
theorem Z6.len_ok (x:Z6):(Z6.dl x).length=2:=rfl
theorem Z6.pl_ok (x:Z6):(Z6.dl x).all plain=true:=rfl
theorem Z6.seq_ok (e:Z6->Z6->Bool) (h:Z6.seq=some e) (x y:Z6):Zj (Z6.dl x) (Z6.dl y)=some (e x y):=by
 cases h;rfl
theorem Z6.rd_ok {cs r:List (TV S)} {x:Z6} (h:Z6.rd cs=some (x,r)):dvs T cs=Z6.dl x++dvs T r:=by
 unfold Z6.rd at h;obtain⟨⟨a0,r0⟩,h0,h⟩:=Z0 h;obtain⟨⟨a1,r1⟩,h1,h⟩:=Z0 h;cases h;rw[Yh h0,Yh h1];rfl
theorem Z3.len_ok (x:Z3):(Z3.dl x).length=2:=rfl
theorem Z3.pl_ok (x:Z3):(Z3.dl x).all plain=true:=rfl
theorem Z3.seq_ok (e:Z3->Z3->Bool) (h:Z3.seq=some e) (x y:Z3):Zj (Z3.dl x) (Z3.dl y)=some (e x y):=by
 cases h;rfl
theorem Z3.rd_ok {cs r:List (TV S)} {x:Z3} (h:Z3.rd cs=some (x,r)):dvs T cs=Z3.dl x++dvs T r:=by
 unfold Z3.rd at h;obtain⟨⟨a0,r0⟩,h0,h⟩:=Z0 h;obtain⟨⟨a1,r1⟩,h1,h⟩:=Z0 h;cases h;rw[Yh h0,Yh h1];rfl
theorem Z5.len_ok (x:Z5):(Z5.dl x).length=1:=rfl
theorem Z5.pl_ok (x:Z5):(Z5.dl x).all plain=true:=rfl
theorem Z5.seq_ok (e:Z5->Z5->Bool) (h:Z5.seq=some e) (x y:Z5):Zj (Z5.dl x) (Z5.dl y)=some (e x y):=by
 cases h;rfl
theorem Z5.rd_ok {cs r:List (TV S)} {x:Z5} (h:Z5.rd cs=some (x,r)):dvs T cs=Z5.dl x++dvs T r:=by
 unfold Z5.rd at h;obtain⟨⟨a0,r0⟩,h0,h⟩:=Z0 h;cases h;rw[Z8n h0];rfl
theorem tok:TOk T where
 cells:=fun i=>match i with
  | 0=>Z4.cl_ok
  | 1=>Z2.cl_ok
  | 2=>fun _=>rfl
  | 3=>fun _=>rfl
  | 4=>fun _=>rfl
  | 5=>Y1.cl_ok
  | 6=>fun _=>rfl
  | 7=>fun _=>rfl
  | 8=>fun _=>rfl
  | 9=>fun _=>rfl
  | 10=>fun _=>rfl
  | 11=>fun _=>rfl
  | 12=>fun _=>rfl
  | 13=>fun _=>rfl
  | 14=>fun _=>rfl
  | 15=>fun _=>rfl
  | 16=>fun _=>rfl
  | 17=>fun _=>rfl
  | 18=>Zh.cl_ok
  | 19=>Zl.cl_ok
  | 20=>CoRecord.cl_ok
  | 21=>Zt.cl_ok
  | 22=>Z7.cl_ok
  | 23=>Z6.cl_ok
  | 24=>Z3.cl_ok
  | 25=>Z5.cl_ok
  | _+26=>fun _=>rfl
 len:=fun i=>match i with
  | 0=>Z4.len_ok
  | 1=>Z2.len_ok
  | 2=>fun _=>rfl
  | 3=>fun _=>rfl
  | 4=>fun _=>rfl
  | 5=>Y1.len_ok
  | 6=>fun _=>rfl
  | 7=>fun _=>rfl
  | 8=>fun _=>rfl
  | 9=>fun _=>rfl
  | 10=>fun _=>rfl
  | 11=>fun _=>rfl
  | 12=>fun _=>rfl
  | 13=>fun _=>rfl
  | 14=>fun _=>rfl
  | 15=>fun _=>rfl
  | 16=>fun _=>rfl
  | 17=>fun _=>rfl
  | 18=>Zh.len_ok
  | 19=>Zl.len_ok
  | 20=>CoRecord.len_ok
  | 21=>Zt.len_ok
  | 22=>Z7.len_ok
  | 23=>Z6.len_ok
  | 24=>Z3.len_ok
  | 25=>Z5.len_ok
  | _+26=>fun _=>rfl
 rd:=fun i=>match i with
  | 0=>fun _ _ _ h=>Z4.rd_ok h
  | 1=>fun _ _ _ h=>Z2.rd_ok h
  | 2=>fun _ _ _ h=>by cases h;rfl
  | 3=>fun _ _ _ h=>by cases h;rfl
  | 4=>fun _ _ _ h=>by cases h;rfl
  | 5=>fun _ _ _ h=>Y1.rd_ok h
  | 6=>fun _ _ _ h=>by cases h;rfl
  | 7=>fun _ _ _ h=>by cases h;rfl
  | 8=>fun _ _ _ h=>by cases h;rfl
  | 9=>fun _ _ _ h=>by cases h;rfl
  | 10=>fun _ _ _ h=>by cases h;rfl
  | 11=>fun _ _ _ h=>by cases h;rfl
  | 12=>fun _ _ _ h=>by cases h;rfl
  | 13=>fun _ _ _ h=>by cases h;rfl
  | 14=>fun _ _ _ h=>by cases h;rfl
  | 15=>fun _ _ _ h=>by cases h;rfl
  | 16=>fun _ _ _ h=>by cases h;rfl
  | 17=>fun _ _ _ h=>by cases h;rfl
  | 18=>fun _ _ _ h=>Zh.rd_ok h
  | 19=>fun _ _ _ h=>Zl.rd_ok h
  | 20=>fun _ _ _ h=>CoRecord.rd_ok h
  | 21=>fun _ _ _ h=>Zt.rd_ok h
  | 22=>fun _ _ _ h=>Z7.rd_ok h
  | 23=>fun _ _ _ h=>Z6.rd_ok h
  | 24=>fun _ _ _ h=>Z3.rd_ok h
  | 25=>fun _ _ _ h=>Z5.rd_ok h
  | _+26=>fun _ _ _ h=>by cases h;rfl
 plain:=fun i=>match i with
  | 0=>Z4.pl_ok
  | 1=>Z2.pl_ok
  | 2=>fun _=>rfl
  | 3=>fun _=>rfl
  | 4=>fun _=>rfl
  | 5=>Y1.pl_ok
  | 6=>fun _=>rfl
  | 7=>fun _=>rfl
  | 8=>fun _=>rfl
  | 9=>fun _=>rfl
  | 10=>fun _=>rfl
  | 11=>fun _=>rfl
  | 12=>fun _=>rfl
  | 13=>fun _=>rfl
  | 14=>fun _=>rfl
  | 15=>fun _=>rfl
  | 16=>fun _=>rfl
  | 17=>fun _=>rfl
  | 18=>Zh.pl_ok
  | 19=>Zl.pl_ok
  | 20=>CoRecord.pl_ok
  | 21=>Zt.pl_ok
  | 22=>Z7.pl_ok
  | 23=>Z6.pl_ok
  | 24=>Z3.pl_ok
  | 25=>Z5.pl_ok
  | _+26=>fun _=>rfl
 seq:=fun i=>match i with
  | 0=>fun e h x y=>Z4.seq_ok e h x y
  | 1=>fun e h x y=>Z2.seq_ok e h x y
  | 2=>fun _ h=>by cases h
  | 3=>fun _ h=>by cases h
  | 4=>fun _ h=>by cases h
  | 5=>fun e h x y=>Y1.seq_ok e h x y
  | 6=>fun _ h=>by cases h
  | 7=>fun _ h=>by cases h
  | 8=>fun _ h=>by cases h
  | 9=>fun _ h=>by cases h
  | 10=>fun _ h=>by cases h
  | 11=>fun _ h=>by cases h
  | 12=>fun _ h=>by cases h
  | 13=>fun _ h=>by cases h
  | 14=>fun _ h=>by cases h
  | 15=>fun _ h=>by cases h
  | 16=>fun _ h=>by cases h
  | 17=>fun _ h=>by cases h
  | 18=>fun e h x y=>Zh.seq_ok e h x y
  | 19=>fun e h x y=>Zl.seq_ok e h x y
  | 20=>fun e h x y=>CoRecord.seq_ok e h x y
  | 21=>fun e h x y=>Zt.seq_ok e h x y
  | 22=>fun e h x y=>Z7.seq_ok e h x y
  | 23=>fun e h x y=>Z6.seq_ok e h x y
  | 24=>fun e h x y=>Z3.seq_ok e h x y
  | 25=>fun e h x y=>Z5.seq_ok e h x y
  | _+26=>fun _ h=>by cases h
end Nore
namespace Go.Proofs.YtfiegoekphpjlaaGreatDoor
open Go.Ab Go.Proofs
def codeL:List (Nat×Ty):=[(2,(.int .i64)),(3,(.int .i64)),(4,.bool),(5,(.int .u8)),(6,(.int .u8)),(8,(.st 0)),(9,.str),(10,.str),(11,.str),(12,(.int .u64)),(14,(.st 1)),(21,(.int .i32)),(22,(.sl (.st 18))),(23,(.sl (.st 19))),(25,(.st 20)),(26,(.int .i64)),(43,(.sl .str)),(47,(.sl (.int .i64))),(50,(.st 18)),(52,(.st 5)),(54,(.st 19)),(65,(.sl (.st 5))),(68,(.sl (.st 21))),(70,(.st 21)),(91,(.sl (.int .u8))),(105,(.st 22)),(108,(.arr 10 (.st 5))),(109,(.arr 10 (.st 5))),(133,(.sl (.st 23))),(140,(.st 23)),(153,(.int .i64)),(159,(.arr 24 (.int .u8))),(160,(.int .u64)),(173,(.int .u64)),(183,(.arr 20 (.int .u64))),(184,(.int .u32)),(185,(.arr 65 (.int .u8))),(188,(.int .i64)),(197,(.arr 256 (.int .u8))),(199,(.st 24)),(200,(.arr 16 (.st 24))),(206,(.st 25)),(207,(.int .u64)),(213,(.arr 32 (.int .u8))),(214,(.arr 64 (.int .u8))),(224,(.int .u8)),(225,(.int .u8)),(227,(.int .i32)),(228,(.int .i32))]
def zeroL:List (Nat×List (TV Nore.S)):=[(1,[.nilfn]),(2,[.int .i64 (0)]),(3,[.int .i64 (0)]),(4,[.bool false]),(5,[.int .u8 (0)]),(6,[.int .u8 (0)]),(7,[.int .i64 (0),.int .i64 (0),.bool false,.int .u8 (0)]),(8,[.int .i64 (0),.int .i64 (0),.bool false,.int .u8 (0)]),(9,[.str ByteArray.empty]),(10,[.str ByteArray.empty]),(11,[.str ByteArray.empty]),(12,[.int .u64 (0)]),(13,[.str ByteArray.empty,.int .u64 (0)]),(14,[.str ByteArray.empty,.int .u64 (0)]),(15,[.nilp]),(16,[.nilp]),(17,[.nilp]),(18,[.nilp]),(19,[.nilp]),(20,[.nilif]),(21,[.int .i32 (0)]),(22,[.nils]),(23,[.nils]),(24,[.nils,.nils]),(25,[.nils,.nils]),(26,[.int .i64 (0)]),(28,[.nilfn]),(30,[.nilfn]),(31,[.nilfn]),(33,[.nilfn]),(34,[.nilfn]),(35,[.nilfn]),(36,[.nilfn]),(38,[.nilfn]),(39,[.nilfn]),(40,[.nilfn]),(41,[.nilfn]),(42,[.nilfn]),(43,[.nils]),(44,[.nilfn]),(45,[.nilfn]),(46,[.nilfn]),(47,[.nils]),(48,[.nilfn]),(49,[.str ByteArray.empty,.int .i64 (0),.int .i64 (0)]),(50,[.str ByteArray.empty,.int .i64 (0),.int .i64 (0)]),(51,[.int .i64 (0),.int .i64 (0)]),(52,[.int .i64 (0),.int .i64 (0)]),(53,[.int .i64 (0),.int .i64 (0),.int .i64 (0),.int .i64 (0)]),(54,[.int .i64 (0),.int .i64 (0),.int .i64 (0),.int .i64 (0)]),(55,[.nilfn]),(56,[.nilfn]),(58,[.nilfn]),(59,[.nilfn]),(60,[.nilfn]),(61,[.nilfn]),(63,[.nilfn]),(64,[.nilfn]),(65,[.nils]),(67,[.nilfn]),(68,[.nils]),(69,[.nilfn]),(70,[.int .i64 (0),.int .i64 (0),.int .i64 (0),.int .i64 (0)]),(71,[.nilfn]),(73,[.nilfn]),(74,[.nilfn]),(75,[.nilfn]),(76,[.nilfn]),(77,[.nilfn]),(78,[.nilfn]),(79,[.nilfn]),(80,[.nilfn]),(81,[.nilfn]),(82,[.nilfn]),(83,[.nilfn]),(84,[.nilfn]),(85,[.nilfn]),(86,[.nilfn]),(87,[.nilfn]),(88,[.nilfn]),(89,[.nilfn]),(90,[.nilp]),(91,[.nils]),(92,[.nilp,.nils]),(93,[.nilp,.nils]),(94,[.nilif]),(95,[.nilif]),(97,[.nilfn]),(98,[.nilfn]),(99,[.nilfn]),(100,[.nilfn]),(101,[.nilfn]),(102,[.nilfn]),(103,[.nilfn]),(104,[.nils,.nils,.nils]),(105,[.nils,.nils,.nils]),(107,[.nilfn]),(108,[.arr (.st 5) 10 (fun _=>⟨(0:Int),(0:Int)⟩)]),(109,[.arr (.st 5) 10 (fun _=>⟨(0:Int),(0:Int)⟩)]),(110,[.nilfn]),(111,[.nilfn]),(112,[.nilfn]),(113,[.nilfn]),(114,[.nilfn]),(115,[.nilfn]),(116,[.nilfn]),(117,[.nilfn]),(118,[.nilfn]),(119,[.nilfn]),(120,[.nilfn]),(121,[.nilfn]),(122,[.nilp]),(123,[.nilfn]),(124,[.nilfn]),(125,[.nilfn]),(126,[.nilfn]),(127,[.nilfn]),(128,[.nilfn]),(129,[.nilfn]),(130,[.nilfn]),(131,[.nilfn]),(132,[.nilfn]),(133,[.nils]),(135,[.nilfn]),(136,[.nilfn]),(137,[.nilfn]),(138,[.nilfn]),(139,[.int .i64 (0),.int .i64 (0)]),(140,[.int .i64 (0),.int .i64 (0)]),(141,[.nilfn]),(142,[.nilmap]),(143,[.nilfn]),(144,[.nilfn]),(145,[.nilfn]),(146,[.nilfn]),(147,[.nilfn]),(148,[.nilp]),(149,[.nilfn]),(150,[.nilfn]),(152,[.nilfn]),(153,[.int .i64 (0)]),(155,[.nilfn]),(156,[.nilp]),(157,[.nilfn]),(158,[.nilfn]),(159,[.arr (.int .u8) 24 (fun _=>(0:Int))]),(160,[.int .u64 (0)]),(161,[.nilfn]),(162,[.nilfn]),(164,[.nilfn]),(165,[.nilfn]),(166,[.nilfn]),(167,[.nilfn]),(168,[.nilfn]),(169,[.nilfn]),(170,[.nilfn]),(171,[.nilfn]),(172,[.nilfn]),(173,[.int .u64 (0)]),(174,[.nilfn]),(175,[.nilfn]),(177,[.nilfn]),(178,[.nilfn]),(179,[.str ByteArray.empty,.str ByteArray.empty,.nilif]),(180,[.str ByteArray.empty,.str ByteArray.empty,.nilif]),(181,[.nilfn]),(182,[.nilfn]),(183,[.arr (.int .u64) 20 (fun _=>(0:Int))]),(184,[.int .u32 (0)]),(185,[.arr (.int .u8) 65 (fun _=>(0:Int))]),(186,[.nilfn]),(187,[.nilfn]),(188,[.int .i64 (0)]),(190,[.nilfn]),(191,[.nilfn]),(192,[.nilfn]),(193,[.nilfn]),(195,[.nilfn]),(196,[.nilfn]),(197,[.arr (.int .u8) 256 (fun _=>(0:Int))]),(198,[.int .u8 (0),.int .u8 (0)]),(199,[.int .u8 (0),.int .u8 (0)]),(200,[.arr (.st 24) 16 (fun _=>⟨(0:Int),(0:Int)⟩)]),(202,[.nilfn]),(203,[.nilfn]),(204,[.nilp]),(205,[.str ByteArray.empty]),(206,[.str ByteArray.empty]),(207,[.int .u64 (0)]),(208,[.nilfn]),(209,[.nilfn]),(210,[.nilfn]),(211,[.nilp]),(212,[.nilfn]),(213,[.arr (.int .u8) 32 (fun _=>(0:Int))]),(214,[.arr (.int .u8) 64 (fun _=>(0:Int))]),(215,[.nilp]),(217,[.nilfn]),(218,[.nilp,.nilp,.nilp,.str ByteArray.empty]),(219,[.nilp,.nilp,.nilp,.str ByteArray.empty]),(220,[]),(221,[]),(222,[]),(223,[.nilfn]),(224,[.int .u8 (0)]),(225,[.int .u8 (0)]),(226,[.nilfn]),(227,[.int .i32 (0)]),(228,[.int .i32 (0)]),(229,[.int .u64 (0),.int .u64 (0),.int .u32 (0),.int .u8 (0),.int .u8 (0),.int .u8 (0),.int .u8 (0),.nilfn,.nilp,.int .i32 (0),.int .i32 (0)]),(230,[.int .u64 (0),.int .u64 (0),.int .u32 (0),.int .u8 (0),.int .u8 (0),.int .u8 (0),.int .u8 (0),.nilfn,.nilp,.int .i32 (0),.int .i32 (0)])]
def codeT:Tr Ty:=Tr.ofList codeL
def zeroT:Tr (List (TV Nore.S)):=Tr.ofList zeroL
noncomputable def X:Y5 Nore.S:=⟨E,Nore.T,codeT.get,zeroT.get,fun g=>bif Nat.beq g 65 then some (Zgs 156)else none⟩
theorem lfLaw (g:Nat) (l:List (TV Nore.S)->Option (Bool×Bool×TV Nore.S×TV Nore.S)) (xs:List (TV Nore.S)) (c:Bool) (d1 d2:TV Nore.S) (h1:X.lf g=some l) (h2:l xs=some (true,c,d1,d2)) :
  ∃L,X.E.leaf g=some L/\Za (dvl X.T xs)=true/\L (dvl X.T xs)=some (dv X.T (bif c then d1 else d2))/\Zb (dv X.T (bif c then d1 else d2))=true:=by
 have h1':(bif Nat.beq g 65 then some (Zgs 156)else none)=some l:=h1;obtain⟨hb,h⟩:=Z1 h1';cases h;obtain rfl:=Nat.eq_of_beq_eq_true hb;exact Zin (t:=156) rfl h2
theorem codeAll:Zf8 (fun t c=>Zgu Nore.T (tyT.get t) c) codeT=true:=by kernel_rfl
theorem zeroAll:Zf8 (fun t z=>ZjE Nore.T (tyT.get t) z) zeroT=true:=by kernel_rfl
theorem zeroLaw (t:Nat) (z:List (TV Nore.S)) (ti:TI) (h1:zeroT.get t=some z) (h2:tyT.get t=some ti):dvs Nore.T z=ti.zero:=ZjF (Z74 (p:=fun t z=>ZjE Nore.T (tyT.get t) z) zeroAll h1) h2
theorem codeLaw (t:Nat) (c:Ty) (ti:TI) (h1:codeT.get t=some c) (h2:tyT.get t=some ti):ti.size=tsz Nore.T c/\ti.isAgg=YZ c:=Ziw (Z74 (p:=fun t c=>Zgu Nore.T (tyT.get t) c) codeAll h1) h2
set_option maxRecDepth 100000 in
theorem xok:XOk X:=XOk.mk Nore.tok zeroLaw codeLaw lfLaw
end Go.Proofs.YtfiegoekphpjlaaGreatDoor
open Go Go.Ab
namespace Nore
def Z4.Ok (lim:Ty->Nat) (x:Z4):Prop:=((Lit.int .i64 x.x).wf=true)/\((Lit.int .i64 x.y).wf=true)/\True/\((Lit.int .u8 x.code).wf=true)/\True
def Z2.Ok (lim:Ty->Nat) (x:Z2):Prop:=(x.msg.size<=maxLen)/\((Lit.int .u64 x.addr).wf=true)/\True
def Zh.Ok (lim:Ty->Nat) (x:Zh):Prop:=(x.Name.size<=maxLen)/\((Lit.int .i64 x.States).wf=true)/\((Lit.int .i64 x.First).wf=true)/\True
def Y1.Ok (lim:Ty->Nat) (x:Y1):Prop:=((Lit.int .i64 x.Lo).wf=true)/\((Lit.int .i64 x.Hi).wf=true)/\True
def Zl.Ok (lim:Ty->Nat) (x:Zl):Prop:=((Lit.int .i64 x.Device).wf=true)/\((Lit.int .i64 x.State).wf=true)/\(Y1.Ok lim x.At)/\True
def CoRecord.Ok (lim:Ty->Nat) (x:CoRecord):Prop:=(x.Devices.length<=lim (.st 18)/\∀y0,List.Mem y0 x.Devices->(Zh.Ok lim y0))/\(x.Entries.length<=lim (.st 19)/\∀y0,List.Mem y0 x.Entries->(Zl.Ok lim y0))/\True
def Zt.Ok (lim:Ty->Nat) (x:Zt):Prop:=((Lit.int .i64 x.Device).wf=true)/\((Lit.int .i64 x.State).wf=true)/\(Y1.Ok lim x.At)/\True
def Z7.Ok (lim:Ty->Nat) (x:Z7):Prop:=(CoRecord.Ok lim x.CoRecord)/\(x.seen.length<=lim (.st 21)/\∀y0,List.Mem y0 x.seen->(Zt.Ok lim y0))/\True
def Z6.Ok (lim:Ty->Nat) (x:Z6):Prop:=((Lit.int .i64 x.from_).wf=true)/\((Lit.int .i64 x.to_).wf=true)/\True
def Z3.Ok (lim:Ty->Nat) (x:Z3):Prop:=((Lit.int .u8 x.lo).wf=true)/\((Lit.int .u8 x.hi).wf=true)/\True
def Z5.Ok (lim:Ty->Nat) (x:Z5):Prop:=(x.s.size<=maxLen)/\True
def sOk (lim:Ty->Nat) (i:Nat):S i->Prop:=match i with
 | 0=>Z4.Ok lim
 | 1=>Z2.Ok lim
 | 5=>Y1.Ok lim
 | 18=>Zh.Ok lim
 | 19=>Zl.Ok lim
 | 20=>CoRecord.Ok lim
 | 21=>Zt.Ok lim
 | 22=>Z7.Ok lim
 | 23=>Z6.Ok lim
 | 24=>Z3.Ok lim
 | 25=>Z5.Ok lim
 | 2=>fun _=>True
 | 3=>fun _=>True
 | 4=>fun _=>True
 | 6=>fun _=>True
 | 7=>fun _=>True
 | 8=>fun _=>True
 | 9=>fun _=>True
 | 10=>fun _=>True
 | 11=>fun _=>True
 | 12=>fun _=>True
 | 13=>fun _=>True
 | 14=>fun _=>True
 | 15=>fun _=>True
 | 16=>fun _=>True
 | 17=>fun _=>True
 | _+26=>fun _=>True
def flds (i:Nat):List Ty:=match i with
 | 0=>[(.int .i64),(.int .i64),.bool,(.int .u8)]
 | 1=>[.str,(.int .u64)]
 | 5=>[(.int .i64),(.int .i64)]
 | 18=>[.str,(.int .i64),(.int .i64)]
 | 19=>[(.int .i64),(.int .i64),(.st 5)]
 | 20=>[(.sl (.st 18)),(.sl (.st 19))]
 | 21=>[(.int .i64),(.int .i64),(.st 5)]
 | 22=>[(.st 20),(.sl (.st 21))]
 | 23=>[(.int .i64),(.int .i64)]
 | 24=>[(.int .u8),(.int .u8)]
 | 25=>[.str]
 | 2=>[]
 | 3=>[]
 | 4=>[]
 | 6=>[]
 | 7=>[]
 | 8=>[]
 | 9=>[]
 | 10=>[]
 | 11=>[]
 | 12=>[]
 | 13=>[]
 | 14=>[]
 | 15=>[]
 | 16=>[]
 | 17=>[]
 | _+26=>[]
def smk (i:Nat):Z6a S (flds i)->S i:=match i with
 | 0=>fun xs=>(⟨xs.1,xs.2.1,xs.2.2.1,xs.2.2.2.1⟩:Z4)
 | 1=>fun xs=>(⟨xs.1,xs.2.1⟩:Z2)
 | 5=>fun xs=>(⟨xs.1,xs.2.1⟩:Y1)
 | 18=>fun xs=>(⟨xs.1,xs.2.1,xs.2.2.1⟩:Zh)
 | 19=>fun xs=>(⟨xs.1,xs.2.1,xs.2.2.1⟩:Zl)
 | 20=>fun xs=>(⟨xs.1,xs.2.1⟩:CoRecord)
 | 21=>fun xs=>(⟨xs.1,xs.2.1,xs.2.2.1⟩:Zt)
 | 22=>fun xs=>(⟨xs.1,xs.2.1⟩:Z7)
 | 23=>fun xs=>(⟨xs.1,xs.2.1⟩:Z6)
 | 24=>fun xs=>(⟨xs.1,xs.2.1⟩:Z3)
 | 25=>fun xs=>(⟨xs.1⟩:Z5)
 | 2=>fun _=>T.dflt _
 | 3=>fun _=>T.dflt _
 | 4=>fun _=>T.dflt _
 | 6=>fun _=>T.dflt _
 | 7=>fun _=>T.dflt _
 | 8=>fun _=>T.dflt _
 | 9=>fun _=>T.dflt _
 | 10=>fun _=>T.dflt _
 | 11=>fun _=>T.dflt _
 | 12=>fun _=>T.dflt _
 | 13=>fun _=>T.dflt _
 | 14=>fun _=>T.dflt _
 | 15=>fun _=>T.dflt _
 | 16=>fun _=>T.dflt _
 | 17=>fun _=>T.dflt _
 | _+26=>fun _=>T.dflt _
theorem Zll (i:Nat):∀xs,T.dcells i (smk i xs)=Z2C T (flds i) xs:=match i with
 | 0=>fun xs=>by
  show Z4.dl _=_;unfold Z4.dl
  first|(simp only[flds,Z2C,smk,dcl,List.append_assoc,List.append_nil];done)|(simp only[flds,Z2C,smk,dcl,List.append_assoc,List.append_nil];rfl)
 | 1=>fun xs=>by
  show Z2.dl _=_;unfold Z2.dl
  first|(simp only[flds,Z2C,smk,dcl,List.append_assoc,List.append_nil];done)|(simp only[flds,Z2C,smk,dcl,List.append_assoc,List.append_nil];rfl)
 | 5=>fun xs=>by
  show Y1.dl _=_;unfold Y1.dl
  first|(simp only[flds,Z2C,smk,dcl,List.append_assoc,List.append_nil];done)|(simp only[flds,Z2C,smk,dcl,List.append_assoc,List.append_nil];rfl)
 | 18=>fun xs=>by
  show Zh.dl _=_;unfold Zh.dl
  first|(simp only[flds,Z2C,smk,dcl,List.append_assoc,List.append_nil];done)|(simp only[flds,Z2C,smk,dcl,List.append_assoc,List.append_nil];rfl)
 | 19=>fun xs=>by
  show Zl.dl _=_;unfold Zl.dl
  first|(simp only[flds,Z2C,smk,dcl,List.append_assoc,List.append_nil];done)|(simp only[flds,Z2C,smk,dcl,List.append_assoc,List.append_nil];rfl)
 | 20=>fun xs=>by
  show CoRecord.dl _=_;unfold CoRecord.dl
  first|(simp only[flds,Z2C,smk,dcl,List.append_assoc,List.append_nil];done)|(simp only[flds,Z2C,smk,dcl,List.append_assoc,List.append_nil];rfl)
 | 21=>fun xs=>by
  show Zt.dl _=_;unfold Zt.dl
  first|(simp only[flds,Z2C,smk,dcl,List.append_assoc,List.append_nil];done)|(simp only[flds,Z2C,smk,dcl,List.append_assoc,List.append_nil];rfl)
 | 22=>fun xs=>by
  show Z7.dl _=_;unfold Z7.dl
  first|(simp only[flds,Z2C,smk,dcl,List.append_assoc,List.append_nil];done)|(simp only[flds,Z2C,smk,dcl,List.append_assoc,List.append_nil];rfl)
 | 23=>fun xs=>by
  show Z6.dl _=_;unfold Z6.dl
  first|(simp only[flds,Z2C,smk,dcl,List.append_assoc,List.append_nil];done)|(simp only[flds,Z2C,smk,dcl,List.append_assoc,List.append_nil];rfl)
 | 24=>fun xs=>by
  show Z3.dl _=_;unfold Z3.dl
  first|(simp only[flds,Z2C,smk,dcl,List.append_assoc,List.append_nil];done)|(simp only[flds,Z2C,smk,dcl,List.append_assoc,List.append_nil];rfl)
 | 25=>fun xs=>by
  show Z5.dl _=_;unfold Z5.dl
  first|(simp only[flds,Z2C,smk,dcl,List.append_assoc,List.append_nil];done)|(simp only[flds,Z2C,smk,dcl,List.append_assoc,List.append_nil];rfl)
 | 2=>fun _=>rfl
 | 3=>fun _=>rfl
 | 4=>fun _=>rfl
 | 6=>fun _=>rfl
 | 7=>fun _=>rfl
 | 8=>fun _=>rfl
 | 9=>fun _=>rfl
 | 10=>fun _=>rfl
 | 11=>fun _=>rfl
 | 12=>fun _=>rfl
 | 13=>fun _=>rfl
 | 14=>fun _=>rfl
 | 15=>fun _=>rfl
 | 16=>fun _=>rfl
 | 17=>fun _=>rfl
 | _+26=>fun _=>rfl
theorem Zlm (lim:Ty->Nat) (i:Nat):∀xs,aok lim (sOk lim) (flds i) xs->sOk lim i (smk i xs):=match i with
 | 0=>fun _ h=>h
 | 1=>fun _ h=>h
 | 5=>fun _ h=>h
 | 18=>fun _ h=>h
 | 19=>fun _ h=>h
 | 20=>fun _ h=>h
 | 21=>fun _ h=>h
 | 22=>fun _ h=>h
 | 23=>fun _ h=>h
 | 24=>fun _ h=>h
 | 25=>fun _ h=>h
 | 2=>fun _ _=>trivial
 | 3=>fun _ _=>trivial
 | 4=>fun _ _=>trivial
 | 6=>fun _ _=>trivial
 | 7=>fun _ _=>trivial
 | 8=>fun _ _=>trivial
 | 9=>fun _ _=>trivial
 | 10=>fun _ _=>trivial
 | 11=>fun _ _=>trivial
 | 12=>fun _ _=>trivial
 | 13=>fun _ _=>trivial
 | 14=>fun _ _=>trivial
 | 15=>fun _ _=>trivial
 | 16=>fun _ _=>trivial
 | 17=>fun _ _=>trivial
 | _+26=>fun _ _=>trivial
def F:SF T:=⟨flds,smk,sOk,Zll,Zlm⟩
end Nore
namespace Go.Proofs.YtfiegoekphpjlaaGreatDoor
open Go.Ab Go.Proofs
def tb:Ty->Nat
 | _=>1
def limW (c:Ty):Nat:=reachBytes / tb c
theorem tbAll:Zf8 (fun e c=>Nat.beq (Tryz.prog.bytesOf e) 0||Nat.ble (tb c) (Tryz.prog.bytesOf e)) codeT=true:=by kernel_rfl
theorem readAll:Zf8 (fun t c=>Zau codeT.get tyT.get (tsz Nore.T) Nore.flds (tyT.get t) c) codeT=true:=by kernel_rfl
theorem readLaw (t:Nat) (c:Ty) (h:X.code t=some c):Zau X.code X.E.ty (tsz X.T) Nore.F.flds (X.E.ty t) c=true:=Z74 (p:=fun t c=>Zau codeT.get tyT.get (tsz Nore.T) Nore.flds (tyT.get t) c) readAll h
end Go.Proofs.YtfiegoekphpjlaaGreatDoor
