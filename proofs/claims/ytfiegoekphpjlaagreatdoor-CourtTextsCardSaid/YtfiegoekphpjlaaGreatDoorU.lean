/- Library functions that are told, as plain functions. -/
import Derived.Test.YtfiegoekphpjlaaGreatDoorT2
import Derived.Test.YtfiegoekphpjlaaGreatDoorL
set_option linter.unusedSectionVars false
set_option linter.unusedVariables false
set_option linter.unusedSimpArgs false
namespace Go.Ab
section
variable {S:Nat->Type} {X:Y2 S} {g:Nat}
theorem Z8E {L:List DV->Option DV} {fs:F7 S} (hL:X.E.leaf g=some L)
  (h:∀xs r,fs.F xs=some r->Za (Z2W X.T fs.pts xs)=true/\∃d,L (Z2W X.T fs.pts xs)=some d/\Zb d=true/\frz (Tr.leaf:Tr Z9).get d=some (Z3d (Z3y X.T fs.rts r))):Z6c X g fs:=fun xs r hr=>by
 obtain⟨h1,d,h2,h3,h4⟩:=h xs r hr;refine⟨1,fun n hn=>?_⟩;cases n with
 | zero=>omega
 | succ n =>
  unfold evF;simp only[evX,Z38,hL,h1,cond_true,h2,Option.bind_some,h3];exact h4
theorem ZlS {pts rts:List Ty} {F F':Z5e S pts->Option (Z5g S rts)} (h:Z6c X g ⟨pts,rts,F⟩) (q:∀xs,F' xs=F xs):Z6c X g ⟨pts,rts,F'⟩:=fun xs r hr=>h xs r ((q xs).symm.trans hr)
def ZaS (n:Int):Option ByteArray:=bif Zk7 n then some ⟨(Ze0 n).toArray⟩else none
theorem ZkV (hL:X.E.leaf g=some Zai):Z6c X g ⟨[.int .i64],[.str],fun xs=>ZaS xs.1⟩:=Z8E hL fun xs r hr=>by
 replace hr:ZaS xs.1=some r:=hr;unfold ZaS at hr;obtain⟨hb,hr⟩:=Z1 hr;cases hr;refine⟨rfl,.str ⟨(Ze0 xs.1).toArray⟩,?_,rfl,rfl⟩;show(bif Zk7 xs.1 then some (DV.str ⟨(Ze0 xs.1).toArray⟩)else none)=_;rw[hb];rfl
def Zc3 (s:ByteArray) (c:Int):Option Int:=some (Lib.indexByte s.data.toList c.toNat.toUInt8)
theorem ZkH (hL:X.E.leaf g=some Z2I):Z6c X g ⟨[.str,.int .u8],[.int .i64],fun xs=>Zc3 xs.1 xs.2.1⟩:=Z8E hL fun xs r hr=>by
 replace hr:Zc3 xs.1 xs.2.1=some r:=hr;cases hr;exact⟨rfl,_,rfl,rfl,rfl⟩
def Z8D (s p:ByteArray):Option (List ByteArray):=bif Nat.blt s.size 4294967281&&Nat.ble 1 p.size then
  (bif Nat.beq (Lib.splitK p.data.toList 0 (Lib.count s.data.toList p.data.toList) s.data.toList).length (Lib.count s.data.toList p.data.toList+1)then some ((Lib.splitK p.data.toList 0 (Lib.count s.data.toList p.data.toList) s.data.toList).map fun x=>⟨x.toArray⟩)else none)else none
theorem ZbZ (T:TS S):∀l:List (List UInt8),Z6x l=(l.map fun x=>(⟨x.toArray⟩:ByteArray)).map (dcl T .str)
 | []=>rfl
 | x::l=>by
  show _::Z6x l=_;rw[ZbZ T l];rfl
theorem ZkI (hL:X.E.leaf g=some Z4P):Z6c X g ⟨[.str,.str],[.sl .str],fun xs=>Z8D xs.1 xs.2.1⟩:=Z8E hL fun xs r hr=>by
 replace hr:Z8D xs.1 xs.2.1=some r:=hr;unfold Z8D at hr;obtain⟨h1,hr⟩:=Z1 hr;obtain⟨h2,hr⟩:=Z1 hr;cases hr;refine⟨rfl,.sl (Z6x (Lib.splitK (ByteArray.data xs.2.1).toList 0 (Lib.count (ByteArray.data xs.1).toList (ByteArray.data xs.2.1).toList) (ByteArray.data xs.1).toList)),?_,rfl,?_⟩
 ·show Z4P [.str xs.1,.str xs.2.1]=_;unfold Z4P;simp only;rw[h1];simp only[cond_true];rw[h2];rfl
 ·show some (DV.sl _)=some (DV.sl _);rw[ZbZ X.T]
def Zdk (s:ByteArray):Bool:=match Lib.atoiAll s.data.toList with
 | .ok _=>true
 | _=>false
def Zdl (s:ByteArray):Int:=match Lib.atoiAll s.data.toList with
 | .ok v=>v
 | .range=>Lib.atoiSat s.data.toList
 | _=>0
theorem Zbg:∃f:ByteArray->Bool,∀s,f s=Zdk s:=⟨Zdk,fun _=>rfl⟩
theorem Zdn:∃f:ByteArray->Int,∀s,f s=Zdl s:=⟨Zdl,fun _=>rfl⟩
noncomputable def Zio:ByteArray->Bool:=Zbg.choose
noncomputable def Ziq:ByteArray->Int:=Zdn.choose
theorem Zbf (s:ByteArray):Zio s=Zdk s:=Zbg.choose_spec s
theorem Zdm (s:ByteArray):Ziq s=Zdl s:=Zdn.choose_spec s
noncomputable def Zgv (t:TypeId):List (TV S)->Option (Bool×Bool×TV S×TV S)
 | [.str s]=>some (Nat.ble s.size 281474976710656,Zio s,.tup [.int .i64 (Ziq s),.nilif],.tup [.int .i64 (Ziq s),.iface t (.pub [])])
 | _=>none
theorem Zip {t:TypeId} (hL:X.E.leaf g=some (Z62 t)) {xs:List (TV S)} {c:Bool} {d1 d2:TV S} (h:Zgv t xs=some (true,c,d1,d2)) :
  ∃L,X.E.leaf g=some L/\Za (dvl X.T xs)=true/\L (dvl X.T xs)=some (dv X.T (bif c then d1 else d2))/\Zb (dv X.T (bif c then d1 else d2))=true:=by
 unfold Zgv at h;split at h
 ·rename_i s;simp only[Option.some.injEq,Prod.mk.injEq]at h;obtain⟨hb,rfl,rfl,rfl⟩:=h;refine⟨_,hL,rfl,?_,?_⟩
  ·simp only[dvl,dv,Z62,hb,cond_true,Zbf,Zdm,Zdk,Zdl];cases Lib.atoiAll s.data.toList<;>rfl
  ·simp only[Zbf,Zdm,Zdk,Zdl];cases Lib.atoiAll s.data.toList<;>rfl
 ·cases h
end
end Go.Ab
