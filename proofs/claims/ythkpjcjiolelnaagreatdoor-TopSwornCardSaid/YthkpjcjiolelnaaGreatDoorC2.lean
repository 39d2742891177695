/- The code comes to the plain functions. -/
import Derived.Test.YthkpjcjiolelnaaGreatDoorC1
import Derived.Test.YthkpjcjiolelnaaGreatDoorK2
import Derived.Test.YthkpjcjiolelnaaGreatDoorP2
set_option linter.unusedSectionVars false
set_option linter.unusedVariables false
set_option linter.unusedSimpArgs false
set_option maxRecDepth 100000
open Go Go.Ab Go.Proofs Go.Proofs.YthkpjcjiolelnaaGreatDoor
open Go.Ab.Tr renaming node->N,leaf->L
namespace Nore
noncomputable def AhM:Fx1 S:=⟨[],[.bool],fun _=>vB⟩
theorem AA6:B6 X 6 AhM:=Acx (X:=X) (F:=vB) rfl AiD
noncomputable def AhN:Fx1 S:=⟨[],[.bool],fun _=>vC⟩
theorem AA7:B6 X 7 AhN:=Acx (X:=X) (F:=vC) rfl Amn
noncomputable def rA:List (Nat×Fx1 S):=[(4,pG),(5,pI),(6,AhM),(7,AhN),(9,pJ),(15,pL),(50,V1),(10,pX),(11,Zz),(12,qC),(14,qD),(13,qV),(17,aA),(16,aB),(19,qW),(18,qX),(20,q0)]
theorem AhO:Cf X (rA):=⟨AeB,AeO,AA6,AA7,AeN,AeZ,Zy,Afl,pM,eX,Ag2,Ahb,pN,pW,Ahc,Ahd,eW,trivial⟩
def AA8:Key:=⟨[3],3,none,[0,0,1,0,1,1,1,1,1,1,1,1,1,1,1,1,1,1],0,139⟩
def AA9:Ay S:=⟨(N (N (N (N (N L (some (.ptr 61 0)) L) none L) (some (.ptr 0 0)) L) none (N (N (N L Be L) none L) (some (.ptr 2 0)) (N (N L Be L) none L))) none (N (N (N (N L Be L) none L) (some (.ptr 1 0)) (N L (some (.rs 139 0)) L)) none (N (N (N L Be L) none L) none (N L v10 L)))),o7,140⟩
def AAn:Way S:=⟨.ret,⟨(N L none (N L none (N L Gb L))),o7,173⟩,[.bool,(.AT (.st 28)),(.st 22),(.st 2),(.st 20),(.st 27)]⟩
def AAo:Way S:=⟨(.exit 0),⟨(N (N (N (N (N L (some (.ptr 61 0)) L) none L) none L) none (N (N (N L Be L) none L) (some (.ptr 2 0)) L)) none (N (N L (some (.ptr 1 0)) L) none (N L none (N L v10 L)))),o7,156⟩,[.int,(.AT (.st 29)),(.AT (.st 28)),(.st 22),(.st 2),(.st 20),(.st 27)]⟩
def rC:LE S:=⟨AA8,AA9,[.int,.int,.int,.int,(.AT (.st 29)),(.AT (.st 28)),(.st 22),(.st 2),(.st 20),(.st 27)],[AAn,AAo]⟩
def rE {T:Type} (x:S5) (k:((Bool×(List Aa)×BC×A6×AQ×C5)⊕(Int×(List Ak)×(List Aa)×BC×A6×AQ×C5))->T):(Bool⊕Unit)->T:=Sum.elim (fun d=>k (.inl (d,x.BM,x.Bg,x.BT,x.u8,x.v9))) (fun e=>k (.inr (x.1,x.BA,x.BM,x.Bg,x.BT,x.u8,x.v9)))
def AhV (x:S5) (v:Int):S5:=(x.1,v,x.AV,x.A4,x.BA,x.BM,x.Bg,x.BT,x.u8,x.v9)
theorem AAp (x:S5):LE.step X rC rA NN Dh 12 x=St x.AV x.A4 x.BM x.u8 x.2.1 (fun w=>Sum.inl (AhV x w)) (fun o=>Sum.inr (rE x id o)):=by kernel_rfl
noncomputable def AhW {R:Type}:Bo S R:=LE.ls X rC (fun x k=>(H5 x.AV x.A4 x.BM x.u8 x.2.1).bind (rE x k)) Dh
theorem AAq {R:Type}:CB X (AhW (R:=R)):=Mq Gc AhO (e:=rC) Ir BO (st:=fun(x:S5)=>QE x.AV x.A4 x.BM x.u8) (prj:=fun(x:S5)=>x.2.1) (emb:=AhV) rE (fun x=>(AAp x).trans (by unfold QE St;simp only[Cq,Cp,Cr,Option.map_some,Option.map_none];rfl)) BO
theorem AAr (d:AQ) (i:BC) (e:C5):VM X rA [(.st 20),(.st 22),(.st 27)] [.bool] NN AhW 12 3 (d,i,e,())=W9 d i e:=by kernel_rfl
noncomputable def AAs:Fx1 S:=⟨[(.st 20),(.st 22),(.st 27)],[.bool],fun xs=>TM xs.1 xs.2.1 xs.AV⟩
theorem Aio:B6 X 3 AAs:=Z5 (Z4 Gc AhO Ir AAq 12 3) fun xs _ h=>((AAr xs.1 xs.2.1 xs.AV).trans (tQ xs.1 xs.2.1 xs.AV).symm).trans h
end Nore
