/- The plain functions of the program and of the document answer alike. -/
import Derived.Test.YthkpjcjiolelnaaGreatDoorP1
import Derived.Test.YthkpjcjiolelnaaGreatDoorC1
import Derived.Test.YthkpjcjiolelnaaGreatDoorT2
import Derived.KernelRfl
set_option linter.unusedSectionVars false
set_option linter.unusedVariables false
set_option linter.unusedSimpArgs false
set_option maxRecDepth 100000
open Go Go.Ab
namespace Nore
def HA:BC:=⟨[⟨⟨#[115,112,101,114,109]⟩,⟨400,420⟩,60⟩,⟨⟨#[114,97,112,101]⟩,⟨100,100⟩,40⟩],⟨20,30⟩,⟨50,120⟩⟩
def FW:Ah:=⟨⟨0,0⟩,0,8,1⟩
def MR:Ak:=⟨⟨0,10000⟩,false,true⟩
def Hg:Ak:=⟨⟨13000,0⟩,false,false⟩
def NT:Ak:=⟨⟨0,10000⟩,false,false⟩
theorem Ti:Iv HA FW:=by
 refine⟨⟨by decide,by unfold EM;decide,by unfold EM;decide,fun i AA=>?_⟩,by decide,by unfold DW;decide,by decide,by decide⟩
 have:i=0\/i=1:=by simp[HA]at AA;omega
 rcases this with rfl|rfl
 ·show Qu (Gj HA 0) ⟨⟨#[115,112,101,114,109]⟩,⟨400,420⟩,60⟩;exact⟨by decide +kernel,by simp[Gj],by decide,by unfold EM;decide,by decide⟩
 ·show Qu (Gj HA 1) ⟨⟨#[114,97,112,101]⟩,⟨100,100⟩,40⟩;exact⟨by decide +kernel,by decide +kernel,by decide,by unfold EM;decide,by decide⟩
theorem Ta:DW MR.At/\DW Hg.At/\DW NT.At:=by unfold DW;decide
theorem hI (c k:Int) (hc:0<=c) (a:0<=k):Ix FW ⟨0,10000⟩ c k=Ij c k:=fT (far:=100000000) (by omega) hc a
theorem Akg (c k:Int) (hc:0<=c) (a:0<=k):Ix FW ⟨0,12000⟩ c k=Aed c k:=fT (far:=144000000) (by omega) hc a
theorem xG (c k:Int) (hc:0<=c) (a:0<=k):Ix FW ⟨13000,0⟩ c k=OI c k:=fT (far:=169000000) (by omega) hc a
theorem xI (c k:Int) (hc:0<=c) (a:0<=k):D4 FW [MR,Hg] c k=(Ij c k && !OI c k):=by
 simp only[D4,EW,List.all_nil,FC,MR,Hg,hI c k hc a,xG c k hc a,Bool.false_or,Bool.and_true];cases Ij c k<;>cases OI c k<;>rfl
theorem Api (c k:Int) (hc:0<=c) (a:0<=k):D4 FW [MR] c k=Ij c k:=by
 simp only[D4,EW,List.all_nil,FC,MR,hI c k hc a,Bool.false_or,Bool.and_true];cases Ij c k<;>rfl
theorem xK {P:Ak->Prop} {a b:Ak} (c:P a) (hb:P b):∀r∈[a,b],P r:=fun r AH=>by
 simp at AH;rcases AH with rfl|rfl
 ·exact c
 ·exact hb
theorem Aks:Gh HA FW [MR,Hg]=some (⟨400,420⟩,⟨50,65⟩,0) :=
 (vR Ti (by decide) (xK (P:=fun r=>DW r.At) Ta.1 Ta.2.1)
  ((QY (c:=400) (k:=50) (m:=71) 21 fun c k a _ b _=>⟨xI c k (by omega) (by omega),rfl⟩).trans Akp)
  ((QY (c:=400) (k:=50) (m:=71) 21 fun c k a _ b _=>⟨xI c k (by omega) (by omega),rfl⟩).trans Akq)).trans rfl
theorem Akw:Q5 HA FW [MR] ⟨0,12000⟩ false=some (1,0) :=
 (vS Ti (by decide) (fun r AH=>by rw[List.mem_singleton.1 AH];exact Ta.1) (by unfold DW;decide)
  ((QY (c:=400) (k:=50) (m:=71) 21 fun c k a _ b _=>⟨Api c k (by omega) (by omega),by unfold HP;rw[Akg c k (by omega) (by omega)]⟩).trans AkD)).trans rfl
theorem Akz:IX OY (⟨50,120⟩,⟨HA,FW,[]⟩,⟨400,420⟩,false)=some (⟨10000,14491⟩,true,⟨50,120⟩,⟨HA,FW,[]⟩,⟨400,420⟩,false):=by
 have h:=XR (x:=⟨HA,FW,[]⟩) Ti.at_ (by decide) (fun r AH=>by cases AH) (s:=⟨50,120⟩) (by unfold EM;decide) (g:=⟨400,420⟩) (by unfold EM;decide) (F:=OY) (f:=fun c k=>((Jw c.toNat k.toNat 17 0 60000:Nat):Int)) fun c k e a i d=>Aj5 (by simp only at e a;omega) (by simp only at i d;omega)
 have hv:FY (D4 FW []) (fun c k=>((Jw c.toNat k.toNat 17 0 60000:Nat):Int)) 400 21 50 71=(⟨10000,14491⟩,true):=(QY (c:=400) (k:=50) (m:=71) 21 fun c k _ _ _ _=>⟨rfl,rfl⟩).trans Ak6;exact h.trans (congrArg (fun b:AE×Bool=>some (b.1,b.2,(⟨50,120⟩:AE),(⟨HA,FW,[]⟩:BK),(⟨400,420⟩:AE),false)) hv)
theorem Ake:IX TY (⟨50,120⟩,⟨HA,FW,[]⟩,⟨400,420⟩,false)=some (⟨50,120⟩,true,⟨50,120⟩,⟨HA,FW,[]⟩,⟨400,420⟩,false):=by
 have h:=XR (x:=⟨HA,FW,[]⟩) Ti.at_ (by decide) (fun r AH=>by cases AH) (s:=⟨50,120⟩) (by unfold EM;decide) (g:=⟨400,420⟩) (by unfold EM;decide) (F:=TY) (f:=fun _ k=>k) fun c k _ _ _ _=>by rw[uA];rfl
 have hv:FY (D4 FW []) (fun _ k=>k) 400 21 50 71=(⟨50,120⟩,true):=(QY (c:=400) (k:=50) (m:=71) 21 fun c k _ _ _ _=>⟨rfl,rfl⟩).trans Aki;exact h.trans (congrArg (fun b:AE×Bool=>some (b.1,b.2,(⟨50,120⟩:AE),(⟨HA,FW,[]⟩:BK),(⟨400,420⟩:AE),false)) hv)
end Nore
set_option maxRecDepth 100000
namespace Nore
open Go Go.Ab Go.Proofs Go.Proofs.YthkpjcjiolelnaaGreatDoor
theorem Ajm:Fe X (K6 87) (IX OY):=Wr Aip (fun x=>by kernel_rfl) (fun x=>by kernel_rfl) (fun x=>by kernel_rfl) fun x=>by kernel_rfl
theorem Ajn:Fe X (K6 88) (IX TY):=Wr AiF (fun x=>by kernel_rfl) (fun x=>by kernel_rfl) (fun x=>by kernel_rfl) fun x=>by kernel_rfl
end Nore
set_option maxRecDepth 100000
namespace Nore
open Go Go.Ab Go.Proofs Go.Proofs.YthkpjcjiolelnaaGreatDoor
noncomputable section
abbrev Zg:Dc S:=W4
def AsD:Dl S Zg.ts:=(⟨HA,FW,[Hg,NT]⟩,false,⟨400,420⟩,⟨50,120⟩)
def SM:Ay S:=(JL X.E Zg.head (Ih Zg.ts AsD)).getD Zg.head
def Adr:List (AJ S):=(Mo SM.base 0 3).getD []
def Pj:Ay S:=⟨Kk OC.E6 0 Adr .leaf,SM.AM,SM.next⟩
def MQ (pos:List Nat):Code:=(Code.sub OC.body pos).getD .skip
abbrev Ph {R:Type} (ls:Bo S R) (pos:List Nat) (s:Ay S) (k:Ce->Ay S->Option R):Option R :=
 G4 X (Jl X.T T3 NN) ls none 94 OC (HR X (Jl X.T T3 NN) ls 12 false) (HR X (Jl X.T T3 NN) ls 12 true) [94] pos 0 (MQ pos) s k
def k2 (ex:Ce) (s:Ay S):Option (Ce×Ay S):=some (ex,s)
def Zh:Ay S:=((Ph Ob [0] Pj k2).getD (.normal,Pj)).2
def VT:Ay S:=((Ph Ob [0,1] Zh k2).getD (.normal,Pj)).2
def AsC {R:Type} (o:List (Int×Int)):Bo S R:=LE.ls X bO (fun x k=>(some o).bind (bT x k)) bL
def VU (o:List (Int×Int)):Ay S:=((Ph (AsC o) [0,1,1] VT k2).getD (.normal,Pj)).2
theorem Akk:Ph Ob [0] Pj k2=some (.normal,Zh):=by kernel_rfl
theorem AkE:Ph Ob [0,1] Zh k2=some (.normal,VT):=by kernel_rfl
theorem AkF:Ph Ob [0,1,1] VT k2=(Qy (IntKind.wrap .i64 (IntKind.wrap .i64 (420-400)+1)) ⟨400,420⟩ ⟨50,120⟩ ⟨HA,FW,[Hg,NT]⟩ false (0,[])).bind fun o=>some (.normal,VU o):=by kernel_rfl
def gZ (c k:Int):Int:=bif Ij c k then(bif OI c k then 3 else 2)else(bif OI c k then 1 else 0)
theorem AkH:OH 0 0=1/\OH 0 1=2/\OH 1 1=3:=by decide +kernel
theorem Akh (c k:Int) (hc:0<=c) (a:0<=k):IY (FC FW c k) [Hg,NT] 2=gZ c k:=by
 rw[fV,fV];show(bif FC FW c k NT then(bif FC FW c k Hg then 0 else OH 0 0)else OH (bif FC FW c k Hg then 0 else OH 0 0) 1)=_;simp only[FC,Hg,NT,hI c k hc a,xG c k hc a,Bool.false_or,gZ];cases Ij c k<;>cases OI c k<;>simp[AkH]
theorem Akj:MO gZ 400 21 50 71=[(2,336),(3,1155)]:=by kernel_rfl
theorem Akf:Qy (IntKind.wrap .i64 (IntKind.wrap .i64 (420-400)+1)) ⟨400,420⟩ ⟨50,120⟩ ⟨HA,FW,[Hg,NT]⟩ false (0,[])=some [(2,336),(3,1155)]:=by
 have h:=AjF (x:=⟨HA,FW,[Hg,NT]⟩) Ti.at_ (by decide) (xK (P:=fun r=>DW r.At) Ta.2.1 Ta.2.2) (s:=⟨50,120⟩) (by unfold EM;decide) (g:=⟨400,420⟩) (by unfold EM;decide)
 exact h.trans (congrArg some ((vY (c:=400) (k:=50) (m:=71) 21 fun c k a _ b _=>Akh c k (by omega) (by omega)).trans Akj))
theorem Akd:OC.body=.seq (MQ [0]) (.seq (MQ [0,1]) (.seq (MQ [0,1,1]) (MQ [1,1,1]))):=by kernel_rfl
abbrev Zf:List (Int×Int):=[(2,336),(3,1155)]
abbrev Ads (n:Nat) (pos:List Nat) (s:BV):Option (Ce×BV):=CY X.E none 94 OC (EQ X.E n) (B8 X.E n false) (B8 X.E n true) n 0 (MQ pos) s
def VV:BV:=((Ads 100 [1,1,1] (Bb X.T (VU Zf))).getD (.normal,Bb X.T (VU Zf))).2
theorem AkG:Ads 100 [1,1,1] (Bb X.T (VU Zf))=some (.ret,VV):=by kernel_rfl
def Adu:Option (AB×Tr A8×Nat):=((G6 X.E VV.base.get VV.AM.get OC.JQ).bind fun vs=>some (Hz vs,VV.AM,VV.next)).bind (Hw SM.next)
def Adt:AB×Tr A8×Nat:=Adu.getD (.Bu,.leaf,0)
theorem AsE:Adu=some Adt:=by kernel_rfl
end
end Nore
set_option maxRecDepth 100000
namespace Nore
open Go Go.Ab Go.Proofs Go.Proofs.YthkpjcjiolelnaaGreatDoor
theorem Aky:P0 X.E (94,Av X.T Adr,SM.AM.BL (BH X.T),SM.next,Adt):=by
 have b:X.E.fn 94=some OC:=by kernel_rfl
 have hs:Ui X (Jl X.T T3 (NN (R:=Ce×Ay S))):=N8 Gc Tf Ir;have hl:=sK (R:=Ce×Ay S);have a:=Rv Gc hs hl 12;obtain⟨Cu,t0,l,w0,j⟩:=I3 Gc hs hl a.1 a.2 b (MQ [0]) [0] 0 Pj k2 _ Akk (by kernel_rfl) (Ada (by kernel_rfl))
 cases j;obtain⟨AS,z,e,d,Aw⟩:=I3 Gc hs hl a.1 a.2 b (MQ [0,1]) [0,1] 0 Zh k2 _ AkE (by kernel_rfl) w0
 cases Aw;have c:Ph Ob [0,1,1] VT k2=some (.normal,VU Zf):=by rw[AkF,Akf];rfl
 obtain⟨BG,q,i,u,BS⟩:=I3 Gc hs hl a.1 a.2 b (MQ [0,1,1]) [0,1,1] 0 VT k2 _ c (by kernel_rfl) d
 cases BS;exact Ao9 b Akd (by kernel_rfl) (s0:=Bb X.T Pj) (by kernel_rfl) l e i AkG AsE
noncomputable def SK (f:Nat):Ay S:=(JL X.E (fK f) (Ih (K6 f).ts (⟨50,120⟩,⟨HA,FW,[]⟩,⟨400,420⟩,false))).getD (fK f)
noncomputable def oP (f:Nat):List (AJ S):=(Mo (SK f).base 0 2).getD []
noncomputable def Adf (f:Nat) (s:AE):VK:=(76,Av X.T (oP f),(SK f).AM.BL (BH X.T),(SK f).next,(AI X.T (.Ap [.agg [.BR 5 s],.bool true]),(SK f).AM.BL (BH X.T),8))
theorem fR:P0 X.E (Adf 87 ⟨10000,14491⟩):=AcY Ajm Akz (s:=SK 87) (bs:=oP 87) (by kernel_rfl) (by kernel_rfl) (by kernel_rfl) (by kernel_rfl)
theorem vW:P0 X.E (Adf 88 ⟨50,120⟩):=AcY Ajn Ake (s:=SK 88) (bs:=oP 88) (by kernel_rfl) (by kernel_rfl) (by kernel_rfl) (by kernel_rfl)
end Nore
set_option maxRecDepth 100000
namespace Nore
open Go Go.Ab Go.Proofs Go.Proofs.YthkpjcjiolelnaaGreatDoor
def JW:AB:=.agg [.AR [[.str ⟨#[115,112,101,114,109]⟩,.int .i64 400,.int .i64 420,.int .i64 60],[.str ⟨#[114,97,112,101]⟩,.int .i64 100,.int .i64 100,.int .i64 40]],.int .i64 20,.int .i64 30,.int .i64 50,.int .i64 120]
def JP:AB:=.agg [.int .i64 0,.int .i64 0,.int .i64 0,.int .i64 8,.int .i64 1]
def KW (x y:Int) (h b:Bool):List AB:=[.int .i64 x,.int .i64 y,.bool h,.bool b]
theorem xM {α:Type} {p:α->Prop} {a:α} (h:p a):∀e∈[a],p e:=fun e b=>List.mem_singleton.1 b▸h
theorem xO {α:Type} {p:α->Prop} {a b:α} (h:p a) (k:p b):∀e∈[a,b],p e:=fun e c=>by
 rcases DK.1 c with rfl|c
 ·exact h
 ·exact List.mem_singleton.1 c▸k
theorem XZ {α:Type} {p:α->Prop}:∀e∈([]:List α),p e:=fun e a=>by cases a
theorem AjA:CH X.E (36,[JW,JP,.AR []],.Ap [.int .i64 10000,.int .i64 14491,.int .i64 0]):=Z6 (l:=[]) XZ (xM fR) (n:=100) (by kernel_rfl)
theorem Aj2:CH X.E (37,[JW,JP,.AR [],.int .i64 7000],.Ap [.int .i64 1,.int .i64 0]):=Z6 (l:=[]) XZ (xO fR vW) (n:=100) (by kernel_rfl)
theorem Aje:CH X.E (37,[JW,JP,.AR [],.int .i64 10001],.Ap [.int .i64 0,.int .i64 9]):=Z6 (l:=[]) XZ (xO fR vW) (n:=100) (by kernel_rfl)
theorem Aj1:CH X.E (38,[JW,JP,.AR [KW 13000 0 false false,KW 0 10000 false false]],.Ap [.AR [[.int .i64 1]],.int .i64 0]):=Z6 (l:=[]) XZ (xM Aky) (n:=100) (by kernel_rfl)
end Nore
set_option maxRecDepth 100000
namespace Nore
open Go Go.Ab Go.Proofs Go.Proofs.YthkpjcjiolelnaaGreatDoor
theorem Ajo:CH X.E (20,[JW,JP,.AR [KW 0 10000 false true,KW 13000 0 false false]],.Ap [.agg [.int .i64 400,.int .i64 420],.agg [.int .i64 50,.int .i64 65],.int .i64 0]):=by
 obtain⟨N,a⟩:=eW (HA,FW,[MR,Hg],()) ((⟨400,420⟩:AE),(⟨50,65⟩:AE),(0:Int)) Aks;exact⟨N,a N (Nat.le_refl _)⟩
theorem Ajp:CH X.E (12,[JW,JP,.AR [KW 0 10000 false true],.agg [.int .i64 0,.int .i64 12000],.bool false],.Ap [.int .i64 1,.int .i64 0]):=by
 obtain⟨N,a⟩:=eX (HA,FW,[MR],⟨0,12000⟩,false,()) ((1:Int),(0:Int)) Akw;exact⟨N,a N (Nat.le_refl _)⟩
theorem Aj6:CH X.E (34,[JW,JP,.AR [KW 3500 0 true true]],.Ap [.agg [.int .i64 25,.int .i64 30],.AR [[.int .i64 8]],.int .i64 0]):=⟨100,by kernel_rfl⟩
def Adb:List (Nat×List AB×AB):=[(20,[JW,JP,.AR [KW 0 10000 false true,KW 13000 0 false false]],.Ap [.agg [.int .i64 400,.int .i64 420],.agg [.int .i64 50,.int .i64 65],.int .i64 0]),
 (12,[JW,JP,.AR [KW 0 10000 false true],.agg [.int .i64 0,.int .i64 12000],.bool false],.Ap [.int .i64 1,.int .i64 0]),
 (34,[JW,JP,.AR [KW 3500 0 true true]],.Ap [.agg [.int .i64 25,.int .i64 30],.AR [[.int .i64 8]],.int .i64 0]),
 (36,[JW,JP,.AR []],.Ap [.int .i64 10000,.int .i64 14491,.int .i64 0]),(37,[JW,JP,.AR [],.int .i64 7000],.Ap [.int .i64 1,.int .i64 0]),(37,[JW,JP,.AR [],.int .i64 10001],.Ap [.int .i64 0,.int .i64 9]),
 (38,[JW,JP,.AR [KW 13000 0 false false,KW 0 10000 false false]],.Ap [.AR [[.int .i64 1]],.int .i64 0])]
theorem Aka:∀e∈Adb,CH X.E e:=fun e a=>by
 simp only[Adb,DK,OF,or_false]at a;rcases a with rfl|rfl|rfl|rfl|rfl|rfl|rfl
 ·exact Ajo
 ·exact Ajp
 ·exact Aj6
 ·exact AjA
 ·exact Aj2
 ·exact Aje
 ·exact Aj1
theorem AiD:CH X.E (6,[],.bool true):=AbX (n:=100) Aka (by kernel_rfl)
end Nore
