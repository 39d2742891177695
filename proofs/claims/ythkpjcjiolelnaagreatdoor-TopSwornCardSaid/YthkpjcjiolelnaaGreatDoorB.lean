/- The tables of the program, and that they are right. -/
import Derived.Test.YthkpjcjiolelnaaGreatDoorA3
import Derived.Test.YthkpjcjiolelnaaGreatDoorL
import Derived.Test.YthkpjcjiolelnaaGreatDoorProg
import Derived.Shelf.LaysM
import Derived.Shelf.LaysC
import Derived.Shelf.Strconv.Itoa3
import Derived.Shelf.Strconv.AtoiAll
import Derived.Shelf.Strings.Shaped
import Derived.Shelf.Strings.SplitShaped
import Derived.Shelf.Strings.Search1
import Derived.Shelf.SlicesE.Clone
import Derived.Shelf.Sort.Plain
import Derived.Shelf.Slices.In.SortNone
import Derived.Ground.SlgnProg
import Derived.Shelf.Strings.Builder1
import Derived.Lib.Walk
import Derived.TacticsInMore
import Derived.RegionIn
import Derived.RecoverIn
import Derived.KernelRfl
set_option linter.unusedSectionVars false
set_option linter.unusedVariables false
set_option linter.unusedSimpArgs false
namespace Go.Proofs.YthkpjcjiolelnaaGreatDoor
open Go.Ab Go.Proofs
open Go.Ab.Tr renaming node->N,leaf->L
noncomputable section
theorem AW:True:=trivial
def Dj (n:Nat) (d:AB):List AB:=List.replicate n d
def B5 (k:IntKind):AB:=.int k 0
def Px:AB:=.bool false
def ty (k:NE) (s b:Nat) (z:List AB) (e:Bool:=false) (q:Bool:=false) (m:List (String×Nat):=[]) (v:Bool:=false):Option By:=some ⟨k,s,b,z,e,q,m,v⟩
def A5 (b k:Nat):GR:=⟨b,k,[],false⟩
noncomputable def mZ0 : String := ((Tryz.prog.info? 127).bind fun i => (i.methods[0]?).map (·.name)).getD default
noncomputable def KY : Tr By := (N (N (N (N (N (N (N (N L (ty (.struct [(3, 0), (3, 1)]) 2 16 [(B5 .i64), (B5 .i64)] true true [(mZ0, 84)]) L) (ty (.struct [(3, 0), (3, 1), (28, 2)]) 4 32 (Dj 4 (B5 .i64)) true true) (N (N L (ty (.array 256 5) 256 256 (Dj 256 (B5 .u8)) true) L) none L)) (ty (.struct [(3, 0), (3, 1)]) 2 16 [(B5 .i64), (B5 .i64)] true true) (N (N L (ty (.array 32 3) 32 256 (Dj 32 (B5 .i64)) true) L) none (N L (ty .func 1 8 [.A2]) L))) none (N L (ty (.int .i64) 1 8 [(B5 .i64)]) L)) (ty (.struct [(2, 0), (3, 1), (4, 2), (6, 3)]) 4 24 [(B5 .i64), (B5 .i64), Px, (B5 .u8)] true true) (N (N (N (N L (ty (.struct [(3, 0), (3, 1)]) 2 16 [(B5 .i64), (B5 .i64)] true true [(mZ0, 83)]) L) (ty (.struct [(9, 0), (3, 1), (3, 2)]) 3 32 [(.str ⟨#[]⟩), (B5 .i64), (B5 .i64)] true true) (N (N L (ty (.struct [(9, 0)]) 1 16 [(.str ⟨#[]⟩)] true true) L) (ty .func 1 8 [.A2]) L)) (ty (.array 4 38) 4 8 (Dj 4 (B5 .u16)) true) (N L (ty (.slice 28) 1 24 [.Aq]) (N L (ty .func 1 8 [.A2]) L))) (ty (.slice 83) 1 24 [.Aq]) (N L (ty (.slice 3) 1 24 [.Aq]) (N L none (N L (ty .func 1 8 [.A2]) L))))) (ty (.int .i64) 1 8 [(B5 .i64)]) (N (N (N (N (N (N L (ty (.int .i64) 1 8 [(B5 .i64)]) L) none L) (ty (.struct [(3, 0), (3, 1)]) 2 16 [(B5 .i64), (B5 .i64)] true true) L) (ty (.slice 38) 1 24 [.Aq]) (N (N L (ty .func 1 8 [.A2]) L) none L)) none (N (N (N L (ty (.struct [(9, 0), (28, 1), (3, 3)]) 4 40 ([(.str ⟨#[]⟩)] ++ Dj 3 (B5 .i64)) true true) L) (ty (.struct [(3, 0), (3, 1), (28, 2)]) 4 32 (Dj 4 (B5 .i64)) true true) (N (N L (ty (.int .i32) 1 4 [(B5 .i32)]) L) (ty (.map 3 3) 1 8 [.Cv]) L)) none (N L none (N L (ty .func 1 8 [.A2]) L)))) (ty .string 1 16 [(.str ⟨#[]⟩)]) (N (N L (ty (.struct [(37, 0), (41, 2), (42, 7), (38, 9)]) 10 88 (Dj 2 .Aq ++ Dj 4 (B5 .u16) ++ [.Aq] ++ Dj 3 (B5 .u16))) (N (N L (ty (.array 10 28) 20 160 (Dj 20 (B5 .i64)) true) L) none (N L (ty (.ptr 238) 1 8 [.Bu]) L))) (ty (.struct [(3, 0), (3, 1)]) 2 16 [(B5 .i64), (B5 .i64)] true true) (N (N (N (N L (ty (.slice 32) 1 24 [.Aq]) L) none L) none (N L (ty (.slice 226) 1 24 [.Aq]) L)) none L)))) (ty .func 1 8 [.A2]) (N (N (N (N (N (N L (ty .func 1 8 [.A2]) L) none (N (N L (ty (.struct [(5, 0), (5, 1)]) 2 2 [(B5 .u8), (B5 .u8)] true true) L) (ty .func 1 8 [.A2]) L)) (ty (.struct [(32, 0), (3, 2), (3, 3), (3, 4)]) 5 40 (Dj 5 (B5 .i64)) true true) (N L none (N L (ty (.struct [(3, 0), (3, 1)]) 2 16 [(B5 .i64), (B5 .i64)] true true) L))) none (N (N (N (N L (ty .func 1 8 [.A2]) L) none L) (ty (.slice 9) 1 24 [.Aq]) (N (N L (ty (.int .u8) 1 1 [(B5 .u8)]) L) none L)) none L)) (ty .string 1 16 [(.str ⟨#[]⟩)]) (N (N (N (N L (ty .func 1 8 [.A2]) L) none (N (N L (ty (.array 32 5) 32 32 (Dj 32 (B5 .u8)) true) L) none L)) (ty (.struct [(39, 0), (35, 4)]) 5 32 (Dj 4 (B5 .u16) ++ [.Aq])) L) (ty (.struct [(22, 0), (23, 1)]) 2 48 [.Aq, .Aq]) (N (N (N L (ty .func 1 8 [.A2]) L) none (N L (ty .func 1 8 [.A2]) L)) (ty (.slice 78) 1 24 [.Aq]) (N L (ty (.struct [(30, 0), (34, 5), (57, 10)]) 11 120 ([.Aq] ++ Dj 9 (B5 .i64) ++ [.Aq]) false false []) L)))) (ty (.int .u8) 1 1 [(B5 .u8)]) (N (N (N (N L none (N L (ty .func 1 8 [.A2]) L)) (ty (.struct [(35, 0), (35, 1)]) 2 48 [.Aq, .Aq]) L) (ty (.int .i32) 1 4 [(B5 .i32)]) (N (N (N (N L (ty (.ptr 5) 1 8 [.Bu]) L) none L) none L) (ty (.slice 63) 1 24 [.Aq]) (N (N L (ty .func 1 8 [.A2]) L) none L))) (ty (.struct [(9, 0), (12, 1)]) 2 24 [(.str ⟨#[]⟩), (B5 .u64)]) (N (N (N (N L (ty (.struct [(25, 0), (53, 2)]) 3 72 (Dj 3 .Aq) false false []) L) (ty (.struct [(32, 0), (4, 2), (4, 3)]) 4 24 [(B5 .i64), (B5 .i64), Px, Px] true true) (N L (ty (.int .u64) 1 8 [(B5 .u64)]) L)) (ty (.struct [(34, 0), (44, 5)]) 15 128 (Dj 5 (B5 .i64) ++ Dj 2 .Aq ++ Dj 4 (B5 .u16) ++ [.Aq] ++ Dj 3 (B5 .u16))) (N (N L (ty .func 1 8 [.A2]) L) none L)) (ty (.struct [(26, 0), (28, 1), (28, 3)]) 5 56 ([.Aq] ++ Dj 4 (B5 .i64))) (N L none (N (N (N L (ty (.array 20 270) 20 160 (Dj 20 (B5 .u64)) true) L) none L) none (N L (ty .func 1 8 [.A2]) L))))))) none (N (N (N (N (N (N (N L (ty .func 1 8 [.A2]) L) none (N (N L (ty (.struct [(5, 0), (5, 1)]) 2 2 [(B5 .u8), (B5 .u8)] true true) L) none L)) (ty (.struct [(3, 0), (3, 1)]) 2 16 [(B5 .i64), (B5 .i64)] true true) L) none (N (N L none (N (N L (ty (.int .u8) 1 1 [(B5 .u8)]) L) none L)) none (N L none (N L (ty .iface 1 16 [.Bl]) L)))) (ty (.struct [(2, 0), (3, 1), (4, 2), (6, 3)]) 4 24 [(B5 .i64), (B5 .i64), Px, (B5 .u8)] true true) (N (N (N (N L (ty .func 1 8 [.A2]) L) none (N (N L (ty (.struct [(9, 0)]) 1 16 [(.str ⟨#[]⟩)] true true) L) none L)) (ty (.struct [(39, 0), (35, 4)]) 5 32 (Dj 4 (B5 .u16) ++ [.Aq])) (N (N (N L (ty (.int .i64) 1 8 [(B5 .i64)]) L) none L) none (N L (ty .func 1 8 [.A2]) L))) (ty (.struct [(22, 0), (23, 1)]) 2 48 [.Aq, .Aq]) (N (N (N L (ty .func 1 8 [.A2]) L) none (N L (ty .func 1 8 [.A2]) L)) none (N L (ty (.struct [(30, 0), (34, 5), (57, 10)]) 11 120 ([.Aq] ++ Dj 9 (B5 .i64) ++ [.Aq])) L)))) (ty .bool 1 1 [Px]) (N (N (N (N L (ty (.struct [(3, 0), (3, 1)]) 2 16 [(B5 .i64), (B5 .i64)] true true) (N L (ty .func 1 8 [.A2]) L)) (ty (.struct [(35, 0), (35, 1)]) 2 48 [.Aq, .Aq]) L) (ty .iface 1 16 [.Bl]) (N (N (N L (ty (.struct [(9, 0), (28, 1), (3, 3)]) 4 40 ([(.str ⟨#[]⟩)] ++ Dj 3 (B5 .i64)) true true) L) none (N (N L (ty (.int .i32) 1 4 [(B5 .i32)]) L) none L)) none (N (N L (ty .func 1 8 [.A2]) L) none L))) (ty (.int .u64) 1 8 [(B5 .u64)]) (N (N (N (N (N L (ty (.int .u32) 1 4 [(B5 .u32)]) L) (ty (.struct [(25, 0), (53, 2)]) 3 72 (Dj 3 .Aq)) L) none L) (ty (.struct [(37, 0), (41, 2), (42, 7), (38, 9)]) 10 88 (Dj 2 .Aq ++ Dj 4 (B5 .u16) ++ [.Aq] ++ Dj 3 (B5 .u16))) (N (N L (ty .func 1 8 [.A2]) L) none (N L (ty (.slice 5) 1 24 [.Aq]) L))) (ty (.struct [(3, 0), (3, 1)]) 2 16 [(B5 .i64), (B5 .i64)] true true) (N (N (N (N L (ty (.int .u64) 1 8 [(B5 .u64)]) L) none L) none L) none L)))) (ty (.int .i64) 1 8 [(B5 .i64)]) (N (N (N (N (N L none (N (N L (ty (.array 16 321) 32 32 (Dj 32 (B5 .u8)) true) L) (ty .func 1 8 [.A2]) L)) (ty (.struct [(32, 0), (3, 2), (3, 3), (3, 4)]) 5 40 (Dj 5 (B5 .i64)) true true) (N (N L (ty .func 1 8 [.A2]) L) none (N L (ty (.struct [(3, 0), (3, 1)]) 2 16 [(B5 .i64), (B5 .i64)] true true) L))) none (N (N (N (N L (ty .func 1 8 [.A2]) L) none L) none L) none L)) (ty .string 1 16 [(.str ⟨#[]⟩)]) (N (N (N L none (N (N L (ty (.array 64 5) 64 64 (Dj 64 (B5 .u8)) true) L) none L)) (ty (.array 2 38) 2 4 [(B5 .u16), (B5 .u16)] true) (N (N L (ty (.array 10 28) 20 160 (Dj 20 (B5 .i64)) true) L) none (N L (ty .func 1 8 [.A2]) L))) (ty (.slice 148) 1 24 [.Aq]) (N (N L none (N L (ty .func 1 8 [.A2]) L)) none L))) (ty (.int .u8) 1 1 [(B5 .u8)]) (N (N (N (N (N L (ty (.struct [(3, 0), (3, 1)]) 2 16 [(B5 .i64), (B5 .i64)] true true) L) (ty (.struct [(9, 0), (3, 1), (3, 2)]) 3 32 [(.str ⟨#[]⟩), (B5 .i64), (B5 .i64)] true true) L) (ty (.int .u16) 1 2 [(B5 .u16)]) (N (N L (ty .func 1 8 [.A2]) L) none L)) (ty (.slice 71) 1 24 [.Aq]) L) (ty (.struct [(9, 0), (12, 1)]) 2 24 [(.str ⟨#[]⟩), (B5 .u64)]) (N (N (N (N (N L (ty (.int .u64) 1 8 [(B5 .u64)]) L) none L) (ty (.struct [(32, 0), (4, 2), (4, 3)]) 4 24 [(B5 .i64), (B5 .i64), Px, Px] true true) L) (ty (.struct [(34, 0), (44, 5)]) 15 128 (Dj 5 (B5 .i64) ++ Dj 2 .Aq ++ Dj 4 (B5 .u16) ++ [.Aq] ++ Dj 3 (B5 .u16))) (N (N (N L (ty (.array 24 5) 24 24 (Dj 24 (B5 .u8)) true) L) none L) none (N L (ty (.struct [(235, 0), (236, 1)]) 2 32 [.Bu, .Aq]) L))) (ty (.struct [(26, 0), (28, 1), (28, 3)]) 5 56 ([.Aq] ++ Dj 4 (B5 .i64))) (N (N (N L (ty .func 1 8 [.A2]) L) none (N L (ty .func 1 8 [.A2]) L)) (ty (.struct [(3, 0), (3, 1), (28, 2)]) 4 32 (Dj 4 (B5 .i64)) true true) (N (N (N L (ty (.array 65 5) 65 65 (Dj 65 (B5 .u8)) true) L) none L) (ty (.struct [(3, 0), (3, 1)]) 2 16 [(B5 .i64), (B5 .i64)] true true) (N L (ty (.array 8 32) 16 128 (Dj 16 (B5 .i64)) true) L))))))))
noncomputable def JO (f:Func):Code:=match f.body with|some c=>c|none=>.skip
noncomputable def Ao (f:Func) (m:Nat) (hs:List GR) (pu:Bool) (K0:List (Nat×Nat)) (Pr:Nat) (ca:Bool:=false) (pb:List (Nat×Nat):=[]) (mr:List (Nat×Nat×Nat×TypeId×Nat):=[]):Ag:=⟨JO f,f.ntmps,f.results.toList,m,hs,pu,K0,Pr,ca,pb,mr⟩
def g3:Ag:=Ao Tryz.f3 6427801600023000122835834831932712951448328583870904977586815 [A5 0 2609208] true [(1,2609208),(0,180272)] 64
def g4:Ag:=Ao Tryz.f4 41538414791847272223429363643727871 [⟨0,98,[.slot 5 9],false⟩,A5 2 514,A5 4 12290] true [(1,98),(0,2),(3,514),(2,2),(5,12290),(4,0)] 28
def g5:Ag:=Ao Tryz.f5 9463252330357528202463 [A5 0 3076] true [(1,3076),(0,1024)] 192
def g6:Ag:=Ao Tryz.f6 201326591 [] true [] 1
def g7:Ag:=Ao Tryz.f7 786431 [] true [] 1
def g8:Ag:=Ao Tryz.f8 8389631 [⟨0,236,[.slot 5 63],true⟩] false [(1,236),(0,32)] 16 true
def g9:Ag:=Ao Tryz.f9 2147518463 [⟨0,236,[.slot 5 3],false⟩,A5 2 1004] true [(3,1004),(2,492),(1,236),(0,32)] 16
def g10:Ag:=Ao Tryz.f10 4503599629469695 [⟨0,440,[.slot 7 78],false⟩] true [(1,440),(0,128)] 64
def g11:Ag:=Ao Tryz.f11 79 [] true [] 64
def g12:Ag:=Ao Tryz.f12 4330634623 [] true [(0,4352)] 3072
def g13:Ag:=Ao Tryz.f13 263151 [] true [] 192
def g14:Ag:=Ao Tryz.f14 71 [] true [] 64
def g15:Ag:=Ao Tryz.f15 274878957343 [A5 0 1566] true [(1,1566),(0,512)] 256
def g16:Ag:=Ao Tryz.f16 17279 [] true [] 256
def g17:Ag:=Ao Tryz.f17 127 [] true [] 64
def g18:Ag:=Ao Tryz.f18 33015 [] true [] 48
def g19:Ag:=Ao Tryz.f19 271 [] true [] 256
def g20:Ag:=Ao Tryz.f20 17180921823 [] true [] 448
def g21:Ag:=Ao Tryz.f21 71 [] true [] 64
def g22:Ag:=Ao Tryz.f22 2195 [] true [] 16
def g23:Ag:=Ao Tryz.f23 33587615 [] true [] 256
def g24:Ag:=Ao Tryz.f24 1511168803733474337899519 [⟨0,386,[.slot 7 9],false⟩] true [(1,386),(0,0)] 28
def oV:Ag:=Ao Tryz.f25 71 [] true [] 64
def oW:Ag:=Ao Tryz.f26 23 [] true [] 16
def oX:Ag:=Ao Tryz.f27 1 [] true [] 1
def Z9:Ag:=Ao Tryz.f28 1 [] true [] 1
def oY:Ag:=Ao Tryz.f29 8388815 [] true [] 192
def oZ:Ag:=Ao Tryz.f30 19 [] true [] 16
def o0:Ag:=Ao Tryz.f31 8388815 [] true [] 192
def o1:Ag:=Ao Tryz.f32 1 [] true [] 1
def o2:Ag:=Ao Tryz.f33 1 [] true [] 1
def Za:Ag:=Ao Tryz.f34 9994148396466143 [A5 0 549755818176,⟨2,422212465066176,[.slot 7 3],false⟩] true [(1,0),(0,4288),(3,422212465066176),(2,192)] 448
def Ar2:Ag:=Ao Tryz.f35 1 [] true [] 1
def Ar3:Ag:=Ao Tryz.f36 2148536287 [] true [] 448
def Ar4:Ag:=Ao Tryz.f37 154752018818998923372986175 [A5 1 32281802128991756344] true [(0,1080),(2,32281802128991756344),(1,0)] 768
def Ar5:Ag:=Ao Tryz.f38 526303 [] true [] 192
def Ar6:Ag:=Ao Tryz.f39 271 [] true [] 256
def Ar7:Ag:=Ao Tryz.f40 539100367 [] true [(0,14)] 192
def Ar8:Ag:=Ao Tryz.f41 19 [] true [] 16
def Ar9:Ag:=Ao Tryz.f42 33571891 [A5 0 35] true [(1,35),(0,0)] 16
def Ara:Ag:=Ao Tryz.f43 1 [] true [] 1
def Arb:Ag:=Ao Tryz.f44 72057597842690039 [A5 0 4195076,A5 2 1610614016] true [(3,1610614016),(2,0),(1,0),(0,772)] 48
def Arc:Ag:=Ao Tryz.f45 7 [] false [] 4
def Ard:Ag:=Ao Tryz.f46 1 [] true [] 1
def Are:Ag:=Ao Tryz.f47 18258071327 [] true [(0,1036)] 768
def Arf:Ag:=Ao Tryz.f48 2251803576240111 [⟨1,1610612842,[.slot 6 3],false⟩] true [(0,106),(2,1610612842),(1,64)] 192
def Arh:Ag:=Ao Tryz.f49 10035046790773455982583 [⟨0,25165910,[.slot 4 3],false⟩,⟨2,964690902,[.slot 9 63,.slot 8 3],false⟩] true [(3,964690902),(2,25166678),(1,25165910),(0,16)] 48
def Ari:Ag:=Ao Tryz.f50 19 [] true [] 16
def Arj:Ag:=Ao Tryz.f51 16463 [] true [] 12
def Ark:Ag:=Ao Tryz.f52 140737656177917 [⟨0,16397,[.cell 2 0 71,.cell 2 1 83],false⟩] true [(2,0),(1,0),(0,13)] 12
def Arl:Ag:=Ao Tryz.f53 8797166818301 [A5 0 16444] true [(1,0),(0,12)] 12
def Arm:Ag:=Ao Tryz.f54 33571891 [A5 0 35] true [(1,35),(0,0)] 16
def Arn:Ag:=Ao Tryz.f55 288266660173840511 [A5 0 44,A5 2 76] true [(1,44),(0,12),(3,76),(2,0)] 16
def Aro:Ag:=Ao Tryz.f56 23 [] true [] 16
def Arp:Ag:=Ao Tryz.f57 147 [] true [] 16
def Arq:Ag:=Ao Tryz.f58 127 [] true [] 64
def Arr:Ag:=Ao Tryz.f59 735 [] true [] 192
def Ars:Ag:=Ao Tryz.f60 95 [] true [] 64
def Art:Ag:=Ao Tryz.f62 127 [] false [] 64
def Aru:Ag:=Ao Tryz.f63 7 [] false [] 4
def Arv:Ag:=Ao Tryz.f64 31 [] true [] 16
def Arw:Ag:=Ao Tryz.f65 33019 [] false [] 48
def Arx:Ag:=Ao Tryz.f66 127 [] false [] 64
def Ary:Ag:=Ao Tryz.f67 7 [] false [] 4
def Arz:Ag:=Ao Tryz.f68 34429076463 [] true [(0,320)] 192
def ArA:Ag:=Ao Tryz.f69 532543 [] true [(0,0)] 16
def ArB:Ag:=Ao Tryz.f70 31 [] true [] 16
def ArC:Ag:=Ao Tryz.f71 1231 [] true [] 64
def ArD:Ag:=Ao Tryz.f72 16777679 [A5 0 390] true [(1,390),(0,130)] 64
def ArE:Ag:=Ao Tryz.f73 23 [] true [] 16
def ArF:Ag:=Ao Tryz.f74 183 [] true [] 48
def ArG:Ag:=Ao Tryz.f75 55 [A5 0 20] true [(1,0),(0,4)] 4
def ArH:Ag:=Ao Tryz.f76 17403 [A5 0 312] false [(1,0),(0,48)] 48 true
def ArI:Ag:=Ao Tryz.f77 7 [] true [] 4
def ArJ:Ag:=Ao Tryz.f78 7 [] true [] 4
def ArK:Ag:=Ao Tryz.f79 35184380479629 [A5 0 9] true [(1,9),(0,0)] 4
def ArL:Ag:=Ao Tryz.f80 131635 [A5 0 35] true [(1,35),(0,0)] 16
def ArM:Ag:=Ao Tryz.f81 79 [] true [] 64
def ArN:Ag:=Ao Tryz.f82 71 [] true [] 64
def ArO:Ag:=Ao Tryz.f83 17179869695 [A5 0 480] true [(1,480),(0,160)] 16
def ArP:Ag:=Ao Tryz.f84 73823005091857288575 [A5 0 32780] true [(1,32780),(0,0)] 16
def ArQ:Ag:=Ao Tryz.f85 17403 [A5 0 312] false [(1,0),(0,48)] 48
def ArR:Ag:=Ao Tryz.f86 7 [] true [] 4
def ArS:Ag:=Ao Tryz.f87 7 [] true [] 4
def ArT:Ag:=Ao Tryz.f88 7 [] true [] 4
def ArU:Ag:=Ao Tryz.f89 5 [] false [] 4
def ArV:Ag:=Ao Tryz.f90 7 [] false [] 4
def ArW:Ag:=Ao Tryz.f91 3 [] false [] 0
def ArX:Ag:=Ao Tryz.f92 39 [] false [] 32
def ArY:Ag:=Ao Tryz.f93 604275 [] true [] 16
def OC:Ag:=Ao Tryz.f94 309485313084741174661939183 [A5 0 131304,A5 2 7340968,⟨4,9007199254745160,[.slot 6 3],false⟩,⟨6,3467771713075310664,[.slot 14 3],false⟩] false [(3,7340968),(2,640),(1,0),(0,200),(7,3467771713075310664),(6,9007199254761544),(5,9007199254745160),(4,64)] 64 true [] [(4,(53,(91,(0,0))))]
def ArZ:Ag:=Ao Tryz.f95 309485313084741174661939183 [A5 0 131304,A5 2 7340968,⟨4,9007199254745160,[.slot 6 3],false⟩,⟨6,3467771713075310664,[.slot 14 3],false⟩] false [(3,7340968),(2,640),(1,0),(0,200),(7,3467771713075310664),(6,9007199254761544),(5,9007199254745160),(4,64)] 64 false [] [(4,(53,(91,(0,0))))]
def As0:Ag:=Ao Tryz.f96 5 [] false [] 0
def As1:Ag:=Ao Tryz.f97 154744875478289697013244159 [A5 1 7881299347898370] true [(0,2),(3,7881299347898370),(2,7881299347898370),(1,0)] 28
def As2:Ag:=Ao Tryz.f98 7 [] false [] 4
def ApC:Ag:=Ao Tryz.f100 95 [] true [] 64
def ApD:Ag:=Ao Tryz.f101 688269427663 [A5 0 393422,⟨2,137438953536,[.slot 6 3],false⟩] true [(1,393422),(0,192),(3,137438953536),(2,64)] 64 false [] [(2,(37,(6,(3,70093866271296))))]
def ApE:Ag:=Ao Tryz.f103 34628706291 [A5 0 3587] true [(1,3587),(0,3)] 16
def ApF:Ag:=Ao Tryz.f104 140806241452095 [] true [] 28
def ApG:Ag:=Ao Tryz.f105 16106189503 [A5 0 28714,A5 2 7516192808] true [(1,28714),(0,42),(3,7516192808),(2,8)] 4
def ApH:Ag:=Ao Tryz.f107 7 [] false [] 4
def ApI:Ag:=Ao Tryz.f109 19 [] true [] 16
def ApJ:Ag:=Ao Tryz.f110 9 [] true [] 0
def ApK:Ag:=Ao Tryz.f111 246227 [⟨0,114704,[.slot 4 3],false⟩] true [(1,114704),(0,16)] 16
def ApL:Ag:=Ao Tryz.f112 51 [] true [] 48
def ApM:Ag:=Ao Tryz.f113 19 [] true [] 16
def ApN:Ag:=Ao Tryz.f114 947 [A5 0 387] true [(1,387),(0,1)] 16
def ApO:Ag:=Ao Tryz.f116 36310272130220511 [] true [(0,4)] 192
def ApP:Ag:=Ao Tryz.f117 19 [] false [] 16
def ApQ:Ag:=Ao Tryz.f118 23 [] false [] 16
def ApR:Ag:=Ao Tryz.f120 141733952447 [A5 0 284,A5 2 14396] false [(3,14396),(2,48),(1,0),(0,0)] 0
def ApS:Ag:=Ao Tryz.f121 127 [] false [] 64
def ApT:Ag:=Ao Tryz.f122 19 [] true [] 16
def ApU:Ag:=Ao Tryz.f123 143 [] false [] 8
def ApV:Ag:=Ao Tryz.f124 141733952447 [A5 0 284,A5 2 14396] false [(3,14396),(2,48),(1,0),(0,0)] 0
def ApW:Ag:=Ao Tryz.f125 127 [] false [] 64
def ApX:Ag:=Ao Tryz.f126 19 [] true [] 16
def ApY:Ag:=Ao Tryz.f127 137438969919 [] true [(0,0)] 16
def ApZ:Ag:=Ao Tryz.f128 19 [] true [] 16
def Aq0:Ag:=Ao Tryz.f129 524339 [A5 0 35] true [(1,35),(0,32)] 16
def Aq1:Ag:=Ao Tryz.f130 131087 [A5 0 10] true [(1,10),(0,8)] 4
def Aq2:Ag:=Ao Tryz.f131 7 [] true [] 4
def Aq3:Ag:=Ao Tryz.f132 139319 [] true [] 48
def Aq4:Ag:=Ao Tryz.f133 35201551962567 [A5 0 391] true [(1,391),(0,128)] 64
def Aq5:Ag:=Ao Tryz.f134 114845 [A5 0 49172] true [(1,49172),(0,20)] 12
def Aq6:Ag:=Ao Tryz.f135 2099443 [A5 0 98] false [(1,98),(0,32)] 16
def Aq7:Ag:=Ao Tryz.f136 11 [] false [] 8
def Aq8:Ag:=Ao Tryz.f137 247 [⟨0,68,[.cell 2 0 3],true⟩] false [(1,0),(0,4)] 16
def Aq9:Ag:=Ao Tryz.f138 527883 [⟨0,1539,[],true⟩] false [(1,1539),(0,0)] 0
def Aqa:Ag:=Ao Tryz.f139 18014433942971335 [⟨0,455,[.slot 9999 0],true⟩,⟨2,71,[.slot 9999 0],true⟩,⟨4,455,[.slot 9999 0],true⟩] false [(1,455),(0,199),(5,455),(4,199),(3,71),(2,0)] 0
def Aqb:Ag:=Ao Tryz.f140 5 [] true [] 4
def Aqc:Ag:=Ao Tryz.f141 17389 [A5 0 456] true [(1,456),(0,8)] 4
def Aqd:Ag:=Ao Tryz.f142 10384593871817177683247510831234831 [A5 0 783] true [(1,783),(0,0)] 0
def Aqe:Ag:=Ao Tryz.f143 5 [] true [] 4
def Aqf:Ag:=Ao Tryz.f144 265133 [A5 0 137] true [(2,161),(1,137),(0,9)] 4
def Aqg:Ag:=Ao Tryz.f145 19 [] false [] 16
def Aqh:Ag:=Ao Tryz.f146 15 [] false [] 8
def Aqi:Ag:=Ao Tryz.f147 7807 [A5 0 3598] false [(1,3598),(0,14)] 0 true
def Aqj:Ag:=Ao Tryz.f148 162298890911060791960072274116607 [A5 0 8796093027304] false [(1,0),(0,512)] 512 true
def Aqk:Ag:=Ao Tryz.f149 81549309680231488798624078815 [A5 0 1573204,A5 2 1924146922324,A5 4 4436,A5 6 1083197534374707740536738132] true [(3,1924146922324),(2,1573204),(1,1573204),(0,340),(7,1083197534374707740536738132),(6,4436),(5,4436),(4,336)] 192 false [(25,4)]
def Aql:Ag:=Ao Tryz.f150 127 [] false [] 64
def Aqm:Ag:=Ao Tryz.f152 23 [] false [] 16
def Aqn:Ag:=Ao Tryz.f153 23 [] true [] 16
def Aqo:Ag:=Ao Tryz.f154 2105331 [A5 0 3586] false [(1,3586),(0,0)] 48 true
def Aqp:Ag:=Ao Tryz.f155 264311 [] false [(0,0)] 32
def Aqq:Ag:=Ao Tryz.f156 19 [] false [] 16
def Aqr:Ag:=Ao Tryz.f157 15 [] false [] 8
def Aqs:Ag:=Ao Tryz.f158 2105331 [A5 0 3586] false [(1,3586),(0,0)] 48 true
def Aqt:Ag:=Ao Tryz.f159 55 [] false [] 32
def Aqu:Ag:=Ao Tryz.f160 32823 [] false [] 32
def Aqv:Ag:=Ao Tryz.f161 3983 [A5 0 1805] false [(1,1805),(0,13)] 0
def Aqw:Ag:=Ao Tryz.f162 51 [] false [] 48
def Aqx:Ag:=Ao Tryz.f163 5 [] false [] 4
def Aqy:Ag:=Ao Tryz.f164 16779419 [A5 0 3] false [(1,3),(0,0)] 0
def Aqz:Ag:=Ao Tryz.f165 19 [] true [] 16
def AqA:Ag:=Ao Tryz.f167 147 [] true [] 16
def AqB:Ag:=Ao Tryz.f169 563 [] true [] 48
def AqC:Ag:=Ao Tryz.f170 132147 [A5 0 35] true [(1,35),(0,0)] 16
def AqD:Ag:=Ao Tryz.f172 66483 [A5 0 387] false [(1,387),(0,0)] 16
def AqE:Ag:=Ao Tryz.f173 7 [] true [] 4
def AqF:Ag:=Ao Tryz.f174 66483 [A5 0 387] false [(1,387),(0,0)] 16
def AqG:Ag:=Ao Tryz.f175 133119 [A5 0 156,A5 2 568] false [(3,0),(2,0),(1,0),(0,0)] 0
def AqH:Ag:=Ao Tryz.f176 133119 [A5 0 156,A5 2 568] false [(3,0),(2,0),(1,0),(0,0)] 0
def AqI:Ag:=Ao Tryz.f177 66483 [A5 0 387] true [(1,387),(0,0)] 16
def AqJ:Ag:=Ao Tryz.f178 31 [] true [] 16
def AqK:Ag:=Ao Tryz.f179 21 [] true [] 4
def AqL:Ag:=Ao Tryz.f180 2105331 [A5 0 3586] false [(1,3586),(0,0)] 48 true
def AqM:Ag:=Ao Tryz.f181 55 [] false [] 32
def AqN:Ag:=Ao Tryz.f182 95 [] true [] 64
def AqO:Ag:=Ao Tryz.f183 1 [] true [] 1
def AqP:Ag:=Ao Tryz.f184 17179886351 [⟨0,271,[.slot 9999 0],true⟩,⟨2,783,[.slot 9999 0],true⟩] false [(3,783),(2,271),(1,271),(0,0)] 0
def AqQ:Ag:=Ao Tryz.f186 1073746119 [A5 0 71,A5 2 199] true [(3,199),(2,71),(1,71),(0,0)] 0
def AqR:Ag:=Ao Tryz.f195 277 [] true [] 4
def AqS:Ag:=Ao Tryz.f196 16661 [] true [] 4
def AqT:Ag:=Ao Tryz.f197 66483 [A5 0 387] false [(1,387),(0,0)] 16
def AqU:Ag:=Ao Tryz.f198 19 [] false [] 16
def AqV:Ag:=Ao Tryz.f199 7 [] true [] 4
def AqW:Ag:=Ao Tryz.f200 35201803616751 [A5 0 117440621] false [(1,117440621),(0,0)] 0
def AqX:Ag:=Ao Tryz.f202 66483 [A5 0 387] false [(1,387),(0,0)] 16
def AqY:Ag:=Ao Tryz.f208 19 [] true [] 16
def AqZ:Ag:=Ao Tryz.f212 7 [] true [] 4
def Ar0:Ag:=Ao Tryz.f213 23 [] false [] 16
def Ar1:Ag:=Ao Tryz.f220 66483 [A5 0 387] false [(1,387),(0,0)] 16
def Adj:Tr Ag:=(N (N (N (N (N (N (N (N L (some ApY) L) (some Aru) L) (some o0) (N (N L (some Aqt) L) (some ArZ) L)) (some g15) (N (N (N L (some Aqe) L) (some ArK) L) (some Are) (N (N L (some AqG) L) (some ApK) L))) (some g7) (N (N (N (N L (some Aq6) L) (some ArC) (N L (some AqV) L)) (some Ar6) (N (N L (some AqA) L) (some ApE) L)) (some g23) (N (N L (some ArS) L) (some Arn) (N (N L (some AqO) L) none L)))) (some g3) (N (N (N (N (N L (some Aq2) L) (some Ary) (N L (some AqR) L)) (some Ar2) (N (N L (some Aqx) L) none L)) (some g19) (N (N (N L (some Aqi) L) (some ArO) L) (some Arj) (N (N L (some AqK) L) none L))) (some g11) (N (N (N (N L (some Aqa) L) (some ArG) L) (some Ara) (N L (some ApH) L)) (some oX) (N (N (N L (some Aqp) L) (some ArW) L) (some Arr) (N L (some ApU) L))))) none (N (N (N (N (N (N L (some Aq0) L) (some Arw) L) (some o2) (N (N L (some Aqv) L) (some As1) L)) (some g17) (N (N (N L (some Aqg) L) (some ArM) L) (some Arh) (N (N L (some AqI) L) (some ApM) L))) (some g9) (N (N (N (N L (some Aq8) L) (some ArE) L) (some Ar8) (N (N L (some AqB) L) (some ApG) L)) (some oV) (N (N (N L (some Aqn) L) (some ArU) L) (some Arp) (N L (some ApS) L)))) (some g5) (N (N (N (N (N L (some Aq4) L) (some ArA) (N L (some AqT) L)) (some Ar4) (N (N L (some Aqz) L) (some ApD) L)) (some g21) (N (N (N L (some Aqk) L) (some ArQ) (N L (some Ar0) L)) (some Arl) (N (N L (some AqM) L) (some ApP) L))) (some g13) (N (N (N (N L (some Aqc) L) (some ArI) L) (some Arc) (N (N L (some AqE) L) (some ApI) L)) (some oY) (N (N (N L (some Aqr) L) (some ArY) L) none (N L (some ApW) L)))))) none (N (N (N (N (N (N (N L (some ApZ) L) (some Arv) L) (some o1) (N (N L (some Aqu) L) (some As0) L)) (some g16) (N (N (N L (some Aqf) L) (some ArL) (N L (some AqY) L)) (some Arf) (N (N L (some AqH) L) (some ApL) L))) (some g8) (N (N (N (N L (some Aq7) L) (some ArD) (N L (some AqW) L)) (some Ar7) (N L (some ApF) L)) (some g24) (N (N (N L (some Aqm) L) (some ArT) L) (some Aro) (N (N L (some AqP) L) (some ApR) L)))) (some g4) (N (N (N (N (N L (some Aq3) L) (some Arz) (N L (some AqS) L)) (some Ar3) (N (N L (some Aqy) L) (some ApC) L)) (some g20) (N (N (N L (some Aqj) L) (some ArP) (N L (some AqZ) L)) (some Ark) (N (N L (some AqL) L) (some ApO) L))) (some g12) (N (N (N (N L (some Aqb) L) (some ArH) L) (some Arb) (N (N L (some AqD) L) none L)) (some Z9) (N (N (N L (some Aqq) L) (some ArX) (N L (some Ar1) L)) (some Ars) (N L (some ApV) L))))) none (N (N (N (N (N (N L (some Aq1) L) (some Arx) L) (some Za) (N (N L (some Aqw) L) (some As2) L)) (some g18) (N (N (N L (some Aqh) L) (some ArN) L) (some Ari) (N (N L (some AqJ) L) (some ApN) L))) (some g10) (N (N (N (N L (some Aq9) L) (some ArF) (N L (some AqX) L)) (some Ar9) (N (N L (some AqC) L) none L)) (some oW) (N (N (N L (some Aqo) L) (some ArV) L) (some Arq) (N (N L (some AqQ) L) (some ApT) L)))) (some g6) (N (N (N (N (N L (some Aq5) L) (some ArB) (N L (some AqU) L)) (some Ar5) L) (some g22) (N (N (N L (some Aql) L) (some ArR) L) (some Arm) (N (N L (some AqN) L) (some ApQ) L))) (some g14) (N (N (N (N L (some Aqd) L) (some ArJ) L) (some Ard) (N (N L (some AqF) L) (some ApJ) L)) (some oZ) (N (N (N L (some Aqs) L) (some OC) L) (some Art) (N L (some ApX) L)))))))
def Aeb:String:=((Tryz.prog.globals[3]?).map (·.name)).getD default
def Adp:Tr (List AB->Option AB):=(N (N (N L none (N (N L none (N L none (N L (some Yr) L))) none L)) none L) none (N (N (N L none (N (N L none (N (N L (some Yq) L) none L)) none L)) none (N L none (N (N (N L none (N L (some Xa) L)) none (N L (some Y2) L)) none L))) none L))
def Adc:Tr TypeId:=(N (N (N L none (N L none (N (N (N L none (N L (some 238) L)) none L) none L))) none L) none L)
def VN:Tr TypeId:=(N (N (N (N L none (N L none (N (N (N L (some 226) L) none L) none L))) none (N (N (N L none (N L (some 28) L)) none L) none L)) none (N (N L none (N (N (N L none (N L (some 63) L)) none L) none L)) none L)) none (N L none (N L none (N (N (N L none (N L (some 83) L)) none L) none L))))
def Vd:Tr TypeId:=(N L none (N (N (N (N (N L none (N L (some 3) L)) none L) none L) none L) none L))
def E:Env:=⟨KY.get,Adj.get,Adp.get,Adc.get,VN.get,Vd.get,fun g=>Nat.beq g 106,fun w=>(∃m,w.cell? ⟨0,0,none⟩=some (.int .i64 m))/\Lib.TabIs Tryz.prog w Aeb .u64 Lib.pow10Tab,fun _ _ h hb=>⟨Al8 h.1 hb,Alr h.2 hb⟩⟩
end
end Go.Proofs.YthkpjcjiolelnaaGreatDoor
namespace Go.Proofs
open Go.Shelf
def Tryz.Asn:Go.Shelf.Ren:=⟨fun|171=>115|243=>171|246=>211|283=>232|284=>233|285=>234|286=>235|129=>196|317=>245|318=>246|319=>247|320=>248|337=>252|338=>253|n=>n,fun|3=>3|9=>9|2=>2|4=>4|171=>302|0=>0|53=>270|37=>236|5=>5|173=>304|212=>317|51=>268|20=>20|213=>318|46=>205|232=>329|233=>330|n=>n,fun|17=>3|18=>6|19=>7|n=>n⟩
theorem Tryz.Asm:Go.Proofs.LaysM.n171 Tryz.prog Tryz.Asn:=by(repeat' first|kernel_rfl|(intro _;kernel_rfl)|constructor)
def Tryz.Asj:Go.Shelf.Ren:=⟨fun|172=>168|244=>209|245=>210|247=>227|279=>228|280=>229|281=>230|282=>231|287=>242|316=>243|171=>115|205=>244|321=>250|322=>251|243=>171|246=>211|283=>232|284=>233|285=>234|286=>235|129=>196|317=>245|318=>246|319=>247|320=>248|337=>252|338=>253|n=>n,fun|9=>9|3=>3|75=>240|76=>241|4=>4|5=>5|167=>296|37=>236|0=>0|85=>297|2=>2|168=>299|53=>270|175=>310|46=>205|210=>314|127=>277|145=>328|143=>326|21=>21|171=>302|173=>304|212=>317|51=>268|20=>20|213=>318|232=>329|233=>330|80=>244|n=>n,fun|15=>1|16=>2|17=>3|18=>6|19=>7|n=>n⟩
theorem Tryz.Asi:Go.Proofs.LaysC.n172 Tryz.prog Tryz.Asj:=by(repeat' first|kernel_rfl|(intro _;kernel_rfl)|constructor)
def Tryz.Asl:Go.Shelf.Ren:=⟨fun|146=>108|221=>166|268=>205|138=>206|143=>207|195=>223|197=>224|218=>225|219=>226|260=>238|217=>204|225=>239|224=>240|267=>241|266=>222|314=>249|n=>n,fun|9=>9|31=>81|3=>3|4=>4|0=>0|105=>294|21=>21|5=>5|46=>205|119=>319|139=>322|138=>321|146=>323|51=>268|n=>n,fun|1=>0|3=>4|4=>5|n=>n⟩
theorem Tryz.o4:Go.Proofs.LaysM.n146 Tryz.prog Tryz.Asl:=by(repeat' first|kernel_rfl|(intro _;kernel_rfl)|constructor);exact fun w h=>Go.Proofs.cell_of_shapedOpen_int (zero := #[.int .i64 0]) (t:=3) h (of_decide_eq_true (by kernel_rfl)) (by kernel_rfl) rfl (by kernel_rfl) (by kernel_rfl) Tryz.underlying3
def Tryz.Ash:Go.Shelf.Ren:=⟨fun|217=>204|266=>222|n=>n,fun|9=>9|5=>5|3=>3|n=>n,fun|n=>n⟩
theorem Tryz.Asg:Go.Proofs.Lays.n217 Tryz.prog Tryz.Ash:=by(repeat' first|kernel_rfl|(intro _;kernel_rfl)|constructor)
def Tryz.Asf:Go.Shelf.Ren:=⟨fun|189=>96|125=>143|257=>142|128=>195|129=>196|294=>186|295=>187|296=>188|297=>189|298=>190|299=>191|216=>192|300=>193|301=>194|328=>215|329=>216|330=>217|331=>218|332=>219|215=>140|343=>237|n=>n,fun|28=>55|3=>3|46=>205|0=>0|51=>268|53=>270|4=>4|183=>260|182=>259|131=>265|5=>5|9=>9|218=>284|222=>288|228=>306|229=>307|n=>n,fun|n=>n⟩
theorem Tryz.Ase:Go.Proofs.Lays.n189 Tryz.prog Tryz.Asf:=by(repeat' first|kernel_rfl|(intro _;kernel_rfl)|constructor)
def Tryz.Asv:Go.Shelf.Ren:=⟨fun|41=>99|n=>n,fun|22=>103|23=>28|4=>4|n=>n,fun|n=>n⟩
theorem Tryz.Asu:Go.Proofs.SlLaysE0.n41 Tryz.prog Tryz.Asv:=by constructor;kernel_rfl;exact⟨Tryz.f99.name,by decide,Tryz.func99.trans (congrArg some (by kernel_rfl))⟩;(repeat' first|kernel_rfl|(intro _;kernel_rfl)|constructor)
def Tryz.Asp:Go.Shelf.Ren:=⟨fun|41=>102|n=>n,fun|22=>23|23=>83|4=>4|n=>n,fun|n=>n⟩
theorem Tryz.Aso:Go.Proofs.SlLaysE0.n41 Tryz.prog Tryz.Asp:=by constructor;kernel_rfl;exact⟨Tryz.f102.name,by decide,Tryz.func102.trans (congrArg some (by kernel_rfl))⟩;(repeat' first|kernel_rfl|(intro _;kernel_rfl)|constructor)
def Tryz.Asr:Go.Shelf.Ren:=⟨fun|41=>151|n=>n,fun|22=>219|23=>226|4=>4|n=>n,fun|n=>n⟩
theorem Tryz.Asq:Go.Proofs.SlLaysE0.n41 Tryz.prog Tryz.Asr:=by constructor;kernel_rfl;exact⟨Tryz.f151.name,by decide,Tryz.func151.trans (congrArg some (by kernel_rfl))⟩;(repeat' first|kernel_rfl|(intro _;kernel_rfl)|constructor)
def Tryz.Ast:Go.Shelf.Ren:=⟨fun|41=>201|n=>n,fun|22=>53|23=>63|4=>4|n=>n,fun|n=>n⟩
theorem Tryz.Ass:Go.Proofs.SlLaysE0.n41 Tryz.prog Tryz.Ast:=by constructor;kernel_rfl;exact⟨Tryz.f201.name,by decide,Tryz.func201.trans (congrArg some (by kernel_rfl))⟩;(repeat' first|kernel_rfl|(intro _;kernel_rfl)|constructor)
end Go.Proofs
namespace Go.Proofs.YthkpjcjiolelnaaGreatDoor
open Go.Ab Go.Proofs Go.RowKit Go.Shelf
set_option maxRecDepth 100000 in
theorem Apy:nI Tryz.prog 106:=fun n cap w=>by
 refine⟨?_,?_⟩
 ·have h:=Jz Tryz.func106 (c:=JO Tryz.f106) rfl (by kernel_rfl) cap w
  have e:(invoke (.fn (.func 106) cap) #[]).run Tryz.prog w=(callFunc 106 cap).run Tryz.prog w:=by simp[go_sem,invoke]
  rw[e];exact h
 ·refine callsDIn_of_wpSIn Tryz.func106 rfl trivial fun c₀ cs hu=>?_;have hs:(cap++Array.replicate (Tryz.f106.ntmps-cap.size) undef).size=max cap.size 9:=by
   rw[Tryz.ntmps106];simp;omega
  generalize cap++Array.replicate (Tryz.f106.ntmps-cap.size) undef=CP at hs⊢;apply wpSIn_seq;apply wpSIn_region;simp[wpOpsSIn,go_sem,recoverD,hu,Exit.thenS];have Ado:2<max cap.size 9:=by omega
  have l3:3<max cap.size 9:=by omega
  have l4:4<max cap.size 9:=by omega
  have l5:5<max cap.size 9:=by omega
  have hb:(binOp .neq 20 .nilIface .nilIface).run Tryz.prog w=.ok (.bool false) w:=by simp[binOp,iE Tryz.underlying20]
  apply wpSIn_seq;apply wpSIn_region;simp[wpOpsSIn,go_sem,hs,Exit.thenS,Ado,l3,l4,hb];refine wpSIn_cond (t:=false) (by simp[Act.eval,hs,l5]) ?_
  simp only[Bool.false_eq_true,if_false];refine wpSIn_of_wpIn rfl (wpIn_skip ?_);cases c₀;simp_all [bodyPostS,results,Tryz.results106]
set_option maxHeartbeats 1000000 in
set_option maxRecDepth 100000 in
theorem Apl (b:Nat) (w:World) (h0:w.cell? ⟨b,0,none⟩=some (.pointer (some ⟨b,0,none⟩))) :
  Calls Tryz.prog 203 #[.pointer (some ⟨b,0,none⟩)] w fun e w'=>e=.returned (.tuple #[])/\w'=w:=by
 obtain⟨j,hj,_⟩:=Option.map_eq_some_iff.1 (show(Tryz.prog.info? 238).map (·.size)=some 2 by kernel_rfl)
 go_enter Tryz.func203,Tryz.ntmps203
 go_wp2
 rw[Lib.run_neq_ptr_same w _ Tryz.underlying235 hj]
 go_wp2
 go_end0
 exact⟨rfl,rfl⟩
set_option maxHeartbeats 1000000 in
set_option maxRecDepth 100000 in
theorem Apk (b:Nat) (w:World) (h0:w.cell? ⟨b,0,none⟩=some (.pointer none)) (hsh:w.shape? b=some (238,2)) (hfz:w.frozen? ⟨b,0,none⟩=false) :
  Calls Tryz.prog 203 #[.pointer (some ⟨b,0,none⟩)] w fun e w'=>e=.returned (.tuple #[])/\w'=w.setCell ⟨b,0,none⟩ (.pointer (some ⟨b,0,none⟩)):=by
 obtain⟨j,hj,hjs⟩:=Option.map_eq_some_iff.1 (show(Tryz.prog.info? 238).map (·.size)=some 2 by kernel_rfl)
 go_enter Tryz.func203,Tryz.ntmps203
 go_wp2
 rw[Lib.run_to_unsafe w ⟨b,0,none⟩ Tryz.underlying235 Tryz.underlying291 hj (by rw[hjs];decide) hsh (Nat.zero_lt_succ 1)]
 simp only[Result.andThen];rw[Oper.upon_value]
 go_wp2
 rw[run_callFunc_extern Tryz.func221 (by kernel_rfl) (by kernel_rfl) (by kernel_rfl) (e:=Extern.AbiNoEscape.same) (by kernel_rfl)]
 rw[Lib.run_noEscape];simp only[Result.andThen];rw[Oper.upon_value]
 go_wp2
 rw[Lib.run_from_unsafe w ⟨b,0,none⟩ Tryz.underlying291 Tryz.underlying235 hj hsh (show liesAt Tryz.prog Tryz.prog.depth 238 (2 / Tryz.prog.cellsOf 238) 0 238 1=true by kernel_rfl)]
 simp only[Result.andThen];rw[Oper.upon_value]
 go_wp2
 go_end0
 exact⟨rfl,rfl⟩
theorem Apn:nV Tryz.prog 203 238:=AnI (Jz Tryz.func203 (c:=JO Tryz.f203) rfl (by kernel_rfl)) Apl Apk
theorem AsA:M7 Tryz.prog E.inv 204 Xa:=AkU (Jz Tryz.func204 (c:=JO Tryz.f204) rfl (by kernel_rfl)) fun s c w _=>Any.stringslite_IndexByte Tryz.Asg s c w
theorem Asx:M7 Tryz.prog E.inv 108 Y2:=AlX (Jz Tryz.func108 (c:=JO Tryz.f108) rfl (by kernel_rfl)) fun s q hs h1 w AA=>(let⟨m,hm⟩:=AA.1;Any.strings_Split { Tryz.o4 with } Tryz.o4.i9 s q m w hs hm h1)
theorem Asz:M7 Tryz.prog E.inv 168 Yq:=Amt (Jz Tryz.func168 (c:=JO Tryz.f168) rfl (by kernel_rfl)) fun s hm v hv w _=>Calls.mono (Any.strconv_Atoi_ok Tryz.Asi s hm v hv w) fun e w' h=>⟨h.1,by rcases h.2 with h2|⟨t,h2⟩<;>rw[h2]<;>first|exact Below.refl _ _|exact Alg w _ t⟩
theorem Asy:M7 Tryz.prog E.inv 115 Yr:=Amu (Jz Tryz.func115 (c:=JO Tryz.f115) rfl (by kernel_rfl)) fun n h0 h1 w AA=>Calls.mono (Any.strconv_Itoa Tryz.Asm n h0 h1 w (Eq.mp (congrArg (fun s=>Lib.TabIs Tryz.prog w s .u64 Lib.pow10Tab) (by kernel_rfl)) AA.2)) fun e w' h=>⟨h.1,by obtain⟨k,os,h2⟩:=h.2;rw[h2];exact Aly w k os⟩
theorem AAC:Ut Tryz.prog 96 3:=Ani (Jz Tryz.func96 (c:=JO Tryz.f96) rfl (by kernel_rfl)) Tryz.Ase (by kernel_rfl)
theorem Aps:∃ei,E.ty 63=some ei/\Nj Tryz.prog 201 63 ei.size ei.bytes:=⟨⟨(.struct [(3,0),(3,1),(28,2)]),4,32,[(.int .i64 (0)),(.int .i64 (0)),(.int .i64 (0)),(.int .i64 (0))],true,true,[],false⟩,by kernel_rfl,YD (Jz Tryz.func201 (c:=JO Tryz.f201) rfl (by kernel_rfl)) Tryz.Ass (by kernel_rfl) (by kernel_rfl) (U5 (by kernel_rfl)) (by decide)⟩
theorem Apr:∃ei,E.ty 226=some ei/\Nj Tryz.prog 151 226 ei.size ei.bytes:=⟨⟨(.struct [(3,0),(3,1)]),2,16,[(.int .i64 (0)),(.int .i64 (0))],true,true,[],false⟩,by kernel_rfl,YD (Jz Tryz.func151 (c:=JO Tryz.f151) rfl (by kernel_rfl)) Tryz.Asq (by kernel_rfl) (by kernel_rfl) (U5 (by kernel_rfl)) (by decide)⟩
theorem Apq:∃ei,E.ty 83=some ei/\Nj Tryz.prog 102 83 ei.size ei.bytes:=⟨⟨(.struct [(3,0),(3,1),(28,2)]),4,32,[(.int .i64 (0)),(.int .i64 (0)),(.int .i64 (0)),(.int .i64 (0))],true,true,[],false⟩,by kernel_rfl,YD (Jz Tryz.func102 (c:=JO Tryz.f102) rfl (by kernel_rfl)) Tryz.Aso (by kernel_rfl) (by kernel_rfl) (U5 (by kernel_rfl)) (by decide)⟩
theorem Apt:∃ei,E.ty 28=some ei/\Nj Tryz.prog 99 28 ei.size ei.bytes:=⟨⟨(.struct [(3,0),(3,1)]),2,16,[(.int .i64 (0)),(.int .i64 (0))],true,true,[],false⟩,by kernel_rfl,YD (Jz Tryz.func99 (c:=JO Tryz.f99) rfl (by kernel_rfl)) Tryz.Asu (by kernel_rfl) (by kernel_rfl) (U5 (by kernel_rfl)) (by decide)⟩
theorem Apo:Md (fun g e=>∃ei,E.ty e=some ei/\Nj Tryz.prog g e ei.size ei.bytes) VN 1 0:=⟨⟨⟨⟨AW,AW,⟨AW,AW,⟨⟨⟨AW,Apr,AW⟩,AW,AW⟩,AW,AW⟩⟩⟩,AW,⟨⟨⟨AW,AW,⟨AW,Apt,AW⟩⟩,AW,AW⟩,AW,AW⟩⟩,AW,⟨⟨AW,AW,⟨⟨⟨AW,AW,⟨AW,Aps,AW⟩⟩,AW,AW⟩,AW,AW⟩⟩,AW,AW⟩⟩,AW,⟨AW,AW,⟨AW,AW,⟨⟨⟨AW,AW,⟨AW,Apq,AW⟩⟩,AW,AW⟩,AW,AW⟩⟩⟩⟩
theorem AAB:Md (fun g e=>Ut Tryz.prog g e) Vd 1 0:=⟨AW,AW,⟨⟨⟨⟨⟨AW,AW,⟨AW,AAC,AW⟩⟩,AW,AW⟩,AW,AW⟩,AW,AW⟩,AW,AW⟩⟩
theorem Asw:Md (fun g L=>M7 Tryz.prog E.inv g L) Adp 1 0:=⟨⟨⟨AW,AW,⟨⟨AW,AW,⟨AW,AW,⟨AW,Asy,AW⟩⟩⟩,AW,AW⟩⟩,AW,AW⟩,AW,⟨⟨⟨AW,AW,⟨⟨AW,AW,⟨⟨AW,Asz,AW⟩,AW,AW⟩⟩,AW,AW⟩⟩,AW,⟨AW,AW,⟨⟨⟨AW,AW,⟨AW,AsA,AW⟩⟩,AW,⟨AW,Asx,AW⟩⟩,AW,AW⟩⟩⟩,AW,AW⟩⟩
theorem Apm:Md (fun g t=>nV Tryz.prog g t) Adc 1 0:=⟨⟨⟨AW,AW,⟨AW,AW,⟨⟨⟨AW,AW,⟨AW,Apn,AW⟩⟩,AW,AW⟩,AW,AW⟩⟩⟩,AW,AW⟩,AW,AW⟩
end Go.Proofs.YthkpjcjiolelnaaGreatDoor
namespace Go.Proofs.YthkpjcjiolelnaaGreatDoor
open Go.Ab Go.Proofs
theorem AAG:Mf (fun t i=>nO Tryz.prog t i) KY=true:=by kernel_rfl
theorem Ai4:∀t ti,E.ty t=some ti->Br Tryz.prog t ti:=fun _ _ h=>U5 (RY AAG h)
theorem mixed:Tryz.prog.follows .mixedOrders=true:=by kernel_rfl
theorem An {f : Nat} {fn : Func} {m : Nat} {hs : List GR} {pu : Bool} {K0 : List (Nat × Nat)} {Pr : Nat} {ca : Bool} {pb : List (Nat × Nat)} {mr : List (Nat × Nat × Nat × TypeId × Nat)} (hf : Tryz.prog.funcs[f]? = some fn) (hb : fn.body = some (JO fn) := by kernel_rfl) (hn : (fn.name == "runtime.NumGoroutine") = false := by kernel_rfl) : nX Tryz.prog f ⟨JO fn, fn.ntmps, fn.results.toList, m, hs, pu, K0, Pr, ca, pb, mr⟩ := ⟨⟨fn, hf, hb, rfl, rfl⟩, Go.Ab.Jz hf hb hn⟩
theorem ApB:Md (fun f F=>nX Tryz.prog f F) Adj 1 0:=⟨⟨⟨⟨⟨⟨⟨⟨AW,An Tryz.func127,AW⟩,An Tryz.func63,AW⟩,An Tryz.func31,⟨⟨AW,An Tryz.func159,AW⟩,An Tryz.func95,AW⟩⟩,An Tryz.func15,⟨⟨⟨AW,An Tryz.func143,AW⟩,An Tryz.func79,AW⟩,An Tryz.func47,⟨⟨AW,An Tryz.func175,AW⟩,An Tryz.func111,AW⟩⟩⟩,An Tryz.func7,⟨⟨⟨⟨AW,An Tryz.func135,AW⟩,An Tryz.func71,⟨AW,An Tryz.func199,AW⟩⟩,An Tryz.func39,⟨⟨AW,An Tryz.func167,AW⟩,An Tryz.func103,AW⟩⟩,An Tryz.func23,⟨⟨AW,An Tryz.func87,AW⟩,An Tryz.func55,⟨⟨AW,An Tryz.func183,AW⟩,AW,AW⟩⟩⟩⟩,An Tryz.func3,⟨⟨⟨⟨⟨AW,An Tryz.func131,AW⟩,An Tryz.func67,⟨AW,An Tryz.func195,AW⟩⟩,An Tryz.func35,⟨⟨AW,An Tryz.func163,AW⟩,AW,AW⟩⟩,An Tryz.func19,⟨⟨⟨AW,An Tryz.func147,AW⟩,An Tryz.func83,AW⟩,An Tryz.func51,⟨⟨AW,An Tryz.func179,AW⟩,AW,AW⟩⟩⟩,An Tryz.func11,⟨⟨⟨⟨AW,An Tryz.func139,AW⟩,An Tryz.func75,AW⟩,An Tryz.func43,⟨AW,An Tryz.func107,AW⟩⟩,An Tryz.func27,⟨⟨⟨AW,An Tryz.func155,AW⟩,An Tryz.func91,AW⟩,An Tryz.func59,⟨AW,An Tryz.func123,AW⟩⟩⟩⟩⟩,AW,⟨⟨⟨⟨⟨⟨AW,An Tryz.func129,AW⟩,An Tryz.func65,AW⟩,An Tryz.func33,⟨⟨AW,An Tryz.func161,AW⟩,An Tryz.func97,AW⟩⟩,An Tryz.func17,⟨⟨⟨AW,An Tryz.func145,AW⟩,An Tryz.func81,AW⟩,An Tryz.func49,⟨⟨AW,An Tryz.func177,AW⟩,An Tryz.func113,AW⟩⟩⟩,An Tryz.func9,⟨⟨⟨⟨AW,An Tryz.func137,AW⟩,An Tryz.func73,AW⟩,An Tryz.func41,⟨⟨AW,An Tryz.func169,AW⟩,An Tryz.func105,AW⟩⟩,An Tryz.func25,⟨⟨⟨AW,An Tryz.func153,AW⟩,An Tryz.func89,AW⟩,An Tryz.func57,⟨AW,An Tryz.func121,AW⟩⟩⟩⟩,An Tryz.func5,⟨⟨⟨⟨⟨AW,An Tryz.func133,AW⟩,An Tryz.func69,⟨AW,An Tryz.func197,AW⟩⟩,An Tryz.func37,⟨⟨AW,An Tryz.func165,AW⟩,An Tryz.func101,AW⟩⟩,An Tryz.func21,⟨⟨⟨AW,An Tryz.func149,AW⟩,An Tryz.func85,⟨AW,An Tryz.func213,AW⟩⟩,An Tryz.func53,⟨⟨AW,An Tryz.func181,AW⟩,An Tryz.func117,AW⟩⟩⟩,An Tryz.func13,⟨⟨⟨⟨AW,An Tryz.func141,AW⟩,An Tryz.func77,AW⟩,An Tryz.func45,⟨⟨AW,An Tryz.func173,AW⟩,An Tryz.func109,AW⟩⟩,An Tryz.func29,⟨⟨⟨AW,An Tryz.func157,AW⟩,An Tryz.func93,AW⟩,AW,⟨AW,An Tryz.func125,AW⟩⟩⟩⟩⟩⟩,AW,⟨⟨⟨⟨⟨⟨⟨AW,An Tryz.func128,AW⟩,An Tryz.func64,AW⟩,An Tryz.func32,⟨⟨AW,An Tryz.func160,AW⟩,An Tryz.func96,AW⟩⟩,An Tryz.func16,⟨⟨⟨AW,An Tryz.func144,AW⟩,An Tryz.func80,⟨AW,An Tryz.func208,AW⟩⟩,An Tryz.func48,⟨⟨AW,An Tryz.func176,AW⟩,An Tryz.func112,AW⟩⟩⟩,An Tryz.func8,⟨⟨⟨⟨AW,An Tryz.func136,AW⟩,An Tryz.func72,⟨AW,An Tryz.func200,AW⟩⟩,An Tryz.func40,⟨AW,An Tryz.func104,AW⟩⟩,An Tryz.func24,⟨⟨⟨AW,An Tryz.func152,AW⟩,An Tryz.func88,AW⟩,An Tryz.func56,⟨⟨AW,An Tryz.func184,AW⟩,An Tryz.func120,AW⟩⟩⟩⟩,An Tryz.func4,⟨⟨⟨⟨⟨AW,An Tryz.func132,AW⟩,An Tryz.func68,⟨AW,An Tryz.func196,AW⟩⟩,An Tryz.func36,⟨⟨AW,An Tryz.func164,AW⟩,An Tryz.func100,AW⟩⟩,An Tryz.func20,⟨⟨⟨AW,An Tryz.func148,AW⟩,An Tryz.func84,⟨AW,An Tryz.func212,AW⟩⟩,An Tryz.func52,⟨⟨AW,An Tryz.func180,AW⟩,An Tryz.func116,AW⟩⟩⟩,An Tryz.func12,⟨⟨⟨⟨AW,An Tryz.func140,AW⟩,An Tryz.func76,AW⟩,An Tryz.func44,⟨⟨AW,An Tryz.func172,AW⟩,AW,AW⟩⟩,An Tryz.func28,⟨⟨⟨AW,An Tryz.func156,AW⟩,An Tryz.func92,⟨AW,An Tryz.func220,AW⟩⟩,An Tryz.func60,⟨AW,An Tryz.func124,AW⟩⟩⟩⟩⟩,AW,⟨⟨⟨⟨⟨⟨AW,An Tryz.func130,AW⟩,An Tryz.func66,AW⟩,An Tryz.func34,⟨⟨AW,An Tryz.func162,AW⟩,An Tryz.func98,AW⟩⟩,An Tryz.func18,⟨⟨⟨AW,An Tryz.func146,AW⟩,An Tryz.func82,AW⟩,An Tryz.func50,⟨⟨AW,An Tryz.func178,AW⟩,An Tryz.func114,AW⟩⟩⟩,An Tryz.func10,⟨⟨⟨⟨AW,An Tryz.func138,AW⟩,An Tryz.func74,⟨AW,An Tryz.func202,AW⟩⟩,An Tryz.func42,⟨⟨AW,An Tryz.func170,AW⟩,AW,AW⟩⟩,An Tryz.func26,⟨⟨⟨AW,An Tryz.func154,AW⟩,An Tryz.func90,AW⟩,An Tryz.func58,⟨⟨AW,An Tryz.func186,AW⟩,An Tryz.func122,AW⟩⟩⟩⟩,An Tryz.func6,⟨⟨⟨⟨⟨AW,An Tryz.func134,AW⟩,An Tryz.func70,⟨AW,An Tryz.func198,AW⟩⟩,An Tryz.func38,AW⟩,An Tryz.func22,⟨⟨⟨AW,An Tryz.func150,AW⟩,An Tryz.func86,AW⟩,An Tryz.func54,⟨⟨AW,An Tryz.func182,AW⟩,An Tryz.func118,AW⟩⟩⟩,An Tryz.func14,⟨⟨⟨⟨AW,An Tryz.func142,AW⟩,An Tryz.func78,AW⟩,An Tryz.func46,⟨⟨AW,An Tryz.func174,AW⟩,An Tryz.func110,AW⟩⟩,An Tryz.func30,⟨⟨⟨AW,An Tryz.func158,AW⟩,An Tryz.func94,AW⟩,An Tryz.func62,⟨AW,An Tryz.func126,AW⟩⟩⟩⟩⟩⟩⟩
theorem AAD:Nk Tryz.prog E where
 fn:=fun _ _ h=>UJ ApB h
 leaf:=fun _ _ xs d h=>UJ Asw h xs d
 OB:=fun g h=>by
  unfold E at h;simp only[Bool.or_eq_true]at h;exact Nat.eq_of_beq_eq_true h▸Apy
 Hh:=fun _ _ h=>UJ Apm h
 Mr:=fun _ _ h=>UJ Apo h
 Mz:=fun _ _ h=>UJ AAB h
end Go.Proofs.YthkpjcjiolelnaaGreatDoor
