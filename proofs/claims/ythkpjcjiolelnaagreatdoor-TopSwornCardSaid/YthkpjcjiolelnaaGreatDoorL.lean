/- Copies and sorts, as the library tells them. -/
import Derived.Test.YthkpjcjiolelnaaGreatDoorA3
import Derived.Shelf.SlicesE.Clone
import Derived.Shelf.Sort.Plain
import Derived.Shelf.Slices.In.SortNone
import Derived.Lib.SlKeysI
set_option linter.unusedSectionVars false
set_option linter.unusedVariables false
set_option linter.unusedSimpArgs false
namespace Go.Ab
open Go.Proofs Go.Shelf Go.RowKit Go.Lib Go.Sort
set_option maxHeartbeats 2000000 in
set_option maxRecDepth 100000 in
theorem AnK {P:Program} {ρ:Ren} (L:SlLaysE0.n41 P ρ) (i0:TypeInfo) (z:Value) (size bytes:Nat) (AA:P.info? (ρ.t 23)=some i0) (hz0:i0.zero=some z) (hz1:i0.size=size) (hz2:i0.bytes=bytes) (hzs:z.cells.size=size) (hsz:0<size)
  (z23:∀w,(Go.sizeOf (ρ.t 23)).run P w=.ok size w) (a:Addr) (n c:Nat) (news:List Value) (w:World) (hl:news.length=n*size) (hn:n<=maxLen) (hbig:n*bytes<=140737488355328)
  (hc:∀j u,news[j]? = some u->w.cell? (a.add j)=some u) (h1:∀u∈news,u.oneCell'=true) :
  Calls P (ρ.f 41) #[.slice (some a) n c] w fun e w'=>∃v',e=.returned v'/\w'.ownsRow w.heap.size (ρ.t 23) size v' n news/\Below w.heap.size w w':=by
 have mixed:=L.mixed;have t4:=L.t4;have a4:=L.a4;have z4:=L.z4;have v4:=L.v4;have t22:=L.t22;have a22:=L.a22;have z22:=L.z22;have v22:=L.v22;have Aes:∀(w:World) (a:Option Addr) (n c n' c':Nat),(binOp .eql (ρ.t 22) (.slice a n c) (.slice none n' c')).run P w=.ok (.bool a.isNone) w:=fun w a n c n' c'=>Lib.run_eql_slice_nil w _ _ a n c n' c' L.t22;have Dp:∀w,Sem.run P (underlying (ρ.t 22)) w=.ok (TypeDesc.slice (ρ.t 23)) w:=run_underlying t22;have A:Aside (∀j u,news[j]? = some u->w.cell? (a.add j)=some u):=hc;clear hc;obtain⟨_,_,FG⟩:=L.f41
 go_enter FG,SlBodyN.n41_ntmps ρ
 go_wp2_with (at_builtin;refine wpList_append_own _ rfl _ _ (ρ.t 22) rfl w.heap.size (ρ.t 23) i0 z size bytes t22 AA hz0 hz1 hz2 hzs hsz _ _ _ rfl (World.ownsRow_made w #[] 0 (Nat.le_refl _) (Nat.zero_le _) (by simp)) a n c news rfl ?qJ ?aI ?SX ?qc4 ?qK ?qc6 ?_)
 case qJ=>exact hl
 case aI =>
  intro j u hj;exact Lib.cell?_alloc_some _ (A.out j u hj)
 case SX=>exact h1
 case qc4=>rw[Nat.zero_add];exact hn
 case qK=>rw[Nat.zero_add];exact hbig
 case qc6=>simp
 intro v' w1 hown hgrow hnil
 go_wp2
 go_ret
 refine⟨v',rfl,by simpa using hown,?_⟩
 exact((Below.refl _ w).alloc (Nat.le_refl _) _).grown hgrow (by simp) (by intro k hk;simp[Value.ownBlock]at hk;omega)
theorem YD {P:Program} {ρ:Ren} {g:Nat} {e:TypeId} {ei:By} (hen:GY P g) (L:SlLaysE0.n41 P ρ) (hg:ρ.f 41=g) (he:ρ.t 23=e) (ht:Br P e ei) (hs:0<ei.size):Nj P g e ei.size ei.bytes:=by
 subst hg he;obtain⟨i,z,h1,h2,h3,h4,h5,_⟩:=ht.IB;exact⟨hen,fun a n c news w hl hn hb hc h6=>AnK L i z ei.size ei.bytes h1 h4 h2 h3 h5 hs (fun w=>ht.run_sizeOf w) a n c news w hl hn hb hc h6,fun n c w=>AnyE.slices_Clone_nil L n c w⟩
theorem Ani {P:Program} {ρ:Ren} {g:Nat} {e:TypeId} (hen:GY P g) (L:Lays.n189 P ρ) (hg:ρ.f 189=g):Ut P g e:=by
 subst hg;refine⟨hen,fun b cap zs cur w hb hcur hle hlen=>?_,fun w=>Any.slices_Sort_int_none L none 0 w⟩;have hbl:b<w.heap.size:=(Array.getElem?_eq_some_iff.1 hb).1;refine(Any.slices_Sort_int L b 0 cap zs w ?_ hbl (by omega)).mono fun x w' ⟨hx,n,os,hw⟩=>⟨hx,?_⟩
 ·exact holds_of_block_i hb hcur
 ·subst hw;refine⟨grownBy_sorted_i _,_,heap_sorted_i _ hb,by simp[putCells],?_⟩
  have:=take_putCells_i cur (zs.mergeSort fun x y=>decide (x<=y)) (by simpa using hle)
  simpa using this
def Xa:List AB->Option AB
 | [.str s,.int .u8 c]=>some (.int .i64 (Lib.indexByte s.data.toList c.toNat.toUInt8))
 | _=>none
theorem AkU {P:Program} {inv:World->Prop} {g:Nat} (he:GY P g)
  (hc:∀(s:ByteArray) (c:Int),∀w,inv w->Calls P g #[.string s,.int .u8 c] w fun e w'=>e=.returned (.int .i64 (Lib.indexByte s.data.toList c.toNat.toUInt8))/\w'=w):M7 P inv g Xa:=fun xs d hd=>by
 refine⟨he,fun w β G vs AA ha AH hid=>?_⟩;unfold Xa at hd;split at hd
 ·rename_i s c;cases hd;obtain⟨u,v,hu,hr1,hr2⟩:=AbF AH;obtain rfl:=GO.1 hr1;obtain rfl:=DX.1 hr2;rw[HJ hu];refine Calls.mono (hc s c w AA) fun e w' h=>?_;obtain⟨rfl,rfl⟩:=h;exact jZ ha (Below.refl _ _) (DX.2 rfl)
 ·cases hd
end Go.Ab
