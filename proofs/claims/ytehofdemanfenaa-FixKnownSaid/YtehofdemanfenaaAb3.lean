/- The tables' promise, what an abstract heap stands for, and the ways in which a world may grow. -/
import Derived.Test.YtehofdemanfenaaAb2
namespace Go.Ab
open Go.RowKit

/-- What the table says of a type is what the program's own table says. -/
structure TyOk (P : Program) (t : TypeId) (ti : TI) : Prop where
  info : ∃ i z, P.info? t = some i ∧ i.size = ti.size ∧ i.bytes = ti.bytes ∧ i.zero = some z ∧ z.cells.size = ti.size ∧ ∀ β G, RepL β G ti.zero z.cells.toList
  zc : ti.zero.all isCell = true
  eqr : ti.eqOk = true → (∀ (xs ys : List DV) (r : Bool), eqCells xs ys = some r → kindsLike ti.zero xs = true → kindsLike ti.zero ys = true → ∀ (β : Bi) (G : Gh) (vx vy : List Value) (w : World), RepL β G xs vx → RepL β G ys vy →
    (Op.equal t (.agg vx.toArray) (.agg vy.toArray)).run P w = .ok r w) ∧ P.eqGuardType P.depth t = false
  zf : idfrees ti.zero = true
  zr : ti.isAgg = false → ∀ d, ti.zero = [d] → ∀ i z, P.info? t = some i → i.zero = some z → ∀ β G, Rep β G d z
  zn : ti.isAgg = false → ti.zero.length = 1
  za : ti.isAgg = true → ∀ i z, P.info? t = some i → i.zero = some z → ∃ cs, z = .agg cs
  meth : ∀ m g, methOf m ti.meths = some g → ∀ (v : Value) (args : Array Value) (w : World), (callMethod (.iface t v) m args).run P w = (callFunc g (#[v] ++ args)).run P w
  key : ti.keyOk = true → ∀ (xs : List DV), kindsLike ti.zero xs = true → ∀ (b : Bool) (β : Bi) (G : Gh) (vx : List Value) (w : World), RepL β G xs vx → (Instr.checkKey b 10000 t (.agg vx.toArray)).run P w = .ok () w
  desc : match ti.k with
    | .bool => P.underlying t = some .bool
    | .int k => P.underlying t = some (.int k)
    | .string => P.underlying t = some .string
    | .struct fs => ∃ fields, P.underlying t = some (.struct fields) ∧ fields.toList.map (fun f => (f.type, f.offset)) = fs ∧
        ∃ places, fields.toList.mapM (fun f => (P.info? f.type).map fun i => (f.offset, i.size)) = some places
    | .array n e => P.underlying t = some (.array n e)
    | .slice e => P.underlying t = some (.slice e)
    | .map k e => P.underlying t = some (.map k e)
    | .ptr e => P.underlying t = some (.pointer e)
    | .func => ∃ a b c, P.underlying t = some (.func a b c)
    | .iface => ∃ ms, P.underlying t = some (.interface ms)
    | .other => False

def eszOf (E : Env) (t : TypeId) : Nat := match E.ty t with | some ti => ti.size | none => 0

/-- Which block an object has. -/
def Owns (β : Bi) (id : Nat) (o : AObj) (b : Nat) : Prop :=
  match o with
  | .row _ _ _ u => ∃ n c, β.hdr id u = some (.slice (some ⟨b, 0, none⟩) n c)
  | _ => β.blk id = some b

def MapR (β : Bi) (G : Gh) : List (DV × DV) → List MapEntry → Prop
  | [], ms => ms = []
  | (k, v) :: es, ms => ∃ m ms', ms = m :: ms' ∧ Rep β G k m.key ∧ Rep β G v m.val ∧ keyOk k = true ∧ idfree v = true ∧ MapR β G es ms'

def jumpOf : Ex → Option Code
  | .normal | .busy => none
  | .exit id => some (.exit id)
  | .ret => some .ret

def FrM (β : Bi) (G : Gh) (ρ : Nat → Option DV) (tmps : Array Value) : Prop := ∀ t d, ρ t = some d → ∃ v, tmps[t]? = some v ∧ Rep β G d v

theorem pn_le (p n : Nat) : pn p n ≤ n := by unfold pn; split <;> omega
theorem pn_mono (p : Nat) {n m : Nat} (h : n ≤ m) : pn p n ≤ pn p m := by unfold pn; split <;> omega

def ObjR (E : Env) (base : Nat) (w : World) (β : Bi) (G : Gh) (id : Nat) : AObj → Prop
  | .cells t cs => ∃ b vs, β.blk id = some b ∧ w.heap[b]? = some (.cells vs t (0, 0)) ∧ RepL β G cs vs.toList ∧ cs.all isCell = true ∧ ∀ o, G b o = none
  | .row t es p u => ∃ hdr vals, β.hdr id u = some hdr ∧ w.ownsRow base t (eszOf E t) hdr es.length vals ∧ RepL β G es.flatten vals ∧
      (∀ c ∈ es, c.length = eszOf E t ∧ idfrees c = true ∧ c.all isCell = true) ∧ (0 < eszOf E t ∧ pn p es.length ≤ es.length) ∧
      (∀ b, hdr.ownBlock = some b → ∀ o, pn p es.length * eszOf E t ≤ o → G b o = none) ∧ ∀ u', u < u' → β.hdr id u' = none
  | .map es => ∃ b ms clock, β.blk id = some b ∧ w.heap[b]? = some (.map ms clock) ∧ MapR β G es ms.toList
  | .siter s pos => ∃ b, β.blk id = some b ∧ w.heap[b]? = some (.stringIter s pos)
  | .loop fid bs ps assign body _ ex => ∃ b tmps df fn F, β.blk id = some b ∧
      w.heap[b]? = some (.loop { state := (match ex with | .normal => .ready | .busy => .busy | _ => .done), pending := jumpOf ex, fn := fn, tmps := tmps, params := ps.toArray, assign := assign, body := body, defers := df }) ∧
      FrM β G bs.get tmps ∧ E.fn fid = some F ∧ tmps.size = F.nt ∧ ∀ t d, bs.get t = some d → Nat.testBit F.vmask t = true

/-- Blocks that nobody may touch, with what they hold, and what of it is published. -/
abbrev DD := Nat → Option (Obj × (Nat → Option Value))
def mkD : Obj × (Nat → Option Value) := (.deferred (some []), fun _ => none)
/-- Marks laid over it. -/
def pushD (own : List Nat) (D : DD) : DD := fun b => if b ∈ own then some mkD else D b
def ApartD (own : List Nat) (D : DD) : Prop := own.Nodup ∧ ∀ b ∈ own, D b = none

theorem pushD_none {own : List Nat} {D : DD} {b : Nat} (h : pushD own D b = none) : b ∉ own ∧ D b = none := by
  unfold pushD at h
  by_cases e : b ∈ own
  · rw [if_pos e] at h; cases h
  · rw [if_neg e] at h; exact ⟨e, h⟩
theorem pushD_nil (D : DD) : pushD [] D = D := by funext b; simp [pushD]
theorem pushD_cons_eq (d : Nat) (own : List Nat) (D : DD) : pushD (d :: own) D = pushD [d] (pushD own D) := by
  funext b
  unfold pushD
  by_cases e : b = d
  · simp [e]
  · simp [e]
theorem pushD_cons {d : Nat} {own : List Nat} {D : DD} : pushD (d :: own) D d = some mkD := by simp [pushD]

/-- The abstract heap h lies in the world w, placed by β; what G names is published; what lay when the call began lies as it did. -/
structure HR (E : Env) (w0 : World) (G0 : Gh) (D : DD) (w : World) (β : Bi) (G : Gh) (h : Nat → Option AObj) : Prop where
  below : Below w0.heap.size w0 w
  g0 : ∀ b, b < w0.heap.size → G b = G0 b
  agree : ∀ b o v, G b o = some v → w.cell? ⟨b, o, none⟩ = some v
  obj : ∀ id o, h id = some o → ObjR E w0.heap.size w β G id o
  own : ∀ id o b, h id = some o → Owns β id o b → w0.heap.size ≤ b ∧ b < w.heap.size ∧ D b = none
  inj : ∀ id id' o o' b, h id = some o → h id' = some o' → Owns β id o b → Owns β id' o' b → id = id'
  marks : ∀ d x, D d = some x → w0.heap.size ≤ d ∧ w.heap[d]? = some x.1 ∧ ∀ o, G d o = x.2 o

/-- No object has this number, and none had. -/
structure Fresh (β : Bi) (h : Nat → Option AObj) (id : Nat) : Prop where
  blk : β.blk id = none
  hdr : ∀ u, β.hdr id u = none
  h : h id = none

def updF (h : Nat → Option AObj) (u : List (Nat × Option AObj)) (id : Nat) : Option AObj :=
  match updFind id u with
  | some x => x
  | none => h id

theorem glt {E : Env} {w0 : World} {G0 : Gh} {D : DD} {w : World} {β : Bi} {G : Gh} {h : Nat → Option AObj} (hh : HR E w0 G0 D w β G h) {b : Nat} (hb : w.heap.size ≤ b) (o : Nat) : G b o = none := by
  cases hg : G b o with
  | none => rfl
  | some v =>
    have := hh.agree b o v hg
    have hlt := block_lt_of_cell this
    simp at hlt
    omega

theorem HR.dfree {E : Env} {w0 : World} {G0 : Gh} {D : DD} {w : World} {β : Bi} {G : Gh} {h : Nat → Option AObj} (hh : HR E w0 G0 D w β G h) {b : Nat} (hb : w.heap.size ≤ b) : D b = none := by
  cases hd : D b with
  | none => rfl
  | some x =>
    have := (Array.getElem?_eq_some_iff.1 (hh.marks _ x hd).2.1).1
    omega

/-- A cell that reads. -/
theorem cell_pub {w : World} {β : Bi} {G : Gh} (ha : ∀ b o v, G b o = some v → w.cell? ⟨b, o, none⟩ = some v) {b : Nat} :
    ∀ (ds : List DV) (o : Nat), Pub β G b o ds → ∃ vs, RepL β G ds vs ∧ ∀ j v, vs[j]? = some v → w.cell? ⟨b, o + j, none⟩ = some v
  | [], _, _ => ⟨[], repL_nil.2 rfl, by simp⟩
  | d :: ds, o, h => by
    unfold Pub at h
    obtain ⟨⟨u, h1, h2⟩, h3⟩ := h
    obtain ⟨vs, h4, h5⟩ := cell_pub ha ds (o + 1) h3
    refine ⟨u :: vs, repL_cons.2 ⟨u, vs, rfl, h2, h4⟩, fun j v hj => ?_⟩
    cases j with
    | zero => simp at hj; subst hj; exact ha _ _ _ h1
    | succ j =>
      have := h5 j v (by simpa using hj)
      rwa [show o + 1 + j = o + (j + 1) by omega] at this

theorem addr_add (b o j : Nat) : (⟨b, o, none⟩ : Addr).add j = ⟨b, o + j, none⟩ := by
  unfold Addr.add; split <;> simp_all

section tyfacts
variable {P : Program} {t : TypeId} {ti : TI} (ht : TyOk P t ti)
include ht
theorem TyOk.size : (P.info? t).map (·.size) = some ti.size := by
  obtain ⟨i, z, h1, h2, _⟩ := ht.info; simp [h1, h2]
theorem TyOk.run_sizeOf (w : World) : (sizeOf t).run P w = .ok ti.size w := by
  obtain ⟨i, z, h1, h2, _⟩ := ht.info
  simp [sizeOf, typeInfo, h1, h2]
theorem TyOk.run_zero (w : World) : ∃ z, (zeroValue t).run P w = .ok z w ∧ z.cells.size = ti.size ∧ ∀ β G, RepL β G ti.zero z.cells.toList := by
  obtain ⟨i, z, h1, h2, _, h4, h5, h6⟩ := ht.info
  exact ⟨z, by simp [zeroValue, typeInfo, h1, h4], h5, h6⟩
theorem TyOk.ko : ti.k ≠ .other := fun h => by have := ht.desc; rw [h] at this; exact this
theorem TyOk.run_isAgg (hk : ti.k ≠ .other) (w : World) : (isAgg t).run P w = .ok ti.isAgg w := by
  have hd := ht.desc
  unfold isAgg TI.isAgg
  cases hkk : ti.k <;> rw [hkk] at hd <;> simp only at hd
  all_goals first
    | (exact absurd hkk hk)
    | (rw [Sem.run_bind, Go.run_underlying hd w]; rfl)
    | (obtain ⟨f, hd, _⟩ := hd; rw [Sem.run_bind, Go.run_underlying hd w]; rfl)
    | (obtain ⟨a, b, c, hd⟩ := hd; rw [Sem.run_bind, Go.run_underlying hd w]; rfl)
    | (obtain ⟨a, hd⟩ := hd; rw [Sem.run_bind, Go.run_underlying hd w]; rfl)
end tyfacts

theorem eval_rep {β : Bi} {G : Gh} {ρ : Nat → Option DV} {a : Act} (hf : FrM β G ρ a.tmps) {x : Operand} {d : DV} (h : opnd ρ x = some d) : Rep β G d (a.eval x) := by
  cases x with
  | tmp t =>
    obtain ⟨v, hv, hr⟩ := hf t d h
    simpa [Act.eval, hv] using hr
  | const v =>
    simp only [opnd] at h
    simp only [Act.eval]
    unfold ofVal at h
    split at h <;> first | (cases h; unfold Rep; rfl) | cases h
  | func f => simp only [opnd, Option.some.injEq] at h; subst h; unfold Rep; exact ⟨[], [], rfl, repL_nil.2 rfl, repL_nil.2 rfl⟩
  | global g => cases h

theorem evals_rep {β : Bi} {G : Gh} {ρ : Nat → Option DV} {a : Act} (hf : FrM β G ρ a.tmps) : ∀ {xs : List Operand} {ds : List DV}, opnds ρ xs = some ds → RepL β G ds (xs.map a.eval)
  | [], ds, h => by simp [opnds] at h; subst h; exact repL_nil.2 rfl
  | x :: xs, ds, h => by
    simp only [opnds, Option.bind_eq_some_iff] at h
    obtain ⟨d, h1, ds', h2, h3⟩ := h
    cases h3
    exact repL_cons.2 ⟨_, _, rfl, eval_rep hf h1, evals_rep hf h2⟩

theorem FrM.mono {β β' : Bi} {G G' : Gh} (hx : Ext β G β' G') {ρ : Nat → Option DV} {tm : Array Value} (h : FrM β G ρ tm) : FrM β' G' ρ tm := fun t d ht => by
  obtain ⟨v, h1, h2⟩ := h t d ht
  exact ⟨v, h1, Rep.mono hx d v h2⟩

end Go.Ab
