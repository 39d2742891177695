/- Operations, continued: slices cut; elements; maps; strings; and all of them in one theorem. -/
import Derived.Test.YtehofdemanfenaaAb12
namespace Go.Ab
open Go.RowKit

section
variable {P : Program} {E : Env} {w0 : World} {G0 : Gh} {D : DD} {o : Oper} {a : Act} {w : World} {β : Bi} {G : Gh} {h : Nat → Option AObj} {nid : Nat} {ρ : Nat → Option DV}

theorem indexAt_array {t : TypeId} {ti ei : TI} (ht : TyOk P t ti) {len e : Nat} (hk : ti.k = .array len e) (he : TyOk P e ei) {x d : DV} {di : DV} {u v : Value} {i : Nat} (hx : Rep β G x u) (hi : Rep β G di v) (hid : idxOf len di = some i)
    (hd : addrOff x (i * ei.size) = some d) : ∃ r, (Instr.indexAt t u v).run P w = .ok r w ∧ Rep β G d r := by
  have hdesc := ht.desc
  rw [hk] at hdesc
  obtain ⟨k, rfl, hlt⟩ := idx_some hid hi
  obtain ⟨b, rfl, hr⟩ := addrOff_sound hx hd
  refine ⟨_, ?_, hr⟩
  have h1 : (0 : Int) ≤ (i : Int) ∧ (i : Int) < (len : Int) := ⟨by omega, by omega⟩
  simp [Instr.indexAt, asIntOf, Go.run_underlying hdesc, Instr.sureAddr, he.run_sizeOf, h1, hlt]

theorem indexAt_slice {t : TypeId} {ti ei : TI} (ht : TyOk P t ti) {e : Nat} (hk : ti.k = .slice e) (he : TyOk P e ei) {di : DV} {v : Value} {i n c : Nat} {A : Addr} (hi : Rep β G di v) (hid : idxOf n di = some i) :
    (Instr.indexAt t (.slice (some A) n c) v).run P w = .ok (.pointer (some (A.add (i * ei.size)))) w := by
  have hdesc := ht.desc
  rw [hk] at hdesc
  obtain ⟨k, rfl, hlt⟩ := idx_some hid hi
  have h1 : (0 : Int) ≤ (i : Int) ∧ (i : Int) < (n : Int) := ⟨by omega, by omega⟩
  simp [Instr.indexAt, asIntOf, Go.run_underlying hdesc, he.run_sizeOf, h1, hlt]

theorem pubE_get {b e : Nat} : ∀ {es : List (List DV)} {off i : Nat} {c : List DV}, PubE β G b e off es → es[i]? = some c → idfrees c = true ∧ Pub β G b (off + i * e) c ∧ c.length = e
  | [], _, i, c, _, h => by simp at h
  | x :: es, off, 0, c, hp, h => by
    simp at h; subst h
    unfold PubE at hp
    exact ⟨hp.2.1.1, by simpa using hp.2.2.1, hp.1⟩
  | x :: es, off, i + 1, c, hp, h => by
    unfold PubE at hp
    obtain ⟨h1, h2, h3⟩ := pubE_get (i := i) (c := c) hp.2.2.2 (by simpa using h)
    refine ⟨h1, ?_, h3⟩
    rwa [show off + (i + 1) * e = off + e + i * e by rw [Nat.add_mul, Nat.one_mul]; omega]

theorem index_sound (hE : ∀ t ti, E.ty t = some ti → TyOk P t ti) {t : TypeId} {ti : TI} (ht : TyOk P t ti) {x di d : DV} {u v : Value} 
    (hd : (match ti.k, x with
      | .array len e, .agg cs => (E.ty e).bind fun ei => (idxOf len di).bind fun i => partOf ei cs (i * ei.size)
      | .string, .str s => (idxOf s.size di).bind fun i => (s[i]?).bind fun b => some (.int .u8 b.toNat)
      | _, _ => none) = some d) (hx : Rep β G x u) (hi : Rep β G di v) : ∃ r, (Instr.index t u v).run P w = .ok r w ∧ Rep β G d r := by
  have hdesc := ht.desc
  split at hd <;> rename_i hk
  · rename_i len e cs
    rw [hk] at hdesc
    obtain ⟨ei, hei, hd⟩ := some_bind hd
    obtain ⟨i, hid, hd⟩ := some_bind hd
    obtain ⟨k, rfl, hlt⟩ := idx_some hid hi
    obtain ⟨vs, rfl, hr⟩ := rep_agg.1 hx
    obtain ⟨r, h1, h2⟩ := part_sound (w := w) (hE e ei hei) (hE e ei hei).ko hr hd
    have h3 : (0 : Int) ≤ (i : Int) ∧ (i : Int) < (len : Int) := ⟨by omega, by omega⟩
    exact ⟨r, by simp [Instr.index, asIntOf, Go.run_underlying hdesc, (hE e ei hei).run_sizeOf, h3, hlt, h1], h2⟩
  · rename_i s
    rw [hk] at hdesc
    obtain ⟨i, hid, hd⟩ := some_bind hd
    obtain ⟨b, hb, hd⟩ := some_bind hd
    cases hd
    obtain ⟨k, rfl, hlt⟩ := idx_some hid hi
    rw [rep_str] at hx; subst hx
    have h3 : (0 : Int) ≤ (i : Int) := by omega
    exact ⟨_, by simp [Instr.index, asIntOf, Go.run_underlying hdesc, h3, hb], rep_int.2 rfl⟩
  · cases hd

theorem field_sound (hE : ∀ t ti, E.ty t = some ti → TyOk P t ti) {t : TypeId} {ti : TI} (ht : TyOk P t ti) {f : Nat} {x d : DV} {u : Value}
    (hd : (match ti.k, x with
      | .struct fs, .agg cs => (fs[f]?).bind fun (ft, off) => (E.ty ft).bind fun fi => partOf fi cs off
      | _, _ => none) = some d) (hx : Rep β G x u) : ∃ r, (Instr.field t u f).run P w = .ok r w ∧ Rep β G d r := by
  split at hd <;> rename_i hk
  · rename_i fs cs
    obtain ⟨⟨ft, off⟩, hf, hd⟩ := some_bind hd
    obtain ⟨fi, hfi, hd⟩ := some_bind hd
    obtain ⟨fields, fd, h1, h2, h3, h4⟩ := struct_field ht hk hf
    obtain ⟨vs, rfl, hr⟩ := rep_agg.1 hx
    obtain ⟨r, h5, h6⟩ := part_sound (w := w) (hE ft fi hfi) (hE ft fi hfi).ko hr hd
    exact ⟨r, by simp [Instr.field, Go.run_underlying h1, h2, asAgg, h3, h4, h5], h6⟩
  · cases hd

/-! Slices of slices, and of strings -/
def OptR (β : Bi) (G : Gh) (d : Option DV) (v : Option Value) : Prop := d = none ∧ v = none ∨ ∃ d' v', d = some d' ∧ v = some v' ∧ Rep β G d' v'

theorem opt_rep (hf : FrM β G ρ a.tmps) {x : Option Operand} {d : Option DV} (hd : optOpnd ρ x = some d) : OptR β G d (x.map a.eval) := by
  cases x with
  | none => simp only [optOpnd, Option.some.injEq] at hd; subst hd; exact .inl ⟨rfl, rfl⟩
  | some x =>
    simp only [optOpnd] at hd
    obtain ⟨d', h1, h2⟩ := some_bind hd
    cases h2
    exact .inr ⟨d', _, rfl, rfl, eval_rep hf h1⟩

theorem sb_sound {d : DV} {v : Value} {dflt y cap m : Nat} {code : BoundsCode} (hd : boundD (some d) dflt y = some m) (hr : Rep β G d v) (hc : y ≤ cap) : (Instr.sliceBound v cap code).run P w = .ok m w ∧ m ≤ y := by
  cases d with
  | int k i =>
    rw [rep_int] at hr; subst hr
    simp only [boundD] at hd
    obtain ⟨hq, hd⟩ := bif_some hd
    simp only [Bool.and_eq_true, decide_eq_true_eq] at hq
    cases hd
    refine ⟨?_, by omega⟩
    have : (0 : Int) ≤ i ∧ i ≤ (cap : Int) := ⟨hq.1, by omega⟩
    simp [Instr.sliceBound, asIntOf, this]
  | _ => cases hd

theorem bounds_sound {isSlice : Bool} {n cap : Nat} {lo hi : Option DV} {vlo vhi : Option Value} (hl : OptR β G lo vlo) (hh : OptR β G hi vhi) {l m : Nat}
    (h1 : boundD hi n n = some m) (h2 : boundD lo 0 m = some l) (hc : n ≤ cap) : (Instr.sliceBounds isSlice n cap vlo vhi none).run P w = .ok (l, m, cap) w ∧ l ≤ m ∧ m ≤ n := by
  rcases hh with ⟨rfl, rfl⟩ | ⟨dh, vh, rfl, rfl, hrh⟩ <;> rcases hl with ⟨rfl, rfl⟩ | ⟨dl, vl, rfl, rfl, hrl⟩
  · cases h1; cases h2
    exact ⟨by simp [Instr.sliceBounds], by omega, Nat.le_refl _⟩
  · cases h1
    obtain ⟨k1, k2⟩ := sb_sound (P := P) (w := w) (code := .sliceB) h2 hrl (Nat.le_refl _)
    exact ⟨by simp [Instr.sliceBounds, k1], k2, Nat.le_refl _⟩
  · cases h2
    obtain ⟨k1, k2⟩ := sb_sound (P := P) (w := w) (code := if isSlice then .sliceAcap else .sliceAlen) h1 hrh hc
    exact ⟨by simp [Instr.sliceBounds, k1], by omega, k2⟩
  · obtain ⟨k1, k2⟩ := sb_sound (P := P) (w := w) (code := if isSlice then .sliceAcap else .sliceAlen) h1 hrh hc
    obtain ⟨k3, k4⟩ := sb_sound (P := P) (w := w) (code := .sliceB) h2 hrl (Nat.le_refl _)
    exact ⟨by simp [Instr.sliceBounds, k1, k3], k4, k2⟩

theorem pubE_take {b e : Nat} : ∀ {es : List (List DV)} {off : Nat} (n : Nat), PubE β G b e off es → PubE β G b e off (es.take n)
  | [], _, n, _ => by simp [PubE]
  | _ :: _, _, 0, _ => by simp [PubE]
  | x :: es, off, n + 1, h => by
    unfold PubE at h
    simp only [List.take_succ_cons]
    unfold PubE
    exact ⟨h.1, h.2.1, h.2.2.1, pubE_take n h.2.2.2⟩
theorem pubE_drop {b e : Nat} : ∀ {es : List (List DV)} {off : Nat} (n : Nat), PubE β G b e off es → PubE β G b e (off + n * e) (es.drop n)
  | [], _, n, _ => by simp [PubE]
  | _ :: _, _, 0, h => by simpa using h
  | x :: es, off, n + 1, h => by
    unfold PubE at h
    have := pubE_drop n h.2.2.2
    rwa [show off + e + n * e = off + (n + 1) * e by rw [Nat.add_mul, Nat.one_mul]; omega] at this

/-- A slice of a slice, all of it shown before. -/
theorem slice_sound {t : TypeId} {ti ei : TI} (ht : TyOk P t ti) {e : Nat} (hk : ti.k = .slice e) (he : TyOk P e ei) {es : List (List DV)} {u : Value} (hsh : ∃ A c, u = .slice A es.length c ∧ es.length ≤ c ∧ (es = [] ∨ ∃ b off, A = some ⟨b, off, none⟩ ∧ PubE β G b ei.size off es))
    {lo hi : Option DV} {vlo vhi : Option Value} (hl : OptR β G lo vlo) (hh : OptR β G hi vhi) {d : DV} (hd : subSl es lo hi = some d) :
    ∃ r, (Instr.sliceAt t u vlo vhi none).run P w = .ok r w ∧ Rep β G d r := by
  have hdesc := ht.desc
  rw [hk] at hdesc
  obtain ⟨A, c, rfl, hle, hcell⟩ := hsh
  unfold subSl at hd
  obtain ⟨m, h1, hd⟩ := some_bind hd
  obtain ⟨l, h2, hd⟩ := some_bind hd
  cases hd
  obtain ⟨k1, k2, k3⟩ := bounds_sound (P := P) (w := w) (isSlice := true) hl hh h1 h2 hle
  have hlen : ((es.take m).drop l).length = m - l := by simp; omega
  refine ⟨.slice (if c = l then A else A.map (·.add (l * ei.size))) (m - l) (c - l), by simp [Instr.sliceAt, Instr.slice, Go.run_underlying hdesc, k1, he.run_sizeOf], rep_sl.2 ?_⟩
  rw [hlen]
  refine ⟨_, _, ⟨rfl, by omega⟩, ?_⟩
  rcases hcell with rfl | ⟨b, off, rfl, hp⟩
  · exact .inl (by simp)
  · by_cases hcl : c = l
    · left
      have : m = l := by omega
      subst this
      simp
    · right
      refine ⟨b, off + l * ei.size, ei.size, ?_, pubE_drop l (pubE_take m hp)⟩
      simp [hcl, addr_add]

end
end Go.Ab
