/- Two values of a type of integers, bools, strings and structs of these, held against each other. -/
import Derived.Test.YtehofdemanfenaaAb24
import Derived.Laws.StructEq
import Derived.ChangeKeysEq
namespace Go.Ab
open Go.RowKit

mutual
def flatEq (P : Program) : Nat → TypeId → List DV → Bool
  | 0, _, _ => false
  | d + 1, t, zs => (match P.underlying t, zs with
    | some .bool, [.bool _] => true
    | some (.int k), [.int k' _] => k == k'
    | some .string, [.str _] => true
    | some (.struct fs), zs => !P.stoodInHeld t && flatEqs P d fs.toList 0 zs
    | some (.array n e), zs => (match P.info? e with
      | some i => Nat.beq zs.length (n * i.size) && (List.range n).all fun j => flatEq P d e ((zs.drop (j * i.size)).take i.size)
      | none => false)
    | _, _ => false)
def flatEqs (P : Program) : Nat → List Field → Nat → List DV → Bool
  | _, [], off, zs => Nat.ble zs.length off
  | 0, _ :: _, _, _ => false
  | d + 1, f :: fs, off, zs => f.name != "_" && Nat.beq f.offset off && (match P.info? f.type with
    | some i => Nat.ble (off + i.size) zs.length && flatEq P d f.type ((zs.drop off).take i.size) && flatEqs P d fs (off + i.size) zs
    | none => false)
end

theorem kinds_len : ∀ {zs xs : List DV}, kindsLike zs xs = true → xs.length = zs.length
  | [], [], _ => rfl
  | z :: zs, x :: xs, h => by
    cases z <;> cases x <;> simp only [kindsLike, Bool.false_eq_true, Bool.and_eq_true] at h
    · simp [kinds_len h]
    · simp [kinds_len h.2]
    · simp [kinds_len h]
  | [], x :: xs, h => by simp [kindsLike] at h
  | z :: zs, [], h => by cases z <;> simp [kindsLike] at h

theorem kinds_take : ∀ (k : Nat) {zs xs : List DV}, kindsLike zs xs = true → kindsLike (zs.take k) (xs.take k) = true ∧ kindsLike (zs.drop k) (xs.drop k) = true
  | 0, zs, xs, h => ⟨by simp [kindsLike], by simpa using h⟩
  | k + 1, [], [], _ => ⟨by simp [kindsLike], by simp [kindsLike]⟩
  | k + 1, z :: zs, x :: xs, h => by
    cases z <;> cases x <;> simp only [kindsLike, Bool.false_eq_true, Bool.and_eq_true] at h
    · obtain ⟨h1, h2⟩ := kinds_take k h
      exact ⟨by simpa [kindsLike] using h1, by simpa using h2⟩
    · obtain ⟨h1, h2⟩ := kinds_take k h.2
      exact ⟨by simpa [kindsLike] using ⟨by simpa using h.1, h1⟩, by simpa using h2⟩
    · obtain ⟨h1, h2⟩ := kinds_take k h
      exact ⟨by simpa [kindsLike] using h1, by simpa using h2⟩
  | k + 1, [], x :: xs, h => by simp [kindsLike] at h
  | k + 1, z :: zs, [], h => by cases z <;> simp [kindsLike] at h

def valOf (P : Program) (t : TypeId) (vs : List Value) : Value := match P.underlying t with
  | some (.struct _) => .agg vs.toArray
  | some (.array _ _) => .agg vs.toArray
  | _ => vs.headD undef

section
variable {P : Program} {β : Bi} {G : Gh}

theorem eqCells_split : ∀ (k : Nat) {xs ys : List DV} {r : Bool}, eqCells xs ys = some r → ∃ r1 r2, eqCells (xs.take k) (ys.take k) = some r1 ∧ eqCells (xs.drop k) (ys.drop k) = some r2 ∧ r = (r1 && r2)
  | 0, xs, ys, r, h => ⟨true, r, by simp [eqCells], by simpa using h, by simp⟩
  | k + 1, [], [], r, h => ⟨true, true, by simp [eqCells], by simp [eqCells], by simpa [eqCells] using h.symm⟩
  | k + 1, x :: xs, [], r, h => by cases x <;> simp [eqCells] at h
  | k + 1, [], y :: ys, r, h => by cases y <;> simp [eqCells] at h
  | k + 1, x :: xs, y :: ys, r, h => by
    cases x <;> cases y <;> simp only [eqCells, reduceCtorEq] at h
    · rename_i a b
      obtain ⟨q, h1, h2⟩ := some_bind h
      cases h2
      obtain ⟨r1, r2, k1, k2, rfl⟩ := eqCells_split k h1
      exact ⟨(a == b && r1), r2, by simp [eqCells, k1], by simpa using k2, by rw [Bool.and_assoc]⟩
    · rename_i ka a kb b
      obtain ⟨hq, h⟩ := bif_some h
      obtain ⟨q, h1, h2⟩ := some_bind h
      cases h2
      obtain ⟨r1, r2, k1, k2, rfl⟩ := eqCells_split k h1
      exact ⟨(a == b && r1), r2, by simp [eqCells, k1, hq], by simpa using k2, by rw [Bool.and_assoc]⟩
    · rename_i a b
      obtain ⟨q, h1, h2⟩ := some_bind h
      cases h2
      obtain ⟨r1, r2, k1, k2, rfl⟩ := eqCells_split k h1
      exact ⟨(a == b && r1), r2, by simp [eqCells, k1], by simpa using k2, by rw [Bool.and_assoc]⟩

theorem part_run {d : Nat} {t : TypeId} {i : TypeInfo} (hi : P.info? t = some i) {zs : List DV} (hzl : zs.length = i.size) (hf : flatEq P d t zs = true) {vs : List Value} {off : Nat} (hle : off + i.size ≤ vs.length) (w : World) :
    (part t vs.toArray off).run P w = .ok (valOf P t ((vs.drop off).take i.size)) w := by
  cases d with
  | zero => simp [flatEq] at hf
  | succ d =>
    have hsz : (sizeOf t).run P w = .ok i.size w := by simp [sizeOf, typeInfo, hi]
    simp only [flatEq] at hf
    have plain : ∀ dd, P.underlying t = some dd → (match dd with | .struct _ | .array _ _ => true | _ => false) = false → i.size = 1 → (part t vs.toArray off).run P w = .ok (valOf P t ((vs.drop off).take i.size)) w := fun dd hdd hna h1 => by
      have hag : (isAgg t).run P w = .ok false w := by
        unfold isAgg; rw [Sem.run_bind, Go.run_underlying hdd w]; cases dd <;> first | rfl | (simp at hna)
      have hlt : off < vs.length := by omega
      have hv : valOf P t ((vs.drop off).take i.size) = vs[off] := by
        unfold valOf; rw [hdd, h1, List.drop_eq_getElem_cons hlt]
        cases dd <;> first | rfl | (simp at hna)
      unfold part
      rw [Sem.run_bind, hag, hv]
      simp [Result.andThen, hlt]
    cases hu : P.underlying t with
    | none => rw [hu] at hf; cases hf
    | some dd =>
      rw [hu] at hf
      cases dd with
      | bool =>
        split at hf <;> first | (rename_i e _; exact plain _ hu rfl (by rw [← hzl]; rfl)) | cases hf | simp_all
      | int k =>
        split at hf <;> first | (rename_i e _; exact plain _ hu rfl (by rw [← hzl]; rfl)) | cases hf | simp_all
      | string =>
        split at hf <;> first | (rename_i e _; exact plain _ hu rfl (by rw [← hzl]; rfl)) | cases hf | simp_all
      | struct fs =>
        have hag : (isAgg t).run P w = .ok true w := by unfold isAgg; rw [Sem.run_bind, Go.run_underlying hu w]; rfl
        unfold part valOf
        rw [Sem.run_bind, hag, hu]
        simp [Result.andThen, hsz]
      | array n e =>
        have hag : (isAgg t).run P w = .ok true w := by unfold isAgg; rw [Sem.run_bind, Go.run_underlying hu w]; rfl
        unfold part valOf
        rw [Sem.run_bind, hag, hu]
        simp [Result.andThen, hsz]
      | _ => simp at hf

theorem eq_flat : ∀ (fuel : Nat),
    (∀ (t : TypeId) (zs : List DV), flatEq P fuel t zs = true → ∀ D, fuel ≤ D → ∀ (xs ys : List DV) (r : Bool) (vx vy : List Value) (w : World), eqCells xs ys = some r → kindsLike zs xs = true → kindsLike zs ys = true → RepL β G xs vx → RepL β G ys vy →
      (Op.equalIn D t (valOf P t vx) (valOf P t vy)).run P w = .ok r w) ∧
    (∀ (fs : List Field) (off : Nat) (zs : List DV), flatEqs P fuel fs off zs = true → ∀ D, fuel ≤ D → ∀ (xs ys : List DV) (r : Bool) (vx vy : List Value) (w : World), eqCells (xs.drop off) (ys.drop off) = some r → kindsLike zs xs = true → kindsLike zs ys = true → RepL β G xs vx → RepL β G ys vy →
      (Op.eqFields D vx.toArray vy.toArray fs).run P w = .ok r w)
  | 0 => by
    refine ⟨fun t n h => by simp [flatEq] at h, fun fs off zs h D _ xs ys r vx vy w he hx hy hrx hry => ?_⟩
    cases fs with
    | cons f fs => simp [flatEqs] at h
    | nil =>
      simp only [flatEqs] at h
      have := Nat.le_of_ble_eq_true h
      rw [List.drop_eq_nil_of_le (by rw [kinds_len hx]; exact this), List.drop_eq_nil_of_le (by rw [kinds_len hy]; exact this)] at he
      simp only [eqCells, Option.some.injEq] at he
      subst he; rfl
  | fuel + 1 => by
    obtain ⟨ih1, ih2⟩ := eq_flat fuel
    refine ⟨fun t zs h D hD xs ys r vx vy w he hx hy hrx hry => ?_, fun fs off zs h D hD xs ys r vx vy w he hx hy hrx hry => ?_⟩
    · obtain ⟨D, rfl⟩ : ∃ D', D = D' + 1 := ⟨D - 1, by omega⟩
      simp only [flatEq] at h
      have one : ∀ {zs : List DV} {vz : List Value}, zs.length = 1 → RepL β G zs vz → ∃ z v, zs = [z] ∧ vz = [v] ∧ Rep β G z v := fun {zs vz} hz hr => by
        obtain ⟨z, rfl⟩ := List.length_eq_one_iff.1 hz
        obtain ⟨v, vs', rfl, h1, h2⟩ := repL_cons.1 hr
        rw [repL_nil] at h2; subst h2
        exact ⟨z, v, rfl, rfl, h1⟩
      split at h
      · rename_i hu
        obtain ⟨x, u, rfl, rfl, h1⟩ := one (kinds_len hx) hrx
        obtain ⟨y, v, rfl, rfl, h2⟩ := one (kinds_len hy) hry
        have hv : ∀ v : Value, valOf P t [v] = v := fun v => by unfold valOf; rw [hu]; rfl
        rw [hv, hv]
        cases x <;> simp only [kindsLike, Bool.false_eq_true] at hx
        cases y <;> simp only [kindsLike, Bool.false_eq_true] at hy
        simp only [eqCells, Option.bind_some, Bool.and_true, Option.some.injEq] at he
        rw [rep_bool] at h1 h2; subst h1 h2 he
        simp [Op.equalIn, Go.run_underlying hu]
      · rename_i hu
        obtain ⟨x, u, rfl, rfl, h1⟩ := one (kinds_len hx) hrx
        obtain ⟨y, v, rfl, rfl, h2⟩ := one (kinds_len hy) hry
        have hv : ∀ v : Value, valOf P t [v] = v := fun v => by unfold valOf; rw [hu]; rfl
        rw [hv, hv]
        cases x <;> simp only [kindsLike, Bool.false_eq_true] at hx
        cases y <;> simp only [kindsLike, Bool.false_eq_true] at hy
        simp only [eqCells, Option.bind_some, Bool.and_true] at he
        obtain ⟨hq, he⟩ := bif_some he
        have hq := eq_of_beq hq
        simp only [Option.some.injEq] at he
        rw [rep_int] at h1 h2; subst h1 h2 he hq
        simp [Op.equalIn, Go.run_underlying hu]
      · rename_i hu
        obtain ⟨x, u, rfl, rfl, h1⟩ := one (kinds_len hx) hrx
        obtain ⟨y, v, rfl, rfl, h2⟩ := one (kinds_len hy) hry
        have hv : ∀ v : Value, valOf P t [v] = v := fun v => by unfold valOf; rw [hu]; rfl
        rw [hv, hv]
        cases x <;> simp only [kindsLike, Bool.false_eq_true] at hx
        cases y <;> simp only [kindsLike, Bool.false_eq_true] at hy
        simp only [eqCells, Option.bind_some, Bool.and_true, Option.some.injEq] at he
        rw [rep_str] at h1 h2; subst h1 h2 he
        simp [Op.equalIn, Go.run_underlying hu]
      · rename_i _ fs hu
        simp only [Bool.and_eq_true, Bool.not_eq_true'] at h
        have hfs : P.fieldsOf t = fs := by unfold Program.fieldsOf; rw [hu]
        have hv : ∀ vs, valOf P t vs = .agg vs.toArray := fun vs => by unfold valOf; rw [hu]
        rw [hv, hv, run_equalIn_struct w D t _ _ (by rw [hfs]; exact hu) h.1, hfs]
        exact ih2 fs.toList 0 _ h.2 D (by omega) xs ys r vx vy w (by simpa using he) hx hy hrx hry
      · rename_i m e hu
        split at h
        · rename_i i hi
          rw [Bool.and_eq_true] at h
          obtain ⟨hlen, hall⟩ := h
          have hlen := Nat.eq_of_beq_eq_true hlen
          have hv : ∀ vs, valOf P t vs = .agg vs.toArray := fun vs => by unfold valOf; rw [hu]
          have hcel : P.cellsOf e = i.size := by simp [Program.cellsOf, hi]
          rw [hv, hv, run_equalIn_array (w := w) D _ _ hu hi, hcel, List.range_eq_range']
          have hkx := kinds_len hx
          have hky := kinds_len hy
          have hlx := repL_len hrx
          have hly := repL_len hry
          have items : ∀ (c k : Nat) (r : Bool) (w : World), k + c = m → eqCells (xs.drop (k * i.size)) (ys.drop (k * i.size)) = some r → (Op.eqItems D e i.size vx.toArray vy.toArray (List.range' k c)).run P w = .ok r w := by
            intro c
            induction c with
            | zero =>
              intro k r w hk he
              have : k = m := by omega
              subst this
              rw [List.drop_eq_nil_of_le (by omega), List.drop_eq_nil_of_le (by omega)] at he
              simp only [eqCells, Option.some.injEq] at he
              subst he; rfl
            | succ c ihc =>
              intro k r w hk he
              obtain ⟨r1, r2, e1, e2, rfl⟩ := eqCells_split i.size he
              have hf1 := (List.all_eq_true.1 hall) k (List.mem_range.2 (by omega))
              have hkm : k * i.size + i.size ≤ m * i.size := by
                have := Nat.mul_le_mul_right i.size (show k + 1 ≤ m by omega)
                rwa [Nat.add_mul, Nat.one_mul] at this
              have g1 := ih1 e _ hf1 D (by omega) _ _ r1 _ _ w e1 (kinds_take i.size (kinds_take (k * i.size) hx).2).1 (kinds_take i.size (kinds_take (k * i.size) hy).2).1 (repL_take i.size (repL_drop (k * i.size) hrx)) (repL_take i.size (repL_drop (k * i.size) hry))
              rw [List.drop_drop, List.drop_drop, show k * i.size + i.size = (k + 1) * i.size by rw [Nat.add_mul, Nat.one_mul]] at e2
              have g2 := ihc (k + 1) r2 w (by omega) e2
              have p1 := part_run hi (by simp; omega) hf1 (vs := vx) (off := k * i.size) (by omega) w
              have p2 := part_run hi (by simp; omega) hf1 (vs := vy) (off := k * i.size) (by omega) w
              rw [List.range'_succ]
              simp only [Op.eqItems, Sem.run_bind, p1, p2, Result.andThen, g1]
              cases r1
              · simp
              · simpa using g2
          exact items m 0 r w (by omega) (by simpa using he)
        · cases h
      · cases h
    · cases fs with
      | nil =>
        simp only [flatEqs] at h
        have := Nat.le_of_ble_eq_true h
        rw [List.drop_eq_nil_of_le (by rw [kinds_len hx]; exact this), List.drop_eq_nil_of_le (by rw [kinds_len hy]; exact this)] at he
        simp only [eqCells, Option.some.injEq] at he
        subst he; rfl
      | cons f fs =>
        simp only [flatEqs, Bool.and_eq_true, bne_iff_ne, ne_eq] at h
        obtain ⟨⟨hname, hoff⟩, h⟩ := h
        have hoff : f.offset = off := Nat.eq_of_beq_eq_true hoff
        split at h
        · rename_i i hi
          rw [Bool.and_eq_true, Bool.and_eq_true] at h
          obtain ⟨⟨hle, hf1⟩, hf2⟩ := h
          have hle := Nat.le_of_ble_eq_true hle
          have hlx := repL_len hrx
          have hly := repL_len hry
          have hkx := kinds_len hx
          have hky := kinds_len hy
          obtain ⟨r1, r2, e1, e2, rfl⟩ := eqCells_split i.size he
          have g1 := ih1 f.type _ hf1 D (by omega) _ _ r1 _ _ w e1 (kinds_take i.size (kinds_take off hx).2).1 (kinds_take i.size (kinds_take off hy).2).1 (repL_take i.size (repL_drop off hrx)) (repL_take i.size (repL_drop off hry))
          rw [List.drop_drop, List.drop_drop] at e2
          have g2 := ih2 fs (off + i.size) zs hf2 D (by omega) xs ys r2 vx vy w e2 hx hy hrx hry
          have hzl : ((zs.drop off).take i.size).length = i.size := by simp; omega
          have p1 := part_run hi hzl hf1 (vs := vx) (off := off) (by omega) w
          have p2 := part_run hi hzl hf1 (vs := vy) (off := off) (by omega) w
          simp only [Op.eqFields, if_pos hname, hoff, Sem.run_bind, p1, p2, Result.andThen, g1]
          cases r1
          · simp
          · simpa using g2
        · cases h

/-- Keys: no arrays. -/
def noArr (P : Program) : Nat → TypeId → Bool
  | 0, _ => false
  | d + 1, t => match P.underlying t with
    | some .bool | some (.int _) | some .string => true
    | some (.struct fs) => fs.toList.all fun f => noArr P d f.type
    | _ => false

theorem key_flat (b : Bool) : ∀ (n : Nat) (t : TypeId), noArr P n t = true → ∀ (fuel : Nat) (zs : List DV), flatEq P fuel t zs = true → ∀ (d : Nat) (xs : List DV) (vx : List Value) (w : World), kindsLike zs xs = true → RepL β G xs vx →
    (Instr.checkKey b (d + n) t (valOf P t vx)).run P w = .ok () w
  | 0, _, h => by simp [noArr] at h
  | n + 1, t, h => fun fuel zs hf d xs vx w hk hr => by
    cases fuel with
    | zero => simp [flatEq] at hf
    | succ fuel =>
    unfold noArr at h
    simp only [flatEq] at hf
    rw [show d + (n + 1) = (d + n) + 1 from rfl]
    have one : ∀ {zs : List DV}, zs.length = 1 → kindsLike zs xs = true → ∃ x v, xs = [x] ∧ vx = [v] ∧ Rep β G x v := fun {zs} hz hk => by
      have hl := kinds_len hk
      rw [hz] at hl
      obtain ⟨x, rfl⟩ := List.length_eq_one_iff.1 hl
      obtain ⟨v, vs', rfl, h1, h2⟩ := repL_cons.1 hr
      rw [repL_nil] at h2; subst h2
      exact ⟨x, v, rfl, rfl, h1⟩
    cases hu : P.underlying t with
    | none => rw [hu] at h; cases h
    | some dd =>
      rw [hu] at h hf
      cases dd with
      | bool => exact check_plain hu trivial _
      | int k => exact check_plain hu trivial _
      | string => exact check_plain hu trivial _
      | struct fs =>
        simp only [Bool.and_eq_true, Bool.not_eq_true', List.all_eq_true] at hf h
        have hv : valOf P t vx = .agg vx.toArray := by unfold valOf; rw [hu]
        rw [hv, Instr.checkKey]
        simp only [Sem.run_bind, run_underlying hu, Result.andThen_ok]
        rw [← Array.forIn_toList]
        have main : ∀ (L : List Field) (fuel off : Nat), (∀ f ∈ L, noArr P n f.type = true) → flatEqs P fuel L off zs = true →
            (forIn L PUnit.unit (fun f (_ : PUnit) => (if f.name ≠ "_" then do
              Instr.checkKey b (d + n) f.type (← part f.type vx.toArray f.offset)
              pure (ForInStep.yield PUnit.unit) else pure (ForInStep.yield PUnit.unit) : Sem (ForInStep PUnit)))).run P w = .ok PUnit.unit w := by
          intro L
          induction L with
          | nil => intro fuel off _ _; rfl
          | cons f L ih =>
            intro fuel off hL hfl
            cases fuel with
            | zero => simp [flatEqs] at hfl
            | succ fuel =>
              simp only [flatEqs, Bool.and_eq_true, bne_iff_ne, ne_eq] at hfl
              obtain ⟨⟨hname, hoff⟩, hfl⟩ := hfl
              have hoff : f.offset = off := Nat.eq_of_beq_eq_true hoff
              split at hfl
              · rename_i i hi
                rw [Bool.and_eq_true, Bool.and_eq_true] at hfl
                obtain ⟨⟨hle, hf1⟩, hf2⟩ := hfl
                have hle := Nat.le_of_ble_eq_true hle
                have hlx := repL_len hr
                have hkx := kinds_len hk
                have hzl : ((zs.drop off).take i.size).length = i.size := by simp; omega
                have p1 := part_run hi hzl hf1 (vs := vx) (off := off) (by omega) w
                have p2 := key_flat b n f.type (hL f (by simp)) fuel _ hf1 d _ _ w (kinds_take i.size (kinds_take off hk).2).1 (repL_take i.size (repL_drop off hr))
                simp only [List.forIn_cons, Sem.run_bind, hname, ne_eq, not_false_eq_true, if_true, Result.andThen_ok, hoff, p1, p2, Sem.run_pure]
                exact ih fuel (off + i.size) (fun g hg => hL g (by simp [hg])) hf2
              · cases hfl
        have hm := main fs.toList fuel 0 h hf.2
        simp only [ne_eq, ite_not] at hm ⊢
        simp at hm ⊢
        rw [hm]
        rfl
      | _ => cases h

end
end Go.Ab
