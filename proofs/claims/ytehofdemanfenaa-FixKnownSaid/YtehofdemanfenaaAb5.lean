/- Each operation: what the evaluator answers is what the model does. First those that look at no memory. -/
import Derived.Test.YtehofdemanfenaaAb4
namespace Go.Ab
open Go.RowKit

def OpRes (P : Program) (E : Env) (w0 : World) (G0 : Gh) (D : DD) (o : Oper) (a : Act) (w : World) (β : Bi) (G : Gh) (h : Nat → Option AObj) (nid : Nat) (r : Out) : Prop :=
  ∃ nx v w' β' G', (execOp a.eval o).run P w = .ok nx w' ∧ (nx = .value v ∨ nx = .skip ∧ v = undef) ∧ (∀ d, r.val = some d → Rep β' G' d v) ∧
    Ext β G β' G' ∧ HR E w0 G0 D w' β' G' (updF h r.upd) ∧ Kept β β' h (updF h r.upd) nid

section
variable {P : Program} {E : Env} {w0 : World} {G0 : Gh} {D : DD} {o : Oper} {a : Act} {w : World} {β : Bi} {G : Gh} {h : Nat → Option AObj} {nid : Nat}

theorem updF_nil (h : Nat → Option AObj) : updF h [] = h := rfl

theorem OpRes.pure (hh : HR E w0 G0 D w β G h) {d : DV} {v : Value} (hr : (execOp a.eval o).run P w = .ok (.value v) w) (hv : Rep β G d v) : OpRes P E w0 G0 D o a w β G h nid ⟨some d, []⟩ :=
  ⟨.value v, v, w, β, G, hr, .inl rfl, fun d' hd => by cases hd; exact hv, Ext.refl β G, by rw [updF_nil]; exact hh, Kept.refl β h nid⟩

theorem ret_some {d : DV} {r : Out} (h : ret d = some r) : r = ⟨some d, []⟩ := by cases h; rfl

theorem some_bind {α γ : Type} {x : Option α} {f : α → Option γ} {r : γ} (h : x.bind f = some r) : ∃ y, x = some y ∧ f y = some r := Option.bind_eq_some_iff.1 h

theorem bif_some {α : Type} {c : Bool} {x : Option α} {r : α} (h : (bif c then x else none) = some r) : c = true ∧ x = some r := by
  cases c
  · cases h
  · exact ⟨rfl, h⟩

theorem rep_int {k : IntKind} {n : Int} {v : Value} : Rep β G (.int k n) v ↔ v = .int k n := by conv => lhs; unfold Rep
theorem rep_bool {b : Bool} {v : Value} : Rep β G (.bool b) v ↔ v = .bool b := by conv => lhs; unfold Rep
theorem rep_str {s : ByteArray} {v : Value} : Rep β G (.str s) v ↔ v = .string s := by conv => lhs; unfold Rep
theorem rep_agg {cs : List DV} {v : Value} : Rep β G (.agg cs) v ↔ ∃ vs, v = .agg vs.toArray ∧ RepL β G cs vs := by conv => lhs; unfold Rep
theorem rep_tup {cs : List DV} {v : Value} : Rep β G (.tup cs) v ↔ ∃ vs, v = .tuple vs.toArray ∧ RepL β G cs vs := by conv => lhs; unfold Rep
theorem rep_ptr {i n : Nat} {v : Value} : Rep β G (.ptr i n) v ↔ ∃ b, β.blk i = some b ∧ v = .pointer (some ⟨b, n, none⟩) := by conv => lhs; unfold Rep
theorem rep_pub {cs : List DV} {v : Value} : Rep β G (.pub cs) v ↔ idfrees cs = true ∧ ∃ b o, v = .pointer (some ⟨b, o, none⟩) ∧ Pub β G b o cs := by conv => lhs; unfold Rep
theorem rep_rptr {i w j e n : Nat} {v : Value} : Rep β G (.rptr i w j e n) v ↔ ∃ b m c, β.hdr i w = some (.slice (some ⟨b, 0, none⟩) m c) ∧ v = .pointer (some ⟨b, j * e + n, none⟩) := by conv => lhs; unfold Rep
theorem rep_rs {i w : Nat} {v : Value} : Rep β G (.rs i w) v ↔ β.hdr i w = some v ∧ ∃ a n c, v = .slice a n c := by conv => lhs; unfold Rep
theorem rep_sl {es : List (List DV)} {v : Value} : Rep β G (.sl es) v ↔ ∃ a c, (v = .slice a es.length c ∧ es.length ≤ c) ∧ (es = [] ∨ ∃ b o e, a = some ⟨b, o, none⟩ ∧ PubE β G b e o es) := by conv => lhs; unfold Rep
theorem rep_nils {v : Value} : Rep β G .nils v ↔ v = .slice none 0 0 := by conv => lhs; unfold Rep
theorem rep_fn {f : Fn} {x c : List DV} {v : Value} : Rep β G (.fn f x c) v ↔ ∃ as cs, v = .func f as.toArray cs.toArray ∧ RepL β G x as ∧ RepL β G c cs := by conv => lhs; unfold Rep
theorem rep_map {i : Nat} {v : Value} : Rep β G (.map i) v ↔ ∃ b, β.blk i = some b ∧ v = .map (some b) := by conv => lhs; unfold Rep
theorem rep_iter {i : Nat} {v : Value} : Rep β G (.iter i) v ↔ ∃ b, β.blk i = some b ∧ v = .pointer (some ⟨b, 0, none⟩) := by conv => lhs; unfold Rep
theorem rep_yld {i : Nat} {v : Value} : Rep β G (.yld i) v ↔ ∃ b, β.blk i = some b ∧ v = .func (.yield b) #[] #[] := by conv => lhs; unfold Rep
theorem rep_nilmap {v : Value} : Rep β G .nilmap v ↔ v = .map none := by conv => lhs; unfold Rep
theorem rep_nilp {v : Value} : Rep β G .nilp v ↔ v = .pointer none := by conv => lhs; unfold Rep

/-! Integers -/
theorem cmpB_sound {op : BinOp} {x y : Int} {d : DV} (hd : cmpB op x y = some d) : ∃ v, (Op.intCmp op x y).run P w = .ok v w ∧ Rep β G d v := by
  unfold cmpB at hd
  split at hd <;> cases hd <;> exact ⟨_, rfl, rep_bool.2 rfl⟩

theorem bitsB_sound {op : BinOp} {k : IntKind} {x y : Int} {d : DV} (hd : bitsB op k x y = some d) : ∃ v, (Op.intBits op k x y).run P w = .ok v w ∧ Rep β G d v := by
  unfold bitsB at hd
  simp only at hd
  split at hd <;> cases hd <;> exact ⟨_, rfl, rep_int.2 rfl⟩

theorem shiftB_sound {op : BinOp} {k k' : IntKind} {x y : Int} {d : DV} (hd : shiftB op k x y = some d) : ∃ v, (Op.shift op k x k' y).run P w = .ok v w ∧ Rep β G d v := by
  unfold shiftB at hd
  cases hy : decide (y < 0) with
  | true => rw [hy] at hd; cases hd
  | false =>
    rw [hy] at hd
    have hn : ¬ y < 0 := by simpa using hy
    simp only [cond_false] at hd
    split at hd
    · cases hd; exact ⟨_, by simp only [Op.shift, if_neg hn]; rfl, rep_int.2 rfl⟩
    · cases hd; exact ⟨_, by simp only [Op.shift, if_neg hn]; rfl, rep_int.2 rfl⟩
    · cases hd

theorem intB_sound {op : BinOp} {k : IntKind} {x y : Int} {t : TypeId} {d : DV} (hs : isShift op = false) (hd : intB op k x y = some d) :
    ∃ v, (binOp op t (.int k x) (.int k y)).run P w = .ok v w ∧ Rep β G d v := by
  cases op <;> simp only [isShift, Bool.true_eq_false] at hs <;> simp only [intB] at hd
  case add => cases hd; exact ⟨_, by simp [binOp, Op.intArith], rep_int.2 rfl⟩
  case sub => cases hd; exact ⟨_, by simp [binOp, Op.intArith], rep_int.2 rfl⟩
  case mul => cases hd; exact ⟨_, by simp [binOp, Op.intArith], rep_int.2 rfl⟩
  case quo =>
    cases hy : y == 0 with
    | true => rw [hy] at hd; cases hd
    | false =>
      rw [hy] at hd
      have hn : ¬ y = 0 := by simpa using hy
      cases hd
      exact ⟨_, by simp only [binOp, Op.intDiv, if_neg hn]; simp, rep_int.2 rfl⟩
  case rem =>
    cases hy : y == 0 with
    | true => rw [hy] at hd; cases hd
    | false =>
      rw [hy] at hd
      have hn : ¬ y = 0 := by simpa using hy
      cases hd
      exact ⟨_, by simp only [binOp, Op.intDiv, if_neg hn]; simp, rep_int.2 rfl⟩
  all_goals first
    | (obtain ⟨v, h1, h2⟩ := bitsB_sound (P := P) (w := w) (β := β) (G := G) hd; exact ⟨v, by simpa [binOp] using h1, h2⟩)
    | (obtain ⟨v, h1, h2⟩ := cmpB_sound (P := P) (w := w) (β := β) (G := G) hd; exact ⟨v, by simpa [binOp] using h1, h2⟩)

theorem strB_sound {op : BinOp} {x y : ByteArray} {t : TypeId} {d : DV} (hd : strB op x y = some d) : ∃ v, (binOp op t (.string x) (.string y)).run P w = .ok v w ∧ Rep β G d v := by
  cases op <;> simp only [strB, reduceCtorEq] at hd
  case add =>
    obtain ⟨h1, h2⟩ := bif_some hd
    cases h2
    have hle : x.size + y.size ≤ 1099511627776 := Nat.le_of_ble_eq_true h1
    refine ⟨_, ?_, rep_str.2 rfl⟩
    have hn : ¬ (((x.size + y.size : Nat) : Int) > IntKind.i64.max) := by
      have : IntKind.i64.max = 9223372036854775807 := by decide
      omega
    simp only [binOp, Op.stringOp, if_neg hn]
    rfl
  all_goals (cases hd; exact ⟨_, by simp only [binOp, Op.stringOp]; rfl, rep_bool.2 rfl⟩)

theorem run_v {o : Oper} {s : Sem Value} {v : Value} (he : execOp a.eval o = (do Pure.pure (Next.value (← s)))) (hs : s.run P w = .ok v w) : (execOp a.eval o).run P w = .ok (.value v) w := by
  rw [he]; simp [hs]

theorem eqGuard_int {op : BinOp} {t : TypeId} {x y : Operand} {u v : Value} (hu : u ≠ .nilIface) (ha : ∀ cs, u ≠ .agg cs) : (eqGuard op t x y u v).run P w = .ok () w := by
  unfold eqGuard
  cases u <;> first | exact absurd rfl hu | exact absurd rfl (ha _) | (cases op <;> rfl)

theorem eqGuard_agg {op : BinOp} {t : TypeId} {x y : Operand} {u v : Array Value} (hg : P.eqGuardType P.depth t = false) : (eqGuard op t x y (.agg u) (.agg v)).run P w = .ok () w := by
  unfold eqGuard
  cases op <;> first | rfl | (simp [hg, Sem.run_bind])

theorem run_equalIn_bool {t : TypeId} (hu : P.underlying t = some .bool) (d : Nat) (x y : Bool) : (Op.equalIn (d + 1) t (.bool x) (.bool y)).run P w = .ok (x == y) w := by
  simp [Op.equalIn, Go.run_underlying hu]
theorem run_equalIn_snil {t e : TypeId} (hu : P.underlying t = some (.slice e)) (d : Nat) (A : Addr) (n c : Nat) : (Op.equalIn (d + 1) t (.slice (some A) n c) (.slice none 0 0)).run P w = .ok false w := by
  simp [Op.equalIn, Go.run_underlying hu]
theorem run_equal_snil {t e : TypeId} (hu : P.underlying t = some (.slice e)) (A : Addr) (n c : Nat) : (Op.equal t (.slice (some A) n c) (.slice none 0 0)).run P w = .ok false w :=
  run_equalIn_snil hu 9999 A n c
theorem run_equal_bool {t : TypeId} (hu : P.underlying t = some .bool) (x y : Bool) : (Op.equal t (.bool x) (.bool y)).run P w = .ok (x == y) w :=
  run_equalIn_bool hu 9999 x y

theorem binD_sound (hE : ∀ t ti, E.ty t = some ti → TyOk P t ti) {op : BinOp} {t : TypeId} {x y : Operand} {dx dy d : DV} {u v : Value} (hd : binD E op t dx dy = some d)
    (hx : Rep β G dx u) (hy : Rep β G dy v) : ∃ r, (do eqGuard op t x y u v; binOp op t u v : Sem Value).run P w = .ok r w ∧ Rep β G d r := by
  unfold binD at hd
  split at hd
  · rename_i k n k' m
    rw [rep_int] at hx hy
    subst hx hy
    have hg : (eqGuard op t x y (.int k n) (.int k' m)).run P w = .ok () w := eqGuard_int (by simp) (by simp)
    cases hs : isShift op with
    | true =>
      rw [hs] at hd
      obtain ⟨r, h1, h2⟩ := shiftB_sound (P := P) (w := w) (β := β) (G := G) (k' := k') hd
      refine ⟨r, ?_, h2⟩
      rw [Sem.run_bind, hg]
      cases op <;> simp [isShift] at hs <;> simpa [binOp, Result.andThen] using h1
    | false =>
      rw [hs] at hd
      simp only [cond_false] at hd
      obtain ⟨hk, hd2⟩ := bif_some hd
      clear hd
      have hk : k = k' := by simpa using hk
      subst hk
      obtain ⟨r, h1, h2⟩ := intB_sound (P := P) (w := w) (β := β) (G := G) (t := t) hs hd2
      refine ⟨r, ?_, h2⟩
      rw [Sem.run_bind, hg]
      simpa [Result.andThen] using h1
  · rename_i s s'
    rw [rep_str] at hx hy
    subst hx hy
    obtain ⟨r, h1, h2⟩ := strB_sound (P := P) (w := w) (β := β) (G := G) (t := t) hd
    refine ⟨r, ?_, h2⟩
    rw [Sem.run_bind, eqGuard_int (by simp) (by simp)]
    simpa [Result.andThen] using h1
  · rename_i b b'
    obtain ⟨ti, ht, hd⟩ := some_bind hd
    have hu := (hE t ti ht).desc
    rw [rep_bool] at hx hy
    subst hx hy
    have hg : (eqGuard op t x y (.bool b) (.bool b')).run P w = .ok () w := eqGuard_int (by simp) (by simp)
    split at hd
    · rename_i hk _
      rw [hk] at hu
      cases hd
      exact ⟨_, by rw [Sem.run_bind, hg]; simp [Result.andThen, binOp, run_equal_bool hu], rep_bool.2 rfl⟩
    · rename_i hk _
      rw [hk] at hu
      cases hd
      exact ⟨_, by rw [Sem.run_bind, hg]; simp [Result.andThen, binOp, run_equal_bool hu], rep_bool.2 rfl⟩
    · cases hd
  · rename_i cs cs'
    obtain ⟨ti, ht, hd⟩ := some_bind hd
    obtain ⟨hc, hd⟩ := bif_some hd
    simp only [Bool.and_eq_true] at hc
    obtain ⟨⟨heq, hl1⟩, hl2⟩ := hc
    obtain ⟨hrun, hg⟩ := (hE t ti ht).eqr heq
    rw [rep_agg] at hx hy
    obtain ⟨vx, rfl, hx⟩ := hx
    obtain ⟨vy, rfl, hy⟩ := hy
    have hgr : (eqGuard op t x y (.agg vx.toArray) (.agg vy.toArray)).run P w = .ok () w := eqGuard_agg hg
    split at hd
    · obtain ⟨r, h1, h2⟩ := some_bind hd
      cases h2
      have := hrun cs cs' r h1 hl1 hl2 β G vx vy w hx hy
      exact ⟨_, by rw [Sem.run_bind, hgr]; simp [Result.andThen, binOp, this], rep_bool.2 rfl⟩
    · obtain ⟨r, h1, h2⟩ := some_bind hd
      cases h2
      have := hrun cs cs' r h1 hl1 hl2 β G vx vy w hx hy
      exact ⟨_, by rw [Sem.run_bind, hgr]; simp [Result.andThen, binOp, this], rep_bool.2 rfl⟩
    · cases hd
  · rename_i c cs
    obtain ⟨ti, ht, hd⟩ := some_bind hd
    have hu := (hE t ti ht).desc
    unfold Rep at hx
    obtain ⟨a, cp, ⟨rfl, _⟩, h | ⟨b, o, e, rfl, _⟩⟩ := hx
    · cases h
    rw [rep_nils] at hy
    subst hy
    have hg : (eqGuard op t x y (.slice (some ⟨b, o, none⟩) (c :: cs).length cp) (.slice none 0 0)).run P w = .ok () w := eqGuard_int (by simp) (by simp)
    split at hd
    · rename_i hk _
      rw [hk] at hu
      cases hd
      exact ⟨_, by rw [Sem.run_bind, hg]; simp [Result.andThen, binOp, run_equal_snil hu], rep_bool.2 rfl⟩
    · rename_i hk _
      rw [hk] at hu
      cases hd
      exact ⟨_, by rw [Sem.run_bind, hg]; simp [Result.andThen, binOp, run_equal_snil hu], rep_bool.2 rfl⟩
    · cases hd
  · cases hd

end
end Go.Ab
