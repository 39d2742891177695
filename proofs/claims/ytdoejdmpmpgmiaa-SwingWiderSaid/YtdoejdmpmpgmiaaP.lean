/- The plain functions of the program and of the document answer alike. -/
import Derived.Test.YtdoejdmpmpgmiaaD
import Derived.Test.YtdoejdmpmpgmiaaY
set_option linter.unusedSectionVars false
set_option linter.unusedVariables false
set_option linter.unusedSimpArgs false
namespace Nore.Geo

def vxL : List Int := [0, 195, 383, 556, 707, 831, 924, 981, 1000, 981, 924, 831, 707, 556, 383, 195, 0, -195, -383, -556, -707, -831, -924, -981, -1000, -981, -924, -831, -707, -556, -383, -195]
def vyL : List Int := [1000, 981, 924, 831, 707, 556, 383, 195, 0, -195, -383, -556, -707, -831, -924, -981, -1000, -981, -924, -831, -707, -556, -383, -195, 0, 195, 383, 556, 707, 831, 924, 981]
def vx (p : Nat) : Int := vxL.getD p 0
def vy (p : Nat) : Int := vyL.getD p 0
def crs (p : Nat) (X Y : Int) : Int := vx p * Y - vy p * X
def cc (p q : Nat) : Int := vx p * vy q - vy p * vx q

theorem plucker (t u p : Nat) (X Y : Int) : cc u t * crs p X Y = cc p t * crs u X Y + (- crs t X Y) * cc p u := by
  unfold cc crs
  generalize vx t = a, vy t = b, vx u = c, vy u = d, vx p = e, vy p = f
  grind

def Tow (t : Nat) (X Y : Int) : Prop := crs t X Y ≤ 0 ∧ crs ((t + 1) % 32) X Y > 0

theorem tab0 : ∀ t, t < 32 → cc ((t + 1) % 32) t > 0 := by decide
theorem tab1 : ∀ t, t < 32 → ∀ j, j < 15 → cc ((t + (j + 1)) % 32) t > 0 ∧ cc ((t + (j + 1)) % 32) ((t + 1) % 32) ≥ 0 := by decide
theorem tab2 : ∀ t, t < 32 → ∀ j, j < 16 → cc ((t + (j + 17)) % 32) t ≤ 0 ∧ cc ((t + (j + 17)) % 32) ((t + 1) % 32) ≤ 0 := by decide

theorem tow_pos {t : Nat} {X Y : Int} (ht : t < 32) (h : Tow t X Y) (j : Nat) (h1 : 1 ≤ j) (h2 : j ≤ 15) : crs ((t + j) % 32) X Y > 0 := by
  obtain ⟨ha, hb⟩ := h
  have k0 := tab0 t ht
  have k1 := tab1 t ht (j - 1) (by omega)
  rw [show j - 1 + 1 = j by omega] at k1
  have e := plucker t ((t + 1) % 32) ((t + j) % 32) X Y
  generalize crs ((t + j) % 32) X Y = z at *
  generalize crs ((t + 1) % 32) X Y = y at *
  generalize crs t X Y = x at *
  obtain ⟨k1, k2⟩ := k1
  generalize cc ((t + 1) % 32) t = K at *
  generalize cc ((t + j) % 32) t = A at *
  generalize cc ((t + j) % 32) ((t + 1) % 32) = B at *
  have p1 : A * y > 0 := Int.mul_pos k1 hb
  have p2 : (-x) * B ≥ 0 := Int.mul_nonneg (by omega) k2
  have p3 : K * z > 0 := by omega
  exact Int.pos_of_mul_pos_right p3 k0 |> fun h => h

theorem tow_neg {t : Nat} {X Y : Int} (ht : t < 32) (h : Tow t X Y) (j : Nat) (h1 : 17 ≤ j) (h2 : j ≤ 32) : crs ((t + j) % 32) X Y ≤ 0 := by
  obtain ⟨ha, hb⟩ := h
  have k0 := tab0 t ht
  have k1 := tab2 t ht (j - 17) (by omega)
  rw [show j - 17 + 17 = j by omega] at k1
  have e := plucker t ((t + 1) % 32) ((t + j) % 32) X Y
  generalize crs ((t + j) % 32) X Y = z at *
  generalize crs ((t + 1) % 32) X Y = y at *
  generalize crs t X Y = x at *
  obtain ⟨k1, k2⟩ := k1
  generalize cc ((t + 1) % 32) t = K at *
  generalize cc ((t + j) % 32) t = A at *
  generalize cc ((t + j) % 32) ((t + 1) % 32) = B at *
  have p1 : A * y ≤ 0 := Int.mul_nonpos_of_nonpos_of_nonneg k1 (by omega)
  have p2 : (-x) * B ≤ 0 := Int.mul_nonpos_of_nonneg_of_nonpos (by omega) k2
  have p3 : K * z ≤ 0 := by omega
  apply Int.not_lt.1
  intro hz
  have := Int.mul_pos k0 hz
  omega

theorem tow_sign {t : Nat} {X Y : Int} (ht : t < 32) (h : Tow t X Y) (p : Nat) (hp : p < 32) (hne : p ≠ (t + 16) % 32) : (crs p X Y > 0) ↔ (1 ≤ (p + 32 - t) % 32 ∧ (p + 32 - t) % 32 ≤ 15) := by
  have hj : (t + (p + 32 - t) % 32) % 32 = p := by omega
  constructor
  · intro hs
    by_cases h1 : 1 ≤ (p + 32 - t) % 32 ∧ (p + 32 - t) % 32 ≤ 15
    · exact h1
    · exfalso
      by_cases h0 : (p + 32 - t) % 32 = 0
      · have : p = t := by omega
        subst this
        have := h.1
        omega
      · have := tow_neg ht h ((p + 32 - t) % 32) (by omega) (by omega)
        rw [hj] at this
        omega
  · intro h1
    have := tow_pos ht h _ h1.1 h1.2
    rw [hj] at this
    exact this

theorem opp : ∀ p, p < 16 → vx (p + 16) = - vx p ∧ vy (p + 16) = - vy p := by decide

theorem tow_exists {X Y : Int} (h : X ≠ 0 ∨ Y ≠ 0) : ∃ t, t < 32 ∧ Tow t X Y := by
  by_cases hx : ∃ t, t < 32 ∧ Tow t X Y
  · exact hx
  · exfalso
    have hn : ∀ t, t < 32 → crs t X Y ≤ 0 → crs ((t + 1) % 32) X Y ≤ 0 := fun t ht h1 => by
      apply Int.not_lt.1
      intro h2
      exact hx ⟨t, ht, h1, h2⟩
    have all : ∀ t, t < 32 → crs t X Y ≤ 0 → ∀ j, crs ((t + j) % 32) X Y ≤ 0 := fun t ht h1 j => by
      induction j with
      | zero => rw [show (t + 0) % 32 = t by omega]; exact h1
      | succ j ih =>
        have := hn ((t + j) % 32) (by omega) ih
        rw [show ((t + j) % 32 + 1) % 32 = (t + (j + 1)) % 32 by omega] at this
        exact this
    have o := opp
    have c0 : crs 0 X Y = - (1000 * X) := by unfold crs; simp only [show vx 0 = 0 from rfl, show vy 0 = 1000 from rfl]; omega
    have c8 : crs 8 X Y = 1000 * Y := by unfold crs; simp only [show vx 8 = 1000 from rfl, show vy 8 = 0 from rfl]; omega
    have c16 : crs 16 X Y = 1000 * X := by unfold crs; simp only [show vx 16 = 0 from rfl, show vy 16 = -1000 from rfl]; omega
    have c24 : crs 24 X Y = - (1000 * Y) := by unfold crs; simp only [show vx 24 = -1000 from rfl, show vy 24 = 0 from rfl]; omega
    have z : ∃ t, t < 32 ∧ crs t X Y ≤ 0 := by
      by_cases h0 : crs 0 X Y ≤ 0
      · exact ⟨0, by omega, h0⟩
      · exact ⟨16, by omega, by omega⟩
    obtain ⟨t, ht, h1⟩ := z
    have r : ∀ p, p < 32 → crs p X Y ≤ 0 := fun p hp => by
      have := all t ht h1 (p + 32 - t)
      rw [show (t + (p + 32 - t)) % 32 = p by omega] at this
      exact this
    have r0 := r 0 (by omega)
    have r8 := r 8 (by omega)
    have r16 := r 16 (by omega)
    have r24 := r 24 (by omega)
    omega

def isTow (X Y : Int) (t : Nat) : Bool := decide (crs t X Y ≤ 0) && decide (crs ((t + 1) % 32) X Y > 0)
def tow (X Y : Int) : Nat := ((List.range 32).find? (isTow X Y)).getD 0

theorem isTow_iff {X Y : Int} {t : Nat} : isTow X Y t = true ↔ Tow t X Y := by simp [isTow, Tow]

theorem tow_spec {X Y : Int} (h : X ≠ 0 ∨ Y ≠ 0) : tow X Y < 32 ∧ Tow (tow X Y) X Y := by
  obtain ⟨t, ht, hT⟩ := tow_exists h
  unfold tow
  cases hf : (List.range 32).find? (isTow X Y) with
  | none =>
    rw [List.find?_eq_none] at hf
    exact absurd (isTow_iff.2 hT) (hf t (by simp [ht]))
  | some u =>
    have h1 := List.find?_some hf
    have h2 := List.mem_of_find?_eq_some hf
    simp only [Option.getD_some]
    exact ⟨by simpa using h2, isTow_iff.1 h1⟩

theorem sector {X Y : Int} {t a m : Nat} (ht : t < 32) (hT : Tow t X Y) (ha : a < 32) (h1 : 1 ≤ m) (h8 : m ≤ 8) : (¬ crs a X Y > 0 ∧ crs ((a + m) % 32) X Y > 0) ↔ (t + 32 - a) % 32 < m := by
  have s1 := tow_sign ht hT a ha
  have s2 := tow_sign ht hT ((a + m) % 32) (by omega)
  by_cases e1 : a = (t + 16) % 32
  · have e2 : (a + m) % 32 ≠ (t + 16) % 32 := by omega
    have s2 := s2 e2
    constructor
    · intro h; have := s2.1 h.2; omega
    · intro h; omega
  · have s1 := s1 e1
    by_cases e2 : (a + m) % 32 = (t + 16) % 32
    · constructor
      · intro h
        have : ¬ (1 ≤ (a + 32 - t) % 32 ∧ (a + 32 - t) % 32 ≤ 15) := fun hh => h.1 (s1.2 hh)
        omega
      · intro h; omega
    · have s2 := s2 e2
      constructor
      · intro h
        have h3 : ¬ (1 ≤ (a + 32 - t) % 32 ∧ (a + 32 - t) % 32 ≤ 15) := fun hh => h.1 (s1.2 hh)
        have := s2.1 h.2
        omega
      · intro h
        refine ⟨fun hc => ?_, s2.2 (by omega)⟩
        have := s1.1 hc
        omega
end Nore.Geo
open Go Go.Ab
namespace Nore

theorem w64 {x : Int} (h1 : -9223372036854775808 ≤ x) (h2 : x ≤ 9223372036854775807) : IntKind.wrap .i64 x = x := by
  simp only [IntKind.wrap, IntKind.signed, IntKind.bits]
  simp
  omega

theorem run_bind {σ ω γ : Type} (st : σ → Option (σ ⊕ ω)) (k : ω → Option γ) (s : σ) : Option.bind (runOf st s) k = Option.bind (st s) (Sum.elim (fun s' => Option.bind (runOf st s') k) k) := by
  rw [runOf_step]
  cases st s with
  | none => rfl
  | some r => cases r <;> rfl

theorem run_loop {β σ ω γ : Type} (st : σ → Option (σ ⊕ ω)) (k : ω → Option γ) (n : Nat) (emb : Nat → β → σ) (P : Nat → β → Prop) (nice : Nat → β → Option γ)
    (hd : ∀ b, P n b → ∀ R : σ → Option γ, Option.bind (st (emb n b)) (Sum.elim R k) = nice n b)
    (hn : ∀ i b, i < n → P i b → ∀ R : σ → Option γ, (∀ b', P (i + 1) b' → R (emb (i + 1) b') = nice (i + 1) b') → Option.bind (st (emb i b)) (Sum.elim R k) = nice i b) :
    ∀ i b, i ≤ n → P i b → Option.bind (runOf st (emb i b)) k = nice i b := by
  intro i b hi hP
  induction hj : n - i generalizing i b with
  | zero =>
    have : i = n := by omega
    subst this
    rw [run_bind]; exact hd b hP _
  | succ j ih =>
    rw [run_bind]
    exact hn i b (by omega) hP _ fun b' hb' => ih (i + 1) b' (by omega) hb' (by omega)

theorem bind_some_self {γ : Type} (o : Option γ) : Option.bind o (fun x => some x) = o := by cases o <;> rfl

theorem run_loop0 {β σ ω : Type} (st : σ → Option (σ ⊕ ω)) (n : Nat) (emb : Nat → β → σ) (P : Nat → β → Prop) (nice : Nat → β → Option ω)
    (hd : ∀ b, P n b → ∀ R : σ → Option ω, Option.bind (st (emb n b)) (Sum.elim R some) = nice n b)
    (hn : ∀ i b, i < n → P i b → ∀ R : σ → Option ω, (∀ b', P (i + 1) b' → R (emb (i + 1) b') = nice (i + 1) b') → Option.bind (st (emb i b)) (Sum.elim R some) = nice i b)
    (i : Nat) (b : β) (hi : i ≤ n) (hP : P i b) : runOf st (emb i b) = nice i b := by
  rw [← bind_some_self (runOf st (emb i b))]
  exact run_loop st some n emb P nice hd hn i b hi hP

theorem beq_f {a b : Int} (h : ¬ a = b) : (a == b) = false := beq_eq_false_iff_ne.2 h
theorem bne_t {a b : Int} (h : ¬ a = b) : (a != b) = true := bne_iff_ne.2 h

theorem getD_lt {α : Type} (l : List α) (i : Nat) (d : α) (h : i < l.length) : l.getD i d = l[i] := by simp [List.getD, h]

def outN (lo hi : Int) (l : List Int) : Bool := l.any fun n => decide (n < lo) || decide (n > hi)
@[simp] theorem outN_nil (lo hi : Int) : outN lo hi [] = false := rfl
@[simp] theorem outN_cons (lo hi n : Int) (l : List Int) : outN lo hi (n :: l) = (decide (n < lo) || decide (n > hi) || outN lo hi l) := rfl
def inN (n lo hi : Int) : Bool := decide (lo ≤ n) && decide (n ≤ hi)

theorem chart_out_eq (lo up : Int) (l : List Int) (hl : l.length < 1000000) : chart_out lo up l = some (outN lo up l) := by
  have key := run_loop (chart_out_L0_st (↑l.length) l up lo) (fun o3 => Sum.elim (fun y4 : Int => some (decide (y4 ≥ 0))) (fun _ => some (decide ((-1 : Int) ≥ 0))) o3) l.length (fun i (_ : Unit) => (i : Int)) (fun _ _ => True) (fun i _ => some (outN lo up (l.drop i)))
    (by
      intro b _ R
      simp [chart_out_L0_st, chart_out_L0_step])
    (by
      intro i b hi _ R hR
      have hR' := hR () trivial
      simp only [chart_out_L0_st, chart_out_L0_step]
      rw [List.drop_eq_getElem_cons hi]
      simp only [Int.toNat_natCast, getD_lt _ _ _ hi, outN_cons]
      have hw : IntKind.wrap .i64 ((i : Int) + 1) = ((i + 1 : Nat) : Int) := by rw [w64] <;> omega
      rw [hw]
      have h1 : decide ((i : Int) < ↑l.length) = true := by simp [hi]
      have h2 : decide ((0 : Int) ≤ ↑i) = true := by simp
      simp only [h1, h2, Bool.and_self, cond_true]
      by_cases h3 : l[i] < lo
      · simp [h3]
      · by_cases h4 : l[i] > up
        · simp [h3, h4]
        · simp [h3, h4]; exact hR')
  exact (key 0 () (by omega) trivial).trans (by simp)

theorem swing_outside_eq (lo up : Int) (l : List Int) (hl : l.length < 1000000) : swing_outside lo up l = some (outN lo up l) := by
  have key := run_loop (swing_outside_L0_st (↑l.length) l up lo) (fun o3 => Sum.elim (fun y4 : Int => some (decide (y4 ≥ 0))) (fun _ => some (decide ((-1 : Int) ≥ 0))) o3) l.length (fun i (_ : Unit) => (i : Int)) (fun _ _ => True) (fun i _ => some (outN lo up (l.drop i)))
    (by
      intro b _ R
      simp [swing_outside_L0_st, swing_outside_L0_step])
    (by
      intro i b hi _ R hR
      have hR' := hR () trivial
      simp only [swing_outside_L0_st, swing_outside_L0_step]
      rw [List.drop_eq_getElem_cons hi]
      simp only [Int.toNat_natCast, getD_lt _ _ _ hi, outN_cons]
      have hw : IntKind.wrap .i64 ((i : Int) + 1) = ((i + 1 : Nat) : Int) := by rw [w64] <;> omega
      rw [hw]
      have h1 : decide ((i : Int) < ↑l.length) = true := by simp [hi]
      have h2 : decide ((0 : Int) ≤ ↑i) = true := by simp
      simp only [h1, h2, Bool.and_self, cond_true]
      by_cases h3 : l[i] < lo
      · simp [h3]
      · by_cases h4 : l[i] > up
        · simp [h3, h4]
        · simp [h3, h4]; exact hR')
  exact (key 0 () (by omega) trivial).trans (by simp)

theorem ref01_in_eq (n lo hi : Int) : ref01_in n lo hi = some (inN n lo hi) := by
  unfold ref01_in inN
  by_cases h : lo ≤ n <;> simp [h]
theorem ref04_in_eq (n lo hi : Int) : ref04_in n lo hi = some (inN n lo hi) := by
  unfold ref04_in inN
  by_cases h : lo ≤ n <;> simp [h]

end Nore
open Go Go.Ab
namespace Nore

def nameL : Int → List UInt8 → Option Int
  | last, [] => some last
  | last, c :: l => if 97 ≤ (c.toNat : Int) ∧ (c.toNat : Int) ≤ 122 then nameL c.toNat l else if (c.toNat : Int) ≠ 45 ∨ last = 45 then none else nameL c.toNat l
def nameE : Option Int → Bool
  | none => false
  | some last => last != 45
def nameN (s : ByteArray) : Bool := decide (s.size ≤ 14) && nameE (nameL 45 s.toList)

theorem decode_lo (s : ByteArray) (i : Nat) (h : (s.get! i).toNat < 128) : Utf8.decode s i = ((s.get! i).toNat, 1) := by
  unfold Utf8.decode; simp only [Nat.add_zero]; rw [if_pos h]
theorem decode_hi (s : ByteArray) (i : Nat) (h : ¬ (s.get! i).toNat < 128) : 128 ≤ (Utf8.decode s i).1 := by
  unfold Utf8.decode
  simp only [Nat.add_zero, Utf8.runeError]
  rw [if_neg h]
  repeat' split
  all_goals simp_all
  all_goals omega

theorem size_toList (s : ByteArray) : s.toList.length = s.size := by rw [ByteArray.toList_eq]; rfl
theorem get_toList (s : ByteArray) (i : Nat) (h : i < s.toList.length) : s.get! i = s.toList[i] := by
  have hs : i < s.size := by rw [← size_toList]; exact h
  simp only [ByteArray.toList_eq]
  show s.data[i]! = _
  have h2 : i < s.data.size := hs
  rw [getElem!_pos s.data i h2]
  rfl

theorem chart_Name_eq (s : ByteArray) : chart_Name s = some (nameN s) := by
  have key := run_loop (chart_Name_L0_st s s) (fun o0 => Sum.elim (fun y1 : Bool × Nat => some y1.fst) (fun y2 : Int × Nat => bif decide ((↑(ByteArray.size s) : Int) ≤ 14) then some (y2.fst != 45) else some false) o0) s.toList.length (fun i (b : Int) => (b, i)) (fun _ _ => True) (fun i b => some (decide (s.size ≤ 14) && nameE (nameL b (s.toList.drop i))))
    (by
      intro b _ R
      have hh : (decide ((↑s.size : Int) ≤ 14)) = decide (s.size ≤ 14) := by rw [decide_eq_decide]; omega
      have hd : s.toList.drop s.size = [] := List.drop_eq_nil_of_le (by rw [size_toList]; exact Nat.le_refl _)
      simp only [hd, nameL, nameE, chart_Name_L0_st, chart_Name_L0_step, size_toList, hh, Nat.lt_irrefl, decide_false, cond_false, Option.bind_some, Sum.elim_inr]
      cases decide (s.size ≤ 14) <;> simp)
    (by
      intro i b hi _ R hR
      have hs : i < s.size := by rw [← size_toList]; exact hi
      have hg := get_toList s i hi
      simp only [chart_Name_L0_st, chart_Name_L0_step]
      rw [List.drop_eq_getElem_cons hi]
      simp only [nameL]
      by_cases h : (s.get! i).toNat < 128
      · rw [decode_lo s i h]
        have hR' := hR ((s.get! i).toNat : Int) trivial
        rw [hg] at *
        generalize s.toList[i] = c at *
        simp only [hs, decide_true, cond_true]
        by_cases h1 : 97 ≤ (c.toNat : Int)
        · have q1 : decide ((c.toNat : Int) ≥ 97) = true := decide_eq_true h1
          by_cases h2 : (c.toNat : Int) ≤ 122
          · have q2 : decide ((c.toNat : Int) ≤ 122) = true := decide_eq_true h2
            simp only [decide_true, decide_false, q1, q2, cond_true, Option.bind_some, Sum.elim_inl, h1, h2, and_self, if_true]
            exact hR'
          · have q2 : decide ((c.toNat : Int) ≤ 122) = false := decide_eq_false h2
            have h3 : ¬ ((c.toNat : Int) = 45) := by omega
            have q3 : ((c.toNat : Int) != 45) = true := bne_iff_ne.2 h3
            simp only [decide_true, decide_false, q1, q2, q3, cond_true, cond_false, Option.bind_some, Sum.elim_inl, Sum.elim_inr, h2, and_false, if_false, ne_eq, h3, not_false_iff, true_or, if_true, nameE, Bool.and_false]
        · have q1 : decide ((c.toNat : Int) ≥ 97) = false := decide_eq_false h1
          by_cases h3 : (c.toNat : Int) = 45
          · have q3 : ((c.toNat : Int) != 45) = false := by rw [h3]; rfl
            by_cases h4 : b = 45
            · have q4 : (b == 45) = true := by rw [h4]; rfl
              rw [q1, q3, q4, if_neg (fun hc => h1 hc.1), if_pos (Or.inr h4)]
              simp [nameE]
            · have q4 : (b == 45) = false := beq_eq_false_iff_ne.2 h4
              simp only [decide_true, decide_false, q1, q3, q4, cond_true, cond_false, Option.bind_some, Sum.elim_inl, Sum.elim_inr, h1, false_and, if_false, h4, ne_eq, h3, not_true, or_self, if_true]
              rw [h3] at hR'
              exact hR'
          · have q3 : ((c.toNat : Int) != 45) = true := bne_iff_ne.2 h3
            simp only [decide_true, decide_false, q1, q3, cond_true, cond_false, Option.bind_some, Sum.elim_inl, Sum.elim_inr, h1, false_and, if_false, ne_eq, h3, not_false_iff, true_or, if_true, nameE, Bool.and_false]
      · have h' := decode_hi s i h
        rw [hg] at h
        generalize s.toList[i] = c at *
        simp only [hs, decide_true, cond_true]
        generalize (Utf8.decode s i) = d at *
        have e1 : ((d.1 : Nat) : Int) ≥ 97 := by omega
        have e2 : ¬ ((d.1 : Nat) : Int) ≤ 122 := by omega
        have e3 : ¬ ((d.1 : Nat) : Int) = 45 := by omega
        have e4 : ¬ ((c.toNat : Int) ≤ 122) := by omega
        have e5 : ¬ ((c.toNat : Int) = 45) := by omega
        have q1 : decide (((d.1 : Nat) : Int) ≥ 97) = true := decide_eq_true e1
        have q2 : decide (((d.1 : Nat) : Int) ≤ 122) = false := decide_eq_false e2
        have q3 : (((d.1 : Nat) : Int) != 45) = true := bne_iff_ne.2 e3
        simp only [decide_true, decide_false, q1, q2, q3, cond_true, cond_false, Option.bind_some, Sum.elim_inl, Sum.elim_inr, e4, and_false, if_false, ne_eq, e5, not_false_iff, true_or, if_true, nameE, Bool.and_false])
  exact (key 0 45 (by omega) trivial).trans (by simp [nameN])

theorem ref01_Name_eq (s : ByteArray) : ref01_Name s = some (nameN s) := by
  unfold ref01_Name
  rw [ref01_in_eq]
  simp only [Option.bind_some]
  by_cases hsz : 1 ≤ s.size ∧ s.size ≤ 14
  · have e1 : inN (↑s.size) 1 14 = true := by simp [inN]; omega
    rw [e1]
    simp only [Bool.not_true, cond_false]
    have hl := size_toList s
    have key := run_loop (ref01_Name_L0_st s) (fun o0 => Sum.elim (fun y76 : Bool => some y76) (fun _ : Unit => some true) o0) s.toList.length (fun i (_ : Int) => (i : Int)) (fun i b => b = if i = 0 then 45 else ((s.toList.getD (i - 1) 0).toNat : Int)) (fun i b => some (if i < s.toList.length then nameE (nameL b (s.toList.drop i)) else true))
      (by
        intro b _ R
        simp [ref01_Name_L0_st, ref01_Name_L0_step, size_toList])
      (by
        intro i b hi hP R hR
        have hs : i < s.size := by rw [← size_toList]; exact hi
        simp only [ref01_Name_L0_st, ref01_Name_L0_step]
        rw [List.drop_eq_getElem_cons hi]
        have hR' := hR ((s.toList[i]).toNat : Int) (by simp [List.getD, hi])
        have hw : IntKind.wrap .i64 ((i : Int) + 1) = ((i + 1 : Nat) : Int) := by rw [w64] <;> omega
        have hw1 : IntKind.wrap .i64 ((i : Int) - 1) = ((i : Int) - 1) := by rw [w64] <;> omega
        have hw2 : IntKind.wrap .i64 ((s.size : Int) - 1) = ((s.size : Int) - 1) := by rw [w64] <;> omega
        simp only [nameL, Int.toNat_natCast, getD_lt _ _ _ hi, hw, hw1, hw2]
        have d1 : decide ((i : Int) < ↑s.size) = true := by simp [hs]
        have d2 : decide ((0 : Int) ≤ ↑i) = true := by simp
        simp only [d1, d2, Bool.and_self, cond_true, hi, if_true]
        generalize hc : s.toList[i] = c at *
        by_cases h1 : 97 ≤ (c.toNat : Int) ∧ (c.toNat : Int) ≤ 122
        · have q1 : decide ((c.toNat : Int) ≥ 97) = true := decide_eq_true h1.1
          have q2 : decide ((c.toNat : Int) ≤ 122) = true := decide_eq_true h1.2
          simp only [decide_true, decide_false, q1, q2, cond_true, Option.bind_some, Sum.elim_inl, h1, and_self, if_true]
          have hne : ¬ ((c.toNat : Int) = 45) := by omega
          rw [hR']
          by_cases hi2 : i + 1 < s.toList.length
          · simp [hi2]
          · have : s.toList.drop (i + 1) = [] := List.drop_eq_nil_of_le (by omega)
            simp [hi2, this, nameL, nameE, hne]
        · have g : (bif decide ((c.toNat : Int) ≥ 97) then bif decide ((c.toNat : Int) ≤ 122) then true else false else false) = false := by
            by_cases a1 : (c.toNat : Int) ≥ 97
            · by_cases a2 : (c.toNat : Int) ≤ 122
              · exact absurd ⟨a1, a2⟩ h1
              · simp [a1, a2]
            · simp [a1]
          have g2 : ∀ (Z : Type) (x y : Z), (bif decide ((c.toNat : Int) ≥ 97) then bif decide ((c.toNat : Int) ≤ 122) then x else y else y) = y := by
            intro Z x y
            by_cases a1 : (c.toNat : Int) ≥ 97
            · by_cases a2 : (c.toNat : Int) ≤ 122
              · exact absurd ⟨a1, a2⟩ h1
              · simp [a1, a2]
            · simp [a1]
          rw [g2, if_neg h1]
          by_cases h2 : (c.toNat : Int) = 45
          · simp only [h2, bne_self_eq_false, cond_false]
            by_cases h3 : i = 0
            · subst h3
              simp [hP, nameE]
            · by_cases h4 : i + 1 = s.size
              · have : s.toList.drop (i + 1) = [] := List.drop_eq_nil_of_le (by omega)
                have e5 : (i : Int) = (s.size : Int) - 1 := by omega
                have e6 : ((s.size : Int) - 1 == 0) = false := by simp; omega
                simp only [e5, e6, this, nameL]
                by_cases h5 : b = 45 <;> simp [h5, nameE]
              · have e5 : ((i : Int) == (s.size : Int) - 1) = false := by simp; omega
                have e6 : ((i : Int) == 0) = false := by simp; omega
                have e7 : (0 : Int) ≤ (i : Int) - 1 := by omega
                have e8 : (i : Int) - 1 < (s.size : Int) := by omega
                have e9 : ((i : Int) - 1).toNat = i - 1 := by omega
                simp only [e5, e6, e7, e8, e9, cond_false, decide_true, Bool.and_self, cond_true]
                simp only [h3, if_false] at hP
                rw [← hP]
                by_cases h5 : b = 45
                · simp [h5, nameE]
                · have q5 : (b == 45) = false := beq_eq_false_iff_ne.2 h5
                  rw [h2] at hR'
                  rw [q5]
                  simp only [cond_false, Option.bind_some, Sum.elim_inl, ne_eq, not_true, false_or, h5, if_false]
                  rw [hR']
                  simp [show i + 1 < s.toList.length by omega]
          · have : ((c.toNat : Int) != 45) = true := by simp [h2]
            simp [this, h2, nameE])
    have := key 0 45 (by omega) (by simp)
    refine this.trans ?_
    simp [nameN, show 0 < s.toList.length by omega, hsz.2]
  · have e1 : inN (↑s.size) 1 14 = false := by
      simp [inN]; omega
    rw [e1]
    simp only [Bool.not_false, cond_true, nameN]
    by_cases h : s.size ≤ 14
    · have h0 : s.toList = [] := by
        apply List.eq_nil_of_length_eq_zero; rw [size_toList]; omega
      simp [h0, nameL, nameE]
    · simp [h]

end Nore
open Go Go.Ab
namespace Nore

def farN (m : Int) (p : Point) : Bool := outN (-m) m [p.X, p.Y]
def paintsL : Int → List CtPaint → Int
  | _, [] => 0
  | last, p :: l => if outN 0 40000 [p.Day] || outN 0 4 [p.Colour] then 7 else if p.Day ≤ last then 2 else paintsL p.Day l
def paintsN (l : List CtPaint) : Int := if outN 1 4 [(l.length : Int)] then 3 else paintsL (-1) l
def boxN (b : CtBox) (m w : Int) : Int := if outN (-m) m [b.X.Lo, b.X.Hi, b.Y.Lo, b.Y.Hi] then 7 else if outN 0 w [b.X.Hi - b.X.Lo, b.Y.Hi - b.Y.Lo] then 2 else 0

theorem inN_out (n lo hi : Int) : inN n lo hi = !outN lo hi [n] := by
  simp only [inN, outN_cons, outN_nil, Bool.or_false, Bool.not_or]
  congr 1 <;> rw [← decide_not, decide_eq_decide] <;> omega

theorem chart_far_eq (m : Int) (hm : 0 ≤ m ∧ m ≤ 1000000) (l : List Point) (hl : l.length < 1000000) : chart_far m l = some (l.any (farN m)) := by
  have hm1 : IntKind.wrap .i64 (0 - m) = -m := by rw [w64] <;> omega
  have key := run_loop (chart_far_L0_st (↑l.length) l m) (fun o7 => Sum.elim (fun y8 : Int × Point × (List Int) => some (decide (y8.fst ≥ 0))) (fun _ => some (decide ((-1 : Int) ≥ 0))) o7) l.length (fun i (_ : Unit) => (i : Int)) (fun _ _ => True) (fun i _ => some ((l.drop i).any (farN m)))
    (by
      intro b _ R
      simp [chart_far_L0_st, chart_far_L0_step])
    (by
      intro i b hi _ R hR
      have hR' := hR () trivial
      simp only [chart_far_L0_st, chart_far_L0_step]
      rw [List.drop_eq_getElem_cons hi]
      have hw : IntKind.wrap .i64 ((i : Int) + 1) = ((i + 1 : Nat) : Int) := by rw [w64] <;> omega
      simp only [Int.toNat_natCast, getD_lt _ _ _ hi, List.any_cons, hm1, hw]
      rw [chart_out_eq _ _ _ (by simp)]
      have h1 : decide ((i : Int) < ↑l.length) = true := by simp [hi]
      have h2 : decide ((0 : Int) ≤ ↑i) = true := by simp
      simp only [h1, h2, Bool.and_self, cond_true, Option.bind_some]
      change Option.bind (bif farN m l[i] then _ else _) _ = _
      cases h3 : farN m l[i]
      · simp; exact hR'
      · simp)
  exact (key 0 () (by omega) trivial).trans (by simp)

theorem ref01_Within_eq (p : Point) (m : Int) (hm : 0 ≤ m ∧ m ≤ 1000000) : ref01_Within p m = some (!farN m p) := by
  have hm1 : IntKind.wrap .i64 (0 - m) = -m := by rw [w64] <;> omega
  unfold ref01_Within
  rw [ref01_in_eq, ref01_in_eq, hm1, inN_out, inN_out]
  simp only [Option.bind_some, farN, outN_cons, outN_nil, Bool.or_false]
  cases (decide (p.X < -m) || decide (p.X > m)) <;> simp

theorem chart_paints_eq (l : List CtPaint) : chart_paints l = some (paintsN l) := by
  unfold chart_paints paintsN
  rw [chart_out_eq _ _ _ (by simp)]
  simp only [Option.bind_some]
  cases hb : outN 1 4 [(l.length : Int)]
  · simp only [cond_false, Bool.false_eq_true, if_false]
    have hl : 1 ≤ l.length ∧ l.length ≤ 4 := by simp at hb; omega
    exact run_loop (chart_paints_L0_st (↑l.length) l [↑l.length]) _ l.length (fun i (b : Int) => (b, (i : Int))) (fun _ _ => True) (fun i b => some (paintsL b (l.drop i)))
      (by
        intro b _ R
        simp [chart_paints_L0_st, chart_paints_L0_step, paintsL])
      (by
        intro i b hi _ R hR
        have hR' := hR (l[i].Day) trivial
        simp only [chart_paints_L0_st, chart_paints_L0_step]
        rw [List.drop_eq_getElem_cons hi]
        have hw : IntKind.wrap .i64 ((i : Int) + 1) = ((i + 1 : Nat) : Int) := by rw [w64] <;> omega
        simp only [Int.toNat_natCast, getD_lt _ _ _ hi, paintsL, hw]
        rw [chart_out_eq _ _ _ (by simp), chart_out_eq _ _ _ (by simp)]
        have h1 : decide ((i : Int) < ↑l.length) = true := by simp [hi]
        have h2 : decide ((0 : Int) ≤ ↑i) = true := by simp
        simp only [h1, h2, Bool.and_self, cond_true, Option.bind_some]
        cases h3 : outN 0 40000 [l[i].Day]
        · cases h4 : outN 0 4 [l[i].Colour]
          · by_cases h5 : l[i].Day ≤ b
            · simp [h5]
            · simp [h5]; exact hR'
          · simp
        · simp) 0 (-1) (by omega) trivial
  · simp

theorem ref01_paints_eq (l : List CtPaint) : ref01_paints l = some (paintsN l) := by
  unfold ref01_paints paintsN
  rw [ref01_in_eq, inN_out]
  simp only [Option.bind_some]
  cases hb : outN 1 4 [(l.length : Int)]
  · simp only [Bool.not_false, Bool.not_true, cond_false, Bool.false_eq_true, if_false]
    have hl : 1 ≤ l.length ∧ l.length ≤ 4 := by simp at hb; omega
    exact run_loop (ref01_paints_L0_st l) _ l.length (fun i (_ : Int) => (i : Int)) (fun i b => b = if i = 0 then -1 else (l.getD (i - 1) ⟨0, 0⟩).Day) (fun i b => some (paintsL b (l.drop i)))
      (by
        intro b _ R
        simp [ref01_paints_L0_st, ref01_paints_L0_step, paintsL])
      (by
        intro i b hi hP R hR
        have hR' := hR (l[i].Day) (by simp [List.getD, hi])
        simp only [ref01_paints_L0_st, ref01_paints_L0_step]
        rw [List.drop_eq_getElem_cons hi]
        have hw : IntKind.wrap .i64 ((i : Int) + 1) = ((i + 1 : Nat) : Int) := by rw [w64] <;> omega
        have hw1 : IntKind.wrap .i64 ((i : Int) - 1) = ((i : Int) - 1) := by rw [w64] <;> omega
        simp only [Int.toNat_natCast, getD_lt _ _ _ hi, paintsL, hw, hw1]
        rw [ref01_in_eq, ref01_in_eq, inN_out, inN_out]
        have h1 : decide ((i : Int) < ↑l.length) = true := by simp [hi]
        have h2 : decide ((0 : Int) ≤ ↑i) = true := by simp
        simp only [h1, h2, Bool.and_self, cond_true, Option.bind_some]
        cases h3 : outN 0 40000 [l[i].Day]
        · cases h4 : outN 0 4 [l[i].Colour]
          · by_cases h0 : i = 0
            · subst h0
              simp at hP h3
              have h5 : ¬ l[0].Day ≤ b := by omega
              simp [h5]; simpa using hR'
            · have e7 : (0 : Int) ≤ (i : Int) - 1 := by omega
              have e8 : (i : Int) - 1 < (l.length : Int) := by omega
              have e9 : ((i : Int) - 1).toNat = i - 1 := by omega
              have e10 : (i : Int) > 0 := by omega
              simp only [e7, e8, e9, e10, decide_true, Bool.and_self, cond_true]
              simp only [h0, if_false] at hP
              rw [← hP]
              by_cases h5 : l[i].Day ≤ b
              · simp [h5]
              · simp [h5]; exact hR'
          · simp
        · simp) 0 (-1) (by omega) (by simp)
  · simp

theorem chart_box_eq (b : CtBox) (m : Int) (hm : 0 ≤ m ∧ m ≤ 1000000) : chart_box b m = some (boxN b m 40) := by
  have hm1 : IntKind.wrap .i64 (0 - m) = -m := by rw [w64] <;> omega
  unfold chart_box boxN
  rw [chart_out_eq _ _ _ (by simp), hm1]
  simp only [Option.bind_some]
  cases hb : outN (-m) m [b.X.Lo, b.X.Hi, b.Y.Lo, b.Y.Hi]
  · simp at hb
    have h1 : IntKind.wrap .i64 (b.X.Hi - b.X.Lo) = b.X.Hi - b.X.Lo := by rw [w64] <;> omega
    have h2 : IntKind.wrap .i64 (b.Y.Hi - b.Y.Lo) = b.Y.Hi - b.Y.Lo := by rw [w64] <;> omega
    rw [h1, h2, chart_out_eq _ _ _ (by simp)]
    simp only [Option.bind_some, cond_false, Bool.false_eq_true, if_false]
    cases outN 0 40 [b.X.Hi - b.X.Lo, b.Y.Hi - b.Y.Lo] <;> simp
  · simp

def spreadL (lo hi : Int) : Int → List Span → Int
  | e, [] => e
  | e, s :: l => if outN lo hi [s.Lo, s.Hi] then 7 else spreadL lo hi (if s.Lo > s.Hi then 2 else e) l

theorem ref01_Spread_eq (l : List Span) (lo hi : Int) (hl : l.length < 1000000) : ref01_Spread l lo hi = some (spreadL lo hi 0 l) := by
  unfold ref01_Spread
  exact run_loop (ref01_Spread_L0_st lo l hi) _ l.length (fun i (b : Int) => (b, (i : Int))) (fun _ _ => True) (fun i b => some (spreadL lo hi b (l.drop i)))
      (by
        intro b _ R
        simp [ref01_Spread_L0_st, ref01_Spread_L0_step, spreadL])
      (by
        intro i b hi' _ R hR
        simp only [ref01_Spread_L0_st, ref01_Spread_L0_step]
        rw [List.drop_eq_getElem_cons hi']
        have hw : IntKind.wrap .i64 ((i : Int) + 1) = ((i + 1 : Nat) : Int) := by rw [w64] <;> omega
        simp only [Int.toNat_natCast, getD_lt _ _ _ hi', spreadL, hw]
        rw [ref01_in_eq, ref01_in_eq, inN_out, inN_out]
        have h1 : decide ((i : Int) < ↑l.length) = true := by simp [hi']
        have h2 : decide ((0 : Int) ≤ ↑i) = true := by simp
        simp only [h1, h2, Bool.and_self, cond_true, Option.bind_some]
        have hsplit : outN lo hi [l[i].Lo, l[i].Hi] = (outN lo hi [l[i].Lo] || outN lo hi [l[i].Hi]) := by simp
        rw [hsplit]
        cases h3 : outN lo hi [l[i].Lo]
        · cases h4 : outN lo hi [l[i].Hi]
          · by_cases h5 : l[i].Lo > l[i].Hi
            · have := hR 2 trivial
              simp only [h5]; simp; simpa using this
            · have := hR b trivial
              simp only [h5]; simp; simpa using this
          · simp
        · simp) 0 0 (by omega) trivial

theorem spread_box (b : CtBox) (m w : Int) (hw : 0 ≤ w) : (let e := spreadL (-m) m 0 [b.X, b.Y]; if e = 0 then (if b.X.Hi - b.X.Lo > w then 2 else if b.Y.Hi - b.Y.Lo > w then 2 else 0) else e) = boxN b m w := by
  simp only [spreadL, boxN, outN_cons, outN_nil, Bool.or_false]
  generalize b.X.Lo = x, b.X.Hi = X, b.Y.Lo = y, b.Y.Hi = Y
  by_cases a1 : x < -m ∨ x > m ∨ X < -m ∨ X > m
  · have e1 : (decide (x < -m) || decide (x > m) || (decide (X < -m) || decide (X > m))) = true := by simp; omega
    have e2 : (decide (x < -m) || decide (x > m) || (decide (X < -m) || decide (X > m) || (decide (y < -m) || decide (y > m) || (decide (Y < -m) || decide (Y > m))))) = true := by simp; omega
    rw [e1, e2]; simp
  · have e1 : (decide (x < -m) || decide (x > m) || (decide (X < -m) || decide (X > m))) = false := by simp; omega
    rw [e1]
    by_cases a2 : y < -m ∨ y > m ∨ Y < -m ∨ Y > m
    · have e2 : (decide (y < -m) || decide (y > m) || (decide (Y < -m) || decide (Y > m))) = true := by simp; omega
      have e3 : (decide (x < -m) || decide (x > m) || (decide (X < -m) || decide (X > m) || (decide (y < -m) || decide (y > m) || (decide (Y < -m) || decide (Y > m))))) = true := by simp; omega
      rw [e3, e2]; simp
    · have e2 : (decide (y < -m) || decide (y > m) || (decide (Y < -m) || decide (Y > m))) = false := by simp; omega
      have e3 : (decide (x < -m) || decide (x > m) || (decide (X < -m) || decide (X > m) || (decide (y < -m) || decide (y > m) || (decide (Y < -m) || decide (Y > m))))) = false := by simp; omega
      rw [e3, e2]
      simp only [Bool.false_eq_true, if_false]
      by_cases b1 : Y < y
      · have e4 : (decide (X - x < 0) || decide (X - x > w) || (decide (Y - y < 0) || decide (Y - y > w))) = true := by simp; omega
        rw [e4]
        simp [b1]
      · by_cases b2 : X < x
        · have e4 : (decide (X - x < 0) || decide (X - x > w) || (decide (Y - y < 0) || decide (Y - y > w))) = true := by simp; omega
          rw [e4]
          simp [b1, b2]
        · simp only [gt_iff_lt, b1, b2, if_false]
          by_cases b3 : X - x > w
          · have e4 : (decide (X - x < 0) || decide (w < X - x) || (decide (Y - y < 0) || decide (w < Y - y))) = true := by simp; omega
            rw [e4]; simp; omega
          · by_cases b4 : Y - y > w
            · have e4 : (decide (X - x < 0) || decide (w < X - x) || (decide (Y - y < 0) || decide (w < Y - y))) = true := by simp; omega
              rw [e4]; simp; omega
            · have e4 : (decide (X - x < 0) || decide (w < X - x) || (decide (Y - y < 0) || decide (w < Y - y))) = false := by simp; omega
              rw [e4]; simp; omega

theorem spread_lt (lo hi : Int) (b : CtBox) (h : spreadL lo hi 0 [b.X, b.Y] = 0) : lo ≤ b.X.Lo ∧ b.X.Hi ≤ hi ∧ b.X.Lo ≤ b.X.Hi ∧ lo ≤ b.Y.Lo ∧ b.Y.Hi ≤ hi ∧ b.Y.Lo ≤ b.Y.Hi := by
  simp only [spreadL, outN_cons, outN_nil, Bool.or_false] at h
  split at h
  · simp at h
  · split at h
    · simp at h
    · rename_i h1 h2
      simp at h1 h2
      split at h
      · simp at h
      · split at h
        · simp at h
        · omega

theorem ref01_Box_eq (b : CtBox) (m : Int) (hm : 0 ≤ m ∧ m ≤ 1000000) : ref01_Box b (-m) m = some (boxN b m 40) := by
  unfold ref01_Box
  rw [ref01_Spread_eq _ _ _ (by simp)]
  rw [← spread_box b m 40 (by omega)]
  simp only [Option.bind_some]
  by_cases h : spreadL (-m) m 0 [b.X, b.Y] = 0
  · have hb := spread_lt _ _ _ h
    have h1 : IntKind.wrap .i64 (b.X.Hi - b.X.Lo) = b.X.Hi - b.X.Lo := by rw [w64] <;> omega
    have h2 : IntKind.wrap .i64 (b.Y.Hi - b.Y.Lo) = b.Y.Hi - b.Y.Lo := by rw [w64] <;> omega
    rw [h1, h2, h]
    by_cases h3 : b.X.Hi - b.X.Lo > 40
    · simp [h3]
    · by_cases h4 : b.Y.Hi - b.Y.Lo > 40 <;> simp [h3, h4]
  · have h' : (spreadL (-m) m 0 [b.X, b.Y] == 0) = false := beq_eq_false_iff_ne.2 h
    rw [h', if_neg h]; rfl

end Nore
open Go Go.Ab
namespace Nore

theorem mul_bd {a b : Int} (A B : Int) (h1 : -A ≤ a) (h2 : a ≤ A) (h3 : -B ≤ b) (h4 : b ≤ B) : -(A * B) ≤ a * b ∧ a * b ≤ A * B := by
  have p1 := Int.mul_nonneg (show 0 ≤ A - a by omega) (show 0 ≤ B + b by omega)
  have p2 := Int.mul_nonneg (show 0 ≤ A + a by omega) (show 0 ≤ B - b by omega)
  have p3 := Int.mul_nonneg (show 0 ≤ A - a by omega) (show 0 ≤ B - b by omega)
  have p4 := Int.mul_nonneg (show 0 ≤ A + a by omega) (show 0 ≤ B + b by omega)
  constructor <;> grind

def allFrom (p : Nat → Bool) : Nat → Nat → Bool
  | _, 0 => true
  | i, k + 1 => p i && allFrom p (i + 1) k

theorem allFrom_iff (p : Nat → Bool) (k i : Nat) : allFrom p i k = true ↔ ∀ j, i ≤ j → j < i + k → p j = true := by
  induction k generalizing i with
  | zero => simp [allFrom]; intro j h1 h2; omega
  | succ k ih =>
    simp only [allFrom, Bool.and_eq_true, ih]
    constructor
    · rintro ⟨h1, h2⟩ j h3 h4
      by_cases h : j = i
      · subst h; exact h1
      · exact h2 j (by omega) (by omega)
    · intro h
      exact ⟨h i (by omega) (by omega), fun j h1 h2 => h j (by omega) (by omega)⟩

def subN (a b : Point) : Point := ⟨a.X - b.X, a.Y - b.Y⟩
def leftN (a b : Point) : Int := a.X * b.Y - a.Y * b.X
def P0 : Point := ⟨0, 0⟩
def sideN (l : List Point) (i : Nat) : Bool :=
  allFrom (fun m => m == i || m == (i + 1) % l.length || decide (0 < leftN (subN (l.getD ((i + 1) % l.length) P0) (l.getD i P0)) (subN (l.getD m P0) (l.getD i P0)))) 0 l.length
def roundN (l : List Point) : Bool := allFrom (sideN l) 0 l.length
def sandN (s : CtSand) : Int :=
  if outN 3 8 [(s.Corners.length : Int)] then 3 else if s.Corners.any (farN 10000) then 7 else if boxN s.Moves 500 40 = 0 then (if roundN s.Corners then 0 else 9) else boxN s.Moves 500 40

def Bd (A : Int) (p : Point) : Prop := -A ≤ p.X ∧ p.X ≤ A ∧ -A ≤ p.Y ∧ p.Y ≤ A
theorem farN_bd (A : Int) (p : Point) : farN A p = false ↔ Bd A p := by
  simp [farN, Bd]; omega
theorem any_far {A : Int} {l : List Point} (h : l.any (farN A) = false) (i : Nat) (hi : i < l.length) : Bd A l[i] := by
  rw [List.any_eq_false] at h
  rw [← farN_bd]
  simpa using h l[i] (List.getElem_mem hi)

theorem sub_w {a b : Int} (A : Int) (hA : A ≤ 1000000) (h1 : -A ≤ a ∧ a ≤ A) (h2 : -A ≤ b ∧ b ≤ A) : IntKind.wrap .i64 (a - b) = a - b := by rw [w64] <;> omega
theorem left_w {a b c d : Int} (A : Int) (hA : A = 2000000) (h1 : -A ≤ a ∧ a ≤ A) (h2 : -A ≤ b ∧ b ≤ A) (h3 : -A ≤ c ∧ c ≤ A) (h4 : -A ≤ d ∧ d ≤ A) : IntKind.wrap .i64 (IntKind.wrap .i64 (a * b) - IntKind.wrap .i64 (c * d)) = a * b - c * d := by
  subst hA
  have p := mul_bd _ _ h1.1 h1.2 h2.1 h2.2
  have q := mul_bd _ _ h3.1 h3.2 h4.1 h4.2
  rw [w64 (x := a * b), w64 (x := c * d), w64] <;> omega

theorem ref_side_loop (l : List Point) (hl : 3 ≤ l.length ∧ l.length ≤ 8) (hf : l.any (farN 10000) = false) (i : Nat) (hi : i < l.length) :
    ref01_round_L1_run (i : Int) l (((i + 1) % l.length : Nat) : Int) 0 = some (if sideN l i then .inr () else .inl false) := by
  have hk : (i + 1) % l.length < l.length := Nat.mod_lt _ (by omega)
  unfold sideN
  generalize hkk : (i + 1) % l.length = k at *
  have key := run_loop0 (ref01_round_L1_st (i : Int) l (k : Int)) l.length (fun j (_ : Unit) => (j : Int)) (fun _ _ => True) (fun j _ => some (if allFrom (fun m => m == i || m == k || decide (0 < leftN (subN (l.getD k P0) (l.getD i P0)) (subN (l.getD m P0) (l.getD i P0)))) j (l.length - j) then .inr () else .inl false))
    (by
      intro b _ R
      simp [ref01_round_L1_st, ref01_round_L1_step, allFrom])
    (by
      intro m b hm _ R hR
      have hR' := hR () trivial
      rw [show l.length - m = (l.length - (m + 1)) + 1 by omega]
      simp only [allFrom]
      simp only [ref01_round_L1_st, ref01_round_L1_step]
      have hw : IntKind.wrap .i64 ((m : Int) + 1) = ((m + 1 : Nat) : Int) := by rw [w64] <;> omega
      simp only [Int.toNat_natCast, getD_lt _ _ _ hm, getD_lt _ _ _ hi, getD_lt _ _ _ hk, hw]
      have b1 := any_far hf m hm
      have b2 := any_far hf i hi
      have b3 := any_far hf k hk
      unfold Bd at b1 b2 b3
      rw [sub_w 10000 (by omega) ⟨b3.1, b3.2.1⟩ ⟨b2.1, b2.2.1⟩, sub_w 10000 (by omega) b1.2.2 b2.2.2, sub_w 10000 (by omega) b3.2.2 b2.2.2, sub_w 10000 (by omega) ⟨b1.1, b1.2.1⟩ ⟨b2.1, b2.2.1⟩]
      rw [left_w 2000000 rfl (by omega) (by omega) (by omega) (by omega)]
      have d1 : decide ((m : Int) < ↑l.length) = true := by simp [hm]
      have d2 : decide ((0 : Int) ≤ ↑m) = true := by simp
      have d3 : decide ((i : Int) < ↑l.length) = true := by simp [hi]
      have d4 : decide ((0 : Int) ≤ ↑i) = true := by simp
      have d5 : decide ((k : Int) < ↑l.length) = true := by simp [hk]
      have d6 : decide ((0 : Int) ≤ ↑k) = true := by simp
      simp only [d1, d2, d3, d4, d5, d6, Bool.and_self, cond_true]
      change Option.bind (bif ((m : Int) != ↑i) then bif ((m : Int) != ↑k) then bif decide (leftN (subN l[k] l[i]) (subN l[m] l[i]) ≤ 0) then _ else _ else _ else _) _ = _
      by_cases e1 : m = i
      · have : ((m : Int) != (i : Int)) = false := by simp [e1]
        rw [this]; simp [e1]; simpa [e1, hi, hk] using hR'
      · have t1 : ((m : Int) != (i : Int)) = true := by simp; omega
        by_cases e2 : m = k
        · have : ((m : Int) != (k : Int)) = false := by simp [e2]
          rw [t1, this]; simp [e2]; simpa [e2, hi, hk] using hR'
        · have t2 : ((m : Int) != (k : Int)) = true := by simp; omega
          rw [t1, t2]
          by_cases e3 : leftN (subN l[k] l[i]) (subN l[m] l[i]) ≤ 0
          · have t3 : ¬ 0 < leftN (subN l[k] l[i]) (subN l[m] l[i]) := by omega
            simp [e1, e2, e3, t3]
          · have t3 : 0 < leftN (subN l[k] l[i]) (subN l[m] l[i]) := by omega
            simp [e1, e2, e3, t3]; simpa [hi, hk] using hR')
  have := key 0 () (by omega) trivial
  simpa [ref01_round_L1_run] using this

theorem ref01_round_eq (l : List Point) (hl : 3 ≤ l.length ∧ l.length ≤ 8) (hf : l.any (farN 10000) = false) : ref01_round l = some (roundN l) := by
  unfold ref01_round roundN
  have key := run_loop (ref01_round_L0_st l) (fun o103 => Sum.elim (fun y104 : Bool => some y104) (fun _ : Unit => some true) o103) l.length (fun i (_ : Unit) => (i : Int)) (fun _ _ => True) (fun i _ => some (allFrom (sideN l) i (l.length - i)))
    (by
      intro b _ R
      simp [ref01_round_L0_st, ref01_round_L0_step, allFrom])
    (by
      intro i b hi _ R hR
      have hR' := hR () trivial
      rw [show l.length - i = (l.length - (i + 1)) + 1 by omega]
      simp only [allFrom]
      simp only [ref01_round_L0_st, ref01_round_L0_step]
      have hw : IntKind.wrap .i64 ((i : Int) + 1) = ((i + 1 : Nat) : Int) := by rw [w64] <;> omega
      have hm : Int.tmod ((i + 1 : Nat) : Int) (l.length : Int) = (((i + 1) % l.length : Nat) : Int) := rfl
      have d1 : decide ((i : Int) < ↑l.length) = true := by simp [hi]
      have d2 : ((l.length : Int) == 0) = false := by simp; intro h; simp [h] at hl
      simp only [hw, hm, d1, d2, cond_true, cond_false]
      rw [ref_side_loop l hl hf i hi]
      simp only [Option.bind_some]
      cases h : sideN l i
      · simp
      · simp; simpa using hR')
  exact (key 0 () (by omega) trivial).trans (by simp)

theorem ref01_sand_eq (s : CtSand) : ref01_sand s = some (sandN s) := by
  unfold ref01_sand sandN
  rw [ref01_in_eq, inN_out]
  simp only [Option.bind_some]
  cases hb : outN 3 8 [(s.Corners.length : Int)]
  · have hl : 3 ≤ s.Corners.length ∧ s.Corners.length ≤ 8 := by simp at hb; omega
    simp only [Bool.not_false, Bool.not_true, cond_false, Bool.false_eq_true, if_false]
    have key := run_loop0 (ref01_sand_L0_st s) s.Corners.length (fun i (_ : Unit) => (i : Int)) (fun _ _ => True) (fun i _ => some (if (s.Corners.drop i).any (farN 10000) then .inl 7 else .inr ()))
      (by
        intro b _ R
        simp [ref01_sand_L0_st, ref01_sand_L0_step])
      (by
        intro i b hi _ R hR
        have hR' := hR () trivial
        simp only [ref01_sand_L0_st, ref01_sand_L0_step]
        rw [List.drop_eq_getElem_cons hi]
        have hw : IntKind.wrap .i64 ((i : Int) + 1) = ((i + 1 : Nat) : Int) := by rw [w64] <;> omega
        simp only [Int.toNat_natCast, getD_lt _ _ _ hi, List.any_cons, hw]
        rw [ref01_Within_eq _ _ (by omega)]
        have h1 : decide ((i : Int) < ↑s.Corners.length) = true := by simp [hi]
        have h2 : decide ((0 : Int) ≤ ↑i) = true := by simp
        simp only [h1, h2, Bool.and_self, cond_true, Option.bind_some]
        by_cases h3 : farN 10000 s.Corners[i] = true
        · simp [h3]
        · simp [h3]; simpa using hR')
    have k0 := key 0 () (by omega) trivial
    simp only [List.drop_zero, Int.natCast_zero] at k0
    unfold ref01_sand_L0_run
    have k0' : runOf (ref01_sand_L0_st s) 0 = some (if s.Corners.any (farN 10000) then .inl 7 else .inr ()) := k0
    rw [k0']
    simp only [Option.bind_some]
    cases hf : s.Corners.any (farN 10000)
    · simp only [Bool.false_eq_true, if_false, Sum.elim_inr]
      rw [ref01_Box_eq _ _ (by omega), ref01_round_eq _ hl hf]
      simp only [Option.bind_some]
      by_cases h : boxN s.Moves 500 40 = 0
      · rw [h]
        cases roundN s.Corners <;> simp
      · simp [h, beq_f h]
    · simp
  · simp

end Nore
open Go Go.Ab
namespace Nore

theorem cnt0 {α : Type} (P : α → Bool) (l : List α) : l.countP P = 0 ↔ ∀ m, (h : m < l.length) → P l[m] = false := by
  rw [List.countP_eq_zero]
  constructor
  · intro h m hm; simpa using h l[m] (List.getElem_mem hm)
  · intro h a ha
    obtain ⟨m, hm, rfl⟩ := List.getElem_of_mem ha
    simp [h m hm]

theorem cnt1 {α : Type} (P : α → Bool) (l : List α) : ∀ i, (hi : i < l.length) → P l[i] = true → (l.countP P = 1 ↔ ∀ m, (h : m < l.length) → m ≠ i → P l[m] = false) := by
  induction l with
  | nil => intro i hi; simp at hi
  | cons a t ih =>
    intro i hi hP
    cases i with
    | zero =>
      simp only [List.getElem_cons_zero] at hP
      rw [List.countP_cons_of_pos hP]
      rw [show (t.countP P + 1 = 1) ↔ t.countP P = 0 by omega, cnt0]
      constructor
      · intro h m hm hne
        cases m with
        | zero => exact absurd rfl hne
        | succ m => simpa using h m (by simpa using hm)
      · intro h m hm
        exact h (m + 1) (by simpa using hm) (by omega)
    | succ i =>
      simp only [List.getElem_cons_succ] at hP
      have hi' : i < t.length := by simpa using hi
      have hpos : 0 < t.countP P := by
        rw [List.countP_pos_iff]; exact ⟨t[i], List.getElem_mem hi', hP⟩
      have ih' := ih i hi' hP
      cases ha : P a
      · rw [List.countP_cons_of_neg (by simp [ha]), ih']
        constructor
        · intro h m hm hne
          cases m with
          | zero => simpa using ha
          | succ m => simpa using h m (by simpa using hm) (by omega)
        · intro h m hm hne
          exact h (m + 1) (by simpa using hm) (by omega)
      · rw [List.countP_cons_of_pos ha]
        constructor
        · intro h; omega
        · intro h
          have := h 0 (by simp) (by omega)
          simp [ha] at this

theorem cnt2 {α : Type} (P : α → Bool) (l : List α) : ∀ i k, (hi : i < l.length) → (hk : k < l.length) → i < k → P l[i] = true → P l[k] = true → (l.countP P = 2 ↔ ∀ m, (h : m < l.length) → m ≠ i → m ≠ k → P l[m] = false) := by
  induction l with
  | nil => intro i k hi; simp at hi
  | cons a t ih =>
    intro i k hi hk hik hP hQ
    cases k with
    | zero => omega
    | succ k =>
      simp only [List.getElem_cons_succ] at hQ
      have hk' : k < t.length := by simpa using hk
      cases i with
      | zero =>
        simp only [List.getElem_cons_zero] at hP
        rw [List.countP_cons_of_pos hP]
        rw [show (t.countP P + 1 = 2) ↔ t.countP P = 1 by omega, cnt1 P t k hk' hQ]
        constructor
        · intro h m hm hne hne2
          cases m with
          | zero => exact absurd rfl hne
          | succ m => simpa using h m (by simpa using hm) (by omega)
        · intro h m hm hne
          exact h (m + 1) (by simpa using hm) (by omega) (by omega)
      | succ i =>
        simp only [List.getElem_cons_succ] at hP
        have hi' : i < t.length := by simpa using hi
        have ih' := ih i k hi' hk' (by omega) hP hQ
        cases ha : P a
        · rw [List.countP_cons_of_neg (by simp [ha]), ih']
          constructor
          · intro h m hm hne hne2
            cases m with
            | zero => simpa using ha
            | succ m => simpa using h m (by simpa using hm) (by omega) (by omega)
          · intro h m hm hne hne2
            exact h (m + 1) (by simpa using hm) (by omega) (by omega)
        · have hpos : 2 ≤ t.countP P := by
            have h1 := cnt1 P t i hi' hP
            have : 0 < t.countP P := by
              rw [List.countP_pos_iff]; exact ⟨t[i], List.getElem_mem hi', hP⟩
            by_cases e : t.countP P = 1
            · have := h1.1 e k hk' (by omega)
              simp [hQ] at this
            · omega
          rw [List.countP_cons_of_pos ha]
          constructor
          · intro h; omega
          · intro h
            have := h 0 (by simp) (by omega) (by omega)
            simp [ha] at this

def goodSide (l : List Point) (a b : Point) : Bool :=
  (l.countP fun p => decide (leftN (subN b a) (subN p a) ≤ 0)) == 2 && !((b.X - a.X == 0) && (b.Y - a.Y == 0))
def sidesL (l : List Point) : Point → List Point → Bool
  | _, [] => true
  | last, p :: r => goodSide l last p && sidesL l p r

theorem left_self (a b : Point) : leftN (subN b a) (subN b a) = 0 := by simp [leftN, Int.mul_comm]
theorem left_zero (a b : Point) : leftN (subN b a) (subN a a) = 0 := by simp [leftN, subN]

theorem goodSide_iff (l : List Point) (hl : 3 ≤ l.length) (i k : Nat) (hi : i < l.length) (hk : k < l.length) (hne : i ≠ k) :
    goodSide l l[i] l[k] = allFrom (fun m => m == i || m == k || decide (0 < leftN (subN (l.getD k P0) (l.getD i P0)) (subN (l.getD m P0) (l.getD i P0)))) 0 l.length := by
  rw [Bool.eq_iff_iff, allFrom_iff]
  have hPi : decide (leftN (subN l[k] l[i]) (subN l[i] l[i]) ≤ 0) = true := by rw [left_zero]; rfl
  have hPk : decide (leftN (subN l[k] l[i]) (subN l[k] l[i]) ≤ 0) = true := by rw [left_self]; rfl
  have hc : (l.countP fun p => decide (leftN (subN l[k] l[i]) (subN p l[i]) ≤ 0)) = 2 ↔ ∀ m, (h : m < l.length) → m ≠ i → m ≠ k → decide (leftN (subN l[k] l[i]) (subN l[m] l[i]) ≤ 0) = false := by
    by_cases hik : i < k
    · exact cnt2 (fun p => decide (leftN (subN l[k] l[i]) (subN p l[i]) ≤ 0)) l i k hi hk hik hPi hPk
    · have := cnt2 (fun p => decide (leftN (subN l[k] l[i]) (subN p l[i]) ≤ 0)) l k i hk hi (by omega) hPk hPi
      rw [this]
      constructor
      · intro h m hm h1 h2; exact h m hm h2 h1
      · intro h m hm h1 h2; exact h m hm h2 h1
  simp only [goodSide, Bool.and_eq_true, beq_iff_eq, hc]
  constructor
  · rintro ⟨h, _⟩ m _ hm
    have hm' : m < l.length := by omega
    by_cases e1 : m = i
    · simp [e1]
    · by_cases e2 : m = k
      · simp [e2]
      · have := h m hm' e1 e2
        simp only [getD_lt _ _ _ hm', getD_lt _ _ _ hi, getD_lt _ _ _ hk]
        simp at this
        simp [this]
  · intro h
    have h' : ∀ m, (hm : m < l.length) → m ≠ i → m ≠ k → 0 < leftN (subN l[k] l[i]) (subN l[m] l[i]) := fun m hm e1 e2 => by
      have := h m (by omega) (by omega)
      simp only [getD_lt _ _ _ hm, getD_lt _ _ _ hi, getD_lt _ _ _ hk] at this
      simpa [e1, e2] using this
    refine ⟨fun m hm e1 e2 => ?_, ?_⟩
    · have := h' m hm e1 e2
      simp; omega
    · have : ∃ m, m < l.length ∧ m ≠ i ∧ m ≠ k := by
        by_cases a0 : 0 ≠ i ∧ 0 ≠ k
        · exact ⟨0, by omega, a0⟩
        · by_cases a1 : 1 ≠ i ∧ 1 ≠ k
          · exact ⟨1, by omega, a1⟩
          · exact ⟨2, by omega, by omega, by omega⟩
      obtain ⟨m, hm, e1, e2⟩ := this
      have := h' m hm e1 e2
      rw [Bool.not_eq_true', Bool.eq_false_iff]
      intro hz
      simp only [Bool.and_eq_true, beq_iff_eq] at hz
      simp [leftN, subN, hz.1, hz.2] at this

theorem sidesL_iff (l : List Point) : ∀ k i, i + k = l.length → 1 ≤ i → (hi : i - 1 < l.length) → (sidesL l l[i - 1] (l.drop i) = true ↔ ∀ j, (h1 : i ≤ j) → (h2 : j < l.length) → goodSide l l[j - 1] l[j] = true) := by
  intro k
  induction k with
  | zero =>
    intro i hk h1 hi
    rw [List.drop_eq_nil_of_le (by omega)]
    simp [sidesL]
    intro j h1 h2; omega
  | succ k ih =>
    intro i hk h1 hi
    have hi2 : i < l.length := by omega
    rw [List.drop_eq_getElem_cons hi2]
    simp only [sidesL, Bool.and_eq_true]
    have := ih (i + 1) (by omega) (by omega) (by omega)
    simp only [Nat.add_sub_cancel] at this
    rw [this]
    constructor
    · rintro ⟨g, h⟩ j a b
      by_cases e : j = i
      · subst e; exact g
      · exact h j (by omega) b
    · intro h
      exact ⟨h i (by omega) hi2, fun j a b => h j (by omega) b⟩

theorem sides_round (l : List Point) (hl : 3 ≤ l.length) : sidesL l (l.getD (l.length - 1) P0) l = roundN l := by
  rw [Bool.eq_iff_iff]
  have e : sidesL l (l.getD (l.length - 1) P0) l = (goodSide l l[l.length - 1] l[0] && sidesL l l[1 - 1] (l.drop 1)) := by
    conv => lhs; rw [show l = l[0] :: l.drop 1 by rw [← List.drop_eq_getElem_cons (by omega)]; rfl]
    rw [← show l = l[0] :: l.drop 1 by rw [← List.drop_eq_getElem_cons (by omega)]; rfl]
    rw [getD_lt _ _ _ (by omega)]
    conv => lhs; arg 3; rw [show l = l[0] :: l.drop 1 by rw [← List.drop_eq_getElem_cons (by omega)]; rfl]
    rfl
  rw [e]
  simp only [Bool.and_eq_true]
  rw [sidesL_iff l (l.length - 1) 1 (by omega) (by omega) (by omega)]
  unfold roundN
  rw [allFrom_iff]
  have hside : ∀ i, (hi : i < l.length) → sideN l i = goodSide l l[i] (l[(i + 1) % l.length]'(Nat.mod_lt _ (by omega))) := fun i hi => by
    have hk : (i + 1) % l.length < l.length := Nat.mod_lt _ (by omega)
    have hne : i ≠ (i + 1) % l.length := by
      by_cases h : i + 1 < l.length
      · rw [Nat.mod_eq_of_lt h]; omega
      · have : i + 1 = l.length := by omega
        rw [this, Nat.mod_self]; omega
    rw [goodSide_iff l hl i _ hi hk hne]
    rfl
  constructor
  · rintro ⟨h0, h⟩ i _ hi
    have hi' : i < l.length := by omega
    rw [hside i hi']
    by_cases hh : i + 1 < l.length
    · have := h (i + 1) (by omega) hh
      simp only [Nat.mod_eq_of_lt hh]
      simpa using this
    · have e1 : i = l.length - 1 := by omega
      subst e1
      simp only [show l.length - 1 + 1 = l.length by omega, Nat.mod_self]
      exact h0
  · intro h
    constructor
    · have := h (l.length - 1) (by omega) (by omega)
      rw [hside _ (by omega)] at this
      simpa only [show l.length - 1 + 1 = l.length by omega, Nat.mod_self] using this
    · intro j h1 h2
      have := h (j - 1) (by omega) (by omega)
      rw [hside _ (by omega)] at this
      simpa only [show j - 1 + 1 = j by omega, Nat.mod_eq_of_lt h2] using this

theorem chart_ends_loop (l : List Point) (hl : l.length ≤ 8) (hf : l.any (farN 10000) = false) (x4 : chart_sand) (x5 : Bool) (x6 : Int) (x7 : Bool) (x8 : chart_sand) (x9 : Bool) (x10 : Int) (x11 : chart_sand) (x12 : Point) (s : chart_side) (x14 : List Int) (x16 : Point) (a b : Point) (ha : Bd 10000 a) (hb : Bd 10000 b) (hs : s = ⟨a, subN b a⟩) :
    chart_sand_check_L1_run (↑l.length) l x4 x5 x6 x7 x8 x9 x10 x11 x12 s x14 x16 (0, 0) = some ((l.countP fun p => decide (leftN (subN b a) (subN p a) ≤ 0) : Nat) : Int) := by
  subst hs
  unfold Bd at ha hb
  have key := run_loop0 (chart_sand_check_L1_st (↑l.length) l x4 x5 x6 x7 x8 x9 x10 x11 x12 ⟨a, subN b a⟩ x14 x16) l.length (fun i (c : Nat) => ((c : Int), (i : Int))) (fun i c => c ≤ i) (fun i c => some (((c + (l.drop i).countP fun p => decide (leftN (subN b a) (subN p a) ≤ 0) : Nat)) : Int))
    (by
      intro b _ R
      simp [chart_sand_check_L1_st, chart_sand_check_L1_step])
    (by
      intro i c hi hc R hR
      simp only [chart_sand_check_L1_st, chart_sand_check_L1_step]
      rw [List.drop_eq_getElem_cons hi]
      have hw : IntKind.wrap .i64 ((i : Int) + 1) = ((i + 1 : Nat) : Int) := by rw [w64] <;> omega
      have hw2 : IntKind.wrap .i64 ((c : Int) + 1) = ((c + 1 : Nat) : Int) := by rw [w64] <;> omega
      have bp := any_far hf i hi
      unfold Bd at bp
      simp only [Int.toNat_natCast, getD_lt _ _ _ hi, hw, hw2, subN]
      rw [sub_w 10000 (by omega) bp.2.2 ha.2.2, sub_w 10000 (by omega) ⟨bp.1, bp.2.1⟩ ⟨ha.1, ha.2.1⟩]
      rw [left_w 2000000 rfl (by omega) (by omega) (by omega) (by omega)]
      have h1 : decide ((i : Int) < ↑l.length) = true := by simp [hi]
      have h2 : decide ((0 : Int) ≤ ↑i) = true := by simp
      simp only [h1, h2, Bool.and_self, cond_true]
      change Option.bind (bif decide (leftN (subN b a) (subN l[i] a) ≤ 0) then _ else _) _ = _
      change _ = some (((c + List.countP (fun p => decide (leftN (subN b a) (subN p a) ≤ 0)) (l[i] :: List.drop (i + 1) l) : Nat)) : Int)
      by_cases h : leftN (subN b a) (subN l[i] a) ≤ 0
      · rw [List.countP_cons_of_pos (by simpa using h)]
        simp only [h, decide_true, cond_true, Option.bind_some, Sum.elim_inl]
        rw [hR (c + 1) (by omega)]
        congr 1
        show ((_ : Nat) : Int) = ((_ : Nat) : Int)
        congr 1
        show c + 1 + _ = c + (_ + 1)
        simp only [subN]
        omega
      · rw [List.countP_cons_of_neg (by simpa using h)]
        simp only [h, decide_false, cond_false, Option.bind_some, Sum.elim_inl]
        rw [hR c (by omega)])
  have := key 0 0 (by omega) (by omega)
  simpa [chart_sand_check_L1_run] using this

theorem chart_sand_check_eq (s : chart_sand) : chart_sand_check s = some (sandN s.CtSand) := by
  obtain ⟨s⟩ := s
  unfold chart_sand_check sandN
  rw [chart_out_eq _ _ _ (by simp)]
  simp only [Option.bind_some]
  cases hb : outN 3 8 [(s.Corners.length : Int)]
  · have hl : 3 ≤ s.Corners.length ∧ s.Corners.length ≤ 8 := by simp at hb; omega
    simp only [cond_false, Bool.false_eq_true, if_false]
    rw [chart_far_eq _ (by omega) _ (by omega)]
    simp only [Option.bind_some]
    cases hf : s.Corners.any (farN 10000)
    · simp only [cond_false, Bool.false_eq_true, if_false]
      rw [chart_box_eq _ _ (by omega)]
      simp only [Option.bind_some]
      by_cases h : boxN s.Moves 500 40 = 0
      · have hw : IntKind.wrap .i64 ((s.Corners.length : Int) - 1) = (s.Corners.length : Int) - 1 := by rw [w64] <;> omega
        have ht : ((s.Corners.length : Int) - 1).toNat = s.Corners.length - 1 := by omega
        have h1 : decide ((0 : Int) ≤ (s.Corners.length : Int) - 1) = true := by simp; omega
        have h2 : decide ((s.Corners.length : Int) - 1 < (s.Corners.length : Int)) = true := by simp; omega
        simp only [h, hw, ht, h1, h2, bne_self_eq_false, cond_false, Bool.and_self, cond_true, if_true]
        rw [← sides_round _ hl.1]
        have hlast : Bd 10000 (s.Corners.getD (s.Corners.length - 1) P0) := by
          rw [getD_lt _ _ _ (by omega)]; exact any_far hf _ (by omega)
        refine (run_loop (chart_sand_check_L0_st (↑s.Corners.length) s.Corners ⟨s⟩ false 0 false ⟨s⟩ false 0 ⟨s⟩ [(↑s.Corners.length : Int)]) _ s.Corners.length (fun i (b : Point) => ((i : Int), b)) (fun _ b => Bd 10000 b) (fun i b => some (if sidesL s.Corners b (s.Corners.drop i) then 0 else 9)) ?_ ?_ 0 _ (by omega) hlast).trans (by simp)
        · intro b _ R
          simp [chart_sand_check_L0_st, chart_sand_check_L0_step, sidesL]
        · intro i b hi hP R hR
          have bp := any_far hf i hi
          have hR' := hR s.Corners[i] bp
          simp only [chart_sand_check_L0_st, chart_sand_check_L0_step]
          rw [List.drop_eq_getElem_cons hi]
          have hw : IntKind.wrap .i64 ((i : Int) + 1) = ((i + 1 : Nat) : Int) := by rw [w64] <;> omega
          simp only [Int.toNat_natCast, getD_lt _ _ _ hi, hw, sidesL]
          have bp' := bp
          have hP' := hP
          unfold Bd at bp' hP'
          rw [sub_w 10000 (by omega) bp'.2.2 hP'.2.2, sub_w 10000 (by omega) ⟨bp'.1, bp'.2.1⟩ ⟨hP'.1, hP'.2.1⟩]
          rw [chart_ends_loop s.Corners hl.2 hf _ _ _ _ _ _ _ _ _ ⟨⟨b.X, b.Y⟩, ⟨s.Corners[i].X - b.X, s.Corners[i].Y - b.Y⟩⟩ _ _ b s.Corners[i] hP bp rfl]
          have h1 : decide ((i : Int) < ↑s.Corners.length) = true := by simp [hi]
          have h2 : decide ((0 : Int) ≤ ↑i) = true := by simp
          simp only [h1, h2, Bool.and_self, cond_true, Option.bind_some]
          have hg : goodSide s.Corners b s.Corners[i] = ((s.Corners.countP fun p => decide (leftN (subN s.Corners[i] b) (subN p b) ≤ 0)) == 2 && !((s.Corners[i].X - b.X == 0) && (s.Corners[i].Y - b.Y == 0))) := rfl
          generalize (s.Corners.countP fun p => decide (leftN (subN s.Corners[i] b) (subN p b) ≤ 0)) = c at hg ⊢
          by_cases h3 : c = 2
          · subst h3
            cases h4 : (s.Corners[i].X - b.X == 0)
            · simp only [h4, Bool.false_and, Bool.not_false, Bool.and_true, beq_self_eq_true] at hg
              simp [hg]; simpa using hR'
            · cases h5 : (s.Corners[i].Y - b.Y == 0)
              · simp only [h4, h5, Bool.and_false, Bool.not_false, Bool.and_true, beq_self_eq_true] at hg
                simp [hg]; simpa using hR'
              · simp only [h4, h5, Bool.and_self, Bool.not_true, Bool.and_false] at hg
                simp [hg]
          · have h3' : (((c : Nat) : Int) != 2) = true := by simp; omega
            have h3'' : (c == 2) = false := by simp [h3]
            rw [h3'', Bool.false_and] at hg
            simp [h3', hg]
      · rw [bne_t h, if_neg h]; rfl
    · simp
  · simp

end Nore
open Go Go.Ab
namespace Nore

theorem ba_beq (a b : ByteArray) : (a == b) = (a.data == b.data) := by cases a; cases b; rfl
instance : LawfulBEq ByteArray where
  rfl := by intro a; rw [ba_beq]; simp
  eq_of_beq := by
    intro a b h
    rw [ba_beq] at h
    have := eq_of_beq h
    cases a; cases b
    simp only at this
    rw [this]
instance : DecidableEq ByteArray := fun a b => if h : (a == b) = true then isTrue (eq_of_beq h) else isFalse (fun e => h (by rw [e]; simp))

theorem mfind_mput {v : Int} (s k : ByteArray) : ∀ m : List (ByteArray × Int), mfind (fun a b => a == b) s (mput (fun a b => a == b) k v m) = if s = k then some v else mfind (fun a b => a == b) s m
  | [] => by
    by_cases h : s = k
    · simp [mput, mfind, h]
    · have h' : (s == k) = false := beq_eq_false_iff_ne.2 h
      simp [mput, mfind, h, h']
  | (k', v') :: m => by
    have ih := mfind_mput s k m (v := v)
    simp only [mput]
    by_cases h1 : k = k'
    · subst h1
      simp only [beq_self_eq_true, cond_true, mfind]
      by_cases h : s = k
      · simp [h]
      · have h' : (s == k) = false := beq_eq_false_iff_ne.2 h
        simp [h, h']
    · have : (k == k') = false := by simp [h1]
      simp only [this, cond_false, mfind]
      by_cases h2 : s = k'
      · subst h2
        have h3 : s ≠ k := fun h => h1 h.symm
        simp [h3]
      · have : (s == k') = false := by simp [h2]
        simp only [this, cond_false, ih]

def freshN (s : ByteArray) (names : List ByteArray) : Int := if nameN s then (if s ∈ names then 5 else 0) else 6

theorem toList_inj {a b : ByteArray} (h : a.toList = b.toList) : a = b := by
  cases a; cases b
  simp only [ByteArray.toList_eq] at h
  congr 1
  exact Array.ext' h

theorem ref01_Fresh_eq (s : ByteArray) (names : List ByteArray) (hl : names.length < 1000000) : ref01_Fresh s names = some (freshN s names) := by
  unfold ref01_Fresh freshN
  rw [ref01_Name_eq]
  simp only [Option.bind_some]
  cases nameN s
  · simp
  · simp only [Bool.not_true, cond_false, if_true]
    unfold ref01_Place
    have key := run_loop (ref01_Place_L0_st s names) (fun o78 => Option.bind (Sum.elim (fun y79 : Int => some y79) (fun _ : Unit => some (-1)) o78) fun r82 => bif decide (r82 ≥ 0) then some (5 : Int) else some 0) names.length (fun i (_ : Unit) => (i : Int)) (fun _ _ => True) (fun i _ => some (if s ∈ names.drop i then 5 else 0))
      (by
        intro b _ R
        simp [ref01_Place_L0_st, ref01_Place_L0_step])
      (by
        intro i b hi _ R hR
        have hR' := hR () trivial
        simp only [ref01_Place_L0_st, ref01_Place_L0_step]
        rw [List.drop_eq_getElem_cons hi]
        have hw : IntKind.wrap .i64 ((i : Int) + 1) = ((i + 1 : Nat) : Int) := by rw [w64] <;> omega
        simp only [Int.toNat_natCast, getD_lt _ _ _ hi, hw]
        have h1 : decide ((i : Int) < ↑names.length) = true := by simp [hi]
        have h2 : decide ((0 : Int) ≤ ↑i) = true := by simp
        simp only [h1, h2, Bool.and_self, cond_true]
        by_cases h : names[i] = s
        · simp [h]
        · have h' : (names[i].toList == s.toList) = false := by
            simp only [beq_eq_false_iff_ne]; intro hh; exact h (toList_inj hh)
          have h'' : ¬ s = names[i] := fun hh => h hh.symm
          simp only [h', cond_false, Option.bind_some, Sum.elim_inl, List.mem_cons, h'', false_or]
          exact hR')
    have := key 0 () (by omega) trivial
    simp only [List.drop_zero] at this
    rw [← this]
    show Option.bind (Option.bind _ _) _ = Option.bind _ _
    unfold ref01_Place_L0_run
    simp only [Int.natCast_zero]
    cases runOf (ref01_Place_L0_st s names) 0 <;> rfl

def markE (m : CtMark) (names : List ByteArray) : Int := if freshN m.Name names = 0 then (if farN 30000 m.At then 7 else paintsN m.Paints) else freshN m.Name names
def sandE (s : CtSand) (names : List ByteArray) : Int := if freshN s.Name names = 0 then sandN s else freshN s.Name names
def sandsL : Nat → List ByteArray → List CtSand → Int × Int × Int
  | _, _, [] => (0, 0, 0)
  | i, names, s :: l => if sandE s names = 0 then sandsL (i + 1) (names ++ [s.Name]) l else (2, (i : Int), sandE s names)
def marksL (sands : List CtSand) : Nat → List ByteArray → List CtMark → Int × Int × Int
  | _, names, [] => if 4 < sands.length then (2, 0, 3) else sandsL 0 names sands
  | i, names, m :: l => if markE m names = 0 then marksL sands (i + 1) (names ++ [m.Name]) l else (1, (i : Int), markE m names)
def checkN (c : CtChart) : Int × Int × Int := if 8 < c.Marks.length then (1, 0, 3) else marksL c.Sands 0 [] c.Marks

def Kept (m : List (ByteArray × Int)) (names : List ByteArray) : Prop := ∀ s, Option.getD (mfind (fun a b => a == b) s m) 0 = if s ∈ names then 1 else 0

theorem kept_put {m : List (ByteArray × Int)} {names : List ByteArray} (h : Kept m names) (s : ByteArray) (hs : s ∉ names) : Kept (mput (fun a b => a == b) s (IntKind.wrap .i64 (Option.getD (mfind (fun a b => a == b) s m) 0 + 1)) m) (names ++ [s]) := by
  intro t
  rw [mfind_mput, h s, if_neg hs]
  by_cases e : t = s
  · simp [e]; rfl
  · simp [e]; simpa using h t

theorem kept_fresh {m : List (ByteArray × Int)} {names : List ByteArray} (h : Kept m names) (s : ByteArray) : decide (Option.getD (mfind (fun a b => a == b) s (mput (fun a b => a == b) s (IntKind.wrap .i64 (Option.getD (mfind (fun a b => a == b) s m) 0 + 1)) m)) 0 > 1) = decide (s ∈ names) := by
  rw [mfind_mput, h s]
  simp only [if_true, Option.getD_some]
  by_cases e : s ∈ names
  · simp only [e, if_true]; rfl
  · simp only [e, if_false]; rfl

theorem chart_sands (c : CtChart) (hl : c.Sands.length ≤ 4) (m : List (ByteArray × Int)) (names : List ByteArray) (hm : Kept m names) (k : _ → Option (Int × Int × Int))
    (hk : k = fun o56 => Sum.elim (fun (y57 : Int × Int × Int × (List (ByteArray × Int)) × CtSand) => some (y57.snd.snd.fst, y57.fst, y57.snd.fst)) (fun y58 => Sum.elim (fun (y59 : Int × Int × Int × (List (ByteArray × Int)) × CtSand) => some (y59.snd.snd.fst, y59.fst, y59.snd.fst)) (fun y60 => Sum.elim (fun (y61 : Int × Int × Int × (List (ByteArray × Int)) × CtSand) => some (y61.snd.snd.fst, y61.fst, y61.snd.fst)) (fun (_ : List (ByteArray × Int)) => some (0, 0, 0)) y60) y58) o56) :
    Option.bind (chart_Check_L1_run (↑c.Sands.length) c.Sands c (0, m)) k = some (sandsL 0 names c.Sands) := by
  subst hk
  unfold chart_Check_L1_run
  exact run_loop (chart_Check_L1_st (↑c.Sands.length) c.Sands c) _ c.Sands.length (fun i (b : List (ByteArray × Int) × List ByteArray) => ((i : Int), b.1)) (fun _ b => Kept b.1 b.2) (fun i b => some (sandsL i b.2 (c.Sands.drop i)))
    (by
      intro b _ R
      simp [chart_Check_L1_st, chart_Check_L1_step, sandsL])
    (by
      intro i b hi hP R hR
      simp only [chart_Check_L1_st, chart_Check_L1_step]
      rw [List.drop_eq_getElem_cons hi]
      have hw : IntKind.wrap .i64 ((i : Int) + 1) = ((i + 1 : Nat) : Int) := by rw [w64] <;> omega
      simp only [Int.toNat_natCast, getD_lt _ _ _ hi, hw, sandsL]
      rw [chart_Name_eq, chart_sand_check_eq, kept_fresh hP]
      have h1 : decide ((i : Int) < ↑c.Sands.length) = true := by simp [hi]
      have h2 : decide ((0 : Int) ≤ ↑i) = true := by simp
      simp only [h1, h2, Bool.and_self, cond_true, Option.bind_some]
      by_cases hn : nameN c.Sands[i].Name = true
      · by_cases he : c.Sands[i].Name ∈ b.2
        · have hE : sandE c.Sands[i] b.2 = 5 := by simp [sandE, freshN, hn, he]
          simp [hn, he, hE]
        · have e0 : (⟨c.Sands[i].Name, c.Sands[i].Corners, c.Sands[i].Moves⟩ : CtSand) = c.Sands[i] := rfl
          have hE : sandE c.Sands[i] b.2 = sandN c.Sands[i] := by simp [sandE, freshN, hn, he]
          rw [e0]
          simp only [hn, he, Bool.not_true, decide_false, cond_false, hE]
          by_cases hs : sandN c.Sands[i] = 0
          · simp only [hs, bne_self_eq_false, cond_false, if_true, Option.bind_some, Sum.elim_inl]
            exact hR (_, b.2 ++ [c.Sands[i].Name]) (kept_put hP _ he)
          · simp [hs, bne_t hs]
      · have hE : sandE c.Sands[i] b.2 = 6 := by simp [sandE, freshN, hn]
        simp [hn, hE]) 0 (m, names) (by omega) hm

theorem chart_Check_eq (c : CtChart) : chart_Check c = some (checkN c) := by
  unfold chart_Check checkN
  by_cases h8 : 8 < c.Marks.length
  · have : decide ((c.Marks.length : Int) > 8) = true := by simp; omega
    rw [this]; simp [h8]
  · have : decide ((c.Marks.length : Int) > 8) = false := by simp; omega
    rw [this]
    simp only [cond_false, h8, if_false]
    exact run_loop (chart_Check_L0_st (↑c.Marks.length) c.Marks c) _ c.Marks.length (fun i (b : List (ByteArray × Int) × List ByteArray) => ((i : Int), b.1)) (fun _ b => Kept b.1 b.2) (fun i b => some (marksL c.Sands i b.2 (c.Marks.drop i)))
      (by
        intro b hP R
        simp only [chart_Check_L0_st, chart_Check_L0_step]
        have h1 : decide ((c.Marks.length : Int) < ↑c.Marks.length) = false := by simp
        simp only [h1, cond_false, Option.bind_some, Sum.elim_inr, List.drop_length, marksL]
        by_cases h4 : 4 < c.Sands.length
        · have : decide ((c.Sands.length : Int) > 4) = true := by simp; omega
          rw [this]; simp [h4]
        · have : decide ((c.Sands.length : Int) > 4) = false := by simp; omega
          rw [this]
          simp only [cond_false, h4, if_false]
          exact chart_sands c (by omega) _ _ hP _ rfl)
      (by
        intro i b hi hP R hR
        simp only [chart_Check_L0_st, chart_Check_L0_step]
        rw [List.drop_eq_getElem_cons hi]
        have hw : IntKind.wrap .i64 ((i : Int) + 1) = ((i + 1 : Nat) : Int) := by rw [w64] <;> omega
        simp only [Int.toNat_natCast, getD_lt _ _ _ hi, hw, marksL]
        rw [chart_Name_eq, chart_paints_eq, kept_fresh hP, chart_far_eq _ (by omega) _ (by simp)]
        have h1 : decide ((i : Int) < ↑c.Marks.length) = true := by simp [hi]
        have h2 : decide ((0 : Int) ≤ ↑i) = true := by simp
        simp only [h1, h2, Bool.and_self, cond_true, Option.bind_some, List.any_cons, List.any_nil, Bool.or_false]
        by_cases hn : nameN c.Marks[i].Name = true
        · by_cases he : c.Marks[i].Name ∈ b.2
          · have hE : markE c.Marks[i] b.2 = 5 := by simp [markE, freshN, hn, he]
            simp [hn, he, hE]
          · by_cases hfar : farN 30000 c.Marks[i].At = true
            · have hE : markE c.Marks[i] b.2 = 7 := by simp [markE, freshN, hn, he, hfar]
              simp [hn, he, hfar, hE]
            · have hE : markE c.Marks[i] b.2 = paintsN c.Marks[i].Paints := by simp [markE, freshN, hn, he, hfar]
              simp only [hn, he, hfar, Bool.not_true, decide_false, cond_false, hE]
              by_cases hs : paintsN c.Marks[i].Paints = 0
              · simp only [hs, bne_self_eq_false, cond_false, if_true, Option.bind_some, Sum.elim_inl]
                exact hR (_, b.2 ++ [c.Marks[i].Name]) (kept_put hP _ he)
              · simp [hs, bne_t hs]
        · have hE : markE c.Marks[i] b.2 = 6 := by simp [markE, freshN, hn]
          simp [hn, hE]) 0 ([], []) (by omega) (by intro s; simp [mfind])

theorem ref01_sands (c : CtChart) (hl : c.Sands.length ≤ 4) (names : List ByteArray) (hm : names.length ≤ 8) (k : _ → Option (Int × Int × Int))
    (hk : k = fun o134 => Sum.elim (fun (y135 : Int × Int × Int × (List ByteArray) × (List ByteArray)) => some (y135.snd.snd.fst, y135.fst, y135.snd.fst)) (fun y136 => Sum.elim (fun (y137 : Int × Int × Int × (List ByteArray) × (List ByteArray)) => some (y137.snd.snd.fst, y137.fst, y137.snd.fst)) (fun (_ : List ByteArray) => some (0, 0, 0)) y136) o134) :
    Option.bind (ref01_Check_L1_run c (0, names)) k = some (sandsL 0 names c.Sands) := by
  subst hk
  unfold ref01_Check_L1_run
  exact run_loop (ref01_Check_L1_st c) _ c.Sands.length (fun i (b : List ByteArray) => ((i : Int), b)) (fun i b => b.length ≤ 8 + i) (fun i b => some (sandsL i b (c.Sands.drop i)))
    (by
      intro b _ R
      simp [ref01_Check_L1_st, ref01_Check_L1_step, sandsL])
    (by
      intro i b hi hP R hR
      simp only [ref01_Check_L1_st, ref01_Check_L1_step]
      rw [List.drop_eq_getElem_cons hi]
      have hw : IntKind.wrap .i64 ((i : Int) + 1) = ((i + 1 : Nat) : Int) := by rw [w64] <;> omega
      simp only [Int.toNat_natCast, getD_lt _ _ _ hi, hw, sandsL]
      rw [ref01_Fresh_eq _ _ (by omega), ref01_sand_eq]
      have h1 : decide ((i : Int) < ↑c.Sands.length) = true := by simp [hi]
      have h2 : decide ((0 : Int) ≤ ↑i) = true := by simp
      have h3 : Nat.ble ((b.length + [c.Sands[i].Name].length) * (16 + 1)) 200000000000000 = true := by
        rw [Nat.ble_eq]; simp; omega
      simp only [h1, h2, h3, Bool.and_self, cond_true, Option.bind_some]
      by_cases hf : freshN c.Sands[i].Name b = 0
      · have hE : sandE c.Sands[i] b = sandN c.Sands[i] := by simp [sandE, hf]
        simp only [hf, hE, beq_self_eq_true, cond_true]
        by_cases hs : sandN c.Sands[i] = 0
        · simp only [hs, bne_self_eq_false, cond_false, if_true, Option.bind_some, Sum.elim_inl]
          exact hR (b ++ [c.Sands[i].Name]) (by simp; omega)
        · simp [hs, bne_t hs]
      · have hE : sandE c.Sands[i] b = freshN c.Sands[i].Name b := by simp [sandE, hf]
        simp [hE, hf, beq_f hf, bne_t hf]) 0 names (by omega) (by omega)

theorem ref01_Check_eq (c : CtChart) : ref01_Check c = some (checkN c) := by
  unfold ref01_Check checkN
  by_cases h8 : 8 < c.Marks.length
  · have : decide ((c.Marks.length : Int) > 8) = true := by simp; omega
    rw [this]; simp [h8]
  · have : decide ((c.Marks.length : Int) > 8) = false := by simp; omega
    rw [this]
    simp only [cond_false, h8, if_false]
    exact run_loop (ref01_Check_L0_st c) _ c.Marks.length (fun i (b : List ByteArray) => ((i : Int), b)) (fun i b => b.length ≤ i) (fun i b => some (marksL c.Sands i b (c.Marks.drop i)))
      (by
        intro b hP R
        simp only [ref01_Check_L0_st, ref01_Check_L0_step]
        have h1 : decide ((c.Marks.length : Int) < ↑c.Marks.length) = false := by simp
        simp only [h1, cond_false, Option.bind_some, Sum.elim_inr, List.drop_length, marksL]
        by_cases h4 : 4 < c.Sands.length
        · have : decide ((c.Sands.length : Int) > 4) = true := by simp; omega
          rw [this]; simp [h4]
        · have : decide ((c.Sands.length : Int) > 4) = false := by simp; omega
          rw [this]
          simp only [cond_false, h4, if_false]
          exact ref01_sands c (by omega) _ (by omega) _ rfl)
      (by
        intro i b hi hP R hR
        simp only [ref01_Check_L0_st, ref01_Check_L0_step]
        rw [List.drop_eq_getElem_cons hi]
        have hw : IntKind.wrap .i64 ((i : Int) + 1) = ((i + 1 : Nat) : Int) := by rw [w64] <;> omega
        simp only [Int.toNat_natCast, getD_lt _ _ _ hi, hw, marksL]
        rw [ref01_Fresh_eq _ _ (by omega), ref01_paints_eq, ref01_Within_eq _ _ (by omega)]
        have h1 : decide ((i : Int) < ↑c.Marks.length) = true := by simp [hi]
        have h2 : decide ((0 : Int) ≤ ↑i) = true := by simp
        have h3 : Nat.ble ((b.length + [c.Marks[i].Name].length) * (16 + 1)) 200000000000000 = true := by
          rw [Nat.ble_eq]; simp; omega
        simp only [h1, h2, h3, Bool.and_self, cond_true, Option.bind_some]
        by_cases hf : freshN c.Marks[i].Name b = 0
        · by_cases hfar : farN 30000 c.Marks[i].At = true
          · have hE : markE c.Marks[i] b = 7 := by simp [markE, hf, hfar]
            simp [hf, hfar, hE]
          · have hE : markE c.Marks[i] b = paintsN c.Marks[i].Paints := by simp [markE, hf, hfar]
            simp only [hf, hfar, hE, Bool.not_false, Bool.not_true, cond_false, beq_self_eq_true, cond_true]
            by_cases hs : paintsN c.Marks[i].Paints = 0
            · simp only [hs, bne_self_eq_false, cond_false, if_true, Option.bind_some, Sum.elim_inl]
              exact hR (b ++ [c.Marks[i].Name]) (by simp; omega)
            · simp [hs, bne_t hs]
        · have hE : markE c.Marks[i] b = freshN c.Marks[i].Name b := by simp [markE, hf]
          simp [hE, hf, beq_f hf, bne_t hf]) 0 [] (by omega) (by simp)

end Nore
open Go Go.Ab
namespace Nore

theorem swing_box_eq (b : CtBox) : swing_box b = some (boxN b 9000 16) := by
  unfold swing_box boxN
  rw [swing_outside_eq _ _ _ (by simp), swing_outside_eq _ _ _ (by simp), swing_outside_eq _ _ _ (by simp)]
  simp only [Option.bind_some]
  cases hb : outN (-9000) 9000 [b.X.Lo, b.X.Hi, b.Y.Lo, b.Y.Hi]
  · simp at hb
    have h1 : IntKind.wrap .i64 (b.X.Lo + 16) = b.X.Lo + 16 := by rw [w64] <;> omega
    have h2 : IntKind.wrap .i64 (b.Y.Lo + 16) = b.Y.Lo + 16 := by rw [w64] <;> omega
    rw [h1, h2]
    simp only [cond_false, Bool.false_eq_true, if_false]
    by_cases c1 : b.X.Hi < b.X.Lo ∨ b.X.Hi > b.X.Lo + 16
    · have e1 : outN b.X.Lo (b.X.Lo + 16) [b.X.Hi] = true := by simp; omega
      have e2 : outN 0 16 [b.X.Hi - b.X.Lo, b.Y.Hi - b.Y.Lo] = true := by simp; omega
      rw [e1, e2]; simp
    · have e1 : outN b.X.Lo (b.X.Lo + 16) [b.X.Hi] = false := by simp; omega
      rw [e1]
      by_cases c2 : b.Y.Hi < b.Y.Lo ∨ b.Y.Hi > b.Y.Lo + 16
      · have e1 : outN b.Y.Lo (b.Y.Lo + 16) [b.Y.Hi] = true := by simp; omega
        have e2 : outN 0 16 [b.X.Hi - b.X.Lo, b.Y.Hi - b.Y.Lo] = true := by simp; omega
        rw [e1, e2]; simp
      · have e1 : outN b.Y.Lo (b.Y.Lo + 16) [b.Y.Hi] = false := by simp; omega
        have e2 : outN 0 16 [b.X.Hi - b.X.Lo, b.Y.Hi - b.Y.Lo] = false := by simp; omega
        rw [e1, e2]; simp
  · simp

theorem ref04_box_eq (b : CtBox) : ref04_box b = some (boxN b 9000 16) := by
  unfold ref04_box
  rw [ref01_Spread_eq _ _ _ (by simp)]
  rw [← spread_box b 9000 16 (by omega)]
  simp only [Option.bind_some]
  by_cases h : spreadL (-9000) 9000 0 [b.X, b.Y] = 0
  · have hb := spread_lt _ _ _ h
    have h1 : IntKind.wrap .i64 (b.X.Hi - b.X.Lo) = b.X.Hi - b.X.Lo := by rw [w64] <;> omega
    have h2 : IntKind.wrap .i64 (b.Y.Hi - b.Y.Lo) = b.Y.Hi - b.Y.Lo := by rw [w64] <;> omega
    rw [h1, h2, h]
    by_cases h3 : b.X.Hi - b.X.Lo > 16
    · simp [h3]
    · by_cases h4 : b.Y.Hi - b.Y.Lo > 16 <;> simp [h3, h4]
  · rw [beq_f h, if_neg h]; rfl

def checkSg (m : SgMooring) : Int × Int :=
  if (checkN m.Chart).2.2 ≠ 0 then (1, (checkN m.Chart).2.2) else if boxN m.Anchor 9000 16 ≠ 0 then (2, boxN m.Anchor 9000 16) else
  if outN 0 200 [m.Ring.Lo, m.Ring.Hi] || outN 0 20000 [m.Near] then (3, 7) else if m.Ring.Lo > m.Ring.Hi then (3, 2) else (0, 0)

theorem swing_Check_eq (m : SgMooring) : swing_Check m = some (checkSg m) := by
  unfold swing_Check checkSg
  rw [chart_Check_eq, swing_box_eq, swing_outside_eq _ _ _ (by simp), swing_outside_eq _ _ _ (by simp)]
  simp only [Option.bind_some]
  by_cases h1 : (checkN m.Chart).2.2 = 0
  · by_cases h2 : boxN m.Anchor 9000 16 = 0
    · simp only [h1, h2, bne_self_eq_false, cond_false, ne_eq, not_true, if_false]
      cases outN 0 200 [m.Ring.Lo, m.Ring.Hi]
      · cases outN 0 20000 [m.Near]
        · by_cases h3 : m.Ring.Lo > m.Ring.Hi <;> simp [h3]
        · simp
      · simp
    · simp [h1, h2, bne_t h2]
  · simp [h1, bne_t h1]

theorem ref04_Check_eq (m : SgMooring) : ref04_Check m = some (checkSg m) := by
  unfold ref04_Check checkSg ref01_Range
  rw [ref01_Check_eq, ref04_box_eq, ref01_Spread_eq _ _ _ (by simp), ref04_in_eq, inN_out]
  simp only [Option.bind_some]
  by_cases h1 : (checkN m.Chart).2.2 = 0
  · by_cases h2 : boxN m.Anchor 9000 16 = 0
    · simp only [h1, h2, bne_self_eq_false, cond_false, ne_eq, not_true, if_false, spreadL]
      cases outN 0 200 [m.Ring.Lo, m.Ring.Hi]
      · cases outN 0 20000 [m.Near]
        · by_cases h3 : m.Ring.Lo > m.Ring.Hi
          · have h3' : m.Ring.Hi < m.Ring.Lo := h3
            simp [h3, h3']
          · have h3' : ¬ m.Ring.Hi < m.Ring.Lo := h3
            simp [h3, h3']
        · by_cases h3 : m.Ring.Lo > m.Ring.Hi
          · have h3' : m.Ring.Hi < m.Ring.Lo := h3
            simp [h3, h3']
          · have h3' : ¬ m.Ring.Hi < m.Ring.Lo := h3
            simp [h3, h3']
      · simp
    · simp [h1, h2, bne_t h2]
  · simp [h1, bne_t h1]

def lookE (before : Int) (x : SgLook) : Int :=
  if boxN x.At 9000 16 = 7 ∨ outN 0 100000 [x.Minute] = true ∨ outN 0 31 [x.Point] = true ∨ outN 1 32 [x.Points] = true then 7 else
  if boxN x.At 9000 16 = 0 ∧ x.Minute ≤ before then 2 else boxN x.At 9000 16
def looksL : Nat → Int → List SgLook → Int × Int
  | _, _, [] => (0, 0)
  | i, before, x :: l => if lookE before x = 0 then looksL (i + 1) x.Minute l else ((i : Int), lookE before x)
def checkLooksN (m : SgMooring) (l : List SgLook) : Int × Int := if (checkSg m).2 ≠ 0 then (0, (checkSg m).2) else if 8 < l.length then (0, 3) else looksL 0 (-1) l

theorem ref04_look_eq (x : SgLook) (before : Int) : ref04_look x before = some (lookE before x) := by
  unfold ref04_look lookE
  rw [ref04_box_eq, ref04_in_eq, ref04_in_eq, ref04_in_eq, inN_out, inN_out, inN_out]
  simp only [Option.bind_some]
  by_cases h : boxN x.At 9000 16 = 7
  · simp [h]
  · cases h1 : outN 0 100000 [x.Minute]
    · cases h2 : outN 0 31 [x.Point]
      · cases h3 : outN 1 32 [x.Points]
        · by_cases h4 : boxN x.At 9000 16 = 0
          · by_cases h5 : x.Minute ≤ before <;> simp [h4, h5]
          · simp [h, h4, beq_f h, beq_f h4]
        · simp [h, beq_f h]
      · simp [h, beq_f h]
    · simp [h, beq_f h]

theorem ref04_CheckLooks_eq (m : SgMooring) (l : List SgLook) : ref04_CheckLooks m l = some (checkLooksN m l) := by
  unfold ref04_CheckLooks checkLooksN
  rw [ref04_Check_eq]
  simp only [Option.bind_some]
  by_cases h : (checkSg m).2 = 0
  · simp only [h, beq_self_eq_true, cond_true, bne_self_eq_false, cond_false, ne_eq, not_true, if_false]
    by_cases h8 : 8 < l.length
    · have : decide ((l.length : Int) > 8) = true := by simp; omega
      rw [this]; simp [h8]
    · have : decide ((l.length : Int) > 8) = false := by simp; omega
      rw [this]
      simp only [cond_false, h8, if_false]
      exact run_loop (ref04_CheckLooks_L0_st l m) _ l.length (fun i (b : Int) => ((i : Int), b)) (fun _ _ => True) (fun i b => some (looksL i b (l.drop i)))
        (by
          intro b _ R
          simp [ref04_CheckLooks_L0_st, ref04_CheckLooks_L0_step, looksL])
        (by
          intro i b hi _ R hR
          have hR' := hR l[i].Minute trivial
          simp only [ref04_CheckLooks_L0_st, ref04_CheckLooks_L0_step]
          rw [List.drop_eq_getElem_cons hi]
          have hw : IntKind.wrap .i64 ((i : Int) + 1) = ((i + 1 : Nat) : Int) := by rw [w64] <;> omega
          simp only [Int.toNat_natCast, getD_lt _ _ _ hi, hw, looksL]
          rw [ref04_look_eq]
          have h1 : decide ((i : Int) < ↑l.length) = true := by simp [hi]
          have h2 : decide ((0 : Int) ≤ ↑i) = true := by simp
          simp only [h1, h2, Bool.and_self, cond_true, Option.bind_some]
          by_cases he : lookE b l[i] = 0
          · simp only [he, bne_self_eq_false, cond_false, Option.bind_some, Sum.elim_inl, if_true]
            exact hR'
          · simp [he, bne_t he]) 0 (-1) (by omega) trivial
  · simp [h, bne_t h, beq_f h]

theorem swing_CheckLooks_eq (m : SgMooring) (l : List SgLook) : swing_CheckLooks m l = some (checkLooksN m l) := by
  unfold swing_CheckLooks checkLooksN
  rw [swing_Check_eq]
  simp only [Option.bind_some]
  by_cases h : (checkSg m).2 = 0
  · simp only [h, bne_self_eq_false, cond_false, ne_eq, not_true, if_false]
    by_cases h8 : 8 < l.length
    · have : decide ((l.length : Int) > 8) = true := by simp; omega
      rw [this]; simp [h8]
    · have : decide ((l.length : Int) > 8) = false := by simp; omega
      rw [this]
      simp only [cond_false, h8, if_false]
      exact run_loop (swing_CheckLooks_L0_st l (↑l.length) l m) _ l.length (fun i (_ : Int) => (i : Int)) (fun i b => b = if i = 0 then -1 else (l.getD (i - 1) ⟨0, 0, 0, ⟨⟨0, 0⟩, ⟨0, 0⟩⟩⟩).Minute) (fun i b => some (looksL i b (l.drop i)))
        (by
          intro b _ R
          simp [swing_CheckLooks_L0_st, swing_CheckLooks_L0_step, looksL])
        (by
          intro i b hi hP R hR
          have hR' := hR l[i].Minute (by simp [List.getD, hi])
          simp only [swing_CheckLooks_L0_st, swing_CheckLooks_L0_step]
          rw [List.drop_eq_getElem_cons hi]
          have hw : IntKind.wrap .i64 ((i : Int) + 1) = ((i + 1 : Nat) : Int) := by rw [w64] <;> omega
          have hw1 : IntKind.wrap .i64 ((i : Int) - 1) = (i : Int) - 1 := by rw [w64] <;> omega
          simp only [Int.toNat_natCast, getD_lt _ _ _ hi, hw, hw1, looksL]
          rw [swing_box_eq, swing_outside_eq _ _ _ (by simp), swing_outside_eq _ _ _ (by simp), swing_outside_eq _ _ _ (by simp)]
          have h1 : decide ((i : Int) < ↑l.length) = true := by simp [hi]
          have h2 : decide ((0 : Int) ≤ ↑i) = true := by simp
          simp only [h1, h2, Bool.and_self, cond_true, Option.bind_some]
          generalize hx : l[i] = x at *
          unfold lookE
          by_cases h7 : boxN x.At 9000 16 = 7
          · simp [h7]
          · cases e1 : outN 0 100000 [x.Minute]
            · cases e2 : outN 0 31 [x.Point]
              · cases e3 : outN 1 32 [x.Points]
                · by_cases h0 : boxN x.At 9000 16 = 0
                  · by_cases hz : i = 0
                    · subst hz
                      simp at hP e1
                      have h5 : ¬ x.Minute ≤ b := by omega
                      simp [h0, h5]; simpa using hR'
                    · have e7 : (0 : Int) ≤ (i : Int) - 1 := by omega
                      have e8 : (i : Int) - 1 < (l.length : Int) := by omega
                      have e9 : ((i : Int) - 1).toNat = i - 1 := by omega
                      have e10 : (i : Int) > 0 := by omega
                      simp only [e7, e8, e9, e10, decide_true, Bool.and_self, cond_true]
                      simp only [hz, if_false] at hP
                      rw [← hP]
                      by_cases h5 : x.Minute ≤ b
                      · simp [h0, h5]
                      · simp [h0, h5]; simpa using hR'
                  · simp [h7, h0, beq_f h7, beq_f h0, bne_t h0]
                · simp [h7, beq_f h7]
              · simp [h7, beq_f h7]
            · simp [h7, beq_f h7]) 0 (-1) (by omega) (by simp)
  · simp [h, bne_t h]

end Nore
open Go Go.Ab
namespace Nore

def turnN : Nat → Point → Point
  | 0, v => v
  | k + 1, v => turnN k ⟨v.Y, -v.X⟩
def quarterN (j : Nat) : Point := bif Nat.beq j 7 then Point.mk 981 195 else bif Nat.beq j 6 then Point.mk 924 383 else bif Nat.beq j 5 then Point.mk 831 556 else bif Nat.beq j 4 then Point.mk 707 707 else bif Nat.beq j 3 then Point.mk 556 831 else bif Nat.beq j 2 then Point.mk 383 924 else bif Nat.beq j 1 then Point.mk 195 981 else bif Nat.beq j 0 then Point.mk 0 1000 else Point.mk 0 0
def vecN (p : Nat) : Point := ⟨Geo.vx p, Geo.vy p⟩
theorem turn_tab : ∀ p, p < 32 → (turnN (p / 8) (quarterN (p % 8))).X = Geo.vx p ∧ (turnN (p / 8) (quarterN (p % 8))).Y = Geo.vy p := by decide
theorem quarter_bd : ∀ j, j < 8 → Bd 1000 (quarterN j) := by unfold Bd; decide
theorem vec_bd : ∀ p, p < 32 → -1000 ≤ Geo.vx p ∧ Geo.vx p ≤ 1000 ∧ -1000 ≤ Geo.vy p ∧ Geo.vy p ≤ 1000 := by decide
theorem vec_turn (p : Nat) (hp : p < 32) : turnN (p / 8) (quarterN (p % 8)) = vecN p := by
  have := turn_tab p hp
  cases h : turnN (p / 8) (quarterN (p % 8)) with
  | mk a b => rw [h] at this; simp only [vecN, Point.mk.injEq]; exact this

theorem neg_w {a : Int} (h : -1000000 ≤ a ∧ a ≤ 1000000) : IntKind.wrap .i64 (0 - a) = -a := by rw [w64] <;> omega

theorem chart_Vector_eq (p : Nat) (hp : p < 32) : chart_Vector (p : Int) = some (vecN p, 0) := by
  unfold chart_Vector
  rw [chart_out_eq _ _ _ (by simp)]
  have h0 : outN 0 31 [(p : Int)] = false := by simp; omega
  rw [h0]
  simp only [Option.bind_some, cond_false]
  have hm : Int.tmod (p : Int) 8 = ((p % 8 : Nat) : Int) := rfl
  have hd : Int.tdiv (p : Int) 8 = ((p / 8 : Nat) : Int) := rfl
  have hw : IntKind.wrap .i64 ((p / 8 : Nat) : Int) = ((p / 8 : Nat) : Int) := by rw [w64] <;> omega
  rw [hm, hd, hw]
  have c1 : decide ((0 : Int) ≤ ((p % 8 : Nat) : Int)) = true := by simp; omega
  have c2 : decide (((p % 8 : Nat) : Int) < ((8 : Nat) : Int)) = true := by simp; omega
  have c2' : decide (((p % 8 : Nat) : Int) < (8 : Int)) = true := by simp; omega
  have loop := run_loop (chart_Vector_L0_st ((p / 8 : Nat) : Int) [(p : Int)] (Point.mk 0 0)) (fun o181 => some (o181, (0 : Int))) (p / 8) (fun i (b : Point) => ((i : Int), b)) (fun _ b => Bd 1000 b) (fun i b => some (turnN (p / 8 - i) b, 0))
    (by
      intro b _ R
      simp [chart_Vector_L0_st, chart_Vector_L0_step, turnN])
    (by
      intro i b hi hP R hR
      have hb : Bd 1000 ⟨b.Y, -b.X⟩ := by unfold Bd at *; simp only; omega
      have hR' := hR ⟨b.Y, -b.X⟩ hb
      simp only [chart_Vector_L0_st, chart_Vector_L0_step]
      have hw : IntKind.wrap .i64 ((i : Int) + 1) = ((i + 1 : Nat) : Int) := by rw [w64] <;> omega
      have h1 : decide ((i : Int) < ((p / 8 : Nat) : Int)) = true := by simp only [decide_eq_true_eq]; omega
      have h2 : IntKind.wrap .i64 (0 - b.X) = -b.X := neg_w (by unfold Bd at hP; omega)
      simp only [h1, cond_true, hw, h2, Option.bind_some, Sum.elim_inl]
      rw [hR', show p / 8 - i = (p / 8 - (i + 1)) + 1 by omega]
      rfl) 0 (quarterN (p % 8)) (by omega) (quarter_bd _ (by omega))
  simp only [Nat.sub_zero, vec_turn p hp] at loop
  have e : (decide ((0 : Int) ≤ ((p % 8 : Nat) : Int)) && decide (((p % 8 : Nat) : Int) < ((8 : Nat) : Int))) = true := by rw [c1, c2]; rfl
  refine Eq.trans ?_ loop
  show (bif (decide ((0 : Int) ≤ ((p % 8 : Nat) : Int)) && decide (((p % 8 : Nat) : Int) < ((8 : Nat) : Int))) then _ else none) = _
  rw [e]
  rfl

theorem crs_w (p : Nat) (hp : p < 32) (v : Point) (hv : Bd 20000 v) : IntKind.wrap .i64 (IntKind.wrap .i64 ((vecN p).X * v.Y) - IntKind.wrap .i64 ((vecN p).Y * v.X)) = Geo.crs p v.X v.Y := by
  have bd := vec_bd p hp
  unfold Bd at hv
  rw [left_w 2000000 rfl (by simp only [vecN]; omega) (by omega) (by simp only [vecN]; omega) (by omega)]
  rfl

def canN (m : SgMooring) (x : SgLook) (a p : Point) : Bool :=
  inN ((p.X - a.X) * (p.X - a.X) + (p.Y - a.Y) * (p.Y - a.Y)) (m.Ring.Lo * m.Ring.Lo) (m.Ring.Hi * m.Ring.Hi) && inN p.X x.At.X.Lo x.At.X.Hi && inN p.Y x.At.Y.Lo x.At.Y.Hi &&
  (decide (p.X - a.X = 0 ∧ p.Y - a.Y = 0) || decide ((Geo.tow (p.X - a.X) (p.Y - a.Y) + 32 - x.Point.toNat) % 32 < x.Points.toNat))

structure LookOk (x : SgLook) : Prop where
  p0 : 0 ≤ x.Point
  p1 : x.Point ≤ 31
  n0 : 1 ≤ x.Points
  n1 : x.Points ≤ 32

theorem sq_w {a : Int} (h : -20000 ≤ a ∧ a ≤ 20000) : IntKind.wrap .i64 (a * a) = a * a ∧ 0 ≤ a * a ∧ a * a ≤ 400000000 := by
  have p := mul_bd 20000 20000 h.1 h.2 h.1 h.2
  have q : 0 ≤ a * a := by
    by_cases h0 : 0 ≤ a
    · exact Int.mul_nonneg h0 h0
    · exact Int.mul_nonneg_of_nonpos_of_nonpos (by omega) (by omega)
  exact ⟨by rw [w64] <;> omega, q, by omega⟩

theorem sq_zero {a b : Int} : a * a + b * b = 0 ↔ a = 0 ∧ b = 0 := by
  have pos : ∀ a : Int, 0 ≤ a * a := fun a => by
    by_cases h0 : 0 ≤ a
    · exact Int.mul_nonneg h0 h0
    · exact Int.mul_nonneg_of_nonpos_of_nonpos (by omega) (by omega)
  constructor
  · intro h
    have h1 := pos a
    have h2 := pos b
    have ha : a * a = 0 := by omega
    have hb : b * b = 0 := by omega
    rw [Int.mul_eq_zero] at ha hb
    exact ⟨by omega, by omega⟩
  · rintro ⟨rfl, rfl⟩; rfl

end Nore
open Go Go.Ab
namespace Nore

theorem inN_outN (n lo hi : Int) : outN lo hi [n] = !inN n lo hi := by rw [inN_out]; simp

theorem swing_lies_eq (y : swing_mooring) (x : SgLook) (a p : Point) (hx : LookOk x) (hr : 0 ≤ y.SgMooring.Ring.Lo ∧ y.SgMooring.Ring.Lo ≤ 200 ∧ 0 ≤ y.SgMooring.Ring.Hi ∧ y.SgMooring.Ring.Hi ≤ 200) (ha : Bd 9000 a) (hp : Bd 9000 p) : swing_mooring_lies y x a p = some (canN y.SgMooring x a p) := by
  generalize hm : y.SgMooring = m at *
  unfold swing_mooring_lies canN
  rw [hm]
  unfold Bd at ha hp
  rw [sub_w 9000 (by omega) (a := p.X) ⟨hp.1, hp.2.1⟩ ⟨ha.1, ha.2.1⟩, sub_w 9000 (by omega) (a := p.Y) hp.2.2 ha.2.2]
  have s1 := sq_w (a := p.X - a.X) (by omega)
  have s2 := sq_w (a := p.Y - a.Y) (by omega)
  have s3 := sq_w (a := m.Ring.Lo) (by omega)
  have s4 := sq_w (a := m.Ring.Hi) (by omega)
  have hw : IntKind.wrap .i64 ((p.X - a.X) * (p.X - a.X) + (p.Y - a.Y) * (p.Y - a.Y)) = (p.X - a.X) * (p.X - a.X) + (p.Y - a.Y) * (p.Y - a.Y) := by rw [w64] <;> omega
  rw [s1.1, s2.1, s3.1, s4.1, hw, swing_outside_eq _ _ _ (by simp), swing_outside_eq _ _ _ (by simp), swing_outside_eq _ _ _ (by simp), inN_outN, inN_outN, inN_outN]
  simp only [Option.bind_some]
  by_cases g2 : inN p.X x.At.X.Lo x.At.X.Hi = true
  · by_cases g3 : inN p.Y x.At.Y.Lo x.At.Y.Hi = true
    · by_cases g1 : inN ((p.X - a.X) * (p.X - a.X) + (p.Y - a.Y) * (p.Y - a.Y)) (m.Ring.Lo * m.Ring.Lo) (m.Ring.Hi * m.Ring.Hi) = true
      · simp only [g1, g2, g3, Bool.not_true, cond_false, Bool.true_and]
        by_cases hz : p.X - a.X = 0 ∧ p.Y - a.Y = 0
        · simp [hz.1, hz.2]
        · have hz2 : ¬ ((p.X - a.X) * (p.X - a.X) + (p.Y - a.Y) * (p.Y - a.Y) = 0) := fun h => hz (sq_zero.1 h)
          have hT := Geo.tow_spec (X := p.X - a.X) (Y := p.Y - a.Y) (by omega)
          obtain ⟨q1, q2, q3, q4⟩ := hx
          simp only [beq_f hz2, cond_false, hz, decide_false, Bool.false_or]
          by_cases hall : x.Points = 32
          · have e : (x.Points == 32) = true := by simp [hall]
            rw [e]
            simp only [cond_true]
            congr 1
            symm
            simp; omega
          · rw [beq_f hall]
            simp only [cond_false]
            have eP : x.Point = ((x.Point.toNat : Nat) : Int) := by omega
            have eN : x.Points = ((x.Points.toNat : Nat) : Int) := by omega
            have hP : x.Point.toNat < 32 := by omega
            have hN1 : 1 ≤ x.Points.toNat := by omega
            have hN2 : x.Points.toNat < 32 := by omega
            generalize x.Point.toNat = P at *
            generalize hN : x.Points.toNat = N at *
            generalize ht : Geo.tow (p.X - a.X) (p.Y - a.Y) = t at *
            have hv : Bd 20000 ⟨p.X - a.X, p.Y - a.Y⟩ := by unfold Bd; simp only; omega
            refine (run_loop (swing_mooring_lies_L0_st _ _ _ _ _ _ _ _) _ ((N + 7) / 8) (fun i (_ : Unit) => ((8 * i : Nat) : Int)) (fun _ _ => True) (fun i _ => some (decide (8 * i ≤ (t + 32 - P) % 32 ∧ (t + 32 - P) % 32 < N))) ?_ ?_ 0 () (by omega) trivial).trans (by simp)
            · intro b _ R
              simp only [swing_mooring_lies_L0_st, swing_mooring_lies_L0_step]
              have h1 : decide (((8 * ((N + 7) / 8) : Nat) : Int) < x.Points) = false := by simp only [decide_eq_false_iff_not]; omega
              rw [h1]
              simp only [cond_false, Option.bind_some, Sum.elim_inr]
              congr 1
              symm
              rw [decide_eq_false_iff_not]; omega
            · intro i b hi _ R hR
              have hR' := hR () trivial
              simp only [swing_mooring_lies_L0_st, swing_mooring_lies_L0_step]
              have h1 : decide (((8 * i : Nat) : Int) < x.Points) = true := by simp only [decide_eq_true_eq]; omega
              have w1 : IntKind.wrap .i64 (x.Point + ((8 * i : Nat) : Int)) = ((P + 8 * i : Nat) : Int) := by rw [w64] <;> omega
              have w2 : IntKind.wrap .i64 (x.Points - ((8 * i : Nat) : Int)) = ((N - 8 * i : Nat) : Int) := by rw [w64] <;> omega
              have w4 : IntKind.wrap .i64 (((8 * i : Nat) : Int) + 8) = ((8 * (i + 1) : Nat) : Int) := by rw [w64] <;> omega
              rw [h1, w1, w2, w4]
              have w3 : (bif decide (((N - 8 * i : Nat) : Int) < 8) then ((N - 8 * i : Nat) : Int) else 8) = ((min 8 (N - 8 * i) : Nat) : Int) := by
                by_cases hh : ((N - 8 * i : Nat) : Int) < 8
                · simp only [hh, decide_true, cond_true]; omega
                · simp only [hh, decide_false, cond_false]; omega
              rw [w3]
              have w5 : IntKind.wrap .i64 (((P + 8 * i : Nat) : Int) + ((min 8 (N - 8 * i) : Nat) : Int)) = ((P + 8 * i + min 8 (N - 8 * i) : Nat) : Int) := by rw [w64] <;> omega
              rw [w5]
              have m1 : Int.tmod ((P + 8 * i : Nat) : Int) 32 = (((P + 8 * i) % 32 : Nat) : Int) := rfl
              have m2 : Int.tmod ((P + 8 * i + min 8 (N - 8 * i) : Nat) : Int) 32 = (((P + 8 * i + min 8 (N - 8 * i)) % 32 : Nat) : Int) := rfl
              rw [m1, m2, chart_Vector_eq _ (Nat.mod_lt _ (by omega)), chart_Vector_eq _ (Nat.mod_lt _ (by omega))]
              simp only [cond_true, Option.bind_some]
              rw [crs_w _ (Nat.mod_lt _ (by omega)) _ hv, crs_w _ (Nat.mod_lt _ (by omega)) _ hv]
              simp only
              have sec := Geo.sector hT.1 hT.2 (a := (P + 8 * i) % 32) (m := min 8 (N - 8 * i)) (Nat.mod_lt _ (by omega)) (by omega) (by omega)
              rw [show ((P + 8 * i) % 32 + min 8 (N - 8 * i)) % 32 = (P + 8 * i + min 8 (N - 8 * i)) % 32 by omega] at sec
              by_cases c1 : Geo.crs ((P + 8 * i) % 32) (p.X - a.X) (p.Y - a.Y) > 0
              · simp only [c1, decide_true, Bool.not_true, cond_false, Option.bind_some, Sum.elim_inl]
                rw [hR']
                congr 1
                have : ¬ (t + 32 - (P + 8 * i) % 32) % 32 < min 8 (N - 8 * i) := fun h => (sec.2 h).1 c1
                rw [decide_eq_decide]
                omega
              · by_cases c2 : Geo.crs ((P + 8 * i + min 8 (N - 8 * i)) % 32) (p.X - a.X) (p.Y - a.Y) > 0
                · simp only [c1, c2, decide_true, decide_false, Bool.not_false, cond_true, Option.bind_some, Sum.elim_inl, Sum.elim_inr]
                  congr 1
                  have := sec.1 ⟨c1, c2⟩
                  symm
                  rw [decide_eq_true_eq]
                  omega
                · simp only [c1, c2, decide_true, decide_false, Bool.not_false, cond_true, cond_false, Option.bind_some, Sum.elim_inl, Sum.elim_inr]
                  rw [hR']
                  congr 1
                  have : ¬ (t + 32 - (P + 8 * i) % 32) % 32 < min 8 (N - 8 * i) := fun h => c2 (sec.2 h).2
                  rw [decide_eq_decide]
                  omega
      · simp [g1, g2, g3]
    · simp [g2, g3]
  · simp [g2]

end Nore
open Go Go.Ab
namespace Nore

def irange (lo hi : Int) : List Int := (List.range (hi + 1 - lo).toNat).map fun (k : Nat) => lo + (k : Int)
theorem irange_nil {lo hi : Int} (h : ¬ lo ≤ hi) : irange lo hi = [] := by
  unfold irange
  rw [show (hi + 1 - lo).toNat = 0 by omega]; rfl
theorem irange_cons {lo hi : Int} (h : lo ≤ hi) : irange lo hi = lo :: irange (lo + 1) hi := by
  unfold irange
  rw [show (hi + 1 - lo).toNat = (hi + 1 - (lo + 1)).toNat + 1 by omega, List.range_succ_eq_map]
  simp only [List.map_cons, List.map_map]
  congr 1
  · omega
  · apply List.map_congr_left
    intro k _
    simp only [Function.comp]
    omega
theorem irange_length (lo hi : Int) : (irange lo hi).length = (hi + 1 - lo).toNat := by simp [irange]
theorem mem_irange {lo hi x : Int} : x ∈ irange lo hi ↔ lo ≤ x ∧ x ≤ hi := by
  simp only [irange, List.mem_map, List.mem_range]
  constructor
  · rintro ⟨k, h, rfl⟩; omega
  · rintro ⟨h1, h2⟩; exact ⟨(x - lo).toNat, by omega, by omega⟩

def rowN (x lo hi : Int) : List Point := (irange lo hi).map fun y => ⟨x, y⟩
def movesFrom (x : Int) (b : CtBox) : List Point := (irange x b.X.Hi).flatMap fun x => rowN x b.Y.Lo b.Y.Hi
def movesN (b : CtBox) : List Point := movesFrom b.X.Lo b

theorem rowN_nil {x lo hi : Int} (h : ¬ lo ≤ hi) : rowN x lo hi = [] := by simp [rowN, irange_nil h]
theorem rowN_cons {x lo hi : Int} (h : lo ≤ hi) : rowN x lo hi = ⟨x, lo⟩ :: rowN x (lo + 1) hi := by simp [rowN, irange_cons h]
theorem rowN_length (x lo hi : Int) : (rowN x lo hi).length = (hi + 1 - lo).toNat := by simp [rowN, irange_length]
theorem movesFrom_nil {x : Int} {b : CtBox} (h : ¬ x ≤ b.X.Hi) : movesFrom x b = [] := by simp [movesFrom, irange_nil h]
theorem movesFrom_cons {x : Int} {b : CtBox} (h : x ≤ b.X.Hi) : movesFrom x b = rowN x b.Y.Lo b.Y.Hi ++ movesFrom (x + 1) b := by simp [movesFrom, irange_cons h]
theorem movesFrom_length (b : CtBox) : ∀ n x, (b.X.Hi + 1 - x).toNat = n → (movesFrom x b).length = n * (b.Y.Hi + 1 - b.Y.Lo).toNat := by
  intro n
  induction n with
  | zero => intro x h; rw [movesFrom_nil (by omega)]; simp
  | succ n ih =>
    intro x h
    rw [movesFrom_cons (by omega), List.length_append, rowN_length, ih (x + 1) (by omega), Nat.succ_mul]
    omega
theorem mem_movesN {b : CtBox} {p : Point} : p ∈ movesN b ↔ b.X.Lo ≤ p.X ∧ p.X ≤ b.X.Hi ∧ b.Y.Lo ≤ p.Y ∧ p.Y ≤ b.Y.Hi := by
  simp only [movesN, movesFrom, List.mem_flatMap, rowN, List.mem_map, mem_irange]
  constructor
  · rintro ⟨x, ⟨h1, h2⟩, y, ⟨h3, h4⟩, rfl⟩; exact ⟨h1, h2, h3, h4⟩
  · rintro ⟨h1, h2, h3, h4⟩; exact ⟨p.X, ⟨h1, h2⟩, p.Y, ⟨h3, h4⟩, rfl⟩

def foldI {α β : Type} (f : Nat → α → β → β) : Nat → List α → β → β
  | _, [], b => b
  | i, a :: l, b => foldI f (i + 1) l (f i a b)
theorem foldI_append {α β : Type} (f : Nat → α → β → β) (l2 : List α) : ∀ (l1 : List α) (i : Nat) (b : β), foldI f i (l1 ++ l2) b = foldI f (i + l1.length) l2 (foldI f i l1 b)
  | [], i, b => rfl
  | a :: l1, i, b => by
    simp only [List.cons_append, foldI, foldI_append f l2 l1, List.length_cons]
    rw [show i + 1 + l1.length = i + (l1.length + 1) by omega]

theorem row_loop {β σ ω : Type} (st : σ → Option (σ ⊕ ω)) (emb : Nat → Int → β → σ) (ex : Nat → β → ω) (f : Nat → Point → β → β) (P : Nat → β → Prop) (x lo hi : Int) (N : Nat)
    (hd : ∀ i y b, ¬ y ≤ hi → st (emb i y b) = some (.inr (ex i b)))
    (hn : ∀ i y b, lo ≤ y → y ≤ hi → i < N → P i b → st (emb i y b) = some (.inl (emb (i + 1) (y + 1) (f i ⟨x, y⟩ b))) ∧ P (i + 1) (f i ⟨x, y⟩ b)) :
    ∀ n y i b, (hi + 1 - y).toNat = n → lo ≤ y → i + n ≤ N → P i b → runOf st (emb i y b) = some (ex (i + n) (foldI f i (rowN x y hi) b)) ∧ P (i + n) (foldI f i (rowN x y hi) b) := by
  intro n
  induction n with
  | zero =>
    intro y i b h1 h2 h3 hP
    rw [runOf_step, hd i y b (by omega), rowN_nil (by omega)]
    exact ⟨rfl, hP⟩
  | succ n ih =>
    intro y i b h1 h2 h3 hP
    have h := hn i y b h2 (by omega) (by omega) hP
    rw [runOf_step, h.1, rowN_cons (by omega)]
    have := ih (y + 1) (i + 1) (f i ⟨x, y⟩ b) (by omega) (by omega) (by omega) h.2
    rw [show i + (n + 1) = i + 1 + n by omega]
    exact this

theorem box_loop {β σ ω : Type} (st : σ → Option (σ ⊕ ω)) (emb : Nat → Int → β → σ) (ex : Nat → β → ω) (f : Nat → Point → β → β) (P : Nat → β → Prop) (b : CtBox) (N : Nat)
    (hd : ∀ i x c, ¬ x ≤ b.X.Hi → st (emb i x c) = some (.inr (ex i c)))
    (hn : ∀ i x c, b.X.Lo ≤ x → x ≤ b.X.Hi → i + (b.Y.Hi + 1 - b.Y.Lo).toNat ≤ N → P i c → st (emb i x c) = some (.inl (emb (i + (b.Y.Hi + 1 - b.Y.Lo).toNat) (x + 1) (foldI f i (rowN x b.Y.Lo b.Y.Hi) c))) ∧ P (i + (b.Y.Hi + 1 - b.Y.Lo).toNat) (foldI f i (rowN x b.Y.Lo b.Y.Hi) c)) :
    ∀ n x i c, (b.X.Hi + 1 - x).toNat = n → b.X.Lo ≤ x → i + n * (b.Y.Hi + 1 - b.Y.Lo).toNat ≤ N → P i c → runOf st (emb i x c) = some (ex (i + n * (b.Y.Hi + 1 - b.Y.Lo).toNat) (foldI f i (movesFrom x b) c)) ∧ P (i + n * (b.Y.Hi + 1 - b.Y.Lo).toNat) (foldI f i (movesFrom x b) c) := by
  intro n
  induction n with
  | zero =>
    intro x i c h1 h2 h3 hP
    rw [runOf_step, hd i x c (by omega), movesFrom_nil (by omega), Nat.zero_mul]
    exact ⟨rfl, hP⟩
  | succ n ih =>
    intro x i c h1 h2 h3 hP
    rw [Nat.succ_mul] at h3
    have h := hn i x c h2 (by omega) (by omega) hP
    rw [runOf_step, h.1, movesFrom_cons (by omega), foldI_append, rowN_length]
    have := ih (x + 1) (i + (b.Y.Hi + 1 - b.Y.Lo).toNat) _ (by omega) (by omega) (by omega) h.2
    rw [show i + (n + 1) * (b.Y.Hi + 1 - b.Y.Lo).toNat = i + (b.Y.Hi + 1 - b.Y.Lo).toNat + n * (b.Y.Hi + 1 - b.Y.Lo).toNat by rw [Nat.succ_mul]; omega]
    exact this

theorem row_any {σ ω : Type} (st : σ → Option (σ ⊕ ω)) (emb : Nat → Int → σ) (hit : Point → ω) (fin : Nat → ω) (p : Point → Bool) (x lo hi : Int) (N : Nat)
    (hd : ∀ i y, ¬ y ≤ hi → st (emb i y) = some (.inr (fin i)))
    (hn : ∀ i y, lo ≤ y → y ≤ hi → i < N → st (emb i y) = some (if p ⟨x, y⟩ = true then .inr (hit ⟨x, y⟩) else .inl (emb (i + 1) (y + 1)))) :
    ∀ n y i, (hi + 1 - y).toNat = n → lo ≤ y → i + n ≤ N → ((rowN x y hi).any p = true ∧ ∃ q, runOf st (emb i y) = some (hit q)) ∨ ((rowN x y hi).any p = false ∧ runOf st (emb i y) = some (fin (i + n))) := by
  intro n
  induction n with
  | zero =>
    intro y i h1 h2 h3
    right
    rw [runOf_step, hd i y (by omega), rowN_nil (by omega)]
    exact ⟨rfl, rfl⟩
  | succ n ih =>
    intro y i h1 h2 h3
    rw [runOf_step, hn i y h2 (by omega) (by omega), rowN_cons (by omega)]
    by_cases hp : p ⟨x, y⟩ = true
    · left
      simp only [hp, if_true]
      exact ⟨by simp [hp], _, rfl⟩
    · simp only [hp, List.any_cons, Bool.false_or]
      have := ih (y + 1) (i + 1) (by omega) (by omega) (by omega)
      rw [show i + (n + 1) = i + 1 + n by omega]
      exact this

theorem box_any {σ ω : Type} (st : σ → Option (σ ⊕ ω)) (emb : Nat → Int → σ) (hit : Point → ω) (fin : Nat → ω) (p : Point → Bool) (b : CtBox) (N : Nat)
    (hd : ∀ i x, ¬ x ≤ b.X.Hi → st (emb i x) = some (.inr (fin i)))
    (hn : ∀ i x, b.X.Lo ≤ x → x ≤ b.X.Hi → i + (b.Y.Hi + 1 - b.Y.Lo).toNat ≤ N → ((rowN x b.Y.Lo b.Y.Hi).any p = true ∧ ∃ q, st (emb i x) = some (.inr (hit q))) ∨ ((rowN x b.Y.Lo b.Y.Hi).any p = false ∧ st (emb i x) = some (.inl (emb (i + (b.Y.Hi + 1 - b.Y.Lo).toNat) (x + 1))))) :
    ∀ n x i, (b.X.Hi + 1 - x).toNat = n → b.X.Lo ≤ x → i + n * (b.Y.Hi + 1 - b.Y.Lo).toNat ≤ N → ((movesFrom x b).any p = true ∧ ∃ q, runOf st (emb i x) = some (hit q)) ∨ ((movesFrom x b).any p = false ∧ ∃ k, runOf st (emb i x) = some (fin k)) := by
  intro n
  induction n with
  | zero =>
    intro x i h1 h2 h3
    right
    rw [runOf_step, hd i x (by omega), movesFrom_nil (by omega)]
    exact ⟨rfl, _, rfl⟩
  | succ n ih =>
    intro x i h1 h2 h3
    rw [Nat.succ_mul] at h3
    rw [movesFrom_cons (by omega), List.any_append]
    rcases hn i x h2 (by omega) (by omega) with ⟨ha, q, hq⟩ | ⟨ha, hq⟩
    · left
      refine ⟨by rw [ha, Bool.true_or], q, ?_⟩
      rw [runOf_step, hq]; rfl
    · have := ih (x + 1) (i + (b.Y.Hi + 1 - b.Y.Lo).toNat) (by omega) (by omega) (by omega)
      rw [ha, Bool.false_or, runOf_step, hq]
      exact this

def bitOf (s : Nat → Int) (i : Nat) : Bool := (s (i / 64)).toNat.testBit (i % 64)
def SetOk (s : Nat → Int) : Prop := ∀ k, k < 5 → 0 ≤ s k ∧ s k < 18446744073709551616
def putN (s : Nat → Int) (i : Nat) : Nat → Int := fun j => bif Nat.beq j (i / 64) then (((s (i / 64)).toNat ||| 2 ^ (i % 64) : Nat) : Int) else s j

theorem wu64 {x : Int} (h1 : 0 ≤ x) (h2 : x < 18446744073709551616) : IntKind.wrap .u64 x = x := by
  simp only [IntKind.wrap, IntKind.signed, IntKind.bits]
  simp
  omega

theorem ofInt_toNat (w : Int) (h1 : 0 ≤ w) (h2 : w < 18446744073709551616) : (BitVec.ofInt 64 w).toNat = w.toNat := by
  rw [BitVec.toNat_ofInt]
  have : w % ((2 ^ 64 : Nat) : Int) = w := Int.emod_eq_of_lt h1 (by rw [show ((2 ^ 64 : Nat) : Int) = 18446744073709551616 from rfl]; exact h2)
  rw [this]

theorem or_w (w : Int) (r : Nat) (hr : r < 64) (h1 : 0 ≤ w) (h2 : w < 18446744073709551616) :
    IntKind.wrap .u64 ((BitVec.ofInt (IntKind.bits .u64) w ||| BitVec.ofInt (IntKind.bits .u64) (IntKind.wrap .u64 (1 * 2 ^ min r (IntKind.bits .u64)))).toNat : Int) = ((w.toNat ||| 2 ^ r : Nat) : Int) ∧ (w.toNat ||| 2 ^ r) < 18446744073709551616 := by
  have hb : IntKind.bits .u64 = 64 := rfl
  have hlt : (2 : Nat) ^ r < 2 ^ 64 := Nat.pow_lt_pow_right (by omega) hr
  have hlt2 : w.toNat < 2 ^ 64 := by omega
  have hor : (w.toNat ||| 2 ^ r) < 2 ^ 64 := Nat.or_lt_two_pow hlt2 hlt
  rw [hb, show min r 64 = r by omega, Int.one_mul]
  have hp : ((2 : Int) ^ r) = ((2 ^ r : Nat) : Int) := by simp
  rw [hp]
  generalize 2 ^ r = z at *
  rw [wu64 (x := (z : Int)) (by omega) (by omega)]
  refine ⟨?_, by omega⟩
  rw [BitVec.toNat_or, ofInt_toNat _ h1 h2, ofInt_toNat _ (by omega) (by omega), Int.toNat_natCast]
  exact wu64 (by omega) (by omega)

theorem and_w (a b : Int) (h1 : 0 ≤ a) (h2 : a < 18446744073709551616) (h3 : 0 ≤ b) (h4 : b < 18446744073709551616) :
    IntKind.wrap .u64 ((BitVec.ofInt (IntKind.bits .u64) a &&& BitVec.ofInt (IntKind.bits .u64) b).toNat : Int) = ((a.toNat &&& b.toNat : Nat) : Int) ∧ (a.toNat &&& b.toNat) < 18446744073709551616 := by
  have hb : IntKind.bits .u64 = 64 := rfl
  have hle : a.toNat &&& b.toNat ≤ a.toNat := Nat.and_le_left
  rw [hb]
  refine ⟨?_, by omega⟩
  rw [BitVec.toNat_and, ofInt_toNat _ h1 h2, ofInt_toNat _ h3 h4]
  exact wu64 (by omega) (by omega)

theorem has_w (w : Int) (r : Nat) (hr : r < 64) (h1 : 0 ≤ w) (h2 : w < 18446744073709551616) :
    (IntKind.wrap .u64 ((BitVec.ofInt (IntKind.bits .u64) (Int.fdiv w (2 ^ min r (IntKind.bits .u64))) &&& BitVec.ofInt (IntKind.bits .u64) 1).toNat : Int) == 1) = w.toNat.testBit r := by
  have hb : IntKind.bits .u64 = 64 := rfl
  have hp : ((2 : Int) ^ r) = ((2 ^ r : Nat) : Int) := by simp
  have hd : Int.fdiv w (2 ^ min r (IntKind.bits .u64)) = ((w.toNat / 2 ^ r : Nat) : Int) := by
    rw [hb, show min r 64 = r by omega, hp]
    conv => lhs; rw [show w = ((w.toNat : Nat) : Int) by omega]
    rw [Int.ofNat_fdiv]
  have hle : w.toNat / 2 ^ r ≤ w.toNat := Nat.div_le_self _ _
  rw [Nat.testBit_eq_decide_div_mod_eq]
  rw [hd]
  generalize w.toNat / 2 ^ r = z at *
  rw [(and_w _ 1 (by omega) (by omega) (by omega) (by omega)).1, Int.toNat_natCast]
  rw [Bool.eq_iff_iff]
  simp only [beq_iff_eq]
  rw [show ((1 : Int).toNat) = 1 from rfl, Nat.and_one_is_mod, decide_eq_true_eq]
  omega

theorem putN_ok {s : Nat → Int} (hs : SetOk s) (i : Nat) (hi : i < 320) : SetOk (putN s i) := by
  intro k hk
  unfold putN
  by_cases h : k = i / 64
  · have hb : Nat.beq k (i / 64) = true := by rw [h]; exact Nat.beq_refl _
    rw [hb, cond_true]
    have h1 := hs (i / 64) (by omega)
    have := (or_w (s (i / 64)) (i % 64) (by omega) h1.1 h1.2).2
    omega
  · have hb : Nat.beq k (i / 64) = false := by rw [← Bool.not_eq_true, Nat.beq_eq]; exact h
    rw [hb, cond_false]
    exact hs k hk

theorem bit_put (s : Nat → Int) (i j : Nat) : bitOf (putN s i) j = (bitOf s j || decide (j = i)) := by
  unfold bitOf putN
  by_cases h : j / 64 = i / 64
  · have hb : Nat.beq (j / 64) (i / 64) = true := by rw [h]; exact Nat.beq_refl _
    rw [hb, cond_true, Int.toNat_natCast, Nat.testBit_or, Nat.testBit_two_pow, h]
    congr 1
    rw [decide_eq_decide]
    omega
  · have hb : Nat.beq (j / 64) (i / 64) = false := by rw [← Bool.not_eq_true, Nat.beq_eq]; exact h
    rw [hb, cond_false]
    have : decide (j = i) = false := by rw [decide_eq_false_iff_not]; intro e; exact h (by rw [e])
    rw [this, Bool.or_false]

def SetIs (l : List Point) (q : Point → Bool) (s : Nat → Int) : Prop := SetOk s ∧ ∀ j, j < 320 → bitOf s j = ((l[j]?).map q).getD false

def putIf (q : Point → Bool) (i : Nat) (p : Point) (s : Nat → Int) : Nat → Int := if q p = true then putN s i else s

theorem foldput (q : Point → Bool) : ∀ (l : List Point) (i : Nat) (s : Nat → Int), i + l.length ≤ 320 → SetOk s → SetOk (foldI (putIf q) i l s) ∧ ∀ j, j < 320 → bitOf (foldI (putIf q) i l s) j = (bitOf s j || (decide (i ≤ j) && ((l[j - i]?).map q).getD false))
  | [], i, s, _, hs => ⟨hs, fun j _ => by simp [foldI]⟩
  | p :: l, i, s, h, hs => by
    simp only [List.length_cons] at h
    have hs' : SetOk (putIf q i p s) := by
      unfold putIf
      by_cases hq : q p = true
      · rw [if_pos hq]; exact putN_ok hs i (by omega)
      · rw [if_neg hq]; exact hs
    obtain ⟨h1, h2⟩ := foldput q l (i + 1) (putIf q i p s) (by omega) hs'
    refine ⟨h1, fun j hj => ?_⟩
    simp only [foldI]
    rw [h2 j hj]
    by_cases e : j = i
    · subst e
      have d1 : decide (j + 1 ≤ j) = false := by simp
      have d2 : decide (j ≤ j) = true := by simp
      rw [d1, d2]
      simp only [Bool.false_and, Bool.or_false, Nat.sub_self, List.getElem?_cons_zero, Option.map_some, Option.getD_some, Bool.true_and]
      unfold putIf
      by_cases hq : q p = true
      · rw [if_pos hq, bit_put, hq]; simp
      · rw [if_neg hq]; simp [hq]
    · have hb : bitOf (putIf q i p s) j = bitOf s j := by
        unfold putIf
        by_cases hq : q p = true
        · rw [if_pos hq, bit_put]; simp [e]
        · rw [if_neg hq]
      rw [hb]
      by_cases hle : i ≤ j
      · have e2 : j - i = (j - (i + 1)) + 1 := by omega
        have d1 : decide (i + 1 ≤ j) = true := by simp; omega
        have d2 : decide (i ≤ j) = true := by simp [hle]
        rw [d1, d2, e2, List.getElem?_cons_succ]
      · have d1 : decide (i + 1 ≤ j) = false := by simp; omega
        have d2 : decide (i ≤ j) = false := by simp; omega
        rw [d1, d2, Bool.false_and, Bool.false_and]

theorem zero_ok : SetOk (fun _ => 0) := fun k _ => by show (0 : Int) ≤ 0 ∧ (0 : Int) < 18446744073709551616; omega
theorem zero_bit (j : Nat) : bitOf (fun _ => 0) j = false := by simp [bitOf]
theorem setIs_fold (q : Point → Bool) (l : List Point) (h : l.length ≤ 320) : SetIs l q (foldI (putIf q) 0 l (fun _ => 0)) := by
  obtain ⟨h1, h2⟩ := foldput q l 0 (fun _ => 0) (by omega) zero_ok
  exact ⟨h1, fun j hj => by rw [h2 j hj, zero_bit]; simp⟩

theorem set_has_eq (s : Nat → Int) (hs : SetOk s) (i : Nat) (hi : i < 320) : swing_set_has s (i : Int) = some (bitOf s i) := by
  unfold swing_set_has bitOf
  have hd : Int.tdiv (i : Int) 64 = ((i / 64 : Nat) : Int) := rfl
  have hm : Int.tmod (i : Int) 64 = ((i % 64 : Nat) : Int) := rfl
  have hw : IntKind.wrap .i64 ((i / 64 : Nat) : Int) = ((i / 64 : Nat) : Int) := by rw [w64] <;> omega
  rw [hd, hm, hw]
  have h1 := hs (i / 64) (by omega)
  rw [Int.toNat_natCast, Int.toNat_natCast, has_w _ _ (by omega) h1.1 h1.2]
  have c1 : decide ((0 : Int) ≤ ((i / 64 : Nat) : Int)) = true := by simp only [decide_eq_true_eq]; omega
  have c2 : decide (((i / 64 : Nat) : Int) < ((5 : Nat) : Int)) = true := by simp only [decide_eq_true_eq]; omega
  have c3 : Nat.blt (i / 64) 5 = true := by simp only [Nat.blt, Nat.ble_eq]; omega
  have c4 : decide (((i % 64 : Nat) : Int) < 0) = false := by simp only [decide_eq_false_iff_not]; omega
  have c2' : (decide ((0 : Int) ≤ ((i / 64 : Nat) : Int)) && decide (((i / 64 : Nat) : Int) < ((5 : Nat) : Int))) = true := by rw [c1, c2]; rfl
  show (bif (decide ((0 : Int) ≤ ((i / 64 : Nat) : Int)) && decide (((i / 64 : Nat) : Int) < ((5 : Nat) : Int))) then _ else none) = _
  rw [c2', cond_true, c3, cond_true, c4, cond_false]

end Nore
open Go Go.Ab
namespace Nore

def BoxOk (b : CtBox) : Prop := boxN b 9000 16 = 0
theorem boxOk_spec {b : CtBox} (h : BoxOk b) : -9000 ≤ b.X.Lo ∧ b.X.Lo ≤ b.X.Hi ∧ b.X.Hi ≤ 9000 ∧ b.X.Hi ≤ b.X.Lo + 16 ∧ -9000 ≤ b.Y.Lo ∧ b.Y.Lo ≤ b.Y.Hi ∧ b.Y.Hi ≤ 9000 ∧ b.Y.Hi ≤ b.Y.Lo + 16 := by
  unfold BoxOk boxN at h
  split at h
  · simp at h
  · split at h
    · simp at h
    · rename_i h1 h2
      simp at h1 h2
      omega
theorem moves_len {b : CtBox} (h : BoxOk b) : (movesN b).length ≤ 289 := by
  have hb := boxOk_spec h
  unfold movesN
  rw [movesFrom_length b _ _ rfl]
  have h1 : (b.X.Hi + 1 - b.X.Lo).toNat ≤ 17 := by omega
  have h2 : (b.Y.Hi + 1 - b.Y.Lo).toNat ≤ 17 := by omega
  exact Nat.mul_le_mul h1 h2
theorem moves_mul {b : CtBox} (h : BoxOk b) : (b.X.Hi + 1 - b.X.Lo).toNat * (b.Y.Hi + 1 - b.Y.Lo).toNat ≤ 289 := by
  have := moves_len h
  unfold movesN at this
  rwa [movesFrom_length b _ _ rfl] at this
theorem moves_bd {b : CtBox} (h : BoxOk b) {p : Point} (hp : p ∈ movesN b) : Bd 9000 p := by
  have := boxOk_spec h
  rw [mem_movesN] at hp
  unfold Bd
  omega

def RingOk (m : SgMooring) : Prop := 0 ≤ m.Ring.Lo ∧ m.Ring.Lo ≤ 200 ∧ 0 ≤ m.Ring.Hi ∧ m.Ring.Hi ≤ 200

def agreesN (m : SgMooring) (x : SgLook) (a : Point) : Bool := (movesN x.At).any (canN m x a)

theorem put_eq (s : Nat → Int) (hs : SetOk s) (i : Nat) (hi : i < 320) :
    (fun j => bif Nat.beq j (Int.toNat (IntKind.wrap .i64 (Int.tdiv (i : Int) 64))) then IntKind.wrap .u64 (BitVec.toNat (BitVec.ofInt (IntKind.bits .u64) (s (Int.toNat (IntKind.wrap .i64 (Int.tdiv (i : Int) 64)))) ||| BitVec.ofInt (IntKind.bits .u64) (IntKind.wrap .u64 (1 * 2 ^ min (Int.toNat (Int.tmod (i : Int) 64)) (IntKind.bits .u64)))) : Int) else s j) = putN s i := by
  have hd : Int.tdiv (i : Int) 64 = ((i / 64 : Nat) : Int) := rfl
  have hm : Int.tmod (i : Int) 64 = ((i % 64 : Nat) : Int) := rfl
  have hw : IntKind.wrap .i64 ((i / 64 : Nat) : Int) = ((i / 64 : Nat) : Int) := by rw [w64] <;> omega
  have h1 := hs (i / 64) (by omega)
  rw [hd, hm, hw, Int.toNat_natCast, Int.toNat_natCast, (or_w _ _ (by omega) h1.1 h1.2).1]
  rfl

theorem idx5 (i : Nat) (hi : i < 320) : (decide ((0 : Int) ≤ IntKind.wrap .i64 (Int.tdiv (i : Int) 64)) && decide (IntKind.wrap .i64 (Int.tdiv (i : Int) 64) < ((5 : Nat) : Int))) = true ∧ Nat.blt (Int.toNat (IntKind.wrap .i64 (Int.tdiv (i : Int) 64))) 5 = true ∧ decide (Int.tmod (i : Int) 64 < 0) = false := by
  have hd : Int.tdiv (i : Int) 64 = ((i / 64 : Nat) : Int) := rfl
  have hm : Int.tmod (i : Int) 64 = ((i % 64 : Nat) : Int) := rfl
  have hw : IntKind.wrap .i64 ((i / 64 : Nat) : Int) = ((i / 64 : Nat) : Int) := by rw [w64] <;> omega
  rw [hd, hm, hw]
  have c1 : decide ((0 : Int) ≤ ((i / 64 : Nat) : Int)) = true := by simp only [decide_eq_true_eq]; omega
  have c2 : decide (((i / 64 : Nat) : Int) < ((5 : Nat) : Int)) = true := by simp only [decide_eq_true_eq]; omega
  have c3 : Nat.blt (i / 64) 5 = true := by simp only [Nat.blt, Nat.ble_eq]; omega
  have c4 : decide (((i % 64 : Nat) : Int) < 0) = false := by simp only [decide_eq_false_iff_not]; omega
  rw [c1, c2, Int.toNat_natCast, c3, c4]
  exact ⟨rfl, rfl, rfl⟩

theorem inc_w (i : Nat) (h : i < 1000000) : IntKind.wrap .i64 ((i : Int) + 1) = ((i + 1 : Nat) : Int) := by rw [w64] <;> omega
theorem inc_y (y : Int) (h : -1000000 ≤ y ∧ y ≤ 1000000) : IntKind.wrap .i64 (y + 1) = y + 1 := by rw [w64] <;> omega

def allS (m : SgMooring) : Nat → Int := foldI (putIf fun _ => true) 0 (movesN m.Anchor) (fun _ => 0)

theorem putIf_ok (q : Point → Bool) (i : Nat) (p : Point) (s : Nat → Int) (hi : i < 320) (hs : SetOk s) : SetOk (putIf q i p s) := by
  unfold putIf
  by_cases h : q p = true
  · rw [if_pos h]; exact putN_ok hs i hi
  · rw [if_neg h]; exact hs

theorem swing_open_eq (m : SgMooring) (hb : BoxOk m.Anchor) : swing_open m = some ⟨m, allS m⟩ := by
  have hB := boxOk_spec hb
  have hM := moves_mul hb
  unfold swing_open
  have key := box_loop (swing_open_L0_st 0 0 0 0 0 0 0 (fun _ => 0) m.Anchor m m) (fun i x c => ((i : Int), x, (⟨m, c⟩ : swing_mooring))) (fun _ c => (⟨m, c⟩ : swing_mooring)) (putIf fun _ => true) (fun _ c => SetOk c) m.Anchor 289
    (by
      intro i x c hx
      simp only [swing_open_L0_st, swing_open_L0_step]
      rw [decide_eq_false hx]; rfl)
    (by
      intro i x c hx1 hx2 hi hc
      have row := row_loop (swing_open_L1_st x 0 0 0 0 0 0 0 (fun _ => 0) m.Anchor m m) (fun i y c => ((i : Int), y, (⟨m, c⟩ : swing_mooring))) (fun i c => ((i : Int), (⟨m, c⟩ : swing_mooring))) (putIf fun _ => true) (fun _ c => SetOk c) x m.Anchor.Y.Lo m.Anchor.Y.Hi 289
        (by
          intro i y c hy
          simp only [swing_open_L1_st, swing_open_L1_step]
          rw [decide_eq_false hy]; rfl)
        (by
          intro i y c hy1 hy2 hi hc
          refine ⟨?_, putIf_ok _ _ _ _ (by omega) hc⟩
          simp only [swing_open_L1_st, swing_open_L1_step]
          rw [decide_eq_true hy2, inc_w i (by omega), inc_y y (by omega)]
          obtain ⟨k1, k2, k3⟩ := idx5 i (by omega)
          have pe := put_eq c hc i (by omega)
          rw [cond_true]
          show (bif (decide ((0 : Int) ≤ IntKind.wrap .i64 (Int.tdiv (i : Int) 64)) && decide (IntKind.wrap .i64 (Int.tdiv (i : Int) 64) < ((5 : Nat) : Int))) then (bif _ then (bif _ then none else (bif (decide ((0 : Int) ≤ IntKind.wrap .i64 (Int.tdiv (i : Int) 64)) && decide (IntKind.wrap .i64 (Int.tdiv (i : Int) 64) < ((5 : Nat) : Int))) then (bif _ then _ else none) else none)) else none) else none) = _
          rw [k1, k2, k3]
          simp only [cond_true, cond_false, pe]
          rfl)
      have r := row _ m.Anchor.Y.Lo i c rfl (by omega) hi hc
      refine ⟨?_, r.2⟩
      simp only [swing_open_L0_st, swing_open_L0_step]
      rw [decide_eq_true hx2, cond_true]
      unfold swing_open_L1_run
      rw [r.1, inc_y x (by omega)]
      rfl)
  have r := (key _ m.Anchor.X.Lo 0 (fun _ => 0) rfl (by omega) (by omega) zero_ok).1
  unfold swing_open_L0_run
  show Option.bind (runOf (swing_open_L0_st 0 0 0 0 0 0 0 (fun _ => 0) m.Anchor m m) (((0 : Nat) : Int), m.Anchor.X.Lo, (⟨m, fun _ => 0⟩ : swing_mooring))) _ = _
  rw [r]
  rfl

theorem swing_lies_eq' (y : swing_mooring) (x : SgLook) (hx : LookOk x) (hr : RingOk y.SgMooring) (ha : BoxOk y.SgMooring.Anchor) (hb : BoxOk x.At) (a p : Point) (h1 : a ∈ movesN y.SgMooring.Anchor) (h2 : p ∈ movesN x.At) : swing_mooring_lies y x a p = some (canN y.SgMooring x a p) :=
  swing_lies_eq y x a p hx hr (moves_bd ha h1) (moves_bd hb h2)

def heldS (m : SgMooring) (x : SgLook) : Nat → Int := foldI (putIf (agreesN m x)) 0 (movesN m.Anchor) (fun _ => 0)

theorem swing_held_eq (y : swing_mooring) (x : SgLook) (hx : LookOk x) (hr : RingOk y.SgMooring) (ha : BoxOk y.SgMooring.Anchor) (hb : BoxOk x.At) : swing_mooring_held y x = some (heldS y.SgMooring x) := by
  have hA := boxOk_spec ha
  have hX := boxOk_spec hb
  have hMA := moves_mul ha
  have hMX := moves_mul hb
  have inner : ∀ (i : Nat) (a : Point) (c : Nat → Int) (z1 z2 : Int), i < 289 → a ∈ movesN y.SgMooring.Anchor → SetOk c →
      (agreesN y.SgMooring x a = true ∧ ∃ q, runOf (swing_mooring_held_L2_st y.SgMooring.Anchor x y x x (i : Int) y z1 z2 x.At y a c (i : Int)) (0, x.At.X.Lo) = some (.inl (q, putN c i))) ∨ (agreesN y.SgMooring x a = false ∧ runOf (swing_mooring_held_L2_st y.SgMooring.Anchor x y x x (i : Int) y z1 z2 x.At y a c (i : Int)) (0, x.At.X.Lo) = some (.inr ())) := by
    intro i a c z1 z2 hi hain hc
    have key := box_any (swing_mooring_held_L2_st y.SgMooring.Anchor x y x x (i : Int) y z1 z2 x.At y a c (i : Int)) (fun k x => ((k : Int), x)) (fun q => .inl (q, putN c i)) (fun _ => .inr ()) (canN y.SgMooring x a) x.At 289
      (by
        intro k x' hx'
        simp only [swing_mooring_held_L2_st, swing_mooring_held_L2_step]
        rw [decide_eq_false hx']; rfl)
      (by
        intro k x' hx1 hx2 hk
        have row := row_any (swing_mooring_held_L3_st x' y.SgMooring.Anchor x y x x (i : Int) y z1 z2 x.At y a c (i : Int)) (fun k y => ((k : Int), y)) (fun q => .inl (q, putN c i)) (fun k => .inr (k : Int)) (canN y.SgMooring x a) x' x.At.Y.Lo x.At.Y.Hi 289
          (by
            intro k y' hy'
            simp only [swing_mooring_held_L3_st, swing_mooring_held_L3_step]
            rw [decide_eq_false hy']; rfl)
          (by
            intro k y' hy1 hy2 hk
            simp only [swing_mooring_held_L3_st, swing_mooring_held_L3_step]
            rw [decide_eq_true hy2, inc_w k (by omega), inc_y y' (by omega), swing_lies_eq' y x hx hr ha hb a ⟨x', y'⟩ hain (mem_movesN.2 ⟨hx1, hx2, hy1, hy2⟩)]
            obtain ⟨k1, k2, k3⟩ := idx5 i (by omega)
            have pe := put_eq c hc i (by omega)
            rw [cond_true, Option.bind_some]
            by_cases hcan : canN y.SgMooring x a ⟨x', y'⟩ = true
            · rw [hcan, cond_true, if_pos rfl]
              show (bif (decide ((0 : Int) ≤ IntKind.wrap .i64 (Int.tdiv (i : Int) 64)) && decide (IntKind.wrap .i64 (Int.tdiv (i : Int) 64) < ((5 : Nat) : Int))) then (bif _ then (bif _ then none else (bif (decide ((0 : Int) ≤ IntKind.wrap .i64 (Int.tdiv (i : Int) 64)) && decide (IntKind.wrap .i64 (Int.tdiv (i : Int) 64) < ((5 : Nat) : Int))) then (bif _ then _ else none) else none)) else none) else none) = _
              rw [k1, k2, k3]
              simp only [cond_true, cond_false, pe]
            · rw [if_neg hcan]
              rw [Bool.not_eq_true] at hcan
              rw [hcan]; rfl)
        have r := row _ x.At.Y.Lo k rfl (by omega) hk
        simp only [swing_mooring_held_L2_st, swing_mooring_held_L2_step]
        rw [decide_eq_true hx2, cond_true, inc_y x' (by omega)]
        unfold swing_mooring_held_L3_run
        rcases r with ⟨r1, q, r2⟩ | ⟨r1, r2⟩
        · left
          refine ⟨r1, q, ?_⟩
          rw [r2]; rfl
        · right
          refine ⟨r1, ?_⟩
          rw [r2]; rfl)
    have r := key _ x.At.X.Lo 0 rfl (by omega) (by omega)
    unfold agreesN movesN
    rcases r with ⟨r1, q, r2⟩ | ⟨r1, k, r2⟩
    · left; exact ⟨r1, q, r2⟩
    · right; exact ⟨r1, r2⟩
  unfold swing_mooring_held
  have key := box_loop (swing_mooring_held_L0_st y.SgMooring.Anchor x y x y) (fun i x c => ((i : Int), x, c)) (fun _ c => c) (putIf (agreesN y.SgMooring x)) (fun _ c => SetOk c) y.SgMooring.Anchor 289
    (by
      intro i x' c hx'
      simp only [swing_mooring_held_L0_st, swing_mooring_held_L0_step]
      rw [decide_eq_false hx']; rfl)
    (by
      intro i x' c hx1 hx2 hi hc
      have row := row_loop (swing_mooring_held_L1_st x' y.SgMooring.Anchor x y x y) (fun i y c => ((i : Int), y, c)) (fun i c => ((i : Int), c)) (putIf (agreesN y.SgMooring x)) (fun _ c => SetOk c) x' y.SgMooring.Anchor.Y.Lo y.SgMooring.Anchor.Y.Hi 289
        (by
          intro i y' c hy'
          simp only [swing_mooring_held_L1_st, swing_mooring_held_L1_step]
          rw [decide_eq_false hy']; rfl)
        (by
          intro i y' c hy1 hy2 hi hc
          refine ⟨?_, putIf_ok _ _ _ _ (by omega) hc⟩
          simp only [swing_mooring_held_L1_st, swing_mooring_held_L1_step]
          rw [decide_eq_true hy2, inc_w i (by omega), inc_y y' (by omega), cond_true]
          unfold swing_mooring_held_L2_run
          have hin := inner i ⟨x', y'⟩ c x' y' hi (mem_movesN.2 ⟨hx1, hx2, hy1, hy2⟩) hc
          rcases hin with ⟨r1, q, r2⟩ | ⟨r1, r2⟩
          · rw [r2]; simp only [putIf, r1, if_true]; rfl
          · rw [r2]; simp only [putIf, r1]; rfl)
      have r := row _ y.SgMooring.Anchor.Y.Lo i c rfl (by omega) hi hc
      refine ⟨?_, r.2⟩
      simp only [swing_mooring_held_L0_st, swing_mooring_held_L0_step]
      rw [decide_eq_true hx2, cond_true]
      unfold swing_mooring_held_L1_run
      rw [r.1, inc_y x' (by omega)]
      rfl)
  have r := (key _ y.SgMooring.Anchor.X.Lo 0 (fun _ => 0) rfl (by omega) (by omega) zero_ok).1
  unfold swing_mooring_held_L0_run
  show Option.bind (runOf (swing_mooring_held_L0_st y.SgMooring.Anchor x y x y) (((0 : Nat) : Int), y.SgMooring.Anchor.X.Lo, fun _ => 0)) _ = _
  rw [r]
  rfl

end Nore
open Go Go.Ab
namespace Nore

def combN (s t : Nat → Int) : Nat → Nat → Int
  | 0 => fun _ => 0
  | k + 1 => fun j => bif Nat.beq j k then (((s k).toNat &&& (t k).toNat : Nat) : Int) else combN s t k j
def commonN (s t : Nat → Int) : Nat → Int := combN s t 5

theorem comb_get (s t : Nat → Int) (k : Nat) : ∀ j, j < k → combN s t k j = (((s j).toNat &&& (t j).toNat : Nat) : Int) := by
  induction k with
  | zero => intro j hj; omega
  | succ k ih =>
    intro j hj
    unfold combN
    by_cases h : j = k
    · subst h; simp
    · have hb : Nat.beq j k = false := by rw [← Bool.not_eq_true, Nat.beq_eq]; exact h
      simp only [hb, cond_false]
      exact ih j (by omega)

theorem swing_common_eq (s t : Nat → Int) (hs : SetOk s) (ht : SetOk t) : swing_set_common s t = some (commonN s t) := by
  unfold swing_set_common
  refine (run_loop (swing_set_common_L0_st s t s) (fun o => some o) 5 (fun i (b : Nat → Int) => ((i : Int), b)) (fun i b => b = combN s t i) (fun _ _ => some (commonN s t)) ?_ ?_ 0 _ (by omega) rfl)
  · intro b hP R
    subst hP
    simp only [swing_set_common_L0_st, swing_set_common_L0_step]
    rfl
  · intro i b hi hP R hR
    have hR' := hR (combN s t (i + 1)) rfl
    subst hP
    simp only [swing_set_common_L0_st, swing_set_common_L0_step]
    have h1 : decide ((i : Int) < 5) = true := by simp only [decide_eq_true_eq]; omega
    have h0 : decide ((0 : Int) ≤ (i : Int)) = true := by simp
    have h3 : Nat.blt i 5 = true := by simp only [Nat.blt, Nat.ble_eq]; omega
    have b1 := hs i hi
    have b2 := ht i hi
    rw [h1, h0, inc_w i (by omega), Int.toNat_natCast, (and_w _ _ b1.1 b1.2 b2.1 b2.2).1, h3]
    simp only [Bool.and_self, cond_true, Option.bind_some, Sum.elim_inl]
    exact hR'

theorem common_ok {s t : Nat → Int} (hs : SetOk s) (_ht : SetOk t) : SetOk (commonN s t) := by
  intro k hk
  rw [commonN, comb_get s t 5 k hk]
  have h1 := hs k hk
  have hle : (s k).toNat &&& (t k).toNat ≤ (s k).toNat := Nat.and_le_left
  omega

theorem common_bit (s t : Nat → Int) (j : Nat) (hj : j < 320) : bitOf (commonN s t) j = (bitOf s j && bitOf t j) := by
  unfold bitOf
  rw [commonN, comb_get s t 5 (j / 64) (by omega), Int.toNat_natCast, Nat.testBit_and]

theorem setIs_common {l : List Point} {q r : Point → Bool} {s t : Nat → Int} (hs : SetIs l q s) (ht : SetIs l r t) : SetIs l (fun p => q p && r p) (commonN s t) := by
  refine ⟨common_ok hs.1 ht.1, fun j hj => ?_⟩
  rw [common_bit _ _ _ hj, hs.2 j hj, ht.2 j hj]
  cases l[j]? <;> simp

structure LooksOk (m : SgMooring) (l : List SgLook) : Prop where
  ring : RingOk m
  ringLe : m.Ring.Lo ≤ m.Ring.Hi
  near : 0 ≤ m.Near ∧ m.Near ≤ 20000
  anchor : BoxOk m.Anchor
  chart : (checkN m.Chart).2.2 = 0
  len : l.length ≤ 8
  look : ∀ x, x ∈ l → LookOk x ∧ BoxOk x.At ∧ 0 ≤ x.Minute ∧ x.Minute ≤ 100000

theorem lookE_ok {before : Int} {x : SgLook} (h : lookE before x = 0) : LookOk x ∧ BoxOk x.At ∧ 0 ≤ x.Minute ∧ x.Minute ≤ 100000 ∧ before < x.Minute := by
  unfold lookE at h
  split at h
  · simp at h
  · split at h
    · simp at h
    · rename_i h1 h2
      simp at h1
      have hb : BoxOk x.At := h
      have h3 : ¬ x.Minute ≤ before := fun hc => h2 ⟨h, hc⟩
      exact ⟨⟨by omega, by omega, by omega, by omega⟩, hb, by omega, by omega, by omega⟩

theorem looksL_ok : ∀ (l : List SgLook) (i : Nat) (before : Int), (looksL i before l).2 = 0 → ∀ x, x ∈ l → LookOk x ∧ BoxOk x.At ∧ 0 ≤ x.Minute ∧ x.Minute ≤ 100000
  | [], _, _, _, x, hx => by simp at hx
  | y :: l, i, before, h, x, hx => by
    unfold looksL at h
    by_cases hy : lookE before y = 0
    · rw [if_pos hy] at h
      have := lookE_ok hy
      rcases List.mem_cons.1 hx with rfl | hx
      · exact ⟨this.1, this.2.1, this.2.2.1, this.2.2.2.1⟩
      · exact looksL_ok l _ _ h x hx
    · rw [if_neg hy] at h
      exact absurd h hy

theorem checkSg_ok {m : SgMooring} (h : (checkSg m).2 = 0) : RingOk m ∧ m.Ring.Lo ≤ m.Ring.Hi ∧ (0 ≤ m.Near ∧ m.Near ≤ 20000) ∧ BoxOk m.Anchor ∧ (checkN m.Chart).2.2 = 0 := by
  unfold checkSg at h
  split at h
  · rename_i h1; exact absurd h h1
  · split at h
    · rename_i h1; exact absurd h h1
    · split at h
      · simp at h
      · split at h
        · simp at h
        · rename_i h1 h2 h3 h4
          simp at h1 h2 h3 h4
          refine ⟨⟨by omega, by omega, by omega, by omega⟩, by omega, ⟨by omega, by omega⟩, h2, h1⟩

theorem checkLooks_ok {m : SgMooring} {l : List SgLook} (h : (checkLooksN m l).2 = 0) : LooksOk m l := by
  unfold checkLooksN at h
  split at h
  · rename_i h1; exact absurd h h1
  · split at h
    · simp at h
    · rename_i h1 h2
      have c := checkSg_ok (m := m) (by simpa using h1)
      exact ⟨c.1, c.2.1, c.2.2.1, c.2.2.2.1, c.2.2.2.2, by omega, looksL_ok l 0 (-1) h⟩

theorem swing_enter_eq (m : SgMooring) (l : List SgLook) : swing_enter m l = some (if (checkLooksN m l).2 = 0 then (⟨m, allS m⟩, l.map (heldS m), 0) else (⟨⟨⟨[], []⟩, ⟨⟨0, 0⟩, ⟨0, 0⟩⟩, ⟨0, 0⟩, 0⟩, fun _ => 0⟩, [], (checkLooksN m l).2)) := by
  unfold swing_enter
  rw [swing_CheckLooks_eq]
  simp only [Option.bind_some]
  by_cases h : (checkLooksN m l).2 = 0
  · have ok := checkLooks_ok h
    rw [if_pos h, h]
    simp only [bne_self_eq_false, cond_false]
    rw [swing_open_eq m ok.anchor]
    simp only [Option.bind_some]
    have hlen := ok.len
    refine (run_loop (swing_enter_L0_st l (↑l.length) ⟨m, allS m⟩ m) _ l.length (fun i (b : List (Nat → Int)) => ((i : Int), b)) (fun i b => b.length = i) (fun i b => some ((⟨m, allS m⟩ : swing_mooring), b ++ (l.drop i).map (heldS m), (0 : Int))) ?_ ?_ 0 [] (by omega) rfl)
    · intro b _ R
      simp [swing_enter_L0_st, swing_enter_L0_step]
    · intro i b hi hP R hR
      simp only [swing_enter_L0_st, swing_enter_L0_step]
      rw [List.drop_eq_getElem_cons hi]
      have hx := ok.look l[i] (List.getElem_mem hi)
      rw [Int.toNat_natCast, getD_lt _ _ _ hi, inc_w i (by omega), swing_held_eq ⟨m, allS m⟩ l[i] hx.1 ok.ring ok.anchor hx.2.1]
      have h1 : decide ((i : Int) < ↑l.length) = true := by simp [hi]
      have h2 : decide ((0 : Int) ≤ ↑i) = true := by simp
      have h3 : Nat.ble ((b.length + [heldS m l[i]].length) * (40 + 1)) 200000000000000 = true := by
        rw [Nat.ble_eq]; simp; omega
      simp only [h1, h2, Bool.and_self, cond_true, Option.bind_some, h3, Sum.elim_inl]
      rw [hR (b ++ [heldS m l[i]]) (by simp; omega)]
      simp only [List.map_cons, List.append_assoc, List.cons_append, List.nil_append]
  · rw [if_neg h, bne_t h]
    rfl

theorem held_ok (m : SgMooring) (x : SgLook) (h : BoxOk m.Anchor) : SetIs (movesN m.Anchor) (agreesN m x) (heldS m x) := setIs_fold _ _ (by have := moves_len h; omega)
theorem all_ok (m : SgMooring) (h : BoxOk m.Anchor) : SetIs (movesN m.Anchor) (fun _ => true) (allS m) := setIs_fold _ _ (by have := moves_len h; omega)

theorem fold_is {m : SgMooring} (hA : BoxOk m.Anchor) : ∀ (l : List SgLook) (q : Point → Bool) (s : Nat → Int), SetIs (movesN m.Anchor) q s → SetIs (movesN m.Anchor) (fun a => q a && l.all fun x => agreesN m x a) ((l.map (heldS m)).foldl commonN s)
  | [], q, s, h => by simpa using h
  | x :: l, q, s, h => by
    have := fold_is hA l (fun a => q a && agreesN m x a) (commonN s (heldS m x)) (setIs_common h (held_ok m x hA))
    simp only [List.map_cons, List.foldl_cons, List.all_cons]
    simp only [Bool.and_assoc] at this
    exact this

theorem swing_fold_eq (s : Nat → Int) (l : List (Nat → Int)) (hs : SetOk s) (hl : ∀ t, t ∈ l → SetOk t) (hlen : l.length < 1000000) : swing_fold s l = some (l.foldl commonN s) := by
  unfold swing_fold
  refine (run_loop (swing_fold_L0_st (↑l.length) l (fun _ => 0)) (fun o => some o) l.length (fun i (b : Nat → Int) => ((i : Int), b)) (fun _ b => SetOk b) (fun i b => some ((l.drop i).foldl commonN b)) ?_ ?_ 0 s (by omega) hs)
  · intro b _ R
    simp [swing_fold_L0_st, swing_fold_L0_step]
  · intro i b hi hP R hR
    have hx := hl l[i] (List.getElem_mem hi)
    simp only [swing_fold_L0_st, swing_fold_L0_step]
    rw [List.drop_eq_getElem_cons hi, Int.toNat_natCast, getD_lt _ _ _ hi, inc_w i (by omega), swing_common_eq _ _ hP hx]
    have h1 : decide ((i : Int) < ↑l.length) = true := by simp [hi]
    have h2 : decide ((0 : Int) ≤ ↑i) = true := by simp
    simp only [h1, h2, Bool.and_self, cond_true, Option.bind_some, Sum.elim_inl, List.foldl_cons]
    exact hR _ (common_ok hP hx)

theorem held_all_ok {m : SgMooring} (hA : BoxOk m.Anchor) (l : List SgLook) : ∀ t, t ∈ l.map (heldS m) → SetOk t := by
  intro t ht
  obtain ⟨x, _, rfl⟩ := List.mem_map.1 ht
  exact (held_ok m x hA).1

def heldN (m : SgMooring) (l : List SgLook) (az : List Point) : List Point := az.filter fun a => l.all fun x => agreesN m x a
def anchorsN (m : SgMooring) (l : List SgLook) : List Point × Int := if (checkLooksN m l).2 = 0 then (heldN m l (movesN m.Anchor), 0) else ([], (checkLooksN m l).2)

def addIf (S : Nat → Int) (i : Nat) (p : Point) (acc : List Point) : List Point := if bitOf S i = true then acc ++ [p] else acc
theorem fold_add (S : Nat → Int) (q : Point → Bool) : ∀ (l : List Point) (i : Nat) (acc : List Point), (∀ k, (h : k < l.length) → bitOf S (i + k) = q l[k]) → foldI (addIf S) i l acc = acc ++ l.filter q
  | [], i, acc, _ => by simp [foldI]
  | p :: l, i, acc, h => by
    have h0 := h 0 (by simp)
    simp only [Nat.add_zero, List.getElem_cons_zero] at h0
    have ih := fold_add S q l (i + 1) (addIf S i p acc) (fun k hk => by
      have := h (k + 1) (by simp; exact hk)
      rw [show i + 1 + k = i + (k + 1) by omega, this]
      rfl)
    simp only [foldI]
    rw [ih]
    simp only [addIf, h0]
    cases hq : q p
    · simp [hq]
    · simp [hq]

theorem setIs_bits {l : List Point} {q : Point → Bool} {S : Nat → Int} (h : SetIs l q S) (hl : l.length ≤ 320) : ∀ k, (hk : k < l.length) → bitOf S (0 + k) = q l[k] := by
  intro k hk
  rw [Nat.zero_add, h.2 k (by omega)]
  simp [hk]

theorem swing_Anchors_eq (m : SgMooring) (l : List SgLook) : swing_Anchors m l = some (anchorsN m l) := by
  unfold swing_Anchors anchorsN
  rw [swing_enter_eq]
  simp only [Option.bind_some]
  by_cases h : (checkLooksN m l).2 = 0
  · have ok := checkLooks_ok h
    have hA := ok.anchor
    have hB := boxOk_spec hA
    have hM := moves_mul hA
    have hlen := ok.len
    rw [if_pos h, if_pos h]
    simp only [bne_self_eq_false, cond_false]
    rw [swing_fold_eq _ _ (all_ok m hA).1 (held_all_ok hA l) (by simp; omega)]
    simp only [Option.bind_some]
    have hS := fold_is hA l _ _ (all_ok m hA)
    simp only [Bool.true_and] at hS
    generalize hSS : (l.map (heldS m)).foldl commonN (allS m) = S at *
    have key := box_loop (swing_Anchors_L0_st m.Anchor m S ⟨m, allS m⟩ (l.map (heldS m)) false l 0 m) (fun i x c => ((i : Int), x, c)) (fun _ c => c) (addIf S) (fun i c => c.length ≤ i) m.Anchor 289
      (by
        intro i x c hx
        simp only [swing_Anchors_L0_st, swing_Anchors_L0_step]
        rw [decide_eq_false hx]; rfl)
      (by
        intro i x c hx1 hx2 hi hc
        have row := row_loop (swing_Anchors_L1_st x m.Anchor m S ⟨m, allS m⟩ (l.map (heldS m)) false l 0 m) (fun i y c => ((i : Int), y, c)) (fun i c => ((i : Int), c)) (addIf S) (fun i c => c.length ≤ i) x m.Anchor.Y.Lo m.Anchor.Y.Hi 289
          (by
            intro i y c hy
            simp only [swing_Anchors_L1_st, swing_Anchors_L1_step]
            rw [decide_eq_false hy]; rfl)
          (by
            intro i y c hy1 hy2 hi hc
            simp only [swing_Anchors_L1_st, swing_Anchors_L1_step]
            rw [decide_eq_true hy2, inc_w i (by omega), inc_y y (by omega), cond_true, set_has_eq S hS.1 i (by omega)]
            have h3 : Nat.ble ((c.length + [(⟨x, y⟩ : Point)].length) * (16 + 1)) 200000000000000 = true := by
              rw [Nat.ble_eq]; simp; omega
            rw [h3]
            simp only [Option.bind_some, addIf, cond_true]
            by_cases hb : bitOf S i = true
            · rw [if_pos hb, hb]; exact ⟨rfl, by simp; omega⟩
            · rw [if_neg hb]; rw [Bool.not_eq_true] at hb; rw [hb]; exact ⟨rfl, by omega⟩)
        have r := row _ m.Anchor.Y.Lo i c rfl (by omega) hi hc
        refine ⟨?_, r.2⟩
        simp only [swing_Anchors_L0_st, swing_Anchors_L0_step]
        rw [decide_eq_true hx2, cond_true]
        unfold swing_Anchors_L1_run
        rw [r.1, inc_y x (by omega)]
        rfl)
    have r := (key _ m.Anchor.X.Lo 0 [] rfl (by omega) (by omega) (by simp)).1
    unfold swing_Anchors_L0_run
    show Option.bind (runOf (swing_Anchors_L0_st m.Anchor m S ⟨m, allS m⟩ (l.map (heldS m)) false l 0 m) (((0 : Nat) : Int), m.Anchor.X.Lo, [])) _ = _
    rw [r]
    have hfa := fold_add S (fun a => l.all fun x => agreesN m x a) (movesN m.Anchor) 0 [] (setIs_bits hS (by have := moves_len hA; omega))
    simp only [Option.bind_some]
    rw [show movesFrom m.Anchor.X.Lo m.Anchor = movesN m.Anchor from rfl, hfa]
    rfl
  · rw [if_neg h, if_neg h]
    simp only
    rw [bne_t h]; rfl

instance : DecidableEq Point := fun a b =>
  if h : a.X = b.X ∧ a.Y = b.Y then isTrue (by cases a; cases b; simp only at h; rw [h.1, h.2]) else isFalse (fun e => h (by rw [e]; exact ⟨rfl, rfl⟩))

end Nore
open Go Go.Ab
namespace Nore

end Nore
open Go Go.Ab
namespace Nore

def subF (w : Nat) : Nat → Nat → List Int
  | _, 0 => []
  | i, k + 1 => if w.testBit i then (i : Int) :: subF w (i + 1) k else subF w (i + 1) k
def lexLt : List Int → List Int → Bool
  | [], [] => false
  | [], _ :: _ => true
  | _ :: _, [] => false
  | a :: s, b :: t => if a < b then true else if b < a then false else lexLt s t
def before (s t : List Int) : Bool := decide (s.length < t.length) || (decide (s.length = t.length) && lexLt s t)

end Nore
open Go Go.Ab
namespace Nore

end Nore
open Go Go.Ab
namespace Nore

end Nore
open Go Go.Ab
namespace Nore

structure SandOk (s : CtSand) : Prop where
  len : 3 ≤ s.Corners.length ∧ s.Corners.length ≤ 8
  far : s.Corners.any (farN 10000) = false
  box : boxN s.Moves 500 40 = 0
  round : roundN s.Corners = true
end Nore
open Go Go.Ab
namespace Nore

end Nore
open Go Go.Ab
namespace Nore

theorem lookE_iff (before : Int) (hb : -1 ≤ before) (x : SgLook) : lookE before x = 0 ↔ lookE (-1) x = 0 ∧ before < x.Minute := by
  constructor
  · intro h
    have h1 := lookE_ok h
    refine ⟨?_, h1.2.2.2.2⟩
    unfold lookE at h ⊢
    split at h
    · simp at h
    · rename_i h2
      rw [if_neg h2]
      split at h
      · simp at h
      · rw [if_neg]
        · exact h
        · rintro ⟨_, hc⟩; omega
  · rintro ⟨h, h1⟩
    unfold lookE at h ⊢
    split at h
    · simp at h
    · rename_i h2
      rw [if_neg h2]
      split at h
      · simp at h
      · rw [if_neg]
        · exact h
        · rintro ⟨_, hc⟩; omega

theorem looksL_iff : ∀ (l : List SgLook) (i : Nat) (before : Int), -1 ≤ before → ((looksL i before l).2 = 0 ↔ (∀ x, x ∈ l → lookE (-1) x = 0 ∧ before < x.Minute) ∧ l.Pairwise fun x y => x.Minute < y.Minute)
  | [], _, _, _ => by simp [looksL]
  | x :: l, i, before, hb => by
    unfold looksL
    by_cases hx : lookE before x = 0
    · have h1 := (lookE_iff before hb x).1 hx
      rw [if_pos hx, looksL_iff l (i + 1) x.Minute (by omega), List.pairwise_cons]
      constructor
      · rintro ⟨h2, h3⟩
        refine ⟨fun y hy => ?_, fun y hy => (h2 y hy).2, h3⟩
        rcases List.mem_cons.1 hy with rfl | hy
        · exact h1
        · exact ⟨(h2 y hy).1, by have := (h2 y hy).2; omega⟩
      · rintro ⟨h2, h3, h4⟩
        exact ⟨fun y hy => ⟨(h2 y (List.mem_cons_of_mem _ hy)).1, h3 y hy⟩, h4⟩
    · rw [if_neg hx]
      constructor
      · intro h; exact absurd h hx
      · rintro ⟨h2, _⟩
        exact absurd ((lookE_iff before hb x).2 (h2 x (by simp))) hx

theorem good_iff (m : SgMooring) (l : List SgLook) : (checkLooksN m l).2 = 0 ↔ (checkSg m).2 = 0 ∧ l.length ≤ 8 ∧ (∀ x, x ∈ l → lookE (-1) x = 0) ∧ l.Pairwise fun x y => x.Minute < y.Minute := by
  unfold checkLooksN
  by_cases h1 : (checkSg m).2 = 0
  · simp only [h1, ne_eq, not_true, if_false, true_and]
    by_cases h2 : 8 < l.length
    · rw [if_pos h2]
      constructor
      · intro h; simp at h
      · rintro ⟨h, _⟩; omega
    · rw [if_neg h2, looksL_iff l 0 (-1) (by omega)]
      constructor
      · rintro ⟨h3, h4⟩; exact ⟨by omega, fun x hx => (h3 x hx).1, h4⟩
      · rintro ⟨_, h3, h4⟩
        exact ⟨fun x hx => ⟨h3 x hx, by have := lookE_ok (h3 x hx); omega⟩, h4⟩
  · simp only [h1, ne_eq, not_false_iff, if_true, false_and]

theorem law04_good_eq (m : SgMooring) (l : List SgLook) : law04_good m l = some (decide ((checkLooksN m l).2 = 0)) := by
  unfold law04_good
  rw [ref04_CheckLooks_eq]
  simp only [Option.bind_some]
  by_cases h : (checkLooksN m l).2 = 0
  · simp [h]
  · simp [h, beq_f h]

theorem anchors_good {m : SgMooring} {l : List SgLook} (h : (checkLooksN m l).2 = 0) : swing_Anchors m l = some (heldN m l (movesN m.Anchor), 0) := by
  rw [swing_Anchors_eq]; unfold anchorsN; rw [if_pos h]

end Nore
open Go Go.Ab
namespace Nore

theorem u8_of {n : Int} (h : (Lit.int .u8 n).wf = true) : 0 ≤ n ∧ n ≤ 255 := by
  simp [Lit.wf, IntKind.has, IntKind.min, IntKind.max, IntKind.signed, IntKind.bits] at h
  omega

end Nore
open Go Go.Ab Go.Proofs.Ytdoejdmpmpgmiaa
namespace Nore

theorem tmod_bd (n k : Int) (hn : 0 ≤ n) (hk : 0 < k) : 0 ≤ Int.tmod n k ∧ Int.tmod n k < k := ⟨Int.tmod_nonneg k hn, Int.tmod_lt_of_pos n hk⟩

structure TrueLooks (m : SgMooring) (a : Point) (l : List SgLook) (ps : List Point) : Prop where
  len : ps.length = l.length
  few : l.length ≤ 8
  look : ∀ j, (h : j < l.length) → lookE (-1) l[j] = 0 ∧ l[j].Minute = 10 * (j : Int)
  can : ∀ j, (h : j < l.length) → (h2 : j < ps.length) → canN m l[j] a ps[j] = true ∧ ps[j] ∈ movesN l[j].At ∧ Bd 9000 ps[j]

end Nore
open Go Go.Ab Go.Proofs.Ytdoejdmpmpgmiaa
namespace Nore

theorem law04_has_eq (l : List Point) (p : Point) (hl : l.length < 1000000) : law04_has l p = some (decide (p ∈ l)) := by
  unfold law04_has
  refine (run_loop (law04_has_L0_st l p) (fun o440 => Sum.elim (fun y441 : Bool => some y441) (fun _ : Unit => some false) o440) l.length (fun i (_ : Unit) => (i : Int)) (fun _ _ => True) (fun i _ => some (decide (p ∈ l.drop i))) ?_ ?_ 0 () (by omega) trivial)
  · intro b _ R
    simp [law04_has_L0_st, law04_has_L0_step]
  · intro i b hi _ R hR
    have hR' := hR () trivial
    simp only [law04_has_L0_st, law04_has_L0_step]
    rw [List.drop_eq_getElem_cons hi, Int.toNat_natCast, getD_lt _ _ _ hi, inc_w i (by omega)]
    have h1 : decide ((i : Int) < ↑l.length) = true := by simp [hi]
    have h2 : decide ((0 : Int) ≤ ↑i) = true := by simp
    simp only [h1, h2, Bool.and_self, cond_true, Bool.and_true]
    by_cases hp : p = l[i]
    · have : (l[i].X == p.X && l[i].Y == p.Y) = true := by rw [hp]; simp
      rw [this]
      simp only [cond_true, Option.bind_some, Sum.elim_inr, Sum.elim_inl]
      congr 1
      symm
      rw [decide_eq_true_eq, hp]
      exact List.mem_cons.2 (.inl rfl)
    · have : (l[i].X == p.X && l[i].Y == p.Y) = false := by
        rw [Bool.eq_false_iff]
        intro hc
        simp only [Bool.and_eq_true, beq_iff_eq] at hc
        apply hp
        cases hq : l[i] with
        | mk x y =>
          cases p with
          | mk x' y' =>
            rw [hq] at hc
            simp only at hc
            rw [hc.1, hc.2]
      rw [this]
      simp only [cond_false, Option.bind_some, Sum.elim_inl, List.mem_cons, hp, false_or]
      exact hR'

theorem mem_held (m : SgMooring) (l : List SgLook) (az : List Point) (a : Point) : a ∈ heldN m l az ↔ a ∈ az ∧ ∀ x, x ∈ l → agreesN m x a = true := by
  unfold heldN
  rw [List.mem_filter, List.all_eq_true]

end Nore
open Go Go.Ab Go.Proofs.Ytdoejdmpmpgmiaa
namespace Nore

theorem held_len {m : SgMooring} (h : BoxOk m.Anchor) (l : List SgLook) : (heldN m l (movesN m.Anchor)).length < 1000000 := by
  have h1 := moves_len h
  have h2 : (heldN m l (movesN m.Anchor)).length ≤ (movesN m.Anchor).length := List.length_filter_le _ _
  omega

end Nore
open Go Go.Ab Go.Proofs.Ytdoejdmpmpgmiaa
namespace Nore

theorem lookE_spec (x : SgLook) : lookE (-1) x = 0 ↔ boxN x.At 9000 16 = 0 ∧ (0 ≤ x.Minute ∧ x.Minute ≤ 100000) ∧ (0 ≤ x.Point ∧ x.Point ≤ 31) ∧ (1 ≤ x.Points ∧ x.Points ≤ 32) := by
  unfold lookE
  by_cases hb : boxN x.At 9000 16 = 0
  · simp only [hb, outN_cons, outN_nil, Bool.or_false, Bool.or_eq_true, decide_eq_true_eq]
    split
    · constructor
      · intro h; simp at h
      · rintro ⟨_, h1, h2, h3⟩; rename_i h; omega
    · rename_i h
      simp only [true_and]
      split
      · constructor
        · intro h; simp at h
        · rintro ⟨h1, h2, h3⟩; rename_i h; omega
      · constructor
        · intro _; omega
        · intro _; trivial
  · constructor
    · intro h
      exfalso
      split at h
      · simp at h
      · split at h
        · rename_i h1 h2; exact hb h2.1
        · exact hb h
    · rintro ⟨h, _⟩; exact absurd h hb

structure Falsed (m : SgMooring) (a : Point) (w : Nat) (n i : Nat) (many : Int) (l : List SgLook) : Prop where
  len : l.length = n
  count : many + ((subF w i (n - i)).length : Int) = ((subF w 0 n).length : Int)
  look : ∀ j, (h : j < l.length) → lookE (-1) l[j] = 0 ∧ l[j].Minute = 10 * (j : Int)
  can : ∀ j, (h : j < l.length) → (w.testBit j = false ∨ i ≤ j) → agreesN m l[j] a = true

end Nore
open Go Go.Ab Go.Proofs.Ytdoejdmpmpgmiaa
namespace Nore

theorem canN_iff (m : SgMooring) (x : SgLook) (a p : Point) : canN m x a p = true ↔ (m.Ring.Lo * m.Ring.Lo ≤ (p.X - a.X) * (p.X - a.X) + (p.Y - a.Y) * (p.Y - a.Y) ∧ (p.X - a.X) * (p.X - a.X) + (p.Y - a.Y) * (p.Y - a.Y) ≤ m.Ring.Hi * m.Ring.Hi) ∧ (x.At.X.Lo ≤ p.X ∧ p.X ≤ x.At.X.Hi) ∧ (x.At.Y.Lo ≤ p.Y ∧ p.Y ≤ x.At.Y.Hi) ∧
    ((p.X - a.X = 0 ∧ p.Y - a.Y = 0) ∨ (Geo.tow (p.X - a.X) (p.Y - a.Y) + 32 - x.Point.toNat) % 32 < x.Points.toNat) := by
  unfold canN inN
  simp only [Bool.and_eq_true, Bool.or_eq_true, decide_eq_true_eq, and_assoc]

theorem checkSg_iff (m : SgMooring) : (checkSg m).2 = 0 ↔ (checkN m.Chart).2.2 = 0 ∧ boxN m.Anchor 9000 16 = 0 ∧ (0 ≤ m.Ring.Lo ∧ m.Ring.Lo ≤ m.Ring.Hi ∧ m.Ring.Hi ≤ 200) ∧ (0 ≤ m.Near ∧ m.Near ≤ 20000) := by
  constructor
  · intro h
    obtain ⟨hr, h1, h2, h3, h4⟩ := checkSg_ok h
    unfold RingOk at hr
    exact ⟨h4, h3, by omega, h2⟩
  · rintro ⟨h1, h2, h3, h4⟩
    unfold checkSg
    have e1 : outN 0 200 [m.Ring.Lo, m.Ring.Hi] = false := by simp only [outN_cons, outN_nil, Bool.or_false, Bool.or_eq_false_iff, decide_eq_false_iff_not]; omega
    have e2 : outN 0 20000 [m.Near] = false := by simp only [outN_cons, outN_nil, Bool.or_false, Bool.or_eq_false_iff, decide_eq_false_iff_not]; omega
    rw [if_neg (by simp [h1]), if_neg (by simp [h2]), e1, e2, if_neg (by simp), if_neg (by omega)]

end Nore
open Go Go.Ab Go.Proofs.Ytdoejdmpmpgmiaa
namespace Nore

def wdS (s : Span) (a b lo hi : Int) : Span := ⟨if s.Lo - a > lo then s.Lo - a else lo, if s.Hi + b < hi then s.Hi + b else hi⟩

theorem law04_wider_eq' (s : Span) (a b lo hi : Int) (h1 : -100000 ≤ s.Lo ∧ s.Lo ≤ 100000) (h2 : -100000 ≤ s.Hi ∧ s.Hi ≤ 100000) (h3 : 0 ≤ a ∧ a ≤ 100000) (h4 : 0 ≤ b ∧ b ≤ 100000) : law04_wider s a b lo hi = some (wdS s a b lo hi) := by
  rw [law04_wider_eq]
  unfold law04_wider_def wdS
  have e1 : IntKind.wrap .i64 (s.Lo - a) = s.Lo - a := by rw [w64] <;> omega
  have e2 : IntKind.wrap .i64 (s.Hi + b) = s.Hi + b := by rw [w64] <;> omega
  rw [e1, e2]
  by_cases c1 : s.Lo - a > lo <;> by_cases c2 : s.Hi + b < hi <;> simp [c1, c2]

theorem wdS_spec (s : Span) (a b lo hi : Int) (h1 : lo ≤ s.Lo) (h2 : s.Hi ≤ hi) (h3 : 0 ≤ a) (h4 : 0 ≤ b) : lo ≤ (wdS s a b lo hi).Lo ∧ (wdS s a b lo hi).Lo ≤ s.Lo ∧ s.Lo - a ≤ (wdS s a b lo hi).Lo ∧ s.Hi ≤ (wdS s a b lo hi).Hi ∧ (wdS s a b lo hi).Hi ≤ hi ∧ (wdS s a b lo hi).Hi ≤ s.Hi + b := by
  unfold wdS
  simp only
  split <;> split <;> omega

structure WiderL (x y : SgLook) : Prop where
  ok : lookE (-1) y = 0
  minute : y.Minute = x.Minute
  point : y.Point = x.Point
  points : x.Points ≤ y.Points
  xlo : y.At.X.Lo ≤ x.At.X.Lo
  xhi : x.At.X.Hi ≤ y.At.X.Hi
  ylo : y.At.Y.Lo ≤ x.At.Y.Lo
  yhi : x.At.Y.Hi ≤ y.At.Y.Hi

def wdL (c more : Int) (x : SgLook) : SgLook :=
  ⟨x.Minute, x.Point, if x.Points + c < 32 then x.Points + c else 32, ⟨wdS x.At.X 0 (if 16 - (x.At.X.Hi - x.At.X.Lo) < more then 16 - (x.At.X.Hi - x.At.X.Lo) else more) (-9000) 9000, wdS x.At.Y (if 16 - (x.At.Y.Hi - x.At.Y.Lo) < more then 16 - (x.At.Y.Hi - x.At.Y.Lo) else more) 0 (-9000) 9000⟩⟩

theorem wdL_ok (c more : Int) (hc : 0 ≤ c ∧ c ≤ 3) (hm : 0 ≤ more ∧ more ≤ 4) (x : SgLook) (h : lookE (-1) x = 0) : WiderL x (wdL c more x) := by
  have hx := (lookE_spec x).1 h
  obtain ⟨hb, h1, h2, h3⟩ := hx
  have hs := boxOk_spec hb
  obtain ⟨gx, hgx⟩ : ∃ g, g = (if 16 - (x.At.X.Hi - x.At.X.Lo) < more then 16 - (x.At.X.Hi - x.At.X.Lo) else more) := ⟨_, rfl⟩
  obtain ⟨gy, hgy⟩ : ∃ g, g = (if 16 - (x.At.Y.Hi - x.At.Y.Lo) < more then 16 - (x.At.Y.Hi - x.At.Y.Lo) else more) := ⟨_, rfl⟩
  have bx : 0 ≤ gx ∧ gx ≤ 16 - (x.At.X.Hi - x.At.X.Lo) := by rw [hgx]; split <;> omega
  have bY : 0 ≤ gy ∧ gy ≤ 16 - (x.At.Y.Hi - x.At.Y.Lo) := by rw [hgy]; split <;> omega
  have sx := wdS_spec x.At.X 0 gx (-9000) 9000 (by omega) (by omega) (by omega) (by omega)
  have sy := wdS_spec x.At.Y gy 0 (-9000) 9000 (by omega) (by omega) (by omega) (by omega)
  have e : wdL c more x = ⟨x.Minute, x.Point, if x.Points + c < 32 then x.Points + c else 32, ⟨wdS x.At.X 0 gx (-9000) 9000, wdS x.At.Y gy 0 (-9000) 9000⟩⟩ := by rw [hgx, hgy]; rfl
  rw [e]
  generalize wdS x.At.X 0 gx (-9000) 9000 = X at *
  generalize wdS x.At.Y gy 0 (-9000) 9000 = Y at *
  have hp : x.Points ≤ (if x.Points + c < 32 then x.Points + c else 32) ∧ (if x.Points + c < 32 then x.Points + c else 32) ≤ 32 := by split <;> omega
  generalize (if x.Points + c < 32 then x.Points + c else 32) = P at *
  refine ⟨?_, rfl, rfl, hp.1, by simp only; omega, by simp only; omega, by simp only; omega, by simp only; omega⟩
  rw [lookE_spec]
  refine ⟨?_, h1, h2, by simp only; omega⟩
  unfold boxN
  rw [if_neg, if_neg]
  · simp only [outN_cons, outN_nil, Bool.or_false, Bool.or_eq_true, decide_eq_true_eq]; omega
  · simp only [outN_cons, outN_nil, Bool.or_false, Bool.or_eq_true, decide_eq_true_eq]; omega

theorem wider_loop (l : List SgLook) (y : Nat → Int) (hy : ∀ j, j < 4 → 0 ≤ y j ∧ y j ≤ 255) (hl : l.length ≤ 8) (hg : ∀ x, x ∈ l → lookE (-1) x = 0) :
    law04_SwingWider_L0_run l y (0, []) = some (l.map (wdL (Int.tmod (y 2) 4) (Int.tmod (y 3) 5))) := by
  unfold law04_SwingWider_L0_run
  have h2 := hy 2 (by omega)
  have h3 := hy 3 (by omega)
  have c4 := tmod_bd (y 2) 4 h2.1 (by omega)
  have c5 := tmod_bd (y 3) 5 h3.1 (by omega)
  have w2 : IntKind.wrap .i64 (y 2) = y 2 := by rw [w64] <;> omega
  have w3 : IntKind.wrap .i64 (y 3) = y 3 := by rw [w64] <;> omega
  have key := run_loop0 (law04_SwingWider_L0_st l y) l.length (fun i (b : List SgLook) => ((i : Int), b)) (fun i b => b.length ≤ i) (fun i b => some (b ++ (l.drop i).map (wdL (Int.tmod (y 2) 4) (Int.tmod (y 3) 5))))
    (by
      intro b _ R
      simp [law04_SwingWider_L0_st, law04_SwingWider_L0_step])
    (by
      intro i b hi hP R hR
      have hx := hg _ (List.getElem_mem hi)
      have hfin := hR (b ++ [wdL (Int.tmod (y 2) 4) (Int.tmod (y 3) 5) l[i]]) (by simp; omega)
      simp only [law04_SwingWider_L0_st, law04_SwingWider_L0_step, show Int.toNat 2 = 2 from rfl, show Int.toNat 3 = 3 from rfl]
      rw [Int.toNat_natCast, getD_lt _ _ _ hi, inc_w i (by omega), w2, w3]
      rw [List.drop_eq_getElem_cons hi, List.map_cons]
      generalize l[i] = x at *
      generalize Int.tmod (y 2) 4 = c at *
      generalize Int.tmod (y 3) 5 = more at *
      obtain ⟨hb, _, hp, hq⟩ := (lookE_spec x).1 hx
      have hs := boxOk_spec hb
      have e1 : IntKind.wrap .i64 (x.At.X.Hi - x.At.X.Lo) = x.At.X.Hi - x.At.X.Lo := by rw [w64] <;> omega
      have e2 : IntKind.wrap .i64 (x.At.Y.Hi - x.At.Y.Lo) = x.At.Y.Hi - x.At.Y.Lo := by rw [w64] <;> omega
      have e3 : IntKind.wrap .i64 (16 - (x.At.X.Hi - x.At.X.Lo)) = 16 - (x.At.X.Hi - x.At.X.Lo) := by rw [w64] <;> omega
      have e4 : IntKind.wrap .i64 (16 - (x.At.Y.Hi - x.At.Y.Lo)) = 16 - (x.At.Y.Hi - x.At.Y.Lo) := by rw [w64] <;> omega
      have e5 : IntKind.wrap .i64 (x.Points + c) = x.Points + c := by rw [w64] <;> omega
      rw [e1, e2, e3, e4, e5]
      have d1 : decide ((i : Int) < ↑l.length) = true := by simp [hi]
      have d2 : decide ((0 : Int) ≤ ↑i) = true := by simp
      have b1 : ∀ z : SgLook, Nat.ble ((b.length + [z].length) * (56 + 1)) 200000000000000 = true := fun z => by rw [Nat.ble_eq]; simp; omega
      have f1 : (bif decide (16 - (x.At.X.Hi - x.At.X.Lo) < more) then 16 - (x.At.X.Hi - x.At.X.Lo) else more) = (if 16 - (x.At.X.Hi - x.At.X.Lo) < more then 16 - (x.At.X.Hi - x.At.X.Lo) else more) := by
        by_cases h : 16 - (x.At.X.Hi - x.At.X.Lo) < more <;> simp [h]
      have f2 : (bif decide (16 - (x.At.Y.Hi - x.At.Y.Lo) < more) then 16 - (x.At.Y.Hi - x.At.Y.Lo) else more) = (if 16 - (x.At.Y.Hi - x.At.Y.Lo) < more then 16 - (x.At.Y.Hi - x.At.Y.Lo) else more) := by
        by_cases h : 16 - (x.At.Y.Hi - x.At.Y.Lo) < more <;> simp [h]
      have f3 : (bif decide (x.Points + c < 32) then x.Points + c else 32) = (if x.Points + c < 32 then x.Points + c else 32) := by
        by_cases h : x.Points + c < 32 <;> simp [h]
      rw [f1, f2, f3]
      have g1 : 0 ≤ (if 16 - (x.At.X.Hi - x.At.X.Lo) < more then 16 - (x.At.X.Hi - x.At.X.Lo) else more) ∧ (if 16 - (x.At.X.Hi - x.At.X.Lo) < more then 16 - (x.At.X.Hi - x.At.X.Lo) else more) ≤ 16 := by split <;> omega
      have g2 : 0 ≤ (if 16 - (x.At.Y.Hi - x.At.Y.Lo) < more then 16 - (x.At.Y.Hi - x.At.Y.Lo) else more) ∧ (if 16 - (x.At.Y.Hi - x.At.Y.Lo) < more then 16 - (x.At.Y.Hi - x.At.Y.Lo) else more) ≤ 16 := by split <;> omega
      rw [law04_wider_eq' _ _ _ _ _ (by omega) (by omega) (by omega) (by omega), law04_wider_eq' _ _ _ _ _ (by omega) (by omega) (by omega) (by omega)]
      simp only [d1, d2, b1, Bool.and_self, cond_true, Option.bind_some, Sum.elim_inl]
      rw [List.append_assoc] at hfin
      exact hfin)
  have := key 0 [] (by omega) (by simp)
  simpa using this

theorem sq_le {a b : Int} (h0 : 0 ≤ a) (h : a ≤ b) : a * a ≤ b * b := Int.mul_le_mul h h h0 (Int.le_trans h0 h)

theorem wider_can {m : SgMooring} {x y : SgLook} (h : WiderL x y) (s : Span) (h0 : 0 ≤ s.Lo) (h1 : s.Lo ≤ m.Ring.Lo) (h2 : 0 ≤ m.Ring.Hi) (h3 : m.Ring.Hi ≤ s.Hi) (a p : Point) (hc : canN m x a p = true) : canN ⟨m.Chart, m.Anchor, s, m.Near⟩ y a p = true := by
  rw [canN_iff] at hc ⊢
  obtain ⟨c1, c2, c3, c4⟩ := hc
  have q1 := sq_le h0 h1
  have q2 := sq_le h2 h3
  have := h.xlo
  have := h.xhi
  have := h.ylo
  have := h.yhi
  have := h.points
  refine ⟨by simp only; omega, by omega, by omega, ?_⟩
  rw [h.point]
  rcases c4 with c4 | c4
  · exact .inl c4
  · right; omega

theorem wider_l1 (x1 x2 : List Point) (h : ∀ p, p ∈ x1 → p ∈ x2) (h1 : x1.length < 1000000) (h2 : x2.length < 1000000) : law04_SwingWider_L1_run x1 x2 0 = some (.inr ()) := by
  unfold law04_SwingWider_L1_run
  exact run_loop0 (law04_SwingWider_L1_st x1 x2) x1.length (fun i (_ : Unit) => (i : Int)) (fun _ _ => True) (fun _ _ => some (.inr ()))
    (by
      intro b _ R
      simp [law04_SwingWider_L1_st, law04_SwingWider_L1_step])
    (by
      intro i b hi _ R hR
      have hR' := hR () trivial
      simp only [law04_SwingWider_L1_st, law04_SwingWider_L1_step]
      rw [Int.toNat_natCast, getD_lt _ _ _ hi, inc_w i (by omega), law04_has_eq _ _ h2]
      have d1 : decide ((i : Int) < ↑x1.length) = true := by simp [hi]
      have d2 : decide ((0 : Int) ≤ ↑i) = true := by simp
      simp only [d1, d2, Bool.and_self, cond_true, Option.bind_some, h _ (List.getElem_mem hi), decide_true, Bool.not_true, cond_false, Sum.elim_inl]
      exact hR') 0 () (by omega) trivial

theorem SwingWider_true (m : SgMooring) (l : List SgLook) (y : Nat → Int) (hy' : ∀ j, j < 4 → (Lit.int .u8 (y j)).wf = true) : law04_SwingWider m l y = some true := by
  have hy : ∀ j, j < 4 → 0 ≤ y j ∧ y j ≤ 255 := fun j h => u8_of (hy' j h)
  rw [law04_SwingWider_eq]
  unfold law04_SwingWider_def
  rw [law04_good_eq]
  simp only [Option.bind_some]
  by_cases g : (checkLooksN m l).2 = 0
  case neg => simp [g]
  simp only [g, decide_true, Bool.not_true, cond_false, show Int.toNat 0 = 0 from rfl, show Int.toNat 1 = 1 from rfl]
  have ok := checkLooks_ok g
  have hA := ok.anchor
  have hlen := ok.len
  obtain ⟨gm, _, gl, gp⟩ := (good_iff m l).1 g
  have hm := (checkSg_iff m).1 gm
  have y0 := hy 0 (by omega)
  have y1 := hy 1 (by omega)
  have w0 : IntKind.wrap .i64 (y 0) = y 0 := by rw [w64] <;> omega
  have w1 : IntKind.wrap .i64 (y 1) = y 1 := by rw [w64] <;> omega
  rw [w0, w1, law04_wider_eq' _ _ _ _ _ (by omega) (by omega) (by omega) (by omega)]
  simp only [Option.bind_some]
  have hR := wdS_spec m.Ring (y 0) (y 1) 0 200 (by omega) (by omega) (by omega) (by omega)
  generalize wdS m.Ring (y 0) (y 1) 0 200 = s at *
  rw [wider_loop l y hy hlen gl]
  simp only [Option.bind_some]
  have c4 := tmod_bd (y 2) 4 (hy 2 (by omega)).1 (by omega)
  have c5 := tmod_bd (y 3) 5 (hy 3 (by omega)).1 (by omega)
  have hw : ∀ x, x ∈ l → WiderL x (wdL (Int.tmod (y 2) 4) (Int.tmod (y 3) 5) x) := fun x hx => wdL_ok _ _ (by omega) (by omega) x (gl x hx)
  generalize Int.tmod (y 2) 4 = c at *
  generalize Int.tmod (y 3) 5 = more at *
  have g' : (checkLooksN ⟨m.Chart, m.Anchor, s, m.Near⟩ (l.map (wdL c more))).2 = 0 := by
    rw [good_iff]
    refine ⟨?_, by simpa using hlen, fun z hz => ?_, ?_⟩
    · rw [checkSg_iff]
      exact ⟨hm.1, hm.2.1, by simp only; omega, hm.2.2.2⟩
    · obtain ⟨x, hx, rfl⟩ := List.mem_map.1 hz
      exact (hw x hx).ok
    · exact List.Pairwise.map _ (fun a b h => h) gp
  rw [anchors_good g, anchors_good g']
  simp only [Option.bind_some, bne_self_eq_false, cond_false]
  rw [wider_l1]
  · rfl
  · intro a ha
    rw [mem_held] at ha ⊢
    refine ⟨ha.1, fun z hz => ?_⟩
    obtain ⟨x, hx, rfl⟩ := List.mem_map.1 hz
    have h1 := ha.2 x hx
    unfold agreesN at h1 ⊢
    rw [List.any_eq_true] at h1 ⊢
    obtain ⟨p, h2, h3⟩ := h1
    have hW := hw x hx
    refine ⟨p, ?_, wider_can hW s (by omega) (by omega) (by omega) (by omega) a p h3⟩
    rw [mem_movesN] at h2 ⊢
    have := hW.xlo
    have := hW.xhi
    have := hW.ylo
    have := hW.yhi
    omega
  · exact held_len hA _
  · exact held_len (m := ⟨m.Chart, m.Anchor, s, m.Near⟩) hA _

end Nore
