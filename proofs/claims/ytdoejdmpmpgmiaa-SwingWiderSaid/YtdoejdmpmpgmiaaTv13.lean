/- What functions and loops come to, as plain functions. Conditions: the tables are right (XOk). -/
import Derived.Test.YtdoejdmpmpgmiaaTv12
set_option linter.unusedSectionVars false
set_option linter.unusedVariables false
set_option linter.unusedSimpArgs false
set_option linter.unusedSectionVars false
namespace Go.Ab
variable {S : Nat → Type} {R : Type}

/-- Arguments; results. -/
def Args (S : Nat → Type) : List Ty → Type
  | [] => Unit
  | t :: ts => Val S t × Args S ts
def Ress (S : Nat → Type) : List Ty → Type
  | [] => Unit
  | [t] => Val S t
  | t :: t' :: ts => Val S t × Ress S (t' :: ts)

def avals (T : TS S) : (ts : List Ty) → Args S ts → List (TV S)
  | [], _ => []
  | t :: ts, x => tval T t x.1 :: avals T ts x.2
def davals (T : TS S) : (ts : List Ty) → Args S ts → List DV
  | [], _ => []
  | t :: ts, x => dval T t x.1 :: davals T ts x.2
def adec (T : TS S) : (ts : List Ty) → List (TV S) → Option (Args S ts)
  | [], l => dTn' () l
  | t :: ts, l => match l with
    | [] => none
    | v :: r => (tdecV T t v).bind fun x => (adec T ts r).bind fun y => some (x, y)
 where
  dTn' {α : Type} (x : α) (l : List (TV S)) : Option α := match l with
    | [] => some x
    | _ => none

def rvals (T : TS S) : (ts : List Ty) → Ress S ts → List (TV S)
  | [], _ => []
  | [t], x => [tval T t x]
  | t :: t' :: ts, x => tval T t x.1 :: rvals T (t' :: ts) x.2
def drvals (T : TS S) : (ts : List Ty) → Ress S ts → List DV
  | [], _ => []
  | [t], x => [dval T t x]
  | t :: t' :: ts, x => dval T t x.1 :: drvals T (t' :: ts) x.2
def rdec (T : TS S) : (ts : List Ty) → List (TV S) → Option (Ress S ts)
  | [], l => adec.dTn' () l
  | [t], l => match l with
    | [] => none
    | v :: r => (tdecV T t v).bind fun x => adec.dTn' x r
  | t :: t' :: ts, l => match l with
    | [] => none
    | v :: r => (tdecV T t v).bind fun x => (rdec T (t' :: ts) r).bind fun y => some (x, y)
def unpackT (n : Nat) (v : TV S) : Option (List (TV S)) := bif Nat.beq n 1 then some [v] else match v with
  | .tup vs => some vs
  | _ => none

section
variable {T : TS S} (hT : TOk T)
include hT

theorem avals_dv : ∀ (ts : List Ty) (x : Args S ts), dvl T (avals T ts x) = davals T ts x
  | [], _ => by simp [avals, davals, dvl]
  | t :: ts, x => by simp only [avals, davals, dvl, tval_dval hT, avals_dv ts]
theorem rvals_dv : ∀ (ts : List Ty) (x : Ress S ts), dvl T (rvals T ts x) = drvals T ts x
  | [], _ => by simp [rvals, drvals, dvl]
  | [t], x => by simp only [rvals, drvals, dvl]; exact congrArg (fun z => [z]) (tval_dval hT t x)
  | t :: t' :: ts, x => by simp only [rvals, drvals, dvl, tval_dval hT, rvals_dv (t' :: ts)]

omit hT in
theorem dTn_e' {α : Type} {x y : α} {l : List (TV S)} (h : adec.dTn' x l = some y) : l = [] ∧ x = y := by
  cases l with
  | nil => cases h; exact ⟨rfl, rfl⟩
  | cons => cases h

theorem adec_dv : ∀ {ts : List Ty} {l : List (TV S)} {x : Args S ts}, adec T ts l = some x → dvl T l = davals T ts x
  | [], l, x, h => by
    simp only [adec] at h
    rw [(dTn_e' h).1]; simp [davals, dvl]
  | t :: ts, l, x, h => by
    simp only [adec] at h
    cases l with
    | nil => cases h
    | cons v r =>
      obtain ⟨y, h1, h⟩ := some_bind h
      obtain ⟨z, h2, h⟩ := some_bind h
      cases h
      simp only [dvl, davals, tdecV_dv hT h1, adec_dv h2]
theorem rdec_dv : ∀ {ts : List Ty} {l : List (TV S)} {x : Ress S ts}, rdec T ts l = some x → dvl T l = drvals T ts x
  | [], l, x, h => by
    simp only [rdec] at h
    rw [(dTn_e' h).1]; simp [drvals, dvl]
  | [t], l, x, h => by
    simp only [rdec] at h
    cases l with
    | nil => cases h
    | cons v r =>
      obtain ⟨y, h1, h⟩ := some_bind h
      obtain ⟨h2, h3⟩ := dTn_e' h
      subst h2 h3
      simp only [dvl, drvals, tdecV_dv hT h1]
  | t :: t' :: ts, l, x, h => by
    simp only [rdec] at h
    cases l with
    | nil => cases h
    | cons v r =>
      obtain ⟨y, h1, h⟩ := some_bind h
      obtain ⟨z, h2, h⟩ := some_bind h
      cases h
      simp only [dvl, drvals, tdecV_dv hT h1, rdec_dv h2]
end

/-- What a function comes to. -/
structure F7 (S : Nat → Type) where
  pts : List Ty
  rts : List Ty
  F : Args S pts → Option (Ress S rts)

def FSOk (X : TEnv S) (g : Nat) (fs : F7 S) : Prop := ∀ xs r, fs.F xs = some r → Evt fun n => evF X.E n g (davals X.T fs.pts xs) = some (pack (drvals X.T fs.rts r))

/-- A list of functions, by their numbers. -/
def fsFind : List (Nat × F7 S) → Nat → Option (F7 S)
  | [], _ => none
  | (n, f) :: l, g => bif Nat.beq n g then some f else fsFind l g

def specK (T : TS S) (tab : List (Nat × F7 S)) : Specs S R := fun g as k => (fsFind tab g).bind fun fs => (adec T fs.pts as).bind fun xs => (fs.F xs).bind fun r => k (packT (rvals T fs.rts r))

def TabOk (X : TEnv S) : List (Nat × F7 S) → Prop
  | [] => True
  | (n, f) :: l => FSOk X n f ∧ TabOk X l

theorem tabOk_find {X : TEnv S} : ∀ {l : List (Nat × F7 S)} {g : Nat} {f : F7 S}, TabOk X l → fsFind l g = some f → FSOk X g f
  | [], _, _, _, h => by cases h
  | (n, f') :: l, g, f, ht, h => by
    simp only [fsFind] at h
    cases hb : Nat.beq n g with
    | true => rw [hb] at h; cases h; rw [← Nat.eq_of_beq_eq_true hb]; exact ht.1
    | false => rw [hb] at h; exact tabOk_find ht.2 h

section
variable {X : TEnv S} (hX : XOk X)
include hX

theorem specK_ok {tab : List (Nat × F7 S)} (ht : TabOk X tab) : SpecsOk (R := R) X (specK X.T tab) := fun g as k r h => by
  unfold specK at h
  obtain ⟨fs, h1, h⟩ := some_bind h
  obtain ⟨xs, h2, h⟩ := some_bind h
  obtain ⟨q, h3, h⟩ := some_bind h
  refine ⟨_, (tabOk_find ht h1 xs q h3).mono fun n hn => ?_, h⟩
  rw [adec_dv hX.t h2, hn, ← rvals_dv hX.t, pack_dv]
end

/-- A function's body, run. 'n': how deep calls on the heap may lie. -/
def evFn (X : TEnv S) (tab : List (Nat × F7 S)) (pts rts : List Ty) (ls : Loops S (Ress S rts)) (n g : Nat) (xs : Args S pts) : Option (Ress S rts) :=
  xK X (specK X.T tab) ls n false [] g (avals X.T pts xs) .leaf 0 fun v o _ => (frzT o.get v).bind fun v => (unpackT rts.length v).bind fun l => rdec X.T rts l

theorem unpack_dv {T : TS S} {n : Nat} {v : TV S} {l : List (TV S)} (h : unpackT n v = some l) (hn : l.length = n) : dv T v = pack (dvl T l) := by
  unfold unpackT at h
  cases hb : Nat.beq n 1 with
  | true => rw [hb] at h; cases h; simp [dvl, pack]
  | false =>
    rw [hb] at h
    simp only [cond_false] at h
    split at h
    · cases h
      have : ¬ l.length = 1 := fun e => by rw [← hn, e] at hb; cases hb
      cases l with
      | nil => simp [dv, dvl, pack]
      | cons a vs =>
        cases vs with
        | nil => simp at this
        | cons b vs => simp [dv, dvl, pack]
    · cases h

theorem rdec_len {T : TS S} : ∀ {ts : List Ty} {l : List (TV S)} {x : Ress S ts}, rdec T ts l = some x → l.length = ts.length
  | [], l, x, h => by simp only [rdec] at h; rw [(dTn_e' h).1]; rfl
  | [t], l, x, h => by
    simp only [rdec] at h
    cases l with
    | nil => cases h
    | cons v r =>
      obtain ⟨y, h1, h⟩ := some_bind h
      rw [(dTn_e' h).1]; rfl
  | t :: t' :: ts, l, x, h => by
    simp only [rdec] at h
    cases l with
    | nil => cases h
    | cons v r =>
      obtain ⟨y, h1, h⟩ := some_bind h
      obtain ⟨z, h2, h⟩ := some_bind h
      simp [rdec_len h2]

theorem evFn_ok {X : TEnv S} (hX : XOk X) {tab : List (Nat × F7 S)} (ht : TabOk X tab) {pts rts : List Ty} {ls : Loops S (Ress S rts)} (hls : LoopsOk X ls) (n g : Nat) : FSOk X g ⟨pts, rts, evFn X tab pts rts ls n g⟩ := fun xs r h => by
  obtain ⟨d, h1, h2⟩ := fn_sim hX (specK_ok hX ht) hls h
  obtain ⟨l, h3, h4⟩ := some_bind h2
  refine h1.mono fun m hm => ?_
  rw [avals_dv hX.t] at hm
  rw [hm, unpack_dv h3 (rdec_len h4), rdec_dv hX.t h4]

/-- The same function in other words. -/
theorem fsOk_eq {X : TEnv S} {g : Nat} {pts rts : List Ty} {F F' : Args S pts → Option (Ress S rts)} (h : FSOk X g ⟨pts, rts, F⟩) (e : ∀ xs r, F' xs = some r → F xs = some r) : FSOk X g ⟨pts, rts, F'⟩ := fun xs r hr => h xs r (e xs r hr)

/-! Functions that call themselves -/
def iterF {α β : Type} (t : (α → Option β) → α → Option β) : Nat → α → Option β
  | 0, _ => none
  | n + 1, x => t (iterF t n) x

open Classical in
/-- What the least number of rounds gives. -/
noncomputable def recOf {α β : Type} (t : (α → Option β) → α → Option β) (x : α) : Option β := if h : ∃ n r, iterF t n x = some r then some h.choose_spec.choose else none

theorem recOf_iter {α β : Type} {t : (α → Option β) → α → Option β} {x : α} {r : β} (h : recOf t x = some r) : ∃ n, iterF t n x = some r := by
  unfold recOf at h
  split at h
  · rename_i hx
    cases h
    exact ⟨_, hx.choose_spec.choose_spec⟩
  · cases h

/-- It comes to y, if no number of rounds gives another value, and one gives any. -/
theorem recOf_eq {α β : Type} {t : (α → Option β) → α → Option β} {x : α} {y : β} (h1 : ∀ n r, iterF t n x = some r → r = y) (h2 : ∃ n r, iterF t n x = some r) : recOf t x = some y := by
  unfold recOf
  rw [dif_pos h2, h1 _ _ h2.choose_spec.choose_spec]

theorem rec_ok {X : TEnv S} {g : Nat} {pts rts : List Ty} {t : (Args S pts → Option (Ress S rts)) → Args S pts → Option (Ress S rts)} (h : ∀ ih, FSOk X g ⟨pts, rts, ih⟩ → FSOk X g ⟨pts, rts, t ih⟩) : FSOk X g ⟨pts, rts, recOf t⟩ := fun xs r hr => by
  obtain ⟨n, hn⟩ := recOf_iter hr
  have : ∀ n, FSOk X g ⟨pts, rts, iterF t n⟩ := fun n => by
    induction n with
    | zero => intro xs r h; cases h
    | succ n ih => exact h _ ih
  exact this n xs r hn

/-! Tests of tables -/
def codeB (T : TS S) (ti : Option TI) (c : Ty) : Bool := match ti with
  | some ti => Nat.beq ti.size (tsz T c) && (ti.isAgg == isAggT c)
  | none => true
theorem codeB_ok {T : TS S} {o : Option TI} {ti : TI} {c : Ty} (h : codeB T o c = true) (ho : o = some ti) : ti.size = tsz T c ∧ ti.isAgg = isAggT c := by
  subst ho
  simp only [codeB, Bool.and_eq_true] at h
  exact ⟨Nat.eq_of_beq_eq_true h.1, eq_of_beq h.2⟩

/-- Cells that nothing was written to. -/
def zEq : DV → DV → Bool
  | .bool a, .bool b => a == b
  | .int k a, .int k' b => k == k' && a == b
  | .str a, .str b => a.toList == b.toList
  | .nilp, .nilp | .nils, .nils | .nilfn, .nilfn | .nilmap, .nilmap | .nilif, .nilif => true
  | _, _ => false
def zsEq : List DV → List DV → Bool
  | [], [] => true
  | a :: as, b :: bs => zEq a b && zsEq as bs
  | _, _ => false
theorem zEq_eq {a b : DV} (h : zEq a b = true) : a = b := by
  unfold zEq at h
  split at h <;> first | rfl | (cases h; done) | skip
  · rw [eq_of_beq h]
  · simp only [Bool.and_eq_true] at h
    rw [eq_of_beq h.1, eq_of_beq h.2]
  · have h2 := eq_of_beq h
    rename_i x y
    have e : ∀ z : ByteArray, z = ⟨z.toList.toArray⟩ := fun z => by
      cases z; simp [ByteArray.toList_eq]
    rw [e x, h2, ← e y]
theorem zsEq_eq : ∀ {a b : List DV}, zsEq a b = true → a = b
  | [], [], _ => rfl
  | [], _ :: _, h => by simp [zsEq] at h
  | _ :: _, [], h => by simp [zsEq] at h
  | a :: as, b :: bs, h => by
    simp only [zsEq, Bool.and_eq_true] at h
    rw [zEq_eq h.1, zsEq_eq h.2]
def zeroB (T : TS S) (ti : Option TI) (z : List (TV S)) : Bool := match ti with
  | some ti => zsEq (dvs T z) ti.zero
  | none => true
theorem zeroB_ok {T : TS S} {o : Option TI} {ti : TI} {z : List (TV S)} (h : zeroB T o z = true) (ho : o = some ti) : dvs T z = ti.zero := by
  subst ho
  exact zsEq_eq h

/-! Loops -/
/-- Rounds, one behind the other. -/
inductive Runs {σ ω : Type} (step : σ → Option (σ ⊕ ω)) : σ → ω → Prop
  | done {x : σ} {o : ω} : step x = some (.inr o) → Runs step x o
  | next {x y : σ} {o : ω} : step x = some (.inl y) → Runs step y o → Runs step x o

theorem Runs.det {σ ω : Type} {step : σ → Option (σ ⊕ ω)} {x : σ} {o o' : ω} (h : Runs step x o) : Runs step x o' → o = o' := by
  induction h with
  | done h => intro h'; cases h' with
    | done h' => rw [h] at h'; cases h'; rfl
    | next h' _ => rw [h] at h'; cases h'
  | next h _ ih => intro h'; cases h' with
    | done h' => rw [h] at h'; cases h'
    | next h' h'' => rw [h] at h'; cases h'; exact ih h''

open Classical in
/-- What a loop comes to; none, if it comes to nothing. -/
noncomputable def runOf {σ ω : Type} (step : σ → Option (σ ⊕ ω)) (x : σ) : Option ω := if h : ∃ o, Runs step x o then some h.choose else none

theorem runOf_some {σ ω : Type} {step : σ → Option (σ ⊕ ω)} {x : σ} {o : ω} : runOf step x = some o ↔ Runs step x o := by
  unfold runOf
  constructor
  · intro h
    split at h
    · rename_i hx
      cases h
      exact hx.choose_spec
    · cases h
  · intro h
    have hx : ∃ o, Runs step x o := ⟨o, h⟩
    rw [dif_pos hx, hx.choose_spec.det h]

theorem runOf_step {σ ω : Type} (step : σ → Option (σ ⊕ ω)) (x : σ) : runOf step x = (step x).bind fun | .inl y => runOf step y | .inr o => some o := by
  cases hs : step x with
  | none =>
    simp only [Option.bind_none]
    cases hr : runOf step x with
    | none => rfl
    | some o =>
      cases runOf_some.1 hr with
      | done h => rw [hs] at h; cases h
      | next h _ => rw [hs] at h; cases h
  | some z =>
    cases z with
    | inr o => simp only [Option.bind_some]; exact runOf_some.2 (.done hs)
    | inl y =>
      simp only [Option.bind_some]
      cases hr : runOf step y with
      | some o => exact runOf_some.2 (.next hs (runOf_some.1 hr))
      | none =>
        cases hr' : runOf step x with
        | none => rfl
        | some o =>
          cases runOf_some.1 hr' with
          | done h => rw [hs] at h; cases h
          | next h h' =>
            rw [hs] at h; cases h
            rw [runOf_some.2 h'] at hr; cases hr

/-- A way out of a loop: how, and what the state looks like. -/
structure Way (S : Nat → Type) where
  ex : Ex
  st : StT S
  ts : List LT

/-- A loop: where it stands; its head; its leaves; the ways out. -/
structure LE (S : Nat → Type) where
  key : Key
  head : StT S
  ts : List LT
  outs : List (Way S)

def LE.ots (e : LE S) : List (List LT) := e.outs.map (·.ts)

def kyEq (a b : Key) : Bool := natsEq a.path b.path && Nat.beq a.fid b.fid && (match a.rnd, b.rnd with | none, none => true | some x, some y => Nat.beq x y | _, _ => false) && natsEq a.pos b.pos && Nat.beq a.bid b.bid && Nat.beq a.n0 b.n0

theorem kyEq_eq {a b : Key} (h : kyEq a b = true) : a = b := by
  obtain ⟨a1, a2, a3, a4, a5, a6⟩ := a
  obtain ⟨b1, b2, b3, b4, b5, b6⟩ := b
  simp only [kyEq, Bool.and_eq_true] at h
  obtain ⟨⟨⟨⟨⟨h1, h2⟩, h3⟩, h4⟩, h5⟩, h6⟩ := h
  rw [natsEq_eq h1, Nat.eq_of_beq_eq_true h2, natsEq_eq h4, Nat.eq_of_beq_eq_true h5, Nat.eq_of_beq_eq_true h6]
  cases a3 <;> cases b3 <;> simp only [Bool.false_eq_true] at h3
  · rfl
  · rw [Nat.eq_of_beq_eq_true h3]

/-- The state that a way out leaves. -/
def outK (E : Env) : (ws : List (Way S)) → OutT S (ws.map (·.ts)) → (Ex → StT S → Option R) → Option R
  | [], _, _ => none
  | [w], o, k => (fiSt E w.st (eT w.ts o)).bind fun s => k w.ex s
  | w :: w' :: ws, o, k => match o with
    | .inl y => (fiSt E w.st (eT w.ts y)).bind fun s => k w.ex s
    | .inr o => outK E (w' :: ws) o k

/-- Which way out a state is. -/
def outD : (ws : List (Way S)) → Ex → StT S → Option (OutT S (ws.map (·.ts)))
  | [], _, _ => none
  | [w], ex, s => bif exEq ex w.ex && shSt w.st s then dT w.ts (lvSt s) else none
  | w :: w' :: ws, ex, s => bif exEq ex w.ex && shSt w.st s then (dT w.ts (lvSt s)).bind fun y => some (.inl y) else (outD (w' :: ws) ex s).bind fun o => some (.inr o)

def LE.ls (X : TEnv S) (e : LE S) (run : Tup S e.ts → (OutT S (e.outs.map (·.ts)) → Option R) → Option R) (ls : Loops S R) : Loops S R := fun key s k =>
  bif kyEq e.key key then (bif shSt e.head s then (dT e.ts (lvSt s)).bind fun x => run x fun o => outK X.E e.outs o k else none) else ls key s k

/-- One round, handed on. -/
def bodyK (X : TEnv S) (key : Key) (head : StT S) (ts : List LT) (tab : List (Nat × F7 S)) (ls : Loops S R) (n : Nat) (x : Tup S ts) (kx : Hint → Ex → StT S → Option R) : Option R :=
  (fiSt X.E head (eT ts x)).bind fun s => (X.E.fn key.fid).bind fun F => (Code.sub F.body key.pos).bind fun c => (F.hints.find? fun h => Nat.beq h.bid key.bid).bind fun hint =>
    codeK X (specK X.T tab) ls key.rnd key.fid F (xK X (specK X.T tab) ls n false) (xK X (specK X.T tab) ls n true) key.path key.pos key.bid c s (kx hint)

/-- One round. -/
def LE.step (X : TEnv S) (e : LE S) (tab : List (Nat × F7 S)) (ls : Loops S (Tup S e.ts ⊕ OutT S (e.outs.map (·.ts)))) (n : Nat) (x : Tup S e.ts) : Option (Tup S e.ts ⊕ OutT S (e.outs.map (·.ts))) :=
  bodyK X e.key e.head e.ts tab ls n x fun hint ex s => match ex with
      | .normal => (normT X hint e.key.n0 s).bind fun s => bif shSt e.head s then (dT e.ts (lvSt s)).bind fun y => some (.inl y) else none
      | ex => (outD e.outs ex s).bind fun o => some (.inr o)

theorem outD_ok {E : Env} {s : StT S} {ex : Ex} (hw : WfO E s.objs) : ∀ {ws : List (Way S)} {o : OutT S (ws.map (·.ts))}, outD ws ex s = some o → ∀ k : Ex → StT S → Option R, outK E ws o k = k ex s
  | [], _, h, _ => by simp [outD] at h
  | [w], o, h, k => by
    simp only [outD] at h
    obtain ⟨h1, h2⟩ := bif_some h
    simp only [Bool.and_eq_true] at h1
    simp only [outK]
    rw [dT_e h2, fiSt_sh E hw h1.2, exEq_eq h1.1]; rfl
  | w :: w' :: ws, o, h, k => by
    simp only [outD] at h
    cases hc : exEq ex w.ex && shSt w.st s with
    | true =>
      rw [hc] at h
      obtain ⟨y, h2, h3⟩ := some_bind h
      cases h3
      simp only [Bool.and_eq_true] at hc
      simp only [outK]
      rw [dT_e h2, fiSt_sh E hw hc.2, exEq_eq hc.1]; rfl
    | false =>
      rw [hc] at h
      obtain ⟨y, h2, h3⟩ := some_bind h
      cases h3
      simp only [outK]
      exact outD_ok hw h2 k

theorem outK_wf {E : Env} {k : Ex → StT S → Option R} {r : R} : ∀ {ws : List (Way S)} {o : OutT S (ws.map (·.ts))}, outK E ws o k = some r → ∃ ex s, (∀ (R' : Type) (k' : Ex → StT S → Option R'), outK E ws o k' = k' ex s) ∧ k ex s = some r
  | [], _, h => by simp [outK] at h
  | [w], o, h => by
    simp only [outK] at h
    obtain ⟨s, h1, h⟩ := some_bind h
    exact ⟨w.ex, s, fun R' k' => by simp only [outK]; rw [h1]; rfl, h⟩
  | w :: w' :: ws, .inl y, h => by
    simp only [outK] at h
    obtain ⟨s, h1, h⟩ := some_bind h
    exact ⟨w.ex, s, fun R' k' => by simp only [outK]; rw [h1]; rfl, h⟩
  | w :: w' :: ws, .inr o, h => by
    simp only [outK] at h
    obtain ⟨ex, s, h1, h2⟩ := outK_wf h
    exact ⟨ex, s, fun R' k' => by simp only [outK]; exact h1 R' k', h2⟩

section
variable {X : TEnv S} (hX : XOk X) {tab : List (Nat × F7 S)} (ht : TabOk X tab)
include hX ht

/-- A loop whose rounds are those of 'step' comes to what 'run' says. -/
theorem loop_ok {e : LE S} {ls0 : Loops S (Tup S e.ts ⊕ OutT S (e.outs.map (·.ts)))} (hls0 : LoopsOk X ls0) {n : Nat} {run : Tup S e.ts → (OutT S (e.outs.map (·.ts)) → Option R) → Option R} (hrun : ∀ x k r, run x k = some r → ∃ o, Runs (e.step X tab ls0 n) x o ∧ k o = some r)
    {ls : Loops S R} (hls : LoopsOk X ls) : LoopsOk X (e.ls X run ls) := fun key s k r h hw F c hint hF hc hh => by
  unfold LE.ls at h
  cases hk : kyEq e.key key with
  | false => rw [hk] at h; exact hls key s k r h hw F c hint hF hc hh
  | true =>
    rw [hk] at h
    have hkey := kyEq_eq hk
    subst hkey
    simp only [cond_true] at h
    obtain ⟨h1, h⟩ := bif_some h
    obtain ⟨x, h2, h⟩ := some_bind h
    have hs : fiSt X.E e.head (eT e.ts x) = some s := by rw [dT_e h2]; exact fiSt_sh X.E hw h1
    obtain ⟨o, hR, h⟩ := hrun x _ r h
    have main : ∀ (x : Tup S e.ts) (o : OutT S (e.outs.map (·.ts))), Runs (e.step X tab ls0 n) x o → ∀ s, fiSt X.E e.head (eT e.ts x) = some s → WfO X.E s.objs →
        ∃ ex s', LTo X.E e.key F c hint (dvSt X.T s) ex (dvSt X.T s') ∧ WfO X.E s'.objs ∧ (∀ (R' : Type) (k' : Ex → StT S → Option R'), outK X.E e.outs o k' = k' ex s') := by
      intro x o hr
      induction hr with
      | @done x o hst =>
        intro s hs hw
        unfold LE.step bodyK at hst
        rw [hs, Option.bind_some, hF, Option.bind_some, hc, Option.bind_some, hh, Option.bind_some] at hst
        have hx := x_sim hX (specK_ok hX ht) hls0 n
        obtain ⟨ex, s', ⟨N, h4⟩, h5, h6⟩ := code_sim hX (specK_ok hX ht) hls0 hx.1 hx.2 hF c _ _ s _ _ hst hc hw
        cases ex with
        | normal =>
          simp only at h6
          obtain ⟨_, _, h7⟩ := some_bind h6
          obtain ⟨_, h7⟩ := bif_some h7
          obtain ⟨_, _, h7⟩ := some_bind h7
          cases h7
        | _ =>
          simp only at h6
          obtain ⟨o', h7, h8⟩ := some_bind h6
          cases h8
          refine ⟨_, s', ⟨N, fun m m' hm _ => ?_⟩, h5, fun R' k' => outD_ok h5 h7 k'⟩
          unfold iter1
          rw [h4 m hm]; rfl
      | @next x y o hst _ ih =>
        intro s hs hw
        unfold LE.step bodyK at hst
        rw [hs, Option.bind_some, hF, Option.bind_some, hc, Option.bind_some, hh, Option.bind_some] at hst
        have hx := x_sim hX (specK_ok hX ht) hls0 n
        obtain ⟨ex, s', ⟨N, h4⟩, h5, h6⟩ := code_sim hX (specK_ok hX ht) hls0 hx.1 hx.2 hF c _ _ s _ _ hst hc hw
        cases ex with
        | normal =>
          simp only at h6
          obtain ⟨s2, h7, h8⟩ := some_bind h6
          obtain ⟨h9, h8⟩ := bif_some h8
          obtain ⟨y', h10, h8⟩ := some_bind h8
          cases h8
          obtain ⟨h11, h12⟩ := norm_sim hX h7 h5
          have hs2 : fiSt X.E e.head (eT e.ts y) = some s2 := by rw [dT_e h10]; exact fiSt_sh X.E h12 h9
          obtain ⟨ex3, s3, ⟨N3, h13⟩, h14, h15⟩ := ih s2 hs2 h12
          refine ⟨ex3, s3, ⟨max N N3 + 1, fun m m' hm hm' => ?_⟩, h14, h15⟩
          unfold iter1
          rw [h4 m (by omega)]
          simp only [Option.bind_some]
          cases m' with
          | zero => omega
          | succ m' =>
            simp only [iter]
            rw [h11]
            simp only [Option.bind_some]
            exact h13 m m' (by omega) (by omega)
        | _ =>
          simp only at h6
          obtain ⟨_, _, h7⟩ := some_bind h6
          cases h7
    obtain ⟨ex, s', h4, h5, h6⟩ := main x o hR s hs hw
    refine ⟨ex, s', h4, h5, ?_⟩
    rw [h6] at h; exact h
end

/-! Rounds told by what turns in them alone -/
theorem map_cond {α β : Type} (f : α → β) (c : Bool) (x y : Option α) : Option.map f (bif c then x else y) = bif c then Option.map f x else Option.map f y := by cases c <;> rfl
theorem map_bindO {α β γ : Type} (f : β → γ) (x : Option α) (g : α → Option β) : Option.map f (x.bind g) = x.bind fun a => Option.map f (g a) := by cases x <;> rfl
theorem map_elim {α β γ δ : Type} (f : γ → δ) (l : α → Option γ) (r : β → Option γ) (x : α ⊕ β) : Option.map f (Sum.elim l r x) = Sum.elim (fun a => Option.map f (l a)) (fun b => Option.map f (r b)) x := by cases x <;> rfl

/-- 'st': the rounds of what turns; 'emb', 'embO': the whole again. -/
theorem small_ok {B Ω σ ω : Type} {big : B → Option (B ⊕ Ω)} {st : B → σ → Option (σ ⊕ ω)} {prj : B → σ} {emb : B → σ → B} {embO : B → ω → Ω}
    (h1 : ∀ x, big x = (st x (prj x)).map (Sum.map (emb x) (embO x))) (h2 : ∀ x v, st (emb x v) = st x) (h3 : ∀ x v, prj (emb x v) = v) (h4 : ∀ x v w, emb (emb x v) w = emb x w) (h5 : ∀ x v w, embO (emb x v) w = embO x w) (h6 : ∀ x, emb x (prj x) = x)
    {x : B} {o : ω} (h : Runs (st x) (prj x) o) : Runs big x (embO x o) := by
  have main : ∀ (v : σ) (o : ω), Runs (st x) v o → Runs big (emb x v) (embO x o) := fun v o hr => by
    induction hr with
    | @done v o hs => exact .done (by rw [h1, h2, h3, hs, Option.map_some, Sum.map_inr, h5])
    | @next v w o hs _ ih => exact .next (by rw [h1, h2, h3, hs, Option.map_some, Sum.map_inl, h4]) ih
  have := main _ o h
  rwa [h6] at this

/-- No loops. -/
def noLoops : Loops S R := fun _ _ _ => none
theorem noLoops_ok (X : TEnv S) : LoopsOk X (noLoops (R := R)) := fun _ _ _ _ h => by cases h
end Go.Ab
