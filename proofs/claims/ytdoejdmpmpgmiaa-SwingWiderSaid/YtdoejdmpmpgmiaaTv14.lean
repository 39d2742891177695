/- The arguments of a call, which read as data, are plain values. Conditions: the tables are right. -/
import Derived.Test.YtdoejdmpmpgmiaaTv13
import Derived.WalkKit
import Derived.ProofKit
import Derived.OpenShut
import Derived.Below
import Derived.ChangeSame
import Derived.ReadAgain
import Derived.WideShapes
set_option linter.unusedSectionVars false
set_option linter.unusedVariables false
set_option linter.unusedSimpArgs false
namespace Go.Ab
open Go.RowKit
variable {S : Nat → Type}

def dacl (T : TS S) : (ts : List Ty) → Args S ts → List DV
  | [], _ => []
  | t :: ts, x => dcl T t x.1 ++ dacl T ts x.2

/-- What is known of every plain value that was read. -/
def vok (lim : Ty → Nat) (ok : ∀ i, S i → Prop) : (t : Ty) → Val S t → Prop
  | .bool, _ => True
  | .int k, n => (Lit.int k n).wf = true
  | .str, s => s.size ≤ maxLen
  | .sl t, xs => List.length (α := Val S t) xs ≤ lim t ∧ ∀ x : Val S t, List.Mem x xs → vok lim ok t x
  | .arr n t, a => ∀ j, j < n → vok lim ok t (a j)
  | .st i, x => ok i x
def aok (lim : Ty → Nat) (ok : ∀ i, S i → Prop) : (ts : List Ty) → Args S ts → Prop
  | [], _ => True
  | t :: ts, x => vok lim ok t x.1 ∧ aok lim ok ts x.2

/-- The structs by their fields. -/
structure SF (T : TS S) where
  flds : Nat → List Ty
  make : ∀ i, Args S (flds i) → S i
  ok : (Ty → Nat) → ∀ i, S i → Prop
  mk_dl : ∀ i xs, T.dcells i (make i xs) = dacl T (flds i) xs
  mk_ok : ∀ lim i xs, aok lim (ok lim) (flds i) xs → ok lim i (make i xs)

/-- What bounds the slices of data. -/
structure Bounds {H : Type} (P : Program) (code : Nat → Option Ty) (lim : Ty → Nat) (B : Nat → DataW H → Prop) : Prop where
  slice : ∀ t e elems spare c, code e = some c → P.underlying t = some (.slice e) → 0 < P.bytesOf e → B t (.slice elems spare) → elems.length ≤ lim c ∧ ∀ d, d ∈ elems → B e d
  struct : ∀ t fs parts, P.underlying t = some (.struct fs) → B t (.agg parts) → ∀ (j : Nat) f d, fs[j]? = some f → parts[j]? = some d → B f.type d
  array : ∀ t n e parts, P.underlying t = some (.array n e) → B t (.agg parts) → ∀ d, d ∈ parts → B e d

def fieldsB (code : Nat → Option Ty) (sz : Ty → Nat) : Nat → List (Nat × Nat) → List Ty → Option Nat
  | off, [], [] => some off
  | off, (t, o) :: fs, c :: cs => bif Nat.beq o off && decide (code t = some c) then fieldsB code sz (off + sz c) fs cs else none
  | _, _, _ => none

def readB (code : Nat → Option Ty) (ty : Nat → Option TI) (sz : Ty → Nat) (flds : Nat → List Ty) (o : Option TI) (c : Ty) : Bool := match o with
  | none => false
  | some ti => Nat.beq ti.size (sz c) && (match c, ti.k with
    | .bool, .bool => true
    | .int k, .int k' => decide (k = k')
    | .str, .string => true
    | .sl c', .slice e => decide (code e = some c') && (Nat.blt 0 (sz c') && (match ty e with | some te => Nat.blt 0 te.bytes | none => false))
    | .arr n c', .array n' e => Nat.beq n n' && decide (code e = some c')
    | .st i, .struct fs => match fieldsB code sz 0 fs (flds i) with | some z => Nat.beq z ti.size | none => false
    | _, _ => false)

theorem repL_app {β : Bi} {G : Gh} : ∀ {a b : List DV} {x y : List Value}, RepL β G a x → RepL β G b y → RepL β G (a ++ b) (x ++ y)
  | [], b, x, y, h1, h2 => by unfold RepL at h1; subst h1; exact h2
  | d :: a, b, x, y, h1, h2 => by
    unfold RepL at h1
    obtain ⟨v, vs, rfl, h3, h4⟩ := h1
    show RepL β G (d :: (a ++ b)) (v :: (vs ++ y))
    unfold RepL
    exact ⟨v, vs ++ y, rfl, h3, repL_app h4 h2⟩

theorem repL_one {β : Bi} {G : Gh} {d : DV} {v : Value} (h : Rep β G d v) : RepL β G [d] [v] := by
  unfold RepL; exact ⟨v, [], rfl, h, by unfold RepL; rfl⟩

theorem mapM_all {α γ : Type} {f : α → Option γ} {Q : α → γ → Prop} : ∀ {l : List α} {r : List γ}, l.mapM f = some r → (∀ a y, a ∈ l → f a = some y → Q a y) → ∀ a, a ∈ l → ∃ y, f a = some y ∧ Q a y
  | [], _, _, _, a, ha => by simp at ha
  | b :: l, r, h, hq, a, ha => by
    rw [List.mapM_cons] at h
    simp only [Option.bind_eq_bind, Option.bind_eq_some_iff] at h
    obtain ⟨y, hy, ys, hys, _⟩ := h
    rcases List.mem_cons.1 ha with rfl | ha
    · exact ⟨y, hy, hq _ _ (by simp) hy⟩
    · exact mapM_all hys (fun a y h1 h2 => hq a y (List.mem_cons_of_mem _ h1) h2) a ha

theorem choose_list {α ξ : Type} {Q : α → ξ → Prop} : ∀ {l : List α}, (∀ a, a ∈ l → ∃ x, Q a x) → ∃ xs : List ξ, xs.length = l.length ∧ ∀ j (h1 : j < l.length) (h2 : j < xs.length), Q l[j] xs[j]
  | [], _ => ⟨[], rfl, fun j h => by simp at h⟩
  | a :: l, h => by
    obtain ⟨x, hx⟩ := h a (by simp)
    obtain ⟨xs, h1, h2⟩ := choose_list (l := l) (fun b hb => h b (List.mem_cons_of_mem _ hb))
    refine ⟨x :: xs, by simp [h1], fun j h3 h4 => ?_⟩
    cases j with
    | zero => exact hx
    | succ j => exact h2 j (by simpa using h3) (by simpa using h4)

section
variable {H : Type} {enc : TypeId × Value → H} {P : Program} {w : World} {sp : Nat → Bool} {held : Bool} {β : Bi} {G : Gh}

theorem cells_get {a : Addr} {n : Nat} {cs : List Value} (h : w.cells? 0 a n = some cs) : cs.length = n ∧ ∀ i, (hi : i < cs.length) → w.cell? (a.add i) = some cs[i] := by
  unfold World.cells? at h
  rw [if_pos (Nat.zero_le _)] at h
  have gen : ∀ (l : List Nat) (r : List Value), l.mapM (fun i => w.cell? (a.add i)) = some r → r.length = l.length ∧ ∀ j, (h1 : j < l.length) → (h2 : j < r.length) → w.cell? (a.add l[j]) = some r[j] := by
    intro l
    induction l with
    | nil => intro r h; simp at h; subst h; exact ⟨rfl, fun j h => by simp at h⟩
    | cons b l ih =>
      intro r h
      rw [List.mapM_cons] at h
      simp only [Option.bind_eq_bind, Option.bind_eq_some_iff] at h
      obtain ⟨y, hy, ys, hys, hr⟩ := h
      have hr' : y :: ys = r := by simpa using hr
      subst hr'
      obtain ⟨h1, h2⟩ := ih ys hys
      refine ⟨by simp [h1], fun j h3 h4 => ?_⟩
      cases j with
      | zero => exact hy
      | succ j => exact h2 j (by simpa using h3) (by simpa using h4)
  obtain ⟨h1, h2⟩ := gen _ _ h
  rw [List.length_range] at h1
  refine ⟨h1, fun i hi => ?_⟩
  have := h2 i (by rw [List.length_range]; omega) hi
  rwa [List.getElem_range] at this

theorem pub_of (hG : ∀ b o v, w.cell? ⟨b, o, none⟩ = some v → G b o = some v) {b : Nat} : ∀ {ds : List DV} {cs : List Value} {o : Nat}, RepL β G ds cs → (∀ i, (hi : i < cs.length) → w.cell? ⟨b, o + i, none⟩ = some cs[i]) → Pub β G b o ds
  | [], _, _, _, _ => by unfold Pub; trivial
  | d :: ds, cs, o, h, hc => by
    unfold RepL at h
    obtain ⟨v, vs, rfl, h1, h2⟩ := h
    unfold Pub
    refine ⟨⟨v, hG _ _ _ (hc 0 (by simp)), h1⟩, pub_of hG h2 (fun i hi => ?_)⟩
    have := hc (i + 1) (by simpa using hi)
    rw [show o + 1 + i = o + (i + 1) by omega]
    simpa using this

variable {lim : Ty → Nat} {B : Nat → DataW H → Prop} {X : TEnv S} (hX : XOk X) (F : SF X.T) (hE : ∀ t ti, X.E.ty t = some ti → TyOk P t ti)
  (hR : ∀ t c, X.code t = some c → readB X.code X.E.ty (tsz X.T) F.flds (X.E.ty t) c = true)
include hX hE hR

theorem code_cells {t : TypeId} {c : Ty} (hc : X.code t = some c) : P.cellsOf t = tsz X.T c := by
  have h := hR t c hc
  unfold readB at h
  cases ht : X.E.ty t with
  | none => rw [ht] at h; cases h
  | some ti =>
    rw [ht] at h
    simp only [Bool.and_eq_true] at h
    obtain ⟨i, z, h1, h2, _⟩ := (hE t ti ht).info
    unfold Program.cellsOf
    rw [h1]
    show i.size = _
    rw [h2]; exact Nat.eq_of_beq_eq_true h.1

theorem fields_read {fuel : Nat} (ih : ∀ t c cs x, X.code t = some c → B t x.1 → DataW.trod enc P w 0 sp held fuel t cs = some x → ∃ v : Val S c, RepL β G (dcl X.T c v) cs ∧ vok lim (F.ok lim) c v) (cs : List Value) :
    ∀ (fields : List Field) (cts : List Ty) (off en : Nat), fieldsB X.code (tsz X.T) off (fields.map fun f => (f.type, f.offset)) cts = some en →
      (∀ f, f ∈ fields → ∃ x, B f.type x.1 ∧ DataW.trod enc P w 0 sp held fuel f.type ((cs.drop f.offset).take (P.cellsOf f.type)) = some x) → off ≤ en ∧ ∃ v : Args S cts, RepL β G (dacl X.T cts v) ((cs.drop off).take (en - off)) ∧ aok lim (F.ok lim) cts v
  | [], [], off, en, h, _ => by
    simp only [List.map_nil, fieldsB, Option.some.injEq] at h
    subst h
    refine ⟨Nat.le_refl _, (), ?_, trivial⟩
    rw [Nat.sub_self, List.take_zero]
    show RepL β G [] []
    unfold RepL; rfl
  | [], _ :: _, off, en, h, _ => by simp [fieldsB] at h
  | _ :: _, [], off, en, h, _ => by simp [fieldsB] at h
  | f :: fields, c :: cts, off, en, h, hm => by
    simp only [List.map_cons, fieldsB] at h
    cases hb : (Nat.beq f.offset off && decide (X.code f.type = some c)) with
    | false => rw [hb] at h; cases h
    | true =>
      rw [hb, cond_true] at h
      simp only [Bool.and_eq_true, decide_eq_true_eq] at hb
      have ho := Nat.eq_of_beq_eq_true hb.1
      obtain ⟨y, hyB, hy⟩ := hm f (by simp)
      obtain ⟨v, hv, hvk⟩ := ih _ _ _ _ hb.2 hyB hy
      obtain ⟨hle, vs, hvs, hvsk⟩ := fields_read ih cs fields cts (off + tsz X.T c) en h (fun g hg => hm g (List.mem_cons_of_mem _ hg))
      rw [code_cells hX F hE hR hb.2, ho] at hv
      refine ⟨by omega, (v, vs), ?_, hvk, hvsk⟩
      have e : (cs.drop off).take (en - off) = (cs.drop off).take (tsz X.T c) ++ (cs.drop (off + tsz X.T c)).take (en - (off + tsz X.T c)) := by
        rw [show en - off = tsz X.T c + (en - (off + tsz X.T c)) by omega, List.take_add, List.drop_drop]
      rw [e]
      exact repL_app hv hvs

theorem read_ok (hB : Bounds P X.code lim B) (hG : ∀ b o v, w.cell? ⟨b, o, none⟩ = some v → G b o = some v) : ∀ (fuel : Nat) (t : TypeId) (c : Ty) (cs : List Value) (x : DataW H × List MemPlace), X.code t = some c → B t x.1 →
    DataW.trod enc P w 0 sp held fuel t cs = some x → ∃ v : Val S c, RepL β G (dcl X.T c v) cs ∧ vok lim (F.ok lim) c v := by
  intro fuel
  induction fuel with
  | zero => intro t c cs x _ _ h; simp [DataW.trod] at h
  | succ fuel ih =>
    intro t c cs x hc hBx h
    have hr := hR t c hc
    unfold readB at hr
    cases ht : X.E.ty t with
    | none => rw [ht] at hr; cases hr
    | some ti =>
      rw [ht] at hr
      have hT := hE t ti ht
      have hd := hT.desc
      simp only [Bool.and_eq_true] at hr
      obtain ⟨hsz, hk⟩ := hr
      have hcell := code_cells hX F hE hR hc
      cases c with
      | bool =>
        split at hk <;> try (cases hk; done)
        all_goals (rename_i hcc hkk; try cases hcc)
        rw [hkk] at hd
        obtain ⟨b, rfl, _⟩ := DataW.trod_bool hd h
        exact ⟨b, repL_one (by unfold Rep; rfl), trivial⟩
      | int k =>
        split at hk <;> try (cases hk; done)
        all_goals (rename_i hcc hkk; try cases hcc)
        rename_i k'
        have := of_decide_eq_true hk
        subst this
        rw [hkk] at hd
        obtain ⟨n, rfl, _, hw⟩ := DataW.trod_int hd h
        exact ⟨n, repL_one (by unfold Rep; rfl), hw⟩
      | str =>
        split at hk <;> try (cases hk; done)
        all_goals (rename_i hcc hkk; try cases hcc)
        rw [hkk] at hd
        obtain ⟨s, rfl, _, hw⟩ := DataW.trod_string hd h
        exact ⟨s, repL_one (by unfold Rep; rfl), hw⟩
      | sl c' =>
        split at hk <;> try (cases hk; done)
        all_goals (rename_i hcc hkk; try cases hcc)
        rename_i e
        simp only [Bool.and_eq_true, decide_eq_true_eq] at hk
        obtain ⟨hce, hpos, hby⟩ := hk
        have hbytes : 0 < P.bytesOf e := by
          cases hte : X.E.ty e with
          | none => rw [hte] at hby; cases hby
          | some te =>
            rw [hte] at hby
            simp only [Nat.blt, Nat.ble_eq] at hby
            obtain ⟨i, z, q1, _, q2, _⟩ := (hE e te hte).info
            unfold Program.bytesOf
            rw [q1]
            show 0 < i.bytes
            omega
        have hpos : 0 < tsz X.T c' := by simp only [Nat.blt, Nat.ble_eq] at hpos; omega
        have hcel := code_cells hX F hE hR hce
        rw [hkk] at hd
        rcases DataW.trod_slice hd h with ⟨rfl, _⟩ | ⟨a, len, cap, elems, rest, n, hn, rfl, hxe, _, hlc, hmx, hel, hall0, _⟩
        · refine ⟨([] : List (Val S c')), repL_one ?_, ⟨Nat.zero_le _, fun x hx => by cases hx⟩⟩
          show Rep β G (.sl []) _
          unfold Rep
          exact ⟨none, 0, ⟨rfl, Nat.le_refl _⟩, .inl rfl⟩
        · cases hn
          rw [hxe] at hBx
          obtain ⟨hlim, hBe⟩ := hB.slice _ _ _ _ _ hce hd hbytes hBx
          rw [List.length_map, hel] at hlim
          have hall : ∀ i, i ∈ List.range len → ∃ (xv : Val S c') (ecs : List Value), w.cells? 0 (a.add (i * P.cellsOf e)) (P.cellsOf e) = some ecs ∧ RepL β G (dcl X.T c' xv) ecs ∧ vok lim (F.ok lim) c' xv := fun i hi => by
            have hi' : i < len := by simpa using hi
            have hy := hall0 i hi'
            rw [List.getElem?_eq_getElem (by omega)] at hy
            simp only [Option.bind_eq_some_iff] at hy
            obtain ⟨ecs, h1, h2⟩ := hy
            obtain ⟨v, h3, h4⟩ := ih e c' ecs _ hce (hBe _ (List.mem_map.2 ⟨_, List.getElem_mem (by omega), rfl⟩)) h2
            exact ⟨v, ecs, h1, h3, h4⟩
          · obtain ⟨xs, hxl, hxs⟩ := choose_list (l := List.range len) (Q := fun i (xv : Val S c') => ∃ (ecs : List Value), w.cells? 0 (a.add (i * P.cellsOf e)) (P.cellsOf e) = some ecs ∧ RepL β G (dcl X.T c' xv) ecs ∧ vok lim (F.ok lim) c' xv) hall
            rw [List.length_range] at hxl
            have hget : ∀ j, (hj : j < xs.length) → ∃ (ecs : List Value), w.cells? 0 (a.add (j * tsz X.T c')) (tsz X.T c') = some ecs ∧ RepL β G (dcl X.T c' xs[j]) ecs ∧ vok lim (F.ok lim) c' xs[j] := fun j hj => by
              have := hxs j (by rw [List.length_range]; omega) hj
              rw [List.getElem_range, hcel] at this
              exact this
            refine ⟨(xs : List (Val S c')), repL_one ?_, ⟨by omega, fun x hx => ?_⟩⟩
            · show Rep β G (.sl (xs.map (dcl X.T c'))) _
              unfold Rep
              refine ⟨some a, cap, ⟨by rw [List.length_map, hxl], by rw [List.length_map]; omega⟩, ?_⟩
              by_cases hnil : xs = []
              · left; rw [hnil]; rfl
              · right
                have hl0 : 0 < xs.length := List.length_pos_iff.2 hnil
                have hspot : a.spot = none := by
                  obtain ⟨ecs, h1, _, _⟩ := hget 0 hl0
                  obtain ⟨h3, h4⟩ := cells_get h1
                  have := h4 0 (by omega)
                  rw [Nat.zero_mul] at this
                  simp only [Addr.add, if_true] at this
                  unfold World.cell? at this
                  split at this
                  · split at this
                    · cases this
                    · rename_i hs
                      cases hsp : a.spot with
                      | none => rfl
                      | some z => rw [hsp] at hs; exact absurd rfl hs
                  · cases this
                obtain ⟨ab, ao, asp⟩ := a
                simp only at hspot
                subst hspot
                refine ⟨ab, ao, tsz X.T c', rfl, ?_⟩
                have gen : ∀ (n k : Nat), k + n = xs.length → PubE β G ab (tsz X.T c') (ao + k * tsz X.T c') ((xs.drop k).map (dcl X.T c')) := by
                  intro n
                  induction n with
                  | zero =>
                    intro k hk
                    rw [List.drop_eq_nil_of_le (by omega)]
                    simp only [List.map_nil]
                    unfold PubE; trivial
                  | succ n ihn =>
                    intro k hk
                    have hk' : k < xs.length := by omega
                    rw [List.drop_eq_getElem_cons hk']
                    simp only [List.map_cons]
                    unfold PubE
                    obtain ⟨ecs, h1, h2, _⟩ := hget k hk'
                    obtain ⟨h3, h4⟩ := cells_get h1
                    refine ⟨dcl_len hX.t c' _, ⟨plains_free (dcl_plain hX.t c' _), plains_cell (dcl_plain hX.t c' _)⟩, pub_of hG h2 (fun i hi => ?_), ?_⟩
                    · have := h4 i hi
                      have e : (Addr.add (Addr.add ⟨ab, ao, none⟩ (k * tsz X.T c')) i) = ⟨ab, ao + k * tsz X.T c' + i, none⟩ := by
                        simp only [Addr.add]
                        by_cases hz : k * tsz X.T c' = 0
                        · by_cases hi0 : i = 0
                          · simp [hz, hi0]
                          · simp [hz, hi0]
                        · by_cases hi0 : i = 0
                          · simp [hz, hi0]
                          · simp [hz, hi0]
                      rwa [e] at this
                    · have := ihn (k + 1) (by omega)
                      rw [show ao + k * tsz X.T c' + tsz X.T c' = ao + (k + 1) * tsz X.T c' by rw [Nat.succ_mul]; omega]
                      exact this
                have := gen xs.length 0 (by omega)
                rw [Nat.zero_mul, Nat.add_zero, List.drop_zero] at this
                exact this
            · obtain ⟨j, hj, rfl⟩ := List.getElem_of_mem hx
              obtain ⟨_, _, _, h3⟩ := hget j hj
              exact h3
      | arr n c' =>
        split at hk <;> try (cases hk; done)
        all_goals (rename_i hcc hkk; try cases hcc)
        rename_i n' e
        simp only [Bool.and_eq_true, decide_eq_true_eq] at hk
        obtain ⟨hn, hce⟩ := hk
        have hn := Nat.eq_of_beq_eq_true hn
        subst hn
        have hcel := code_cells hX F hE hR hce
        rw [hkk] at hd
        · obtain ⟨xs0, m, hm, hxe, hlen, hxl0, hall0⟩ := DataW.trod_array hd h
          cases hm
          rw [hxe] at hBx
          have hBe := hB.array _ _ _ _ hd hBx
          obtain ⟨xs, hxl, hxs⟩ := choose_list (l := List.range n) (Q := fun i (xv : Val S c') => RepL β G (dcl X.T c' xv) ((cs.drop (i * P.cellsOf e)).take (P.cellsOf e)) ∧ vok lim (F.ok lim) c' xv) (fun i hi => by
            have hi' : i < n := by simpa using hi
            have hy := hall0 i hi'
            rw [List.getElem?_eq_getElem (by omega)] at hy
            exact ih e c' _ _ hce (hBe _ (List.mem_map.2 ⟨_, List.getElem_mem (by omega), rfl⟩)) hy)
          rw [List.length_range] at hxl
          have hget : ∀ j, (hj : j < n) → RepL β G (dcl X.T c' (xs.getD j (tdf X.T c'))) ((cs.drop (j * tsz X.T c')).take (tsz X.T c')) ∧ vok lim (F.ok lim) c' (xs.getD j (tdf X.T c')) := fun j hj => by
            have hj' : j < xs.length := by omega
            have := hxs j (by rw [List.length_range]; omega) hj'
            rw [List.getElem_range, hcel] at this
            have e2 : xs.getD j (tdf X.T c') = xs[j] := by simp [List.getD, hj']
            rw [e2]
            exact this
          refine ⟨(fun j => xs.getD j (tdf X.T c')), ?_, fun j hj => (hget j hj).2⟩
          show RepL β G ((List.range n).flatMap fun j => dcl X.T c' (xs.getD j (tdf X.T c'))) cs
          have gen : ∀ k, k ≤ n → RepL β G ((List.range k).flatMap fun j => dcl X.T c' (xs.getD j (tdf X.T c'))) (cs.take (k * tsz X.T c')) := by
            intro k
            induction k with
            | zero =>
              intro _
              rw [Nat.zero_mul, List.take_zero]
              show RepL β G [] []
              unfold RepL; rfl
            | succ k ihk =>
              intro hk
              rw [List.range_succ, List.flatMap_append, Nat.succ_mul, List.take_add]
              refine repL_app (ihk (by omega)) ?_
              simp only [List.flatMap_cons, List.flatMap_nil, List.append_nil]
              exact (hget k (by omega)).1
          have := gen n (Nat.le_refl _)
          rw [List.take_of_length_le (by rw [hlen, hcell]; exact Nat.le_refl _)] at this
          exact this
      | st i =>
        split at hk <;> try (cases hk; done)
        all_goals (rename_i hcc hkk; try cases hcc)
        rename_i fs
        rw [hkk] at hd
        obtain ⟨fields, hu, hfs, _⟩ := hd
        split at hk
        · rename_i z hz
          have hz2 := Nat.eq_of_beq_eq_true hk
          obtain ⟨xs, m, hm, hxe, hlen, hxl, hall0⟩ := DataW.trod_struct hu h
          cases hm
          rw [hxe] at hBx
          have hBf := hB.struct _ _ _ hu hBx
          rw [← hfs] at hz
          · obtain ⟨_, v, hv, hvk⟩ := fields_read hX F hE hR ih cs _ _ 0 z hz (fun f hf => by
              obtain ⟨j, hj, hfj⟩ := List.getElem_of_mem hf
              have hj' : j < fields.size := by simpa using hj
              have := hall0 j f (by rw [Array.getElem?_eq_getElem hj']; simpa using hfj)
              rw [List.getElem?_eq_getElem (by omega)] at this
              exact ⟨_, hBf j f _ (by rw [Array.getElem?_eq_getElem hj']; simpa using hfj) (by rw [List.getElem?_map, List.getElem?_eq_getElem (by omega)]; rfl), this⟩)
            refine ⟨F.make i v, ?_, F.mk_ok lim i v hvk⟩
            show RepL β G (X.T.dcells i (F.make i v)) cs
            rw [F.mk_dl]
            rw [Nat.sub_zero, List.drop_zero, List.take_of_length_le (by rw [hlen, hcell, hz2, Nat.eq_of_beq_eq_true hsz]; exact Nat.le_refl _)] at hv
            exact hv
        · cases hk

/-- An argument. -/
theorem arg_ok (hB : Bounds P X.code lim B) (hG : ∀ b o v, w.cell? ⟨b, o, none⟩ = some v → G b o = some v) {t : TypeId} {c : Ty} {v : Value} {d : DataW H} {ps : List MemPlace} {r : Reach} {base : Nat} (hc : X.code t = some c) (hok : Value.okWide P w r base t v) (hBd : B t d)
    (h : DataW.Trod enc P w 0 sp held t v d ps) : ∃ x : Val S c, Rep β G (dval X.T c x) v ∧ vok lim (F.ok lim) c x := by
  obtain ⟨fuel, h⟩ := h
  obtain ⟨x, h1, h2⟩ := read_ok (β := β) hX F hE hR hB hG fuel t c _ _ hc hBd h
  refine ⟨x, ?_, h2⟩
  have hr := hR t c hc
  unfold readB at hr
  cases ht : X.E.ty t with
  | none => rw [ht] at hr; cases hr
  | some ti =>
    rw [ht] at hr
    have hd := (hE t ti ht).desc
    simp only [Bool.and_eq_true] at hr
    obtain ⟨_, hk⟩ := hr
    have one : ∀ {d : DV}, (∀ cs, v ≠ .agg cs) → RepL β G [d] v.cells.toList → Rep β G d v := fun {d} hne h => by
      have hcs : v.cells = #[v] := by cases v <;> simp [Value.cells] at hne ⊢
      rw [hcs] at h
      unfold RepL at h
      obtain ⟨u, us, h3, h4, _⟩ := h
      cases h3
      exact h4
    cases c with
    | bool =>
      split at hk <;> try (cases hk; done)
      all_goals (rename_i hcc hkk; try cases hcc)
      rw [hkk] at hd
      obtain ⟨b, rfl⟩ := WideShapes.okWide_bool hd hok
      exact one (fun cs h => by cases h) h1
    | int k =>
      split at hk <;> try (cases hk; done)
      all_goals (rename_i hcc hkk; try cases hcc)
      rw [hkk] at hd
      obtain ⟨n, rfl⟩ := WideShapes.okWide_int hd hok
      exact one (fun cs h => by cases h) h1
    | str =>
      split at hk <;> try (cases hk; done)
      all_goals (rename_i hcc hkk; try cases hcc)
      rw [hkk] at hd
      obtain ⟨s, rfl⟩ := WideShapes.okWide_string hd hok
      exact one (fun cs h => by cases h) h1
    | sl c' =>
      split at hk <;> try (cases hk; done)
      all_goals (rename_i hcc hkk; try cases hcc)
      rw [hkk] at hd
      obtain ⟨a, l, cp, rfl⟩ := WideShapes.okWide_slice hd hok
      exact one (fun cs h => by cases h) h1
    | arr n c' =>
      split at hk <;> try (cases hk; done)
      all_goals (rename_i hcc hkk; try cases hcc)
      rw [hkk] at hd
      simp only [Value.okWide, hd] at hok
      obtain ⟨cs, rfl, _, _⟩ := hok
      show Rep β G (.agg (acl X.T c' n x)) _
      unfold Rep
      exact ⟨cs.toList, by simp, h1⟩
    | st i =>
      split at hk <;> try (cases hk; done)
      all_goals (rename_i hcc hkk; try cases hcc)
      rw [hkk] at hd
      obtain ⟨fields, hu, _⟩ := hd
      obtain ⟨cs, rfl, _⟩ := WideShapes.okWide_struct hu hok
      show Rep β G (.agg (X.T.dcells i x)) _
      unfold Rep
      exact ⟨cs.toList, by simp, h1⟩

/-- All arguments. -/
theorem args_ok (hB : Bounds P X.code lim B) (hG : ∀ b o v, w.cell? ⟨b, o, none⟩ = some v → G b o = some v) {r : Reach} {base : Nat} : ∀ (ts : List TypeId) (cs : List Ty) (vs : List Value) (ds : List (DataW H)) (ps : List MemPlace), ts.map X.code = cs.map some →
    (∀ (j : Nat) t v, ts[j]? = some t → vs[j]? = some v → Value.okWide P w r base t v) → (∀ (j : Nat) t d, ts[j]? = some t → ds[j]? = some d → B t d) → DataW.TrodAll enc P w 0 sp held ts vs ds ps → ∃ x : Args S cs, RepL β G (davals X.T cs x) vs ∧ aok lim (F.ok lim) cs x
  | [], [], [], _, _, _, _, _, _ => ⟨(), by show RepL β G [] []; unfold RepL; rfl, trivial⟩
  | [], [], _ :: _, [], _, _, _, _, h => by cases h
  | [], [], _ :: _, _ :: _, _, _, _, _, h => by cases h
  | [], _ :: _, _, _, _, h, _, _, _ => by simp at h
  | _ :: _, [], _, _, _, h, _, _, _ => by simp at h
  | _ :: _, _ :: _, [], _, _, _, _, _, h => by cases h
  | _ :: _, _ :: _, _ :: _, [], _, _, _, _, h => by cases h
  | t :: ts, c :: cs, v :: vs, d :: ds, ps, hm, hok, hBd, h => by
    obtain ⟨p, q, h1, h2, _⟩ := h
    simp only [List.map_cons, List.cons.injEq] at hm
    obtain ⟨x, hx, hxk⟩ := arg_ok hX F hE hR hB hG hm.1 (hok 0 t v rfl rfl) (hBd 0 t d rfl rfl) h1
    obtain ⟨xs, hxs, hxsk⟩ := args_ok hB hG ts cs vs ds q hm.2 (fun j t v a b => hok (j + 1) t v a b) (fun j t d a b => hBd (j + 1) t d a b) h2
    refine ⟨(x, xs), ?_, hxk, hxsk⟩
    show RepL β G (dval X.T c x :: davals X.T cs xs) (v :: vs)
    unfold RepL
    exact ⟨v, vs, rfl, hx, hxs⟩

end
end Go.Ab
