/- More fuel, the same answer. No condition. -/
import Derived.Test.YtdoejdmpmpgmiaaTv13
set_option linter.unusedSectionVars false
set_option linter.unusedVariables false
set_option linter.unusedSimpArgs false
set_option linter.unusedSectionVars false
namespace Go.Ab

def LeC (c c' : Nat → List DV → Option DV) : Prop := ∀ g as r, c g as = some r → c' g as = some r
def LeH (c c' : CallH) : Prop := ∀ g as o n r, c g as o n = some r → c' g as o n = some r

section
variable {E : Env} {c c' : Nat → List DV → Option DV} {h h' y y' : CallH} (hc : LeC c c') (hh : LeH h h') (hy : LeH y y')
include hc

theorem stepD_le {nid : Nat} {ρ : Nat → Option DV} {ob : Nat → Option AObj} {op : Op} {r : Option Out} (hd : stepD E c nid ρ ob op = some r) : stepD E c' nid ρ ob op = some r := by
  unfold stepD at hd ⊢
  split at hd
  · exact hd
  · rename_i cl hi
    obtain ⟨tgt, h1, hd⟩ := some_bind hd
    simp only [h1, Option.bind_some]
    cases hp : purT E tgt with
    | false => rw [hp] at hd; exact hd
    | true =>
      rw [hp] at hd
      simp only [cond_true] at hd ⊢
      obtain ⟨q, h2, hd⟩ := some_bind hd
      unfold evCall at h2 ⊢
      obtain ⟨tg, h3, h2⟩ := some_bind h2
      simp only [h3, Option.bind_some]
      split at h2
      · obtain ⟨fs, h4, h2⟩ := some_bind h2
        obtain ⟨x, h5, h2⟩ := some_bind h2
        simp only [h4, Option.bind_some, hc _ _ _ h5]
        cases h2; exact hd
      · cases h2

include hh hy
omit hc in
theorem impure_le {V nt : Nat} {m m' : Mid} {dst : Option Tmp} {tgt : DV × List DV} (hd : evImpure h y V nt m dst tgt = some m') : evImpure h' y' V nt m dst tgt = some m' := by
  unfold evImpure at hd ⊢
  split at hd
  · obtain ⟨x, h1, hd⟩ := some_bind hd
    simp only [hh _ _ _ _ _ h1, Option.bind_some]; exact hd
  · obtain ⟨x, h1, hd⟩ := some_bind hd
    simp only [hy _ _ _ _ _ h1, Option.bind_some]; exact hd
  · cases hd

theorem seq_le {V nt : Nat} {ops : Array Oper} {b : Nat} : ∀ (os : List Oper) (k : Nat) (m mf : Mid), evSeq E c h y V nt ops b k os m = some mf → evSeq E c' h' y' V nt ops b k os m = some mf
  | [], _, _, _, hd => hd
  | o :: os, k, m, mf, hd => by
    simp only [evSeq] at hd ⊢
    obtain ⟨want, h1, hd⟩ := some_bind hd
    simp only [h1, Option.bind_some]
    cases want with
    | false => exact seq_le os _ _ _ hd
    | true =>
      simp only [cond_true] at hd ⊢
      obtain ⟨so, h2, hd⟩ := some_bind hd
      simp only [stepD_le hc h2, Option.bind_some]
      cases so with
      | some r => exact seq_le os _ _ _ hd
      | none =>
        simp only at hd ⊢
        obtain ⟨cl, h3, hd⟩ := some_bind hd
        obtain ⟨tgt, h4, hd⟩ := some_bind hd
        obtain ⟨m1, h5, hd⟩ := some_bind hd
        simp only [h3, h4, Option.bind_some, impure_le hh hy h5]
        exact seq_le os _ _ _ hd

theorem draw_le {V nt : Nat} {ops : Array Oper} {b : Nat} : ∀ (os : List Oper) (k : Nat) (m mf : Mid) (cc : Nat) (ds : List (Nat × Done)), evDraw E c h y V nt ops b k os m cc ds = some mf → evDraw E c' h' y' V nt ops b k os m cc ds = some mf
  | [], _, _, _, _, _, hd => hd
  | o :: os, k, m, mf, cc, ds, hd => by
    simp only [evDraw] at hd ⊢
    obtain ⟨h0, hd⟩ := bif_some hd
    refine (bif_true h0).trans ?_
    obtain ⟨want, h1, hd⟩ := some_bind hd
    simp only [h1, Option.bind_some]
    cases want with
    | false => exact draw_le os _ _ _ _ _ hd
    | true =>
      simp only [cond_true] at hd ⊢
      obtain ⟨so, h2, hd⟩ := some_bind hd
      simp only [stepD_le hc h2, Option.bind_some]
      cases so with
      | some r =>
        simp only at hd ⊢
        obtain ⟨h3, hd⟩ := bif_some hd
        rw [h3]
        exact draw_le os _ _ _ _ _ hd
      | none =>
        simp only at hd ⊢
        obtain ⟨h6, hd⟩ := bif_some hd
        rw [h6]
        simp only [cond_true]
        obtain ⟨cl, h3, hd⟩ := some_bind hd
        obtain ⟨tgt, h4, hd⟩ := some_bind hd
        obtain ⟨m1, h5, hd⟩ := some_bind hd
        simp only [h3, h4, Option.bind_some, impure_le hh hy h5]
        exact draw_le os _ _ _ _ _ hd

theorem region_le {V nt : Nat} {ops : Array Oper} {draw : Bool} {s s' : St} (hd : evRegion E c h y V nt ops draw s = some s') : evRegion E c' h' y' V nt ops draw s = some s' := by
  unfold evRegion at hd ⊢
  obtain ⟨m, h1, h2⟩ := some_bind hd
  clear hd
  cases draw with
  | true =>
    simp only [cond_true] at h1 ⊢
    rw [draw_le hc hh hy _ _ _ _ _ _ h1]; exact h2
  | false =>
    simp only [cond_false] at h1 ⊢
    rw [seq_le hc hh hy _ _ _ _ h1]; exact h2

omit hc hh hy in
theorem iter_le {nrm : St → Option St} {st st' : St → Option (Ex × St)} (hs : ∀ s r, st s = some r → st' s = some r) : ∀ (n n' : Nat) (s : St) (r : Ex × St), n ≤ n' → iter nrm st n s = some r → iter nrm st' n' s = some r
  | 0, _, _, _, _, h => by cases h
  | n + 1, 0, _, _, hle, _ => by omega
  | n + 1, n' + 1, s, r, hle, h => by
    simp only [iter] at h ⊢
    obtain ⟨s1, h1, h⟩ := some_bind h
    obtain ⟨q, h2, h⟩ := some_bind h
    simp only [h1, Option.bind_some, hs _ _ h2]
    obtain ⟨ex, s2⟩ := q
    cases ex with
    | normal => exact iter_le hs n n' s2 r (by omega) h
    | _ => exact h

theorem code_le {rnd : Option Nat} {fid : Nat} {F : FI} {f f' : Nat} (hf : f ≤ f') : ∀ (cd : Code) (bid : Nat) (s : St) (r : Ex × St), evC E rnd fid F c h y f bid cd s = some r → evC E rnd fid F c' h' y' f' bid cd s = some r
  | .skip, _, _, _, hd => hd
  | .label _, _, _, _, hd => hd
  | .ret, _, _, _, hd => hd
  | .exit _, _, _, _, hd => hd
  | .goto _, _, _, _, hd => hd
  | .refuse _, _, _, _, hd => hd
  | .region _ ops dr, bid, s, r, hd => by
    simp only [evC] at hd ⊢
    obtain ⟨s1, h1, hd⟩ := some_bind hd
    rw [region_le hc hh hy h1]; exact hd
  | .seq a b, bid, s, r, hd => by
    simp only [evC] at hd ⊢
    obtain ⟨q, h1, hd⟩ := some_bind hd
    simp only [code_le hf a _ _ _ h1, Option.bind_some]
    obtain ⟨ex, s2⟩ := q
    cases ex with
    | normal => exact code_le hf b _ _ _ hd
    | _ => exact hd
  | .cond x a b, bid, s, r, hd => by
    simp only [evC] at hd ⊢
    cases ho : opnd s.base.get x with
    | none => rw [ho] at hd; cases hd
    | some d =>
      rw [ho] at hd
      cases d <;> simp only [reduceCtorEq] at hd
      rename_i t
      simp only
      cases t with
      | true => exact code_le hf a _ _ _ hd
      | false => exact code_le hf b _ _ _ hd
  | .block id a, bid, s, r, hd => by
    simp only [evC] at hd ⊢
    obtain ⟨q, h1, hd⟩ := some_bind hd
    simp only [code_le hf a _ _ _ h1, Option.bind_some]
    exact hd
  | .loop a, bid, s, r, hd => by
    simp only [evC] at hd ⊢
    obtain ⟨hint, h1, hd⟩ := some_bind hd
    simp only [h1, Option.bind_some]
    exact iter_le (fun s r h => code_le hf a _ s r h) _ _ _ _ hf hd
  | .scope a, bid, s, r, hd => by
    simp only [evC] at hd ⊢
    exact code_le hf a _ _ _ hd
  | .rangeFunc fo ps as bo, bid, s, r, hd => by
    simp only [evC] at hd ⊢
    obtain ⟨h0, hd⟩ := bif_some hd
    rw [h0]
    simp only [cond_true]
    obtain ⟨s1, h1, hd⟩ := some_bind hd
    refine (congrArg (fun z => Option.bind z _) h1).trans ?_
    simp only [Option.bind_some]
    obtain ⟨fv, h2, hd⟩ := some_bind hd
    rw [h2]
    simp only [Option.bind_some]
    split at hd
    · obtain ⟨x, h3, hd⟩ := some_bind hd
      simp only [hh _ _ _ _ _ h3, Option.bind_some]
      exact hd
    · cases hd
end

theorem x_le (E : Env) : ∀ n, LeH (evX E n false) (evX E (n + 1) false) ∧ LeH (evX E n true) (evX E (n + 1) true)
  | 0 => ⟨fun _ _ _ _ _ h => by simp [evX] at h, fun _ _ _ _ _ h => by simp [evX] at h⟩
  | n + 1 => by
    obtain ⟨i1, i2⟩ := x_le E n
    have ic : LeC (fun g as => (evX E n false g as .leaf 0).bind fun x => frz x.2.1.get x.1) (fun g as => (evX E (n + 1) false g as .leaf 0).bind fun x => frz x.2.1.get x.1) := fun g as r h => by
      obtain ⟨x, h1, h2⟩ := some_bind h
      simp only [i1 _ _ _ _ _ h1, Option.bind_some]; exact h2
    constructor
    · intro g as o nx r hd
      rw [evX] at hd ⊢
      obtain ⟨F, h1, hd⟩ := some_bind hd
      obtain ⟨h2, hd⟩ := bif_some hd
      obtain ⟨q, h3, hd⟩ := some_bind hd
      simp only [h1, Option.bind_some, h2, cond_true, code_le ic i1 i2 (Nat.le_succ n) _ _ _ _ h3]
      exact hd
    · intro l as o nx r hd
      rw [evX] at hd ⊢
      split at hd
      · rename_i fid base ps assign body bid ho
        try rw [ho]
        try simp only
        obtain ⟨F, h1, hd⟩ := some_bind hd
        obtain ⟨b, h2, hd⟩ := some_bind hd
        obtain ⟨q, h3, hd⟩ := some_bind hd
        simp only [h1, h2, Option.bind_some, code_le ic i1 i2 (Nat.le_succ n) _ _ _ _ h3]
        split at hd
        · obtain ⟨q2, h4, hd⟩ := some_bind hd
          simp only [code_le ic i1 i2 (Nat.le_succ n) _ _ _ _ h4, Option.bind_some]
          exact hd
        · cases hd
      · cases hd

theorem evF_evt {E : Env} {n f : Nat} {as : List DV} {d : DV} (h : evF E n f as = some d) : Evt fun m => evF E m f as = some d := by
  have step : ∀ m, evF E m f as = some d → evF E (m + 1) f as = some d := fun m hm => by
    unfold evF at hm ⊢
    obtain ⟨x, h1, h2⟩ := some_bind hm
    rw [(x_le E m).1 _ _ _ _ _ h1]; exact h2
  refine ⟨n, fun m hm => ?_⟩
  induction m with
  | zero => have : n = 0 := by omega
            subst this; exact h
  | succ m ih =>
    by_cases e : n = m + 1
    · subst e; exact h
    · exact step m (ih (by omega))

/-- A closed function that was run. -/
theorem closedTrue_ok {S : Nat → Type} {X : TEnv S} {n g : Nat} {F : Option Bool} (hF : F = some true) (h : evF X.E n g [] = some (.bool true)) : FSOk X g ⟨[], [.bool], fun _ => F⟩ := fun xs r hr => by
  have hr' : (some true : Option Bool) = some r := by rw [← hF]; exact hr
  cases hr'
  exact evF_evt h
end Go.Ab
