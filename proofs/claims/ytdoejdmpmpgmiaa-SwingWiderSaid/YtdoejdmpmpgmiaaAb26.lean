/- An operation that knows more answers the same: all operations. -/
import Derived.Test.YtdoejdmpmpgmiaaAb25
set_option linter.unusedSectionVars false
set_option linter.unusedVariables false
set_option linter.unusedSimpArgs false
namespace Go.Ab

section
variable {E : Env} {ρ ρ' : Nat → Option DV} {h h' : Nat → Option AObj} {nid : Nat}

theorem ret_upd {x : Option DV} {r : Out} (hd : x.bind ret = some r) : r.upd = [] := by
  obtain ⟨d, _, h⟩ := some_bind hd
  cases h; rfl

/-- What an operation may update. -/
def Ups (ρ : Nat → Option DV) (nid : Nat) (xs : Array Operand) (r : Out) : Prop := ∀ u ∈ r.upd, u.1 = nid ∨ ∃ x ∈ xs, ∃ d, opnd ρ x = some d ∧ u.1 ∈ idsOf d

theorem ups_nil {xs : Array Operand} {r : Out} (h : r.upd = []) : Ups ρ nid xs r := fun u hu => by rw [h] at hu; cases hu

theorem mono_call {c : Call} {r : Out} (hx : ∀ x ∈ c.operands, OkX ρ ρ' h h' x) (hd : evOp E nid ρ h (.call c) = some r) : evOp E nid ρ' h' (.call c) = some r ∧ Ups ρ nid c.operands r := by
  have hargs : ∀ x ∈ c.args.toList, x ∈ c.operands := fun x hm => by simp [Call.operands]; exact .inr (by simpa using hm)
  simp only [evOp] at hd ⊢
  split at hd
  · split at hd
    · rename_i x t ts hxx _
      obtain ⟨ti, hti, hd⟩ := some_bind hd
      obtain ⟨d, h1, hd⟩ := some_bind hd
      have hm := hargs x (by rw [hxx]; simp)
      obtain ⟨k1, k2⟩ := hx x hm d h1
      obtain ⟨q, h2, h3⟩ := some_bind hd
      rw [hti]; simp only [Option.bind_some]; rw [k1]; simp only [Option.bind_some]; rw [len_mono k2 h2]
      exact ⟨h3, ups_nil (ret_upd hd)⟩
    · cases hd
  · split at hd
    · rename_i s x t t' hxx _
      have hq := (bif_some hd).1
      replace hd := (bif_some hd).2
      rw [hq]
      obtain ⟨ds, h1, hd⟩ := some_bind hd
      obtain ⟨dx, h2, hd⟩ := some_bind hd
      have hms := hargs s (by rw [hxx]; simp)
      obtain ⟨k1, k2⟩ := hx s hms ds h1
      obtain ⟨k3, k4⟩ := hx x (hargs x (by rw [hxx]; simp)) dx h2
      obtain ⟨k5, k6⟩ := append_mono k2 k4 hd
      simp only [cond_true, k1, k3, Option.bind_some]
      refine ⟨k5, fun u hu => ?_⟩
      rcases k6 u hu with e | e
      · exact .inl e
      · exact .inr ⟨s, hms, ds, h1, e⟩
    · cases hd
  · obtain ⟨vs, h1, hd⟩ := some_bind hd
    obtain ⟨k1, _⟩ := opnds_mono (h := h) (h' := h') (fun x hm => hx x (hargs x hm)) h1
    rw [k1]
    refine ⟨hd, ?_⟩
    split at hd
    · exact ups_nil (ret_upd hd)
    · cases hd
  · obtain ⟨vs, h1, hd⟩ := some_bind hd
    obtain ⟨k1, _⟩ := opnds_mono (h := h) (h' := h') (fun x hm => hx x (hargs x hm)) h1
    rw [k1]
    refine ⟨hd, ?_⟩
    split at hd
    · exact ups_nil (ret_upd hd)
    · cases hd
  · cases hd

theorem opt_mono' {x : Option Operand} {d : Option DV} (hx : ∀ y, x = some y → OkX ρ ρ' h h' y) (hd : optOpnd ρ x = some d) : optOpnd ρ' x = some d := by
  cases x with
  | none => exact hd
  | some y =>
    simp only [optOpnd] at hd ⊢
    obtain ⟨v, h1, h2⟩ := some_bind hd
    rw [(hx y rfl v h1).1]; exact h2

theorem mono_op {op : Op} {r : Out} (hx : ∀ x ∈ op.operands, OkX ρ ρ' h h' x) (hd : evOp E nid ρ h op = some r) : evOp E nid ρ' h' op = some r ∧ Ups ρ nid op.operands r := by
  cases op with
  | call c => exact mono_call hx hd
  | move x =>
    simp only [evOp] at hd ⊢
    obtain ⟨d, h1, h2⟩ := some_bind hd
    rw [(hx x (by simp [Op.operands]) d h1).1]
    exact ⟨h2, ups_nil (ret_upd hd)⟩
  | assign x =>
    simp only [evOp] at hd ⊢
    obtain ⟨d, h1, h2⟩ := some_bind hd
    rw [(hx x (by simp [Op.operands]) d h1).1]
    exact ⟨h2, ups_nil (ret_upd hd)⟩
  | pick c x y =>
    simp only [evOp] at hd ⊢
    obtain ⟨d, h1, h2⟩ := some_bind hd
    rw [(hx c (by simp [Op.operands]) d h1).1]
    simp only [Option.bind_some]
    split at h2
    · rename_i b
      cases b
      · obtain ⟨e, h3, h4⟩ := some_bind h2
        simp only [cond_false]
        rw [show opnd ρ' y = some e from (hx y (by simp [Op.operands]) e h3).1]
        exact ⟨h4, ups_nil (ret_upd h2)⟩
      · obtain ⟨e, h3, h4⟩ := some_bind h2
        simp only [cond_true]
        rw [show opnd ρ' x = some e from (hx x (by simp [Op.operands]) e h3).1]
        exact ⟨h4, ups_nil (ret_upd h2)⟩
    · cases h2
  | alloc t =>
    simp only [evOp] at hd ⊢
    refine ⟨hd, ?_⟩
    obtain ⟨ti, _, h2⟩ := some_bind hd
    cases h2
    intro u hu; simp only [List.mem_singleton] at hu; subst hu; exact .inl rfl
  | box t x =>
    simp only [evOp] at hd ⊢
    obtain ⟨d, h1, h2⟩ := some_bind hd
    rw [(hx x (by simp [Op.operands]) d h1).1]
    refine ⟨h2, ?_⟩
    obtain ⟨_, h3⟩ := bif_some h2
    cases h3
    intro u hu; simp only [List.mem_singleton] at hu; subst hu; exact .inl rfl
  | build t ps =>
    simp only [evOp] at hd ⊢
    obtain ⟨ti, hti, h1⟩ := some_bind hd
    obtain ⟨vs, h2, h3⟩ := some_bind h1
    rw [hti]; simp only [Option.bind_some]
    rw [(parts_mono (h := h) (h' := h') (fun x hm => hx x (by simpa [Op.operands] using hm)) h2).1]
    refine ⟨h3, ?_⟩
    split at h3
    · obtain ⟨cs, _, h5⟩ := some_bind h3
      cases h5; exact ups_nil rfl
    · obtain ⟨ei, _, h4⟩ := some_bind h3
      obtain ⟨cs, _, h5⟩ := some_bind h4
      cases h5; exact ups_nil rfl
    · cases h3
  | buildSlice t n ps =>
    simp only [evOp] at hd ⊢
    obtain ⟨ti, hti, h1⟩ := some_bind hd
    rw [hti]; simp only [Option.bind_some]
    cases hk : ti.k with
    | slice e =>
      rw [hk] at h1
      simp only at h1 ⊢
      obtain ⟨ei, hei, h2⟩ := some_bind h1
      obtain ⟨vs, h3, h4⟩ := some_bind h2
      obtain ⟨es, h5, h6⟩ := some_bind h4
      obtain ⟨k1, k2⟩ := parts_mono (h := h) (h' := h') (fun x hm => hx x (by simpa [Op.operands] using hm)) h3
      obtain ⟨k3, k4⟩ := rowsD_mono (fun id hid => (k2 id hid).1) h5
      have k5 := show_mono (fun id hid => (k2 id hid).1) k4
      rw [hei]; simp only [Option.bind_some]; rw [k1]; simp only [Option.bind_some]; rw [k3]; simp only [Option.bind_some]; rw [k5]
      refine ⟨h6, ?_⟩
      obtain ⟨_, h7⟩ := bif_some h6
      cases h7
      intro u hu
      rcases List.mem_cons.1 hu with rfl | hu
      · exact .inl rfl
      · obtain ⟨_, x, m1, d, m2, m3⟩ := k2 u.1 (rows_idss _ _ (showRows_mem _ u hu))
        exact .inr ⟨x, by simpa [Op.operands] using m1, d, m2, m3⟩
    | _ => rw [hk] at h1; cases h1
  | load t x =>
    simp only [evOp] at hd ⊢
    obtain ⟨ti, hti, h1⟩ := some_bind hd
    obtain ⟨d, h2, h3⟩ := some_bind h1
    obtain ⟨v, h4, h5⟩ := some_bind h3
    obtain ⟨k1, k2⟩ := hx x (by simp [Op.operands]) d h2
    rw [hti]; simp only [Option.bind_some]; rw [k1]; simp only [Option.bind_some]; rw [load_mono k2 h4]
    exact ⟨h5, ups_nil (ret_upd h3)⟩
  | store t x y =>
    simp only [evOp] at hd ⊢
    obtain ⟨ti, hti, h1⟩ := some_bind hd
    obtain ⟨d, h2, h3⟩ := some_bind h1
    obtain ⟨v, h4, h5⟩ := some_bind h3
    obtain ⟨us, h6, h7⟩ := some_bind h5
    obtain ⟨k1, k2⟩ := hx x (by simp [Op.operands]) d h2
    obtain ⟨k3, _⟩ := hx y (by simp [Op.operands]) v h4
    obtain ⟨k5, k6⟩ := store_mono k2 h6
    rw [hti]; simp only [Option.bind_some]; rw [k1]; simp only [Option.bind_some]; rw [k3]; simp only [Option.bind_some]; rw [k5]
    refine ⟨h7, ?_⟩
    cases h7
    intro u hu
    exact .inr ⟨x, by simp [Op.operands], d, h2, k6 u hu⟩
  | nilCheck x =>
    simp only [evOp] at hd ⊢
    obtain ⟨d, h1, h2⟩ := some_bind hd
    rw [(hx x (by simp [Op.operands]) d h1).1]
    refine ⟨h2, ?_⟩
    split at h2 <;> first | (cases h2; exact ups_nil rfl) | cases h2
  | binOp op t x y z =>
    simp only [evOp] at hd ⊢
    obtain ⟨d, h1, h2⟩ := some_bind hd
    obtain ⟨e, h3, h4⟩ := some_bind h2
    rw [(hx x (by simp [Op.operands]) d h1).1]; simp only [Option.bind_some]; rw [(hx y (by simp [Op.operands]) e h3).1]
    exact ⟨h4, ups_nil (ret_upd h4)⟩
  | unOp op t x =>
    simp only [evOp] at hd ⊢
    obtain ⟨d, h1, h2⟩ := some_bind hd
    rw [(hx x (by simp [Op.operands]) d h1).1]
    exact ⟨h2, ups_nil (ret_upd h2)⟩
  | convert s t x =>
    simp only [evOp] at hd ⊢
    obtain ⟨si, hsi, h0⟩ := some_bind hd
    obtain ⟨ti, hti, h1⟩ := some_bind h0
    obtain ⟨d, h2, h3⟩ := some_bind h1
    rw [hsi]; simp only [Option.bind_some]; rw [hti]; simp only [Option.bind_some]; rw [(hx x (by simp [Op.operands]) d h2).1]
    refine ⟨h3, ?_⟩
    split at h3 <;> first | (cases h3; exact ups_nil rfl) | cases h3
  | makeFunc f x y =>
    simp only [evOp] at hd ⊢
    obtain ⟨d, h1, h2⟩ := some_bind hd
    obtain ⟨e, h3, h4⟩ := some_bind h2
    rw [(opnds_mono (h := h) (h' := h') (fun z hm => hx z (by simp [Op.operands]; exact .inl (by simpa using hm))) h1).1]; simp only [Option.bind_some]
    rw [(opnds_mono (h := h) (h' := h') (fun z hm => hx z (by simp [Op.operands]; exact .inr (by simpa using hm))) h3).1]
    refine ⟨h4, ?_⟩
    cases h4; exact ups_nil rfl
  | makeMap t x =>
    cases x with
    | some x => simp [evOp] at hd
    | none =>
      refine ⟨by simpa only [evOp] using hd, ?_⟩
      simp only [evOp] at hd
      cases hd
      intro u hu; simp only [List.mem_singleton] at hu; subst hu; exact .inl rfl
  | slice t x lo hi mx =>
    cases mx with
    | some m => simp [evOp] at hd
    | none =>
      simp only [evOp] at hd ⊢
      obtain ⟨ti, hti, h1⟩ := some_bind hd
      obtain ⟨d, h2, h3⟩ := some_bind h1
      obtain ⟨dl, h4, h5⟩ := some_bind h3
      obtain ⟨dh, h6, h7⟩ := some_bind h5
      obtain ⟨k1, k2⟩ := hx x (by simp [Op.operands]) d h2
      rw [hti]; simp only [Option.bind_some]; rw [k1]; simp only [Option.bind_some]
      rw [opt_mono' (h := h) (h' := h') (fun y hy => hx y (by subst hy; simp [Op.operands])) h4]; simp only [Option.bind_some]
      rw [opt_mono' (h := h) (h' := h') (fun y hy => hx y (by subst hy; simp [Op.operands])) h6]; simp only [Option.bind_some]
      cases hk : ti.k with
      | string =>
        rw [hk] at h7
        cases d with
        | str s => exact ⟨h7, ups_nil (ret_upd h7)⟩
        | _ => cases h7
      | slice e =>
        rw [hk] at h7
        simp only at h7 ⊢
        obtain ⟨ei, hei, h8⟩ := some_bind h7
        obtain ⟨es, h9, h10⟩ := some_bind h8
        have k5 := show_mono (h := h) (h' := h') (ds := [d]) (fun id hid => k2 id (by simpa [idsOfs] using hid)) (elems_known h9)
        simp only [rowsOfs, List.append_nil] at k5
        rw [hei]; simp only [Option.bind_some]; rw [elems_mono k2 h9]; simp only [Option.bind_some]; rw [k5]
        refine ⟨h10, ?_⟩
        obtain ⟨_, h11⟩ := bif_some h10
        obtain ⟨q, _, h12⟩ := some_bind h11
        cases h12
        intro u hu
        exact .inr ⟨x, by simp [Op.operands], d, h2, rows_ids d _ (showRows_mem _ u hu)⟩
      | _ => rw [hk] at h7; cases h7
  | fieldAddr s x f =>
    simp only [evOp] at hd ⊢
    obtain ⟨ti, hti, h1⟩ := some_bind hd
    obtain ⟨d, h2, h3⟩ := some_bind h1
    rw [hti]; simp only [Option.bind_some]; rw [(hx x (by simp [Op.operands]) d h2).1]
    refine ⟨h3, ?_⟩
    split at h3
    · obtain ⟨q, _, h4⟩ := some_bind h3
      obtain ⟨fi, _, h5⟩ := some_bind h4
      obtain ⟨_, h6⟩ := bif_some h5
      exact ups_nil (ret_upd h6)
    · cases h3
  | field s x f =>
    simp only [evOp] at hd ⊢
    obtain ⟨ti, hti, h1⟩ := some_bind hd
    obtain ⟨d, h2, h3⟩ := some_bind h1
    rw [hti]; simp only [Option.bind_some]; rw [(hx x (by simp [Op.operands]) d h2).1]
    refine ⟨h3, ?_⟩
    split at h3
    · obtain ⟨q, _, h4⟩ := some_bind h3
      obtain ⟨fi, _, h5⟩ := some_bind h4
      exact ups_nil (ret_upd h5)
    · cases h3
  | indexAddr t x i =>
    simp only [evOp] at hd ⊢
    obtain ⟨ti, hti, h1⟩ := some_bind hd
    obtain ⟨d, h2, h3⟩ := some_bind h1
    obtain ⟨di, h4, h5⟩ := some_bind h3
    obtain ⟨k1, k2⟩ := hx x (by simp [Op.operands]) d h2
    rw [hti]; simp only [Option.bind_some]; rw [k1]; simp only [Option.bind_some]; rw [(hx i (by simp [Op.operands]) di h4).1]; simp only [Option.bind_some]
    cases hk : ti.k with
    | array len e =>
      rw [hk] at h5
      refine ⟨h5, ?_⟩
      obtain ⟨ei, _, h6⟩ := some_bind h5
      obtain ⟨j, _, h7⟩ := some_bind h6
      exact ups_nil (ret_upd h7)
    | slice e =>
      rw [hk] at h5
      simp only at h5 ⊢
      obtain ⟨ei, hei, h6⟩ := some_bind h5
      rw [hei]; simp only [Option.bind_some]
      cases d with
      | sl es =>
        refine ⟨h6, ?_⟩
        obtain ⟨j, _, h7⟩ := some_bind h6
        obtain ⟨c, _, h8⟩ := some_bind h7
        obtain ⟨_, h9⟩ := bif_some h8
        cases h9; exact ups_nil rfl
      | rs id v =>
        simp only at h6 ⊢
        obtain ⟨o, ho, h7⟩ := some_bind h6
        rw [k2 id (by simp [idsOf]) o ho]
        refine ⟨h7, ?_⟩
        split at h7
        · obtain ⟨j, _, h8⟩ := some_bind h7
          obtain ⟨_, h9⟩ := bif_some h8
          cases h9; exact ups_nil rfl
        · cases h7
      | _ => cases h6
    | _ => rw [hk] at h5; cases h5
  | index t x i =>
    simp only [evOp] at hd ⊢
    obtain ⟨ti, hti, h1⟩ := some_bind hd
    obtain ⟨d, h2, h3⟩ := some_bind h1
    obtain ⟨di, h4, h5⟩ := some_bind h3
    rw [hti]; simp only [Option.bind_some]; rw [(hx x (by simp [Op.operands]) d h2).1]; simp only [Option.bind_some]; rw [(hx i (by simp [Op.operands]) di h4).1]
    refine ⟨h5, ?_⟩
    split at h5
    · obtain ⟨ei, _, h6⟩ := some_bind h5
      obtain ⟨j, _, h7⟩ := some_bind h6
      exact ups_nil (ret_upd h7)
    · obtain ⟨j, _, h7⟩ := some_bind h5
      obtain ⟨c, _, h8⟩ := some_bind h7
      cases h8; exact ups_nil rfl
    · cases h5
  | lookup t m k ok =>
    simp only [evOp] at hd ⊢
    obtain ⟨ti, hti, h1⟩ := some_bind hd
    obtain ⟨dm, h2, h3⟩ := some_bind h1
    obtain ⟨dk, h4, h5⟩ := some_bind h3
    obtain ⟨k1, k2⟩ := hx m (by simp [Op.operands]) dm h2
    rw [hti]; simp only [Option.bind_some]; rw [k1]; simp only [Option.bind_some]; rw [(hx k (by simp [Op.operands]) dk h4).1]; simp only [Option.bind_some]
    cases hk : ti.k with
    | map kt e =>
      rw [hk] at h5
      simp only at h5 ⊢
      obtain ⟨ei, hei, h6⟩ := some_bind h5
      obtain ⟨ki, hki, h7⟩ := some_bind h6
      obtain ⟨hq, h8⟩ := bif_some h7
      obtain ⟨es, h9, h10⟩ := some_bind h8
      rw [hei]; simp only [Option.bind_some]; rw [hki]; simp only [Option.bind_some]; rw [hq]; simp only [cond_true]
      have k3 : ∀ (z : Option (List (DV × DV))), z = some es → (z.bind fun es => (mapFind dk es).bind fun r => match r, ei.zero with
          | some v, _ => ret (bif ok then .tup [v, .bool true] else v)
          | none, z :: _ => ret (bif ok then .tup [z, .bool false] else z)
          | _, _ => none) = some r := fun z hz => by rw [hz]; exact h10
      refine ⟨k3 _ ?_, ?_⟩
      · cases dm with
        | nilmap => exact h9
        | map id =>
          simp only at h9 ⊢
          obtain ⟨o, ho, h11⟩ := some_bind h9
          rw [k2 id (by simp [idsOf]) o ho]; exact h11
        | _ => cases h9
      · obtain ⟨q, _, h12⟩ := some_bind h10
        split at h12 <;> first | (cases h12; exact ups_nil rfl) | cases h12
    | _ => rw [hk] at h5; cases h5
  | mapUpdate t m k x =>
    simp only [evOp] at hd ⊢
    obtain ⟨ti, hti, h1⟩ := some_bind hd
    obtain ⟨dm, h2, h3⟩ := some_bind h1
    obtain ⟨dk, h4, h5⟩ := some_bind h3
    obtain ⟨dx, h6, h7⟩ := some_bind h5
    obtain ⟨k1, k2⟩ := hx m (by simp [Op.operands]) dm h2
    rw [hti]; simp only [Option.bind_some]; rw [k1]; simp only [Option.bind_some]; rw [(hx k (by simp [Op.operands]) dk h4).1]; simp only [Option.bind_some]; rw [(hx x (by simp [Op.operands]) dx h6).1]; simp only [Option.bind_some]
    cases hk : ti.k with
    | map kt e =>
      rw [hk] at h7
      cases dm with
      | map id =>
        simp only at h7 ⊢
        obtain ⟨ki, hki, h8⟩ := some_bind h7
        obtain ⟨o, ho, h9⟩ := some_bind h8
        rw [hki]; simp only [Option.bind_some]; rw [k2 id (by simp [idsOf]) o ho]
        refine ⟨h9, ?_⟩
        split at h9
        · obtain ⟨_, h10⟩ := bif_some h9
          obtain ⟨es, _, h11⟩ := some_bind h10
          cases h11
          intro u hu
          simp only [List.mem_singleton] at hu
          subst hu; exact .inr ⟨m, by simp [Op.operands], .map id, h2, by simp [idsOf]⟩
        · cases h9
      | _ => cases h7
    | _ => rw [hk] at h7; cases h7
  | range t x =>
    simp only [evOp] at hd ⊢
    obtain ⟨ti, hti, h1⟩ := some_bind hd
    obtain ⟨d, h2, h3⟩ := some_bind h1
    rw [hti]; simp only [Option.bind_some]; rw [(hx x (by simp [Op.operands]) d h2).1]
    refine ⟨h3, ?_⟩
    split at h3
    · cases h3
      intro u hu; simp only [List.mem_singleton] at hu; subst hu; exact .inl rfl
    · cases h3
  | next it s =>
    cases s with
    | false => simp [evOp] at hd
    | true =>
      simp only [evOp] at hd ⊢
      obtain ⟨d, h1, h2⟩ := some_bind hd
      obtain ⟨k1, k2⟩ := hx it (by simp [Op.operands]) d h1
      rw [k1]; simp only [Option.bind_some]
      cases d with
      | iter id =>
        simp only at h2 ⊢
        obtain ⟨o, ho, h3⟩ := some_bind h2
        rw [k2 id (by simp [idsOf]) o ho]
        refine ⟨h3, ?_⟩
        split at h3
        · rename_i s pos
          by_cases hp : pos < s.size
          · simp only [hp, decide_true, cond_true] at h3
            cases h3
            intro u hu
            simp only [List.mem_singleton] at hu
            subst hu; exact .inr ⟨it, by simp [Op.operands], .iter id, h1, by simp [idsOf]⟩
          · simp only [hp, decide_false, cond_false] at h3
            cases h3; exact ups_nil rfl
        · cases h3
      | _ => cases h2
  | extract t i =>
    simp only [evOp] at hd ⊢
    obtain ⟨d, h1, h2⟩ := some_bind hd
    rw [(hx t (by simp [Op.operands]) d h1).1]
    refine ⟨h2, ?_⟩
    split at h2
    · exact ups_nil (ret_upd h2)
    · cases h2
  | _ => simp [evOp] at hd

theorem ids_app : ∀ (xs ys : List DV) (i : Nat), i ∈ idsOfs (xs ++ ys) ↔ i ∈ idsOfs xs ∨ i ∈ idsOfs ys
  | [], ys, i => by simp [idsOfs]
  | x :: xs, ys, i => by simp [idsOfs, ids_app xs ys i, or_assoc]

theorem target_mono {c : Call} {g : FuncId} {x y as : List DV} (hx : ∀ z ∈ c.operands, OkX ρ ρ' h h' z) (hd : target ρ c = some (.fn (.func g) x y, as)) :
    target ρ' c = some (.fn (.func g) x y, as) ∧ ∀ id, id ∈ idsOfs as → (∀ o, h id = some o → h' id = some o) ∧ ∃ z ∈ c.operands, ∃ d, opnd ρ z = some d ∧ id ∈ idsOf d := by
  unfold target at hd ⊢
  split at hd
  · rename_i f hc
    have hf : f ∈ c.operands := by simp [Call.operands, hc]
    have hargs : ∀ z ∈ c.args.toList, z ∈ c.operands := fun z hm => by simp [Call.operands]; exact .inr (by simpa using hm)
    obtain ⟨d, h1, h2⟩ := some_bind hd
    obtain ⟨k1, k2⟩ := hx f hf d h1
    rw [k1]; simp only [Option.bind_some]
    split at h2
    · rename_i g' first caps
      obtain ⟨as', h3, h4⟩ := some_bind h2
      obtain ⟨k3, k4⟩ := opnds_mono (h := h) (h' := h') (fun z hm => hx z (hargs z hm)) h3
      rw [k3]
      cases h4
      refine ⟨rfl, fun id hid => ?_⟩
      rw [ids_app, ids_app] at hid
      rcases hid with (hid | hid) | hid
      · have : id ∈ idsOf (.fn (.func g) first caps) := by simp only [idsOf, List.mem_append]; exact .inl hid
        exact ⟨k2 id this, f, hf, _, h1, this⟩
      · obtain ⟨m1, z, m2, m3⟩ := k4 id hid
        exact ⟨m1, z, hargs z m2, m3⟩
      · have : id ∈ idsOf (.fn (.func g) first caps) := by simp only [idsOf, List.mem_append]; exact .inr hid
        exact ⟨k2 id this, f, hf, _, h1, this⟩
    · obtain ⟨as', h3, h4⟩ := some_bind h2
      cases h4
    · cases h2
  · cases hd

theorem mono_any {call : Nat → List DV → Option DV} {op : Op} {r : Out} (hx : ∀ x ∈ op.operands, OkX ρ ρ' h h' x) (hd : evAny E call nid ρ h op = some r) : evAny E call nid ρ' h' op = some r ∧ Ups ρ nid op.operands r := by
  unfold evAny at hd ⊢
  split at hd
  · rename_i c hc
    have hop := isCall_some hc
    subst hop
    unfold evCall at hd ⊢
    obtain ⟨tg, h1, h2⟩ := some_bind hd
    split at h2
    · rename_i g x y as
      obtain ⟨fs, h3, h4⟩ := some_bind h2
      obtain ⟨q, h5, h6⟩ := some_bind h4
      cases h6
      have hx' : ∀ z ∈ c.operands, OkX ρ ρ' h h' z := hx
      have ht := h1
      unfold target at ht
      split at ht
      · rename_i f hcal
        have hf : f ∈ c.operands := by simp [Call.operands, hcal]
        obtain ⟨d, e1, e2⟩ := some_bind ht
        obtain ⟨k1, k2⟩ := target_mono hx' h1
        rw [k1]; simp only [Option.bind_some]
        rw [frzs_mono as fs (fun id hid => (k2 id hid).1) h3]; simp only [Option.bind_some]
        rw [h5]; simp only [Option.bind_some]
        rw [show_mono (fun id hid => (k2 id hid).1) (frzs_known as fs h3)]
        refine ⟨rfl, fun u hu => ?_⟩
        obtain ⟨_, z, m1, m2⟩ := k2 u.1 (rows_idss as _ (showRows_mem _ u hu))
        exact .inr ⟨z, m1, m2⟩
      · cases ht
    · cases h2
  · exact mono_op hx hd

end
end Go.Ab
