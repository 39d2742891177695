/- Operations, continued: maps and strings. -/
import Derived.Test.YtehofdemanfenaaAb13
import Derived.RangeFuncRecord
namespace Go.Ab
open Go.RowKit

section
variable {P : Program} {E : Env} {w0 : World} {G0 : Gh} {D : DD} {o : Oper} {a : Act} {w : World} {β : Bi} {G : Gh} {h : Nat → Option AObj} {nid : Nat} {ρ : Nat → Option DV}

theorem kept_same {id : Nat} {o o' : AObj} (ho : h id = some o) : Kept β β h (updF h [(id, some o')]) nid := fun i _ hf => by
  refine ⟨?_, rfl, fun _ => rfl⟩
  rw [updF_one]
  by_cases e : i = id
  · subst e; rw [hf] at ho; cases ho
  · rw [if_neg e]; exact hf

/-- An object that is no row of cells turns in its place. -/
theorem turn_obj (hh : HR E w0 G0 D w β G h) {id b : Nat} {o o' : AObj} {ob ob' : Obj} (ho : h id = some o) (hown : Owns β id o b) (hb : w.heap[b]? = some ob) (hnc : ∀ c t f, ob ≠ .cells c t f)
    (hown' : ∀ x, Owns β id o' x → x = b) (hob : ObjR E w0.heap.size (w.putObj b ob') β G id o') : HR E w0 G0 D (w.putObj b ob') β G (updF h [(id, some o')]) := by
  have hlt : b < w.heap.size := (Array.getElem?_eq_some_iff.1 hb).1
  obtain ⟨k1, _, k3⟩ := hh.own id o b ho hown
  refine hh.move (fun x => x = b) id o' (Ext.refl β G) ?_ (fun x hx _ => World.putObj_heap_other hx) (fun _ _ => rfl) (by simp) ?_ ?_ ?_ hob ?_ ?_ (fun _ _ => ⟨rfl, fun _ => rfl⟩)
  · exact hh.below.trans ⟨rfl, rfl, rfl, by simp, fun k hk => World.putObj_heap_other (by omega)⟩
  · rintro x rfl; exact ⟨k1, k3⟩
  · rintro x id' o2 rfl ho2 hb2; exact hh.inj id' id o2 o x ho2 ho hb2 hown
  · rintro x rfl off v hg
    have := hh.agree x off v hg
    unfold World.cell? at this
    rw [hb] at this
    cases ob <;> first | cases this | exact absurd rfl (hnc _ _ _)
  · intro x hx; exact .inl (hown' x hx)
  · intro x hx; rw [hown' x hx]; simpa using hlt

theorem ba_beq (s t : ByteArray) : (s == t) = decide (s = t) := by
  cases s; cases t; rename_i a b
  have : ((⟨a⟩ : ByteArray) == ⟨b⟩) = (a == b) := rfl
  rw [this]
  by_cases h : a = b
  · subst h; simp
  · simp [h]

theorem check_plain {b : Bool} {kt : TypeId} {dd : TypeDesc} {v : Value} (hu : P.underlying kt = some dd) (hd : match dd with | .bool | .int _ | .string => True | _ => False) (d : Nat) : (Instr.checkKey b (d + 1) kt v).run P w = .ok () w := by
  cases dd <;> simp only at hd <;> simp [Instr.checkKey, Go.run_underlying hu]
theorem same_int (n : Nat) (k j : IntKind) (x y : Int) : Instr.sameBits n (.int k x) (.int j y) = (k == j && x == y) := by cases n <;> simp [Instr.sameBits]
theorem same_str (n : Nat) (x y : ByteArray) : Instr.sameBits n (.string x) (.string y) = (x == y) := by cases n <;> simp [Instr.sameBits]
theorem same_bool (n : Nat) (x y : Bool) : Instr.sameBits n (.bool x) (.bool y) = (x == y) := by cases n <;> simp [Instr.sameBits]

def scK : DV → Bool
  | .agg _ => false
  | _ => true

theorem kinds_of_eq : ∀ {zs xs ys : List DV} {r : Bool}, eqCells xs ys = some r → kindsLike zs xs = true → kindsLike zs ys = true
  | [], [], [], _, _, _ => rfl
  | [], [], y :: ys, _, h, _ => by cases y <;> simp [eqCells] at h
  | [], x :: xs, _, _, _, hk => by simp [kindsLike] at hk
  | z :: zs, [], _, _, _, hk => by cases z <;> simp [kindsLike] at hk
  | z :: zs, x :: xs, [], _, h, _ => by cases x <;> simp [eqCells] at h
  | z :: zs, x :: xs, y :: ys, r, h, hk => by
    cases x <;> cases y <;> simp only [eqCells, reduceCtorEq] at h
    · obtain ⟨q, h1, _⟩ := some_bind h
      cases z <;> simp only [kindsLike, Bool.false_eq_true] at hk ⊢
      exact kinds_of_eq h1 hk
    · obtain ⟨hq, h⟩ := bif_some h
      obtain ⟨q, h1, _⟩ := some_bind h
      cases z <;> simp only [kindsLike, Bool.false_eq_true, Bool.and_eq_true] at hk ⊢
      have := eq_of_beq hq
      subst this
      exact ⟨hk.1, kinds_of_eq h1 hk.2⟩
    · obtain ⟨q, h1, _⟩ := some_bind h
      cases z <;> simp only [kindsLike, Bool.false_eq_true] at hk ⊢
      exact kinds_of_eq h1 hk

theorem scal_of_kinds : ∀ {zs xs : List DV}, kindsLike zs xs = true → xs.all scal = true
  | [], [], _ => rfl
  | [], x :: xs, h => by simp [kindsLike] at h
  | z :: zs, [], h => by cases z <;> simp [kindsLike] at h
  | z :: zs, x :: xs, h => by
    cases z <;> cases x <;> simp only [kindsLike, Bool.false_eq_true, Bool.and_eq_true] at h
    · simp [scal, scal_of_kinds h]
    · simp [scal, scal_of_kinds h.2]
    · simp [scal, scal_of_kinds h]

theorem same_cells (n : Nat) : ∀ {xs ys : List DV} {vx vy : List Value}, eqCells xs ys = some true → RepL β G xs vx → RepL β G ys vy → vy.length = vx.length ∧ ((vy.zip vx).all fun p => Instr.sameBits n p.1 p.2) = true
  | [], [], vx, vy, _, hx, hy => by rw [repL_nil] at hx hy; subst hx hy; exact ⟨rfl, rfl⟩
  | [], y :: ys, _, _, h, _, _ => by cases y <;> simp [eqCells] at h
  | x :: xs, [], _, _, h, _, _ => by cases x <;> simp [eqCells] at h
  | x :: xs, y :: ys, vx, vy, h, hx, hy => by
    obtain ⟨u, vx', rfl, hu, hx'⟩ := repL_cons.1 hx
    obtain ⟨u', vy', rfl, hu', hy'⟩ := repL_cons.1 hy
    cases x <;> cases y <;> simp only [eqCells, reduceCtorEq] at h
    · obtain ⟨q, h1, h2⟩ := some_bind h
      simp only [Option.some.injEq, Bool.and_eq_true] at h2
      rw [h2.2] at h1
      obtain ⟨k1, k2⟩ := same_cells n h1 hx' hy'
      rw [rep_bool] at hu hu'; subst hu hu'
      have := eq_of_beq h2.1
      subst this
      exact ⟨by simp [k1], by simp only [List.zip_cons_cons, List.all_cons, k2, same_bool, beq_self_eq_true, Bool.and_self]⟩
    · obtain ⟨hq, h⟩ := bif_some h
      obtain ⟨q, h1, h2⟩ := some_bind h
      simp only [Option.some.injEq, Bool.and_eq_true] at h2
      rw [h2.2] at h1
      obtain ⟨k1, k2⟩ := same_cells n h1 hx' hy'
      rw [rep_int] at hu hu'; subst hu hu'
      have := eq_of_beq h2.1
      have := eq_of_beq hq
      subst_vars
      exact ⟨by simp [k1], by simp only [List.zip_cons_cons, List.all_cons, k2, same_int, beq_self_eq_true, Bool.and_self]⟩
    · obtain ⟨q, h1, h2⟩ := some_bind h
      simp only [Option.some.injEq, Bool.and_eq_true] at h2
      rw [h2.2] at h1
      obtain ⟨k1, k2⟩ := same_cells n h1 hx' hy'
      rw [rep_str] at hu hu'; subst hu hu'
      have h3 := h2.1
      rw [ba_beq] at h3
      have := of_decide_eq_true h3
      subst this
      refine ⟨by simp [k1], ?_⟩
      simp only [List.zip_cons_cons, List.all_cons, k2, same_str, ba_beq, decide_true, Bool.and_self]

theorem keyEq_sound {kt : TypeId} {ki : TI} (hk : TyOk P kt ki) {k k' : DV} {v v' : Value} {r : Bool} (hf : keyFits ki k = true) (hd : keyEq k k' = some r) (hr : Rep β G k v) (hr' : Rep β G k' v') :
    ∃ dd, P.underlying kt = some dd ∧ (scK k = true → Instr.sameNow dd v v' = some r) ∧ (scK k = false → Instr.sameNow dd v v' = none ∧ ∀ w, (Op.equal kt v v').run P w = .ok r w) ∧ (r = true → Instr.sameBits 10000 v' v = true) := by
  have hdesc := hk.desc
  cases k with
  | int kk n =>
    cases hkk : ki.k <;> rw [hkk] at hdesc <;> simp [keyFits, hkk] at hf
    cases k' with
    | int kk' n' =>
      rw [rep_int] at hr hr'; subst hr hr'
      simp only [keyEq] at hd
      have hq := (bif_some hd).1
      replace hd := (bif_some hd).2
      have hq : kk = kk' := by simpa using hq
      subst hq
      simp only [Option.some.injEq] at hd
      subst hd
      refine ⟨_, hdesc, fun _ => by simp [Instr.sameNow], fun h => (by cases h), fun h => ?_⟩
      have : n = n' := by simpa using h
      subst this
      rw [same_int]; simp
    | _ => cases hd
  | str s =>
    cases hkk : ki.k <;> rw [hkk] at hdesc <;> simp [keyFits, hkk] at hf
    cases k' with
    | str s' =>
      rw [rep_str] at hr hr'; subst hr hr'
      simp only [keyEq, Option.some.injEq] at hd
      subst hd
      refine ⟨_, hdesc, fun _ => by simp [Instr.sameNow], fun h => (by cases h), fun h => ?_⟩
      rw [ba_beq] at h
      have : s = s' := by simpa using h
      subst this
      rw [same_str, ba_beq]; simp
    | _ => cases hd
  | bool b =>
    cases hkk : ki.k <;> rw [hkk] at hdesc <;> simp [keyFits, hkk] at hf
    cases k' with
    | bool b' =>
      rw [rep_bool] at hr hr'; subst hr hr'
      simp only [keyEq, Option.some.injEq] at hd
      subst hd
      refine ⟨_, hdesc, fun _ => by simp [Instr.sameNow], fun h => (by cases h), fun h => ?_⟩
      have : b = b' := by simpa using h
      subst this
      rw [same_bool]; simp
    | _ => cases hd
  | agg cs =>
    cases hkk : ki.k <;> rw [hkk] at hdesc <;> simp [keyFits, hkk] at hf
    cases k' with
    | agg cs' =>
      obtain ⟨vx, rfl, hx⟩ := rep_agg.1 hr
      obtain ⟨vy, rfl, hy⟩ := rep_agg.1 hr'
      simp only [keyEq] at hd
      obtain ⟨fields, hu, _⟩ := hdesc
      refine ⟨_, hu, fun h => (by cases h), fun _ => ⟨rfl, fun w => (hk.eqr hf.1.1).1 cs cs' r hd hf.2 (kinds_of_eq hd hf.2) β G vx vy w hx hy⟩, fun h => ?_⟩
      subst h
      obtain ⟨k1, k2⟩ := same_cells (β := β) (G := G) 9999 hd hx hy
      show (vy.toArray.size == vx.toArray.size && (vy.toArray.toList.zip vx.toArray.toList).all fun (x, y) => Instr.sameBits 9999 x y) = true
      simp only [List.size_toArray, k1, beq_self_eq_true, Bool.true_and]
      exact k2
    | _ => cases hd
  | _ => cases hkk : ki.k <;> simp [keyFits, hkk] at hf

theorem key_desc {kt : TypeId} {ki : TI} (hk : TyOk P kt ki) {k : DV} {v : Value} (hf : keyFits ki k = true) (hr : Rep β G k v) : ∃ dd, P.underlying kt = some dd ∧ (∀ b w, (Instr.checkKey b 10000 kt v).run P w = .ok () w) ∧ (scK k = false → ∃ fs, dd = .struct fs) := by
  have hdesc := hk.desc
  cases hkk : ki.k <;> rw [hkk] at hdesc <;> cases k <;> simp [keyFits, hkk] at hf
  · rw [rep_bool] at hr; subst hr; exact ⟨_, hdesc, fun b w => check_plain hdesc trivial 9999, fun h => by cases h⟩
  · rw [rep_int] at hr; subst hr; exact ⟨_, hdesc, fun b w => check_plain hdesc trivial 9999, fun h => by cases h⟩
  · rw [rep_str] at hr; subst hr; exact ⟨_, hdesc, fun b w => check_plain hdesc trivial 9999, fun h => by cases h⟩
  · obtain ⟨vx, rfl, hx⟩ := rep_agg.1 hr
    obtain ⟨fields, hu, _⟩ := hdesc
    exact ⟨_, hu, fun b w => hk.key hf.1.2 _ hf.2 b β G vx w hx, fun _ => ⟨_, rfl⟩⟩

theorem fits_ok {ki : TI} {k : DV} (hf : keyFits ki k = true) : keyOk k = true := by
  cases hkk : ki.k <;> cases k <;> simp [keyFits, hkk] at hf <;> first | rfl | skip
  exact scal_of_kinds hf.2

/-- What is found of a key. -/
def FN (P : Program) (kt : TypeId) (dd : TypeDesc) (sc : Bool) (v : Value) (ms : List MapEntry) (i : Nat) (r : Option (Nat × Value)) : Prop :=
  (sc = true → Instr.findNow dd v ms i = some r) ∧ (sc = false → (∀ w, (Instr.findAsking kt v ms i).run P w = .ok r w) ∧ (Instr.findNow dd v ms i = none ∨ (ms = [] ∧ r = none)))

theorem FN.run {kt : TypeId} {dd : TypeDesc} {sc : Bool} {v : Value} {ms : List MapEntry} {r : Option (Nat × Value)} (h : FN P kt dd sc v ms 0 r) (hu : P.underlying kt = some dd) (w : World) : (Instr.findKey kt v ms).run P w = .ok r w := by
  cases sc with
  | true => simp [Instr.findKey, Go.run_underlying hu, h.1 rfl]
  | false =>
    obtain ⟨h1, h2⟩ := h.2 rfl
    rcases h2 with h2 | ⟨rfl, rfl⟩
    · simp [Instr.findKey, Go.run_underlying hu, h2, h1]
    · simp [Instr.findKey, Go.run_underlying hu, Instr.findNow]

theorem FN.nil {kt : TypeId} {dd : TypeDesc} {sc : Bool} {v : Value} {i : Nat} : FN P kt dd sc v [] i none :=
  ⟨fun _ => rfl, fun _ => ⟨fun w => rfl, .inr ⟨rfl, rfl⟩⟩⟩

theorem FN.hit {kt : TypeId} {dd : TypeDesc} {sc : Bool} {v : Value} {m : MapEntry} {ms : List MapEntry} {i : Nat} (h1 : sc = true → Instr.sameNow dd v m.key = some true) (h2 : sc = false → Instr.sameNow dd v m.key = none ∧ ∀ w, (Op.equal kt v m.key).run P w = .ok true w) : FN P kt dd sc v (m :: ms) i (some (i, m.val)) :=
  ⟨fun h => by simp [Instr.findNow, h1 h], fun h => ⟨fun w => by simp [Instr.findAsking, (h2 h).2], .inl (by simp [Instr.findNow, (h2 h).1])⟩⟩

theorem FN.miss {kt : TypeId} {dd : TypeDesc} {sc : Bool} {v : Value} {m : MapEntry} {ms : List MapEntry} {i : Nat} {r : Option (Nat × Value)} (h1 : sc = true → Instr.sameNow dd v m.key = some false) (h2 : sc = false → Instr.sameNow dd v m.key = none ∧ ∀ w, (Op.equal kt v m.key).run P w = .ok false w) (h : FN P kt dd sc v ms (i + 1) r) : FN P kt dd sc v (m :: ms) i r :=
  ⟨fun hs => by simp [Instr.findNow, h1 hs, h.1 hs], fun hs => ⟨fun w => by simp [Instr.findAsking, (h2 hs).2, (h.2 hs).1], .inl (by simp [Instr.findNow, (h2 hs).1])⟩⟩

theorem find_sound {kt : TypeId} {ki : TI} (hk : TyOk P kt ki) {k : DV} {v : Value} (hf : keyFits ki k = true) (hr : Rep β G k v) {dd : TypeDesc} (hdd : P.underlying kt = some dd) :
    ∀ {es : List (DV × DV)} {ms : List MapEntry} {r : Option DV} (i : Nat), MapR β G es ms → mapFind k es = some r →
    ∃ r', FN P kt dd (scK k) v ms i r' ∧ ((r = none ∧ r' = none) ∨ ∃ d j u, r = some d ∧ r' = some (i + j, u) ∧ Rep β G d u)
  | [], ms, r, i, hm, hd => by
    simp only [MapR] at hm; subst hm
    simp only [mapFind, Option.some.injEq] at hd; subst hd
    exact ⟨none, FN.nil, .inl ⟨rfl, rfl⟩⟩
  | (k', d') :: es, ms, r, i, ⟨m, ms', hms, h2, h3, h4, h5, h6⟩, hd => by
    subst hms
    simp only [mapFind] at hd
    obtain ⟨b, hb, hd⟩ := some_bind hd
    obtain ⟨dd', h7, h8, h9, _⟩ := keyEq_sound hk hf hb hr h2
    rw [hdd] at h7; cases h7
    cases b with
    | true =>
      cases hd
      exact ⟨_, FN.hit h8 h9, .inr ⟨d', 0, m.val, rfl, rfl, h3⟩⟩
    | false =>
      obtain ⟨r', h10, h11⟩ := find_sound hk hf hr hdd (i + 1) h6 hd
      refine ⟨r', FN.miss h8 h9 h10, ?_⟩
      rcases h11 with h11 | ⟨d, j, u, e1, e2, e3⟩
      · exact .inl h11
      · exact .inr ⟨d, j + 1, u, e1, by rw [e2]; congr 2; omega, e3⟩

theorem lookup_sound (hE : ∀ t ti, E.ty t = some ti → TyOk P t ti) (hh : HR E w0 G0 D w β G h) {t kt e : TypeId} {ti ei ki : TI} (hti : TyOk P t ti) (hkk : ti.k = .map kt e) (hei : TyOk P e ei) (hki : TyOk P kt ki)
    {m k : DV} {um uk : Value} (hk : Rep β G k uk) (hf : keyFits ki k = true) {es : List (DV × DV)}
    (hes : (match m with | .nilmap => some [] | .map id => (h id).bind (fun | .map es => some es | _ => none) | _ => none) = some es) {r : Option DV} (hr : mapFind k es = some r) {z : DV} (hz : ei.zero = [z]) (hsz : ei.size = 1) (hna : ei.isAgg = false)
    (ok : Bool) (hm : Rep β G m um) : ∃ v, (Instr.lookup t um uk ok).run P w = .ok v w ∧ Rep β G (match r with | some d => (bif ok then .tup [d, .bool true] else d) | none => (bif ok then .tup [z, .bool false] else z)) v := by
  have hdesc := hti.desc
  rw [hkk] at hdesc
  obtain ⟨dd, hdd, hck, _⟩ := key_desc (β := β) (G := G) hki hf hk
  obtain ⟨i, zv, hi, _, _, hzv, _⟩ := hei.info
  have hzrep : Rep β G z zv := hei.zr hna z hz i zv hi hzv β G
  have hzrun : (zeroValue e).run P w = .ok zv w := by simp [zeroValue, typeInfo, hi, hzv]
  have fin : ∀ {r' : Option (Nat × Value)}, ((r = none ∧ r' = none) ∨ ∃ d j u, r = some d ∧ r' = some (0 + j, u) ∧ Rep β G d u) →
      Rep β G (match r with | some d => (bif ok then .tup [d, .bool true] else d) | none => (bif ok then .tup [z, .bool false] else z))
        (match r' with | some (_, v) => (if ok then Value.tuple #[v, .bool true] else v) | none => (if ok then Value.tuple #[zv, .bool false] else zv)) := by
    rintro r' (⟨rfl, rfl⟩ | ⟨d, j, u, rfl, rfl, e3⟩)
    · cases ok
      · exact hzrep
      · exact rep_tup.2 ⟨[zv, .bool false], rfl, repL_cons.2 ⟨_, _, rfl, hzrep, repL_cons.2 ⟨_, _, rfl, rep_bool.2 rfl, repL_nil.2 rfl⟩⟩⟩
    · cases ok
      · exact e3
      · exact rep_tup.2 ⟨[u, .bool true], rfl, repL_cons.2 ⟨_, _, rfl, e3, repL_cons.2 ⟨_, _, rfl, rep_bool.2 rfl, repL_nil.2 rfl⟩⟩⟩
  cases m with
  | nilmap =>
    cases hes
    rw [rep_nilmap] at hm; subst hm
    cases hr
    have hfind : (Instr.findKey kt uk ([] : List MapEntry)).run P w = .ok none w := by simp [Instr.findKey, Go.run_underlying hdd, Instr.findNow]
    refine ⟨_, ?_, fin (r' := none) (.inl ⟨rfl, rfl⟩)⟩
    simp [Instr.lookup, Go.run_underlying hdesc, hck, hfind, hzrun]
  | map id =>
    obtain ⟨ob, ho, hes⟩ := some_bind hes
    cases ob with
    | map es' =>
      cases hes
      obtain ⟨b, hb, rfl⟩ := rep_map.1 hm
      obtain ⟨b', ms, clock, h1, h2, h3⟩ := hh.obj id _ ho
      rw [hb] at h1; cases h1
      have hget : (getObj b).run P w = .ok (.map ms clock) w := by simp [getObj, Sem.run, h2]
      obtain ⟨r', h4, h5⟩ := find_sound hki hf hk hdd 0 h3 hr
      have hfind : (Instr.findKey kt uk ms.toList).run P w = .ok r' w := h4.run hdd w
      refine ⟨_, ?_, fin h5⟩
      cases r' with
      | none => simp [Instr.lookup, Go.run_underlying hdesc, hget, hck, hfind, hzrun]
      | some jx => simp [Instr.lookup, Go.run_underlying hdesc, hget, hck, hfind]
    | _ => cases hes
  | _ => cases hes

theorem put_sound {kt : TypeId} {ki : TI} (hk : TyOk P kt ki) {k d : DV} {v u : Value} (hf : keyFits ki k = true) (hr : Rep β G k v) (hu : Rep β G d u) (hif : idfree d = true) {dd : TypeDesc} (hdd : P.underlying kt = some dd) :
    ∀ {es es' : List (DV × DV)} {ms : List MapEntry} (i clock : Nat), MapR β G es ms → mapPut k d es = some es' →
    ∃ r', FN P kt dd (scK k) v ms i r' ∧ (∀ j x, r' = some (j, x) → i ≤ j ∧ ∃ m, ms[j - i]? = some m ∧ Instr.sameBits 10000 m.key v = true) ∧
      MapR β G es' (match r' with | some (j, _) => ms.modify (j - i) (fun e => { e with key := v, val := u }) | none => ms ++ [{ key := v, val := u, born := clock }])
  | [], es', ms, i, clock, hm, hd => by
    simp only [MapR] at hm; subst hm
    simp only [mapPut, Option.some.injEq] at hd; subst hd
    have hko : keyOk k = true := fits_ok hf
    exact ⟨none, FN.nil, by simp, ⟨_, [], rfl, hr, hu, hko, hif, rfl⟩⟩
  | (k', d') :: es, es', ms, i, clock, ⟨m, ms', hms, h2, h3, h4, h5, h6⟩, hd => by
    subst hms
    simp only [mapPut] at hd
    obtain ⟨b, hb, hd⟩ := some_bind hd
    obtain ⟨dd', h7, h8, h8', h9⟩ := keyEq_sound hk hf hb hr h2
    rw [hdd] at h7; cases h7
    have hko : keyOk k = true := fits_ok hf
    cases b with
    | true =>
      cases hd
      refine ⟨some (i, m.val), FN.hit h8 h8', fun j x hj => ?_, ?_⟩
      · cases hj
        exact ⟨Nat.le_refl _, m, by simp, h9 rfl⟩
      · simp only [Nat.sub_self, List.modify_zero_cons]
        exact ⟨_, ms', rfl, hr, hu, hko, hif, h6⟩
    | false =>
      obtain ⟨es2, h10, hd⟩ := some_bind hd
      cases hd
      obtain ⟨r', h11, h12, h13⟩ := put_sound hk hf hr hu hif hdd (i + 1) clock h6 h10
      refine ⟨r', FN.miss h8 h8' h11, fun j x hj => ?_, ?_⟩
      · obtain ⟨k1, m1, k2, k3⟩ := h12 j x hj
        exact ⟨by omega, m1, by rw [show j - i = (j - (i + 1)) + 1 by omega]; simpa using k2, k3⟩
      · cases r' with
        | none => exact ⟨m, _, rfl, h2, h3, h4, h5, h13⟩
        | some jx =>
          obtain ⟨j, x⟩ := jx
          obtain ⟨k1, _⟩ := h12 j x rfl
          simp only at h13 ⊢
          rw [show j - i = (j - (i + 1)) + 1 by omega, List.modify_succ_cons]
          exact ⟨m, _, rfl, h2, h3, h4, h5, h13⟩

theorem mapUpdate_sound (hh : HR E w0 G0 D w β G h) {t kt e : TypeId} {ti ki : TI} (hti : TyOk P t ti) (hkk : ti.k = .map kt e) (hki : TyOk P kt ki)
    {id : Nat} {k d : DV} {um uk u : Value} (hm : Rep β G (.map id) um) (hk : Rep β G k uk) (hu : Rep β G d u) (hif : idfree d = true) (hf : keyFits ki k = true) {es es' : List (DV × DV)}
    (ho : h id = some (.map es)) (hp : mapPut k d es = some es') :
    ∃ w', (Instr.mapUpdate t um uk u).run P w = .ok () w' ∧ HR E w0 G0 D w' β G (updF h [(id, some (.map es'))]) ∧ Kept β β h (updF h [(id, some (.map es'))]) nid := by
  have hdesc := hti.desc
  rw [hkk] at hdesc
  obtain ⟨dd, hdd, hck, _⟩ := key_desc (β := β) (G := G) hki hf hk
  obtain ⟨b, hb, rfl⟩ := rep_map.1 hm
  obtain ⟨b', ms, clock, h1, h2, h3⟩ := hh.obj id _ ho
  rw [hb] at h1; cases h1
  obtain ⟨r', h4, h5, h6⟩ := put_sound hki hf hk hu hif hdd 0 clock h3 hp
  have hfind : (Instr.findKey kt uk ms.toList).run P w = .ok r' w := h4.run hdd w
  have hget : (getObj b).run P w = .ok (.map ms clock) w := by simp [getObj, Sem.run, h2]
  have hset : ∀ ob, (setObj b ob).run P w = .ok () (w.putObj b ob) := fun ob => by simp [setObj, Sem.run, h2, World.putObj]
  cases r' with
  | none =>
    refine ⟨w.putObj b (.map (ms.push { key := uk, val := u, born := clock }) (clock + 1)), by simp [Instr.mapUpdate, Go.run_underlying hdesc, hget, hck, hfind, hset], ?_, kept_same ho⟩
    refine turn_obj hh ho hb h2 (by intros; simp) (fun x hx => by rw [show β.blk id = some x from hx] at hb; cases hb; rfl) ?_
    exact ⟨b, _, _, hb, World.putObj_heap_same (Array.getElem?_eq_some_iff.1 h2).1, by simpa using h6⟩
  | some jx =>
    obtain ⟨j, x⟩ := jx
    obtain ⟨_, m1, k2, k3⟩ := h5 j x rfl
    have k2' : ms[j]? = some m1 := by simpa using k2
    refine ⟨w.putObj b (.map (ms.modify j fun e => { e with key := uk, val := u }) clock), by simp [Instr.mapUpdate, Go.run_underlying hdesc, hget, hck, hfind, hset, Instr.keyThatStays, k2', k3], ?_, kept_same ho⟩
    refine turn_obj hh ho hb h2 (by intros; simp) (fun x hx => by rw [show β.blk id = some x from hx] at hb; cases hb; rfl) ?_
    exact ⟨b, _, _, hb, World.putObj_heap_same (Array.getElem?_eq_some_iff.1 h2).1, by simpa using h6⟩

end
end Go.Ab
