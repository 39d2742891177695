/- Operations, continued: interface values, new slices, arrays cut. -/
import Derived.Test.YtehofdemanfenaaAb14
import Derived.Laws.OwnMore
namespace Go.Ab
open Go.RowKit

section
variable {P : Program} {E : Env} {w0 : World} {G0 : Gh} {D : DD} {o : Oper} {a : Act} {w : World} {β : Bi} {G : Gh} {h : Nat → Option AObj} {nid : Nat} {ρ : Nat → Option DV}

theorem rep_iface {t : TypeId} {d : DV} {v : Value} : Rep β G (.iface t d) v ↔ ∃ u, v = .iface t u ∧ Rep β G d u := by conv => lhs; unfold Rep
theorem rep_nilif {v : Value} : Rep β G .nilif v ↔ v = .nilIface := by conv => lhs; unfold Rep

theorem run_askRoom (n : Nat) : (askRoom n).run P w = .ok () w := by unfold askRoom; split <;> rfl

theorem zeroOf_sound {t : TypeId} {ti : TI} (ht : TyOk P t ti) {z : DV} (hz : zeroOf ti = some z) : ∃ zv, (zeroValue t).run P w = .ok zv w ∧ Rep β G z zv := by
  obtain ⟨i, zv, hi, _, _, hzv, hsz, hrep⟩ := ht.info
  refine ⟨zv, by simp [zeroValue, typeInfo, hi, hzv], ?_⟩
  unfold zeroOf at hz
  cases ha : ti.isAgg with
  | true =>
    rw [ha] at hz
    simp only [cond_true, Option.some.injEq] at hz
    subst hz
    obtain ⟨cs, rfl⟩ := ht.za ha i zv hi hzv
    have := hrep β G
    exact rep_agg.2 ⟨cs.toList, by simp, by simpa [Value.cells] using this⟩
  | false =>
    rw [ha] at hz
    simp only [cond_false] at hz
    cases hzz : ti.zero with
    | nil => rw [hzz] at hz; cases hz
    | cons d ds =>
      rw [hzz] at hz
      simp only [List.head?_cons, Option.some.injEq] at hz
      subst hz
      cases ds with
      | nil => exact ht.zr ha d hzz i zv hi hzv β G
      | cons e es =>
        exfalso
        have h1 := repL_len (hrep β G)
        rw [hzz] at h1
        have hna : ∀ cs, zv ≠ .agg cs := fun cs hc => by
          subst hc
          have := ht.zn ha
          rw [hzz] at this
          simp at this
        have : zv.cells = #[zv] := by
          cases zv <;> first | rfl | exact absurd rfl (hna _)
        rw [this] at h1
        simp at h1

theorem und_iface {t : TypeId} {ti : TI} (ht : TyOk P t ti) (hk : ti.k ≠ .iface) : ∃ d, P.underlying t = some d ∧ ∀ ms, d ≠ .interface ms := by
  have hd := ht.desc
  cases hkk : ti.k <;> rw [hkk] at hd <;> simp only at hd
  all_goals first
    | exact ⟨_, hd, fun _ h => by cases h⟩
    | (obtain ⟨f, hd, _⟩ := hd; exact ⟨_, hd, fun _ h => by cases h⟩)
    | (obtain ⟨a, b, c, hd⟩ := hd; exact ⟨_, hd, fun _ h => by cases h⟩)
    | (exact absurd hkk hk)

theorem makeIface_sound {t : TypeId} {ti : TI} (ht : TyOk P t ti) (hk : ti.k ≠ .iface) {d : DV} {v : Value} (hr : Rep β G d v) : (Instr.makeInterface t v).run P w = .ok (.iface t v) w ∧ Rep β G (.iface t d) (.iface t v) := by
  obtain ⟨dd, hu, hn⟩ := und_iface ht hk
  refine ⟨?_, rep_iface.2 ⟨v, rfl, hr⟩⟩
  unfold Instr.makeInterface
  rw [Sem.run_bind, Go.run_underlying hu w]
  cases dd <;> first | rfl | exact absurd rfl (hn _)

theorem typeAssert_sound {t xt : TypeId} {ti : TI} (ht : TyOk P t ti) (hk : ti.k ≠ .iface) {x d : DV} {v : Value} {ok : Bool}
    (hd : (match x with
      | .nilif => bif ok then (zeroOf ti).bind fun z => some (.tup [z, .bool false]) else none
      | .iface t' v => bif Nat.beq t' t then some (bif ok then .tup [v, .bool true] else v) else bif ok then (zeroOf ti).bind fun z => some (.tup [z, .bool false]) else none
      | _ => none : Option DV) = some d) (hr : Rep β G x v) : ∃ r, (Instr.typeAssert v xt t ok).run P w = .ok r w ∧ Rep β G d r := by
  obtain ⟨dd, hu, hn⟩ := und_iface ht hk
  have fail : ∀ {z : DV}, zeroOf ti = some z → ∃ zv, (zeroValue t).run P w = .ok zv w ∧ Rep β G (.tup [z, .bool false]) (.tuple #[zv, .bool false]) := fun hz => by
    obtain ⟨zv, h1, h2⟩ := zeroOf_sound (P := P) (w := w) (β := β) (G := G) ht hz
    exact ⟨zv, h1, rep_tup.2 ⟨[zv, .bool false], rfl, repL_cons.2 ⟨_, _, rfl, h2, repL_cons.2 ⟨_, _, rfl, rep_bool.2 rfl, repL_nil.2 rfl⟩⟩⟩⟩
  cases x with
  | nilif =>
    rw [rep_nilif] at hr; subst hr
    cases ok with
    | false => cases hd
    | true =>
      obtain ⟨z, hz, hd⟩ := some_bind hd
      cases hd
      obtain ⟨zv, h1, h2⟩ := fail hz
      refine ⟨_, ?_, h2⟩
      unfold Instr.typeAssert
      rw [Sem.run_bind, Go.run_underlying hu w]
      cases dd <;> first | (simp [Result.andThen, h1]; done) | exact absurd rfl (hn _)
  | iface t' d' =>
    obtain ⟨u, rfl, hu'⟩ := rep_iface.1 hr
    simp only at hd
    cases hq : Nat.beq t' t with
    | true =>
      have : t' = t := Nat.eq_of_beq_eq_true hq
      subst this
      rw [hq] at hd
      simp only [cond_true, Option.some.injEq] at hd
      subst hd
      cases ok with
      | true =>
        refine ⟨.tuple #[u, .bool true], ?_, rep_tup.2 ⟨[u, .bool true], rfl, repL_cons.2 ⟨_, _, rfl, hu', repL_cons.2 ⟨_, _, rfl, rep_bool.2 rfl, repL_nil.2 rfl⟩⟩⟩⟩
        unfold Instr.typeAssert
        rw [Sem.run_bind, Go.run_underlying hu w]
        cases dd <;> first | (simp [Result.andThen]; done) | exact absurd rfl (hn _)
      | false =>
        refine ⟨u, ?_, hu'⟩
        unfold Instr.typeAssert
        rw [Sem.run_bind, Go.run_underlying hu w]
        cases dd <;> first | (simp [Result.andThen]; done) | exact absurd rfl (hn _)
    | false =>
      have hne : t' ≠ t := fun e => by subst e; rw [Nat.beq_refl] at hq; cases hq
      rw [hq] at hd
      simp only [cond_false] at hd
      cases ok with
      | false => cases hd
      | true =>
        obtain ⟨z, hz, hd⟩ := some_bind hd
        cases hd
        obtain ⟨zv, h1, h2⟩ := fail hz
        refine ⟨_, ?_, h2⟩
        unfold Instr.typeAssert
        rw [Sem.run_bind, Go.run_underlying hu w]
        cases dd <;> first | (simp [Result.andThen, h1, hne]; done) | exact absurd rfl (hn _)
  | _ => cases hd

theorem zeros_list (z : Array Value) (e : Nat) (he : z.size = e) (hpos : 0 < e) : ∀ k, ((Array.range (k * e)).map (z[· % z.size]!)).toList = (List.replicate k z.toList).flatten
  | 0 => by simp
  | k + 1 => by
    have ih := zeros_list z e he hpos k
    simp only [Array.toList_map, Array.toList_range] at ih ⊢
    rw [List.replicate_succ, List.flatten_cons, ← ih, show (k + 1) * e = e + k * e by rw [Nat.add_mul, Nat.one_mul, Nat.add_comm], List.range_add, List.map_append, List.map_map]
    congr 1
    · apply List.ext_getElem
      · simp [he]
      · intro i h1 h2
        simp only [List.length_map, List.length_range] at h1
        simp only [List.getElem_map, List.getElem_range, Array.getElem_toList]
        rw [he, Nat.mod_eq_of_lt h1]
        simp [he, h1]
    · apply List.map_congr_left
      intro i _
      simp only [Function.comp_def]
      rw [he, Nat.add_mod_left]

theorem repL_rep {zs : List DV} {vs : List Value} (h : RepL β G zs vs) : ∀ k, RepL β G (List.replicate k zs).flatten (List.replicate k vs).flatten
  | 0 => by simp [repL_nil]
  | k + 1 => by
    rw [List.replicate_succ, List.replicate_succ, List.flatten_cons, List.flatten_cons]
    exact repL_append.2 ⟨_, _, rfl, h, repL_rep h k⟩

theorem makeSlice_sound (hE : ∀ t ti, E.ty t = some ti → TyOk P t ti) (hh : HR E w0 G0 D w β G h) (hfr : Fresh β h nid) {t e : TypeId} {ti ei : TI} (ht : TyOk P t ti) (hk : ti.k = .slice e) (hei : E.ty e = some ei) {k1 k2 : IntKind} {n : Int}
    (h0 : 0 ≤ n) (hb : n.toNat * (ei.bytes + 1) ≤ 200000000000000) (hpos : 0 < ei.size) (hzf : idfrees ei.zero = true) :
    ∃ v w' β', (Instr.makeSlice t (.int k1 n) (.int k2 n)).run P w = .ok v w' ∧ Rep β' G (.rs nid 0) v ∧ Ext β G β' G ∧ HR E w0 G0 D w' β' G (updF h [(nid, some (.row e (List.replicate n.toNat ei.zero) 0 0))]) ∧ Kept β β' h (updF h [(nid, some (.row e (List.replicate n.toNat ei.zero) 0 0))]) nid := by
  have htd := ht.desc
  rw [hk] at htd
  have he := hE e ei hei
  have hesz := eszOf_eq hei
  obtain ⟨ie, z, hi, hs, hby, hz, hzs, hrep⟩ := he.info
  obtain ⟨m, rfl⟩ : ∃ m : Nat, n = (m : Int) := ⟨n.toNat, by omega⟩
  simp only [Int.toNat_natCast] at hb ⊢
  have hm1 : m ≤ 200000000000000 := by
    have := Nat.le_mul_of_pos_right m (show 0 < ei.bytes + 1 by omega)
    omega
  have hm2 : ei.bytes * m ≤ 200000000000000 := by
    have h1 := Nat.mul_le_mul_left m (show ei.bytes ≤ ei.bytes + 1 by omega)
    rw [Nat.mul_comm] at h1; omega
  have hmax : m ≤ maxLen := by simp only [maxLen]; omega
  obtain ⟨w', hrun, hown, hgr⟩ := run_make_full (P := P) w w0.heap.size t e ie z ei.size htd hi hz hs k1 k2 m (by rw [hby]; omega) hmax hh.below.size
  have hcells : (madeCells z.cells (m * ei.size)).toList = (List.replicate m z.cells.toList).flatten := zeros_list z.cells ei.size hzs hpos m
  have hr2 : RepL β G (List.replicate m ei.zero).flatten (madeCells z.cells (m * ei.size)).toList := by
    rw [hcells]; exact repL_rep (hrep β G) m
  have hown' : w'.ownsRow w0.heap.size e (eszOf E e) (.slice (some ⟨w.heap.size, 0, none⟩) m m) (List.replicate m ei.zero).length (madeCells z.cells (m * ei.size)).toList := by
    rw [hesz, List.length_replicate]; exact hown
  have hzl : ei.zero.length = ei.size := by have := repL_len (hrep β G); simp at this; omega
  obtain ⟨β', m1, m2, m3, m4⟩ := row_lay (nid := nid) hh hfr hgr hown' (by intro b hb; cases hb; rfl) ⟨_, _, _, rfl⟩ hr2 (fun c hc => by
    rw [List.mem_replicate] at hc
    rw [hesz, hc.2]; exact ⟨hzl, hzf, he.zc⟩) (by rw [hesz]; exact hpos)
  exact ⟨_, _, β', hrun, m2, m1, m3, m4⟩

theorem opt_mono {β' : Bi} {G' : Gh} (hx : Ext β G β' G') {d : Option DV} {v : Option Value} (h : OptR β G d v) : OptR β' G' d v := by
  rcases h with h | ⟨dd, vv, h1, h2, h3⟩
  · exact .inl h
  · exact .inr ⟨dd, vv, h1, h2, Rep.mono hx _ _ h3⟩

/-! An array is cut: its cells are published, and it is told no more. -/
theorem chunks_len (e : Nat) : ∀ (n : Nat) (cs : List DV), (chunks e n cs).length = n
  | 0, _ => rfl
  | n + 1, cs => by simp [chunks, chunks_len e n]

theorem chunks_pub {g e : Nat} (hG : ∀ o : Nat, True) : ∀ (n : Nat) (cs : List DV) (off : Nat), n * e ≤ cs.length → idfrees (cs.take (n * e)) = true → cs.all isCell = true → Pub β G g off cs → PubE β G g e off (chunks e n cs)
  | 0, _, _, _, _, _, _ => by simp [chunks, PubE]
  | n + 1, cs, off, hl, hf, hc, hp => by
    have hne : (n + 1) * e = e + n * e := by rw [Nat.add_mul, Nat.one_mul, Nat.add_comm]
    rw [hne] at hl hf
    unfold chunks PubE
    have h1 : (cs.take e).length = e := by simp; omega
    have hf1 : idfrees (cs.take e) = true := idfrees_iff.2 fun c hc => (idfrees_iff.1 hf) c (by
      rw [List.take_add]; exact List.mem_append.2 (.inl hc))
    have hf2 : idfrees ((cs.drop e).take (n * e)) = true := idfrees_iff.2 fun c hc => (idfrees_iff.1 hf) c (by
      rw [List.take_add]; exact List.mem_append.2 (.inr hc))
    have hc1 : (cs.take e).all isCell = true := List.all_eq_true.2 fun c hcc => List.all_eq_true.1 hc c (List.mem_of_mem_take hcc)
    have hc2 : (cs.drop e).all isCell = true := List.all_eq_true.2 fun c hcc => List.all_eq_true.1 hc c (List.mem_of_mem_drop hcc)
    have hp1 : ∀ (k : Nat) (cs : List DV) (off : Nat), Pub β G g off cs → Pub β G g off (cs.take k) := by
      intro k
      induction k with
      | zero => intro cs off _; simp [Pub]
      | succ k ih =>
        intro cs off hp
        cases cs with
        | nil => simp [Pub]
        | cons c cs => unfold Pub at hp; simp only [List.take_succ_cons]; unfold Pub; exact ⟨hp.1, ih cs (off + 1) hp.2⟩
    exact ⟨h1, ⟨hf1, hc1⟩, hp1 e cs off hp, chunks_pub hG n (cs.drop e) (off + e) (by simp; omega) hf2 hc2 (pub_drop e hp)⟩

theorem sliceArr_sound (hE : ∀ t ti, E.ty t = some ti → TyOk P t ti) (hh : HR E w0 G0 D w β G h) {t e : TypeId} {ti ei : TI} (ht : TyOk P t ti) {n : Nat} (hk : ti.k = .array n e) (hei : E.ty e = some ei) {id off : Nat} {u : Value} (hr : Rep β G (.ptr id off) u)
    {ct : TypeId} {cs : List DV} (ho : h id = some (.cells ct cs)) (hle : off + n * ei.size ≤ cs.length) (hpos : 0 < ei.size) (hf : idfrees ((cs.drop off).take (n * ei.size)) = true)
    {lo hi : Option DV} {vlo vhi : Option Value} (hl : OptR β G lo vlo) (hhi : OptR β G hi vhi) {d : DV} (hd : subSl (chunks ei.size n (cs.drop off)) lo hi = some d) :
    ∃ r G', (Instr.sliceAt t u vlo vhi none).run P w = .ok r w ∧ Rep β G' d r ∧ Ext β G β G' ∧ HR E w0 G0 D w β G' (updF h [(id, none)]) := by
  have htd := ht.desc
  rw [hk] at htd
  have he := hE e ei hei
  obtain ⟨b, hb, rfl⟩ := rep_ptr.1 hr
  obtain ⟨b', vs, h1, h2, h3, h4, h5⟩ := hh.obj id _ ho
  rw [hb] at h1; cases h1
  have hown : Owns β id (.cells ct cs) b := hb
  obtain ⟨hb0, hb1, hb2⟩ := hh.own id _ b ho hown
  have hcell : ∀ j v, vs.toList[j]? = some v → w.cell? ⟨b, j, none⟩ = some v := fun j v hj => by
    unfold World.cell?
    simp only [h2]
    simpa using hj
  have hx : Ext β G β (pubAt G b vs.toList) := ⟨fun b' o v hg => by
    unfold pubAt
    by_cases e : b' = b
    · subst e; rw [h5 o] at hg; cases hg
    · rw [if_neg e]; exact hg, fun _ _ h => h, fun _ _ _ h => h⟩
  have hpub : Pub β (pubAt G b vs.toList) b 0 cs := pub_of_vals (RepL.mono hx _ _ h3) (fun j v hj => by
    have hjl : j < vs.toList.length := (List.getElem?_eq_some_iff.1 hj).1
    unfold pubAt
    rw [if_pos rfl, Nat.zero_add, if_pos hjl]; exact hj)
  have hpub2 : PubE β (pubAt G b vs.toList) b ei.size off (chunks ei.size n (cs.drop off)) := by
    refine chunks_pub (fun _ => trivial) n (cs.drop off) off (by simp; omega) hf (List.all_eq_true.2 fun c hcc => List.all_eq_true.1 h4 c (List.mem_of_mem_drop hcc)) ?_
    have := pub_drop off hpub
    rwa [Nat.zero_add] at this
  unfold subSl at hd
  obtain ⟨m, k1, hd⟩ := some_bind hd
  obtain ⟨l, k2, hd⟩ := some_bind hd
  cases hd
  rw [chunks_len] at k1
  obtain ⟨q1, q2, q3⟩ := bounds_sound (P := P) (w := w) (isSlice := false) (opt_mono hx hl) (opt_mono hx hhi) k1 k2 (Nat.le_refl _)
  have hlen : (((chunks ei.size n (cs.drop off)).take m).drop l).length = m - l := by simp [chunks_len]; omega
  refine ⟨.slice (some (if n = l then ⟨b, off, none⟩ else (⟨b, off, none⟩ : Addr).add (l * ei.size))) (m - l) (n - l), pubAt G b vs.toList, ?_, rep_sl.2 ?_, hx, ?_⟩
  · simp [Instr.sliceAt, Go.run_underlying htd, Instr.sureAddr, q1, he.run_sizeOf]
  · rw [hlen]
    refine ⟨_, _, ⟨rfl, by omega⟩, ?_⟩
    by_cases hcl : n = l
    · left
      have : m = l := by omega
      subst this
      simp
    · right
      refine ⟨b, off + l * ei.size, ei.size, ?_, pubE_drop l (pubE_take m hpub2)⟩
      simp [hcl, addr_add]
  ·
    have hless : HR E w0 G0 D w β G (updF h [(id, none)]) := hh.less fun i x hi => by
      rw [updF_one] at hi
      by_cases ei : i = id
      · rw [if_pos ei] at hi; cases hi
      · rw [if_neg ei] at hi; exact hi
    have hne : ∀ i x b', updF h [(id, none)] i = some x → Owns β i x b' → b' ≠ b := fun i x b' hi hb' e => by
      subst e
      rw [updF_one] at hi
      by_cases ei : i = id
      · rw [if_pos ei] at hi; cases hi
      · rw [if_neg ei] at hi; exact ei (hh.inj i id x _ b' hi ho hb' hown)
    refine ⟨hless.below, fun b' hlt => ?_, fun b' o v hg => ?_, fun i x hi => ?_, hless.own, hless.inj, fun d x hd => ?_⟩
    · rw [← hless.g0 b' hlt]
      funext o; unfold pubAt; rw [if_neg (by omega)]
    · unfold pubAt at hg
      by_cases e : b' = b
      · subst e
        rw [if_pos rfl] at hg
        by_cases hlt : o < vs.toList.length
        · rw [if_pos hlt] at hg; exact hcell o v hg
        · rw [if_neg hlt] at hg; exact hh.agree _ _ _ hg
      · rw [if_neg e] at hg; exact hh.agree _ _ _ hg
    · refine ObjR.keep hx (fun _ => rfl) (fun b' hb' => ⟨rfl, fun o => ?_⟩) (hless.obj i x hi)
      unfold pubAt
      rw [if_neg (hne i x b' hi hb')]
    · obtain ⟨q1, q2, q3⟩ := hless.marks d x hd
      refine ⟨q1, q2, fun o => ?_⟩
      unfold pubAt
      rw [if_neg (fun e => by rw [e, (hh.own id _ b ho hown).2.2] at hd; cases hd)]
      exact q3 o

end
end Go.Ab
