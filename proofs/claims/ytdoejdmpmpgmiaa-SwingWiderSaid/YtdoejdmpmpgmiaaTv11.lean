/- Typed code is the abstract one. Conditions: the tables are right (XOk); what calls and loops come to is right (SpecsOk, LoopsOk). -/
import Derived.Test.YtdoejdmpmpgmiaaTv10
set_option linter.unusedSectionVars false
set_option linter.unusedVariables false
set_option linter.unusedSimpArgs false
set_option linter.unusedSectionVars false
namespace Go.Ab
variable {S : Nat → Type} {R : Type}

/-- A loop whose head has been laid out. -/
def iter1 (nrm : St → Option St) (step : St → Option (Ex × St)) (m : Nat) (s : St) : Option (Ex × St) := (step s).bind fun r => match r.1 with
  | .normal => iter nrm step m r.2
  | _ => some r

/-- A loop comes to an end. -/
def LTo (E : Env) (key : Key) (F : FI) (c : Code) (hint : Hint) (s : St) (ex : Ex) (s' : St) : Prop :=
  ∃ N, ∀ n m, N ≤ n → N ≤ m → iter1 (norm E hint key.n0) (evC E key.rnd key.fid F (evF E n) (evX E n false) (evX E n true) n key.bid c) m s = some (ex, s')

def LoopsOk (X : TEnv S) (ls : Loops S R) : Prop := ∀ key s k r, ls key s k = some r → WfO X.E s.objs → ∀ F c hint, X.E.fn key.fid = some F → Code.sub F.body key.pos = some c → (F.hints.find? fun h => Nat.beq h.bid key.bid) = some hint →
  ∃ ex s', LTo X.E key F c hint (dvSt X.T s) ex (dvSt X.T s') ∧ WfO X.E s'.objs ∧ k ex s' = some r

theorem pack_dv (T : TS S) (vs : List (TV S)) : pack (dvl T vs) = dv T (packT vs) := by
  cases vs with
  | nil => simp [pack, packT, dvl, dv]
  | cons v vs =>
    cases vs with
    | nil => simp [pack, packT, dvl]
    | cons w vs => simp [pack, packT, dvl, dv]

theorem argBase_dv (T : TS S) (V : Nat) : ∀ (vs : List (TV S)) (k : Nat) (b : Tr (TV S)), argBase V k (dvl T vs) (b.mapv (dv T)) = (argBaseT V k vs b).mapv (dv T)
  | [], k, b => by simp [argBase, argBaseT, dvl]
  | v :: vs, k, b => by
    simp only [dvl, argBase, argBaseT]
    cases Nat.testBit V k with
    | true => simp only [cond_true]; rw [← argBase_dv T V vs, mapv_set]; rfl
    | false => simp only [cond_false]; exact argBase_dv T V vs _ _

theorem setParams_dv (T : TS S) (V nt : Nat) : ∀ (ps : List Nat) (vs : List (TV S)) (b : Tr (TV S)), setParams V nt ps (dvl T vs) (b.mapv (dv T)) = (setParamsT V nt ps vs b).map (Tr.mapv (dv T))
  | [], [], b => by simp [setParams, setParamsT, dvl]
  | [], _ :: _, b => by simp [setParams, setParamsT, dvl]
  | _ :: _, [], b => by simp [setParams, setParamsT, dvl]
  | p :: ps, v :: vs, b => by
    simp only [dvl, setParams, setParamsT]
    cases Nat.blt p nt with
    | false => rfl
    | true =>
      simp only [cond_true]
      cases Nat.testBit V p with
      | true =>
        simp only [cond_true]
        rw [← setParams_dv T V nt ps vs, mapv_set]; rfl
      | false => simp only [cond_false]; exact setParams_dv T V nt ps vs b

theorem mapvh (T : TS S) (o : Tr (TObj S)) : (o.mapv (dvO T)).get = dvh T o.get := funext fun i => mapv_get _ _ _
theorem mapvr (T : TS S) (o : Tr (TV S)) : (o.mapv (dv T)).get = dvr T o.get := funext fun i => mapv_get _ _ _

section
variable {X : TEnv S} (hX : XOk X)
include hX

theorem res_sim {base : Nat → Option (TV S)} {h : Nat → Option (TObj S)} : ∀ {rs : List ResultVar} {k : List (TV S) → Option R} {r : R}, resK X base h rs k = some r → ∃ vs, resD X.E (dvr X.T base) (dvh X.T h) rs = some (dvl X.T vs) ∧ k vs = some r
  | [], k, r, hr => ⟨[], by simp [resD, dvl], hr⟩
  | .tmp t :: rs, k, r, hr => by
    simp only [resK] at hr
    obtain ⟨v, h1, hr⟩ := some_bind hr
    obtain ⟨vs, h2, h3⟩ := res_sim hr
    refine ⟨v :: vs, ?_, h3⟩
    simp only [resD, dvr, h1, Option.map_some, Option.bind_some]
    rw [h2]; simp [dvl]
  | .cell a t :: rs, k, r, hr => by
    simp only [resK] at hr
    obtain ⟨ti, h1, hr⟩ := some_bind hr
    obtain ⟨av, h2, hr⟩ := some_bind hr
    obtain ⟨o, h3, _, hr⟩ := load_sim hX hr
    obtain ⟨v, h4, hr⟩ := some_bind hr
    obtain ⟨vs, h5, h6⟩ := res_sim hr
    obtain ⟨d, h7, h8⟩ := some_bind h3
    have h9 : d = dv X.T v := by
      have : (ret d) = some (dvOut X.T o) := h8
      simp only [ret, dvOut, h4, Option.map_some, Option.some.injEq, Out.mk.injEq] at this
      exact this.1
    refine ⟨v :: vs, ?_, h6⟩
    simp only [resD, h1, Option.bind_some, dvr, h2, Option.map_some]
    rw [h7]
    simp only [Option.bind_some]
    rw [h5, h9]; simp [dvl]
end

theorem keep_dv (T : TS S) (m : Nat) (s : StT S) : (dvSt T s).keep m = dvSt T (s.keep m) := by
  simp only [St.keep, StT.keep, dvSt, mapv_filt]
theorem keepX_dv (T : TS S) (F : FI) (id : Nat) (s : StT S) : (dvSt T s).keepX F id = dvSt T (s.keepX F id) := by
  unfold St.keepX StT.keepX
  cases F.xm.find? fun p => Nat.beq p.1 id with
  | none => rfl
  | some p => exact keep_dv T p.2 s

section
variable {X : TEnv S} (hX : XOk X) {cs : Specs S R} (hcs : SpecsOk X cs) {ls : Loops S R} (hls : LoopsOk X ls)
include hX hcs hls

theorem code_sim {callH callY : CallHT S R} (hH : CallOk X false callH) (hY : CallOk X true callY) {path : List Nat} {rnd : Option Nat} {fid : Nat} {F : FI} (hF : X.E.fn fid = some F) :
    ∀ (c : Code) (pos : List Nat) (bid : Nat) (s : StT S) (k : Ex → StT S → Option R) (r : R), codeK X cs ls rnd fid F callH callY path pos bid c s k = some r → Code.sub F.body pos = some c → WfO X.E s.objs →
      ∃ ex s', Evt (fun n => evC X.E rnd fid F (evF X.E n) (evX X.E n false) (evX X.E n true) n bid c (dvSt X.T s) = some (ex, dvSt X.T s')) ∧ WfO X.E s'.objs ∧ k ex s' = some r
  | .skip, pos, bid, s, k, r, h, _, hw => ⟨.normal, s, Evt.of fun _ => rfl, hw, h⟩
  | .region id ops draw, pos, bid, s, k, r, h, _, hw => by
    simp only [codeK] at h
    obtain ⟨s', h1, h2, h3⟩ := region_sim hX hcs hH hY h hw
    refine ⟨.normal, s', h1.mono fun n hn => ?_, h2, h3⟩
    simp only [evC, hn, Option.bind_some]
  | .seq x y, pos, bid, s, k, r, h, hp, hw => by
    simp only [codeK] at h
    have hx : Code.sub F.body (0 :: pos) = some x := by simp only [Code.sub, hp, Option.bind_some, Code.kid]
    have hy : Code.sub F.body (1 :: pos) = some y := by simp only [Code.sub, hp, Option.bind_some, Code.kid]
    obtain ⟨ex, s1, h1, h2, h3⟩ := code_sim hH hY hF x _ bid s _ r h hx hw
    cases ex with
    | normal =>
      simp only at h3
      obtain ⟨ex', s2, h4, h5, h6⟩ := code_sim hH hY hF y _ bid s1 k r h3 hy h2
      refine ⟨ex', s2, (h1.and h4).mono fun n hn => ?_, h5, h6⟩
      simp only [evC, hn.1, Option.bind_some]; exact hn.2
    | _ =>
      simp only at h3
      refine ⟨_, s1, h1.mono fun n hn => ?_, h2, h3⟩
      simp only [evC, hn, Option.bind_some]
  | .cond c x y, pos, bid, s, k, r, h, hp, hw => by
    simp only [codeK] at h
    have hx : Code.sub F.body (0 :: pos) = some x := by simp only [Code.sub, hp, Option.bind_some, Code.kid]
    have hy : Code.sub F.body (1 :: pos) = some y := by simp only [Code.sub, hp, Option.bind_some, Code.kid]
    cases ho : opndT s.base.get c with
    | none => rw [ho] at h; cases h
    | some v =>
      rw [ho] at h
      cases v <;> simp only [reduceCtorEq] at h
      rename_i t
      have ho' : opnd (dvSt X.T s).base.get c = some (.bool t) := by
        show opnd (s.base.mapv (dv X.T)).get c = _
        rw [mapvr, opnd_dv, ho]; rfl
      cases t with
      | true =>
        simp only [cond_true] at h
        obtain ⟨ex, s1, h1, h2, h3⟩ := code_sim hH hY hF x _ bid s _ r h hx hw
        refine ⟨ex, s1, h1.mono fun n hn => ?_, h2, h3⟩
        simp only [evC, ho', cond_true]; exact hn
      | false =>
        simp only [cond_false] at h
        obtain ⟨ex, s1, h1, h2, h3⟩ := code_sim hH hY hF y _ bid s _ r h hy hw
        refine ⟨ex, s1, h1.mono fun n hn => ?_, h2, h3⟩
        simp only [evC, ho', cond_false]; exact hn
  | .block id c, pos, bid, s, k, r, h, hp, hw => by
    simp only [codeK] at h
    have hx : Code.sub F.body (0 :: pos) = some c := by simp only [Code.sub, hp, Option.bind_some, Code.kid]
    obtain ⟨ex, s1, h1, h2, h3⟩ := code_sim hH hY hF c _ id s _ r h hx hw
    cases ex with
    | exit i =>
      simp only at h3
      cases hi : Nat.beq i id with
      | true =>
        rw [hi] at h3
        refine ⟨.normal, s1, h1.mono fun n hn => ?_, h2, h3⟩
        simp only [evC, hn, Option.bind_some, hi, cond_true]
      | false =>
        rw [hi] at h3
        refine ⟨_, s1, h1.mono fun n hn => ?_, h2, h3⟩
        simp only [evC, hn, Option.bind_some, hi, cond_false]
    | _ =>
      simp only at h3
      refine ⟨_, s1, h1.mono fun n hn => ?_, h2, h3⟩
      simp only [evC, hn, Option.bind_some]
  | .loop c, pos, bid, s, k, r, h, hp, hw => by
    simp only [codeK] at h
    have hx : Code.sub F.body (0 :: pos) = some c := by simp only [Code.sub, hp, Option.bind_some, Code.kid]
    obtain ⟨hint, h1, h⟩ := some_bind h
    obtain ⟨s1, h2, h⟩ := some_bind h
    obtain ⟨h3, h4⟩ := norm_sim hX h2 hw
    obtain ⟨ex, s', ⟨N, h5⟩, h6, h7⟩ := hls _ _ _ _ h h4 F c hint hF hx h1
    refine ⟨ex, s', ⟨N + 1, fun n hn => ?_⟩, h6, h7⟩
    simp only [evC, h1, Option.bind_some]
    cases n with
    | zero => omega
    | succ m =>
      simp only [iter]
      have h3' : norm X.E hint (dvSt X.T s).next (dvSt X.T s) = some (dvSt X.T s1) := h3
      rw [h3']
      simp only [Option.bind_some]
      exact h5 (m + 1) m (by omega) (by omega)
  | .exit id, pos, bid, s, k, r, h, _, hw => ⟨.exit id, s.keepX F id, Evt.of fun _ => by simp only [evC, keepX_dv], by
      have : (s.keepX F id).objs = s.objs := by unfold StT.keepX; cases F.xm.find? fun p => Nat.beq p.1 id <;> rfl
      rw [this]; exact hw, h⟩
  | .scope c, pos, bid, s, k, r, h, hp, hw => by
    simp only [codeK] at h
    have hx : Code.sub F.body (0 :: pos) = some c := by simp only [Code.sub, hp, Option.bind_some, Code.kid]
    obtain ⟨ex, s1, h1, h2, h3⟩ := code_sim hH hY hF c _ bid s _ r h hx hw
    exact ⟨ex, s1, h1.mono fun n hn => by simp only [evC]; exact hn, h2, h3⟩
  | .label l, pos, bid, s, k, r, h, _, hw => ⟨.normal, s, Evt.of fun _ => rfl, hw, h⟩
  | .ret, pos, bid, s, k, r, h, _, hw => ⟨.ret, s.keep F.rm, Evt.of fun _ => by simp only [evC, keep_dv], hw, h⟩
  | .goto _, pos, bid, s, k, r, h, _, hw => by simp only [codeK, reduceCtorEq] at h
  | .refuse _, pos, bid, s, k, r, h, _, hw => by simp only [codeK, reduceCtorEq] at h
  | .rangeFunc f ps assign body, pos, bid, s0, k, r, h, hp, hw => by
    simp only [codeK] at h
    obtain ⟨h1, h⟩ := bif_some h
    obtain ⟨s, h2, h⟩ := some_bind h
    obtain ⟨fv, h3, h⟩ := some_bind h
    have hs : (match (F.hints.find? fun h => Nat.beq h.bid bid : Option Hint) with
      | some hint => (nilRows X.E (dvSt X.T s0).next 0 hint.accs ((dvSt X.T s0).base, (dvSt X.T s0).objs)).bind fun r => some (St.mk r.1 r.2 ((dvSt X.T s0).next + hint.accs.length))
      | none => some (dvSt X.T s0)) = some (dvSt X.T s) ∧ WfO X.E s.objs := by
      cases hh : (F.hints.find? fun h => Nat.beq h.bid bid) with
      | none => rw [hh] at h2; cases h2; exact ⟨rfl, hw⟩
      | some hint =>
        rw [hh] at h2
        obtain ⟨q, h4, h5⟩ := some_bind h2
        cases h5
        obtain ⟨h6, h7⟩ := nilRows_sim hX h4 hw
        refine ⟨?_, h7⟩
        simp only
        have h6' : nilRows X.E (dvSt X.T s0).next 0 hint.accs ((dvSt X.T s0).base, (dvSt X.T s0).objs) = _ := h6
        rw [h6']; rfl
    obtain ⟨hs1, hs2⟩ := hs
    cases fv with
    | fn g first caps =>
      cases g with
      | func g =>
        simp only at h
        obtain ⟨v, objs', next', h4, h5, h6⟩ := hH _ _ _ _ _ _ _ h (hs2.set (x := some (.loop fid s.base ps.toList assign body bid .normal (bid :: path) pos)) ⟨F, f, hF, by simpa using hp⟩)
        cases ho : objs'.get s.next with
        | none => rw [ho] at h6; cases h6
        | some ob =>
          rw [ho] at h6
          cases ob <;> simp only [reduceCtorEq] at h6
          rename_i fid' bs' ps' as' bo' bid' ex pa' po'
          have hres : k ex { s with objs := objs'.set s.next none, next := next' } = some r ∧ ex ≠ .busy := by
            cases ex <;> simp only [reduceCtorEq] at h6 <;> exact ⟨h6, by simp⟩
          refine ⟨ex, _, h4.mono fun n hn => ?_, h5.set (x := none) trivial, hres.1⟩
          simp only [evC]
          have hir : inRound rnd (dvSt X.T s0).objs.get = true := by
            show inRound rnd (s0.objs.mapv (dvO X.T)).get = true
            rw [mapvh]
            unfold inRoundT at h1
            unfold inRound
            cases rnd with
            | none => rfl
            | some l =>
              simp only at h1 ⊢
              unfold dvh
              cases hl : s0.objs.get l with
              | none => rw [hl] at h1; cases h1
              | some ob => rw [hl] at h1; cases ob <;> simp only [Bool.false_eq_true] at h1; rfl
          rw [hir]
          simp only [cond_true]
          have hs1' := hs1
          refine (congrArg (fun z => Option.bind z _) hs1').trans ?_
          simp only [Option.bind_some]
          have ho' : opnd (dvSt X.T s).base.get f = some (.fn (.func g) (dvl X.T first) (dvl X.T caps)) := by
            show opnd (s.base.mapv (dv X.T)).get f = _
            rw [mapvr, opnd_dv, h3]; rfl
          rw [ho']
          simp only [Option.bind_some]
          have e1 : evX X.E n false g (dvl X.T first ++ [.yld (dvSt X.T s).next] ++ dvl X.T caps) ((dvSt X.T s).objs.set (dvSt X.T s).next (some (.loop fid (dvSt X.T s).base ps.toList assign body bid .normal))) ((dvSt X.T s).next + 1) = some (dv X.T v, objs'.mapv (dvO X.T), next') := by
            rw [mapv_set] at hn
            simp only [dvl_append, dvl, dv] at hn
            exact hn
          rw [e1]
          simp only [Option.bind_some, mapv_get]
          have ho2 : objs'.get (dvSt X.T s).next = some (.loop fid' bs' ps' as' bo' bid' ex pa' po') := ho
          rw [ho2]
          simp only [Option.map_some, dvO]
          have e2 : (dvSt X.T { s with objs := objs'.set s.next none, next := next' }) = { dvSt X.T s with objs := (objs'.mapv (dvO X.T)).set (dvSt X.T s).next none, next := next' } := by
            simp only [dvSt, mapv_set]; rfl
          rw [e2]
          cases ex <;> first | rfl | exact absurd rfl hres.2
      | _ => cases h
    | _ => cases h

theorem x_sim : ∀ n, CallOk X false (xK X cs ls n false) ∧ CallOk X true (xK X cs ls n true)
  | 0 => ⟨fun _ _ _ _ _ _ _ h => by simp [xK] at h, fun _ _ _ _ _ _ _ h => by simp [xK] at h⟩
  | N + 1 => by
    obtain ⟨ih1, ih2⟩ := x_sim N
    constructor
    · intro path g as objs next k r h hw
      simp only [xK] at h
      obtain ⟨F, hF, h⟩ := some_bind h
      obtain ⟨hl, h⟩ := bif_some h
      obtain ⟨ex, s', h1, h2, h3⟩ := code_sim hX hcs hls ih1 ih2 hF F.body [] 0 _ _ r h rfl hw
      have hex : (∃ vs, resD X.E (dvr X.T s'.base.get) (dvh X.T s'.objs.get) F.nres = some (dvl X.T vs) ∧ k (packT vs) s'.objs s'.next = some r) ∧ (∀ i, ex ≠ .exit i) ∧ ex ≠ .busy := by
        cases ex <;> simp only [reduceCtorEq] at h3 <;> exact ⟨res_sim hX h3, by simp, by simp⟩
      obtain ⟨⟨vs, h4, h5⟩, h6, h7⟩ := hex
      refine ⟨packT vs, s'.objs, s'.next, Evt.succ (h1.mono fun n hn => ?_), h2, h5⟩
      simp only [evX, hF, Option.bind_some]
      have hl' : Nat.ble (dvl X.T as).length F.nt = true := by rw [dvl_map, List.length_map]; exact hl
      rw [hl']
      simp only [cond_true]
      have e1 : (⟨argBase F.vmask 0 (dvl X.T as) .leaf, objs.mapv (dvO X.T), next⟩ : St) = dvSt X.T ⟨argBaseT F.vmask 0 as .leaf, objs, next⟩ := by
        simp only [dvSt]
        rw [← argBase_dv]; rfl
      rw [e1]
      have hn' : evC X.E none g F (fun g as => (evX X.E n false g as .leaf 0).bind fun x => frz x.2.1.get x.1) (evX X.E n false) (evX X.E n true) n 0 F.body (dvSt X.T ⟨argBaseT F.vmask 0 as .leaf, objs, next⟩) = some (ex, dvSt X.T s') := hn
      rw [hn']
      simp only [Option.bind_some]
      have h4' : resD X.E (dvSt X.T s').base.get (dvSt X.T s').objs.get F.nres = some (dvl X.T vs) := by
        show resD X.E (s'.base.mapv (dv X.T)).get (s'.objs.mapv (dvO X.T)).get F.nres = _
        rw [mapvr, mapvh]; exact h4
      cases ex with
      | exit i => exact absurd rfl (h6 i)
      | busy => exact absurd rfl h7
      | _ => simp only [h4', Option.bind_some, pack_dv]; rfl
    · intro path l as objs next k r h hw
      simp only [xK] at h
      split at h
      · rename_i fid base ps assign body bid pa po hob
        obtain ⟨F, hF, h⟩ := some_bind h
        obtain ⟨b, hb, h⟩ := some_bind h
        have hwl := hw l
        rw [hob] at hwl
        obtain ⟨F', f, hF', hsub⟩ := hwl
        rw [hF] at hF'; cases hF'
        have hs0 : Code.sub F.body (0 :: po) = some assign := by simp only [Code.sub, hsub, Option.bind_some, Code.kid]
        have hs1 : Code.sub F.body (1 :: po) = some body := by simp only [Code.sub, hsub, Option.bind_some, Code.kid]
        obtain ⟨ex, s1, h1, h2, h3⟩ := code_sim hX hcs hls ih1 ih2 hF assign _ bid _ _ r h hs0 hw
        split at h3
        · rename_i fid2 base2 ps2 as2 bo2 bid2 pa2 po2 hob2
          have hw2 : WfL X.E (some (.loop fid2 base2 ps2 as2 bo2 bid2 .busy pa2 po2)) := by have := h2 l; rw [hob2] at this; exact this
          obtain ⟨ex2, s2, h4, h5, h6⟩ := code_sim hX hcs hls ih1 ih2 hF body _ bid _ _ r h3 hs1 (h2.set hw2)
          split at h6
          · rename_i fid3 base3 ps3 as3 bo3 bid3 pa3 po3 hob3
            cases hbz : isBusy ex2 with
            | true => rw [hbz] at h6; cases h6
            | false =>
              rw [hbz] at h6
              simp only [cond_false] at h6
              have hw3 : WfL X.E (some (.loop fid3 base3 ps3 as3 bo3 bid3 ex2 pa3 po3)) := by have := h5 l; rw [hob3] at this; exact this
              refine ⟨_, _, _, Evt.succ ((h1.and h4).mono fun n hn => ?_), h5.set hw3, h6⟩
              simp only [evX, mapv_get, hob, Option.map_some, dvO, hF, Option.bind_some, setParams_dv, hb]
              have hn1 : evC X.E (some l) fid F (fun g as => (evX X.E n false g as .leaf 0).bind fun x => frz x.2.1.get x.1) (evX X.E n false) (evX X.E n true) n bid assign ⟨b.mapv (dv X.T), objs.mapv (dvO X.T), next⟩ = some (.normal, dvSt X.T s1) := hn.1
              rw [hn1]
              simp only [Option.bind_some, dvSt, mapv_get, hob2, Option.map_some, dvO]
              have hn2 : evC X.E (some l) fid F (fun g as => (evX X.E n false g as .leaf 0).bind fun x => frz x.2.1.get x.1) (evX X.E n false) (evX X.E n true) n bid body ⟨s1.base.mapv (dv X.T), (s1.objs.mapv (dvO X.T)).set l (some (.loop fid2 (base2.mapv (dv X.T)) ps2 as2 bo2 bid2 .busy)), s1.next⟩ = some (ex2, dvSt X.T s2) := by
                have := hn.2
                simp only [dvSt, mapv_set] at this
                exact this
              rw [hn2]
              simp only [Option.bind_some, dvSt, mapv_get, hob3, Option.map_some, dvO, mapv_set]
              cases ex2 <;> first | (cases hbz; done) | rfl
          · cases h6
        · cases h3
      · cases h

/-- A function of plain values. -/
theorem fn_sim {n g : Nat} {as : List (TV S)} {k : TV S → Option R} {r : R} (h : xK X cs ls n false [] g as .leaf 0 (fun v o _ => (frzT o.get v).bind k) = some r) :
    ∃ d, Evt (fun n => evF X.E n g (dvl X.T as) = some (dv X.T d)) ∧ k d = some r := by
  obtain ⟨v, o, nx, h1, _, h2⟩ := (x_sim hX hcs hls n).1 _ _ _ _ _ _ _ h (fun i => by trivial)
  obtain ⟨d, h3, h4⟩ := some_bind h2
  refine ⟨d, h1.mono fun n hn => ?_, h4⟩
  unfold evF
  have hn' : evX X.E n false g (dvl X.T as) .leaf 0 = some (dv X.T v, o.mapv (dvO X.T), nx) := hn
  rw [hn']
  simp only [Option.bind_some, mapvh, frz_dv hX.t, h3, Option.map_some]
end
end Go.Ab
