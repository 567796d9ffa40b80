/- Functions: what the interpreter finds is what a call gives. -/
import Derived.Test.YtifkepnfaggkiaaDoorEngRes
namespace Go.Proofs.YtifkepnfaggkiaaDoor
open Go.RowKit
set_option linter.unusedVariables false
set_option linter.unusedSimpArgs false
set_option linter.unusedSectionVars false
theorem argsRd_at {w : World} : ∀ (xs : List Arg) (vs : List Value), ArgsRd w xs vs → vs.length = xs.length ∧ ∀ (j : Nat) x v, xs[j]? = some x → vs[j]? = some v → ArgRd (Lt w) w x v
  | [], [], _ => ⟨rfl, fun j x v h => by simp at h⟩
  | [], v :: vs, h => h.elim
  | x :: xs, [], h => h.elim
  | x :: xs, v :: vs, h => by
    obtain ⟨h1, h2⟩ := argsRd_at xs vs h.2
    refine ⟨by simp [h1], fun j x' v' hx hv => ?_⟩
    cases j with
    | zero =>
      simp only [List.getElem?_cons_zero, Option.some.injEq] at hx hv
      subst hx; subst hv
      exact h.1
    | succ j => exact h2 j x' v' (by simpa using hx) (by simpa using hv)
theorem thawA_sound {w : World} {x : Arg} {v : Value} (h : ArgRd (Lt w) w x v) : CvP (env0 w) w (thawA x) v := by
  cases x with
  | v d => exact thawD_sound (E := env0 w) (s := true) (fun b hb => .inl (env0_t hb)) h
  | a l =>
    obtain ⟨cs, rfl, hl, hj⟩ := h
    refine ⟨cs, rfl, by simp [hl], fun j x u hx hu => ?_⟩
    rw [List.getElem?_map] at hx
    cases hd : l[j]? with
    | none => simp [hd] at hx
    | some d =>
      simp only [hd, Option.map_some, Option.some.injEq] at hx
      subst hx
      exact thawD_sound (E := env0 w) (s := true) (fun b hb => .inl (env0_t hb)) (hj j d u hd hu)
theorem init_rel (fe : FE) {xs : List Arg} {vs : List Value} {w : World} (h : ArgsRd w xs vs) : Rel (env0 w) (bs0 w) (initSt fe xs) { tmps := vs.toArray ++ Array.replicate (fe.fn.ntmps - vs.toArray.size) undef, defers := [] } w := by
  obtain ⟨hl, hj⟩ := argsRd_at xs vs h
  refine ⟨env0_wf w, rfl, by simp [initSt, hl], fun t p hp => ?_, (fun i b hb => by cases hb), Bs.Ext.refl (bs0 w), env0_bs w⟩
  simp only [initSt] at hp
  by_cases ht : t < xs.length
  · rw [List.getElem?_append_left (by simpa using ht), List.getElem?_map] at hp
    cases hx : xs[t]? with
    | none => simp [hx] at hp
    | some x =>
      simp only [hx, Option.map_some, Option.some.injEq] at hp
      subst hp
      have hv : vs[t]? = some (vs[t]'(by omega)) := List.getElem?_eq_getElem (by omega)
      have : (vs.toArray ++ Array.replicate (fe.fn.ntmps - vs.toArray.size) undef).getD t undef = vs[t]'(by omega) := by
        rw [Array.getD_eq_getD_getElem?, Array.getElem?_append_left (by simp; omega), List.getElem?_toArray, hv]
        rfl
      show CvP _ _ _ ((vs.toArray ++ Array.replicate (fe.fn.ntmps - vs.toArray.size) undef).getD t undef)
      rw [this]
      exact thawA_sound (hj t x _ hx hv)
  · rw [List.getElem?_append_right (by simp; omega)] at hp
    have hp' : p = .c (.at undef) := by
      rw [List.getElem?_replicate] at hp
      split at hp
      · injection hp with hp; exact hp.symm
      · cases hp
    subst hp'
    show (vs.toArray ++ Array.replicate (fe.fn.ntmps - vs.toArray.size) undef).getD t undef = undef
    rw [Array.getD_eq_getD_getElem?, Array.getElem?_append_right (by simp; omega), Array.getElem?_replicate]
    split <;> rfl
theorem far_bs0 {w : World} {w1 : Bs} (hx : Le (bs0 w) w1) {b : Nat} (h : w1.w.heap.size ≤ b ∨ w1.C b) : w.heap.size ≤ b :=
  Nat.le_of_not_lt fun hlt => h.elim (fun h => absurd (Nat.lt_of_lt_of_le hlt hx.ext.size) (Nat.not_lt.2 h)) (fun h => hx.sub b hlt (fun k => k) h)
theorem gave_up {ys : List Arg} {w : World} {w1 : Bs} {w' : World} {e : Ending} (hx : Le (bs0 w) w1) (h : GaveB ys w1 e w') : Gave ys w e w' := by
  obtain ⟨vs, ω, he, h1, h2⟩ := h
  exact ⟨vs, ω, he, ext_bs0 (hx.up h1), ResOw.up (fun b hb => ⟨far_bs0 hx hb.1, hb.2⟩) _ _ _ h2⟩
theorem evBody_sound {P : Program} {T : TT} (hT : ∀ t ti, T t = some ti → ttOf P t = some ti) {F : Fns} {w : World} (hF : Sound P F (bs0 w)) {ok : Array Oper → Bool} (hD : ∀ w, Sound P F w → DrawOk P T F ok w) (hC : CanonOk) {f : FuncId} {fe : FE} (hf : P.funcs[f]? = some fe.fn) (hb : fe.fn.body = some fe.body) (hok : codeOk ok fe.body = true) {xs ys : List Arg} (h : evBody prims (fun F lv => aloop F lv fuel) T F fe xs = some ys) {vs : List Value} (hv : ArgsRd w xs vs) : Calls P f vs.toArray w (Gave ys w) := by
  refine calls_of_wp hf hb (Code.wp_mono (fun e a w' q => ?_) (aexec_sound hT hD hC fe.body (bs0 w) hF _ _ _ _ w hok (init_rel fe hv) ⟨fun m hm => absurd rfl hm, fun n b hb => by cases hb⟩ h))
  obtain ⟨w1, E, σ, x, hx, R, _, rfl, hk⟩ := q
  cases x with
  | normal => obtain ⟨v, h1, h2⟩ := result_sound hT R hk; exact ⟨R.dfr, v, h1, gave_up hx h2⟩
  | ret => obtain ⟨v, h1, h2⟩ := result_sound hT R hk; exact ⟨R.dfr, v, h1, gave_up hx h2⟩
  | exit id => cases hk
theorem evBodyV_sound {P : Program} {T : TT} (hT : ∀ t ti, T t = some ti → ttOf P t = some ti) {F : Fns} {w : World} (hF : Sound P F (bs0 w)) {ok : Array Oper → Bool} (hD : ∀ w, Sound P F w → DrawOk P T F ok w) (hC : CanonOk) {f : FuncId} {fe : FE} (hf : P.funcs[f]? = some fe.fn) (hb : fe.fn.body = some fe.body) (hok : codeOk ok fe.body = true) {xs rest : List Arg} {e k : Nat} {l : List (List DT)} (h : evBodyV prims (fun F lv => aloop F lv fuel) T F fe xs = some (.v (.sl e k l) :: rest)) {vs : List Value} (hv : ArgsRd w xs vs) : Calls P f vs.toArray w fun e' w' => ∃ v, e' = .returned v ∧ Ext w w' ∧ Rd (Lt w') w' v (.sl e k l) := by
  refine calls_of_wp hf hb (Code.wp_mono (fun e' a w' q => ?_) (aexec_sound hT hD hC fe.body (bs0 w) hF _ _ _ _ w hok (init_rel fe hv) ⟨fun m hm => absurd rfl hm, fun n b hb => by cases hb⟩ h))
  obtain ⟨w1, E, σ, x, hx, R, _, rfl, hk⟩ := q
  have fin : resultV prims T fe.fn σ = some (.v (.sl e k l) :: rest) → ∃ v, (results fe.fn a.tmps).run P w' = .ok v w' ∧ ∃ v', Ending.returned v = .returned v' ∧ Ext w w' ∧ Rd (Lt w') w' v' (.sl e k l) := fun hk => by
    obtain ⟨v, e2, k2, l2, h1, h2, h3⟩ := resultV_sound hT R hk
    simp only [List.cons.injEq, Arg.v.injEq, DT.sl.injEq] at h2
    obtain ⟨⟨rfl, rfl, rfl⟩, _⟩ := h2
    exact ⟨v, h1, v, rfl, ext_bs0 (hx.up R.kp), h3⟩
  cases x with
  | normal => obtain ⟨v, h1, h2⟩ := fin hk; exact ⟨R.dfr, v, h1, h2⟩
  | ret => obtain ⟨v, h1, h2⟩ := fin hk; exact ⟨R.dfr, v, h1, h2⟩
  | exit id => cases hk
/-! functions that are given a box, that make one, or whose results may share memory -/
theorem Rel.unbox {E : Env} {w0 : Bs} {σ : St} {a : Act} {w : World} (R : Rel E w0 σ a w) {n : Nm} {b : Nat} (hω : E.ω b = some (n, none)) : Rel (without E b) w0 ⟨σ.tm, del σ.hp n, σ.cnt⟩ a w := by
  have hT := without_turn (w := w) hω
  refine ⟨without_wf R.wf b, R.dfr, R.siz, fun t p hp => (R.tmp t p hp).turn R.wf hT, fun m c hm => ?_, R.kp, ⟨R.bs.u, R.bs.t, R.bs.v, R.bs.c⟩⟩
  obtain ⟨h1, h2⟩ := look_del hm
  exact (R.blk m c h2).turn R.wf hT h1 (fun _ h => h.elim)
theorem tmps_at {ps : List PV} {vs : List Value} {n : Nat} {E : Env} {w : World} (hl : vs.length = ps.length) (hj : ∀ (j : Nat) p v, ps[j]? = some p → vs[j]? = some v → CvP E w p v) {t : Nat} {p : PV} (hp : (ps ++ List.replicate (n - ps.length) (.c (.at undef)))[t]? = some p) : CvP E w p ((vs.toArray ++ Array.replicate (n - vs.toArray.size) undef).getD t undef) := by
  by_cases ht : t < ps.length
  · rw [List.getElem?_append_left ht] at hp
    have hv : vs[t]? = some (vs[t]'(by omega)) := List.getElem?_eq_getElem (by omega)
    have : (vs.toArray ++ Array.replicate (n - vs.toArray.size) undef).getD t undef = vs[t]'(by omega) := by
      rw [Array.getD_eq_getD_getElem?, Array.getElem?_append_left (by simp; omega), List.getElem?_toArray, hv]
      rfl
    rw [this]
    exact hj t p _ hp hv
  · rw [List.getElem?_append_right (by omega)] at hp
    have hp' : p = .c (.at undef) := by
      rw [List.getElem?_replicate] at hp
      split at hp
      · injection hp with hp; exact hp.symm
      · cases hp
    subst hp'
    show (vs.toArray ++ Array.replicate (n - vs.toArray.size) undef).getD t undef = undef
    rw [Array.getD_eq_getD_getElem?, Array.getElem?_append_right (by simp; omega), Array.getElem?_replicate]
    split <;> rfl
/-- the base of a function that is given a box -/
def bsC (w : World) (b : Nat) (T V : Nat → Prop) : Bs := ⟨w, fun x => x = b, T, V, some b, true⟩
def envB (w : World) (b : Nat) (T V : Nat → Prop) : Env := ⟨fun m => if m = curN then some (some b) else none, fun x => if x = b then some (curN, none) else none, mkB (fun x => x < w.heap.size ∧ x ≠ b) T V⟩
theorem initC_rel (fe : FE) {e : Nat} {s : Bool} {ds : List DT} {xs : List Arg} {vs : List Value} {w : World} {b : Nat} {T V : Nat → Prop} (hT : ∀ x, T x → x < w.heap.size ∧ x ≠ b) (hV : ∀ x, V x → x < w.heap.size ∧ x ≠ b) (hb : BoxAt T w b e ds) (hk : ds.all boxK = true) (hR : ∀ x, V x → T x ∨ s = false) (h : ArgsIn V w xs vs) :
    Rel (envB w b T V) (bsC w b T V) (initC fe e s ds xs) { tmps := (Value.pointer (some ⟨b, 0, none⟩) :: vs).toArray ++ Array.replicate (fe.fn.ntmps - (Value.pointer (some ⟨b, 0, none⟩) :: vs).toArray.size) undef, defers := [] } w := by
  obtain ⟨hl, hj⟩ := argsIn_at xs vs h
  obtain ⟨cur, hh, hcell⟩ := hb
  have hbl : b < w.heap.size := (Array.getElem?_eq_some_iff.1 hh).1
  have hu : ∀ x, (envB w b T V).U x ↔ (x < w.heap.size ∧ x ≠ b) := fun x => env_u x
  have ht : ∀ x, (envB w b T V).T x ↔ T x := fun x => env_t hT x
  have hv : ∀ x, (envB w b T V).V x ↔ V x := fun x => env_v hV x
  refine ⟨⟨fun x y hx => ?_, fun x y hx h2 => ?_, fun x hx => ((hu x).1 hx).1⟩, rfl, ?_, fun t p hp => ?_, fun m c hm => ?_, Bs.Ext.refl (bsC w b T V), ⟨hu, ht, hv, fun x hx => ?_⟩⟩
  · simp only [envB] at hx
    split at hx
    · rename_i h; rw [h]; exact hbl
    · cases hx
  · simp only [envB] at hx
    split at hx
    · rename_i h; exact ((hu x).1 h2).2 h
    · cases hx
  · simp only [initC, List.length_cons, List.length_append, List.length_map, List.length_replicate, Array.size_append, Array.size_replicate, List.size_toArray, hl]
    omega
  · refine tmps_at (ps := PV.c (.ptr curN ds.length 0 0) :: xs.map (thawD2 s)) (vs := Value.pointer (some ⟨b, 0, none⟩) :: vs) (by simp [hl]) (fun j p v hp hv' => ?_) (n := fe.fn.ntmps) (t := t) (p := p) (by
      simp only [initC, List.length_cons, List.length_map] at hp ⊢
      exact hp)
    cases j with
    | zero =>
      simp only [List.getElem?_cons_zero, Option.some.injEq] at hp hv'
      subst hp; subst hv'
      exact ⟨b, by simp [envB], by simp⟩
    | succ j =>
      simp only [List.getElem?_cons_succ] at hp hv'
      rw [List.getElem?_map, Option.map_eq_some_iff] at hp
      obtain ⟨x, hx, rfl⟩ := hp
      refine CvP.of_CvV (thawD2_sound (E := envB w b T V) (R := V) (fun x hx => ?_) (hj j x v hx hv'))
      rcases hR x hx with h | h
      · exact .inl ((ht x).2 h)
      · exact .inr ⟨h, .inl ((hv x).2 hx)⟩
  · have h1 : m = curN ∧ c = ⟨false, true, e, ds.length, [ds.map boxC]⟩ := by
      simp only [initC, look] at hm
      split at hm
      · rename_i h
        injection hm with hm
        first
          | exact ⟨h, hm.symm⟩
          | exact ⟨h.symm, hm.symm⟩
          | exact ⟨(eq_of_beq h), hm.symm⟩
          | exact ⟨(eq_of_beq h).symm, hm.symm⟩
      · cases hm
    obtain ⟨rfl, rfl⟩ := h1
    refine .inr ⟨b, cur, (0, 0), by simp [envB], by simp [envB], hh, rfl, fun h => (by cases h), fun x es' hx' => ?_⟩
    cases x with
    | succ x => simp at hx'
    | zero =>
      simp only [List.getElem?_cons_zero, Option.some.injEq] at hx'
      subst hx'
      refine ⟨by rw [List.length_map], fun j p hp => ?_⟩
      rw [List.getElem?_map, Option.map_eq_some_iff] at hp
      obtain ⟨d, hd', rfl⟩ := hp
      obtain ⟨u, hu', hr⟩ := hcell j d hd'
      exact ⟨u, by simpa using hu', boxC_cv (Rd.mono hr (fun x hx => (ht x).2 hx) (same_refl _ _)) (List.all_eq_true.1 hk d (List.mem_of_getElem? hd'))⟩
  · simp only [bsC, Option.some.injEq] at hx
    subst hx
    simp [envB]
theorem initC_fresh {fe : FE} {e : Nat} {s : Bool} {ds : List DT} {xs : List Arg} {w : World} {b : Nat} {T V : Nat → Prop} : Fresh (envB w b T V) (initC fe e s ds xs).cnt ∧ Simple (initC fe e s ds xs).hp := by
  refine ⟨fun m hm => ?_, fun n c hc => ?_⟩
  · simp only [envB] at hm
    split at hm
    · rename_i h; rw [h]; exact Nat.lt_succ_self 0
    · exact absurd rfl hm
  · simp only [initC, look] at hc
    split at hc
    · injection hc with hc; subst hc; intro h; cases h
    · cases hc
/-- the box at the end -/
theorem resultC_box {T : TT} {fn : Func} {e n : Nat} {v : Bool} {E : Env} {w0 : Bs} {σ : St} {a : Act} {w : World} (R : Rel E w0 σ a w) {b : Nat} (hc : w0.cur = some b) {zs : List Arg} (h : resultC prims T fn e n v σ = some zs) : ∃ ds', E.ω b = some (curN, none) ∧ BoxAt E.T w b e ds' ∧ (v = true → (resultR prims T fn ⟨σ.tm, del σ.hp curN, σ.cnt⟩).map (fun ys => Arg.v (.fn 0 []) :: Arg.v (.ptr ds') :: ys) = some zs) ∧ (v = false → (result prims T fn ⟨σ.tm, del σ.hp curN, σ.cnt⟩).map (fun ys => Arg.v (.ptr ds') :: ys) = some zs) := by
  unfold resultC at h
  split at h
  · rename_i e' k' es hlk
    split at h
    · rename_i he
      obtain ⟨rfl, _⟩ := he
      split at h
      · rename_i ds' hds
        have hφ := R.bs.c b hc
        rcases R.blk curN _ hlk with ⟨_, h1, _⟩ | ⟨b', cur, fz, hφ', hω, hh, hfz, _, hc⟩
        · cases h1
        rw [hφ] at hφ'
        injection hφ' with hφ'
        injection hφ' with hφ'
        subst hφ'
        have hfz' : fz = (0, 0) := hfz
        subst hfz'
        refine ⟨ds', hω, ⟨cur, hh, fun j d hd => ?_⟩, fun hv => (by subst hv; exact h), fun hv => (by subst hv; exact h)⟩
        obtain ⟨hkl, hcell⟩ := hc 0 es rfl
        obtain ⟨hdl, hdj⟩ := mapO_at hds
        have hjl : j < es.length := by rw [← hdl]; exact (List.getElem?_eq_some_iff.1 hd).1
        have hp : es[j]? = some es[j] := List.getElem?_eq_getElem hjl
        obtain ⟨u, hu, hC⟩ := hcell j _ hp
        obtain ⟨d2, hd2, hb2⟩ := hdj j _ hp
        rw [hd2] at hd
        injection hd with hd
        subst hd
        exact ⟨u, by simpa using hu, boxD_rd hC hb2⟩
      · cases h
    · cases h
  · cases h
theorem resultCB_box {T : TT} {fn : Func} {e n : Nat} {E : Env} {w0 : Bs} {σ : St} {a : Act} {w : World} (R : Rel E w0 σ a w) {b : Nat} (hc : w0.cur = some b) {zs : List Arg} (h : resultCB prims T fn e n σ = some zs) : ∃ ds', E.ω b = some (curN, none) ∧ BoxAt E.T w b e ds' ∧ (resultB prims T fn ⟨σ.tm, del σ.hp curN, σ.cnt⟩).map (fun y => [Arg.v (.fn 3 []), Arg.v (.ptr ds'), y]) = some zs := by
  unfold resultCB at h
  split at h
  · rename_i e' k' es hlk
    split at h
    · rename_i he
      obtain ⟨rfl, _⟩ := he
      split at h
      · rename_i ds' hds
        have hφ := R.bs.c b hc
        rcases R.blk curN _ hlk with ⟨_, h1, _⟩ | ⟨b', cur, fz, hφ', hω, hh, hfz, _, hc⟩
        · cases h1
        rw [hφ] at hφ'
        injection hφ' with hφ'
        injection hφ' with hφ'
        subst hφ'
        have hfz' : fz = (0, 0) := hfz
        subst hfz'
        refine ⟨ds', hω, ⟨cur, hh, fun j d hd => ?_⟩, h⟩
        obtain ⟨hkl, hcell⟩ := hc 0 es rfl
        obtain ⟨hdl, hdj⟩ := mapO_at hds
        have hjl : j < es.length := by rw [← hdl]; exact (List.getElem?_eq_some_iff.1 hd).1
        have hp : es[j]? = some es[j] := List.getElem?_eq_getElem hjl
        obtain ⟨u, hu, hC⟩ := hcell j _ hp
        obtain ⟨d2, hd2, hb2⟩ := hdj j _ hp
        rw [hd2] at hd
        injection hd with hd
        subst hd
        exact ⟨u, by simpa using hu, boxD_rd hC hb2⟩
      · cases h
    · cases h
  · cases h
theorem BoxAt.up {T T' : Nat → Prop} {w : World} {b e : Nat} {ds : List DT} (h : BoxAt T w b e ds) (hT : ∀ x, T x → T' x) : BoxAt T' w b e ds := by
  obtain ⟨cur, h1, h2⟩ := h
  exact ⟨cur, h1, fun j d hd => by
    obtain ⟨u, hu, hr⟩ := h2 j d hd
    exact ⟨u, hu, Rd.mono hr hT (same_refl _ _)⟩⟩
theorem ArgsIn.up {R R' : Nat → Prop} {w : World} (h : ∀ b, R b → R' b) : ∀ (xs : List Arg) (vs : List Value), ArgsIn R w xs vs → ArgsIn R' w xs vs
  | [], [], _ => trivial
  | [], _ :: _, k => k.elim
  | _ :: _, [], k => k.elim
  | x :: xs, v :: vs, k => ⟨ArgRd.up h k.1, ArgsIn.up h xs vs k.2⟩
theorem bsC_ext {w w' : World} {b : Nat} {T V : Nat → Prop} (h : (bsC w b T V).Ext w') : (bsX w fun x => x = b).Ext w' := ⟨h.os, h.tape, h.output, h.size, h.block, h.sz⟩
theorem evBodyC_sound {P : Program} {T : TT} (hT : ∀ t ti, T t = some ti → ttOf P t = some ti) {F : Fns} {w0 : Bs} (hF : Sound P F w0) (hv : viewIds = []) {ok : Array Oper → Bool} (hD : ∀ w, Sound P F w → DrawOk P T F ok w) (hC : CanonOk) {g : FuncId} {fe : FE} (hf : P.funcs[g]? = some fe.fn) (hb : fe.fn.body = some fe.body) (hE : Enters P g) (hok : codeOk ok fe.body = true) {e : Nat} (he : curE g = some e) {xs rs : List Arg} {ds' : List DT} (h : evBodyC prims (fun F lv => aloop F lv fuel) T F fe e false xs = some (.v (.ptr ds') :: rs)) : PtrOk P w0 g xs (.v (.ptr ds') :: rs) := by
  unfold evBodyC at h
  split at h
  rotate_left
  · cases h
  rename_i ds rest
  split at h
  rotate_left
  · cases h
  rename_i hk
  refine ⟨ds, rest, ds', rs, rfl, rfl, hE, e, he, fun w b Ts vs hw hfar hTs hbox hargs => ?_⟩
  refine calls_of_wp hf hb (Code.wp_mono (fun e' a w' q => ?_) (aexec_sound hT hD hC fe.body (bsC w b Ts (fun x => x < w.heap.size ∧ x ≠ b)) (hF.at hw (fun k hk hc h => by
    have h : k = b := h
    subst h
    exact hfar.elim (fun h => absurd hk (Nat.not_lt.2 h)) hc) (.inr hv)) _ _ _ _ w hok (initC_rel fe hTs (fun _ h => h) hbox hk (fun _ _ => .inr rfl) hargs) initC_fresh h))
  obtain ⟨w1, E, σ, x, hx, R, _, rfl, hk2⟩ := q
  have fin : resultC prims T fe.fn e ds.length false σ = some (.v (.ptr ds') :: rs) → ∃ v, (results fe.fn a.tmps).run P w' = .ok v w' ∧ ∃ us ω, Ending.returned v = .returned (packV us) ∧ (bsX w fun x => x = b).Ext w' ∧ BoxAt Ts w' b e ds' ∧ ResOw w' (fun x => w.heap.size ≤ x ∧ x < w'.heap.size) ω 0 rs us := fun hr => by
    obtain ⟨ds2, hω, hbx, _, hr⟩ := resultC_box R hx.cur hr
    replace hr := hr rfl
    simp only [Option.map_eq_some_iff, List.cons.injEq, Arg.v.injEq, DT.ptr.injEq, true_and] at hr
    obtain ⟨ys, hr2, rfl, rfl⟩ := hr
    have R2 := R.unbox hω
    have hN : ∀ x, (without E b).ω x ≠ none → w.heap.size ≤ x ∧ x < w'.heap.size := fun x hx' => by
      obtain ⟨hf2, hl2⟩ := ours R2 hx'
      refine ⟨?_, hl2⟩
      rcases far_up hx hf2 with h | h
      · exact h
      · have h : x = b := h
        subst h
        exact absurd (by simp [without]) hx'
    have hbx2 : BoxAt Ts w' b e ds2 := hbx.up fun x h => (hx.tv rfl).1 x ((R.bs.t x).1 h)
    obtain ⟨v, h1, us, ω, h2, h3, h4⟩ := resultE_sound hT R2 hr2
    exact ⟨v, h1, us, ω, h2, bsC_ext (hx.up h3), hbx2, ResOw.up hN _ _ _ h4⟩
  cases x with
  | normal => obtain ⟨v, h1, h2⟩ := fin hk2; exact ⟨R.dfr, v, h1, h2⟩
  | ret => obtain ⟨v, h1, h2⟩ := fin hk2; exact ⟨R.dfr, v, h1, h2⟩
  | exit id => cases hk2
theorem evBodyW_sound {P : Program} {T : TT} (hT : ∀ t ti, T t = some ti → ttOf P t = some ti) {F : Fns} {w0 : Bs} (hF : Sound P F w0) (hv : viewIds = []) {ok : Array Oper → Bool} (hD : ∀ w, Sound P F w → DrawOk P T F ok w) (hC : CanonOk) {g : FuncId} {fe : FE} (hf : P.funcs[g]? = some fe.fn) (hb : fe.fn.body = some fe.body) (hE : Enters P g) (hok : codeOk ok fe.body = true) {e : Nat} (he : curE g = some e) {xs rs : List Arg} {ds' : List DT} (h : evBodyC prims (fun F lv => aloop F lv fuel) T F fe e true xs = some (.v (.fn 0 []) :: .v (.ptr ds') :: rs)) : CvwOk P w0 g xs (.v (.fn 0 []) :: .v (.ptr ds') :: rs) := by
  unfold evBodyC at h
  split at h
  rotate_left
  · cases h
  rename_i ds rest
  split at h
  rotate_left
  · cases h
  rename_i hk
  refine ⟨ds, rest, ds', rs, rfl, rfl, hE, e, he, fun w b Ts vs hw hfar hTs hbox hargs => ?_⟩
  refine calls_of_wp hf hb (Code.wp_mono (fun e' a w' q => ?_) (aexec_sound hT hD hC fe.body (bsC w b Ts Ts) (hF.at hw (fun k hk hc h => by
    have h : k = b := h
    subst h
    exact hfar.elim (fun h => absurd hk (Nat.not_lt.2 h)) hc) (.inr hv)) _ _ _ _ w hok (initC_rel fe hTs hTs hbox hk (fun _ h => .inl h) hargs) initC_fresh h))
  obtain ⟨w1, E, σ, x, hx, R, _, rfl, hk2⟩ := q
  have fin : resultC prims T fe.fn e ds.length true σ = some (.v (.fn 0 []) :: .v (.ptr ds') :: rs) → ∃ v, (results fe.fn a.tmps).run P w' = .ok v w' ∧ ∃ us, Ending.returned v = .returned (packV us) ∧ (bsX w fun x => x = b).Ext w' ∧ BoxAt Ts w' b e ds' ∧ ArgsIn (fun x => Ts x ∨ (w.heap.size ≤ x ∧ x < w'.heap.size)) w' rs us := fun hr => by
    obtain ⟨ds2, hω, hbx, hr, _⟩ := resultC_box R hx.cur hr
    replace hr := hr rfl
    simp only [Option.map_eq_some_iff, List.cons.injEq, Arg.v.injEq, DT.ptr.injEq, true_and] at hr
    obtain ⟨ys, hr2, rfl, rfl⟩ := hr
    have R2 := R.unbox hω
    have hN : ∀ x, (without E b).ω x ≠ none → w.heap.size ≤ x ∧ x < w'.heap.size := fun x hx' => by
      obtain ⟨hf2, hl2⟩ := ours R2 hx'
      refine ⟨?_, hl2⟩
      rcases far_up hx hf2 with h | h
      · exact h
      · have h : x = b := h
        subst h
        exact absurd (by simp [without]) hx'
    have hbx2 : BoxAt Ts w' b e ds2 := hbx.up fun x h => (hx.tv rfl).1 x ((R.bs.t x).1 h)
    obtain ⟨vs2, h1, h2⟩ := resultR_sound hT R2 hr2
    refine ⟨_, h1, vs2, rfl, bsC_ext (hx.up R.kp), hbx2, ArgsIn.up (fun x hx' => ?_) _ _ h2⟩
    rcases hx'.2 with h | h | h
    · exact .inr (hN x h)
    · exact .inl ((hx.tv rfl).1 x ((R.bs.t x).1 h))
    · rcases (hx.tv rfl).2 x ((R.bs.v x).1 h) with h | h
      · exact .inl h
      · exact .inr ⟨h, hx'.1⟩
  cases x with
  | normal => obtain ⟨v, h1, h2⟩ := fin hk2; exact ⟨R.dfr, v, h1, h2⟩
  | ret => obtain ⟨v, h1, h2⟩ := fin hk2; exact ⟨R.dfr, v, h1, h2⟩
  | exit id => cases hk2
theorem evBodyCB_sound {P : Program} {T : TT} (hT : ∀ t ti, T t = some ti → ttOf P t = some ti) {F : Fns} {w0 : Bs} (hF : Sound P F w0) (hv : viewIds = []) {ok : Array Oper → Bool} (hD : ∀ w, Sound P F w → DrawOk P T F ok w) (hC : CanonOk) {g : FuncId} {fe : FE} (hf : P.funcs[g]? = some fe.fn) (hb : fe.fn.body = some fe.body) (hE : Enters P g) (hok : codeOk ok fe.body = true) {e : Nat} (he : curE g = some e) {xs : List Arg} {ds' : List DT} {t k : Nat} {l : List (List DT)} (h : evBodyCB prims (fun F lv => aloop F lv fuel) T F fe e xs = some [.v (.fn 3 []), .v (.ptr ds'), .v (.sl t k l)]) : CvbOk P w0 g xs [.v (.fn 3 []), .v (.ptr ds'), .v (.sl t k l)] := by
  unfold evBodyCB at h
  split at h
  rotate_left
  · cases h
  rename_i ds rest
  split at h
  rotate_left
  · cases h
  rename_i hk
  refine ⟨ds, rest, ds', t, k, l, rfl, rfl, hE, e, he, fun w b Ts vs hw hfar hTs hbox hargs => ?_⟩
  refine calls_of_wp hf hb (Code.wp_mono (fun e' a w' q => ?_) (aexec_sound hT hD hC fe.body (bsC w b Ts Ts) (hF.at hw (fun k hk hc h => by
    have h : k = b := h
    subst h
    exact hfar.elim (fun h => absurd hk (Nat.not_lt.2 h)) hc) (.inr hv)) _ _ _ _ w hok (initC_rel fe hTs hTs hbox hk (fun _ h => .inl h) hargs) initC_fresh h))
  obtain ⟨w1, E, σ, x, hx, R, _, rfl, hk2⟩ := q
  have fin : resultCB prims T fe.fn e ds.length σ = some [.v (.fn 3 []), .v (.ptr ds'), .v (.sl t k l)] → ∃ v, (results fe.fn a.tmps).run P w' = .ok v w' ∧ ∃ v', Ending.returned v = .returned v' ∧ (bsX w fun x => x = b).Ext w' ∧ BoxAt Ts w' b e ds' ∧ ((v' = .slice none 0 0 ∧ l = []) ∨ ∃ g', w.heap.size ≤ g' ∧ RowAt (fun x => Ts x ∨ (w.heap.size ≤ x ∧ x < w'.heap.size ∧ x ≠ g')) w' g' v' t k l) := fun hr => by
    obtain ⟨ds2, hω, hbx, hr⟩ := resultCB_box R hx.cur hr
    simp only [Option.map_eq_some_iff, List.cons.injEq, Arg.v.injEq, DT.ptr.injEq, true_and, and_true] at hr
    obtain ⟨y, hr2, rfl, rfl⟩ := hr
    have R2 := R.unbox hω
    have hN : ∀ x, (without E b).ω x ≠ none → w.heap.size ≤ x ∧ x < w'.heap.size := fun x hx' => by
      obtain ⟨hf2, hl2⟩ := ours R2 hx'
      refine ⟨?_, hl2⟩
      rcases far_up hx hf2 with h | h
      · exact h
      · have h : x = b := h
        subst h
        exact absurd (by simp [without]) hx'
    have hbx2 : BoxAt Ts w' b e ds2 := hbx.up fun x h => (hx.tv rfl).1 x ((R.bs.t x).1 h)
    obtain ⟨v, t2, k2, l2, h1, h2, h3⟩ := resultB_sound hT R2 hr2
    simp only [Arg.v.injEq, DT.sl.injEq] at h2
    obtain ⟨rfl, rfl, rfl⟩ := h2
    refine ⟨v, h1, v, rfl, bsC_ext (hx.up R.kp), hbx2, ?_⟩
    rcases h3 with h3 | ⟨g2, n2, hg2, c, cur, fz, hv, hh, hf, h4, h5, h6, h7⟩
    · exact .inl h3
    · refine .inr ⟨g2, (hN g2 (by rw [hg2]; exact fun h => by cases h)).1, c, cur, fz, hv, hh, hf, h4, h5, h6, fun x es hx' => ⟨(h7 x es hx').1, fun j d hd => ?_⟩⟩
      obtain ⟨u, hu, hr⟩ := (h7 x es hx').2 j d hd
      refine ⟨u, hu, Rd.mono hr (fun x hx' => ?_) (same_refl _ _)⟩
      have hne : x ≠ g2 := fun h => by
        subst h
        rcases hx'.2 with h | h | ⟨n3, c3, h⟩
        · exact R2.wf.nb x _ hg2 h.1
        · exact R2.wf.nb x _ hg2 h.1
        · rw [hg2] at h; injection h with h; injection h with _ h; cases h
      rcases hx'.2 with h | h | ⟨n3, c3, h⟩
      · exact .inl ((hx.tv rfl).1 x ((R.bs.t x).1 h))
      · rcases (hx.tv rfl).2 x ((R.bs.v x).1 h) with h | h
        · exact .inl h
        · exact .inr ⟨h, hx'.1, hne⟩
      · exact .inr ⟨(hN x (by rw [h]; exact fun h => by cases h)).1, hx'.1, hne⟩
  cases x with
  | normal => obtain ⟨v, h1, h2⟩ := fin hk2; exact ⟨R.dfr, v, h1, h2⟩
  | ret => obtain ⟨v, h1, h2⟩ := fin hk2; exact ⟨R.dfr, v, h1, h2⟩
  | exit id => cases hk2
/-- the base of a function that is given nothing to write -/
def bsT (w : World) (T : Nat → Prop) : Bs := ⟨w, fun _ => False, T, T, none, true⟩
def envT (w : World) (T : Nat → Prop) : Env := ⟨fun _ => none, fun _ => none, mkB (fun x => x < w.heap.size) T T⟩
theorem initT_rel (fe : FE) {xs : List Arg} {vs : List Value} {w : World} {T : Nat → Prop} (hT : ∀ x, T x → x < w.heap.size) (h : ArgsIn T w xs vs) :
    Rel (envT w T) (bsT w T) (initSt fe xs) { tmps := vs.toArray ++ Array.replicate (fe.fn.ntmps - vs.toArray.size) undef, defers := [] } w := by
  obtain ⟨hl, hj⟩ := argsIn_at xs vs h
  have hu : ∀ x, (envT w T).U x ↔ x < w.heap.size := fun x => env_u x
  have ht : ∀ x, (envT w T).T x ↔ T x := fun x => env_t hT x
  have hv : ∀ x, (envT w T).V x ↔ T x := fun x => env_v hT x
  refine ⟨⟨(fun x y hx => by cases hx), (fun x y hx => by cases hx), fun x hx => (hu x).1 hx⟩, rfl, by simp [initSt, hl], fun t p hp => ?_, (fun m c hm => by cases hm), Bs.Ext.refl (bsT w T), ⟨fun x => (hu x).trans ⟨fun h => ⟨h, fun k => k⟩, fun h => h.1⟩, ht, hv, fun x hx => by cases hx⟩⟩
  refine tmps_at (ps := xs.map thawA) (vs := vs) (by simp [hl]) (fun j p v hp hv' => ?_) (n := fe.fn.ntmps) (t := t) (p := p) (by
    simp only [initSt] at hp
    rw [List.length_map]
    exact hp)
  rw [List.getElem?_map, Option.map_eq_some_iff] at hp
  obtain ⟨x, hx, rfl⟩ := hp
  have := thawD2_sound (E := envT w T) (R := T) (s := true) (fun x hx => .inl ((ht x).2 hx)) (hj j x v hx hv')
  cases x with
  | v d => exact CvP.of_CvV this
  | a l => exact CvP.of_CvV this
theorem initT_fresh {fe : FE} {xs : List Arg} {w : World} {T : Nat → Prop} : Fresh (envT w T) (initSt fe xs).cnt ∧ Simple (initSt fe xs).hp := ⟨fun m hm => absurd rfl hm, fun n c hc => by cases hc⟩
theorem bsT_ext {w w' : World} {T : Nat → Prop} (h : (bsT w T).Ext w') : Ext w w' := ⟨h.os, h.tape, h.output, h.size, fun i hi => h.block i hi fun k => k⟩
theorem bsT_ours {w : World} {T : Nat → Prop} {w1 : Bs} (hx : Le (bsT w T) w1) {E : Env} {σ : St} {a : Act} {w' : World} (R : Rel E w1 σ a w') {x : Nat} (h : E.ω x ≠ none) : w.heap.size ≤ x ∧ x < w'.heap.size := by
  obtain ⟨hf2, hl2⟩ := ours R h
  exact ⟨(far_up hx hf2).elim (fun h => h) (fun h => h.elim), hl2⟩
theorem evBodyS_sound {P : Program} {T : TT} (hT : ∀ t ti, T t = some ti → ttOf P t = some ti) {F : Fns} {w0 : Bs} (hF : Sound P F w0) (hv : viewIds = []) {ok : Array Oper → Bool} (hD : ∀ w, Sound P F w → DrawOk P T F ok w) (hC : CanonOk) {g : FuncId} {fe : FE} (hf : P.funcs[g]? = some fe.fn) (hb : fe.fn.body = some fe.body) (hE : Enters P g) (hok : codeOk ok fe.body = true) {xs rs : List Arg} (h : evBodyS prims (fun F lv => aloop F lv fuel) T F fe xs = some (.v (.fn 1 []) :: rs)) : ShrOk P w0 g xs (.v (.fn 1 []) :: rs) := by
  refine ⟨rs, rfl, hE, fun w Ts vs hw hTs hargs => ?_⟩
  refine calls_of_wp hf hb (Code.wp_mono (fun e' a w' q => ?_) (aexec_sound hT hD hC fe.body (bsT w Ts) (hF.at hw (fun k _ _ h => h) (.inr hv)) _ _ _ _ w hok (initT_rel fe hTs hargs) initT_fresh h))
  obtain ⟨w1, E, σ, x, hx, R, _, rfl, hk2⟩ := q
  have fin : (resultR prims T fe.fn σ).map (Arg.v (.fn 1 []) :: ·) = some (.v (.fn 1 []) :: rs) → ∃ v, (results fe.fn a.tmps).run P w' = .ok v w' ∧ ∃ us, Ending.returned v = .returned (packV us) ∧ Ext w w' ∧ ArgsIn (fun x => Ts x ∨ (w.heap.size ≤ x ∧ x < w'.heap.size)) w' rs us := fun hr => by
    simp only [Option.map_eq_some_iff, List.cons.injEq, true_and] at hr
    obtain ⟨ys, hr, rfl⟩ := hr
    obtain ⟨vs2, h1, h2⟩ := resultR_sound hT R hr
    refine ⟨_, h1, vs2, rfl, bsT_ext (hx.up R.kp), ArgsIn.up (fun x hx' => ?_) _ _ h2⟩
    rcases hx'.2 with h | h | h
    · exact .inr (bsT_ours hx R h)
    · exact .inl ((hx.tv rfl).1 x ((R.bs.t x).1 h))
    · rcases (hx.tv rfl).2 x ((R.bs.v x).1 h) with h | h
      · exact .inl h
      · exact .inr ⟨h, hx'.1⟩
  cases x with
  | normal => obtain ⟨v, h1, h2⟩ := fin hk2; exact ⟨R.dfr, v, h1, h2⟩
  | ret => obtain ⟨v, h1, h2⟩ := fin hk2; exact ⟨R.dfr, v, h1, h2⟩
  | exit id => cases hk2
theorem evBodyN_sound {P : Program} {T : TT} (hT : ∀ t ti, T t = some ti → ttOf P t = some ti) {F : Fns} {w0 : Bs} (hF : Sound P F w0) (hv : viewIds = []) {ok : Array Oper → Bool} (hD : ∀ w, Sound P F w → DrawOk P T F ok w) (hC : CanonOk) {g : FuncId} {fe : FE} (hf : P.funcs[g]? = some fe.fn) (hb : fe.fn.body = some fe.body) (hE : Enters P g) (hok : codeOk ok fe.body = true) {e : Nat} (he : newE g = some e) {xs : List Arg} {ds : List DT} (h : evBodyN prims (fun F lv => aloop F lv fuel) T F fe e xs = some [.v (.fn 2 []), .v (.ptr ds)]) : NewOk P w0 g xs [.v (.fn 2 []), .v (.ptr ds)] := by
  refine ⟨ds, e, rfl, hE, he, fun w Ts vs hw hTs hargs => ?_⟩
  refine calls_of_wp hf hb (Code.wp_mono (fun e' a w' q => ?_) (aexec_sound hT hD hC fe.body (bsT w Ts) (hF.at hw (fun k _ _ h => h) (.inr hv)) _ _ _ _ w hok (initT_rel fe hTs hargs) initT_fresh h))
  obtain ⟨w1, E, σ, x, hx, R, _, rfl, hk2⟩ := q
  have fin : resultN prims T fe.fn e σ = some [.v (.fn 2 []), .v (.ptr ds)] → ∃ v, (results fe.fn a.tmps).run P w' = .ok v w' ∧ ∃ b, Ending.returned v = .returned (.pointer (some ⟨b, 0, none⟩)) ∧ Ext w w' ∧ w.heap.size ≤ b ∧ BoxAt Ts w' b e ds := fun hr => by
    obtain ⟨b, ds2, h1, h2, h3, h4⟩ := resultN_sound hT R hr
    simp only [List.cons.injEq, Arg.v.injEq, DT.ptr.injEq, true_and, and_true] at h2
    subst h2
    exact ⟨_, h1, b, rfl, bsT_ext (hx.up R.kp), (bsT_ours hx R h3).1, h4.up fun x h => (hx.tv rfl).1 x ((R.bs.t x).1 h)⟩
  cases x with
  | normal => obtain ⟨v, h1, h2⟩ := fin hk2; exact ⟨R.dfr, v, h1, h2⟩
  | ret => obtain ⟨v, h1, h2⟩ := fin hk2; exact ⟨R.dfr, v, h1, h2⟩
  | exit id => cases hk2
theorem evSpc_sound {P : Program} {T : TT} (hT : ∀ t ti, T t = some ti → ttOf P t = some ti) {F : Fns} {w0 : Bs} (hF : Sound P F w0) (hv : viewIds = []) {ok : Array Oper → Bool} (hD : ∀ w, Sound P F w → DrawOk P T F ok w) (hC : CanonOk) {g : FuncId} {fe : FE} (hf : P.funcs[g]? = some fe.fn) (hb : fe.fn.body = some fe.body) (hE : Enters P g) (hok : codeOk ok fe.body = true) {xs zs : List Arg} (h : evSpc prims (fun F lv => aloop F lv fuel) T F g fe xs = some zs) : PtrOk P w0 g xs zs ∨ CvwOk P w0 g xs zs ∨ ShrOk P w0 g xs zs ∨ NewOk P w0 g xs zs ∨ CvbOk P w0 g xs zs := by
  unfold evSpc at h
  split at h
  · rename_i e he
    unfold shpN at h
    split at h
    · rename_i ds hr
      injection h with h
      subst h
      exact .inr (.inr (.inr (.inl (evBodyN_sound hT hF hv hD hC hf hb hE hok he hr))))
    · cases h
  · split at h
    · rename_i e he
      split at h
      · unfold shpB at h
        split at h
        · rename_i ds t k l hr
          injection h with h
          subst h
          exact .inr (.inr (.inr (.inr (evBodyCB_sound hT hF hv hD hC hf hb hE hok he hr))))
        · cases h
      split at h
      · unfold shpW at h
        split at h
        · rename_i ds rs hr
          injection h with h
          subst h
          exact .inr (.inl (evBodyW_sound hT hF hv hD hC hf hb hE hok he hr))
        · cases h
      · unfold shpC at h
        split at h
        · rename_i ds rs hr
          injection h with h
          subst h
          exact .inl (evBodyC_sound hT hF hv hD hC hf hb hE hok he hr)
        · cases h
    · unfold shpS at h
      split at h
      · rename_i rs hr
        injection h with h
        subst h
        exact .inr (.inr (.inl (evBodyS_sound hT hF hv hD hC hf hb hE hok hr)))
      · cases h
theorem viewF_spec {f g : Nat} (h : viewF f = some g) : f = g + 2 ^ 40 ∧ viewIds.contains g = true := by
  unfold viewF at h
  by_cases hc : 2 ^ 40 ≤ f ∧ viewIds.contains (f - 2 ^ 40) = true
  · rw [if_pos hc] at h
    have h1 := hc.1
    have h2 : f - 2 ^ 40 = g := Option.some.inj h
    exact ⟨(Nat.sub_eq_iff_eq_add h1).1 h2, h2 ▸ hc.2⟩
  · rw [if_neg hc] at h
    cases h
theorem spcF_spec {f g : Nat} (h : spcF f = some g) : f = g + 2 ^ 40 ∧ viewIds = [] := by
  unfold spcF at h
  by_cases hc : 2 ^ 40 ≤ f ∧ spcB (f - 2 ^ 40) = true
  · rw [if_pos hc] at h
    have h1 := hc.1
    have h2 : f - 2 ^ 40 = g := Option.some.inj h
    have h3 := hc.2
    unfold spcB at h3
    rw [Bool.and_eq_true] at h3
    exact ⟨(Nat.sub_eq_iff_eq_add h1).1 h2, List.isEmpty_iff.1 h3.1⟩
  · rw [if_neg hc] at h
    cases h
/-- THE INTERPRETER TELLS THE TRUTH. -/
theorem ev_sound {P : Program} {T : TT} (hT : ∀ t ti, T t = some ti → ttOf P t = some ti) {ok : Array Oper → Bool} (hD : ∀ F w, Sound P F w → DrawOk P T F ok w) (hC : CanonOk) {X : Fns} {w0 : Bs} (hX : Sound P X w0) (hm : w0.m = false ∧ w0.cur = none) {G : FuncId → Option FE} (hG : ∀ f fe, G f = some fe → f < 2 ^ 40 ∧ Enters P f ∧ P.funcs[f]? = some fe.fn ∧ fe.fn.body = some fe.body ∧ codeOk ok fe.body = true) : ∀ n, Sound P (ev prims G X T n) w0
  | 0 => hX
  | n + 1 => fun f xs ys h => by
    simp only [ev] at h
    split at h
    · rename_i fe hfe
      obtain ⟨h0, h1, h2, h3, h4⟩ := hG f fe hfe
      have hS := ev_sound hT hD hC hX hm hG n
      exact ⟨fun _ => ⟨h1, fun w vs hx hv => evBody_sound hT (hS.at hx (fun _ _ _ h => h) (.inl ⟨hm.2.symm, hm.1.symm⟩)) (hD _) hC h2 h3 h4 h hv⟩, fun g hg => absurd h0 (by rw [hg]; exact Nat.not_lt.2 (Nat.le_add_left _ _))⟩
    · split at h
      · rename_i g hg
        split at h
        · rename_i fe hfe
          obtain ⟨h0, h1, h2, h3, h4⟩ := hG g fe hfe
          have hS := ev_sound hT hD hC hX hm hG n
          obtain ⟨hfg, hvi⟩ := viewF_spec hg
          unfold shapeV at h
          split at h
          · rename_i e k l rest hr
            injection h with h
            subst h
            refine ⟨fun hlt => absurd hlt (by rw [hfg]; exact Nat.not_lt.2 (Nat.le_add_left _ _)), fun g' hg' => ?_⟩
            have : g' = g := by rw [hfg] at hg'; exact (Nat.add_right_cancel hg').symm
            subst this
            exact .inr (.inr (.inl ⟨e, k, l, rfl, h1, ⟨hvi, hm⟩, fun w vs hx hv => evBodyV_sound hT (hS.at hx (fun _ _ _ h => h) (.inl ⟨hm.2.symm, hm.1.symm⟩)) (hD _) hC h2 h3 h4 hr hv⟩))
          · cases h
        · exact hX f xs ys h
      · split at h
        · rename_i g hg
          split at h
          · rename_i fe hfe
            obtain ⟨h0, h1, h2, h3, h4⟩ := hG g fe hfe
            have hS := ev_sound hT hD hC hX hm hG n
            obtain ⟨hfg, hvi⟩ := spcF_spec hg
            refine ⟨fun hlt => absurd hlt (by rw [hfg]; exact Nat.not_lt.2 (Nat.le_add_left _ _)), fun g' hg' => ?_⟩
            have : g' = g := by rw [hfg] at hg'; exact (Nat.add_right_cancel hg').symm
            subst this
            rcases evSpc_sound hT hS hvi (hD _) hC h2 h3 h1 h4 h with h | h | h | h | h
            · exact .inr (.inr (.inr (.inl h)))
            · exact .inr (.inr (.inr (.inr (.inl h))))
            · exact .inr (.inr (.inr (.inr (.inr (.inl h)))))
            · exact .inr (.inr (.inr (.inr (.inr (.inr (.inl h))))))
            · exact .inr (.inr (.inr (.inr (.inr (.inr (.inr h))))))
          · exact hX f xs ys h
        · exact hX f xs ys h
end Go.Proofs.YtifkepnfaggkiaaDoor
