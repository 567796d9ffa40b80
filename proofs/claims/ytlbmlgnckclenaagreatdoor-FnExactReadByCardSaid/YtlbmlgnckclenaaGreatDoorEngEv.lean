/- Functions: what the interpreter finds is what a call gives. -/
import Derived.Test.YtlbmlgnckclenaaGreatDoorEngRes
namespace Go.Proofs.YtlbmlgnckclenaaGreatDoor
open Go.RowKit
set_option linter.unusedVariables false
set_option linter.unusedSimpArgs false
set_option linter.unusedSectionVars false
theorem argsRd_at {w : World} : ∀ (xs : List Arg) (vs : List Value), ArgsRd w xs vs → vs.length = xs.length ∧ ∀ (j : Nat) x v, xs[j]? = some x → vs[j]? = some v → ArgRd (Lt w) w x v
  | [], [], _ => ⟨rfl, fun j x v h => by simp at h⟩
  | [], v :: vs, h => h.elim
  | x :: xs, [], h => h.elim
  | x :: xs, v :: vs, h => by
    obtain ⟨h1, h2⟩ := argsRd_at xs vs h.2
    refine ⟨by simp [h1], fun j x' v' hx hv => ?_⟩
    cases j with
    | zero =>
      simp only [List.getElem?_cons_zero, Option.some.injEq] at hx hv
      subst hx; subst hv
      exact h.1
    | succ j => exact h2 j x' v' (by simpa using hx) (by simpa using hv)
theorem thawA_sound {w : World} {x : Arg} {v : Value} (h : ArgRd (Lt w) w x v) : CvP (env0 w) w (thawA x) v := by
  cases x with
  | v d => exact thawD_sound (E := env0 w) (s := true) (fun b hb => .inl hb) h
  | a l =>
    obtain ⟨cs, rfl, hl, hj⟩ := h
    refine ⟨cs, rfl, by simp [hl], fun j x u hx hu => ?_⟩
    rw [List.getElem?_map] at hx
    cases hd : l[j]? with
    | none => simp [hd] at hx
    | some d =>
      simp only [hd, Option.map_some, Option.some.injEq] at hx
      subst hx
      exact thawD_sound (E := env0 w) (s := true) (fun b hb => .inl hb) (hj j d u hd hu)
theorem init_rel (fe : FE) {xs : List Arg} {vs : List Value} {w : World} (h : ArgsRd w xs vs) : Rel (env0 w) w (initSt fe xs) { tmps := vs.toArray ++ Array.replicate (fe.fn.ntmps - vs.toArray.size) undef, defers := [] } w := by
  obtain ⟨hl, hj⟩ := argsRd_at xs vs h
  refine ⟨env0_wf w, rfl, by simp [initSt, hl], fun t p hp => ?_, (fun i b hb => by cases hb), Ext.refl w, fun b => Iff.rfl⟩
  simp only [initSt] at hp
  by_cases ht : t < xs.length
  · rw [List.getElem?_append_left (by simpa using ht), List.getElem?_map] at hp
    cases hx : xs[t]? with
    | none => simp [hx] at hp
    | some x =>
      simp only [hx, Option.map_some, Option.some.injEq] at hp
      subst hp
      have hv : vs[t]? = some (vs[t]'(by omega)) := List.getElem?_eq_getElem (by omega)
      have : (vs.toArray ++ Array.replicate (fe.fn.ntmps - vs.toArray.size) undef).getD t undef = vs[t]'(by omega) := by
        rw [Array.getD_eq_getD_getElem?, Array.getElem?_append_left (by simp; omega), List.getElem?_toArray, hv]
        rfl
      show CvP _ _ _ ((vs.toArray ++ Array.replicate (fe.fn.ntmps - vs.toArray.size) undef).getD t undef)
      rw [this]
      exact thawA_sound (hj t x _ hx hv)
  · rw [List.getElem?_append_right (by simp; omega)] at hp
    have hp' : p = .c (.at undef) := by
      rw [List.getElem?_replicate] at hp
      split at hp
      · injection hp with hp; exact hp.symm
      · cases hp
    subst hp'
    show (vs.toArray ++ Array.replicate (fe.fn.ntmps - vs.toArray.size) undef).getD t undef = undef
    rw [Array.getD_eq_getD_getElem?, Array.getElem?_append_right (by simp; omega), Array.getElem?_replicate]
    split <;> rfl
theorem ResOw.up {w : World} {S S' : Nat → Prop} {ω : Nat → Option Nat} (h : ∀ b, S b → S' b) : ∀ (c : Nat) (ys : List Arg) (vs : List Value), ResOw w S ω c ys vs → ResOw w S' ω c ys vs
  | _, [], [], _ => trivial
  | _, [], _ :: _, hr => hr.elim
  | _, _ :: _, [], hr => hr.elim
  | c, y :: ys, v :: vs, hr => ⟨by
      have h1 := hr.1
      cases y with
      | v d => exact Ow.mono h1 (fun b hb => ⟨h b hb.1, hb.2⟩) (fun _ _ _ => rfl)
      | a l =>
        obtain ⟨cs, hv, hl, hj⟩ := h1
        exact ⟨cs, hv, hl, fun j d u hd hu => Ow.mono (hj j d u hd hu) (fun b hb => ⟨h b hb.1, hb.2⟩) (fun _ _ _ => rfl)⟩, ResOw.up h _ ys vs hr.2⟩
theorem gave_up {ys : List Arg} {w w1 w' : World} {e : Ending} (hx : Ext w w1) (h : Gave ys w1 e w') : Gave ys w e w' := by
  obtain ⟨vs, ω, he, h1, h2⟩ := h
  exact ⟨vs, ω, he, hx.trans h1, ResOw.up (fun b hb => ⟨Nat.le_trans hx.size hb.1, hb.2⟩) _ _ _ h2⟩
theorem evBody_sound {P : Program} {T : TT} (hT : ∀ t ti, T t = some ti → ttOf P t = some ti) {F : Fns} {w : World} (hF : Sound P F w) {ok : Array Oper → Bool} (hD : ∀ w, Sound P F w → DrawOk P T F ok w) (hC : CanonOk) {f : FuncId} {fe : FE} (hf : P.funcs[f]? = some fe.fn) (hb : fe.fn.body = some fe.body) (hok : codeOk ok fe.body = true) {xs ys : List Arg} (h : evBody prims (fun F lv => aloop F lv fuel) T F fe xs = some ys) {vs : List Value} (hv : ArgsRd w xs vs) : Calls P f vs.toArray w (Gave ys w) := by
  refine calls_of_wp hf hb (Code.wp_mono (fun e a w' q => ?_) (aexec_sound hT hD hC fe.body w hF _ _ _ _ w hok (init_rel fe hv) ⟨fun m hm => absurd rfl hm, fun n b hb => by cases hb⟩ h))
  obtain ⟨w1, E, σ, x, hx, R, _, rfl, hk⟩ := q
  cases x with
  | normal => obtain ⟨v, h1, h2⟩ := result_sound hT R hk; exact ⟨R.dfr, v, h1, gave_up hx h2⟩
  | ret => obtain ⟨v, h1, h2⟩ := result_sound hT R hk; exact ⟨R.dfr, v, h1, gave_up hx h2⟩
  | exit id => cases hk
theorem evBodyV_sound {P : Program} {T : TT} (hT : ∀ t ti, T t = some ti → ttOf P t = some ti) {F : Fns} {w : World} (hF : Sound P F w) {ok : Array Oper → Bool} (hD : ∀ w, Sound P F w → DrawOk P T F ok w) (hC : CanonOk) {f : FuncId} {fe : FE} (hf : P.funcs[f]? = some fe.fn) (hb : fe.fn.body = some fe.body) (hok : codeOk ok fe.body = true) {xs rest : List Arg} {e k : Nat} {l : List (List DT)} (h : evBodyV prims (fun F lv => aloop F lv fuel) T F fe xs = some (.v (.sl e k l) :: rest)) {vs : List Value} (hv : ArgsRd w xs vs) : Calls P f vs.toArray w fun e' w' => ∃ v, e' = .returned v ∧ Ext w w' ∧ Rd (Lt w') w' v (.sl e k l) := by
  refine calls_of_wp hf hb (Code.wp_mono (fun e' a w' q => ?_) (aexec_sound hT hD hC fe.body w hF _ _ _ _ w hok (init_rel fe hv) ⟨fun m hm => absurd rfl hm, fun n b hb => by cases hb⟩ h))
  obtain ⟨w1, E, σ, x, hx, R, _, rfl, hk⟩ := q
  have fin : resultV prims T fe.fn σ = some (.v (.sl e k l) :: rest) → ∃ v, (results fe.fn a.tmps).run P w' = .ok v w' ∧ ∃ v', Ending.returned v = .returned v' ∧ Ext w w' ∧ Rd (Lt w') w' v' (.sl e k l) := fun hk => by
    obtain ⟨v, e2, k2, l2, h1, h2, h3⟩ := resultV_sound hT R hk
    simp only [List.cons.injEq, Arg.v.injEq, DT.sl.injEq] at h2
    obtain ⟨⟨rfl, rfl, rfl⟩, _⟩ := h2
    exact ⟨v, h1, v, rfl, hx.trans R.kp, h3⟩
  cases x with
  | normal => obtain ⟨v, h1, h2⟩ := fin hk; exact ⟨R.dfr, v, h1, h2⟩
  | ret => obtain ⟨v, h1, h2⟩ := fin hk; exact ⟨R.dfr, v, h1, h2⟩
  | exit id => cases hk
theorem viewF_spec {f g : Nat} (h : viewF f = some g) : f = g + 2 ^ 40 := by
  unfold viewF at h
  by_cases hc : 2 ^ 40 ≤ f ∧ viewIds.contains (f - 2 ^ 40) = true
  · rw [if_pos hc] at h
    have h1 := hc.1
    have h2 : f - 2 ^ 40 = g := Option.some.inj h
    exact ((Nat.sub_eq_iff_eq_add h1).1 h2)
  · rw [if_neg hc] at h
    cases h
/-- THE INTERPRETER TELLS THE TRUTH. -/
theorem ev_sound {P : Program} {T : TT} (hT : ∀ t ti, T t = some ti → ttOf P t = some ti) {ok : Array Oper → Bool} (hD : ∀ F w, Sound P F w → DrawOk P T F ok w) (hC : CanonOk) {X : Fns} {w0 : World} (hX : Sound P X w0) {G : FuncId → Option FE} (hG : ∀ f fe, G f = some fe → f < 2 ^ 40 ∧ Enters P f ∧ P.funcs[f]? = some fe.fn ∧ fe.fn.body = some fe.body ∧ codeOk ok fe.body = true) : ∀ n, Sound P (ev prims G X T n) w0
  | 0 => hX
  | n + 1 => fun f xs ys h => by
    simp only [ev] at h
    split at h
    · rename_i fe hfe
      obtain ⟨h0, h1, h2, h3, h4⟩ := hG f fe hfe
      have hS := ev_sound hT hD hC hX hG n
      exact ⟨fun _ => ⟨h1, fun w vs hx hv => evBody_sound hT (hS.ext hx) (hD _) hC h2 h3 h4 h hv⟩, fun g hg => absurd h0 (by rw [hg]; exact Nat.not_lt.2 (Nat.le_add_left _ _))⟩
    · split at h
      · rename_i g hg
        split at h
        · rename_i fe hfe
          obtain ⟨h0, h1, h2, h3, h4⟩ := hG g fe hfe
          have hS := ev_sound hT hD hC hX hG n
          have hfg : f = g + 2 ^ 40 := viewF_spec hg
          unfold shapeV at h
          split at h
          · rename_i e k l rest hr
            injection h with h
            subst h
            refine ⟨fun hlt => absurd hlt (by rw [hfg]; exact Nat.not_lt.2 (Nat.le_add_left _ _)), fun g' hg' => ?_⟩
            have : g' = g := by rw [hfg] at hg'; exact (Nat.add_right_cancel hg').symm
            subst this
            exact .inr (.inr ⟨e, k, l, rfl, h1, fun w vs hx hv => evBodyV_sound hT (hS.ext hx) (hD _) hC h2 h3 h4 hr hv⟩)
          · cases h
        · exact hX f xs ys h
      · exact hX f xs ys h
end Go.Proofs.YtlbmlgnckclenaaGreatDoor
