import Derived.Test.YtnomkohiiadkjaaGreatEngRes
namespace Go.Proofs.YtnomkohiiadkjaaGreat
open Go.RowKit
set_option linter.unusedVariables false
set_option linter.unusedSimpArgs false
set_option linter.unusedSectionVars false
def env0 (w : World) : Env := ⟨fun _ => none, fun _ => none, fun b => b < w.heap.size⟩
theorem env0_wf (w : World) : WfE (env0 w) w := ⟨(fun b x h => by cases h), (fun b x h => by cases h), fun b h => h⟩
theorem argsRd_at {w : World} : ∀ (xs : List Arg) (vs : List Value), ArgsRd w xs vs → vs.length = xs.length ∧ ∀ (j : Nat) x v, xs[j]? = some x → vs[j]? = some v → ArgRd (Lt w) w x v
 | [], [], _ => ⟨rfl, fun j x v h => by simp at h⟩
 | [], v :: vs, h => h.elim
 | x :: xs, [], h => h.elim
 | x :: xs, v :: vs, h => by
  obtain ⟨h1, h2⟩ := argsRd_at xs vs h.2
  refine ⟨by simp [h1], fun j x' v' hx hv => ?_⟩
  cases j with
  | zero =>
   simp only [List.getElem?_cons_zero, Option.some.injEq] at hx hv
   subst hx; subst hv
   exact h.1
  | succ j => exact h2 j x' v' (by simpa using hx) (by simpa using hv)
theorem thawA_sound {w : World} {x : Arg} {v : Value} (h : ArgRd (Lt w) w x v) : CvP (env0 w) w (thawA x) v := by
 cases x with
 | v d => exact thawD_sound (E := env0 w) (s := true) (fun b hb => .inl hb) h
 | a l =>
  obtain ⟨cs, rfl, hl, hj⟩ := h
  refine ⟨cs, rfl, by simp [hl], fun j x u hx hu => ?_⟩
  rw [List.getElem?_map] at hx
  cases hd : l[j]? with
  | none => simp [hd] at hx
  | some d =>
   simp only [hd, Option.map_some, Option.some.injEq] at hx
   subst hx
   exact thawD_sound (E := env0 w) (s := true) (fun b hb => .inl hb) (hj j d u hd hu)
theorem init_rel (fe : FE) {xs : List Arg} {vs : List Value} {w : World} (h : ArgsRd w xs vs) : Rel (env0 w) w (initSt fe xs) { tmps := vs.toArray ++ Array.replicate (fe.fn.ntmps - vs.toArray.size) undef, defers := [] } w := by
 obtain ⟨hl, hj⟩ := argsRd_at xs vs h
 refine ⟨env0_wf w, rfl, by simp [initSt, hl], fun t p hp => ?_, (fun i b hb => by cases hb), Ext.refl w, fun b => Iff.rfl⟩
 simp only [initSt] at hp
 by_cases ht : t < xs.length
 ·rw [List.getElem?_append_left (by simpa using ht), List.getElem?_map] at hp
  cases hx : xs[t]? with
  | none => simp [hx] at hp
  | some x =>
   simp only [hx, Option.map_some, Option.some.injEq] at hp
   subst hp
   have hv : vs[t]? = some (vs[t]'(by omega)) := List.getElem?_eq_getElem (by omega)
   have : (vs.toArray ++ Array.replicate (fe.fn.ntmps - vs.toArray.size) undef).getD t undef = vs[t]'(by omega) := by
    rw [Array.getD_eq_getD_getElem?, Array.getElem?_append_left (by simp; omega), List.getElem?_toArray, hv]
    rfl
   show CvP _ _ _ ((vs.toArray ++ Array.replicate (fe.fn.ntmps - vs.toArray.size) undef).getD t undef)
   rw [this]
   exact thawA_sound (hj t x _ hx hv)
 ·rw [List.getElem?_append_right (by simp; omega)] at hp
  have hp' : p = .c (.at undef) := by
   rw [List.getElem?_replicate] at hp
   split at hp
   ·injection hp with hp; exact hp.symm
   ·cases hp
  subst hp'
  show (vs.toArray ++ Array.replicate (fe.fn.ntmps - vs.toArray.size) undef).getD t undef = undef
  rw [Array.getD_eq_getD_getElem?, Array.getElem?_append_right (by simp; omega), Array.getElem?_replicate]
  split <;> rfl
theorem evBody_sound {P : Program} {T : TT} (hT : ∀ t ti, T t = some ti → ttOf P t = some ti) {F : Fns} {w : World} (hF : Sound P F w) {ok : Array Oper → Bool} (hD : DrawOk P T F ok w) (hC : CanonOk) {f : FuncId} {fe : FE} (hf : P.funcs[f]? = some fe.fn) (hb : fe.fn.body = some fe.body) (hok : codeOk ok fe.body = true) {xs ys : List Arg} (h : evBody prims (fun F lv => aloop F lv fuel) T F fe xs = some ys) {vs : List Value} (hv : ArgsRd w xs vs) : Calls P f vs.toArray w (Gave ys w) := by
 refine calls_of_wp hf hb (Code.wp_mono (fun e a w' q => ?_) (aexec_sound hT hF hD hC fe.body _ _ _ _ w hok (init_rel fe hv) ⟨fun m hm => absurd rfl hm, fun n b hb => by cases hb⟩ h))
 obtain ⟨E, σ, x, R, _, rfl, hk⟩ := q
 cases x with
 | normal => obtain ⟨v, h1, h2⟩ := result_sound hT R hk; exact ⟨R.dfr, v, h1, h2⟩
 | ret => obtain ⟨v, h1, h2⟩ := result_sound hT R hk; exact ⟨R.dfr, v, h1, h2⟩
 | exit id => cases hk
theorem ev_sound {P : Program} {T : TT} (hT : ∀ t ti, T t = some ti → ttOf P t = some ti) {ok : Array Oper → Bool} (hD : ∀ F w, Sound P F w → DrawOk P T F ok w) (hC : CanonOk) {X : Fns} {w0 : World} (hX : Sound P X w0) {G : FuncId → Option FE} (hG : ∀ f fe, G f = some fe → f < 2 ^ 40 ∧ Enters P f ∧ P.funcs[f]? = some fe.fn ∧ fe.fn.body = some fe.body ∧ codeOk ok fe.body = true) : ∀ n, Sound P (ev prims G X T n) w0
 | 0 => hX
 | n + 1 => fun f xs ys h => by
  simp only [ev] at h
  split at h
  ·rename_i fe hfe
   obtain ⟨h0, h1, h2, h3, h4⟩ := hG f fe hfe
   have hS := ev_sound hT hD hC hX hG n
   exact ⟨fun _ => ⟨h1, fun w vs hx hv => evBody_sound hT (hS.ext hx) (hD _ _ (hS.ext hx)) hC h2 h3 h4 h hv⟩, fun g hg => absurd h0 (by rw [hg]; exact Nat.not_lt.2 (Nat.le_add_left _ _))⟩
  ·exact hX f xs ys h
end Go.Proofs.YtnomkohiiadkjaaGreat
