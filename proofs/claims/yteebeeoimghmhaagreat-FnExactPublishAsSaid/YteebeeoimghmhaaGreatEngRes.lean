/- Results of a function. -/
import Derived.Test.YteebeeoimghmhaaGreatEngExec
namespace Go.Proofs.YteebeeoimghmhaaGreat
open Go.RowKit
set_option linter.unusedVariables false
set_option linter.unusedSimpArgs false
set_option linter.unusedSectionVars false
def resG (tmps : Array Value) : ResultVar → Sem Value
  | .tmp t => pure (tmps.getD t undef)
  | .cell a t => do loadVar t (← asAddr (tmps.getD a undef))
theorem run_mapR {P : Program} {E : Env} {w : World} {g : ResultVar → Sem Value} : ∀ (l : List ResultVar) (ps : List PV), ps.length = l.length → (∀ (j : Nat) r p, l[j]? = some r → ps[j]? = some p → ∃ v, (g r).run P w = .ok v w ∧ CvP E w p v) →
    ∃ vs : List Value, (l.mapM g).run P w = .ok vs w ∧ vs.length = l.length ∧ ∀ (j : Nat) p v, ps[j]? = some p → vs[j]? = some v → CvP E w p v
  | [], ps, hl, h => ⟨[], by simp, rfl, fun j p v _ hv => by simp at hv⟩
  | r :: l, [], hl, h => by simp at hl
  | r :: l, p :: ps, hl, h => by
    obtain ⟨v, hv, hc⟩ := h 0 r p rfl rfl
    obtain ⟨vs, h1, h2, h3⟩ := run_mapR (P := P) (E := E) (w := w) (g := g) l ps (by simpa using hl) fun j r' p' hr hp => h (j + 1) r' p' (by simpa using hr) (by simpa using hp)
    refine ⟨v :: vs, by simp [List.mapM_cons, hv, h1], by simp [h2], fun j p' v' hp' hv' => ?_⟩
    cases j with
    | zero =>
      simp only [List.getElem?_cons_zero, Option.some.injEq] at hp' hv'
      subst hp'; subst hv'
      exact hc
    | succ j => exact h3 j p' v' (by simpa using hp') (by simpa using hv')
theorem run_res {P : Program} {w : World} {fn : Func} {tmps : Array Value} {vs : List Value} (h : (fn.results.toList.mapM (resG tmps)).run P w = .ok vs w) : (results fn tmps).run P w = .ok (packV vs) w := by
  have hg : ∀ g : ResultVar → Sem Value, g = resG tmps → (fn.results.toList.mapM g).run P w = .ok vs w := fun g hg => by rw [hg]; exact h
  unfold results
  rw [Array.mapM_eq_mapM_toList]
  simp only [Sem.run_bind, map_eq_pure_bind, bind_assoc, pure_bind]
  rw [hg _ (by funext x; cases x <;> rfl)]
  simp only [Result.andThen_ok]
  cases vs with
  | nil => simp [packV]
  | cons v vs =>
    cases vs with
    | nil => simp [packV]
    | cons v2 vs => simp [packV]
theorem res_one {P : Program} {T : TT} (hT : ∀ t ti, T t = some ti → ttOf P t = some ti) {E : Env} {w0 : World} {σ : St} {a : Act} {w : World} (R : Rel E w0 σ a w) {t : Nat} {r : ResultVar} {p : PV} (h : resP prims T σ t r = some p) : ∃ v, (resG a.tmps r).run P w = .ok v w ∧ CvP E w p v := by
  cases r with
  | tmp r =>
    simp only [resP, Option.some.injEq] at h
    subst h
    exact ⟨_, by simp [resG, Act.eval], norm_sound (get_sound R (.tmp r))⟩
  | cell r u =>
    simp only [resP] at h
    split at h
    · rename_i ti i kk idx off ht hx
      split at h
      · rename_i b hb
        split at h
        · rename_i es he
          split at h
          · rename_i hs
            have hg := get_sound R (.tmp r)
            have hget : σ.get (.tmp r) = .c (.ptr i kk idx off) := hx
            rw [hget] at hg
            obtain ⟨v, hv, hc⟩ := load_own (hT _ _ ht) (R.blk _ _ hb) he hs h hg
            obtain ⟨g, hg1, hg2⟩ := hg
            refine ⟨v, ?_, hc⟩
            have hev : a.tmps.getD r undef = a.eval (.tmp r) := by simp [Act.eval]
            rw [hg2] at hv
            simp only [resG, hev, hg2]
            unfold Instr.loadAt Instr.sureAddr at hv
            simp only [Sem.run_bind, Sem.run_pure, Result.andThen_ok] at hv
            simp only [asAddr, Sem.run_bind, Sem.run_pure, Result.andThen_ok]
            exact hv
          · cases h
        · cases h
      · cases h
    · cases h
theorem result_sound {P : Program} {T : TT} (hT : ∀ t ti, T t = some ti → ttOf P t = some ti) {E : Env} {w0 : World} {σ : St} {a : Act} {w : World} (R : Rel E w0 σ a w) {fn : Func} {ys : List Arg} (h : result prims T fn σ = some ys) : ∃ v, (results fn a.tmps).run P w = .ok v w ∧ Gave ys w0 (.returned v) w := by
  unfold result at h
  split at h
  · rename_i ps hps
    split at h
    · rename_i hcond
      obtain ⟨hsz, hnd⟩ := hcond
      obtain ⟨hlen, hj⟩ := mapO_at hps
      have hzl : (fn.results.toList.zip fn.resultTypes.toList).length = fn.results.toList.length := by
        simp only [List.length_zip, Array.length_toList]
        omega
      obtain ⟨vs, h1, h2, h3⟩ := run_mapR (P := P) (E := E) (w := w) (g := resG a.tmps) fn.results.toList ps (by rw [hlen, hzl]) (fun j r p hr hp => by
        have hjl : j < fn.results.toList.length := (List.getElem?_eq_some_iff.1 hr).1
        have hjt : j < fn.resultTypes.toList.length := by simp only [Array.length_toList] at hjl ⊢; omega
        obtain ⟨p', hp', hrp⟩ := hj j (r, fn.resultTypes.toList[j]) (by rw [List.getElem?_zip_eq_some]; exact ⟨hr, List.getElem?_eq_getElem hjt⟩)
        rw [hp'] at hp
        injection hp with hp
        subst hp
        exact res_one hT R hrp)
      refine ⟨_, run_res h1, ?_⟩
      rw [names_cells] at hnd
      have hS : ∀ b x, E.ω b = some x → w0.heap.size ≤ b ∧ b < w.heap.size := fun b x hb => by
        have := R.wf.nb b x hb
        rw [R.bs b] at this
        exact ⟨by omega, R.wf.lt b x hb⟩
      refine ⟨_, (fun b => match E.ω b with | some (n, _) => posN n (ps.flatMap cellsP) | none => none), rfl, R.kp, resOw_mk R.blk hS ps _ ys 0 (by rw [h2, hlen, hzl]) h3 h (fun q x n hx hn b z hb => ?_)⟩
      simp only [hb]
      rw [posN_at _ q x n hnd hx hn, Nat.zero_add]
    · cases h
  · cases h
end Go.Proofs.YteebeeoimghmhaaGreat
