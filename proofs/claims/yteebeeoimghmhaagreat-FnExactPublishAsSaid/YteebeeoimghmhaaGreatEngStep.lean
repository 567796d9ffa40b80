/- One operation of a region. -/
import Derived.Test.YteebeeoimghmhaaGreatEngCon
namespace Go.Proofs.YteebeeoimghmhaaGreat
open Go.RowKit
set_option linter.unusedVariables false
set_option linter.unusedSimpArgs false
set_option linter.unusedSectionVars false
/-- new names are those of this operation -/
def Named (E E' : Env) (c i : Nat) : Prop := ∀ m, E'.φ m ≠ none → E.φ m ≠ none ∨ (m.1 = c ∧ m.2.1 = i)
theorem named_ok {E E' : Env} {c i : Nat} {nb : List (Nm × Bk)} (hnb : okNm c i nb = true) (h : ∀ m, E'.φ m ≠ none → E.φ m ≠ none ∨ ∃ x ∈ nb, x.1 = m) : Named E E' c i := by
  intro m hm
  rcases h m hm with h | ⟨x, hx, rfl⟩
  · exact .inl h
  · right
    unfold okNm at hnb
    rw [List.all_eq_true] at hnb
    simpa using hnb x hx
theorem aput_cnt (T : TT) (σ : St) (o : Oper) (p : PV) (nb : List (Nm × Bk)) : (aput T σ o p nb).cnt = σ.cnt := by
  unfold aput
  split <;> rfl
theorem astep_sound {P : Program} {T : TT} (hT : ∀ t ti, T t = some ti → ttOf P t = some ti) {F : Fns} {w0 : World} (hF : Sound P F w0) {E : Env} {σ : St} {a : Act} {w : World} (R : Rel E w0 σ a w) {i : Nat} (hn : ∀ j, E.φ (σ.cnt, i, j) = none) {o : Oper} {σ' : St} (h : astep prims T F σ i o = some σ') {K : Act → World → Prop} {Q : Exit → Act → World → Prop}
    (hK : ∀ E' a' w', Rel E' w0 σ' a' w' → Named E E' σ.cnt i → K a' w') : o.wp P a w K Q ∧ σ'.cnt = σ.cnt := by
  have hp : ∀ {r : Option (PV × List (Nm × Bk))}, aputs T σ i o r = some σ' → ∃ p nb, r = some (p, nb) ∧ okNm σ.cnt i nb = true ∧ aput T σ o p nb = σ' := by
    intro r hr
    unfold aputs at hr
    split at hr
    · rename_i p nb
      split at hr
      · rename_i hok
        injection hr with hr
        exact ⟨p, nb, rfl, hok, hr⟩
      · cases hr
    · cases hr
  have hp2 : ∀ {r : Option (PV × List (Nm × Bk))}, aputl T σ i o r = some σ' → ∃ p nb, r = some (p, nb) ∧ okNm σ.cnt i nb = true ∧ aput T σ o p nb = σ' := by
    intro r hr
    unfold aputl at hr
    split at hr
    · rename_i p nb
      split at hr
      · rename_i hok
        injection hr with hr
        simp only [Bool.and_eq_true] at hok
        exact ⟨p, nb, rfl, hok.1, hr⟩
      · cases hr
    · cases hr
  unfold Oper.wp
  unfold astep at h
  split at h
  · rename_i t x y ho
    cases hs : astore prims T σ t (σ.get x) (σ.get y) with
    | none => simp [hs] at h
    | some σ1 =>
      simp only [hs, Option.map_some, Option.some.injEq] at h
      obtain ⟨E', w', hr, R1, hφ, htm, hcnt⟩ := astore_sound hT R hs
      subst h
      refine ⟨?_, by rw [aput_cnt, hcnt]⟩
      have hrun : (execOp a.eval o).run P w = .ok .skip w' ∨ (execOp a.eval o).run P w = .ok (.value undef) w' := by
        first
          | (left; simp [execOp, ho, hr]; done)
          | (right; simp [execOp, ho, hr]; done)
      have hRel : Rel E' w0 (aput T σ1 o (.c (.at undef)) []) (a.put o.dst undef) w' := rel_put R1.wf R1.dfr R1.siz R1.tmp R1.blk R1.kp R1.bs rfl
      have hnm : Named E E' σ.cnt i := fun m hm => .inl (by rw [hφ] at hm; exact hm)
      rcases hrun with hrun | hrun <;> rw [hrun]
      · exact hK E' _ w' hRel hnm
      · exact hK E' _ w' hRel hnm
  · rename_i as ts ho
    split at h
    · rename_i s x t t' has hts
      obtain ⟨E', w', v, hr, R1, hφ⟩ := aappend_sound hT R (hn 0) ho has hts h
      rw [hr]
      refine ⟨hK E' _ w' R1 (fun m hm => ?_), ?_⟩
      · rcases hφ m hm with h | h
        · exact .inl h
        · rw [h]; exact .inr ⟨rfl, rfl⟩
      · unfold aappend at h
        repeat' split at h
        all_goals first
          | (injection h with h; rw [← h, aput_cnt])
          | cases h
    · cases h
  · rename_i as ts ho
    split at h
    · rename_i s x t t' has hts
      obtain ⟨w', v, σ1, N, hr, R1, rfl, rfl, hcnt⟩ := acopy_sound hT R ho has hts h
      rw [hr]
      exact ⟨hK E _ w' (rel_put R1.wf R1.dfr R1.siz R1.tmp R1.blk R1.kp R1.bs rfl) (fun m hm => .inl hm), by rw [aput_cnt, hcnt]⟩
    · cases h
  · rename_i f as ts ho
    cases hmu : mutOf (σ.get f) with
    | true =>
      rw [hmu] at h
      obtain ⟨g, args, hrun, hcall, hcnt⟩ := amut_sound hF R ho h
      rw [hrun, Oper.upon_enter]
      refine ⟨hcall.mono fun e w' he => ?_, hcnt⟩
      obtain ⟨v, E', rfl, R', hφ⟩ := he
      exact hK E' _ w' R' (fun m hm => .inl (by rw [hφ] at hm; exact hm))
    | false =>
    rw [hmu] at h
    simp only [cond_false] at h
    cases hco : conOf (σ.get f) with
    | true =>
      rw [hco] at h
      simp only [cond_true] at h
      obtain ⟨g, args, hrun, hcall, hcnt⟩ := acon_sound hF R (hn 0) ho h
      rw [hrun, Oper.upon_enter]
      refine ⟨hcall.mono fun e w' he => ?_, hcnt⟩
      obtain ⟨v, E', rfl, R', hφ⟩ := he
      refine hK E' _ w' R' (fun m hm => ?_)
      rcases hφ m hm with h | h
      · exact .inl h
      · rw [h]; exact .inr ⟨rfl, rfl⟩
    | false =>
    rw [hco] at h
    simp only [cond_false] at h
    obtain ⟨p, nb, hr, hok, rfl⟩ := hp h
    obtain ⟨g, args, hrun, hcall⟩ := acall_sound hT R.wf (get_sound R) R.blk (n := fun j => (σ.cnt, i, j)) (fun a b hab => by injection hab with _ hab; injection hab) hn hF R.kp ho hr
    rw [hrun, Oper.upon_enter]
    refine ⟨hcall.mono fun e w' he => ?_, aput_cnt _ _ _ _ _⟩
    obtain ⟨v, E', rfl, G, hW', hv, hb, hφ⟩ := he
    exact hK E' _ w' (rel_grow R G hW' hv hb o) (named_ok hok hφ)
  · obtain ⟨p, nb, hr, hok, rfl⟩ := hp2 h
    obtain ⟨E', w', v, hrun, G, hW', hv, hb, hφ⟩ := apure_sound hT R.wf (get_sound R) R.blk (n := fun j => (σ.cnt, i, j)) hn hr
    rw [hrun]
    exact ⟨hK E' _ w' (rel_grow R G hW' hv hb o) (named_ok hok hφ), aput_cnt _ _ _ _ _⟩
end Go.Proofs.YteebeeoimghmhaaGreat
