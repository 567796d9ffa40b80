import Derived.Test.YtnomkohiiadkjaaGreatEngSimple
namespace Go.Proofs.YtnomkohiiadkjaaGreat
open Go.RowKit
set_option linter.unusedVariables false
set_option linter.unusedSimpArgs false
set_option linter.unusedSectionVars false
def Fresh (E : Env) (c : Nat) : Prop := ∀ m, E.φ m ≠ none → m.1 < c
def FreshI (E : Env) (c i : Nat) : Prop := ∀ m, E.φ m ≠ none → m.1 < c ∨ (m.1 = c ∧ m.2.1 < i)
theorem FreshI.none {E : Env} {c i : Nat} (h : FreshI E c i) (j : Nat) : E.φ (c, i, j) = none := by
 cases hp : E.φ (c, i, j) with
 | none => rfl
 | some x =>
  rcases h (c, i, j) (by rw [hp]; exact fun h => by cases h) with h | ⟨_, h⟩
  ·exact absurd h (Nat.lt_irrefl _)
  ·exact absurd h (Nat.lt_irrefl _)
theorem FreshI.step {E E' : Env} {c i : Nat} (h : FreshI E c i) (hn : Named E E' c i) : FreshI E' c (i + 1) := by
 intro m hm
 rcases hn m hm with h1 | ⟨h1, h2⟩
 ·rcases h m h1 with h | ⟨h3, h4⟩
  ·exact .inl h
  ·exact .inr ⟨h3, by omega⟩
 ·exact .inr ⟨h1, by omega⟩
theorem FreshI.up {E : Env} {c i : Nat} (h : FreshI E c i) : FreshI E c (i + 1) := fun m hm => (h m hm).imp id fun ⟨a, b⟩ => ⟨a, by omega⟩
theorem gbool_sound {E : Env} {w0 : World} {σ : St} {a : Act} {w : World} (R : Rel E w0 σ a w) {ops : Array Oper} {j : Nat} {r : Option Bool} (h : gbool σ ((ops[j]?).bind (·.dst)) = some r) : yielded ops a.tmps j = r := by
 unfold gbool at h
 unfold yielded
 split at h
 ·rename_i hd
  injection h with h
  rw [hd, ← h]
  rfl
 ·rename_i t hd
  rw [hd]
  simp only [Option.bind_some]
  split at h
  ·rename_i b hb
   injection h with h
   have hv : a.tmps.getD t undef = .bool b := R.tmp t _ hb
   have hlt : t < a.tmps.size := by rw [R.siz]; exact (List.getElem?_eq_some_iff.1 hb).1
   have : a.tmps[t]? = some (.bool b) := by rw [← hv]; simp [Array.getD_eq_getD_getElem?, hlt]
   rw [this, ← h]
  ·rename_i v hb
   injection h with h
   have hv : a.tmps.getD t undef = .tuple v := R.tmp t _ hb
   have hlt : t < a.tmps.size := by rw [R.siz]; exact (List.getElem?_eq_some_iff.1 hb).1
   have : a.tmps[t]? = some (.tuple v) := by rw [← hv]; simp [Array.getD_eq_getD_getElem?, hlt]
   rw [this, ← h]
  ·cases h
theorem rel_skip {T : TT} {E : Env} {w0 : World} {σ : St} {a : Act} {w : World} (R : Rel E w0 σ a w) (o : Oper) : Rel E w0 (aput T σ o (.c (.at undef)) []) (a.put o.dst undef) w := rel_put R.wf R.dfr R.siz R.tmp R.blk R.kp R.bs rfl
theorem nilAsk_run {P : Program} {T : TT} (hT : ∀ t ti, T t = some ti → ttOf P t = some ti) {E : Env} {w0 : World} {σ : St} {a : Act} {w : World} (R : Rel E w0 σ a w) {o : Oper} {l : List (List DT)} (h : nilAsk T σ o = some l) : ∃ b : Bool, (execOp a.eval o).run P w = .ok (.value (.bool b)) w ∧ (b = true → l.length = 0) := by
 unfold nilAsk at h
 split at h
 ·rename_i t x yt ho
  split at h
  ·rename_i e k by_ sz z ht
   split at h
   ·rename_i s e' k' l' hx
    injection h with h
    subst h
    have hv : CvC E w (.rd s e' k' l') (a.eval x) := c_val (get_sound R) hx
    obtain ⟨n, hv⟩ := hv
    cases n with
    | zero => exact hv.elim
    | succ n =>
     obtain ⟨A, c, hv, _, _, hall⟩ := hv
     refine ⟨A.isNone, ?_, fun hb => ?_⟩
     ·have hu := (kind_slice (hT _ _ ht) rfl).1
      have hn := Lib.run_eql_slice_nil (P := P) w t e A l'.length c 0 0 hu
      have e2 : a.eval (.const (.slice none 0 0)) = .slice none 0 0 := rfl
      simp only [execOp, ho, hv, e2]
      simp [eqGuard, hn]
     ·cases hl : l'.length with
      | zero => rfl
      | succ m =>
       obtain ⟨_, b, off, hA, _⟩ := hall 0 (l'[0]'(by omega)) (List.getElem?_eq_getElem (by omega))
       rw [hA] at hb
       cases hb
   ·cases h
  ·cases h
 ·cases h
theorem areg_sound {P : Program} {T : TT} (hT : ∀ t ti, T t = some ti → ttOf P t = some ti) {F : Fns} {w0 : World} (hF : Sound P F w0) {ops : Array Oper} {β : Type} {k : St → Option β} {y : β} {Q : Exit → Act → World → Prop} {c : Nat} (hQ : ∀ E σ a w, Rel E w0 σ a w → Fresh E (c + 1) → Simple σ.hp → σ.cnt = c → k σ = some y → Q .normal a w) :
  ∀ (l : List Oper) (i : Nat) (E : Env) (σ : St) (a : Act) (w : World), Rel E w0 σ a w → FreshI E c i → Simple σ.hp → σ.cnt = c → areg prims T F ops l i σ k = some y → wpList P ops Q l a w
 | [], i, E, σ, a, w, R, hf, hs, hc, h => hQ E σ a w R (fun m hm => by rcases hf m hm with h | ⟨h, _⟩ <;> omega) hs hc h
 | o :: l, i, E, σ, a, w, R, hf, hsi, hc, h => by
  subst hc
  unfold areg at h
  unfold wpList
  have hstep : ∀ σ', astep prims T F σ i o = some σ' → areg prims T F ops l (i + 1) σ' k = some y → o.wp P a w (wpList P ops Q l) Q := by
   intro σ' hs hr
   have hcnt := (astep_sound (K := fun _ _ => True) (Q := Q) hT hF R hf.none hs (fun _ _ _ _ _ => trivial)).2
   exact (astep_sound hT hF R hf.none hs (fun E' a' w' R' hn => areg_sound hT hF hQ l (i + 1) E' σ' a' w' R' (hf.step hn) (astep_simple hs hsi) hcnt hr)).1
  have hskip : areg prims T F ops l (i + 1) (aput T σ o (.c (.at undef)) []) k = some y → wpList P ops Q l (a.put o.dst undef) w := fun hr =>
   areg_sound hT hF hQ l (i + 1) E _ _ w (rel_skip R o) hf.up (by rw [aput_hp]; exact hsi) (aput_cnt _ _ _ _ _) hr
  split at h
  ·rename_i hg
   split at h
   ·rename_i l' hq
    rw [if_pos (by simp [Region.wanted, hg])]
    refine .inl ?_
    obtain ⟨b, hrun, h0⟩ := nilAsk_run hT R hq
    unfold Oper.wp
    rw [hrun]
    refine areg_sound hT hF hQ l (i + 1) E (aput T σ o (.c (.at (.bool b))) []) _ w (rel_put R.wf R.dfr R.siz R.tmp R.blk R.kp R.bs rfl) hf.up (by rw [aput_hp]; exact hsi) (aput_cnt _ _ _ _ _) ?_
    have h' : bothO l'.length (areg prims T F ops l (i + 1) (aput T σ o (.c (.at (.bool false))) []) k) (areg prims T F ops l (i + 1) (aput T σ o (.c (.at (.bool true))) []) k) = some y := h
    cases b with
    | false => exact bothO_left h'
    | true => rw [h0 rfl] at h'; exact bothO_right h'
   ·split at h
    ·rename_i σ' hs
     rw [if_pos (by simp [Region.wanted, hg])]
     exact .inl (hstep σ' hs h)
    ·cases h
  ·rename_i j want hg
   split at h
   ·rename_i b hb
    have hy := gbool_sound R hb
    split at h
    ·rename_i hbw
     subst hbw
     split at h
     ·rename_i σ' hs
      rw [if_pos (by simp [Region.wanted, hg, hy])]
      exact .inl (hstep σ' hs h)
     ·cases h
    ·rename_i hbw
     rw [if_neg (by simp [Region.wanted, hg, hy, hbw])]
     exact hskip h
   ·rename_i hb
    have hy := gbool_sound R hb
    rw [if_neg (by simp [Region.wanted, hg, hy])]
    exact hskip h
   ·cases h
end Go.Proofs.YtnomkohiiadkjaaGreat
