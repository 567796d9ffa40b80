/- append: the interpreter's step. -/
import Derived.Test.YtlobcaofeobgaaaEngApp5
namespace Go.Proofs.Ytlobcaofeobgaaa
open Go.RowKit
set_option linter.unusedVariables false
set_option linter.unusedSimpArgs false
set_option linter.unusedSectionVars false
theorem app_fin {P : Program} {T : TT} {E E1 E2 : Env} {w0 w w' : World} {σ : St} {a : Act} (R : Rel E w0 σ a w) {k m : Nat} {tx : TypeId} {xv : Value} {l el : List (List Cell)} {hp : List (Nm × Bk)} {n i : Nm} {us : List (List Value)} (hTk : Taken P E w k tx xv l hp σ.hp n m E1 us) {e : Nat} {v : Value} (hA : AppOk E2 E1 w w' i n e k el v) (hext : ∀ a : World, Ext a w → (∀ b, E1.ω b = some (i, none) → a.heap.size ≤ b) → Ext a w')
    {hp1 : List (Nm × Bk)} (hh : ∀ n' b', look hp1 n' = some b' → look hp n' = some b' ∧ n' ≠ i) {c : Nat} (hc : c = el.length) (o : Oper) :
    Rel E2 w0 (aput T ⟨σ.tm, hp1, σ.cnt⟩ o (.c (.row n e k 0 c)) [(n, ⟨true, false, e, k, el⟩)]) (a.put o.dst v) w' := by
  obtain ⟨gone, G⟩ := hTk.turn
  subst hc
  refine rel_put hA.wf R.dfr R.siz (fun t q hq => hA.keep q _ ((R.tmp t q hq).turn R.wf G)) (fun j b hb => ?_) (hext w0 R.kp (fun b hb => ?_)) (fun b => (hA.B b).trans ((G.B b).trans (R.bs b))) hA.val
  · rcases look_app hb with hb | hb
    · simp only [List.mem_singleton, Prod.mk.injEq] at hb
      obtain ⟨rfl, rfl⟩ := hb
      exact hA.blk
    · obtain ⟨h1, h2⟩ := hh j b hb
      exact hA.blks j b (hTk.blk j b h1) h2
  · have := hTk.wf.nb b _ hb
    rw [G.B b, R.bs b] at this
    omega
theorem app_onto {P : Program} {E : Env} {w : World} (hW : WfE E w) {t tx ty e : TypeId} {i : TypeInfo} {z : Value} (ht : P.underlying t = some (.slice e)) (hi : P.info? e = some i) (hz : i.zero = some z) (hzs : z.cells.size = i.size) (hk0 : 0 < i.size) (hby : i.bytes ≠ 0) {i0 n : Nm} (hn : E.φ n = none) {x : Value} {l : List (List Cell)} {us : List (List Value)} (hT : Took P w i.size tx x l us) {b : Bk} (hB : BkOk E w i0 b) (hbk : i.size = b.k) (hbe : e = b.e) (hrow : b.isRow = true) {e' : Nat} {v : Value} (hv : CvL E w (.row i0 e' i.size 0 b.el.length) v) (hfit : (b.el.length + l.length) * i.bytes ≤ 2 ^ 46)
    (hl : ∀ (x : Nat) es, l[x]? = some es → ∀ (j : Nat) p, es[j]? = some p → ∃ u, ((us[x]?).bind (·[j]?)) = some u ∧ CvB E w n (b.el.length + x) j p u) :
    ∃ E2 w' v', (Builtin.append_ #[t, tx] ty #[v, x]).run P w = .ok v' w' ∧ AppOk E2 E w w' i0 n e i.size (b.el ++ l) v' ∧ (∀ a : World, Ext a w → (∀ b, E.ω b = some (i0, none) → a.heap.size ≤ b) → Ext a w') := by
  obtain ⟨A, c, rfl, hc1, hc2, h3⟩ := hv
  rcases hB with ⟨hφ, _, hnil⟩ | ⟨g, cur, fz, hφ, hω, hh, hfz, hr, hcell⟩
  · -- the row is nil
    rcases h3 with ⟨_, rfl, hn0, rfl, _⟩ | ⟨g', hφ', _⟩
    · rw [hnil] at hfit hl ⊢
      simp only [List.length_nil, List.nil_append] at *
      by_cases hl0 : l = []
      · subst hl0
        have hus : us = [] := by have := hT.len; simpa using this
        subst hus
        exact ⟨_, w, _, run_append_nothing (P := P) w t tx ty e i ht hi none 0 0 (Nat.le_refl _) x hT.src, app_none hW hn e i.size, fun a ha _ => ha⟩
      · have hpos : 0 < l.length := List.length_pos_iff.2 hl0
        exact app_grow (el := []) (olds := []) hW ht hi hz hzs hn rfl (fun es h => by cases h) (run_firstCells_none w.drew i.size 0 0 0) hT (by omega) hby hfit rfl (fun x es hx => by simp at hx) hl
    · rw [hφ] at hφ'; injection hφ' with hφ'; cases hφ'
  · rcases h3 with ⟨hφ', _⟩ | ⟨g', hφ', _, h4⟩
    · rw [hφ] at hφ'; injection hφ' with hφ'; cases hφ'
    · rw [hφ] at hφ'; injection hφ' with hφ'; injection hφ' with hφ'; subst hφ'
      obtain ⟨rfl, cur2, e2, fz2, hh2, hsz⟩ := h4 rfl
      rw [hh] at hh2
      injection hh2 with hh2
      injection hh2 with a1 a2 a3
      subst a1; subst a2; subst a3
      rw [← hbe] at hh
      by_cases hroom : b.el.length + l.length ≤ c
      · exact app_room hW ht hi hk0 hn hω hh hfz hsz hc2 hT hroom rfl (fun x es hx => by rw [hbk]; exact hcell x es hx) hl
      · refine app_grow (olds := usOf w (some ⟨g, 0, none⟩) b.el.length i.size) hW ht hi hz hzs hn (usOf_len (fun h => by cases h)) usOf_k ?_ hT (by omega) hby hfit rfl (fun x es hx => ?_) hl
        · refine run_firstCells_some w.drew i.size _ ⟨g, 0, none⟩ _ c _ (by rw [flat_len usOf_k, usOf_len (fun h => by cases h)]) (fun q u hq => ?_)
          have hql : q < b.el.length * i.size := by
            have := (List.getElem?_eq_some_iff.1 hq).1
            rw [flat_len usOf_k, usOf_len (fun h => by cases h)] at this
            exact this
          obtain ⟨p1, p2, p3⟩ := flat_place hk0 hql
          obtain ⟨hke, hcj⟩ := hcell _ _ (List.getElem?_eq_getElem p1)
          obtain ⟨u', hu', _⟩ := hcj (q % i.size) _ (List.getElem?_eq_getElem (by rw [hke, ← hbk]; exact p2))
          rw [← hbk, p3] at hu'
          have hat := usOf_at (w := w) (a := ⟨g, 0, none⟩) (n := b.el.length) (k := i.size) (x := q / i.size) (j := q % i.size) (u := u') p1 p2 (by rw [block_cell' hh]; rw [Nat.zero_add, p3]; exact hu')
          cases hux : (usOf w (some ⟨g, 0, none⟩) b.el.length i.size)[q / i.size]? with
          | none => rw [hux] at hat; cases hat
          | some vs =>
            rw [hux] at hat
            have hfl := flat_at usOf_k _ _ hux _ _ hat
            rw [p3, hq] at hfl
            injection hfl with hfl
            subst hfl
            rw [add_eq]
            show w.cell? ⟨g, 0 + q, none⟩ = some u
            rw [block_cell' hh, Nat.zero_add]
            exact hu'
        · obtain ⟨hke, hcj⟩ := hcell x es hx
          refine ⟨by rw [hbk]; exact hke, fun j p hp => ?_⟩
          obtain ⟨u, hu, hC⟩ := hcj j p hp
          refine ⟨u, ?_, hC⟩
          refine usOf_at (List.getElem?_eq_some_iff.1 hx).1 (by rw [hbk, ← hke]; exact (List.getElem?_eq_some_iff.1 hp).1) ?_
          rw [block_cell' hh, Nat.zero_add, hbk]
          exact hu
theorem aappend_sound {P : Program} {T : TT} (hT : ∀ t ti, T t = some ti → ttOf P t = some ti) {E : Env} {w0 : World} {σ : St} {a : Act} {w : World} (R : Rel E w0 σ a w) {n : Nm} (hn : E.φ n = none) {o : Oper} {as : Array Operand} {ts : Array TypeId} {s x : Operand} {t t' : TypeId} (ho : o.op = .call { callee := .builtin .append, args := as, argTypes := ts }) (has : as.toList = [s, x]) (hts : ts.toList = [t, t']) {σ' : St} (h : aappend prims T σ n o t t' (σ.get s) (norm T t' (σ.get x)) = some σ') :
    ∃ E' w' v, (execOp a.eval o).run P w = .ok (.value v) w' ∧ Rel E' w0 σ' (a.put o.dst v) w' ∧ (∀ j, E'.φ j ≠ none → E.φ j ≠ none ∨ j = n) := by
  have has' : as = #[s, x] := by cases as; simp at has; simp [has]
  have hts' : ts = #[t, t'] := by cases ts; simp at hts; simp [hts]
  subst has'; subst hts'
  have hrun : ∀ v w', (Builtin.append_ #[t, t'] o.type #[a.eval s, a.eval x]).run P w = .ok v w' → (execOp a.eval o).run P w = .ok (.value v) w' := by
    intro v w' hr
    simp [execOp, ho, resolve, invoke, builtin, hr]
  have hφn : ∀ n' b', look σ.hp n' = some b' → n' ≠ n := by
    intro n' b' hb' he
    subst he
    rcases R.blk _ _ hb' with ⟨h1, _⟩ | ⟨g, _, _, h1, _⟩ <;> rw [hn] at h1 <;> cases h1
  have hln : look σ.hp n = none := by
    cases hl : look σ.hp n with
    | none => rfl
    | some b => exact absurd rfl (hφn n b hl)
  unfold aappend at h
  split at h
  · rename_i e k by_ s1 z1 ht
    split at h
    · rename_i kx s2 z2 tie ht' hte
      split at h
      · rename_i hcond
        obtain ⟨hkx, hk0, hby⟩ := hcond
        obtain ⟨hu, ie, hie, hke, hbe⟩ := kind_slice (hT _ _ ht) rfl
        obtain ⟨i2, z, d, hi2, hz, hd, ha, hti, hzs, _⟩ := tt_parts' (hT _ _ hte)
        rw [hie] at hi2
        injection hi2 with hi2
        subst hi2
        subst hke; subst hbe
        have hkind : (∃ e', P.underlying t' = some (.slice e')) ∨ P.underlying t' = some .string := by
          unfold srcK at hkx
          split at hkx
          · exact .inl ⟨_, (kind_slice (hT _ _ ht') rfl).1⟩
          · exact .inr (kind_string (hT _ _ ht') rfl)
          · cases hkx
        have hk1 : 0 < ie.size := Nat.pos_of_ne_zero hk0
        split at h
        · rename_i l hp hsrc
          split at h
          · rename_i e1 k1 hs
            split at h
            · rename_i hfit
              injection h with h
              subst h
              simp only [prims, decide_eq_true_eq] at hfit
              have hsv : a.eval s = .slice none 0 0 := by
                have := norm_sound (T := T) (t := t) (get_sound R s)
                rw [hs] at this
                exact this
              obtain ⟨E1, us, hTk⟩ := asrc_sound (P := P) R hk1 hkind (norm_sound (T := T) (t := t') (get_sound R x)) hln hsrc 0
              have hn1 : E1.φ n = none := by rw [hTk.φ]; exact hn
              have hcore : ∃ E2 w' v', (Builtin.append_ #[t, t'] o.type #[a.eval s, a.eval x]).run P w = .ok v' w' ∧ AppOk E2 E1 w w' n n e ie.size l v' ∧ (∀ a : World, Ext a w → (∀ b, E1.ω b = some (n, none) → a.heap.size ≤ b) → Ext a w') := by
                rw [hsv]
                by_cases hl0 : l = []
                · subst hl0
                  have hus : us = [] := by have := hTk.took.len; simpa using this
                  subst hus
                  exact ⟨_, w, _, run_append_nothing (P := P) w t t' o.type e ie hu hie none 0 0 (Nat.le_refl _) _ hTk.took.src, app_none hTk.wf hn1 e ie.size, fun a ha _ => ha⟩
                · have hpos : 0 < l.length := List.length_pos_iff.2 hl0
                  exact app_grow (el := []) (olds := []) hTk.wf hu hie hz hzs hn1 rfl (fun es h => by cases h) (run_firstCells_none w.drew ie.size 0 0 0) hTk.took (by omega) hby hfit rfl (fun x es hx => by simp at hx) hTk.cv
              obtain ⟨E2, w', v', hr, hA, hx⟩ := hcore
              refine ⟨E2, w', v', hrun _ _ hr, app_fin R hTk hA hx (fun n' b' hb' => ⟨hb', ?_⟩) rfl o, fun j hj => ?_⟩
              · obtain ⟨b0, hb0⟩ := hTk.nm n' b' hb'
                exact hφn n' b0 hb0
              · rcases hA.φ j hj with h | h
                · rw [hTk.φ] at h; exact .inl h
                · exact .inr h
            · cases h
          · rename_i i e1 k1 off m hs
            split at h
            · rename_i b hb
              split at h
              · rename_i hcond
                obtain ⟨hrow, rfl, hkb, heb, hfull, hfit, _⟩ := hcond
                injection h with h
                subst h
                simp only [prims, decide_eq_true_eq] at hfit
                have hfull' : off = 0 ∧ m = b.el.length := by
                  unfold Bk.full at hfull
                  split at hfull
                  · simpa using hfull
                  · simpa [prims] using hfull
                obtain ⟨rfl, rfl⟩ := hfull'
                obtain ⟨E1, us, hTk⟩ := asrc_sound (P := P) R hk1 hkind (norm_sound (T := T) (t := t') (get_sound R x)) hln hsrc b.el.length
                have hn1 : E1.φ n = none := by rw [hTk.φ]; exact hn
                obtain ⟨gone, G⟩ := hTk.turn
                have hsv : CvP E1 w (.c (.row i e1 ie.size 0 b.el.length)) (a.eval s) := by
                  have := norm_sound (T := T) (t := t) (get_sound R s)
                  rw [hs] at this
                  exact this.turn R.wf G
                obtain ⟨E2, w', v', hr, hA, hx⟩ := app_onto (P := P) (t := t) (tx := t') (ty := o.type) (e' := e1) hTk.wf hu hie hz hzs hk1 hby hn1 hTk.took (hTk.blk i b hb) hkb heb hrow hsv hfit hTk.cv
                refine ⟨E2, w', v', hrun _ _ hr, app_fin R hTk hA hx (fun n' b' hb' => ?_) (by simp [prims]) o, fun j hj => ?_⟩
                · obtain ⟨h1, h2⟩ := look_del hb'
                  exact ⟨h2, h1⟩
                · rcases hA.φ j hj with h | h
                  · rw [hTk.φ] at h; exact .inl h
                  · exact .inr h
              · cases h
            · cases h
          · cases h
        · cases h
      · cases h
    · cases h
  · cases h
end Go.Proofs.Ytlobcaofeobgaaa
