/- append: both ways, and the interpreter's step. -/
import Derived.Test.YtlobcaofeobgaaaEngApp4
namespace Go.Proofs.Ytlobcaofeobgaaa
open Go.RowKit
set_option linter.unusedVariables false
set_option linter.unusedSimpArgs false
set_option linter.unusedSectionVars false
theorem ext_turn {E : Env} {w w' : World} (h : Ext w w') (gone : Nm → Prop) : Turn E E w w' (fun _ => False) gone :=
  ⟨fun _ _ h => h, fun _ _ _ h _ => h, fun _ _ _ h => ⟨_, _, h⟩, fun _ => Iff.rfl, h.size, fun b hb _ => h.block b hb, fun _ h => h.elim, fun _ h => h.elim⟩
theorem app_grow {P : Program} {E : Env} {w : World} (hW : WfE E w) {t tx ty e : TypeId} {i : TypeInfo} {z : Value} (ht : P.underlying t = some (.slice e)) (hi : P.info? e = some i) (hz : i.zero = some z) (hzs : z.cells.size = i.size) {i0 n : Nm} (hn : E.φ n = none) {base : Option Addr} {m sCap : Nat} {olds : List (List Value)} (hol : olds.length = m) (hok : ∀ es ∈ olds, es.length = i.size) (hold : (Builtin.firstCells i.size m (.slice base m sCap)).run P w.drew = .ok olds.flatten.toArray w.drew) {x : Value} {l : List (List Cell)} {us : List (List Value)} (hT : Took P w i.size tx x l us) (hg : sCap < m + l.length) (hby : i.bytes ≠ 0) (hfit : (m + l.length) * i.bytes ≤ 2 ^ 46) {el : List (List Cell)} (helen : el.length = m)
    (hel : ∀ (x : Nat) es, el[x]? = some es → es.length = i.size ∧ ∀ (j : Nat) p, es[j]? = some p → ∃ u, ((olds[x]?).bind (·[j]?)) = some u ∧ CvB E w i0 x j p u)
    (hl : ∀ (x : Nat) es, l[x]? = some es → ∀ (j : Nat) p, es[j]? = some p → ∃ u, ((us[x]?).bind (·[j]?)) = some u ∧ CvB E w n (m + x) j p u) :
    ∃ E2 w' v, (Builtin.append_ #[t, tx] ty #[.slice base m sCap, x]).run P w = .ok v w' ∧ AppOk E2 E w w' i0 n e i.size (el ++ l) v ∧ (∀ a : World, Ext a w → (∀ b, E.ω b = some (i0, none) → a.heap.size ≤ b) → Ext a w') := by
  have hneed : m + l.length ≤ 2 ^ 46 := Nat.le_trans (Nat.le_mul_of_pos_right _ (Nat.pos_of_ne_zero hby)) hfit
  have hrun := run_append_grow_src (P := P) w t tx ty e i z ht hi hz base m sCap olds.flatten hold x l.length us.flatten hT.src hg (by omega) (growslice_fits hg (by omega))
  have hge := grownCap_ge w (m + l.length) sCap e
  have hcm := grownCap_le_maxLen w (m + l.length) sCap e (by simp only [maxLen]; omega)
  have hsz : ((olds.flatten ++ us.flatten).toArray ++ Builtin.zeroCells z.cells (grownCap w (m + l.length) sCap e - (m + l.length))).size = grownCap w (m + l.length) sCap e * i.size := by
    rw [Array.size_append, List.size_toArray, List.length_append, flat_len hok, flat_len hT.uk, size_zeroCells, hzs, ← Nat.add_mul, ← Nat.add_mul, hol, hT.len]
    congr 1
    omega
  have hext : Ext w (w.drew.alloc (.cells ((olds.flatten ++ us.flatten).toArray ++ Builtin.zeroCells z.cells (grownCap w (m + l.length) sCap e - (m + l.length))) e)) := (Ext.refl w).drew.alloc _
  have hlen : (el ++ l).length = m + l.length := by rw [List.length_append, helen]
  have key := app_core (i := i0) (e := e) (k := i.size) (c := grownCap w (m + l.length) sCap e) (el := el ++ l) hW (hW.ext hext) (ext_turn hext _) hn (fun j x hx => absurd (hW.lt _ _ hx) (Nat.lt_irrefl _)) (fun hB => absurd (hW.bl _ hB) (Nat.lt_irrefl _)) (fun _ h => h.elim) (MapKept.heap_alloc w.drew _).1 (fz0 _) hsz hcm (by rw [hlen]; exact hge) (fun x es hx => by
    by_cases hxm : x < m
    · rw [List.getElem?_append_left (by omega)] at hx
      obtain ⟨hk, hj⟩ := hel x es hx
      refine ⟨hk, fun j p hp => ?_⟩
      obtain ⟨u, hu, hC⟩ := hj j p hp
      exact ⟨u, old_at hok _ hu, .inl hC⟩
    · rw [List.getElem?_append_right (by omega), helen] at hx
      refine ⟨hT.el _ es hx, fun j p hp => ?_⟩
      obtain ⟨u, hu, hC⟩ := hl _ es hx j p hp
      have := cat_at hok hT.uk (Builtin.zeroCells z.cells (grownCap w (m + l.length) sCap e - (m + l.length))) hu
      rw [hol, show m + (x - m) = x by omega] at this
      rw [show m + (x - m) = x by omega] at hC
      exact ⟨u, this, .inr hC⟩)
  rw [hlen] at key
  exact ⟨_, _, _, hrun, key, fun a ha _ => ha.trans hext⟩
theorem app_room {P : Program} {E : Env} {w : World} (hW : WfE E w) {t tx ty e : TypeId} {i : TypeInfo} (ht : P.underlying t = some (.slice e)) (hi : P.info? e = some i) (hk0 : 0 < i.size) {i0 n : Nm} (hn : E.φ n = none) {g c m : Nat} {cur : Array Value} {fz : Nat × Nat} (hω : E.ω g = some (i0, none)) (hh : w.heap[g]? = some (.cells cur e fz)) (hfz : FzOk fz cur.size) (hsz : cur.size = c * i.size) (hc : c ≤ maxLen) {x : Value} {l : List (List Cell)} {us : List (List Value)} (hT : Took P w i.size tx x l us) (hg : m + l.length ≤ c) {el : List (List Cell)} (helen : el.length = m)
    (hel : ∀ (x : Nat) es, el[x]? = some es → es.length = i.size ∧ ∀ (j : Nat) p, es[j]? = some p → ∃ u, cur[x * i.size + j]? = some u ∧ CvB E w i0 x j p u)
    (hl : ∀ (x : Nat) es, l[x]? = some es → ∀ (j : Nat) p, es[j]? = some p → ∃ u, ((us[x]?).bind (·[j]?)) = some u ∧ CvB E w n (m + x) j p u) :
    ∃ E2 w' v, (Builtin.append_ #[t, tx] ty #[.slice (some ⟨g, 0, none⟩) m c, x]).run P w = .ok v w' ∧ AppOk E2 E w w' i0 n e i.size (el ++ l) v ∧ (∀ a : World, Ext a w → (∀ b, E.ω b = some (i0, none) → a.heap.size ≤ b) → Ext a w') := by
  obtain ⟨w', hrun, W⟩ := run_room (P := P) t tx ty e i ht hi g m c x l.length us.flatten hT.src hg hh hfz hsz
  obtain ⟨cur', h1, h2, h3⟩ := W.blk cur e fz hh
  have hlen : (el ++ l).length = m + l.length := by rw [List.length_append, helen]
  have hW' : WfE E w' := ⟨fun b x hx => by rw [W.size]; exact hW.lt b x hx, hW.nb, fun b hb => by rw [W.size]; exact hW.bl b hb⟩
  have hul : us.flatten.length = l.length * i.size := by rw [flat_len hT.uk, hT.len]
  have key := app_core (i := i0) (e := e) (k := i.size) (c := c) (el := el ++ l) hW hW' (wrote_turn W hω) hn (fun j x hx => by rw [hω] at hx; injection hx with hx; injection hx with a b; exact ⟨a.symm, b.symm⟩) (hW.nb g _ hω) (fun b hb => by rw [hb]; exact hω) h1 (by rw [h2]; exact hfz) (by rw [h2]; exact hsz) hc (by rw [hlen]; exact hg) (fun x es hx => by
    by_cases hxm : x < m
    · rw [List.getElem?_append_left (by omega)] at hx
      obtain ⟨hk, hj⟩ := hel x es hx
      refine ⟨hk, fun j p hp => ?_⟩
      obtain ⟨u, hu, hC⟩ := hj j p hp
      have hjk : j < i.size := by rw [← hk]; exact (List.getElem?_eq_some_iff.1 hp).1
      have hlt : x * i.size + j < m * i.size := by
        have := Nat.mul_le_mul_right i.size (Nat.succ_le_of_lt hxm)
        rw [Nat.succ_mul] at this
        omega
      exact ⟨u, by rw [h3, if_neg (by omega)]; exact hu, .inl hC⟩
    · rw [List.getElem?_append_right (by omega), helen] at hx
      have hke := hT.el _ es hx
      refine ⟨hke, fun j p hp => ?_⟩
      obtain ⟨u, hu, hC⟩ := hl _ es hx j p hp
      have hxl : x - m < l.length := (List.getElem?_eq_some_iff.1 hx).1
      have hjk : j < i.size := by rw [← hke]; exact (List.getElem?_eq_some_iff.1 hp).1
      rw [show m + (x - m) = x by omega] at hC
      refine ⟨u, ?_, .inr hC⟩
      cases hux : us[x - m]? with
      | none => simp [hux] at hu
      | some vs =>
        simp only [hux, Option.bind_some] at hu
        have hfl := flat_at hT.uk _ _ hux j u hu
        have hlo : x * i.size = m * i.size + (x - m) * i.size := by rw [← Nat.add_mul]; congr 1; omega
        have hb1 : (x - m) * i.size + j < l.length * i.size := by
          rw [← hul]; exact (List.getElem?_eq_some_iff.1 hfl).1
        have hb2 : (m + l.length) * i.size ≤ c * i.size := Nat.mul_le_mul_right _ hg
        rw [Nat.add_mul] at hb2
        rw [h3, if_pos (by omega), show x * i.size + j - m * i.size = (x - m) * i.size + j by omega]
        exact hfl)
  rw [hlen] at key
  exact ⟨_, w', _, hrun, key, fun a ha hb => W.ext a ha (hb g hω)⟩
theorem rel_put {T : TT} {E' : Env} {w0 w' : World} {σ : St} {a : Act} {o : Oper} {p : PV} {nb : List (Nm × Bk)} {v : Value} (hW : WfE E' w') (hd : a.defers = []) (hs : a.tmps.size = σ.tm.length) (ht : ∀ (t : Nat) q, σ.tm[t]? = some q → CvP E' w' q (a.tmps.getD t undef)) (hb : ∀ i b, look (nb ++ σ.hp) i = some b → BkOk E' w' i b) (hk : Ext w0 w') (hB : ∀ b, E'.B b ↔ b < w0.heap.size) (hv : CvP E' w' p v) :
    Rel E' w0 (aput T σ o p nb) (a.put o.dst v) w' := by
  unfold aput Act.put
  cases o.dst with
  | none => exact ⟨hW, hd, hs, ht, hb, hk, hB⟩
  | some d =>
    refine ⟨hW, hd, by simp [hs], fun t q hq => ?_, hb, hk, hB⟩
    simp only [List.getElem?_set] at hq
    split at hq
    · rename_i hdt
      subst hdt
      split at hq
      · rename_i hlt
        injection hq with hq
        subst hq
        have : (a.tmps.setIfInBounds d v).getD d undef = v := by simp [Array.getD_eq_getD_getElem?, Array.getElem?_setIfInBounds, hs, hlt]
        rw [this]
        exact norm_sound hv
      · cases hq
    · rename_i hdt
      have : (a.tmps.setIfInBounds d v).getD t undef = a.tmps.getD t undef := by simp [Array.getD_eq_getD_getElem?, Array.getElem?_setIfInBounds, hdt]
      rw [this]
      exact ht t q hq
end Go.Proofs.Ytlobcaofeobgaaa
