/- Loads, fields and addresses: the machine does what the interpreter does. -/
import Derived.Test.YtlobcaofeobgaaaEngEnv
namespace Go.Proofs.Ytlobcaofeobgaaa
open Go.RowKit
set_option linter.unusedVariables false
set_option linter.unusedSimpArgs false
set_option linter.unusedSectionVars false

theorem tt_parts' {P : Program} {t : Nat} {ti : TI} (h : ttOf P t = some ti) : ∃ i z d, P.info? t = some i ∧ i.zero = some z ∧ P.underlying t = some d ∧ (∀ n e, d ≠ .array n e) ∧ ti = ⟨kindT P t, i.size, List.zipWith zcell z.cells.toList (ctys P 8 t)⟩ ∧ z.cells.size = i.size ∧ (ctys P 8 t).length = i.size := by
  unfold ttOf at h
  split at h
  · rename_i i hi
    split at h
    · cases h
    · rename_i z d hne hz hd
      split at h
      · rename_i hs
        injection h with h
        exact ⟨i, z, d, hi, hz, hd, fun n e hde => hne n e hde, h.symm, hs⟩
      · cases h
    · cases h
  · cases h
theorem tt_parts {P : Program} {t : Nat} {ti : TI} (h : ttOf P t = some ti) : ∃ i z d, P.info? t = some i ∧ i.zero = some z ∧ P.underlying t = some d ∧ (∀ n e, d ≠ .array n e) ∧ ti = ⟨kindT P t, i.size, List.zipWith zcell z.cells.toList (ctys P 8 t)⟩ := by
  obtain ⟨i, z, d, h1, h2, h3, h4, h5, _⟩ := tt_parts' h
  exact ⟨i, z, d, h1, h2, h3, h4, h5⟩
theorem tt_zero {P : Program} {t : Nat} {ti : TI} (h : ttOf P t = some ti) : ti.zero.length = ti.size := by
  obtain ⟨i, z, d, h1, h2, h3, h4, rfl, h6, h7⟩ := tt_parts' h
  simp [h6, h7]
theorem run_info {P : Program} {t : Nat} {i : TypeInfo} (h : P.info? t = some i) (w : World) : (typeInfo t).run P w = .ok i w := by simp [typeInfo, h]
theorem run_size {P : Program} {t : Nat} {i : TypeInfo} (h : P.info? t = some i) (w : World) : (Go.sizeOf t).run P w = .ok i.size w := by simp [Go.sizeOf, typeInfo, h]
def structD : TypeDesc → Bool
  | .struct _ => true
  | _ => false
theorem isAgg_kind {P : Program} {t : Nat} {d : TypeDesc} (hd : P.underlying t = some d) (ha : ∀ n e, d ≠ .array n e) (s : Nat) (z : List Cell) : isAgg ⟨kindT P t, s, z⟩ = structD d := by
  unfold kindT
  rw [hd]
  cases d <;> (try rfl)
  rename_i e
  show isAgg ⟨sliceK P e, s, z⟩ = false
  unfold sliceK
  cases P.info? e <;> rfl
theorem run_isAgg {P : Program} {t : Nat} {ti : TI} (h : ttOf P t = some ti) (w : World) : (Go.isAgg t).run P w = .ok (isAgg ti) w := by
  obtain ⟨i, z, d, hi, hz, hd, ha, rfl⟩ := tt_parts h
  rw [isAgg_kind hd ha]
  unfold Go.isAgg
  cases d <;> simp [run_underlying hd, structD]
  rename_i n e
  exact absurd rfl (ha n e)
theorem cell_add {w : World} {g o j : Nat} {v : Value} (h : w.cell? ⟨g, o + j, none⟩ = some v) : w.cell? ((⟨g, o, none⟩ : Addr).add j) = some v := by
  unfold Addr.add
  split
  · rename_i h0; subst h0; exact h
  · exact h
theorem run_loadVar {P : Program} {t : Nat} {ti : TI} (h : ttOf P t = some ti) (w : World) (g o : Nat) (cs : List Value) (hl : cs.length = ti.size) (hc : ∀ (j : Nat) v, cs[j]? = some v → w.cell? ⟨g, o + j, none⟩ = some v)
    (h1 : isAgg ti = false → ti.size = 1) : (loadVar t ⟨g, o, none⟩).run P w = .ok (if isAgg ti then .agg cs.toArray else cs.getD 0 undef) w := by
  have hA := run_isAgg h w
  obtain ⟨i, z, d, hi, hz, hd, ha, rfl⟩ := tt_parts h
  unfold loadVar
  simp only [Sem.run_bind, hA, Result.andThen_ok]
  cases hg : isAgg ⟨kindT P t, i.size, List.zipWith zcell z.cells.toList (ctys P 8 t)⟩ with
  | true =>
    simp only [if_true, Sem.run_bind, run_size hi, Result.andThen_ok]
    have hl' : cs.length = i.size := hl
    rw [← hl', run_loadCells_list w _ cs fun j v hv => cell_add (hc j v hv)]
    simp
  | false =>
    have := h1 hg
    simp at this hl
    rw [this] at hl
    match cs, hl with
    | [v], _ =>
      have := hc 0 v rfl
      simp at this
      simp [this]

theorem nth_real {b : Bk} {kk idx : Nat} {es : List Cell} (he : b.nth prims kk idx = some es) : kk = b.k ∧ b.el[idx]? = some es := by
  unfold Bk.nth at he
  split at he
  · rename_i hk
    refine ⟨hk, ?_⟩
    split at he <;> exact he
  · cases he
section
variable {E : Env} {w : World}
theorem outC_sound {i : Nm} {x j : Nat} {p : Cell} {u : Value} (h : CvB E w i x j p u) : CvC E w (outC p) u := by
  cases p with
  | own e k l => exact Ow.rd h fun b hb => .inr ⟨rfl, i, (x, j), hb⟩
  | _ => exact h
theorem thawD_sound {R : Nat → Prop} {s : Bool} (hR : ∀ b, R b → RS E s b) {d : DT} {u : Value} (h : Rd R w u d) : CvC E w (thawD d s) u := by
  have hs : SameOn R w w := fun _ _ _ => rfl
  cases d with
  | «at» v => obtain ⟨n, h⟩ := h; cases n <;> exact h
  | sl e k l => exact h.mono hR hs
  | ptr l =>
    obtain ⟨n, h⟩ := h
    cases n with
    | zero => exact h.elim
    | succ n =>
      obtain ⟨b, o, hv, hb, hj⟩ := h
      refine ⟨b, o, by simpa using hv, hR b hb, fun j d hd => ?_⟩
      obtain ⟨u', hu, hr⟩ := hj j d hd
      exact ⟨u', hu, Rd.mono ⟨n, hr⟩ hR hs⟩
  | fn f caps =>
    obtain ⟨n, h⟩ := h
    cases n with
    | zero => exact h.elim
    | succ n =>
      obtain ⟨cs, hv, hl, hj⟩ := h
      refine ⟨cs, hv, by simpa using hl, fun j x u hx hu => ?_⟩
      rw [List.getElem?_map] at hx
      cases hc : caps[j]? with
      | none => simp [hc] at hx
      | some d =>
        simp only [hc, Option.map_some, Option.some.injEq] at hx
        have hr := hj j d u hc hu
        subst hx
        cases d with
        | «at» v => cases n <;> exact hr
        | sl e k l => exact Rd.mono ⟨n, hr⟩ hR hs
        | ptr l =>
          cases n with
          | zero => exact hr.elim
          | succ n =>
            obtain ⟨b, o, hv, hb, hj⟩ := hr
            refine ⟨b, o, by simpa using hv, hR b hb, fun j d hd => ?_⟩
            obtain ⟨u', hu, hr⟩ := hj j d hd
            exact ⟨u', hu, Rd.mono ⟨n, hr⟩ hR hs⟩
        | fn f' caps' => trivial
/-- cells that were read become a value -/
theorem pack_sound {ag : Bool} {l : List Cell} {p : PV} (h : packC ag l = some p) {cs : List Value} (hl : cs.length = l.length) (hc : ∀ (j : Nat) x u, l[j]? = some x → cs[j]? = some u → CvC E w x u) :
    CvP E w p (if ag then .agg cs.toArray else cs.getD 0 undef) ∧ (ag = false → l.length = 1) := by
  unfold packC at h
  split at h
  · injection h with h
    subst h
    exact ⟨⟨cs, rfl, hl, hc⟩, fun h => by cases h⟩
  · injection h with h
    subst h
    match cs, hl with
    | [v], _ => exact ⟨hc 0 _ v rfl rfl, fun _ => rfl⟩
  · cases h
/-- what a load of our own memory gives -/
theorem load_own {P : Program} {t : Nat} {ti : TI} (ht : ttOf P t = some ti) {i : Nm} {kk idx off : Nat} {b : Bk} (hb : BkOk E w i b) {es : List Cell} (he : b.nth prims kk idx = some es) (hs : off + ti.size ≤ es.length)
    {p : PV} (hp : packC (isAgg ti) (((es.drop off).take ti.size).map outC) = some p) {a : Value} (ha : CvL E w (.ptr i kk idx off) a) :
    ∃ v, (Instr.loadAt t a).run P w = .ok v w ∧ CvP E w p v := by
  obtain ⟨g, hg, rfl⟩ := ha
  obtain ⟨hkk, he2⟩ := nth_real he
  subst hkk
  rcases hb with ⟨hn, _⟩ | ⟨g', cur, fz, hp', hω, hh, hf, hr, hc⟩
  · rw [hg] at hn; cases hn
  · rw [hg] at hp'
    injection hp' with hp'
    injection hp' with hp'
    subst hp'
    obtain ⟨hlen, hj⟩ := hc idx es he2
    have hcell : ∀ j, j < ti.size → ∃ u, cur[idx * b.k + off + j]? = some u ∧ ∃ x, es[off + j]? = some x ∧ CvB E w i idx (off + j) x u := by
      intro j hj'
      have h1 : es[off + j]? = some (es[off + j]'(by omega)) := List.getElem?_eq_getElem (by omega)
      obtain ⟨u, hu, hB⟩ := hj _ _ h1
      exact ⟨u, by rw [Nat.add_assoc]; exact hu, _, h1, hB⟩
    let cs := (List.range ti.size).map fun j => (cur[idx * b.k + off + j]?).getD undef
    have hcs : ∀ (j : Nat) v, cs[j]? = some v → j < ti.size ∧ cur[idx * b.k + off + j]? = some v := by
      intro j v hv
      have hlt : j < ti.size := by
        have := (List.getElem?_eq_some_iff.1 hv).1
        simpa [cs] using this
      obtain ⟨u, hu, _⟩ := hcell j hlt
      refine ⟨hlt, ?_⟩
      simp only [cs, List.getElem?_map, List.getElem?_range hlt, Option.map_some, Option.some.injEq, hu, Option.getD_some] at hv
      rw [hu, hv]
    have hcl : cs.length = (((es.drop off).take ti.size).map outC).length := by simp [cs]; omega
    have hpk := pack_sound (E := E) (w := w) hp hcl (fun j x u hx hu => by
      obtain ⟨hlt, hcu⟩ := hcs j u hu
      obtain ⟨u', hu', x', hx', hB⟩ := hcell j hlt
      rw [hu'] at hcu
      injection hcu with hcu
      subst hcu
      rw [List.getElem?_map, List.getElem?_take_of_lt hlt, List.getElem?_drop, hx'] at hx
      simp only [Option.map_some, Option.some.injEq] at hx
      subst hx
      exact outC_sound hB)
    refine ⟨_, ?_, hpk.1⟩
    unfold Instr.loadAt Instr.sureAddr
    simp only [Sem.run_bind, Sem.run_pure, Result.andThen_ok]
    exact run_loadVar ht w g _ cs (by simp [cs]) (fun j v hv => by rw [block_cell' hh]; exact (hcs j v hv).2) (fun ha => by have := hpk.2 ha; simpa [Nat.min_eq_left (show ti.size ≤ es.length - off by omega)] using this)
/-- .. of what is lent -/
theorem load_bor {P : Program} {t : Nat} {ti : TI} (ht : ttOf P t = some ti) {s : Bool} {l : List DT} {off : Nat} (hs : off + ti.size ≤ l.length)
    {p : PV} (hp : packC (isAgg ti) (((l.drop off).take ti.size).map (thawD · s)) = some p) {a : Value} (ha : CvL E w (.bp s l off) a) :
    ∃ v, (Instr.loadAt t a).run P w = .ok v w ∧ CvP E w p v := by
  obtain ⟨g, o, rfl, hR, hj⟩ := ha
  have hcell : ∀ j, j < ti.size → ∃ u, w.cell? ⟨g, o + off + j, none⟩ = some u ∧ ∃ x, l[off + j]? = some x ∧ Rd (RS E s) w u x := by
    intro j hj'
    have h1 : l[off + j]? = some (l[off + j]'(by omega)) := List.getElem?_eq_getElem (by omega)
    obtain ⟨u, hu, hB⟩ := hj _ _ h1
    exact ⟨u, by rw [Nat.add_assoc]; exact hu, _, h1, hB⟩
  let cs := (List.range ti.size).map fun j => (w.cell? ⟨g, o + off + j, none⟩).getD undef
  have hcs : ∀ (j : Nat) v, cs[j]? = some v → j < ti.size ∧ w.cell? ⟨g, o + off + j, none⟩ = some v := by
    intro j v hv
    have hlt : j < ti.size := by
      have := (List.getElem?_eq_some_iff.1 hv).1
      simpa [cs] using this
    obtain ⟨u, hu, _⟩ := hcell j hlt
    refine ⟨hlt, ?_⟩
    simp only [cs, List.getElem?_map, List.getElem?_range hlt, Option.map_some, Option.some.injEq, hu, Option.getD_some] at hv
    rw [hu, hv]
  have hcl : cs.length = (((l.drop off).take ti.size).map (thawD · s)).length := by simp [cs]; omega
  have hpk := pack_sound (E := E) (w := w) hp hcl (fun j x u hx hu => by
    obtain ⟨hlt, hcu⟩ := hcs j u hu
    obtain ⟨u', hu', x', hx', hB⟩ := hcell j hlt
    rw [hu'] at hcu
    injection hcu with hcu
    subst hcu
    rw [List.getElem?_map, List.getElem?_take_of_lt hlt, List.getElem?_drop, hx'] at hx
    simp only [Option.map_some, Option.some.injEq] at hx
    subst hx
    exact thawD_sound (fun _ h => h) hB)
  refine ⟨_, ?_, hpk.1⟩
  unfold Instr.loadAt Instr.sureAddr
  simp only [Sem.run_bind, Sem.run_pure, Result.andThen_ok]
  exact run_loadVar ht w g _ cs (by simp [cs]) (fun j v hv => (hcs j v hv).2) (fun ha => by have := hpk.2 ha; simpa [Nat.min_eq_left (show ti.size ≤ l.length - off by omega)] using this)
end
end Go.Proofs.Ytlobcaofeobgaaa
