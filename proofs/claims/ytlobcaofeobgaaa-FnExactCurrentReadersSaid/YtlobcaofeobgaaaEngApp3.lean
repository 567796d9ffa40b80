/- What is appended: literal rows; all sources in one. -/
import Derived.Test.YtlobcaofeobgaaaEngApp2
namespace Go.Proofs.Ytlobcaofeobgaaa
open Go.RowKit
set_option linter.unusedVariables false
set_option linter.unusedSimpArgs false
set_option linter.unusedSectionVars false
theorem Turn.trans {E E1 E2 : Env} {w : World} {g1 g2 : Nm → Prop} (G1 : Turn E E1 w w (fun _ => False) g1) (G2 : Turn E1 E2 w w (fun _ => False) g2) : Turn E E2 w w (fun _ => False) (fun n => g1 n ∨ g2 n) :=
  ⟨fun k y hk => G2.φ k y (G1.φ k y hk), fun b n y hb hn => G2.ω b n y (G1.ω b n y hb (fun h => hn (.inl h))) (fun h => hn (.inr h)), fun b n c' hb => by
    obtain ⟨n', c'', h'⟩ := G1.inl b n c' hb
    exact G2.inl b n' c'' h', fun b => (G2.B b).trans (G1.B b), Nat.le_refl _, fun _ _ _ => rfl, fun _ h => h.elim, fun _ h => h.elim⟩
theorem closeLL_sound (m : Nm) {w : World} : ∀ (ls : List (List Cell)) (us : List (List Value)) (E : Env) (hp : List (Nm × Bk)) (x0 : Nat) (ls' : List (List Cell)) (hp' : List (Nm × Bk)), WfE E w → (∀ n b, look hp n = some b → BkOk E w n b) → look hp m = none →
    (∀ (x : Nat) es vs, ls[x]? = some es → us[x]? = some vs → ∀ (j : Nat) c u, es[j]? = some c → vs[j]? = some u → CvB E w m (x0 + x) j c u) →
    closeLL prims hp ls = some (ls', hp') →
    ∃ E' gone, Turn E E' w w (fun _ => False) gone ∧ WfE E' w ∧ E'.φ = E.φ ∧ ls'.length = ls.length ∧ (∀ (x : Nat) es', ls'[x]? = some es' → ∃ es, ls[x]? = some es ∧ es'.length = es.length) ∧ (∀ n b, look hp' n = some b → ¬ gone n ∧ look hp n = some b) ∧ (∀ n b, look hp' n = some b → BkOk E' w n b) ∧
      (∀ (x : Nat) es vs, ls'[x]? = some es → us[x]? = some vs → ∀ (j : Nat) c u, es[j]? = some c → vs[j]? = some u → CvB E' w m (x0 + x) j c u) ∧ (∀ n, gone n → ∃ b, look hp n = some b)
  | [], us, E, hp, x0, ls', hp', hW, hB, hm, hc, h => by
    simp only [closeLL, Option.some.injEq, Prod.mk.injEq] at h
    obtain ⟨rfl, rfl⟩ := h
    exact ⟨E, fun _ => False, Turn.refl E w _, hW, rfl, rfl, (fun x es' h => by simp at h), fun n b hb => ⟨fun h => h, hb⟩, hB, (fun x es vs h => by simp at h), (fun n h => h.elim)⟩
  | cs :: ls, us, E, hp, x0, ls', hp', hW, hB, hm, hc, h => by
    simp only [closeLL] at h
    split at h
    · rename_i y hp1 hy
      cases hr : closeLL prims hp1 ls with
      | none => simp [hr] at h
      | some r =>
        obtain ⟨ys, hp2⟩ := r
        simp only [hr, Option.map_some, Option.some.injEq, Prod.mk.injEq] at h
        obtain ⟨rfl, rfl⟩ := h
        obtain ⟨E1, gone1, G1, hW1, hφ1, hlen1, hlk1, hB1, hC1, hg1⟩ := closeL_sound m x0 cs ((us[0]?).getD []) E hp 0 y hp1 hW hB (fun j c u hcj hu => by
          cases h0 : us[0]? with
          | none => simp [h0] at hu
          | some vs =>
            simp only [h0, Option.getD_some] at hu
            refine ⟨?_, .inl hm⟩
            rw [Nat.zero_add]
            exact hc 0 cs vs rfl h0 j c u hcj hu) hy
        have hm1 : look hp1 m = none := by
          cases hl : look hp1 m with
          | none => rfl
          | some b => have := (hlk1 m b hl).2; rw [hm] at this; cases this
        have hng : ¬ gone1 m := fun hg => by
          obtain ⟨b, hb⟩ := hg1 m hg
          rw [hm] at hb; cases hb
        obtain ⟨E2, gone2, G2, hW2, hφ2, hlen2, hel2, hlk2, hB2, hC2, hg2⟩ := closeLL_sound m ls (us.drop 1) E1 hp1 (x0 + 1) ys hp2 hW1 hB1 hm1 (fun x es vs hx hv j c u hcj hu => by
          have := hc (x + 1) es vs (by simpa using hx) (by simpa [Nat.add_comm] using hv) j c u hcj hu
          rw [show x0 + (x + 1) = x0 + 1 + x by omega] at this
          exact this.turn hW G1 hng) hr
        have hng2 : ¬ gone2 m := fun hg => by
          obtain ⟨b, hb⟩ := hg2 m hg
          rw [hm1] at hb; cases hb
        refine ⟨E2, fun n => gone1 n ∨ gone2 n, G1.trans G2, hW2, by rw [hφ2, hφ1], by simp [hlen2], fun x es' hx => ?_, fun n b hb => ?_, hB2, fun x es vs hx hv j c u hcj hu => ?_, fun n hn => ?_⟩
        · cases x with
          | zero =>
            simp only [List.getElem?_cons_zero, Option.some.injEq] at hx
            subst hx
            exact ⟨cs, rfl, hlen1⟩
          | succ x => obtain ⟨es, h1, h2⟩ := hel2 x es' (by simpa using hx); exact ⟨es, by simpa using h1, h2⟩
        · obtain ⟨h1, h2⟩ := hlk2 n b hb
          obtain ⟨h3, h4⟩ := hlk1 n b h2
          exact ⟨fun h => h.elim h3 h1, h4⟩
        · cases x with
          | zero =>
            simp only [List.getElem?_cons_zero, Option.some.injEq] at hx
            subst hx
            have := hC1 hng j c u hcj (by simpa [hv] using hu)
            rw [Nat.zero_add] at this
            exact this.turn hW1 G2 hng2
          | succ x =>
            have := hC2 x es vs (by simpa using hx) (by simpa [Nat.add_comm] using hv) j c u hcj hu
            rw [show x0 + (x + 1) = x0 + 1 + x by omega]
            exact this
        · rcases hn with hn | hn
          · exact hg1 n hn
          · obtain ⟨b, hb⟩ := hg2 n hn
            exact ⟨b, (hlk1 n b hb).2⟩
    · cases h
theorem closeL_mem : ∀ (cs : List Cell) (hp : List (Nm × Bk)) r, closeL prims hp cs = some r → ∀ p ∈ cs, ∃ hp1 q, closeC prims hp1 p = some q
  | [], _, _, _, p, hp => by cases hp
  | c :: cs, hp, r, h, p, hpm => by
    simp only [closeL] at h
    split at h
    · rename_i y hp1 hy
      rcases List.mem_cons.1 hpm with rfl | hpm
      · exact ⟨hp, _, hy⟩
      · cases hr : closeL prims hp1 cs with
        | none => simp [hr] at h
        | some r' => exact closeL_mem cs hp1 r' hr p hpm
    · cases h
theorem closeLL_mem : ∀ (ls : List (List Cell)) (hp : List (Nm × Bk)) r, closeLL prims hp ls = some r → ∀ es ∈ ls, ∀ p ∈ es, ∃ hp1 q, closeC prims hp1 p = some q
  | [], _, _, _, es, h => by cases h
  | c :: cs, hp, r, h, es, hes => by
    simp only [closeLL] at h
    split at h
    · rename_i y hp1 hy
      rcases List.mem_cons.1 hes with rfl | hes
      · exact closeL_mem es hp _ hy
      · cases hr : closeLL prims hp1 cs with
        | none => simp [hr] at h
        | some r' => exact closeLL_mem cs hp1 r' hr es hes
    · cases h
theorem close_one {E : Env} {w : World} {i : Nm} {x j : Nat} {p : Cell} {u : Value} (h : CvB E w i x j p u) {hp : List (Nm × Bk)} {q : Cell × List (Nm × Bk)} (hm : closeC prims hp p = some q) : oneV u := by
  unfold closeC at hm
  split at hm
  · obtain ⟨A, c, rfl, _⟩ := h
    constructor <;> intro _ h <;> cases h
  · split at hm
    · rename_i v hv; exact (ok_one (E := E) (w := w) (x := .at v) h hv).2
    · cases hm
  · rename_i e k; exact (ok_one (E := E) (w := w) (x := .nil e k) h rfl).2
  · rename_i s e k l; exact (ok_one (E := E) (w := w) (x := .rd s e k l) h rfl).2
  · exact ow_one h
  · cases hm
theorem shift_cv {E : Env} {w : World} (hW : WfE E w) {i m : Nm} {off n s0 x j : Nat} (hx : x < n) {p : Cell} {u : Value} (hC : CvB E w i (off + x) j p u) : CvB (shift E i m off n s0) w m (s0 + x) j p u := by
  by_cases ho : ∃ e k l, p = .own e k l
  · obtain ⟨e, k, l, rfl⟩ := ho
    refine Ow.mono hC (fun b' hb' => ?_) (same_refl _ _)
    simp only [shift, hb']
    rw [if_pos ⟨trivial, by omega, by omega⟩, show off + x - off = x by omega]
  · exact CvB.of_CvC ((hC.toC fun e k l h => ho ⟨e, k, l, h⟩).turn hW (shift_turn E w i m off n s0))
theorem asrc_lit {P : Program} {E : Env} {w : World} (hW : WfE E w) {hp : List (Nm × Bk)} (hB : ∀ n b, look hp n = some b → BkOk E w n b) {k : Nat} {tx : TypeId} (hk0 : 0 < k) (hkind : (∃ e', P.underlying tx = some (.slice e')) ∨ P.underlying tx = some .string) {i : Nm} {e off n : Nat} {v : Value} (hv : CvL E w (.row i e k off n) v) {b : Bk} (hb : look hp i = some b) (hkb : k = b.k) (hle : off + n ≤ b.el.length) {m : Nm} (hm : look hp m = none) {l : List (List Cell)} {hp' : List (Nm × Bk)} (hl : closeLL prims (del hp i) ((b.el.drop off).take n) = some (l, hp')) (s0 : Nat) :
    ∃ E1 us, Taken P E w k tx v l hp' hp m s0 E1 us := by
  have hW1 := shift_wf hW i m off n s0
  have G := shift_turn E w i m off n s0
  obtain ⟨A, c, rfl, hc1, hc2, h3⟩ := hv
  subst hkb
  have hm1 : look (del hp i) m = none := by
    cases hl : look (del hp i) m with
    | none => rfl
    | some b' => have := (look_del hl).2; rw [hm] at this; cases this
  have hB1 : ∀ n' b', look (del hp i) n' = some b' → BkOk (shift E i m off n s0) w n' b' := fun n' b' hb' => by
    obtain ⟨h1, h2⟩ := look_del hb'
    exact (hB n' b' h2).turn hW G h1 (fun _ h => h.elim)
  have hA0 : A = none → n = 0 := by
    intro hA
    rcases h3 with ⟨_, _, hn, _⟩ | ⟨g', hφ', hA', _⟩
    · exact hn
    · rcases Nat.eq_zero_or_pos n with h | h
      · exact h
      · rw [hA] at hA'; cases hA' h
  -- each cell that is moved
  have key : ∀ (x : Nat) es, ((b.el.drop off).take n)[x]? = some es → es.length = b.k ∧ x < n ∧ ∃ g, A = some ⟨g, off * b.k, none⟩ ∧ ∀ (j : Nat) p, es[j]? = some p → j < b.k ∧ ∃ u, w.cell? ⟨g, off * b.k + x * b.k + j, none⟩ = some u ∧ CvB E w i (off + x) j p u ∧ oneV u := by
    intro x es hx
    have hxn : x < n := by have := (List.getElem?_eq_some_iff.1 hx).1; simp at this; omega
    have hmem : es ∈ (b.el.drop off).take n := List.mem_of_getElem? hx
    rw [List.getElem?_take_of_lt hxn, List.getElem?_drop] at hx
    rcases hB i b hb with ⟨hφ, hr, hnil⟩ | ⟨g, cur, fz, hφ, hω, hh, hfz, hrow, hc⟩
    · rw [hnil] at hx; simp at hx
    obtain ⟨hke, hcj⟩ := hc _ _ hx
    have hA : A = some ⟨g, off * b.k, none⟩ := by
      rcases h3 with ⟨hφ', _⟩ | ⟨g', hφ', hA', _⟩
      · rw [hφ] at hφ'; injection hφ' with hφ'; cases hφ'
      · rw [hφ] at hφ'; injection hφ' with hφ'; injection hφ' with hφ'; subst hφ'; exact hA' (by omega)
    refine ⟨hke, hxn, g, hA, fun j p hp => ?_⟩
    obtain ⟨u, hu, hC⟩ := hcj j p hp
    obtain ⟨hp1, q, hq⟩ := closeLL_mem _ _ _ hl es hmem p (List.mem_of_getElem? hp)
    exact ⟨by rw [← hke]; exact (List.getElem?_eq_some_iff.1 hp).1, u, by rw [block_cell' hh, ← hu, Nat.add_mul], hC, close_one hC hq⟩
  have hus : ∀ (x : Nat) es vs, ((b.el.drop off).take n)[x]? = some es → (usOf w A n b.k)[x]? = some vs → ∀ (j : Nat) c u, es[j]? = some c → vs[j]? = some u → CvB (shift E i m off n s0) w m (s0 + x) j c u := by
    intro x es vs hx hv j c u hc hu
    obtain ⟨hke, hxn, g, hA, hcell⟩ := key x es hx
    obtain ⟨hjk, u', hu', hC, _⟩ := hcell j c hc
    obtain ⟨a, hA', _, hvs⟩ := usOf_inv hv
    rw [hA] at hA'
    injection hA' with hA'
    subst hA'
    obtain ⟨_, he⟩ := hvs j u hu
    rw [hu'] at he
    simp at he
    subst he
    exact shift_cv hW hxn hC
  obtain ⟨E2, gone, G2, hW2, hφ2, hlen2, hel2, hlk2, hB2, hC2, hg2⟩ := closeLL_sound m _ (usOf w A n b.k) (shift E i m off n s0) (del hp i) s0 l hp' hW1 hB1 hm1 hus hl
  have hln : l.length = n := by rw [hlen2]; simp; omega
  refine ⟨E2, usOf w A n b.k, ⟨⟨_, G.trans G2⟩, hW2, hφ2, hB2, fun n' b' hb' => ?_, ⟨?_, by rw [usOf_len hA0, hln], fun x es hx => ?_, usOf_k⟩, fun x es hx j p hp => ?_⟩⟩
  · exact ⟨b', (look_del (hlk2 n' b' hb').2).2⟩
  · rw [hln]
    refine src_slice hkind (usOf_len hA0) usOf_k (fun x es hx => ?_) hk0 hA0
    obtain ⟨a, hA, hxn, hes⟩ := usOf_inv hx
    have hlx : l[x]? = some (l[x]'(by omega)) := List.getElem?_eq_getElem (by omega)
    obtain ⟨es0, hes0, _⟩ := hel2 x _ hlx
    obtain ⟨hke, _, g, hA2, hcell⟩ := key x es0 hes0
    rw [hA] at hA2
    injection hA2 with hA2
    subst hA2
    refine ⟨g, off * b.k, hA, fun j u hu => ?_⟩
    obtain ⟨hjk, hu'⟩ := hes j u hu
    obtain ⟨_, u2, hu2, _, ho⟩ := hcell j _ (List.getElem?_eq_getElem (by omega))
    rw [hu2] at hu'
    simp at hu'
    subst hu'
    exact ⟨hu2, ho⟩
  · obtain ⟨es0, hes0, h⟩ := hel2 x es hx
    rw [h]
    exact (key x es0 hes0).1
  · obtain ⟨es0, hes0, h⟩ := hel2 x es hx
    obtain ⟨hke, hxn, g, hA, hcell⟩ := key x es0 hes0
    have hj : j < es0.length := by rw [← h]; exact (List.getElem?_eq_some_iff.1 hp).1
    obtain ⟨hjk, u, hu, hC, _⟩ := hcell j _ (List.getElem?_eq_getElem hj)
    have hat := usOf_at (w := w) (a := ⟨g, off * b.k, none⟩) hxn hjk hu
    rw [← hA] at hat
    cases hvx : (usOf w A n b.k)[x]? with
    | none => rw [hvx] at hat; cases hat
    | some vs =>
      rw [hvx] at hat
      exact ⟨u, hat, hC2 x es vs hx hvx j p u hp hat⟩
/-- all sources -/
theorem asrc_sound {P : Program} {E : Env} {w0 : World} {σ : St} {a : Act} {w : World} (R : Rel E w0 σ a w) {k : Nat} {tx : TypeId} (hk0 : 0 < k) (hkind : (∃ e', P.underlying tx = some (.slice e')) ∨ P.underlying tx = some .string) {p : PV} {v : Value} (hv : CvP E w p v) {m : Nm} (hm : look σ.hp m = none) {l : List (List Cell)} {hp' : List (Nm × Bk)} (h : asrc prims σ k p = some (l, hp')) (s0 : Nat) :
    ∃ E1 us, Taken P E w k tx v l hp' σ.hp m s0 E1 us := by
  unfold asrc at h
  split at h
  · split at h
    · rename_i hk
      subst hk
      cases hl : prims.lend _ _ with
      | none => rw [hl] at h; cases h
      | some l' =>
        rw [hl] at h
        simp only [Option.map_some, Option.some.injEq, Prod.mk.injEq] at h
        obtain ⟨rfl, rfl⟩ := h
        obtain ⟨us, hT⟩ := asrc_rd (P := P) R.wf R.blk hk0 hkind hv hl m s0
        exact ⟨E, us, hT⟩
    · cases h
  · injection h with h
    injection h with h1 h2
    subst h1; subst h2
    obtain ⟨us, hT⟩ := asrc_nil (P := P) (k := k) (tx := tx) R.wf R.blk hkind hv m s0
    exact ⟨E, us, hT⟩
  · split at h
    · rename_i hk
      subst hk
      injection h with h
      injection h with h1 h2
      subst h1; subst h2
      have hv' : v = .string _ := hv
      subst hv'
      obtain ⟨us, hT⟩ := asrc_str (P := P) (tx := tx) R.wf R.blk hkind _ m s0
      exact ⟨E, us, hT⟩
    · cases h
  · split at h
    · rename_i b hb
      split at h
      · rename_i hk
        obtain ⟨rfl, hkb⟩ := hk
        split at h
        · split at h
          · rename_i hle
            exact asrc_lit (e := 0) R.wf R.blk hk0 hkind hv hb hkb hle hm h s0
          · cases h
        · split at h
          · rename_i l' hl
            injection h with h
            injection h with h1 h2
            subst h1; subst h2
            simp only [prims] at hl
            split at hl
            · rename_i hle
              obtain ⟨us, hT⟩ := asrc_row (P := P) (e := 0) R.wf R.blk hk0 hkind hv hb hkb hle hl m s0 b.lit
              exact ⟨_, us, hT⟩
            · cases hl
          · cases h
      · cases h
    · cases h
  · cases h
end Go.Proofs.Ytlobcaofeobgaaa
