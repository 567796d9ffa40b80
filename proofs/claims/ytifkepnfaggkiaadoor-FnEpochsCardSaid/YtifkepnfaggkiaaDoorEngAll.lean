/- All of these operations in one. -/
import Derived.Test.YtifkepnfaggkiaaDoorEngCall
namespace Go.Proofs.YtifkepnfaggkiaaDoor
open Go.RowKit
set_option linter.unusedVariables false
set_option linter.unusedSimpArgs false
set_option linter.unusedSectionVars false
set_option maxHeartbeats 2000000 in
theorem apure_sound {P : Program} {T : TT} {E : Env} {w : World} {get : Operand → PV} {ρ : Operand → Value} (hT : ∀ t ti, T t = some ti → ttOf P t = some ti) (hW : WfE E w) (hg : ∀ x, CvP E w (get x) (ρ x)) {L : Nm → Option Bk} (hL : ∀ i b, L i = some b → BkOk E w i b) {n : Nat → Nm} (hn : ∀ j, E.φ (n j) = none) {o : Oper} {p : PV} {nb : List (Nm × Bk)} (h : apure prims T L n get o = some (p, nb)) : Did P E w (execOp ρ o) p nb := by
  unfold apure at h
  split at h
  all_goals (try (cases h; done))
  case h_1 x ho => injection h with h; injection h with h1 h2; subst h1; subst h2; exact p_move hT hW hg (.inl ho)
  case h_2 x ho => injection h with h; injection h with h1 h2; subst h1; subst h2; exact p_move hT hW hg (.inr ho)
  case h_3 c a b ho =>
    split at h
    · rename_i t hc; injection h with h; injection h with h1 h2; subst h1; subst h2; exact p_pick hT hW hg ho hc
    · cases h
  case h_4 t ho =>
    split at h
    · rename_i ti ht
      split at h
      · injection h with h; injection h with h1 h2; subst h1; subst h2; exact p_alloc hT hW hg (hn 0) ho ht
      · cases h
    · cases h
  case h_5 t x ho =>
    split at h
    · rename_i ti ht
      split at h
      · rename_i cs hc
        split at h
        · rename_i hl; injection h with h; injection h with h1 h2; subst h1; subst h2; exact p_box hT hW hg (hn 0) ho ht hc hl
        · cases h
      · cases h
    · cases h
  case h_6 t ps ho =>
    split at h
    · rename_i fs sz z ht
      split at h
      · rename_i hall
        cases hf : fillC fs z (ps.toList.map fun (i, x) => (i, get x)) with
        | none => simp [hf] at h
        | some l =>
          simp only [hf, Option.map_some, Option.some.injEq, Prod.mk.injEq] at h
          obtain ⟨rfl, rfl⟩ := h
          exact p_build hT hW hg ho ht rfl hall hf
      · cases h
    · cases h
  case h_7 t len ps ho =>
    split at h
    · rename_i e k by_ sz z ht
      split at h
      · rename_i ti hte
        split at h
        · rename_i hc
          cases hf : fillS ti (List.replicate len ti.zero) (ps.toList.map fun (i, x) => (i, get x)) with
          | none => simp [hf] at h
          | some l =>
            simp only [hf, Option.map_some, Option.some.injEq, Prod.mk.injEq] at h
            obtain ⟨rfl, rfl⟩ := h
            exact p_buildSlice hT hW hg (hn 0) ho ht rfl hte hc.1 hc.2 hf
        · cases h
      · cases h
    · cases h
  case h_8 t a ho =>
    split at h
    · rename_i ti ht
      split at h
      · rename_i i kk idx off ha
        split at h
        · rename_i b hb
          split at h
          · rename_i es he
            split at h
            · rename_i hs
              cases hp : packC (isAgg ti) (((es.drop off).take ti.size).map outC) with
              | none => rw [hp] at h; cases h
              | some q =>
                simp only [hp, Option.map_some, Option.some.injEq, Prod.mk.injEq] at h
                obtain ⟨rfl, rfl⟩ := h
                exact p_loadOwn hT hW hg ho ht ha (hL _ _ hb) he hs hp
            · cases h
          · cases h
        · cases h
      · rename_i s l off ha
        split at h
        · rename_i hs
          cases hp : packC (isAgg ti) (((l.drop off).take ti.size).map (thawD · s)) with
          | none => rw [hp] at h; cases h
          | some q =>
            simp only [hp, Option.map_some, Option.some.injEq, Prod.mk.injEq] at h
            obtain ⟨rfl, rfl⟩ := h
            exact p_loadBor hT hW hg ho ht ha hs hp
        · cases h
      · cases h
    · cases h
  case h_9 x ho =>
    split at h
    · rename_i i kk idx off hx; injection h with h; injection h with h1 h2; subst h1; subst h2; exact p_nilPtr hT hW hg ho hx (.inl ⟨_, _, _, _, rfl⟩)
    · rename_i s l off hx; injection h with h; injection h with h1 h2; subst h1; subst h2; exact p_nilPtr hT hW hg ho hx (.inr (.inl ⟨_, _, _, rfl⟩))
    · rename_i f cs hx; injection h with h; injection h with h1 h2; subst h1; subst h2; exact p_nilPtr hT hW hg ho hx (.inr (.inr ⟨_, _, rfl⟩))
    · cases h
  case h_10 op xt x y yt ho =>
    split at h
    · rename_i a b ha hb
      split at h
      · rename_i hok
        cases hv : abin prims op a b with
        | none => simp [hv] at h
        | some v =>
          simp only [hv, Option.map_some, Option.some.injEq, Prod.mk.injEq] at h
          obtain ⟨rfl, rfl⟩ := h
          exact p_binOp hT hW hg ho ha hb hok hv
      · cases h
    · cases h
  case h_11 op t x ho =>
    split at h
    · rename_i a ha
      cases hv : aun prims op a with
      | none => simp [hv] at h
      | some v =>
        simp only [hv, Option.map_some, Option.some.injEq, Prod.mk.injEq] at h
        obtain ⟨rfl, rfl⟩ := h
        exact p_unOp hT hW hg ho ha hv
    · cases h
  case h_12 src dst x ho =>
    split at h
    · rename_i ti' k sz z k0 a hs hd hx; injection h with h; injection h with h1 h2; subst h1; subst h2; exact p_convInt hT hW hg ho hs hd rfl hx
    · rename_i ti' sz z s hs hd hx; injection h with h; injection h with h1 h2; subst h1; subst h2; exact p_convStr hT hW hg ho hs hd rfl hx
    · rename_i e k by_ sz z sz' z' y hs hd hx
      split at h
      · rename_i sz2 z2 hte
        split at h
        · rename_i e' l hf
          rw [Option.map_eq_some_iff] at h
          obtain ⟨s, hs', h⟩ := h
          injection h with h1 h2; subst h1; subst h2
          exact p_convBytes hT hW hg hL ho hs rfl hd rfl hte rfl hx hf hs'
        · cases h
      · cases h
    · rename_i sz z e by_ sz' z' s hs hd hx
      split at h
      · rename_i sz2 z2 hte
        split at h
        · rename_i hfit
          rw [Option.map_eq_some_iff] at h
          obtain ⟨l, hl, h⟩ := h
          injection h with h1 h2; subst h1; subst h2
          exact p_convNew hT hW hg ho hs rfl hd rfl hte rfl hx hfit hl (n 0)
        · cases h
      · cases h
    · cases h
  case h_13 f first caps ho =>
    split at h
    · rename_i h0
      cases hc : mapO (cellOf? get) caps.toList with
      | none => simp [hc] at h
      | some cs =>
        simp only [hc, Option.map_some, Option.some.injEq, Prod.mk.injEq] at h
        obtain ⟨rfl, rfl⟩ := h
        exact p_makeFunc hT hW hg ho h0 hc
    · cases h
  case h_14 t x lo hi ho =>
    split at h
    · rename_i lo' hi' sz z h1 h2 ht
      split at h
      · rename_i s hx
        cases hs : prims.ssub s lo' hi' with
        | none => simp [hs] at h
        | some s' =>
          simp only [hs, Option.map_some, Option.some.injEq, Prod.mk.injEq] at h
          obtain ⟨rfl, rfl⟩ := h
          exact p_sliceStr hT hW hg ho h1 h2 ht rfl hx hs
      · cases h
    · rename_i lo' hi' e' k' by_ sz z h1 h2 ht
      split at h
      · rename_i s e k xs hx
        split at h
        · rename_i hkk
          cases hs : prims.sub xs lo' hi' with
          | none => simp [hs] at h
          | some ys =>
            simp only [hs, Option.map_some, Option.some.injEq, Prod.mk.injEq] at h
            obtain ⟨rfl, rfl⟩ := h
            exact p_sliceRd hT hW hg ho h1 h2 ht rfl hkk hx hs
        · cases h
      · rename_i i e k off m hx
        split at h
        · rename_i hkk
          cases hs : prims.rsub off m lo' hi' with
          | none => simp [hs] at h
          | some r =>
            obtain ⟨o', n'⟩ := r
            simp only [hs, Option.map_some, Option.some.injEq, Prod.mk.injEq] at h
            obtain ⟨rfl, rfl⟩ := h
            exact p_sliceRow hT hW hg ho h1 h2 ht rfl hkk hx hs
        · cases h
      · rename_i e k hx
        cases hs : prims.rsub 0 0 lo' hi' with
        | none => simp [hs] at h
        | some r =>
          simp only [hs, Option.map_some, Option.some.injEq, Prod.mk.injEq] at h
          obtain ⟨rfl, rfl⟩ := h
          exact p_sliceNil hT hW hg ho h1 h2 ht rfl hx hs
      · cases h
    · cases h
  case h_15 t x f ho =>
    split at h
    · rename_i fs sz z i kk idx off ht hx
      split at h
      · rename_i y hy
        split at h
        · cases h
        · rename_i h0; injection h with h; injection h with h1 h2; subst h1; subst h2; exact p_fieldPtr hT hW hg ho ht rfl hy h0 hx
      · cases h
    · rename_i fs sz z s l off ht hx
      split at h
      · rename_i y hy
        split at h
        · cases h
        · rename_i h0; injection h with h; injection h with h1 h2; subst h1; subst h2; exact p_fieldBp hT hW hg ho ht rfl hy h0 hx
      · cases h
    · cases h
  case h_16 t x f ho =>
    split at h
    · rename_i fs sz z cs ht hx
      split at h
      · rename_i off size ag hy
        split at h
        · rename_i hs
          cases hp : packC ag ((cs.drop off).take size) with
          | none => rw [hp] at h; cases h
          | some q =>
            simp only [hp, Option.map_some, Option.some.injEq, Prod.mk.injEq] at h
            obtain ⟨rfl, rfl⟩ := h
            exact p_field hT hW hg ho ht rfl hy hx hs.1 hs.2 hp
        · cases h
      · cases h
    · cases h
  case h_17 t x ix ho =>
    split at h
    · rename_i e' k' by_ sz z ht
      split at h
      · rename_i s e k l ki a hx hi
        split at h
        · rename_i hkk
          cases hs : prims.nth l a with
          | none => simp [hs] at h
          | some es =>
            simp only [hs, Option.map_some, Option.some.injEq, Prod.mk.injEq] at h
            obtain ⟨rfl, rfl⟩ := h
            exact p_idxRd hT hW hg ho ht rfl hkk hx hi hs
        · cases h
      · rename_i i e k off m ki a hx hi
        split at h
        · rename_i hkk
          cases hs : prims.ridx off m a with
          | none => simp [hs] at h
          | some j =>
            simp only [hs, Option.map_some, Option.some.injEq, Prod.mk.injEq] at h
            obtain ⟨rfl, rfl⟩ := h
            exact p_idxRow hT hW hg ho ht rfl hkk hx hi hs
        · cases h
      · cases h
    · cases h
  case h_18 t x ix ho =>
    split at h
    · rename_i sz z ht
      split at h
      · rename_i s ki a hx hi
        cases hs : prims.sat s a with
        | none => simp [hs] at h
        | some b =>
          simp only [hs, Option.map_some, Option.some.injEq, Prod.mk.injEq] at h
          obtain ⟨rfl, rfl⟩ := h
          exact p_idxStr hT hW hg ho ht rfl hx hi hs
      · cases h
    · cases h
  case h_19 x i ho =>
    split at h
    · rename_i l hx
      cases hp : l[i]? with
      | none => rw [hp] at h; cases h
      | some q =>
        simp only [hp, Option.map_some, Option.some.injEq, Prod.mk.injEq] at h
        obtain ⟨rfl, rfl⟩ := h
        exact p_extract hT hW hg ho hx hp
    · cases h
  case h_20 as ts ho =>
    split at h
    · rename_i x t has hts
      split at h
      · rename_i sz z s ht hx; injection h with h; injection h with h1 h2; subst h1; subst h2; exact p_lenStr hT hW hg ho has hts ht rfl hx
      · rename_i a1 a2 a3 a4 a5 b1 b2 b3 l ht hx; injection h with h; injection h with h1 h2; subst h1; subst h2; exact p_lenSl hT hW hg ho has hts ht rfl hx (.inl ⟨_, _, _, _, rfl, rfl⟩)
      · rename_i a1 a2 a3 a4 a5 b1 b2 b3 b4 m ht hx; injection h with h; injection h with h1 h2; subst h1; subst h2; exact p_lenSl hT hW hg ho has hts ht rfl hx (.inr (.inl ⟨_, _, _, _, rfl⟩))
      · rename_i a1 a2 a3 a4 a5 b1 b2 ht hx; injection h with h; injection h with h1 h2; subst h1; subst h2; exact p_lenSl (m := 0) hT hW hg ho has hts ht rfl hx (.inr (.inr ⟨_, _, rfl, rfl⟩))
      · cases h
    · cases h
  case h_21 as ts ho =>
    split at h
    · rename_i x y has
      split at h
      · rename_i a b ha hb
        cases hv : amin prims a b with
        | none => simp [hv] at h
        | some v =>
          simp only [hv, Option.map_some, Option.some.injEq, Prod.mk.injEq] at h
          obtain ⟨rfl, rfl⟩ := h
          exact p_min hT hW hg ho has ha hb hv
      · cases h
    · cases h
  case h_22 as ts ho =>
    split at h
    · rename_i x y has
      split at h
      · rename_i a b ha hb
        cases hv : amax prims a b with
        | none => simp [hv] at h
        | some v =>
          simp only [hv, Option.map_some, Option.some.injEq, Prod.mk.injEq] at h
          obtain ⟨rfl, rfl⟩ := h
          exact p_max hT hW hg ho has ha hb hv
      · cases h
    · cases h
  case h_23 t l c ho =>
    split at h
    · rename_i e k by_ sz z ht
      split at h
      · rename_i ti ka a kb b hte ha hb
        split at h
        · rename_i hc
          rw [Option.map_eq_some_iff] at h
          obtain ⟨N, hN, h⟩ := h
          injection h with h1 h2
          subst h1; subst h2
          exact p_makeSlice hT hW hg (hn 0) ho ht rfl hte ha hb hc.2.1 hc.2.2 hN
        · cases h
      · cases h
    · cases h
end Go.Proofs.YtifkepnfaggkiaaDoor
