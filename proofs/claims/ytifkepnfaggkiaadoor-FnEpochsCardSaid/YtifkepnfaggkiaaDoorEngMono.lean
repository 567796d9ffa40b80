/- Joined: EngMono, EngCongr. -/
import Derived.Test.YtifkepnfaggkiaaDoorEngCanon
namespace Go.Proofs.YtifkepnfaggkiaaDoor
open Go.RowKit
set_option linter.unusedVariables false
set_option linter.unusedSimpArgs false
set_option linter.unusedSectionVars false
/-! EngMono -/
theorem mapO_mono {α β : Type} {f g : α → Option β} (h : ∀ x y, f x = some y → g x = some y) : ∀ {l : List α} {r : List β}, mapO f l = some r → mapO g l = some r
  | [], r, hr => hr
  | x :: l, r, hr => by
    simp only [mapO] at hr ⊢
    cases hx : f x with
    | none => simp [hx] at hr
    | some y =>
      cases hl : mapO f l with
      | none => simp [hx, hl] at hr
      | some ys =>
        rw [h x y hx, mapO_mono h hl]
        simpa [hx, hl] using hr
section
variable {pr : Prims} {L L' : Nm → Option Bk} (hL : ∀ n b, L n = some b → L' n = some b)
include hL
theorem frz1_mono {x : Cell} {d : DT} (h : frz1 pr L x = some d) : frz1 pr L' x = some d := by
  unfold frz1 at h ⊢
  split at h
  · split at h
    · rename_i b hb
      simp only [hL _ _ hb]
      exact h
    · cases h
  · exact h
theorem frz2_mono {x : Cell} {d : DT} (h : frz2 pr L x = some d) : frz2 pr L' x = some d := by
  unfold frz2 at h ⊢
  split at h
  · split at h
    · rename_i h0
      split at h
      · rename_i b hb
        rw [if_pos h0]
        simp only [hL _ _ hb]
        split at h
        · rename_i es hes
          rw [Option.map_eq_some_iff] at h
          obtain ⟨l, hl, rfl⟩ := h
          rw [mapO_mono (fun x y => frz1_mono hL) hl]
          rfl
        · cases h
      · cases h
    · cases h
  · split at h
    · rename_i b hb
      simp only [hL _ _ hb]
      split at h
      · rename_i hlit
        rw [if_pos hlit]
        split at h
        · rename_i hk
          rw [if_pos hk]
          rw [Option.map_eq_some_iff] at h
          obtain ⟨l, hl, rfl⟩ := h
          unfold frzElF at hl ⊢
          split at hl
          · rename_i hle
            rw [if_pos hle, mapO_mono (fun x y hxy => mapO_mono (fun x y => frz1_mono hL) hxy) hl]
            rfl
          · cases hl
        · cases h
      · rename_i hlit
        rw [if_neg hlit]
        exact frz1_mono hL h
    · cases h
  · exact frz1_mono hL h
theorem frz_mono {x : Cell} {d : DT} (h : frz pr L x = some d) : frz pr L' x = some d := by
  unfold frz at h ⊢
  split at h
  · rw [Option.map_eq_some_iff] at h
    obtain ⟨l, hl, rfl⟩ := h
    rw [mapO_mono (fun x y => frz2_mono hL) hl]
    rfl
  · exact frz2_mono hL h
theorem frzP_mono {p : PV} {d : Arg} (h : frzP pr L p = some d) : frzP pr L' p = some d := by
  unfold frzP at h ⊢
  split at h
  · rw [Option.map_eq_some_iff] at h
    obtain ⟨l, hl, rfl⟩ := h
    rw [frz_mono hL hl]
    rfl
  · rw [Option.map_eq_some_iff] at h
    obtain ⟨l, hl, rfl⟩ := h
    rw [mapO_mono (fun x y => frz_mono hL) hl]
    rfl
  · cases h
theorem acall_mono {T : TT} {F : Fns} {n : Nat → Nm} {get : Operand → PV} {c : Call} {r : PV × List (Nm × Bk)} (h : acall pr T F L n get c = some r) : acall pr T F L' n get c = some r := by
  unfold acall at h ⊢
  simp only [callL_eq] at h ⊢
  split at h
  · split at h
    · rename_i hf
      split at h
      · rename_i hsz
        split at h
        · rename_i xs cs hxs hcs
          simp only [hf, if_pos hsz]
          rename_i _ _ _ _ g0 _ _ _
          rw [mapO_mono (g := fun (x, t) => frzP pr L' (normA T g0 t (get x))) (fun x y hy => frzP_mono hL hy) hxs, mapO_mono (fun x y => frz2_mono hL) hcs]
          exact h
        · cases h
      · cases h
    · cases h
  · cases h
theorem apure_mono {T : TT} {n : Nat → Nm} {get : Operand → PV} {o : Oper} {r : PV × List (Nm × Bk)} (h : apure pr T L n get o = some r) : apure pr T L' n get o = some r := by
  by_cases hcv : ∃ s d x, o.op = .convert s d x
  · obtain ⟨src, dst, x, ho⟩ := hcv
    simp only [apure, ho] at h ⊢
    split at h
    · exact h
    · exact h
    · split at h
      · split at h
        · rename_i hf
          rw [frz1_mono hL hf]
          exact h
        · cases h
      · cases h
    · exact h
    · cases h
  by_cases hl : ∃ t a, o.op = .load t a
  · obtain ⟨t, a, ho⟩ := hl
    simp only [apure, ho] at h ⊢
    split at h
    · split at h
      · split at h
        · rename_i b hb
          simp only [hL _ _ hb]
          exact h
        · cases h
      · exact h
      · cases h
    · cases h
  · have : apure pr T L n get o = apure pr T L' n get o := by
      unfold apure
      cases ho : o.op with
      | makeFunc f a b => cases f <;> rfl
      | slice t x lo hi m => cases m <;> rfl
      | call c =>
        obtain ⟨callee, as, ts⟩ := c
        cases callee with
        | builtin b => cases b <;> rfl
        | _ => rfl
      | load t a => exact absurd ⟨_, _, ho⟩ hl
      | convert s d x => exact absurd ⟨_, _, _, ho⟩ hcv
      | _ => rfl
    rw [← this]
    exact h
end

/-! EngCongr -/
theorem mapO_congr {α β : Type} {f g : α → Option β} : ∀ {l : List α}, (∀ x ∈ l, f x = g x) → mapO f l = mapO g l
  | [], _ => rfl
  | x :: l, h => by
    simp only [mapO]
    rw [h x (by simp), mapO_congr fun y hy => h y (by simp [hy])]
theorem parts_congr {get get' : Operand → PV} {ps : Array (Nat × Operand)} (h : ∀ x ∈ (ps.toList.map (·.2)).toArray, get x = get' x) : (ps.toList.map fun (i, x) => (i, get x)) = ps.toList.map fun (i, x) => (i, get' x) := by
  refine List.map_congr_left fun y hy => ?_
  obtain ⟨i, x⟩ := y
  simp only [Prod.mk.injEq, true_and]
  exact h x (by simp only [List.mem_toArray, List.mem_map]; exact ⟨(i, x), hy, rfl⟩)
theorem intOf_congr {get get' : Operand → PV} {x : Option Operand} (h : ∀ y, x = some y → get y = get' y) : intOf? get x = intOf? get' x := by
  cases x with
  | none => rfl
  | some y => simp only [intOf?, h y rfl]
theorem cellOf_congr {get get' : Operand → PV} {x : Operand} (h : get x = get' x) : cellOf? get x = cellOf? get' x := by
  simp only [cellOf?, h]
theorem apure_get {pr : Prims} {T : TT} {L : Nm → Option Bk} {n : Nat → Nm} {get get' : Operand → PV} {o : Oper} (h : ∀ x ∈ o.op.operands, get x = get' x) : apure pr T L n get o = apure pr T L n get' o := by
  obtain ⟨dst, op, type, pos, after, guard⟩ := o
  cases op with
  | build t ps => simp only [Op.operands] at h; simp only [apure]; rw [parts_congr h]
  | buildSlice t k ps => simp only [Op.operands] at h; simp only [apure]; rw [parts_congr h]
  | makeFunc f first caps =>
    simp only [Op.operands] at h
    cases f with
    | func f =>
      simp only [apure]
      rw [mapO_congr fun x hx => cellOf_congr (h x (Array.mem_append.2 (.inr (Array.mem_toList_iff.1 hx))))]
    | _ => rfl
  | slice t x lo hi m =>
    simp only [Op.operands] at h
    cases m with
    | none =>
      simp only [apure]
      rw [intOf_congr (x := lo) fun y hy => h y (by subst hy; simp), intOf_congr (x := hi) fun y hy => h y (by subst hy; simp), h x (by simp)]
    | some m => rfl
  | call c =>
    simp only [Op.operands, Call.operands] at h
    obtain ⟨callee, as, ts⟩ := c
    cases callee with
    | builtin b =>
      have h' : ∀ x ∈ as.toList, get x = get' x := fun x hx => h x (by simpa using hx)
      cases b <;> simp only [apure] <;> (try rfl)
      all_goals
        generalize as.toList = l at h'
        cases l with
        | nil => rfl
        | cons x l =>
          have hx := h' x (by simp)
          cases l with
          | nil => first | rfl | simp only [hx] | (generalize ts.toList = q; rcases q with _ | ⟨t, _ | ⟨u, r⟩⟩ <;> first | rfl | simp only [hx])
          | cons y l =>
            have hy := h' y (by simp)
            cases l with
            | nil => first | rfl | simp only [hx, hy] | (generalize ts.toList = q; rcases q with _ | ⟨t, _ | ⟨u, r⟩⟩ <;> first | rfl | simp only [hx, hy])
            | cons z l => first | rfl | (generalize ts.toList = q; rcases q with _ | ⟨t, _ | ⟨u, r⟩⟩ <;> rfl)
    | _ => rfl
  | _ => (try simp only [Op.operands] at h) <;> simp only [apure] <;> (try simp_all)
theorem acall_get {pr : Prims} {T : TT} {F : Fns} {L : Nm → Option Bk} {n : Nat → Nm} {get get' : Operand → PV} {c : Call} (h : ∀ x ∈ c.operands, get x = get' x) : acall pr T F L n get c = acall pr T F L n get' c := by
  obtain ⟨callee, as, ts⟩ := c
  cases callee with
  | value f =>
    simp only [Call.operands] at h
    simp only [acall, callL_eq]
    have hm : ∀ g, mapO (fun (x, t) => frzP pr L (normA T g t (get x))) (as.toList.zip ts.toList) = mapO (fun (x, t) => frzP pr L (normA T g t (get' x))) (as.toList.zip ts.toList) := fun g => mapO_congr fun y hy => by
      obtain ⟨x, t⟩ := y
      simp only
      rw [h x (Array.mem_append.2 (.inr (Array.mem_toList_iff.1 (List.of_mem_zip hy).1)))]
    simp only at hm
    rw [h f (by simp)]
    simp only [hm]
  | _ => rfl
end Go.Proofs.YtifkepnfaggkiaaDoor
