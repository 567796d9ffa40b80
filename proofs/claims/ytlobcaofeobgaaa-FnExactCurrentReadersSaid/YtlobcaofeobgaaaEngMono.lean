/- More blocks in sight: the same answers. -/
import Derived.Test.YtlobcaofeobgaaaEngCanon
namespace Go.Proofs.Ytlobcaofeobgaaa
open Go.RowKit
set_option linter.unusedVariables false
set_option linter.unusedSimpArgs false
set_option linter.unusedSectionVars false
theorem mapO_mono {α β : Type} {f g : α → Option β} (h : ∀ x y, f x = some y → g x = some y) : ∀ {l : List α} {r : List β}, mapO f l = some r → mapO g l = some r
  | [], r, hr => hr
  | x :: l, r, hr => by
    simp only [mapO] at hr ⊢
    cases hx : f x with
    | none => simp [hx] at hr
    | some y =>
      cases hl : mapO f l with
      | none => simp [hx, hl] at hr
      | some ys =>
        rw [h x y hx, mapO_mono h hl]
        simpa [hx, hl] using hr
section
variable {pr : Prims} {L L' : Nm → Option Bk} (hL : ∀ n b, L n = some b → L' n = some b)
include hL
theorem frz1_mono {x : Cell} {d : DT} (h : frz1 pr L x = some d) : frz1 pr L' x = some d := by
  unfold frz1 at h ⊢
  split at h
  · split at h
    · rename_i b hb
      simp only [hL _ _ hb]
      exact h
    · cases h
  · exact h
theorem frz2_mono {x : Cell} {d : DT} (h : frz2 pr L x = some d) : frz2 pr L' x = some d := by
  unfold frz2 at h ⊢
  split at h
  · split at h
    · rename_i h0
      split at h
      · rename_i b hb
        rw [if_pos h0]
        simp only [hL _ _ hb]
        split at h
        · rename_i es hes
          rw [Option.map_eq_some_iff] at h
          obtain ⟨l, hl, rfl⟩ := h
          rw [mapO_mono (fun x y => frz1_mono hL) hl]
          rfl
        · cases h
      · cases h
    · cases h
  · exact frz1_mono hL h
theorem frz_mono {x : Cell} {d : DT} (h : frz pr L x = some d) : frz pr L' x = some d := by
  unfold frz at h ⊢
  split at h
  · rw [Option.map_eq_some_iff] at h
    obtain ⟨l, hl, rfl⟩ := h
    rw [mapO_mono (fun x y => frz2_mono hL) hl]
    rfl
  · exact frz2_mono hL h
theorem frzP_mono {p : PV} {d : Arg} (h : frzP pr L p = some d) : frzP pr L' p = some d := by
  unfold frzP at h ⊢
  split at h
  · rw [Option.map_eq_some_iff] at h
    obtain ⟨l, hl, rfl⟩ := h
    rw [frz_mono hL hl]
    rfl
  · rw [Option.map_eq_some_iff] at h
    obtain ⟨l, hl, rfl⟩ := h
    rw [mapO_mono (fun x y => frz_mono hL) hl]
    rfl
  · cases h
theorem acall_mono {T : TT} {F : Fns} {n : Nat → Nm} {get : Operand → PV} {c : Call} {r : PV × List (Nm × Bk)} (h : acall pr T F L n get c = some r) : acall pr T F L' n get c = some r := by
  unfold acall at h ⊢
  simp only [callL_eq] at h ⊢
  split at h
  · split at h
    · rename_i hf
      split at h
      · rename_i hsz
        split at h
        · rename_i xs cs hxs hcs
          simp only [hf, if_pos hsz]
          rw [mapO_mono (g := fun (x, t) => frzP pr L' (norm T t (get x))) (fun x y hy => frzP_mono hL hy) hxs, mapO_mono (fun x y => frz2_mono hL) hcs]
          exact h
        · cases h
      · cases h
    · cases h
  · cases h
theorem apure_mono {T : TT} {n : Nat → Nm} {get : Operand → PV} {o : Oper} {r : PV × List (Nm × Bk)} (h : apure pr T L n get o = some r) : apure pr T L' n get o = some r := by
  by_cases hl : ∃ t a, o.op = .load t a
  · obtain ⟨t, a, ho⟩ := hl
    simp only [apure, ho] at h ⊢
    split at h
    · split at h
      · split at h
        · rename_i b hb
          simp only [hL _ _ hb]
          exact h
        · cases h
      · exact h
      · cases h
    · cases h
  · have : apure pr T L n get o = apure pr T L' n get o := by
      unfold apure
      cases ho : o.op with
      | makeFunc f a b => cases f <;> rfl
      | slice t x lo hi m => cases m <;> rfl
      | call c =>
        obtain ⟨callee, as, ts⟩ := c
        cases callee with
        | builtin b => cases b <;> rfl
        | _ => rfl
      | load t a => exact absurd ⟨_, _, ho⟩ hl
      | _ => rfl
    rw [← this]
    exact h
end
end Go.Proofs.Ytlobcaofeobgaaa
