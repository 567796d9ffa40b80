/- An operation looks at its operands alone. -/
import Derived.Test.YtlobcaofeobgaaaEngMono
namespace Go.Proofs.Ytlobcaofeobgaaa
open Go.RowKit
set_option linter.unusedVariables false
set_option linter.unusedSimpArgs false
set_option linter.unusedSectionVars false
theorem mapO_congr {α β : Type} {f g : α → Option β} : ∀ {l : List α}, (∀ x ∈ l, f x = g x) → mapO f l = mapO g l
  | [], _ => rfl
  | x :: l, h => by
    simp only [mapO]
    rw [h x (by simp), mapO_congr fun y hy => h y (by simp [hy])]
theorem parts_congr {get get' : Operand → PV} {ps : Array (Nat × Operand)} (h : ∀ x ∈ (ps.toList.map (·.2)).toArray, get x = get' x) : (ps.toList.map fun (i, x) => (i, get x)) = ps.toList.map fun (i, x) => (i, get' x) := by
  refine List.map_congr_left fun y hy => ?_
  obtain ⟨i, x⟩ := y
  simp only [Prod.mk.injEq, true_and]
  exact h x (by simp only [List.mem_toArray, List.mem_map]; exact ⟨(i, x), hy, rfl⟩)
theorem intOf_congr {get get' : Operand → PV} {x : Option Operand} (h : ∀ y, x = some y → get y = get' y) : intOf? get x = intOf? get' x := by
  cases x with
  | none => rfl
  | some y => simp only [intOf?, h y rfl]
theorem cellOf_congr {get get' : Operand → PV} {x : Operand} (h : get x = get' x) : cellOf? get x = cellOf? get' x := by
  simp only [cellOf?, h]
theorem apure_get {pr : Prims} {T : TT} {L : Nm → Option Bk} {n : Nat → Nm} {get get' : Operand → PV} {o : Oper} (h : ∀ x ∈ o.op.operands, get x = get' x) : apure pr T L n get o = apure pr T L n get' o := by
  obtain ⟨dst, op, type, pos, after, guard⟩ := o
  cases op with
  | build t ps => simp only [Op.operands] at h; simp only [apure]; rw [parts_congr h]
  | buildSlice t k ps => simp only [Op.operands] at h; simp only [apure]; rw [parts_congr h]
  | makeFunc f first caps =>
    simp only [Op.operands] at h
    cases f with
    | func f =>
      simp only [apure]
      rw [mapO_congr fun x hx => cellOf_congr (h x (Array.mem_append.2 (.inr (Array.mem_toList_iff.1 hx))))]
    | _ => rfl
  | slice t x lo hi m =>
    simp only [Op.operands] at h
    cases m with
    | none =>
      simp only [apure]
      rw [intOf_congr (x := lo) fun y hy => h y (by subst hy; simp), intOf_congr (x := hi) fun y hy => h y (by subst hy; simp), h x (by simp)]
    | some m => rfl
  | call c =>
    simp only [Op.operands, Call.operands] at h
    obtain ⟨callee, as, ts⟩ := c
    cases callee with
    | builtin b =>
      have h' : ∀ x ∈ as.toList, get x = get' x := fun x hx => h x (by simpa using hx)
      cases b <;> simp only [apure] <;> (try rfl)
      all_goals
        generalize as.toList = l at h'
        cases l with
        | nil => rfl
        | cons x l =>
          have hx := h' x (by simp)
          cases l with
          | nil => first | rfl | simp only [hx] | (generalize ts.toList = q; rcases q with _ | ⟨t, _ | ⟨u, r⟩⟩ <;> first | rfl | simp only [hx])
          | cons y l =>
            have hy := h' y (by simp)
            cases l with
            | nil => first | rfl | simp only [hx, hy] | (generalize ts.toList = q; rcases q with _ | ⟨t, _ | ⟨u, r⟩⟩ <;> first | rfl | simp only [hx, hy])
            | cons z l => first | rfl | (generalize ts.toList = q; rcases q with _ | ⟨t, _ | ⟨u, r⟩⟩ <;> rfl)
    | _ => rfl
  | _ => (try simp only [Op.operands] at h) <;> simp only [apure] <;> (try simp_all)
theorem acall_get {pr : Prims} {T : TT} {F : Fns} {L : Nm → Option Bk} {n : Nat → Nm} {get get' : Operand → PV} {c : Call} (h : ∀ x ∈ c.operands, get x = get' x) : acall pr T F L n get c = acall pr T F L n get' c := by
  obtain ⟨callee, as, ts⟩ := c
  cases callee with
  | value f =>
    simp only [Call.operands] at h
    simp only [acall, callL_eq]
    have hm : mapO (fun (x, t) => frzP pr L (norm T t (get x))) (as.toList.zip ts.toList) = mapO (fun (x, t) => frzP pr L (norm T t (get' x))) (as.toList.zip ts.toList) := mapO_congr fun y hy => by
      obtain ⟨x, t⟩ := y
      simp only
      rw [h x (Array.mem_append.2 (.inr (Array.mem_toList_iff.1 (List.of_mem_zip hy).1)))]
    simp only at hm
    rw [h f (by simp), hm]
  | _ => rfl
end Go.Proofs.Ytlobcaofeobgaaa
