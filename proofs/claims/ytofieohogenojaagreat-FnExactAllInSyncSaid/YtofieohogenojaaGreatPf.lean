/- What the plain functions compute, sixth part: are all in sync? -/
import Derived.Test.YtofieohogenojaaGreatPe
namespace Go.Proofs.YtofieohogenojaaGreat
open Go.RowKit
set_option linter.unusedVariables false
set_option linter.unusedSimpArgs false
set_option linter.unusedSectionVars false
noncomputable section
def okP (ms : List DMember) (x y : Int) : Bool := match nthI ms x, nthI ms y with
  | some a, some b => inS a b
  | _, _ => false
theorem okP_symm (ms : List DMember) (x y : Int) : okP ms x y = okP ms y x := by
  unfold okP
  cases nthI ms x <;> cases nthI ms y <;> try rfl
  exact inS_symm _ _
theorem nthI_in {α : Type} {l : List α} {x : Int} (h0 : 0 ≤ x) (h : x < l.length) : ∃ a, nthI l x = some a ∧ a ∈ l := by
  refine ⟨l[x.toNat]'(by omega), ?_, List.getElem_mem _⟩
  unfold nthI
  rw [if_pos h0]
  exact List.getElem?_eq_getElem _
theorem nthI_out {α : Type} {l : List α} {x : Int} (h : (l.length : Int) ≤ x) : nthI l x = none := by
  unfold nthI
  rw [if_pos (by omega), List.getElem?_eq_none (by omega)]
section
variable (p : DSyncGroup) (hp : p.members.length ≤ 2 ^ 40) (hm : ∀ m ∈ p.members, MemOk m) {r : List Int} (hr : Rising r)
include hp hm hr
theorem ris_mem {i : Nat} (hi : i < r.length) : 0 ≤ r[i] ∧ r[i] < 6 := hr.2.2 _ (List.getElem_mem hi)
theorem ris_lt {i j : Nat} (hi : i < r.length) (hj : j < i) : r[j]'(by omega) < r[i] := List.pairwise_iff_getElem.1 hr.2.1 j i (by omega) hi hj
theorem spec_in {i : Nat} (hi : i < r.length) : whileO (s_spec_AllInSync_l2 p r i) fuel 0 = some (if (r.take i).any (fun y => !okP p.members r[i] y) then .inr false else .inl (i : Int)) := by
  have hlen : (r.take i).length = i := by rw [List.length_take]; omega
  have h6 := hr.1
  have hw := while_scan (step := s_spec_AllInSync_l2 p r i) (r.take i) (fun _ y => !okP p.members r[i] y) (fun _ _ => false) .inr (.inl (i : Int)) (by omega) (fun j hj => by
    rw [hlen] at hj
    have hjr : j < r.length := by omega
    have hx := ris_mem p hp hm hr hi
    have hy := ris_mem p hp hm hr hjr
    have hlt := ris_lt p hp hm hr hi hj
    have e1 : prims.cmp .lss (j : Int) (i : Int) = true := by rw [pl_lss]; exact decide_eq_true (by omega)
    have e2 : (r.take i)[j]'(by omega) = r[j] := List.getElem_take
    simp only [s_spec_AllInSync_l2, e1, cond_true, ridx_at eI hi, ridx_at eI hjr, Option.bind_some, List.getElem?_eq_getElem hi, List.getElem?_eq_getElem hjr]
    simp only [pl_geq, pl_int, pl_len, e2]
    by_cases hn : (p.members.length : Int) ≤ r[i]
    · rw [decide_eq_true hn]
      have : okP p.members r[i] r[j] = false := by unfold okP; rw [nthI_out hn]
      rw [this]
      rfl
    · rw [decide_eq_false hn]
      obtain ⟨a, ha, hma⟩ := nthI_in (l := p.members) hx.1 (by omega)
      obtain ⟨b, hb, hmb⟩ := nthI_in (l := p.members) hy.1 (by omega)
      have : okP p.members r[i] r[j] = inS a b := by unfold okP; rw [ha, hb]
      simp only [cond_false, ha, hb, Option.bind_some, p_spec_InSync a b (hm a hma) (hm b hmb), pl_bnot, this]) (by
    rw [hlen]
    have e1 : prims.cmp .lss (i : Int) (i : Int) = false := by rw [pl_lss]; simp
    simp only [s_spec_AllInSync_l2, e1, cond_false])
  rw [hw, scan_const]
  by_cases hq : (r.take i).any (fun y => !okP p.members r[i] y) = true
  · rw [if_pos hq, if_pos hq]
  · rw [if_neg hq, if_neg hq]
theorem impl_in {i : Nat} (hi : i < r.length) : whileO (s_impl_AllInSync_l2 p r r[i]) fuel 0 = some (if r.any (fun y => !decide (r[i] = y) && !okP p.members r[i] y) then .inr false else .inl (r.length : Int)) := by
  have h6 := hr.1
  have hx := ris_mem p hp hm hr hi
  have hw := while_scan (step := s_impl_AllInSync_l2 p r r[i]) r (fun _ y => !decide (r[i] = y) && !okP p.members r[i] y) (fun _ _ => false) .inr (.inl (r.length : Int)) (by omega) (fun j hj => by
    have hy := ris_mem p hp hm hr hj
    have es : prims.arith .sub .i64 (p.members.length : Int) 1 = (p.members.length : Int) - 1 := pl_sub _ _ (by omega) (by omega)
    simp only [s_impl_AllInSync_l2, lt_len eI hj, cond_true, ridx_at eI hj, Option.bind_some, List.getElem?_eq_getElem hj]
    simp only [pl_neq, p_InRange, pl_int, pl_len, pl_bnot, es, Option.bind_some]
    by_cases he : r[i] = r[j]
    · rw [decide_eq_true he]
      rfl
    · rw [decide_eq_false he]
      by_cases h1 : r[i] < p.members.length
      · by_cases h2 : r[j] < p.members.length
        · obtain ⟨a, ha, hma⟩ := nthI_in (l := p.members) hx.1 h1
          obtain ⟨b, hb, hmb⟩ := nthI_in (l := p.members) hy.1 h2
          have : okP p.members r[i] r[j] = inS a b := by unfold okP; rw [ha, hb]
          rw [decide_eq_true (show 0 ≤ r[i] ∧ r[i] ≤ (p.members.length : Int) - 1 by omega), decide_eq_true (show 0 ≤ r[j] ∧ r[j] ≤ (p.members.length : Int) - 1 by omega)]
          simp only [Bool.not_false, Bool.not_true, cond_true, cond_false, ha, hb, Option.bind_some, p_impl_InSync a b (hm a hma) (hm b hmb), this, Bool.true_and]
        · have : okP p.members r[i] r[j] = false := by rw [okP_symm]; unfold okP; rw [nthI_out (by omega)]
          rw [decide_eq_true (show 0 ≤ r[i] ∧ r[i] ≤ (p.members.length : Int) - 1 by omega), decide_eq_false (show ¬ (0 ≤ r[j] ∧ r[j] ≤ (p.members.length : Int) - 1) by omega), this]
          rfl
      · have : okP p.members r[i] r[j] = false := by unfold okP; rw [nthI_out (by omega)]
        rw [decide_eq_false (show ¬ (0 ≤ r[i] ∧ r[i] ≤ (p.members.length : Int) - 1) by omega), this]
        rfl) (by simp only [s_impl_AllInSync_l2, lt_end, cond_false])
  rw [hw, scan_const]
  by_cases hq : r.any (fun y => !decide (r[i] = y) && !okP p.members r[i] y) = true
  · rw [if_pos hq, if_pos hq]
  · rw [if_neg hq, if_neg hq]
theorem spec_out : whileO (s_spec_AllInSync_l1 p r) fuel 0 = some (match scan (fun i x => (r.take i).any (fun y => !okP p.members x y)) (fun _ _ => false) 0 r with | some b => .inr b | none => .inl (r.length : Int)) := by
  have h6 := hr.1
  have hw := while_scan (step := s_spec_AllInSync_l1 p r) r (fun i x => (r.take i).any (fun y => !okP p.members x y)) (fun _ _ => false) .inr (.inl (r.length : Int)) (by omega) (fun i hi => by
    simp only [s_spec_AllInSync_l1, lt_len eI hi, cond_true, spec_in p hp hm hr hi, Option.bind_some]
    cases (r.take i).any (fun y => !okP p.members r[i] y) <;> rfl) (by simp only [s_spec_AllInSync_l1, lt_end, cond_false])
  rw [hw]
  cases scan (fun i x => (r.take i).any (fun y => !okP p.members x y)) (fun _ _ => false) 0 r <;> rfl
theorem impl_out : whileO (s_impl_AllInSync_l1 p r) fuel 0 = some (if r.any (fun x => r.any (fun y => !decide (x = y) && !okP p.members x y)) then .inr false else .inl (r.length : Int)) := by
  have h6 := hr.1
  have hw := while_scan (step := s_impl_AllInSync_l1 p r) r (fun _ x => r.any (fun y => !decide (x = y) && !okP p.members x y)) (fun _ _ => false) .inr (.inl (r.length : Int)) (by omega) (fun i hi => by
    simp only [s_impl_AllInSync_l1, lt_len eI hi, cond_true, ridx_at eI hi, Option.bind_some, List.getElem?_eq_getElem hi, impl_in p hp hm hr hi]
    cases r.any (fun y => !decide (r[i] = y) && !okP p.members r[i] y) <;> rfl) (by simp only [s_impl_AllInSync_l1, lt_end, cond_false])
  rw [hw, scan_const]
  by_cases hq : r.any (fun x => r.any (fun y => !decide (x = y) && !okP p.members x y)) = true
  · rw [if_pos hq, if_pos hq]
  · rw [if_neg hq, if_neg hq]
theorem same_out : (match scan (fun i x => (r.take i).any (fun y => !okP p.members x y)) (fun _ _ => false) 0 r with | some b => b | none => true) = !r.any (fun x => r.any (fun y => !decide (x = y) && !okP p.members x y)) := by
  cases hc : scan (fun i x => (r.take i).any (fun y => !okP p.members x y)) (fun _ _ => false) 0 r with
  | some b =>
    obtain ⟨i, x, h1, h2, h3⟩ := scan_some _ _ r 0 b hc
    subst h3
    rw [Nat.zero_add] at h2
    obtain ⟨y, hy, hb⟩ := List.any_eq_true.1 h2
    have hi : i < r.length := (List.getElem?_eq_some_iff.1 h1).1
    have hx : r[i] = x := (List.getElem?_eq_some_iff.1 h1).2
    obtain ⟨j, hj⟩ := List.getElem?_of_mem hy
    have hji : j < i := by
      have := (List.getElem?_eq_some_iff.1 hj).1
      rw [List.length_take] at this
      omega
    have hyj : r[j]'(by omega) = y := by
      rw [List.getElem?_take_of_lt hji] at hj
      exact (List.getElem?_eq_some_iff.1 hj).2
    have hlt := ris_lt p hp hm hr hi hji
    have : r.any (fun x => r.any (fun y => !decide (x = y) && !okP p.members x y)) = true := List.any_eq_true.2 ⟨x, List.mem_of_getElem? h1, List.any_eq_true.2 ⟨y, List.mem_of_mem_take hy, by
      rw [decide_eq_false (show ¬ x = y by omega)]
      exact hb⟩⟩
    rw [this]
    rfl
  | none =>
    have hn := scan_none _ _ r 0 hc
    have : r.any (fun x => r.any (fun y => !decide (x = y) && !okP p.members x y)) = false := by
      rw [List.any_eq_false]
      intro x hx
      rw [Bool.not_eq_true, List.any_eq_false]
      intro y hy
      rw [Bool.not_eq_true]
      by_cases he : x = y
      · rw [decide_eq_true he]; rfl
      · obtain ⟨i, hi⟩ := List.getElem?_of_mem hx
        obtain ⟨j, hj⟩ := List.getElem?_of_mem hy
        have hij : i ≠ j := fun e => he (by rw [e, hj] at hi; injection hi with hi; exact hi.symm)
        have hgo : ∀ (i j : Nat) (x y : Int), r[i]? = some x → r[j]? = some y → j < i → okP p.members x y = true := by
          intro i j x y hi hj hji
          have h1 := hn i x hi
          rw [Nat.zero_add, List.any_eq_false] at h1
          have h2 := h1 y (by
            refine List.mem_of_getElem? (i := j) ?_
            rw [List.getElem?_take_of_lt hji]
            exact hj)
          simpa using h2
        have hok : okP p.members x y = true := by
          rcases Nat.lt_or_gt_of_ne hij with h | h
          · rw [okP_symm]
            exact hgo j i y x hj hi h
          · exact hgo i j x y hi hj h
        rw [hok]
        simp
    rw [this]
    rfl
end
/-- ALL IN SYNC: the two give the same. -/
theorem all_both (p : DSyncGroup) (dead : List Int) (k : Int) (h : p.topology.links.length ≤ 2 ^ 40) (hd : dead.length < 2 ^ 61) (hp : p.members.length ≤ 2 ^ 40) (hm : ∀ m ∈ p.members, MemOk m) : ∃ b, s_spec_AllInSync p dead k = some b ∧ s_impl_AllInSync p dead k = some b := by
  obtain ⟨r, h1, h2, hr⟩ := connected_both p dead k h hd
  have hs := same_out p hp hm hr
  refine ⟨!r.any (fun x => r.any (fun y => !decide (x = y) && !okP p.members x y)), ?_, ?_⟩
  · unfold s_spec_AllInSync
    rw [h1]
    simp only [Option.bind_some, spec_out p hp hm hr]
    rw [← hs]
    cases scan (fun i x => (r.take i).any (fun y => !okP p.members x y)) (fun _ _ => false) 0 r <;> rfl
  · unfold s_impl_AllInSync
    rw [h2]
    simp only [Option.bind_some, impl_out p hp hm hr]
    cases r.any (fun x => r.any (fun y => !decide (x = y) && !okP p.members x y)) <;> rfl
end
end Go.Proofs.YtofieohogenojaaGreat
