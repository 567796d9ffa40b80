/- What the plain functions compute, third part: who can be reached. -/
import Derived.Test.YtofieohogenojaaPb
namespace Go.Proofs.Ytofieohogenojaa
open Go.RowKit
set_option linter.unusedVariables false
set_option linter.unusedSimpArgs false
set_option linter.unusedSectionVars false
noncomputable section
def gt (d : List Int) (x : Nat) : Int := d.getD x (-1)
theorem gt_at {d : List Int} {x : Nat} (h : x < d.length) : d[x]? = some (gt d x) := by
  simp [gt, List.getD, List.getElem?_eq_getElem h]
theorem gt_set {d : List Int} {x : Nat} (h : x < d.length) (v : Int) (y : Nat) : gt (d.set x v) y = if y = x then v else gt d y := by
  unfold gt
  rw [List.getD_eq_getElem?_getD, List.getD_eq_getElem?_getD]
  by_cases hy : y = x
  · subst hy
    rw [List.getElem?_set_self h]
    simp
  · rw [List.getElem?_set_ne (fun e => hy e.symm), if_neg hy]
inductive Rch (R : Nat → Nat → Bool) (a : Nat) : Nat → Prop
  | start : Rch R a a
  | step {b x : Nat} : Rch R a b → R b x = true → x < 6 → Rch R a x
theorem rch_lt {R : Nat → Nat → Bool} {a x : Nat} (ha : a < 6) (h : Rch R a x) : x < 6 := by
  cases h with
  | start => exact ha
  | step _ _ h => exact h
theorem rch_of {R : Nat → Nat → Bool} {a : Nat} {d : List Int} (ha : a < 6) (h0 : 0 ≤ gt d a) (hc : ∀ b x, b < 6 → x < 6 → 0 ≤ gt d b → R b x = true → 0 ≤ gt d x) {x : Nat} (h : Rch R a x) : 0 ≤ gt d x := by
  induction h with
  | start => exact h0
  | step hb hr hx ih => exact hc _ _ (rch_lt ha hb) hx ih hr
/-- what both must give -/
def Dst (R : Nat → Nat → Bool) (on : Prop) (a : Nat) (d : List Int) : Prop := d.length = 6 ∧ ∀ x, x < 6 → (0 ≤ gt d x ↔ on ∧ Rch R a x)
/-! in rounds -/
structure Mid (R : Nat → Nat → Bool) (a : Nat) (s : Int) (B : Nat) (d : List Int) : Prop where
  len : d.length = 6
  h0 : gt d a = 0
  ub : ∀ x, x < 6 → gt d x ≤ s
  snd : ∀ x, x < 6 → 0 ≤ gt d x → Rch R a x
  lev : ∀ x k, x < 6 → 0 ≤ k → gt d x = k + 1 → ∃ b, b < 6 ∧ gt d b = k
  cl : ∀ b x, b < 6 → x < 6 → 0 ≤ gt d b → gt d b < s - 1 → R b x = true → 0 ≤ gt d x
  done : ∀ b x, b < B → b < 6 → x < 6 → gt d b = s - 1 → R b x = true → 0 ≤ gt d x
theorem Mid.next {R : Nat → Nat → Bool} {a : Nat} {s : Int} {d : List Int} (h : Mid R a s 6 d) (hs : 1 ≤ s) : Mid R a (s + 1) 0 d :=
  ⟨h.len, h.h0, fun x hx => by have := h.ub x hx; omega, h.snd, h.lev, fun b x hb hx h1 h2 hr => by
    by_cases he : gt d b = s - 1
    · exact h.done b x hb hb hx he hr
    · exact h.cl b x hb hx h1 (by omega) hr, fun b x hb => by omega⟩
theorem Mid.more {R : Nat → Nat → Bool} {a : Nat} {s : Int} {B : Nat} {d : List Int} (h : Mid R a s B d) (hd : ∀ y, y < 6 → gt d B = s - 1 → R B y = true → 0 ≤ gt d y) : Mid R a s (B + 1) d :=
  ⟨h.len, h.h0, h.ub, h.snd, h.lev, h.cl, fun c y hc hc6 hy h3 h5 => by
    by_cases hcb : c = B
    · subst hcb; exact hd y hy h3 h5
    · exact h.done c y (by omega) hc6 hy h3 h5⟩
theorem Mid.set {R : Nat → Nat → Bool} {a : Nat} {s : Int} {B b x : Nat} {d : List Int} (h : Mid R a s B d) (hs : 1 ≤ s) (hb : b < 6) (hx : x < 6) (h1 : gt d b = s - 1) (h2 : gt d x < 0) (hr : R b x = true) : Mid R a s B (d.set x s) := by
  have hxl : x < d.length := by rw [h.len]; exact hx
  have g := gt_set hxl s
  have up : ∀ y, 0 ≤ gt d y → 0 ≤ gt (d.set x s) y := fun y hy => by rw [g]; split <;> omega
  have hax : a ≠ x := fun e => by have := h.h0; rw [e] at this; omega
  have hbx : b ≠ x := fun e => by rw [e] at h1; omega
  refine ⟨by rw [List.length_set]; exact h.len, by rw [g, if_neg hax]; exact h.h0, fun y hy => ?_, fun y hy h0 => ?_, fun y k hy hk he => ?_, fun c y hc hy h3 h4 h5 => ?_, fun c y hc hc6 hy h3 h5 => ?_⟩
  · rw [g]
    split
    · omega
    · exact h.ub y hy
  · rw [g] at h0
    split at h0
    · rename_i e
      subst e
      exact .step (h.snd b hb (by omega)) hr hx
    · exact h.snd y hy h0
  · rw [g] at he
    split at he
    · exact ⟨b, hb, by rw [g, if_neg hbx]; omega⟩
    · obtain ⟨c, hc, hce⟩ := h.lev y k hy hk he
      exact ⟨c, hc, by rw [g, if_neg (fun e => by rw [e] at hce; omega)]; exact hce⟩
  · rw [g] at h3 h4
    split at h4
    · omega
    · rename_i hne
      rw [if_neg hne] at h3
      exact up y (h.cl c y hc hy h3 h4 h5)
  · rw [g] at h3
    split at h3
    · omega
    · exact up y (h.done c y hc hc6 hy h3 h5)
theorem count_step (d : List Int) (k : Int) : ∀ l : List Nat, l.countP (fun x => decide (0 ≤ gt d x ∧ gt d x ≤ k)) + l.countP (fun x => decide (gt d x = k + 1 ∧ 0 ≤ k)) ≤ l.countP (fun x => decide (0 ≤ gt d x ∧ gt d x ≤ k + 1))
  | [] => by simp
  | x :: l => by
    have ih := count_step d k l
    simp only [List.countP_cons]
    by_cases h1 : 0 ≤ gt d x ∧ gt d x ≤ k
    · have h2 : ¬ (gt d x = k + 1 ∧ 0 ≤ k) := by omega
      have h3 : 0 ≤ gt d x ∧ gt d x ≤ k + 1 := by omega
      simp only [decide_eq_true h1, decide_eq_false h2, decide_eq_true h3, if_true, Bool.false_eq_true, if_false]
      omega
    · by_cases h2 : gt d x = k + 1 ∧ 0 ≤ k
      · have h3 : 0 ≤ gt d x ∧ gt d x ≤ k + 1 := by omega
        simp only [decide_eq_false h1, decide_eq_true h2, decide_eq_true h3, if_true, Bool.false_eq_true, if_false]
        omega
      · simp only [decide_eq_false h1, decide_eq_false h2, Bool.false_eq_true, if_false]
        omega
theorem count_lev {d : List Int} (hlev : ∀ x k, x < 6 → 0 ≤ k → gt d x = k + 1 → ∃ b, b < 6 ∧ gt d b = k) : ∀ (k : Nat), (∃ x, x < 6 ∧ gt d x = (k : Int)) → k + 1 ≤ (List.range 6).countP (fun x => decide (0 ≤ gt d x ∧ gt d x ≤ (k : Int)))
  | 0, ⟨x, hx, he⟩ => by
    have : 0 < (List.range 6).countP (fun x => decide (0 ≤ gt d x ∧ gt d x ≤ ((0 : Nat) : Int))) := List.countP_pos_iff.2 ⟨x, by simpa using hx, by simp [he]⟩
    omega
  | k + 1, ⟨x, hx, he⟩ => by
    have ih := count_lev hlev k (hlev x k hx (by omega) (by rw [he]; omega))
    have h1 := count_step d k (List.range 6)
    have h2 : 0 < (List.range 6).countP (fun x => decide (gt d x = (k : Int) + 1 ∧ (0 : Int) ≤ k)) := List.countP_pos_iff.2 ⟨x, by simpa using hx, by simp [he]⟩
    have e : (((k + 1 : Nat) : Int)) = (k : Int) + 1 := by omega
    rw [e]
    omega
theorem Mid.dst {R : Nat → Nat → Bool} {a : Nat} {d : List Int} (ha : a < 6) (h : Mid R a 7 0 d) : Dst R True a d := by
  refine ⟨h.len, fun x hx => ⟨fun h0 => ⟨trivial, h.snd x hx h0⟩, fun hr => rch_of ha (by rw [h.h0]; exact Int.le_refl _) (fun b y hb hy h1 h2 => ?_) hr.2⟩⟩
  by_cases h6 : gt d b < 6
  · exact h.cl b y hb hy h1 (by omega) h2
  · exfalso
    obtain ⟨k, hk⟩ : ∃ k : Nat, gt d b = (k : Int) := ⟨(gt d b).toNat, by omega⟩
    have h3 := count_lev h.lev k ⟨b, hb, hk⟩
    have h4 : (List.range 6).countP (fun x => decide (0 ≤ gt d x ∧ gt d x ≤ (k : Int))) ≤ (List.range 6).length := List.countP_le_length
    simp only [List.length_range] at h4
    omega
section
variable (l : List DAdvertisement) (hl : AdvOk l)
def RB (b x : Nat) : Bool := bidB l (b : Int) (x : Int)
include hl
theorem inc6 {i : Nat} (h : i < 6) : prims.arith .add .i64 (i : Int) 1 = ((i + 1 : Nat) : Int) := pl_inc i 6 h (by decide)
/-- one node's neighbours -/
theorem spec_l4 {a : Nat} {s : Nat} (hs : 1 ≤ s) (hs6 : s ≤ 6) {b : Nat} (hb : b < 6) {d : List Int} (h : Mid (RB l) a s b d) :
    ∃ g, whileO (s_spec_Distances_l4 l s b) fuel (0, d) = some g ∧ Mid (RB l) a s (b + 1) (match g with | .inl (_, d, _, _) => d | .inr (_, d) => d) := by
  have hsub : prims.arith .sub .i64 (s : Int) 1 = (s : Int) - 1 := pl_sub _ _ (by omega) (by omega)
  refine while_inv (fun y : Int × List Int => ∃ i : Nat, y.1 = (i : Int) ∧ i ≤ 6 ∧ Mid (RB l) a s b y.2 ∧ (∀ x, x < i → gt y.2 b = (s : Int) - 1 → RB l b x = true → 0 ≤ gt y.2 x)) (fun y => 6 - y.1.toNat) _ ?_ fuel (0, d) ⟨0, rfl, by omega, h, fun x hx => by omega⟩ (by unfold fuel; simp)
  rintro ⟨v, d⟩ ⟨i, rfl, hi, hM, hdone⟩
  dsimp only at hM hdone ⊢
  by_cases h6 : i < 6
  · have hbl : b < d.length := by rw [hM.len]; exact hb
    have hil : i < d.length := by rw [hM.len]; exact h6
    have e1 : prims.cmp .lss (i : Int) 6 = true := by rw [pl_lss]; exact decide_eq_true (by omega)
    simp only [s_spec_Distances_l4, e1, cond_true, ridx_at eI hbl, ridx_at eI hil, Option.bind_some, gt_at hbl, gt_at hil, pl_eql, hsub]
    by_cases h1 : gt d b = (s : Int) - 1
    · simp only [decide_eq_true h1, cond_true, pl_lss]
      left
      by_cases h2 : gt d i < 0
      · simp only [decide_eq_true h2, cond_true, p_spec_Bid l _ _ hl, Option.bind_some]
        cases hr : bidB l (b : Int) (i : Int)
        · refine ⟨_, rfl, ⟨i + 1, inc6 l hl h6, by omega, hM, fun x hx hb' hr' => ?_⟩, ?_⟩
          · by_cases hxi : x = i
            · subst hxi
              have : RB l b x = false := hr
              rw [this] at hr'
              cases hr'
            · exact hdone x (by omega) hb' hr'
          · dsimp only
            rw [inc6 l hl h6]
            simp only [Int.toNat_natCast]
            omega
        · refine ⟨_, rfl, ⟨i + 1, inc6 l hl h6, by omega, hM.set (by omega) hb h6 h1 h2 hr, fun x hx hb' hr' => ?_⟩, ?_⟩
          · dsimp only
            rw [gt_set hil]
            split
            · omega
            · rename_i hne
              exact hdone x (by omega) h1 hr'
          · dsimp only
            rw [inc6 l hl h6]
            simp only [Int.toNat_natCast]
            omega
      · simp only [decide_eq_false h2, cond_false]
        refine ⟨_, rfl, ⟨i + 1, inc6 l hl h6, by omega, hM, fun x hx hb' hr' => ?_⟩, ?_⟩
        · by_cases hxi : x = i
          · subst hxi; dsimp only; omega
          · exact hdone x (by omega) hb' hr'
        · dsimp only
          rw [inc6 l hl h6]
          simp only [Int.toNat_natCast]
          omega
    · simp only [decide_eq_false h1, cond_false]
      right
      refine ⟨_, rfl, ?_⟩
      exact hM.more fun y hy h3 => absurd h3 h1
  · have hi6 : i = 6 := by omega
    subst hi6
    right
    refine ⟨_, rfl, ?_⟩
    exact hM.more fun y hy h3 h5 => hdone y hy h3 h5
theorem spec_l3 {a : Nat} {s : Nat} (hs : 1 ≤ s) (hs6 : s ≤ 6) {d : List Int} (h : Mid (RB l) a s 0 d) :
    ∃ g, whileO (s_spec_Distances_l3 l s) fuel (0, d) = some g ∧ Mid (RB l) a s 6 g.2 := by
  refine while_inv (fun y : Int × List Int => ∃ i : Nat, y.1 = (i : Int) ∧ i ≤ 6 ∧ Mid (RB l) a s i y.2) (fun y => 6 - y.1.toNat) _ ?_ fuel (0, d) ⟨0, rfl, by omega, h⟩ (by unfold fuel; simp)
  rintro ⟨v, d⟩ ⟨i, rfl, hi, hM⟩
  dsimp only at hM ⊢
  by_cases h6 : i < 6
  · left
    have e1 : prims.cmp .lss (i : Int) 6 = true := by rw [pl_lss]; exact decide_eq_true (by omega)
    obtain ⟨g, hg, hM'⟩ := spec_l4 l hl hs hs6 h6 hM
    simp only [s_spec_Distances_l3, e1, cond_true, hg, Option.bind_some]
    rcases g with ⟨g1, g2, g3, g4⟩ | ⟨g1, g2⟩
    · refine ⟨_, rfl, ⟨i + 1, inc6 l hl h6, by omega, hM'⟩, ?_⟩
      dsimp only
      rw [inc6 l hl h6]
      simp only [Int.toNat_natCast]
      omega
    · refine ⟨_, rfl, ⟨i + 1, inc6 l hl h6, by omega, hM'⟩, ?_⟩
      dsimp only
      rw [inc6 l hl h6]
      simp only [Int.toNat_natCast]
      omega
  · right
    have hi6 : i = 6 := by omega
    subst hi6
    exact ⟨_, rfl, hM⟩
theorem spec_l2 {a : Nat} {d : List Int} (h : Mid (RB l) a 1 0 d) : ∃ g, whileO (s_spec_Distances_l2 l) fuel (1, d) = some g ∧ Mid (RB l) a 7 0 g.2 := by
  refine while_inv (fun y : Int × List Int => ∃ i : Nat, y.1 = (i : Int) ∧ 1 ≤ i ∧ i ≤ 7 ∧ Mid (RB l) a (i : Nat) 0 y.2) (fun y => 7 - y.1.toNat) _ ?_ fuel (1, d) ⟨1, rfl, by omega, by omega, h⟩ (by unfold fuel; simp)
  rintro ⟨v, d⟩ ⟨i, rfl, hi0, hi, hM⟩
  dsimp only at hM ⊢
  by_cases h6 : i ≤ 6
  · left
    have e1 : prims.cmp .leq (i : Int) 6 = true := by rw [pl_leq]; exact decide_eq_true (by omega)
    obtain ⟨g, hg, hM'⟩ := spec_l3 l hl hi0 h6 hM
    obtain ⟨g1, g2⟩ := g
    simp only [s_spec_Distances_l2, e1, cond_true, hg, Option.bind_some]
    have e2 : prims.arith .add .i64 (i : Int) 1 = ((i + 1 : Nat) : Int) := pl_inc i 7 (by omega) (by decide)
    have hn := hM'.next (by omega)
    refine ⟨_, rfl, ⟨i + 1, e2, by omega, by omega, ?_⟩, ?_⟩
    · rw [show (((i + 1 : Nat) : Int)) = (i : Int) + 1 by omega]
      exact hn
    · dsimp only
      rw [e2]
      simp only [Int.toNat_natCast]
      omega
  · right
    have hi6 : i = 7 := by omega
    subst hi6
    exact ⟨_, rfl, hM⟩
end
end
end Go.Proofs.Ytofieohogenojaa
