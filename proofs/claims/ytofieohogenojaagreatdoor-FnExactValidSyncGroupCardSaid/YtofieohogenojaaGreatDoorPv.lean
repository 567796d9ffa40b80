/- Valid topologies. -/
import Derived.Test.YtofieohogenojaaGreatDoorPl
import Derived.Test.YtofieohogenojaaGreatDoorSf
namespace Go.Proofs.YtofieohogenojaaGreatDoor
open Go.RowKit
set_option linter.unusedVariables false
set_option linter.unusedSimpArgs false
attribute [local simp] pl_lss pl_leq pl_gtr pl_geq pl_eql pl_neq pl_int pl_len pl_rlen pl_fits pl_bnot pl_beq nthI_nat pl_ridx pl_rlen1 pl_len0
noncomputable section
theorem p_l1In (n a b : Int) : s_spec_l1In n a b = some (decide (a ≤ n ∧ n ≤ b)) := by
  unfold s_spec_l1In
  by_cases h : a ≤ n <;> simp [h]
theorem p_InRange (n a b : Int) : s_impl_InRange n a b = some (decide (a ≤ n ∧ n ≤ b)) := by
  unfold s_impl_InRange
  by_cases h : a ≤ n <;> simp [h]
def cmpI (a b : Int) : Int := if a < b then -1 else if b < a then 1 else 0
theorem p_Compare (a b : Int) : s_cmp_Compare_int a b = some (cmpI a b) := by
  unfold s_cmp_Compare_int s_cmp_isNaN_int cmpI
  by_cases h1 : a < b
  · simp [h1]
  · by_cases h2 : b < a <;> simp [h1, h2]
theorem p_Or (a b : Int) : s_cmp_Or_int [a, b] = some (if a = 0 then b else a) := by
  unfold s_cmp_Or_int
  rw [while_scan [a, b] (fun _ x => !decide (x = 0)) (fun _ x => x) .inr (.inl (2 : Int)) (by simp) (fun i hi => by
    simp only [s_cmp_Or_int_l1, lt_len _ hi, nthI_at hi, cond_true, Option.bind_some, pl_neq]) (by
    have := lt_end eI [a, b]
    simp only [s_cmp_Or_int_l1]
    rw [this]
    rfl)]
  by_cases h1 : a = 0
  · by_cases h2 : b = 0 <;> simp [scan, h1, h2]
  · simp [scan, h1]
def cmpL (x y : DLink) : Int := if cmpI x.a y.a = 0 then cmpI x.b y.b else cmpI x.a y.a
theorem p_compareLinks (x y : DLink) : s_impl_compareLinks x y = some (cmpL x y) := by
  unfold s_impl_compareLinks
  simp only [p_Compare, Option.bind_some, p_Or]
  rfl
def pairL (x y : DLink) : Bool := decide (x.a < y.a) || (decide (x.a = y.a) && decide (x.b < y.b))
theorem p_l19Pair (x y : DLink) : s_spec_l19Pair x y = some (pairL x y) := by
  simp only [s_spec_l19Pair, pairL, pl_lss, pl_eql]
  cases decide (x.a < y.a) <;> cases decide (x.a = y.a) <;> cases decide (x.b < y.b) <;> rfl
theorem pair_cmp (x y : DLink) : decide (0 ≤ cmpL x y) = !pairL x y := by
  unfold cmpL cmpI pairL
  rcases Int.lt_trichotomy x.a y.a with h | h | h
  · have : ¬ y.a < x.a := by omega
    simp [h, this]
  · rw [h]
    rcases Int.lt_trichotomy x.b y.b with h' | h' | h'
    · simp [h']
    · simp [h']
    · have : ¬ x.b < y.b := by omega
      simp [h', this]
  · have h1 : ¬ x.a < y.a := by omega
    have h2 : ¬ x.a = y.a := by omega
    simp [h, h1, h2]
def badS (t : DTopology) (i : Nat) (x : DLink) : Bool := !decide (0 ≤ x.a ∧ x.a ≤ prims.arith .sub .i64 t.size 1) || (!decide (0 ≤ x.b ∧ x.b ≤ prims.arith .sub .i64 t.size 1) || (decide (x.b ≤ x.a) || (decide (0 < (i : Int)) && match t.links[i - 1]? with | some y => !pairL y x | none => false)))
def badI (t : DTopology) (i : Nat) (x : DLink) : Bool := !decide (0 ≤ x.a ∧ x.a ≤ prims.arith .sub .i64 t.size 1) || (!decide (prims.arith .add .i64 x.a 1 ≤ x.b ∧ x.b ≤ prims.arith .sub .i64 t.size 1) || (decide (0 < (i : Int)) && match t.links[i - 1]? with | some y => decide (0 ≤ cmpL y x) | none => false))
theorem prev_at {t : DTopology} {i : Nat} (hi : i < t.links.length) (h0 : 0 < (i : Int)) (h : t.links.length ≤ 2 ^ 40) : nthI t.links (prims.arith .sub .i64 (i : Int) 1) = some (t.links[i - 1]'(by omega)) := by
  rw [pl_sub _ _ (by omega) (by omega), show (i : Int) - 1 = ((i - 1 : Nat) : Int) by omega]
  exact nthI_at (by omega)
def validT (t : DTopology) : Bool := match scan (badS t) (fun _ _ => false) 0 t.links with
  | some b => b
  | none => decide (1 ≤ t.size ∧ t.size ≤ 6)
theorem p_spec_ValidTopology (t : DTopology) (h : t.links.length ≤ 2 ^ 40) : s_spec_ValidTopology t = some (validT t) := by
  unfold s_spec_ValidTopology validT
  rw [while_scan t.links (badS t) (fun _ _ => false) .inr (.inl (t.links.length : Int)) (by omega) (fun i hi => by
    simp only [s_spec_ValidTopology_l1, lt_len _ hi, nthI_at hi, cond_true, Option.bind_some, p_l1In, badS, pl_bnot, pl_geq, pl_gtr]
    cases decide (0 ≤ t.links[i].a ∧ t.links[i].a ≤ prims.arith .sub .i64 t.size 1) <;> cases decide (0 ≤ t.links[i].b ∧ t.links[i].b ≤ prims.arith .sub .i64 t.size 1) <;> cases decide (t.links[i].b ≤ t.links[i].a) <;> first | rfl | skip
    by_cases h0 : 0 < (i : Int)
    · simp only [decide_eq_true h0, cond_true, prev_at hi h0 h, Option.bind_some, p_l19Pair, List.getElem?_eq_getElem (show i - 1 < t.links.length by omega)]
      cases pairL (t.links[i - 1]'(by omega)) t.links[i] <;> rfl
    · simp only [decide_eq_false h0]
      rfl) (by simp only [s_spec_ValidTopology_l1, lt_end]; rfl)]
  cases scan (badS t) (fun _ _ => false) 0 t.links
  · simp [p_l1In]
  · rfl
theorem scan_congr {α γ : Type} {p q : Nat → α → Bool} {r : Nat → α → γ} (h : ∀ i x, p i x = q i x) : ∀ (l : List α) (i : Nat), scan p r i l = scan q r i l
  | [], _ => rfl
  | x :: l, i => by simp only [scan, h, scan_congr h l]
theorem bad_eq (t : DTopology) (hs : 1 ≤ t.size ∧ t.size ≤ 6) (i : Nat) (x : DLink) : badI t i x = badS t i x := by
  unfold badI badS
  have e : prims.arith .sub .i64 t.size 1 = t.size - 1 := pl_sub _ _ (by omega) (by omega)
  rw [e]
  by_cases h1 : 0 ≤ x.a ∧ x.a ≤ t.size - 1
  · have e2 : prims.arith .add .i64 x.a 1 = x.a + 1 := pl_add _ _ (by omega) (by omega)
    rw [e2]
    have e3 : (match t.links[i - 1]? with | some y => decide (0 ≤ cmpL y x) | none => false) = (match t.links[i - 1]? with | some y => !pairL y x | none => false) := by
      cases t.links[i - 1]? with
      | none => rfl
      | some y => exact pair_cmp y x
    rw [e3]
    by_cases h2 : 0 ≤ x.b ∧ x.b ≤ t.size - 1
    · by_cases h3 : x.b ≤ x.a
      · have : ¬ (x.a + 1 ≤ x.b ∧ x.b ≤ t.size - 1) := by omega
        rw [decide_eq_false this, decide_eq_true h1, decide_eq_true h2, decide_eq_true h3]
        rfl
      · have : x.a + 1 ≤ x.b ∧ x.b ≤ t.size - 1 := by omega
        simp [h1, h2, h3, this]
    · have : ¬ (x.a + 1 ≤ x.b ∧ x.b ≤ t.size - 1) := by omega
      simp [h1, h2, this]
  · simp [h1]
theorem p_impl_ValidTopology (t : DTopology) (h : t.links.length ≤ 2 ^ 40) : s_impl_ValidTopology t = some (validT t) := by
  unfold s_impl_ValidTopology
  rw [while_scan t.links (badI t) (fun _ _ => false) .inr (.inl (t.links.length : Int)) (by omega) (fun i hi => by
    simp only [s_impl_ValidTopology_l1, lt_len _ hi, nthI_at hi, cond_true, Option.bind_some, p_InRange, badI, pl_bnot, pl_geq, pl_gtr]
    cases decide (0 ≤ t.links[i].a ∧ t.links[i].a ≤ prims.arith .sub .i64 t.size 1) <;> cases decide (prims.arith .add .i64 t.links[i].a 1 ≤ t.links[i].b ∧ t.links[i].b ≤ prims.arith .sub .i64 t.size 1) <;> first | rfl | skip
    by_cases h0 : 0 < (i : Int)
    · simp only [decide_eq_true h0, cond_true, prev_at hi h0 h, Option.bind_some, p_compareLinks, List.getElem?_eq_getElem (show i - 1 < t.links.length by omega)]
      cases decide (0 ≤ cmpL (t.links[i - 1]'(by omega)) t.links[i]) <;> rfl
    · simp only [decide_eq_false h0]
      rfl) (by simp only [s_impl_ValidTopology_l1, lt_end]; rfl)]
  by_cases hs : 1 ≤ t.size ∧ t.size ≤ 6
  · rw [scan_congr (bad_eq t hs)]
    unfold validT
    cases scan (badS t) (fun _ _ => false) 0 t.links
    · simp [p_InRange]
    · rfl
  · have hf : ∀ (p : Nat → DLink → Bool), ∀ (l : List DLink) (i : Nat) (b : Bool), scan p (fun _ _ => false) i l = some b → b = false := by
      intro p l i b hb
      obtain ⟨j, x, _, _, h3⟩ := scan_some p _ l i b hb
      exact h3
    have hv : validT t = false := by
      unfold validT
      cases hc : scan (badS t) (fun _ _ => false) 0 t.links with
      | none => simpa using hs
      | some b => exact hf _ _ _ _ hc
    rw [hv]
    cases hc : scan (badI t) (fun _ _ => false) 0 t.links with
    | none => simp [p_InRange, hs]
    | some b => rw [hf _ _ _ _ hc]; rfl
theorem validT_size {t : DTopology} (h : validT t = true) : 1 ≤ t.size ∧ t.size ≤ 6 := by
  unfold validT at h
  cases hc : scan (badS t) (fun _ _ => false) 0 t.links with
  | none => rw [hc] at h; simpa using h
  | some b =>
    rw [hc] at h
    obtain ⟨j, x, _, _, h3⟩ := scan_some _ _ _ _ _ hc
    simp only at h
    rw [h3] at h
    cases h
end
end Go.Proofs.YtofieohogenojaaGreatDoor
