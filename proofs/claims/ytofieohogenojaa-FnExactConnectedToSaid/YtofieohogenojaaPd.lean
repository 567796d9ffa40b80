/- What the plain functions compute, fourth part: who can be reached, two ways. -/
import Derived.Test.YtofieohogenojaaPc
namespace Go.Proofs.Ytofieohogenojaa
open Go.RowKit
set_option linter.unusedVariables false
set_option linter.unusedSimpArgs false
set_option linter.unusedSectionVars false
noncomputable section
def negs (d : List Int) : Nat := (List.range 6).countP (fun x => decide (gt d x < 0))
theorem negs_set {d : List Int} {x : Nat} (hl : d.length = 6) (hx : x < 6) (h : gt d x < 0) {v : Int} (hv : 0 ≤ v) : negs (d.set x v) + 1 = negs d := by
  have hxl : x < d.length := by omega
  unfold negs
  rw [show List.range 6 = [0, 1, 2, 3, 4, 5] from rfl]
  simp only [List.countP_cons, List.countP_nil, gt_set hxl]
  have hv' : ¬ v < 0 := by omega
  rcases (show x = 0 ∨ x = 1 ∨ x = 2 ∨ x = 3 ∨ x = 4 ∨ x = 5 by omega) with rfl | rfl | rfl | rfl | rfl | rfl <;> simp [h, hv'] <;> omega
structure Bfs (R : Nat → Nat → Bool) (a k : Nat) (d w : List Int) : Prop where
  len : d.length = 6
  h0 : 0 ≤ gt d a
  wk : ∀ (i : Nat) (y : Int), w[i]? = some y → ∃ n : Nat, y = (n : Int) ∧ n < 6 ∧ 0 ≤ gt d n
  mem : ∀ x : Nat, x < 6 → 0 ≤ gt d x → ∃ i : Nat, w[i]? = some (x : Int)
  snd : ∀ x, x < 6 → 0 ≤ gt d x → Rch R a x
  bd : ∀ x, x < 6 → gt d x ≤ (w.length : Int)
  cl : ∀ (i n x : Nat), i < k → w[i]? = some (n : Int) → x < 6 → R n x = true → 0 ≤ gt d x
  cnt : w.length + negs d = 6
theorem Bfs.set {R : Nat → Nat → Bool} {a k n x : Nat} {d w : List Int} (h : Bfs R a k d w) (hk : k ≤ w.length) (hn : n < 6) (h1 : 0 ≤ gt d n) (hx : x < 6) (h2 : gt d x < 0) (hr : R n x = true) : Bfs R a k (d.set x (gt d n + 1)) (w ++ [(x : Int)]) := by
  have hxl : x < d.length := by rw [h.len]; exact hx
  have g := gt_set hxl (gt d n + 1)
  have up : ∀ y, 0 ≤ gt d y → 0 ≤ gt (d.set x (gt d n + 1)) y := fun y hy => by rw [g]; split <;> omega
  refine ⟨by rw [List.length_set]; exact h.len, up a h.h0, fun i y hi => ?_, fun y hy h0 => ?_, fun y hy h0 => ?_, fun y hy => ?_, fun i m y hi hm hy hr' => ?_, ?_⟩
  · by_cases hil : i < w.length
    · rw [List.getElem?_append_left hil] at hi
      obtain ⟨m, h3, h4, h5⟩ := h.wk i y hi
      exact ⟨m, h3, h4, up m h5⟩
    · rw [List.getElem?_append_right (by omega)] at hi
      cases hq : i - w.length with
      | succ q => rw [hq] at hi; simp at hi
      | zero =>
        rw [hq] at hi
        simp only [List.getElem?_cons_zero, Option.some.injEq] at hi
        exact ⟨x, hi.symm, hx, by rw [g, if_pos rfl]; omega⟩
  · rw [g] at h0
    split at h0
    · rename_i e
      subst e
      exact ⟨w.length, by simp⟩
    · obtain ⟨i, hi⟩ := h.mem y hy h0
      exact ⟨i, by rw [List.getElem?_append_left (List.getElem?_eq_some_iff.1 hi).1]; exact hi⟩
  · rw [g] at h0
    split at h0
    · rename_i e
      subst e
      exact .step (h.snd n hn h1) hr hx
    · exact h.snd y hy h0
  · have := h.bd n hn
    rw [g]
    simp only [List.length_append, List.length_singleton]
    split
    · omega
    · have := h.bd y hy
      omega
  · rw [List.getElem?_append_left (by omega)] at hm
    exact up y (h.cl i m y hi hm hy hr')
  · have := negs_set h.len hx h2 (show 0 ≤ gt d n + 1 by omega)
    have := h.cnt
    simp only [List.length_append, List.length_singleton]
    omega
theorem p_Repeat : s_slices_Repeat_int [(-1)] 6 = some [-1, -1, -1, -1, -1, -1] := by kernel_rfl
/-- the places that are not below zero -/
def places : Nat → List Int → List Int
  | _, [] => []
  | i, x :: d => if 0 ≤ x then (i : Int) :: places (i + 1) d else places (i + 1) d
theorem gath_places : ∀ (d : List Int) (i : Nat) (acc : List Int), gath (fun i x acc => if 0 ≤ x then acc ++ [(i : Int)] else acc) i d acc = acc ++ places i d
  | [], i, acc => by simp [gath, places]
  | x :: d, i, acc => by
    simp only [gath, places, gath_places d]
    split <;> simp
theorem places_congr : ∀ (d e : List Int) (i : Nat), d.length = e.length → (∀ x, x < d.length → (0 ≤ gt d x ↔ 0 ≤ gt e x)) → places i d = places i e
  | [], [], _, _, _ => rfl
  | [], _ :: _, _, h, _ => by simp at h
  | _ :: _, [], _, h, _ => by simp at h
  | x :: d, y :: e, i, h, hs => by
    have h0 := hs 0 (by simp)
    have hr := places_congr d e (i + 1) (by simpa using h) (fun z hz => by
      have := hs (z + 1) (by simp; omega)
      simpa [gt] using this)
    simp only [gt, List.getD_cons_zero] at h0
    simp only [places, hr]
    by_cases hx : 0 ≤ x
    · rw [if_pos hx, if_pos (h0.1 hx)]
    · rw [if_neg hx, if_neg (fun h => hx (h0.2 h))]
theorem places_mem : ∀ (d : List Int) (i : Nat), ∀ y ∈ places i d, (i : Int) ≤ y ∧ y < (i : Int) + d.length
  | [], i, y, h => by cases h
  | x :: d, i, y, h => by
    simp only [places] at h
    simp only [List.length_cons]
    split at h
    · rcases List.mem_cons.1 h with rfl | h
      · omega
      · have := places_mem d (i + 1) y h
        omega
    · have := places_mem d (i + 1) y h
      omega
theorem places_sorted : ∀ (d : List Int) (i : Nat), (places i d).Pairwise (· < ·)
  | [], i => by simp [places]
  | x :: d, i => by
    simp only [places]
    split
    · rw [List.pairwise_cons]
      refine ⟨fun y hy => ?_, places_sorted d (i + 1)⟩
      have := (places_mem d (i + 1) y hy).1
      omega
    · exact places_sorted d (i + 1)
theorem places_len : ∀ (d : List Int) (i : Nat), (places i d).length ≤ d.length
  | [], i => by simp [places]
  | x :: d, i => by
    simp only [places]
    have := places_len d (i + 1)
    split <;> simp <;> omega
section
variable (l : List DAdvertisement) (hl : AdvOk l)
include hl
theorem impl_l2 {a k n : Nat} {d w : List Int} (h : Bfs (RB l) a k d w) (hkl : k < w.length) (hn : w[k]? = some (n : Int)) :
    ∃ g, whileO (s_impl_Distances_l2 l k) fuel (0, d, w) = some g ∧ Bfs (RB l) a (k + 1) g.2.1 g.2.2 ∧ k + 1 ≤ g.2.2.length := by
  refine while_inv (fun y : Int × List Int × List Int => ∃ i : Nat, y.1 = (i : Int) ∧ i ≤ 6 ∧ Bfs (RB l) a k y.2.1 y.2.2 ∧ y.2.2[k]? = some (n : Int) ∧ (∀ x, x < i → RB l n x = true → 0 ≤ gt y.2.1 x)) (fun y => 6 - y.1.toNat) _ ?_ fuel (0, d, w) ⟨0, rfl, by omega, h, hn, fun x hx => by omega⟩ (by unfold fuel; simp)
  rintro ⟨v, d, w⟩ ⟨i, rfl, hi, hB, hnk, hdone⟩
  dsimp only at hB hnk hdone ⊢
  have hkl : k < w.length := (List.getElem?_eq_some_iff.1 hnk).1
  obtain ⟨n', hn1, hn6, hn0⟩ := hB.wk k _ hnk
  have hnn : n' = n := by omega
  subst hnn
  by_cases h6 : i < 6
  · left
    have hil : i < d.length := by rw [hB.len]; exact h6
    have hnl : n' < d.length := by rw [hB.len]; exact hn6
    have e1 : prims.cmp .lss (i : Int) 6 = true := by rw [pl_lss]; exact decide_eq_true (by omega)
    simp only [s_impl_Distances_l2, e1, cond_true, ridx_at eI hil, ridx_at eI hkl, ridx_at eI hnl, Option.bind_some, gt_at hil, gt_at hnl, hnk, pl_lss]
    by_cases h2 : gt d i < 0
    · simp only [decide_eq_true h2, cond_true, p_impl_Bid l _ _ hl, Option.bind_some]
      cases hr : bidB l (n' : Int) (i : Int)
      · refine ⟨_, rfl, ⟨i + 1, inc6 l hl h6, by omega, hB, hnk, fun x hx hr' => ?_⟩, ?_⟩
        · by_cases hxi : x = i
          · subst hxi
            have : RB l n' x = false := hr
            rw [this] at hr'
            cases hr'
          · exact hdone x (by omega) hr'
        · dsimp only
          rw [inc6 l hl h6]
          simp only [Int.toNat_natCast]
          omega
      · have hw6 : w.length ≤ 6 := by have := hB.cnt; omega
        have hb := hB.bd n' hn6
        have e2 : prims.arith .add .i64 (gt d n') 1 = gt d n' + 1 := pl_add _ _ (by omega) (by omega)
        have hf : prims.fits (prims.len (List.map eI w)) (prims.rlen (prims.opn (List.map eI [(i : Int)]))) 8 = true := by
          rw [pl_len, pl_rlen, pl_fits]
          exact decide_eq_true (by simp; omega)
        simp only [cond_true, hf, e2]
        refine ⟨_, rfl, ⟨i + 1, inc6 l hl h6, by omega, hB.set (by omega) hn6 hn0 h6 h2 hr, ?_, fun x hx hr' => ?_⟩, ?_⟩
        · dsimp only
          rw [List.getElem?_append_left hkl]
          exact hnk
        · dsimp only
          rw [gt_set hil]
          split
          · omega
          · exact hdone x (by omega) hr'
        · dsimp only
          rw [inc6 l hl h6]
          simp only [Int.toNat_natCast]
          omega
    · simp only [decide_eq_false h2, cond_false]
      refine ⟨_, rfl, ⟨i + 1, inc6 l hl h6, by omega, hB, hnk, fun x hx hr' => ?_⟩, ?_⟩
      · by_cases hxi : x = i
        · subst hxi; dsimp only; omega
        · exact hdone x (by omega) hr'
      · dsimp only
        rw [inc6 l hl h6]
        simp only [Int.toNat_natCast]
        omega
  · right
    have hi6 : i = 6 := by omega
    subst hi6
    refine ⟨_, rfl, ⟨hB.len, hB.h0, hB.wk, hB.mem, hB.snd, hB.bd, fun j m x hj hm hx hr => ?_, hB.cnt⟩, hkl⟩
    by_cases hjk : j = k
    · subst hjk
      have : (m : Int) = (n' : Int) := by
        have h3 : w[j]? = some (m : Int) := hm
        rw [hnk] at h3
        injection h3 with h3
        exact h3.symm
      have hmn : m = n' := by omega
      subst hmn
      exact hdone x hx hr
    · exact hB.cl j m x (by omega) hm hx hr
theorem impl_l1 {a : Nat} (ha : a < 6) {d w : List Int} (h : Bfs (RB l) a 0 d w) : ∃ g, whileO (s_impl_Distances_l1 l) fuel (0, d, w) = some g ∧ Dst (RB l) True a g.2.1 := by
  refine while_inv (fun y : Int × List Int × List Int => ∃ k : Nat, y.1 = (k : Int) ∧ k ≤ y.2.2.length ∧ Bfs (RB l) a k y.2.1 y.2.2) (fun y => 7 - y.1.toNat) _ ?_ fuel (0, d, w) ⟨0, rfl, by omega, h⟩ (by unfold fuel; simp)
  rintro ⟨v, d, w⟩ ⟨k, rfl, hk, hB⟩
  dsimp only at hk hB ⊢
  have hw6 : w.length ≤ 6 := by have := hB.cnt; omega
  by_cases hkl : k < w.length
  · left
    obtain ⟨n, hn, hn6, _⟩ := hB.wk k _ (List.getElem?_eq_getElem hkl)
    obtain ⟨g, hg, hB', hlen⟩ := impl_l2 l hl hB hkl (by rw [← hn]; exact List.getElem?_eq_getElem hkl)
    obtain ⟨g1, g2, g3⟩ := g
    simp only [s_impl_Distances_l1, lt_len eI hkl, cond_true, hg, Option.bind_some]
    have e2 : prims.arith .add .i64 (k : Int) 1 = ((k + 1 : Nat) : Int) := pl_inc k 7 (by omega) (by decide)
    refine ⟨_, rfl, ⟨k + 1, e2, hlen, hB'⟩, ?_⟩
    dsimp only
    rw [e2]
    simp only [Int.toNat_natCast]
    omega
  · right
    have hke : k = w.length := by omega
    subst hke
    refine ⟨((w.length : Int), d, w), ?_, hB.len, fun x hx => ⟨fun h0 => ⟨trivial, hB.snd x hx h0⟩, fun hr => rch_of ha hB.h0 (fun b y hb hy h1 h2 => ?_) hr.2⟩⟩
    · simp only [s_impl_Distances_l1, lt_end, cond_false]
    · obtain ⟨i, hi⟩ := hB.mem b hb h1
      exact hB.cl i b y (List.getElem?_eq_some_iff.1 hi).1 hi hy h2
/-- is the first one there at all? -/
def onA (l : List DAdvertisement) (a : Int) : Prop := (0 ≤ a ∧ a ≤ 5) ∧ 0 ≤ idxI (fun x : DAdvertisement => decide (x.origin = a)) l
def ini (l : List DAdvertisement) (a : Int) (i : Nat) : Int := if (i : Int) = a ∧ 0 ≤ idxI (fun x : DAdvertisement => decide (x.origin = a)) l then 0 else -1
theorem spec_l1 (a : Int) : whileO (s_spec_Distances_l1 l a) fuel (0, []) = some (6, (List.range 6).map (ini l a)) := by
  obtain ⟨g, hg, hq⟩ := while_inv (step := s_spec_Distances_l1 l a) (fun y : Int × List Int => ∃ i : Nat, y.1 = (i : Int) ∧ i ≤ 6 ∧ y.2 = (List.range i).map (ini l a)) (fun y => 6 - y.1.toNat) (fun g => g = (6, (List.range 6).map (ini l a))) (by
    rintro ⟨v, d⟩ ⟨i, rfl, hi, rfl⟩
    dsimp only
    by_cases h6 : i < 6
    · left
      have e1 : prims.cmp .lss (i : Int) 6 = true := by rw [pl_lss]; exact decide_eq_true (by omega)
      have hf : ∀ z : Int, prims.fits (prims.len (List.map eI ((List.range i).map (ini l a)))) (prims.rlen (prims.opn (List.map eI [z]))) 8 = true := fun z => by
        rw [pl_len, pl_rlen, pl_fits]
        exact decide_eq_true (by simp; omega)
      refine ⟨(prims.arith .add .i64 (i : Int) 1, (List.range i).map (ini l a) ++ [ini l a i]), ?_, ⟨i + 1, inc6 l hl h6, by omega, by rw [List.range_succ, List.map_append]; rfl⟩, ?_⟩
      · simp only [s_spec_Distances_l1, e1, cond_true, pl_eql, p_spec_FindAdvertisement l a hl.1, Option.bind_some, pl_geq, hf]
        unfold ini
        by_cases h1 : (i : Int) = a
        · by_cases h2 : 0 ≤ idxI (fun x : DAdvertisement => decide (x.origin = a)) l
          · rw [decide_eq_true h1, decide_eq_true h2, if_pos ⟨h1, h2⟩]; rfl
          · rw [decide_eq_true h1, decide_eq_false h2, if_neg (fun h => h2 h.2)]; rfl
        · rw [decide_eq_false h1, if_neg (fun h => h1 h.1)]; rfl
      · dsimp only
        rw [inc6 l hl h6]
        simp only [Int.toNat_natCast]
        omega
    · right
      have hi6 : i = 6 := by omega
      subst hi6
      exact ⟨_, rfl, rfl⟩) fuel (0, []) ⟨0, rfl, by omega, rfl⟩ (by unfold fuel; simp)
  rw [hg, hq]
theorem gt_ini (a : Int) {x : Nat} (hx : x < 6) : gt ((List.range 6).map (ini l a)) x = ini l a x := by
  unfold gt
  rw [List.getD_eq_getElem?_getD, List.getElem?_map, List.getElem?_range hx]
  rfl
/-- nothing is reached: no round changes anything -/
theorem spec_dead {d : List Int} (hd : d.length = 6) (hn : ∀ x, x < 6 → gt d x < 0) : ∃ g, whileO (s_spec_Distances_l2 l) fuel (1, d) = some g ∧ g.2 = d := by
  have h4 : ∀ (s b : Nat), 1 ≤ s → s ≤ 6 → b < 6 → whileO (s_spec_Distances_l4 l s b) fuel (0, d) = some (.inl (0, d, b, gt d b)) := by
    intro s b hs hs6 hb
    rw [show fuel = (2 ^ 62 - 1) + 1 from rfl]
    refine whileO_inr ?_
    have hsub : prims.arith .sub .i64 (s : Int) 1 = (s : Int) - 1 := pl_sub _ _ (by omega) (by omega)
    have hbl : b < d.length := by omega
    have := hn b hb
    have h1 : ¬ gt d b = (s : Int) - 1 := by omega
    simp only [s_spec_Distances_l4, show prims.cmp .lss 0 6 = true from rfl, cond_true, ridx_at eI hbl, Option.bind_some, gt_at hbl, pl_eql, hsub, decide_eq_false h1, cond_false]
  have h3 : ∀ s : Nat, 1 ≤ s → s ≤ 6 → ∃ g, whileO (s_spec_Distances_l3 l s) fuel (0, d) = some g ∧ g.2 = d := by
    intro s hs hs6
    refine while_inv (fun y : Int × List Int => ∃ i : Nat, y.1 = (i : Int) ∧ i ≤ 6 ∧ y.2 = d) (fun y => 6 - y.1.toNat) _ ?_ fuel (0, d) ⟨0, rfl, by omega, rfl⟩ (by unfold fuel; simp)
    rintro ⟨v, d'⟩ ⟨i, rfl, hi, hdd⟩
    dsimp only at hdd
    subst hdd
    dsimp only
    by_cases h6 : i < 6
    · left
      have e1 : prims.cmp .lss (i : Int) 6 = true := by rw [pl_lss]; exact decide_eq_true (by omega)
      simp only [s_spec_Distances_l3, e1, cond_true, h4 s i hs hs6 h6, Option.bind_some]
      refine ⟨_, rfl, ⟨i + 1, inc6 l hl h6, by omega, rfl⟩, ?_⟩
      dsimp only
      rw [inc6 l hl h6]
      simp only [Int.toNat_natCast]
      omega
    · right
      have hi6 : i = 6 := by omega
      subst hi6
      exact ⟨_, rfl, rfl⟩
  refine while_inv (fun y : Int × List Int => ∃ i : Nat, y.1 = (i : Int) ∧ 1 ≤ i ∧ i ≤ 7 ∧ y.2 = d) (fun y => 7 - y.1.toNat) _ ?_ fuel (1, d) ⟨1, rfl, by omega, by omega, rfl⟩ (by unfold fuel; simp)
  rintro ⟨v, d'⟩ ⟨i, rfl, hi0, hi, hdd⟩
  dsimp only at hdd
  subst hdd
  dsimp only
  by_cases h6 : i ≤ 6
  · left
    have e1 : prims.cmp .leq (i : Int) 6 = true := by rw [pl_leq]; exact decide_eq_true (by omega)
    obtain ⟨⟨g1, g2⟩, hg, hge⟩ := h3 i hi0 h6
    simp only [s_spec_Distances_l2, e1, cond_true, hg, Option.bind_some]
    have e2 : prims.arith .add .i64 (i : Int) 1 = ((i + 1 : Nat) : Int) := pl_inc i 7 (by omega) (by decide)
    refine ⟨_, rfl, ⟨i + 1, e2, by omega, by omega, hge⟩, ?_⟩
    dsimp only
    rw [e2]
    simp only [Int.toNat_natCast]
    omega
  · right
    have hi6 : i = 7 := by omega
    subst hi6
    exact ⟨_, rfl, rfl⟩
theorem spec_Distances (a : Int) : ∃ d, s_spec_Distances l a = some d ∧ Dst (RB l) (onA l a) a.toNat d := by
  unfold s_spec_Distances
  rw [spec_l1 l hl a]
  simp only [Option.bind_some]
  by_cases h : onA l a
  · obtain ⟨⟨h1, h2⟩, h3⟩ := h
    have ha : a.toNat < 6 := by omega
    have hea : ((a.toNat : Nat) : Int) = a := by omega
    have hini : ∀ x, x < 6 → ini l a x = if x = a.toNat then 0 else -1 := by
      intro x hx
      unfold ini
      by_cases hxa : x = a.toNat
      · rw [if_pos hxa, if_pos ⟨by omega, h3⟩]
      · rw [if_neg hxa, if_neg (fun h => hxa (by omega))]
    have hM : Mid (RB l) a.toNat 1 0 ((List.range 6).map (ini l a)) := by
      refine ⟨by simp, by rw [gt_ini l hl a ha, hini _ ha, if_pos rfl], fun x hx => ?_, fun x hx h0 => ?_, fun x k hx hk he => ?_, fun b x hb hx h4 h5 => by omega, fun b x hb => by omega⟩
      · rw [gt_ini l hl a hx, hini x hx]; split <;> omega
      · rw [gt_ini l hl a hx, hini x hx] at h0
        split at h0
        · rename_i e; rw [e]; exact .start
        · omega
      · rw [gt_ini l hl a hx, hini x hx] at he
        split at he <;> omega
    obtain ⟨⟨g1, g2⟩, hg, hM'⟩ := spec_l2 l hl hM
    rw [hg]
    refine ⟨g2, rfl, ?_⟩
    have := hM'.dst ha
    exact ⟨this.1, fun x hx => (this.2 x hx).trans ⟨fun h => ⟨⟨⟨h1, h2⟩, h3⟩, h.2⟩, fun h => ⟨trivial, h.2⟩⟩⟩
  · have hneg : ∀ x, x < 6 → gt ((List.range 6).map (ini l a)) x < 0 := by
      intro x hx
      rw [gt_ini l hl a hx]
      unfold ini
      rw [if_neg (fun hh => h ⟨by omega, hh.2⟩)]
      decide
    obtain ⟨⟨g1, g2⟩, hg, hge⟩ := spec_dead l hl (by simp) hneg
    dsimp only at hge
    subst hge
    rw [hg]
    exact ⟨_, rfl, by simp, fun x hx => ⟨fun h0 => absurd h0 (Int.not_le.2 (hneg x hx)), fun hh => absurd hh.1 h⟩⟩
theorem impl_Distances (a : Int) : ∃ d, s_impl_Distances l a = some d ∧ Dst (RB l) (onA l a) a.toNat d := by
  unfold s_impl_Distances
  rw [p_Repeat, p_InRange]
  simp only [Option.bind_some, pl_bnot]
  have hneg : ∀ x, x < 6 → gt [-1, -1, -1, -1, -1, -1] x = -1 := by
    intro x hx
    rcases (show x = 0 ∨ x = 1 ∨ x = 2 ∨ x = 3 ∨ x = 4 ∨ x = 5 by omega) with rfl | rfl | rfl | rfl | rfl | rfl <;> rfl
  by_cases h1 : 0 ≤ a ∧ a ≤ 5
  · simp only [decide_eq_true h1, Bool.not_true, cond_false, p_impl_FindAdvertisement l a hl.1, Option.bind_some, pl_lss]
    by_cases h3 : idxI (fun x : DAdvertisement => decide (x.origin = a)) l < 0
    · simp only [decide_eq_true h3, cond_true]
      refine ⟨_, rfl, rfl, fun x hx => ⟨fun h0 => by rw [hneg x hx] at h0; omega, fun hh => ?_⟩⟩
      have := hh.1.2
      omega
    · simp only [decide_eq_false h3, cond_false]
      have ha : a.toNat < 6 := by omega
      have hea : a = ((a.toNat : Nat) : Int) := by omega
      have hr : prims.ridx 0 (prims.len (List.map eI [-1, -1, -1, -1, -1, -1])) a = some a.toNat := by
        rw [hea]
        simp only [Int.toNat_natCast]
        exact ridx_at eI (l := [-1, -1, -1, -1, -1, -1]) ha
      have hg1 : ([-1, -1, -1, -1, -1, -1] : List Int)[a.toNat]? = some (-1) := by
        rw [gt_at (d := [-1, -1, -1, -1, -1, -1]) ha, hneg _ ha]
      rw [hr]
      simp only [Option.bind_some, hg1]
      have g := gt_set (d := [-1, -1, -1, -1, -1, -1]) ha 0
      have hB : Bfs (RB l) a.toNat 0 (([-1, -1, -1, -1, -1, -1] : List Int).set a.toNat 0) [a] := by
        refine ⟨by simp, by rw [g, if_pos rfl]; omega, fun i y hi => ?_, fun x hx h0 => ?_, fun x hx h0 => ?_, fun x hx => ?_, fun i n x hi => by omega, ?_⟩
        · cases i with
          | succ i => simp at hi
          | zero =>
            simp only [List.getElem?_cons_zero, Option.some.injEq] at hi
            exact ⟨a.toNat, by omega, ha, by rw [g, if_pos rfl]; omega⟩
        · rw [g] at h0
          split at h0
          · rename_i e; subst e; exact ⟨0, by simp; omega⟩
          · rw [hneg x hx] at h0; omega
        · rw [g] at h0
          split at h0
          · rename_i e; subst e; exact .start
          · rw [hneg x hx] at h0; omega
        · rw [g]
          split
          · simp
          · rw [hneg x hx]; simp
        · have h4 := negs_set (d := [-1, -1, -1, -1, -1, -1]) rfl ha (by rw [hneg _ ha]; omega) (Int.le_refl 0)
          have h5 : negs [-1, -1, -1, -1, -1, -1] = 6 := by kernel_rfl
          simp only [List.length_singleton]
          omega
      obtain ⟨⟨g1, g2, g3⟩, hg, hD⟩ := impl_l1 l hl ha hB
      rw [hg]
      exact ⟨g2, rfl, hD.1, fun x hx => (hD.2 x hx).trans ⟨fun h => ⟨⟨h1, by omega⟩, h.2⟩, fun h => ⟨trivial, h.2⟩⟩⟩
  · simp only [decide_eq_false h1, Bool.not_false, cond_true]
    refine ⟨_, rfl, rfl, fun x hx => ⟨fun h0 => by rw [hneg x hx] at h0; omega, fun hh => absurd hh.1.1 h1⟩⟩
theorem p_spec_Reach {a : Int} {d : List Int} (h : s_spec_Distances l a = some d) (hd : d.length = 6) : s_spec_ReachableFrom l a = some (places 0 d) := by
  unfold s_spec_ReachableFrom
  rw [h]
  simp only [Option.bind_some]
  rw [while_gath d (fun i x acc => if 0 ≤ x then acc ++ [(i : Int)] else acc) (fun s => ((d.length : Int), s)) (fun i acc => acc.length ≤ i) [] (by omega) (Nat.le_refl _) (fun i acc hi hI => ?_) (fun acc hI => by simp only [s_spec_ReachableFrom_l1, lt_end, cond_false])]
  · simp [gath_places]
  · have hf : prims.fits (prims.len (List.map eI acc)) (prims.rlen (prims.opn (List.map eI [(i : Int)]))) 8 = true := by
      rw [pl_len, pl_rlen, pl_fits]
      exact decide_eq_true (by simp; omega)
    constructor
    · simp only [s_spec_ReachableFrom_l1, lt_len eI hi, cond_true, ridx_at eI hi, Option.bind_some, List.getElem?_eq_getElem hi, pl_geq, hf]
      by_cases h0 : 0 ≤ d[i]
      · rw [decide_eq_true h0, if_pos h0]; rfl
      · rw [decide_eq_false h0, if_neg h0]; rfl
    · split <;> first | (simp; omega) | omega
theorem p_impl_Reach {a : Int} {d : List Int} (h : s_impl_Distances l a = some d) (hd : d.length = 6) : s_impl_ReachableFrom l a = some (places 0 d) := by
  unfold s_impl_ReachableFrom
  rw [h]
  simp only [Option.bind_some]
  rw [while_gath d (fun i x acc => if 0 ≤ x then acc ++ [(i : Int)] else acc) (fun s => ((d.length : Int), s)) (fun i acc => acc.length ≤ i) [] (by omega) (Nat.le_refl _) (fun i acc hi hI => ?_) (fun acc hI => by simp only [s_impl_ReachableFrom_l1, lt_end, cond_false])]
  · simp [gath_places]
  · have hf : prims.fits (prims.len (List.map eI acc)) (prims.rlen (prims.opn (List.map eI [(i : Int)]))) 8 = true := by
      rw [pl_len, pl_rlen, pl_fits]
      exact decide_eq_true (by simp; omega)
    constructor
    · simp only [s_impl_ReachableFrom_l1, lt_len eI hi, cond_true, ridx_at eI hi, Option.bind_some, List.getElem?_eq_getElem hi, pl_geq, hf]
      by_cases h0 : 0 ≤ d[i]
      · rw [decide_eq_true h0, if_pos h0]; rfl
      · rw [decide_eq_false h0, if_neg h0]; rfl
    · split <;> first | (simp; omega) | omega
/-- those who can be reached: increasing, below six -/
def Rising (r : List Int) : Prop := r.length ≤ 6 ∧ r.Pairwise (· < ·) ∧ ∀ y ∈ r, 0 ≤ y ∧ y < 6
theorem reach_both (a : Int) : ∃ r, s_spec_ReachableFrom l a = some r ∧ s_impl_ReachableFrom l a = some r ∧ Rising r := by
  obtain ⟨d, hd, hD⟩ := spec_Distances l hl a
  obtain ⟨e, he, hE⟩ := impl_Distances l hl a
  refine ⟨places 0 d, p_spec_Reach l hl hd hD.1, ?_, ?_, places_sorted d 0, fun y hy => ?_⟩
  · rw [p_impl_Reach l hl he hE.1]
    refine congrArg some (places_congr e d 0 (by rw [hD.1, hE.1]) fun x hx => ?_)
    rw [hE.1] at hx
    exact (hE.2 x hx).trans (hD.2 x hx).symm
  · have := places_len d 0
    rw [hD.1] at this
    exact this
  · have := places_mem d 0 y hy
    rw [hD.1] at this
    omega
end
theorem connected_both (p : DSyncGroup) (dead : List Int) (k : Int) (h : p.topology.links.length ≤ 2 ^ 40) (hd : dead.length < 2 ^ 61) : ∃ r, s_spec_ConnectedTo p dead k = some r ∧ s_impl_ConnectedTo p dead k = some r ∧ Rising r := by
  have hl := leftL_len dead 0 p.topology.links
  obtain ⟨r, h1, h2, h3⟩ := reach_both _ (advs_ok ⟨p.topology.size, leftL dead 0 p.topology.links⟩) k
  refine ⟨r, ?_, ?_, h3⟩
  · unfold s_spec_ConnectedTo
    rw [p_spec_RemoveFailed _ _ _ h hd]
    simp only [Option.bind_some]
    rw [p_spec_AdvertisementsOf _ (by show (leftL dead 0 p.topology.links).length ≤ 2 ^ 40; omega)]
    simp only [Option.bind_some, h1]
  · unfold s_impl_ConnectedTo
    rw [p_impl_RemoveFailed _ _ _ h hd]
    simp only [Option.bind_some]
    rw [p_impl_AdvertisementsOf _ (by show (leftL dead 0 p.topology.links).length ≤ 2 ^ 40; omega)]
    simp only [Option.bind_some, h2]
end
end Go.Proofs.Ytofieohogenojaa
