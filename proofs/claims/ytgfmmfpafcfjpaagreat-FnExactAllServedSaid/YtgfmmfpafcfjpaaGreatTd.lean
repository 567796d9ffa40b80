import Derived.Test.YtgfmmfpafcfjpaaGreatPl
import Derived.Test.YtgfmmfpafcfjpaaGreatSd
namespace Go.Proofs.YtgfmmfpafcfjpaaGreat
namespace Tp
open Go.RowKit
set_option linter.unusedVariables false
set_option linter.unusedSimpArgs false
attribute [local simp] pl_lss pl_leq pl_gtr pl_geq pl_eql pl_neq pl_int pl_len pl_rlen pl_fits pl_bnot pl_beq nthI_nat pl_ridx pl_rlen1 pl_len0
noncomputable section
theorem p_spec_l19Has (l : List Int) (n : Int) (h : l.length < 2 ^ 61) : sSl19Has l n = some (l.any fun x => decide (x = n)) := by
 unfold sSl19Has
 rw [while_scan l (fun _ x => decide (x = n)) (fun _ _ => true) .inr (.inl (l.length : Int)) h (fun i hi => by simp [sSl19Has_l1, hi]) (by simp [sSl19Has_l1]), scan_const]
 cases l.any fun x => decide (x = n) <;> rfl
theorem p_Index (l : List Int) (n : Int) (h : l.length < 2 ^ 61) : sCIndex_int l n = some (idxI (fun x => decide (n = x)) l) := by
 unfold sCIndex_int
 rw [while_scan l (fun _ x => decide (n = x)) (fun i _ => (i : Int)) .inr (.inl (l.length : Int)) h (fun i hi => by simp [sCIndex_int_l1, hi]) (by simp [sCIndex_int_l1])]
 unfold idxI
 cases scan (fun _ x => decide (n = x)) (fun i _ => (i : Int)) 0 l <;> rfl
theorem p_Contains (l : List Int) (n : Int) (h : l.length < 2 ^ 61) : sCContains_int l n = some (l.any fun x => decide (x = n)) := by
 unfold sCContains_int
 rw [p_Index l n h]
 simp only [Option.bind_some, pl_geq, idxI_nonneg]
 congr 2
 funext x
 exact decide_eq_decide.2 eq_comm
theorem p_l1In (n a b : Int) : sSl1In n a b = some (decide (a ≤ n ∧ n ≤ b)) := by
 unfold sSl1In
 by_cases h : a ≤ n <;> simp [h]
theorem p_InRange (n a b : Int) : sIInRange n a b = some (decide (a ≤ n ∧ n ≤ b)) := by
 unfold sIInRange
 by_cases h : a ≤ n <;> simp [h]
def inSet (set a : Int) : Bool := decide (0 ≤ a ∧ a ≤ 30) && (decide (0 ≤ set) && prims.cmp .eql (prims.arith .and .i64 (prims.arith .shr .i64 set a) 1) 1)
theorem p_l19In (set a : Int) : sSl19In set a = some (inSet set a) := by
 unfold sSl19In inSet
 rw [p_l1In]
 by_cases h : 0 ≤ a ∧ a ≤ 30
 ·by_cases h' : 0 ≤ set <;> simp [h, h']
 ·simp [h]
theorem p_inSet (set a : Int) : sIinSet set a = some (inSet set a) := by
 unfold sIinSet inSet
 by_cases h' : 0 ≤ set
 ·rw [p_InRange]
  by_cases h : 0 ≤ a ∧ a ≤ 30 <;> simp [h, h']
 ·simp [h']
def keepL (dead : List Int) (down : Int) (i : Nat) (x : DLink) : Bool := !(dead.any fun y => decide (y = (i : Int))) && (!inSet down x.a && !inSet down x.b)
def leftL (dead : List Int) (down : Int) (l : List DLink) : List DLink := gath (fun i x acc => if keepL dead down i x then acc ++ [x] else acc) 0 l []
theorem p_spec_RemoveFailed (t : DTopology) (dead : List Int) (down : Int) (h : t.links.length ≤ 2 ^ 40) (hd : dead.length < 2 ^ 61) : sSRemoveFailed t dead down = some ⟨t.size, leftL dead down t.links⟩ := by
 unfold sSRemoveFailed
 rw [while_gath t.links (fun i x acc => if keepL dead down i x then acc ++ [x] else acc) (fun s => ((t.links.length : Int), s)) (fun i acc => acc.length ≤ i) [] (by omega) (Nat.le_refl _) (fun i acc hi hI => ?_) (fun acc hI => by simp [sSRemoveFailed_l1])]
 ·rfl
 ·have hf : (acc.length + 1) * 16 ≤ 70368744177664 := by omega
  constructor
  ·cases h1 : (dead.any fun y => decide (y = (i : Int))) <;> cases h2 : inSet down t.links[i].a <;> cases h3 : inSet down t.links[i].b <;> simp [sSRemoveFailed_l1, keepL, hi, p_spec_l19Has _ _ hd, p_l19In, h1, h2, h3, hf]
  ·split <;> first | (simp; omega) | omega
theorem p_impl_RemoveFailed (t : DTopology) (dead : List Int) (down : Int) (h : t.links.length ≤ 2 ^ 40) (hd : dead.length < 2 ^ 61) : sIRemoveFailed t dead down = some ⟨t.size, leftL dead down t.links⟩ := by
 unfold sIRemoveFailed
 rw [while_gath t.links (fun i x acc => if keepL dead down i x then acc ++ [x] else acc) (fun s => ((t.links.length : Int), s)) (fun i acc => acc.length ≤ i) [] (by omega) (Nat.le_refl _) (fun i acc hi hI => ?_) (fun acc hI => by simp [sIRemoveFailed_l1])]
 ·rfl
 ·have hf : (acc.length + 1) * 16 ≤ 70368744177664 := by omega
  constructor
  ·cases h1 : (dead.any fun y => decide (y = (i : Int))) <;> cases h2 : inSet down t.links[i].a <;> cases h3 : inSet down t.links[i].b <;> simp [sIRemoveFailed_l1, keepL, hi, p_Contains _ _ hd, p_inSet, h1, h2, h3, hf]
  ·split <;> first | (simp; omega) | omega
theorem leftL_len (dead : List Int) (down : Int) (l : List DLink) : (leftL dead down l).length ≤ l.length := by
 have : ∀ (l : List DLink) i acc, (gath (fun i x acc => if keepL dead down i x then acc ++ [x] else acc) i l acc).length ≤ acc.length + l.length := by
  intro l
  induction l with
  | nil => intro i acc; simp [gath]
  | cons x l ih =>
   intro i acc
   simp only [gath]
   refine Nat.le_trans (ih _ _) ?_
   split <;> simp <;> omega
 have h := this l 0 []
 simpa [leftL] using h
def linkP (a b : Int) (x : DLink) : Bool := (decide (x.a = a) && decide (x.b = b)) || (decide (x.a = b) && decide (x.b = a))
theorem p_spec_LinkIndex (t : DTopology) (a b : Int) (h : t.links.length ≤ 2 ^ 40) : sSLinkIndex t a b = some (idxI (linkP a b) t.links) := by
 unfold sSLinkIndex
 rw [while_scan t.links (fun _ x => linkP a b x) (fun i _ => (i : Int)) .inr (.inl (t.links.length : Int)) (by omega) (fun i hi => by
  simp only [sSLinkIndex_l1, linkP, lt_len _ hi, nthI_at hi, cond_true, Option.bind_some, pl_eql]; cases decide (t.links[i].a = a) <;> cases decide (t.links[i].b = b) <;> cases decide (t.links[i].a = b) <;> cases decide (t.links[i].b = a) <;> rfl) (by simp [sSLinkIndex_l1])]
 unfold idxI
 cases scan (fun _ x => linkP a b x) (fun i _ => (i : Int)) 0 t.links <;> rfl
theorem p_impl_LinkIndex_1 (x : DLink) (a b : Int) : sILinkIndex_1 x a b = some (linkP a b x) := by
 simp only [sILinkIndex_1, linkP, pl_eql]
 cases decide (x.a = a) <;> cases decide (x.b = b) <;> cases decide (x.a = b) <;> cases decide (x.b = a) <;> rfl
theorem p_impl_LinkIndex (t : DTopology) (a b : Int) (h : t.links.length ≤ 2 ^ 40) : sILinkIndex t a b = some (idxI (linkP a b) t.links) := by
 unfold sILinkIndex sCIndexFunc_Link__LinkIndex_1
 rw [while_scan t.links (fun _ x => linkP a b x) (fun i _ => (i : Int)) .inr (.inl (t.links.length : Int)) (by omega) (fun i hi => by
  simp [sCIndexFunc_Link__LinkIndex_1_l1, hi, p_impl_LinkIndex_1]) (by simp [sCIndexFunc_Link__LinkIndex_1_l1])]
 unfold idxI
 cases scan (fun _ x => linkP a b x) (fun i _ => (i : Int)) 0 t.links <;> rfl
def nbrs (t : DTopology) (a : Int) : List Int := gath (fun i _ acc => if t.links.any (linkP a (i : Int)) then acc ++ [(i : Int)] else acc) 0 (List.range (max 0 (min t.size 6)).toNat) []
theorem p_spec_NeighborsOf (t : DTopology) (a : Int) (h : t.links.length ≤ 2 ^ 40) : sSNeighborsOf t a = some (nbrs t a) := by
 unfold sSNeighborsOf
 have hn : (max 0 (min t.size 6)).toNat ≤ 6 := by omega
 rw [while_gath (List.range (max 0 (min t.size 6)).toNat) (fun i _ acc => if t.links.any (linkP a (i : Int)) then acc ++ [(i : Int)] else acc) (fun s => if 6 < t.size then .inl (((max 0 (min t.size 6)).toNat : Int), s) else if (6 : Int) = t.size then .inr (((max 0 (min t.size 6)).toNat : Int), s) else .inr (((max 0 (min t.size 6)).toNat : Int), s)) (fun i acc => acc.length ≤ i) [] (by simp; omega) (Nat.le_refl _) (fun i acc hi hI => ?_) (fun acc hI => ?_)]
 ·by_cases h1 : 6 < t.size
  ·simp [h1, nbrs]
  ·by_cases h2 : (6 : Int) = t.size <;> simp [h1, h2, nbrs]
 ·simp only [List.length_range] at hi
  have hf : (acc.length + 1) * 8 ≤ 70368744177664 := by omega
  have h1 : (i : Int) < t.size := by omega
  have h2 : (i : Int) < 6 := by omega
  have hx := idxI_nonneg (linkP a (i : Int)) t.links
  constructor
  ·simp only [sSNeighborsOf_l1, pl_lss, decide_eq_true h1, decide_eq_true h2, cond_true, p_spec_LinkIndex t a _ h, Option.bind_some, pl_geq, hx]
   cases t.links.any (linkP a (i : Int)) <;> simp [hf]
  ·split <;> first | (simp; omega) | omega
 ·simp only [List.length_range, sSNeighborsOf_l1, pl_lss]
  by_cases h1 : 6 < t.size
  ·have e1 : (((max 0 (min t.size 6)).toNat : Nat) : Int) = 6 := by omega
   rw [e1]
   simp [h1]
  ·have e1 : ¬ (((max 0 (min t.size 6)).toNat : Nat) : Int) < t.size := by omega
   simp only [decide_eq_false e1, cond_false, h1, if_false]
   split <;> rfl
theorem p_impl_NeighborsOf (t : DTopology) (a : Int) (h : t.links.length ≤ 2 ^ 40) : sINeighborsOf t a = some (nbrs t a) := by
 unfold sINeighborsOf
 have hn : (max 0 (min t.size 6)).toNat ≤ 6 := by omega
 have hm : prims.max 0 (prims.min t.size 6) = (((max 0 (min t.size 6)).toNat : Nat) : Int) := by
  rw [pl_max, pl_min]
  split <;> split <;> omega
 rw [while_gath (List.range (max 0 (min t.size 6)).toNat) (fun i _ acc => if t.links.any (linkP a (i : Int)) then acc ++ [(i : Int)] else acc) (fun s => (((max 0 (min t.size 6)).toNat : Int), s)) (fun i acc => acc.length ≤ i) [] (by simp; omega) (Nat.le_refl _) (fun i acc hi hI => ?_) (fun acc hI => ?_)]
 ·rfl
 ·simp only [List.length_range] at hi
  have hf : (acc.length + 1) * 8 ≤ 70368744177664 := by omega
  have h1 : (i : Int) < (((max 0 (min t.size 6)).toNat : Nat) : Int) := by omega
  have hx := idxI_nonneg (linkP a (i : Int)) t.links
  constructor
  ·simp only [sINeighborsOf_l1, hm, pl_lss, decide_eq_true h1, cond_true, p_impl_LinkIndex t a _ h, Option.bind_some, pl_geq, hx]
   cases t.links.any (linkP a (i : Int)) <;> simp [hf]
  ·split <;> first | (simp; omega) | omega
 ·simp [sINeighborsOf_l1, hm]
end
end Tp
end Go.Proofs.YtgfmmfpafcfjpaaGreat
namespace Go.Proofs.YtgfmmfpafcfjpaaGreat
namespace Tp
open Go.RowKit
set_option linter.unusedVariables false
set_option linter.unusedSimpArgs false
attribute [local simp] pl_lss pl_leq pl_gtr pl_geq pl_eql pl_neq pl_int pl_len pl_rlen pl_fits pl_bnot pl_beq nthI_nat pl_ridx pl_rlen1 pl_len0
noncomputable section
def cmpI (a b : Int) : Int := if a < b then -1 else if b < a then 1 else 0
theorem p_Compare (a b : Int) : s_cmp_Compare_int a b = some (cmpI a b) := by
 unfold s_cmp_Compare_int s_cmp_isNaN_int cmpI
 by_cases h1 : a < b
 ·simp [h1]
 ·by_cases h2 : b < a <;> simp [h1, h2]
theorem p_Or (a b : Int) : s_cmp_Or_int [a, b] = some (if a = 0 then b else a) := by
 unfold s_cmp_Or_int
 rw [while_scan [a, b] (fun _ x => !decide (x = 0)) (fun _ x => x) .inr (.inl (2 : Int)) (by simp) (fun i hi => by
  simp only [s_cmp_Or_int_l1, lt_len _ hi, nthI_at hi, cond_true, Option.bind_some, pl_neq]) (by
  have := lt_end eI [a, b]
  simp only [s_cmp_Or_int_l1]
  rw [this]
  rfl)]
 by_cases h1 : a = 0
 ·by_cases h2 : b = 0 <;> simp [scan, h1, h2]
 ·simp [scan, h1]
def cmpL (x y : DLink) : Int := if cmpI x.a y.a = 0 then cmpI x.b y.b else cmpI x.a y.a
theorem p_compareLinks (x y : DLink) : sIcompareLinks x y = some (cmpL x y) := by
 unfold sIcompareLinks
 simp only [p_Compare, Option.bind_some, p_Or]
 rfl
def pairL (x y : DLink) : Bool := decide (x.a < y.a) || (decide (x.a = y.a) && decide (x.b < y.b))
theorem p_l19Pair (x y : DLink) : sSl19Pair x y = some (pairL x y) := by
 simp only [sSl19Pair, pairL, pl_lss, pl_eql]
 cases decide (x.a < y.a) <;> cases decide (x.a = y.a) <;> cases decide (x.b < y.b) <;> rfl
theorem pair_cmp (x y : DLink) : decide (0 ≤ cmpL x y) = !pairL x y := by
 unfold cmpL cmpI pairL
 rcases Int.lt_trichotomy x.a y.a with h | h | h
 ·have : ¬ y.a < x.a := by omega
  simp [h, this]
 ·rw [h]
  rcases Int.lt_trichotomy x.b y.b with h' | h' | h'
  ·simp [h']
  ·simp [h']
  ·have : ¬ x.b < y.b := by omega
   simp [h', this]
 ·have h1 : ¬ x.a < y.a := by omega
  have h2 : ¬ x.a = y.a := by omega
  simp [h, h1, h2]
def badS (t : DTopology) (i : Nat) (x : DLink) : Bool := !decide (0 ≤ x.a ∧ x.a ≤ prims.arith .sub .i64 t.size 1) || (!decide (0 ≤ x.b ∧ x.b ≤ prims.arith .sub .i64 t.size 1) || (decide (x.b ≤ x.a) || (decide (0 < (i : Int)) && match t.links[i - 1]? with | some y => !pairL y x | none => false)))
def badI (t : DTopology) (i : Nat) (x : DLink) : Bool := !decide (0 ≤ x.a ∧ x.a ≤ prims.arith .sub .i64 t.size 1) || (!decide (prims.arith .add .i64 x.a 1 ≤ x.b ∧ x.b ≤ prims.arith .sub .i64 t.size 1) || (decide (0 < (i : Int)) && match t.links[i - 1]? with | some y => decide (0 ≤ cmpL y x) | none => false))
theorem prev_at {t : DTopology} {i : Nat} (hi : i < t.links.length) (h0 : 0 < (i : Int)) (h : t.links.length ≤ 2 ^ 40) : nthI t.links (prims.arith .sub .i64 (i : Int) 1) = some (t.links[i - 1]'(by omega)) := by
 rw [pl_sub _ _ (by omega) (by omega), show (i : Int) - 1 = ((i - 1 : Nat) : Int) by omega]
 exact nthI_at (by omega)
def validT (t : DTopology) : Bool := match scan (badS t) (fun _ _ => false) 0 t.links with
 | some b => b
 | none => decide (1 ≤ t.size ∧ t.size ≤ 6)
theorem p_spec_ValidTopology (t : DTopology) (h : t.links.length ≤ 2 ^ 40) : sSValidTopology t = some (validT t) := by
 unfold sSValidTopology validT
 rw [while_scan t.links (badS t) (fun _ _ => false) .inr (.inl (t.links.length : Int)) (by omega) (fun i hi => by
  simp only [sSValidTopology_l1, lt_len _ hi, nthI_at hi, cond_true, Option.bind_some, p_l1In, badS, pl_bnot, pl_geq, pl_gtr]
  cases decide (0 ≤ t.links[i].a ∧ t.links[i].a ≤ prims.arith .sub .i64 t.size 1) <;> cases decide (0 ≤ t.links[i].b ∧ t.links[i].b ≤ prims.arith .sub .i64 t.size 1) <;> cases decide (t.links[i].b ≤ t.links[i].a) <;> first | rfl | skip
  by_cases h0 : 0 < (i : Int)
  ·simp only [decide_eq_true h0, cond_true, prev_at hi h0 h, Option.bind_some, p_l19Pair, List.getElem?_eq_getElem (show i - 1 < t.links.length by omega)]
   cases pairL (t.links[i - 1]'(by omega)) t.links[i] <;> rfl
  ·simp only [decide_eq_false h0]
   rfl) (by simp only [sSValidTopology_l1, lt_end]; rfl)]
 cases scan (badS t) (fun _ _ => false) 0 t.links
 ·simp [p_l1In]
 ·rfl
theorem scan_congr {α γ : Type} {p q : Nat → α → Bool} {r : Nat → α → γ} (h : ∀ i x, p i x = q i x) : ∀ (l : List α) (i : Nat), scan p r i l = scan q r i l
 | [], _ => rfl
 | x :: l, i => by simp only [scan, h, scan_congr h l]
theorem bad_eq (t : DTopology) (hs : 1 ≤ t.size ∧ t.size ≤ 6) (i : Nat) (x : DLink) : badI t i x = badS t i x := by
 unfold badI badS
 have e : prims.arith .sub .i64 t.size 1 = t.size - 1 := pl_sub _ _ (by omega) (by omega)
 rw [e]
 by_cases h1 : 0 ≤ x.a ∧ x.a ≤ t.size - 1
 ·have e2 : prims.arith .add .i64 x.a 1 = x.a + 1 := pl_add _ _ (by omega) (by omega)
  rw [e2]
  have e3 : (match t.links[i - 1]? with | some y => decide (0 ≤ cmpL y x) | none => false) = (match t.links[i - 1]? with | some y => !pairL y x | none => false) := by
   cases t.links[i - 1]? with
   | none => rfl
   | some y => exact pair_cmp y x
  rw [e3]
  by_cases h2 : 0 ≤ x.b ∧ x.b ≤ t.size - 1
  ·by_cases h3 : x.b ≤ x.a
   ·have : ¬ (x.a + 1 ≤ x.b ∧ x.b ≤ t.size - 1) := by omega
    rw [decide_eq_false this, decide_eq_true h1, decide_eq_true h2, decide_eq_true h3]
    rfl
   ·have : x.a + 1 ≤ x.b ∧ x.b ≤ t.size - 1 := by omega
    simp [h1, h2, h3, this]
  ·have : ¬ (x.a + 1 ≤ x.b ∧ x.b ≤ t.size - 1) := by omega
   simp [h1, h2, this]
 ·simp [h1]
theorem p_impl_ValidTopology (t : DTopology) (h : t.links.length ≤ 2 ^ 40) : sIValidTopology t = some (validT t) := by
 unfold sIValidTopology
 rw [while_scan t.links (badI t) (fun _ _ => false) .inr (.inl (t.links.length : Int)) (by omega) (fun i hi => by
  simp only [sIValidTopology_l1, lt_len _ hi, nthI_at hi, cond_true, Option.bind_some, p_InRange, badI, pl_bnot, pl_geq, pl_gtr]
  cases decide (0 ≤ t.links[i].a ∧ t.links[i].a ≤ prims.arith .sub .i64 t.size 1) <;> cases decide (prims.arith .add .i64 t.links[i].a 1 ≤ t.links[i].b ∧ t.links[i].b ≤ prims.arith .sub .i64 t.size 1) <;> first | rfl | skip
  by_cases h0 : 0 < (i : Int)
  ·simp only [decide_eq_true h0, cond_true, prev_at hi h0 h, Option.bind_some, p_compareLinks, List.getElem?_eq_getElem (show i - 1 < t.links.length by omega)]
   cases decide (0 ≤ cmpL (t.links[i - 1]'(by omega)) t.links[i]) <;> rfl
  ·simp only [decide_eq_false h0]
   rfl) (by simp only [sIValidTopology_l1, lt_end]; rfl)]
 by_cases hs : 1 ≤ t.size ∧ t.size ≤ 6
 ·rw [scan_congr (bad_eq t hs)]
  unfold validT
  cases scan (badS t) (fun _ _ => false) 0 t.links
  ·simp [p_InRange]
  ·rfl
 ·have hf : ∀ (p : Nat → DLink → Bool), ∀ (l : List DLink) (i : Nat) (b : Bool), scan p (fun _ _ => false) i l = some b → b = false := by
   intro p l i b hb
   obtain ⟨j, x, _, _, h3⟩ := scan_some p _ l i b hb
   exact h3
  have hv : validT t = false := by
   unfold validT
   cases hc : scan (badS t) (fun _ _ => false) 0 t.links with
   | none => simpa using hs
   | some b => exact hf _ _ _ _ hc
  rw [hv]
  cases hc : scan (badI t) (fun _ _ => false) 0 t.links with
  | none => simp [p_InRange, hs]
  | some b => rw [hf _ _ _ _ hc]; rfl
theorem validT_size {t : DTopology} (h : validT t = true) : 1 ≤ t.size ∧ t.size ≤ 6 := by
 unfold validT at h
 cases hc : scan (badS t) (fun _ _ => false) 0 t.links with
 | none => rw [hc] at h; simpa using h
 | some b =>
  rw [hc] at h
  obtain ⟨j, x, _, _, h3⟩ := scan_some _ _ _ _ _ hc
  simp only at h
  rw [h3] at h
  cases h
def AdvOk (l : List DAdvertisement) : Prop := l.length < 2 ^ 61 ∧ ∀ x ∈ l, x.neighbors.length < 2 ^ 61
theorem nbrs_len (t : DTopology) (a : Int) : (nbrs t a).length ≤ 6 := by
 have : ∀ (l : List Nat) i acc, (gath (fun i _ acc => if t.links.any (linkP a (i : Int)) then acc ++ [(i : Int)] else acc) i l acc).length ≤ acc.length + l.length := by
  intro l
  induction l with
  | nil => intro i acc; simp [gath]
  | cons x l ih =>
   intro i acc
   simp only [gath]
   refine Nat.le_trans (ih _ _) ?_
   split <;> simp <;> omega
 have h := this (List.range (max 0 (min t.size 6)).toNat) 0 []
 unfold nbrs
 simp only [List.length_nil, List.length_range] at h
 omega
theorem p_spec_FindAdvertisement (l : List DAdvertisement) (a : Int) (h : l.length < 2 ^ 61) : sSFindAdvertisement l a = some (idxI (fun x => decide (x.origin = a)) l) := by
 unfold sSFindAdvertisement
 rw [while_scan l (fun _ x => decide (x.origin = a)) (fun i _ => (i : Int)) .inr (.inl (l.length : Int)) h (fun i hi => by simp only [sSFindAdvertisement_l1, lt_len _ hi, nthI_at hi, cond_true, Option.bind_some, pl_eql]) (by simp only [sSFindAdvertisement_l1, lt_end]; rfl)]
 unfold idxI
 cases scan (fun _ (x : DAdvertisement) => decide (x.origin = a)) (fun i _ => (i : Int)) 0 l <;> rfl
theorem p_impl_FindAdvertisement (l : List DAdvertisement) (a : Int) (h : l.length < 2 ^ 61) : sIFindAdvertisement l a = some (idxI (fun x => decide (x.origin = a)) l) := by
 unfold sIFindAdvertisement sCIndexFunc_Advertisement__FindAdvertisement_1
 rw [while_scan l (fun _ x => decide (x.origin = a)) (fun i _ => (i : Int)) .inr (.inl (l.length : Int)) h (fun i hi => by simp only [sCIndexFunc_Advertisement__FindAdvertisement_1_l1, sIFindAdvertisement_1, lt_len _ hi, nthI_at hi, cond_true, Option.bind_some, pl_eql]) (by simp only [sCIndexFunc_Advertisement__FindAdvertisement_1_l1, lt_end]; rfl)]
 unfold idxI
 cases scan (fun _ (x : DAdvertisement) => decide (x.origin = a)) (fun i _ => (i : Int)) 0 l <;> rfl
def nbrB (l : List DAdvertisement) (a b : Int) : Bool := match nthI l (idxI (fun x => decide (x.origin = a)) l) with
 | some x => x.neighbors.any fun y => decide (y = b)
 | none => false
def bidB (l : List DAdvertisement) (a b : Int) : Bool := nbrB l a b && nbrB l b a
theorem p_l21Nbr (l : List DAdvertisement) (a b : Int) (h : AdvOk l) : sSl21Nbr l a b = some (nbrB l a b) := by
 unfold sSl21Nbr nbrB
 rw [p_spec_FindAdvertisement l a h.1]
 rcases idxI_cases (fun x : DAdvertisement => decide (x.origin = a)) l with ⟨h1, _⟩ | ⟨j, x, h1, h2, _⟩
 ·rw [h1, nthI_neg _ _ (by decide)]
  rfl
 ·rw [h1]
  have hx : nthI l (j : Int) = some x := by rw [nthI_nat]; exact h2
  simp only [Option.bind_some, pl_geq, decide_eq_true (show (0 : Int) ≤ (j : Int) by omega), cond_true, hx, p_spec_l19Has _ _ (h.2 x (List.mem_of_getElem? h2))]
theorem p_spec_Bid (l : List DAdvertisement) (a b : Int) (h : AdvOk l) : sSIsBidirectional l a b = some (bidB l a b) := by
 unfold sSIsBidirectional bidB
 simp only [p_l21Nbr l _ _ h, Option.bind_some]
 cases nbrB l a b <;> rfl
theorem p_impl_Bid (l : List DAdvertisement) (a b : Int) (h : AdvOk l) : sIIsBidirectional l a b = some (bidB l a b) := by
 unfold sIIsBidirectional bidB nbrB
 simp only [p_impl_FindAdvertisement l _ h.1, Option.bind_some, pl_geq]
 rcases idxI_cases (fun x : DAdvertisement => decide (x.origin = a)) l with ⟨h1, _⟩ | ⟨j, x, h1, h2, _⟩
 ·rw [h1, nthI_neg l (-1) (by decide)]
  rfl
 ·rw [h1]
  have hx : nthI l (j : Int) = some x := by rw [nthI_nat]; exact h2
  simp only [decide_eq_true (show (0 : Int) ≤ (j : Int) by omega), cond_true, hx, Option.bind_some, p_Contains _ _ (h.2 x (List.mem_of_getElem? h2))]
  rcases idxI_cases (fun x : DAdvertisement => decide (x.origin = b)) l with ⟨k1, _⟩ | ⟨j', x', k1, k2, _⟩
  ·rw [k1, nthI_neg l (-1) (by decide)]
   cases x.neighbors.any fun y => decide (y = b) <;> rfl
  ·rw [k1]
   have hx' : nthI l (j' : Int) = some x' := by rw [nthI_nat]; exact k2
   simp only [decide_eq_true (show (0 : Int) ≤ (j' : Int) by omega), cond_true, hx', Option.bind_some, p_Contains _ _ (h.2 x' (List.mem_of_getElem? k2))]
   cases x.neighbors.any fun y => decide (y = b) <;> rfl
end
end Tp
end Go.Proofs.YtgfmmfpafcfjpaaGreat
namespace Go.Proofs.YtgfmmfpafcfjpaaGreat
namespace Tp
open Go.RowKit
set_option linter.unusedVariables false
set_option linter.unusedSimpArgs false
set_option linter.unusedSectionVars false
noncomputable section
def gt (d : List Int) (x : Nat) : Int := d.getD x (-1)
theorem gt_at {d : List Int} {x : Nat} (h : x < d.length) : d[x]? = some (gt d x) := by
 simp [gt, List.getD, List.getElem?_eq_getElem h]
theorem gt_set {d : List Int} {x : Nat} (h : x < d.length) (v : Int) (y : Nat) : gt (d.set x v) y = if y = x then v else gt d y := by
 unfold gt
 rw [List.getD_eq_getElem?_getD, List.getD_eq_getElem?_getD]
 by_cases hy : y = x
 ·subst hy
  rw [List.getElem?_set_self h]
  simp
 ·rw [List.getElem?_set_ne (fun e => hy e.symm), if_neg hy]
inductive Rch (R : Nat → Nat → Bool) (a : Nat) : Nat → Prop
 | start : Rch R a a
 | step {b x : Nat} : Rch R a b → R b x = true → x < 6 → Rch R a x
theorem rch_lt {R : Nat → Nat → Bool} {a x : Nat} (ha : a < 6) (h : Rch R a x) : x < 6 := by
 cases h with
 | start => exact ha
 | step _ _ h => exact h
theorem rch_of {R : Nat → Nat → Bool} {a : Nat} {d : List Int} (ha : a < 6) (h0 : 0 ≤ gt d a) (hc : ∀ b x, b < 6 → x < 6 → 0 ≤ gt d b → R b x = true → 0 ≤ gt d x) {x : Nat} (h : Rch R a x) : 0 ≤ gt d x := by
 induction h with
 | start => exact h0
 | step hb hr hx ih => exact hc _ _ (rch_lt ha hb) hx ih hr
def Dst (R : Nat → Nat → Bool) (on : Prop) (a : Nat) (d : List Int) : Prop := d.length = 6 ∧ ∀ x, x < 6 → (0 ≤ gt d x ↔ on ∧ Rch R a x)
structure Mid (R : Nat → Nat → Bool) (a : Nat) (s : Int) (B : Nat) (d : List Int) : Prop where
 len : d.length = 6
 h0 : gt d a = 0
 ub : ∀ x, x < 6 → gt d x ≤ s
 snd : ∀ x, x < 6 → 0 ≤ gt d x → Rch R a x
 lev : ∀ x k, x < 6 → 0 ≤ k → gt d x = k + 1 → ∃ b, b < 6 ∧ gt d b = k
 cl : ∀ b x, b < 6 → x < 6 → 0 ≤ gt d b → gt d b < s - 1 → R b x = true → 0 ≤ gt d x
 done : ∀ b x, b < B → b < 6 → x < 6 → gt d b = s - 1 → R b x = true → 0 ≤ gt d x
theorem Mid.next {R : Nat → Nat → Bool} {a : Nat} {s : Int} {d : List Int} (h : Mid R a s 6 d) (hs : 1 ≤ s) : Mid R a (s + 1) 0 d :=
 ⟨h.len, h.h0, fun x hx => by have := h.ub x hx; omega, h.snd, h.lev, fun b x hb hx h1 h2 hr => by
  by_cases he : gt d b = s - 1
  ·exact h.done b x hb hb hx he hr
  ·exact h.cl b x hb hx h1 (by omega) hr, fun b x hb => by omega⟩
theorem Mid.more {R : Nat → Nat → Bool} {a : Nat} {s : Int} {B : Nat} {d : List Int} (h : Mid R a s B d) (hd : ∀ y, y < 6 → gt d B = s - 1 → R B y = true → 0 ≤ gt d y) : Mid R a s (B + 1) d :=
 ⟨h.len, h.h0, h.ub, h.snd, h.lev, h.cl, fun c y hc hc6 hy h3 h5 => by
  by_cases hcb : c = B
  ·subst hcb; exact hd y hy h3 h5
  ·exact h.done c y (by omega) hc6 hy h3 h5⟩
theorem Mid.set {R : Nat → Nat → Bool} {a : Nat} {s : Int} {B b x : Nat} {d : List Int} (h : Mid R a s B d) (hs : 1 ≤ s) (hb : b < 6) (hx : x < 6) (h1 : gt d b = s - 1) (h2 : gt d x < 0) (hr : R b x = true) : Mid R a s B (d.set x s) := by
 have hxl : x < d.length := by rw [h.len]; exact hx
 have g := gt_set hxl s
 have up : ∀ y, 0 ≤ gt d y → 0 ≤ gt (d.set x s) y := fun y hy => by rw [g]; split <;> omega
 have hax : a ≠ x := fun e => by have := h.h0; rw [e] at this; omega
 have hbx : b ≠ x := fun e => by rw [e] at h1; omega
 refine ⟨by rw [List.length_set]; exact h.len, by rw [g, if_neg hax]; exact h.h0, fun y hy => ?_, fun y hy h0 => ?_, fun y k hy hk he => ?_, fun c y hc hy h3 h4 h5 => ?_, fun c y hc hc6 hy h3 h5 => ?_⟩
 ·rw [g]
  split
  ·omega
  ·exact h.ub y hy
 ·rw [g] at h0
  split at h0
  ·rename_i e
   subst e
   exact .step (h.snd b hb (by omega)) hr hx
  ·exact h.snd y hy h0
 ·rw [g] at he
  split at he
  ·exact ⟨b, hb, by rw [g, if_neg hbx]; omega⟩
  ·obtain ⟨c, hc, hce⟩ := h.lev y k hy hk he
   exact ⟨c, hc, by rw [g, if_neg (fun e => by rw [e] at hce; omega)]; exact hce⟩
 ·rw [g] at h3 h4
  split at h4
  ·omega
  ·rename_i hne
   rw [if_neg hne] at h3
   exact up y (h.cl c y hc hy h3 h4 h5)
 ·rw [g] at h3
  split at h3
  ·omega
  ·exact up y (h.done c y hc hc6 hy h3 h5)
theorem count_step (d : List Int) (k : Int) : ∀ l : List Nat, l.countP (fun x => decide (0 ≤ gt d x ∧ gt d x ≤ k)) + l.countP (fun x => decide (gt d x = k + 1 ∧ 0 ≤ k)) ≤ l.countP (fun x => decide (0 ≤ gt d x ∧ gt d x ≤ k + 1))
 | [] => by simp
 | x :: l => by
  have ih := count_step d k l
  simp only [List.countP_cons]
  by_cases h1 : 0 ≤ gt d x ∧ gt d x ≤ k
  ·have h2 : ¬ (gt d x = k + 1 ∧ 0 ≤ k) := by omega
   have h3 : 0 ≤ gt d x ∧ gt d x ≤ k + 1 := by omega
   simp only [decide_eq_true h1, decide_eq_false h2, decide_eq_true h3, if_true, Bool.false_eq_true, if_false]
   omega
  ·by_cases h2 : gt d x = k + 1 ∧ 0 ≤ k
   ·have h3 : 0 ≤ gt d x ∧ gt d x ≤ k + 1 := by omega
    simp only [decide_eq_false h1, decide_eq_true h2, decide_eq_true h3, if_true, Bool.false_eq_true, if_false]
    omega
   ·simp only [decide_eq_false h1, decide_eq_false h2, Bool.false_eq_true, if_false]
    omega
theorem count_lev {d : List Int} (hlev : ∀ x k, x < 6 → 0 ≤ k → gt d x = k + 1 → ∃ b, b < 6 ∧ gt d b = k) : ∀ (k : Nat), (∃ x, x < 6 ∧ gt d x = (k : Int)) → k + 1 ≤ (List.range 6).countP (fun x => decide (0 ≤ gt d x ∧ gt d x ≤ (k : Int)))
 | 0, ⟨x, hx, he⟩ => by
  have : 0 < (List.range 6).countP (fun x => decide (0 ≤ gt d x ∧ gt d x ≤ ((0 : Nat) : Int))) := List.countP_pos_iff.2 ⟨x, by simpa using hx, by simp [he]⟩
  omega
 | k + 1, ⟨x, hx, he⟩ => by
  have ih := count_lev hlev k (hlev x k hx (by omega) (by rw [he]; omega))
  have h1 := count_step d k (List.range 6)
  have h2 : 0 < (List.range 6).countP (fun x => decide (gt d x = (k : Int) + 1 ∧ (0 : Int) ≤ k)) := List.countP_pos_iff.2 ⟨x, by simpa using hx, by simp [he]⟩
  have e : (((k + 1 : Nat) : Int)) = (k : Int) + 1 := by omega
  rw [e]
  omega
theorem Mid.dst {R : Nat → Nat → Bool} {a : Nat} {d : List Int} (ha : a < 6) (h : Mid R a 7 0 d) : Dst R True a d := by
 refine ⟨h.len, fun x hx => ⟨fun h0 => ⟨trivial, h.snd x hx h0⟩, fun hr => rch_of ha (by rw [h.h0]; exact Int.le_refl _) (fun b y hb hy h1 h2 => ?_) hr.2⟩⟩
 by_cases h6 : gt d b < 6
 ·exact h.cl b y hb hy h1 (by omega) h2
 ·exfalso
  obtain ⟨k, hk⟩ : ∃ k : Nat, gt d b = (k : Int) := ⟨(gt d b).toNat, by omega⟩
  have h3 := count_lev h.lev k ⟨b, hb, hk⟩
  have h4 : (List.range 6).countP (fun x => decide (0 ≤ gt d x ∧ gt d x ≤ (k : Int))) ≤ (List.range 6).length := List.countP_le_length
  simp only [List.length_range] at h4
  omega
section
variable (l : List DAdvertisement) (hl : AdvOk l)
def RB (b x : Nat) : Bool := bidB l (b : Int) (x : Int)
include hl
theorem inc6 {i : Nat} (h : i < 6) : prims.arith .add .i64 (i : Int) 1 = ((i + 1 : Nat) : Int) := pl_inc i 6 h (by decide)
theorem spec_l4 {a : Nat} {s : Nat} (hs : 1 ≤ s) (hs6 : s ≤ 6) {b : Nat} (hb : b < 6) {d : List Int} (h : Mid (RB l) a s b d) :
  ∃ g, whileO (sSDistances_l4 l s b) fuel (0, d) = some g ∧ Mid (RB l) a s (b + 1) (match g with | .inl (_, d, _, _) => d | .inr (_, d) => d) := by
 have hsub : prims.arith .sub .i64 (s : Int) 1 = (s : Int) - 1 := pl_sub _ _ (by omega) (by omega)
 refine while_inv (fun y : Int × List Int => ∃ i : Nat, y.1 = (i : Int) ∧ i ≤ 6 ∧ Mid (RB l) a s b y.2 ∧ (∀ x, x < i → gt y.2 b = (s : Int) - 1 → RB l b x = true → 0 ≤ gt y.2 x)) (fun y => 6 - y.1.toNat) _ ?_ fuel (0, d) ⟨0, rfl, by omega, h, fun x hx => by omega⟩ (by unfold fuel; simp)
 rintro ⟨v, d⟩ ⟨i, rfl, hi, hM, hdone⟩
 dsimp only at hM hdone ⊢
 by_cases h6 : i < 6
 ·have hbl : b < d.length := by rw [hM.len]; exact hb
  have hil : i < d.length := by rw [hM.len]; exact h6
  have e1 : prims.cmp .lss (i : Int) 6 = true := by rw [pl_lss]; exact decide_eq_true (by omega)
  simp only [sSDistances_l4, e1, cond_true, ridx_at eI hbl, ridx_at eI hil, Option.bind_some, gt_at hbl, gt_at hil, pl_eql, hsub]
  by_cases h1 : gt d b = (s : Int) - 1
  ·simp only [decide_eq_true h1, cond_true, pl_lss]
   left
   by_cases h2 : gt d i < 0
   ·simp only [decide_eq_true h2, cond_true, p_spec_Bid l _ _ hl, Option.bind_some]
    cases hr : bidB l (b : Int) (i : Int)
    ·refine ⟨_, rfl, ⟨i + 1, inc6 l hl h6, by omega, hM, fun x hx hb' hr' => ?_⟩, ?_⟩
     ·by_cases hxi : x = i
      ·subst hxi
       have : RB l b x = false := hr
       rw [this] at hr'
       cases hr'
      ·exact hdone x (by omega) hb' hr'
     ·dsimp only
      rw [inc6 l hl h6]
      simp only [Int.toNat_natCast]
      omega
    ·refine ⟨_, rfl, ⟨i + 1, inc6 l hl h6, by omega, hM.set (by omega) hb h6 h1 h2 hr, fun x hx hb' hr' => ?_⟩, ?_⟩
     ·dsimp only
      rw [gt_set hil]
      split
      ·omega
      ·rename_i hne
       exact hdone x (by omega) h1 hr'
     ·dsimp only
      rw [inc6 l hl h6]
      simp only [Int.toNat_natCast]
      omega
   ·simp only [decide_eq_false h2, cond_false]
    refine ⟨_, rfl, ⟨i + 1, inc6 l hl h6, by omega, hM, fun x hx hb' hr' => ?_⟩, ?_⟩
    ·by_cases hxi : x = i
     ·subst hxi; dsimp only; omega
     ·exact hdone x (by omega) hb' hr'
    ·dsimp only
     rw [inc6 l hl h6]
     simp only [Int.toNat_natCast]
     omega
  ·simp only [decide_eq_false h1, cond_false]
   right
   refine ⟨_, rfl, ?_⟩
   exact hM.more fun y hy h3 => absurd h3 h1
 ·have hi6 : i = 6 := by omega
  subst hi6
  right
  refine ⟨_, rfl, ?_⟩
  exact hM.more fun y hy h3 h5 => hdone y hy h3 h5
theorem spec_l3 {a : Nat} {s : Nat} (hs : 1 ≤ s) (hs6 : s ≤ 6) {d : List Int} (h : Mid (RB l) a s 0 d) :
  ∃ g, whileO (sSDistances_l3 l s) fuel (0, d) = some g ∧ Mid (RB l) a s 6 g.2 := by
 refine while_inv (fun y : Int × List Int => ∃ i : Nat, y.1 = (i : Int) ∧ i ≤ 6 ∧ Mid (RB l) a s i y.2) (fun y => 6 - y.1.toNat) _ ?_ fuel (0, d) ⟨0, rfl, by omega, h⟩ (by unfold fuel; simp)
 rintro ⟨v, d⟩ ⟨i, rfl, hi, hM⟩
 dsimp only at hM ⊢
 by_cases h6 : i < 6
 ·left
  have e1 : prims.cmp .lss (i : Int) 6 = true := by rw [pl_lss]; exact decide_eq_true (by omega)
  obtain ⟨g, hg, hM'⟩ := spec_l4 l hl hs hs6 h6 hM
  simp only [sSDistances_l3, e1, cond_true, hg, Option.bind_some]
  rcases g with ⟨g1, g2, g3, g4⟩ | ⟨g1, g2⟩
  ·refine ⟨_, rfl, ⟨i + 1, inc6 l hl h6, by omega, hM'⟩, ?_⟩
   dsimp only
   rw [inc6 l hl h6]
   simp only [Int.toNat_natCast]
   omega
  ·refine ⟨_, rfl, ⟨i + 1, inc6 l hl h6, by omega, hM'⟩, ?_⟩
   dsimp only
   rw [inc6 l hl h6]
   simp only [Int.toNat_natCast]
   omega
 ·right
  have hi6 : i = 6 := by omega
  subst hi6
  exact ⟨_, rfl, hM⟩
theorem spec_l2 {a : Nat} {d : List Int} (h : Mid (RB l) a 1 0 d) : ∃ g, whileO (sSDistances_l2 l) fuel (1, d) = some g ∧ Mid (RB l) a 7 0 g.2 := by
 refine while_inv (fun y : Int × List Int => ∃ i : Nat, y.1 = (i : Int) ∧ 1 ≤ i ∧ i ≤ 7 ∧ Mid (RB l) a (i : Nat) 0 y.2) (fun y => 7 - y.1.toNat) _ ?_ fuel (1, d) ⟨1, rfl, by omega, by omega, h⟩ (by unfold fuel; simp)
 rintro ⟨v, d⟩ ⟨i, rfl, hi0, hi, hM⟩
 dsimp only at hM ⊢
 by_cases h6 : i ≤ 6
 ·left
  have e1 : prims.cmp .leq (i : Int) 6 = true := by rw [pl_leq]; exact decide_eq_true (by omega)
  obtain ⟨g, hg, hM'⟩ := spec_l3 l hl hi0 h6 hM
  obtain ⟨g1, g2⟩ := g
  simp only [sSDistances_l2, e1, cond_true, hg, Option.bind_some]
  have e2 : prims.arith .add .i64 (i : Int) 1 = ((i + 1 : Nat) : Int) := pl_inc i 7 (by omega) (by decide)
  have hn := hM'.next (by omega)
  refine ⟨_, rfl, ⟨i + 1, e2, by omega, by omega, ?_⟩, ?_⟩
  ·rw [show (((i + 1 : Nat) : Int)) = (i : Int) + 1 by omega]
   exact hn
  ·dsimp only
   rw [e2]
   simp only [Int.toNat_natCast]
   omega
 ·right
  have hi6 : i = 7 := by omega
  subst hi6
  exact ⟨_, rfl, hM⟩
end
end
end Tp
end Go.Proofs.YtgfmmfpafcfjpaaGreat
namespace Go.Proofs.YtgfmmfpafcfjpaaGreat
namespace Tp
open Go.RowKit
set_option linter.unusedVariables false
set_option linter.unusedSimpArgs false
set_option linter.unusedSectionVars false
noncomputable section
def negs (d : List Int) : Nat := (List.range 6).countP (fun x => decide (gt d x < 0))
theorem negs_set {d : List Int} {x : Nat} (hl : d.length = 6) (hx : x < 6) (h : gt d x < 0) {v : Int} (hv : 0 ≤ v) : negs (d.set x v) + 1 = negs d := by
 have hxl : x < d.length := by omega
 unfold negs
 rw [show List.range 6 = [0, 1, 2, 3, 4, 5] from rfl]
 simp only [List.countP_cons, List.countP_nil, gt_set hxl]
 have hv' : ¬ v < 0 := by omega
 rcases (show x = 0 ∨ x = 1 ∨ x = 2 ∨ x = 3 ∨ x = 4 ∨ x = 5 by omega) with rfl | rfl | rfl | rfl | rfl | rfl <;> simp [h, hv'] <;> omega
structure Bfs (R : Nat → Nat → Bool) (a k : Nat) (d w : List Int) : Prop where
 len : d.length = 6
 h0 : 0 ≤ gt d a
 wk : ∀ (i : Nat) (y : Int), w[i]? = some y → ∃ n : Nat, y = (n : Int) ∧ n < 6 ∧ 0 ≤ gt d n
 mem : ∀ x : Nat, x < 6 → 0 ≤ gt d x → ∃ i : Nat, w[i]? = some (x : Int)
 snd : ∀ x, x < 6 → 0 ≤ gt d x → Rch R a x
 bd : ∀ x, x < 6 → gt d x ≤ (w.length : Int)
 cl : ∀ (i n x : Nat), i < k → w[i]? = some (n : Int) → x < 6 → R n x = true → 0 ≤ gt d x
 cnt : w.length + negs d = 6
theorem Bfs.set {R : Nat → Nat → Bool} {a k n x : Nat} {d w : List Int} (h : Bfs R a k d w) (hk : k ≤ w.length) (hn : n < 6) (h1 : 0 ≤ gt d n) (hx : x < 6) (h2 : gt d x < 0) (hr : R n x = true) : Bfs R a k (d.set x (gt d n + 1)) (w ++ [(x : Int)]) := by
 have hxl : x < d.length := by rw [h.len]; exact hx
 have g := gt_set hxl (gt d n + 1)
 have up : ∀ y, 0 ≤ gt d y → 0 ≤ gt (d.set x (gt d n + 1)) y := fun y hy => by rw [g]; split <;> omega
 refine ⟨by rw [List.length_set]; exact h.len, up a h.h0, fun i y hi => ?_, fun y hy h0 => ?_, fun y hy h0 => ?_, fun y hy => ?_, fun i m y hi hm hy hr' => ?_, ?_⟩
 ·by_cases hil : i < w.length
  ·rw [List.getElem?_append_left hil] at hi
   obtain ⟨m, h3, h4, h5⟩ := h.wk i y hi
   exact ⟨m, h3, h4, up m h5⟩
  ·rw [List.getElem?_append_right (by omega)] at hi
   cases hq : i - w.length with
   | succ q => rw [hq] at hi; simp at hi
   | zero =>
    rw [hq] at hi
    simp only [List.getElem?_cons_zero, Option.some.injEq] at hi
    exact ⟨x, hi.symm, hx, by rw [g, if_pos rfl]; omega⟩
 ·rw [g] at h0
  split at h0
  ·rename_i e
   subst e
   exact ⟨w.length, by simp⟩
  ·obtain ⟨i, hi⟩ := h.mem y hy h0
   exact ⟨i, by rw [List.getElem?_append_left (List.getElem?_eq_some_iff.1 hi).1]; exact hi⟩
 ·rw [g] at h0
  split at h0
  ·rename_i e
   subst e
   exact .step (h.snd n hn h1) hr hx
  ·exact h.snd y hy h0
 ·have := h.bd n hn
  rw [g]
  simp only [List.length_append, List.length_singleton]
  split
  ·omega
  ·have := h.bd y hy
   omega
 ·rw [List.getElem?_append_left (by omega)] at hm
  exact up y (h.cl i m y hi hm hy hr')
 ·have := negs_set h.len hx h2 (show 0 ≤ gt d n + 1 by omega)
  have := h.cnt
  simp only [List.length_append, List.length_singleton]
  omega
theorem p_Repeat : sCRepeat_int [(-1)] 6 = some [-1, -1, -1, -1, -1, -1] := by kernel_rfl
def places : Nat → List Int → List Int
 | _, [] => []
 | i, x :: d => if 0 ≤ x then (i : Int) :: places (i + 1) d else places (i + 1) d
theorem gath_places : ∀ (d : List Int) (i : Nat) (acc : List Int), gath (fun i x acc => if 0 ≤ x then acc ++ [(i : Int)] else acc) i d acc = acc ++ places i d
 | [], i, acc => by simp [gath, places]
 | x :: d, i, acc => by
  simp only [gath, places, gath_places d]
  split <;> simp
theorem places_len : ∀ (d : List Int) (i : Nat), (places i d).length ≤ d.length
 | [], i => by simp [places]
 | x :: d, i => by
  simp only [places]
  have := places_len d (i + 1)
  split <;> simp <;> omega
section
variable (l : List DAdvertisement) (hl : AdvOk l)
include hl
theorem impl_l2 {a k n : Nat} {d w : List Int} (h : Bfs (RB l) a k d w) (hkl : k < w.length) (hn : w[k]? = some (n : Int)) :
  ∃ g, whileO (sIDistances_l2 l k) fuel (0, d, w) = some g ∧ Bfs (RB l) a (k + 1) g.2.1 g.2.2 ∧ k + 1 ≤ g.2.2.length := by
 refine while_inv (fun y : Int × List Int × List Int => ∃ i : Nat, y.1 = (i : Int) ∧ i ≤ 6 ∧ Bfs (RB l) a k y.2.1 y.2.2 ∧ y.2.2[k]? = some (n : Int) ∧ (∀ x, x < i → RB l n x = true → 0 ≤ gt y.2.1 x)) (fun y => 6 - y.1.toNat) _ ?_ fuel (0, d, w) ⟨0, rfl, by omega, h, hn, fun x hx => by omega⟩ (by unfold fuel; simp)
 rintro ⟨v, d, w⟩ ⟨i, rfl, hi, hB, hnk, hdone⟩
 dsimp only at hB hnk hdone ⊢
 have hkl : k < w.length := (List.getElem?_eq_some_iff.1 hnk).1
 obtain ⟨n', hn1, hn6, hn0⟩ := hB.wk k _ hnk
 have hnn : n' = n := by omega
 subst hnn
 by_cases h6 : i < 6
 ·left
  have hil : i < d.length := by rw [hB.len]; exact h6
  have hnl : n' < d.length := by rw [hB.len]; exact hn6
  have e1 : prims.cmp .lss (i : Int) 6 = true := by rw [pl_lss]; exact decide_eq_true (by omega)
  simp only [sIDistances_l2, e1, cond_true, ridx_at eI hil, ridx_at eI hkl, ridx_at eI hnl, Option.bind_some, gt_at hil, gt_at hnl, hnk, pl_lss]
  by_cases h2 : gt d i < 0
  ·simp only [decide_eq_true h2, cond_true, p_impl_Bid l _ _ hl, Option.bind_some]
   cases hr : bidB l (n' : Int) (i : Int)
   ·refine ⟨_, rfl, ⟨i + 1, inc6 l hl h6, by omega, hB, hnk, fun x hx hr' => ?_⟩, ?_⟩
    ·by_cases hxi : x = i
     ·subst hxi
      have : RB l n' x = false := hr
      rw [this] at hr'
      cases hr'
     ·exact hdone x (by omega) hr'
    ·dsimp only
     rw [inc6 l hl h6]
     simp only [Int.toNat_natCast]
     omega
   ·have hw6 : w.length ≤ 6 := by have := hB.cnt; omega
    have hb := hB.bd n' hn6
    have e2 : prims.arith .add .i64 (gt d n') 1 = gt d n' + 1 := pl_add _ _ (by omega) (by omega)
    have hf : prims.fits (prims.len (List.map eI w)) (prims.rlen (prims.opn (List.map eI [(i : Int)]))) 8 = true := by
     rw [pl_len, pl_rlen, pl_fits]
     exact decide_eq_true (by simp; omega)
    simp only [cond_true, hf, e2]
    refine ⟨_, rfl, ⟨i + 1, inc6 l hl h6, by omega, hB.set (by omega) hn6 hn0 h6 h2 hr, ?_, fun x hx hr' => ?_⟩, ?_⟩
    ·dsimp only
     rw [List.getElem?_append_left hkl]
     exact hnk
    ·dsimp only
     rw [gt_set hil]
     split
     ·omega
     ·exact hdone x (by omega) hr'
    ·dsimp only
     rw [inc6 l hl h6]
     simp only [Int.toNat_natCast]
     omega
  ·simp only [decide_eq_false h2, cond_false]
   refine ⟨_, rfl, ⟨i + 1, inc6 l hl h6, by omega, hB, hnk, fun x hx hr' => ?_⟩, ?_⟩
   ·by_cases hxi : x = i
    ·subst hxi; dsimp only; omega
    ·exact hdone x (by omega) hr'
   ·dsimp only
    rw [inc6 l hl h6]
    simp only [Int.toNat_natCast]
    omega
 ·right
  have hi6 : i = 6 := by omega
  subst hi6
  refine ⟨_, rfl, ⟨hB.len, hB.h0, hB.wk, hB.mem, hB.snd, hB.bd, fun j m x hj hm hx hr => ?_, hB.cnt⟩, hkl⟩
  by_cases hjk : j = k
  ·subst hjk
   have : (m : Int) = (n' : Int) := by
    have h3 : w[j]? = some (m : Int) := hm
    rw [hnk] at h3
    injection h3 with h3
    exact h3.symm
   have hmn : m = n' := by omega
   subst hmn
   exact hdone x hx hr
  ·exact hB.cl j m x (by omega) hm hx hr
theorem impl_l1 {a : Nat} (ha : a < 6) {d w : List Int} (h : Bfs (RB l) a 0 d w) : ∃ g, whileO (sIDistances_l1 l) fuel (0, d, w) = some g ∧ Dst (RB l) True a g.2.1 := by
 refine while_inv (fun y : Int × List Int × List Int => ∃ k : Nat, y.1 = (k : Int) ∧ k ≤ y.2.2.length ∧ Bfs (RB l) a k y.2.1 y.2.2) (fun y => 7 - y.1.toNat) _ ?_ fuel (0, d, w) ⟨0, rfl, by omega, h⟩ (by unfold fuel; simp)
 rintro ⟨v, d, w⟩ ⟨k, rfl, hk, hB⟩
 dsimp only at hk hB ⊢
 have hw6 : w.length ≤ 6 := by have := hB.cnt; omega
 by_cases hkl : k < w.length
 ·left
  obtain ⟨n, hn, hn6, _⟩ := hB.wk k _ (List.getElem?_eq_getElem hkl)
  obtain ⟨g, hg, hB', hlen⟩ := impl_l2 l hl hB hkl (by rw [← hn]; exact List.getElem?_eq_getElem hkl)
  obtain ⟨g1, g2, g3⟩ := g
  simp only [sIDistances_l1, lt_len eI hkl, cond_true, hg, Option.bind_some]
  have e2 : prims.arith .add .i64 (k : Int) 1 = ((k + 1 : Nat) : Int) := pl_inc k 7 (by omega) (by decide)
  refine ⟨_, rfl, ⟨k + 1, e2, hlen, hB'⟩, ?_⟩
  dsimp only
  rw [e2]
  simp only [Int.toNat_natCast]
  omega
 ·right
  have hke : k = w.length := by omega
  subst hke
  refine ⟨((w.length : Int), d, w), ?_, hB.len, fun x hx => ⟨fun h0 => ⟨trivial, hB.snd x hx h0⟩, fun hr => rch_of ha hB.h0 (fun b y hb hy h1 h2 => ?_) hr.2⟩⟩
  ·simp only [sIDistances_l1, lt_end, cond_false]
  ·obtain ⟨i, hi⟩ := hB.mem b hb h1
   exact hB.cl i b y (List.getElem?_eq_some_iff.1 hi).1 hi hy h2
def onA (l : List DAdvertisement) (a : Int) : Prop := (0 ≤ a ∧ a ≤ 5) ∧ 0 ≤ idxI (fun x : DAdvertisement => decide (x.origin = a)) l
def ini (l : List DAdvertisement) (a : Int) (i : Nat) : Int := if (i : Int) = a ∧ 0 ≤ idxI (fun x : DAdvertisement => decide (x.origin = a)) l then 0 else -1
theorem spec_l1 (a : Int) : whileO (sSDistances_l1 l a) fuel (0, []) = some (6, (List.range 6).map (ini l a)) := by
 obtain ⟨g, hg, hq⟩ := while_inv (step := sSDistances_l1 l a) (fun y : Int × List Int => ∃ i : Nat, y.1 = (i : Int) ∧ i ≤ 6 ∧ y.2 = (List.range i).map (ini l a)) (fun y => 6 - y.1.toNat) (fun g => g = (6, (List.range 6).map (ini l a))) (by
  rintro ⟨v, d⟩ ⟨i, rfl, hi, rfl⟩
  dsimp only
  by_cases h6 : i < 6
  ·left
   have e1 : prims.cmp .lss (i : Int) 6 = true := by rw [pl_lss]; exact decide_eq_true (by omega)
   have hf : ∀ z : Int, prims.fits (prims.len (List.map eI ((List.range i).map (ini l a)))) (prims.rlen (prims.opn (List.map eI [z]))) 8 = true := fun z => by
    rw [pl_len, pl_rlen, pl_fits]
    exact decide_eq_true (by simp; omega)
   refine ⟨(prims.arith .add .i64 (i : Int) 1, (List.range i).map (ini l a) ++ [ini l a i]), ?_, ⟨i + 1, inc6 l hl h6, by omega, by rw [List.range_succ, List.map_append]; rfl⟩, ?_⟩
   ·simp only [sSDistances_l1, e1, cond_true, pl_eql, p_spec_FindAdvertisement l a hl.1, Option.bind_some, pl_geq, hf]
    unfold ini
    by_cases h1 : (i : Int) = a
    ·by_cases h2 : 0 ≤ idxI (fun x : DAdvertisement => decide (x.origin = a)) l
     ·rw [decide_eq_true h1, decide_eq_true h2, if_pos ⟨h1, h2⟩]; rfl
     ·rw [decide_eq_true h1, decide_eq_false h2, if_neg (fun h => h2 h.2)]; rfl
    ·rw [decide_eq_false h1, if_neg (fun h => h1 h.1)]; rfl
   ·dsimp only
    rw [inc6 l hl h6]
    simp only [Int.toNat_natCast]
    omega
  ·right
   have hi6 : i = 6 := by omega
   subst hi6
   exact ⟨_, rfl, rfl⟩) fuel (0, []) ⟨0, rfl, by omega, rfl⟩ (by unfold fuel; simp)
 rw [hg, hq]
theorem gt_ini (a : Int) {x : Nat} (hx : x < 6) : gt ((List.range 6).map (ini l a)) x = ini l a x := by
 unfold gt
 rw [List.getD_eq_getElem?_getD, List.getElem?_map, List.getElem?_range hx]
 rfl
theorem spec_dead {d : List Int} (hd : d.length = 6) (hn : ∀ x, x < 6 → gt d x < 0) : ∃ g, whileO (sSDistances_l2 l) fuel (1, d) = some g ∧ g.2 = d := by
 have h4 : ∀ (s b : Nat), 1 ≤ s → s ≤ 6 → b < 6 → whileO (sSDistances_l4 l s b) fuel (0, d) = some (.inl (0, d, b, gt d b)) := by
  intro s b hs hs6 hb
  rw [show fuel = (2 ^ 62 - 1) + 1 from rfl]
  refine whileO_inr ?_
  have hsub : prims.arith .sub .i64 (s : Int) 1 = (s : Int) - 1 := pl_sub _ _ (by omega) (by omega)
  have hbl : b < d.length := by omega
  have := hn b hb
  have h1 : ¬ gt d b = (s : Int) - 1 := by omega
  simp only [sSDistances_l4, show prims.cmp .lss 0 6 = true from rfl, cond_true, ridx_at eI hbl, Option.bind_some, gt_at hbl, pl_eql, hsub, decide_eq_false h1, cond_false]
 have h3 : ∀ s : Nat, 1 ≤ s → s ≤ 6 → ∃ g, whileO (sSDistances_l3 l s) fuel (0, d) = some g ∧ g.2 = d := by
  intro s hs hs6
  refine while_inv (fun y : Int × List Int => ∃ i : Nat, y.1 = (i : Int) ∧ i ≤ 6 ∧ y.2 = d) (fun y => 6 - y.1.toNat) _ ?_ fuel (0, d) ⟨0, rfl, by omega, rfl⟩ (by unfold fuel; simp)
  rintro ⟨v, d'⟩ ⟨i, rfl, hi, hdd⟩
  dsimp only at hdd
  subst hdd
  dsimp only
  by_cases h6 : i < 6
  ·left
   have e1 : prims.cmp .lss (i : Int) 6 = true := by rw [pl_lss]; exact decide_eq_true (by omega)
   simp only [sSDistances_l3, e1, cond_true, h4 s i hs hs6 h6, Option.bind_some]
   refine ⟨_, rfl, ⟨i + 1, inc6 l hl h6, by omega, rfl⟩, ?_⟩
   dsimp only
   rw [inc6 l hl h6]
   simp only [Int.toNat_natCast]
   omega
  ·right
   have hi6 : i = 6 := by omega
   subst hi6
   exact ⟨_, rfl, rfl⟩
 refine while_inv (fun y : Int × List Int => ∃ i : Nat, y.1 = (i : Int) ∧ 1 ≤ i ∧ i ≤ 7 ∧ y.2 = d) (fun y => 7 - y.1.toNat) _ ?_ fuel (1, d) ⟨1, rfl, by omega, by omega, rfl⟩ (by unfold fuel; simp)
 rintro ⟨v, d'⟩ ⟨i, rfl, hi0, hi, hdd⟩
 dsimp only at hdd
 subst hdd
 dsimp only
 by_cases h6 : i ≤ 6
 ·left
  have e1 : prims.cmp .leq (i : Int) 6 = true := by rw [pl_leq]; exact decide_eq_true (by omega)
  obtain ⟨⟨g1, g2⟩, hg, hge⟩ := h3 i hi0 h6
  simp only [sSDistances_l2, e1, cond_true, hg, Option.bind_some]
  have e2 : prims.arith .add .i64 (i : Int) 1 = ((i + 1 : Nat) : Int) := pl_inc i 7 (by omega) (by decide)
  refine ⟨_, rfl, ⟨i + 1, e2, by omega, by omega, hge⟩, ?_⟩
  dsimp only
  rw [e2]
  simp only [Int.toNat_natCast]
  omega
 ·right
  have hi6 : i = 7 := by omega
  subst hi6
  exact ⟨_, rfl, rfl⟩
theorem spec_Distances (a : Int) : ∃ d, sSDistances l a = some d ∧ Dst (RB l) (onA l a) a.toNat d := by
 unfold sSDistances
 rw [spec_l1 l hl a]
 simp only [Option.bind_some]
 by_cases h : onA l a
 ·obtain ⟨⟨h1, h2⟩, h3⟩ := h
  have ha : a.toNat < 6 := by omega
  have hea : ((a.toNat : Nat) : Int) = a := by omega
  have hini : ∀ x, x < 6 → ini l a x = if x = a.toNat then 0 else -1 := by
   intro x hx
   unfold ini
   by_cases hxa : x = a.toNat
   ·rw [if_pos hxa, if_pos ⟨by omega, h3⟩]
   ·rw [if_neg hxa, if_neg (fun h => hxa (by omega))]
  have hM : Mid (RB l) a.toNat 1 0 ((List.range 6).map (ini l a)) := by
   refine ⟨by simp, by rw [gt_ini l hl a ha, hini _ ha, if_pos rfl], fun x hx => ?_, fun x hx h0 => ?_, fun x k hx hk he => ?_, fun b x hb hx h4 h5 => by omega, fun b x hb => by omega⟩
   ·rw [gt_ini l hl a hx, hini x hx]; split <;> omega
   ·rw [gt_ini l hl a hx, hini x hx] at h0
    split at h0
    ·rename_i e; rw [e]; exact .start
    ·omega
   ·rw [gt_ini l hl a hx, hini x hx] at he
    split at he <;> omega
  obtain ⟨⟨g1, g2⟩, hg, hM'⟩ := spec_l2 l hl hM
  rw [hg]
  refine ⟨g2, rfl, ?_⟩
  have := hM'.dst ha
  exact ⟨this.1, fun x hx => (this.2 x hx).trans ⟨fun h => ⟨⟨⟨h1, h2⟩, h3⟩, h.2⟩, fun h => ⟨trivial, h.2⟩⟩⟩
 ·have hneg : ∀ x, x < 6 → gt ((List.range 6).map (ini l a)) x < 0 := by
   intro x hx
   rw [gt_ini l hl a hx]
   unfold ini
   rw [if_neg (fun hh => h ⟨by omega, hh.2⟩)]
   decide
  obtain ⟨⟨g1, g2⟩, hg, hge⟩ := spec_dead l hl (by simp) hneg
  dsimp only at hge
  subst hge
  rw [hg]
  exact ⟨_, rfl, by simp, fun x hx => ⟨fun h0 => absurd h0 (Int.not_le.2 (hneg x hx)), fun hh => absurd hh.1 h⟩⟩
theorem impl_Distances (a : Int) : ∃ d, sIDistances l a = some d ∧ Dst (RB l) (onA l a) a.toNat d := by
 unfold sIDistances
 rw [p_Repeat, p_InRange]
 simp only [Option.bind_some, pl_bnot]
 have hneg : ∀ x, x < 6 → gt [-1, -1, -1, -1, -1, -1] x = -1 := by
  intro x hx
  rcases (show x = 0 ∨ x = 1 ∨ x = 2 ∨ x = 3 ∨ x = 4 ∨ x = 5 by omega) with rfl | rfl | rfl | rfl | rfl | rfl <;> rfl
 by_cases h1 : 0 ≤ a ∧ a ≤ 5
 ·simp only [decide_eq_true h1, Bool.not_true, cond_false, p_impl_FindAdvertisement l a hl.1, Option.bind_some, pl_lss]
  by_cases h3 : idxI (fun x : DAdvertisement => decide (x.origin = a)) l < 0
  ·simp only [decide_eq_true h3, cond_true]
   refine ⟨_, rfl, rfl, fun x hx => ⟨fun h0 => by rw [hneg x hx] at h0; omega, fun hh => ?_⟩⟩
   have := hh.1.2
   omega
  ·simp only [decide_eq_false h3, cond_false]
   have ha : a.toNat < 6 := by omega
   have hea : a = ((a.toNat : Nat) : Int) := by omega
   have hr : prims.ridx 0 (prims.len (List.map eI [-1, -1, -1, -1, -1, -1])) a = some a.toNat := by
    rw [hea]
    simp only [Int.toNat_natCast]
    exact ridx_at eI (l := [-1, -1, -1, -1, -1, -1]) ha
   have hg1 : ([-1, -1, -1, -1, -1, -1] : List Int)[a.toNat]? = some (-1) := by
    rw [gt_at (d := [-1, -1, -1, -1, -1, -1]) ha, hneg _ ha]
   rw [hr]
   simp only [Option.bind_some, hg1]
   have g := gt_set (d := [-1, -1, -1, -1, -1, -1]) ha 0
   have hB : Bfs (RB l) a.toNat 0 (([-1, -1, -1, -1, -1, -1] : List Int).set a.toNat 0) [a] := by
    refine ⟨by simp, by rw [g, if_pos rfl]; omega, fun i y hi => ?_, fun x hx h0 => ?_, fun x hx h0 => ?_, fun x hx => ?_, fun i n x hi => by omega, ?_⟩
    ·cases i with
     | succ i => simp at hi
     | zero =>
      simp only [List.getElem?_cons_zero, Option.some.injEq] at hi
      exact ⟨a.toNat, by omega, ha, by rw [g, if_pos rfl]; omega⟩
    ·rw [g] at h0
     split at h0
     ·rename_i e; subst e; exact ⟨0, by simp; omega⟩
     ·rw [hneg x hx] at h0; omega
    ·rw [g] at h0
     split at h0
     ·rename_i e; subst e; exact .start
     ·rw [hneg x hx] at h0; omega
    ·rw [g]
     split
     ·simp
     ·rw [hneg x hx]; simp
    ·have h4 := negs_set (d := [-1, -1, -1, -1, -1, -1]) rfl ha (by rw [hneg _ ha]; omega) (Int.le_refl 0)
     have h5 : negs [-1, -1, -1, -1, -1, -1] = 6 := by kernel_rfl
     simp only [List.length_singleton]
     omega
   obtain ⟨⟨g1, g2, g3⟩, hg, hD⟩ := impl_l1 l hl ha hB
   rw [hg]
   exact ⟨g2, rfl, hD.1, fun x hx => (hD.2 x hx).trans ⟨fun h => ⟨⟨h1, by omega⟩, h.2⟩, fun h => ⟨trivial, h.2⟩⟩⟩
 ·simp only [decide_eq_false h1, Bool.not_false, cond_true]
  refine ⟨_, rfl, rfl, fun x hx => ⟨fun h0 => by rw [hneg x hx] at h0; omega, fun hh => absurd hh.1.1 h1⟩⟩
theorem p_spec_Reach {a : Int} {d : List Int} (h : sSDistances l a = some d) (hd : d.length = 6) : sSReachableFrom l a = some (places 0 d) := by
 unfold sSReachableFrom
 rw [h]
 simp only [Option.bind_some]
 rw [while_gath d (fun i x acc => if 0 ≤ x then acc ++ [(i : Int)] else acc) (fun s => ((d.length : Int), s)) (fun i acc => acc.length ≤ i) [] (by omega) (Nat.le_refl _) (fun i acc hi hI => ?_) (fun acc hI => by simp only [sSReachableFrom_l1, lt_end, cond_false])]
 ·simp [gath_places]
 ·have hf : prims.fits (prims.len (List.map eI acc)) (prims.rlen (prims.opn (List.map eI [(i : Int)]))) 8 = true := by
   rw [pl_len, pl_rlen, pl_fits]
   exact decide_eq_true (by simp; omega)
  constructor
  ·simp only [sSReachableFrom_l1, lt_len eI hi, cond_true, ridx_at eI hi, Option.bind_some, List.getElem?_eq_getElem hi, pl_geq, hf]
   by_cases h0 : 0 ≤ d[i]
   ·rw [decide_eq_true h0, if_pos h0]; rfl
   ·rw [decide_eq_false h0, if_neg h0]; rfl
  ·split <;> first | (simp; omega) | omega
end
end
end Tp
end Go.Proofs.YtgfmmfpafcfjpaaGreat
