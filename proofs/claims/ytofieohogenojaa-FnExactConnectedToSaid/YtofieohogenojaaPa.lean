/- What the plain functions compute, first part: topologies. -/
import Derived.Test.YtofieohogenojaaPl
import Derived.Test.YtofieohogenojaaSf
namespace Go.Proofs.Ytofieohogenojaa
open Go.RowKit
set_option linter.unusedVariables false
set_option linter.unusedSimpArgs false
attribute [local simp] pl_lss pl_leq pl_gtr pl_geq pl_eql pl_neq pl_int pl_len pl_rlen pl_fits pl_bnot pl_beq nthI_nat pl_ridx pl_rlen1 pl_len0
noncomputable section
theorem p_spec_l19Has (l : List Int) (n : Int) (h : l.length < 2 ^ 61) : s_spec_l19Has l n = some (l.any fun x => decide (x = n)) := by
  unfold s_spec_l19Has
  rw [while_scan l (fun _ x => decide (x = n)) (fun _ _ => true) .inr (.inl (l.length : Int)) h (fun i hi => by simp [s_spec_l19Has_l1, hi]) (by simp [s_spec_l19Has_l1]), scan_const]
  cases l.any fun x => decide (x = n) <;> rfl
theorem p_Index (l : List Int) (n : Int) (h : l.length < 2 ^ 61) : s_slices_Index_int l n = some (idxI (fun x => decide (n = x)) l) := by
  unfold s_slices_Index_int
  rw [while_scan l (fun _ x => decide (n = x)) (fun i _ => (i : Int)) .inr (.inl (l.length : Int)) h (fun i hi => by simp [s_slices_Index_int_l1, hi]) (by simp [s_slices_Index_int_l1])]
  unfold idxI
  cases scan (fun _ x => decide (n = x)) (fun i _ => (i : Int)) 0 l <;> rfl
theorem p_Contains (l : List Int) (n : Int) (h : l.length < 2 ^ 61) : s_slices_Contains_int l n = some (l.any fun x => decide (x = n)) := by
  unfold s_slices_Contains_int
  rw [p_Index l n h]
  simp only [Option.bind_some, pl_geq, idxI_nonneg]
  congr 2
  funext x
  exact decide_eq_decide.2 eq_comm
theorem p_l1In (n a b : Int) : s_spec_l1In n a b = some (decide (a ≤ n ∧ n ≤ b)) := by
  unfold s_spec_l1In
  by_cases h : a ≤ n <;> simp [h]
theorem p_InRange (n a b : Int) : s_impl_InRange n a b = some (decide (a ≤ n ∧ n ≤ b)) := by
  unfold s_impl_InRange
  by_cases h : a ≤ n <;> simp [h]
def inSet (set a : Int) : Bool := decide (0 ≤ a ∧ a ≤ 30) && (decide (0 ≤ set) && prims.cmp .eql (prims.arith .and .i64 (prims.arith .shr .i64 set a) 1) 1)
theorem p_l19In (set a : Int) : s_spec_l19In set a = some (inSet set a) := by
  unfold s_spec_l19In inSet
  rw [p_l1In]
  by_cases h : 0 ≤ a ∧ a ≤ 30
  · by_cases h' : 0 ≤ set <;> simp [h, h']
  · simp [h]
theorem p_inSet (set a : Int) : s_impl_inSet set a = some (inSet set a) := by
  unfold s_impl_inSet inSet
  by_cases h' : 0 ≤ set
  · rw [p_InRange]
    by_cases h : 0 ≤ a ∧ a ≤ 30 <;> simp [h, h']
  · simp [h']
/-! links that are left -/
def keepL (dead : List Int) (down : Int) (i : Nat) (x : DLink) : Bool := !(dead.any fun y => decide (y = (i : Int))) && (!inSet down x.a && !inSet down x.b)
def leftL (dead : List Int) (down : Int) (l : List DLink) : List DLink := gath (fun i x acc => if keepL dead down i x then acc ++ [x] else acc) 0 l []
theorem p_spec_RemoveFailed (t : DTopology) (dead : List Int) (down : Int) (h : t.links.length ≤ 2 ^ 40) (hd : dead.length < 2 ^ 61) : s_spec_RemoveFailed t dead down = some ⟨t.size, leftL dead down t.links⟩ := by
  unfold s_spec_RemoveFailed
  rw [while_gath t.links (fun i x acc => if keepL dead down i x then acc ++ [x] else acc) (fun s => ((t.links.length : Int), s)) (fun i acc => acc.length ≤ i) [] (by omega) (Nat.le_refl _) (fun i acc hi hI => ?_) (fun acc hI => by simp [s_spec_RemoveFailed_l1])]
  · rfl
  · have hf : (acc.length + 1) * 16 ≤ 70368744177664 := by omega
    constructor
    · cases h1 : (dead.any fun y => decide (y = (i : Int))) <;> cases h2 : inSet down t.links[i].a <;> cases h3 : inSet down t.links[i].b <;> simp [s_spec_RemoveFailed_l1, keepL, hi, p_spec_l19Has _ _ hd, p_l19In, h1, h2, h3, hf]
    · split <;> first | (simp; omega) | omega
theorem p_impl_RemoveFailed (t : DTopology) (dead : List Int) (down : Int) (h : t.links.length ≤ 2 ^ 40) (hd : dead.length < 2 ^ 61) : s_impl_RemoveFailed t dead down = some ⟨t.size, leftL dead down t.links⟩ := by
  unfold s_impl_RemoveFailed
  rw [while_gath t.links (fun i x acc => if keepL dead down i x then acc ++ [x] else acc) (fun s => ((t.links.length : Int), s)) (fun i acc => acc.length ≤ i) [] (by omega) (Nat.le_refl _) (fun i acc hi hI => ?_) (fun acc hI => by simp [s_impl_RemoveFailed_l1])]
  · rfl
  · have hf : (acc.length + 1) * 16 ≤ 70368744177664 := by omega
    constructor
    · cases h1 : (dead.any fun y => decide (y = (i : Int))) <;> cases h2 : inSet down t.links[i].a <;> cases h3 : inSet down t.links[i].b <;> simp [s_impl_RemoveFailed_l1, keepL, hi, p_Contains _ _ hd, p_inSet, h1, h2, h3, hf]
    · split <;> first | (simp; omega) | omega
theorem leftL_len (dead : List Int) (down : Int) (l : List DLink) : (leftL dead down l).length ≤ l.length := by
  have : ∀ (l : List DLink) i acc, (gath (fun i x acc => if keepL dead down i x then acc ++ [x] else acc) i l acc).length ≤ acc.length + l.length := by
    intro l
    induction l with
    | nil => intro i acc; simp [gath]
    | cons x l ih =>
      intro i acc
      simp only [gath]
      refine Nat.le_trans (ih _ _) ?_
      split <;> simp <;> omega
  have h := this l 0 []
  simpa [leftL] using h
/-! links -/
def linkP (a b : Int) (x : DLink) : Bool := (decide (x.a = a) && decide (x.b = b)) || (decide (x.a = b) && decide (x.b = a))
theorem p_spec_LinkIndex (t : DTopology) (a b : Int) (h : t.links.length ≤ 2 ^ 40) : s_spec_LinkIndex t a b = some (idxI (linkP a b) t.links) := by
  unfold s_spec_LinkIndex
  rw [while_scan t.links (fun _ x => linkP a b x) (fun i _ => (i : Int)) .inr (.inl (t.links.length : Int)) (by omega) (fun i hi => by
    simp only [s_spec_LinkIndex_l1, linkP, lt_len _ hi, nthI_at hi, cond_true, Option.bind_some, pl_eql]; cases decide (t.links[i].a = a) <;> cases decide (t.links[i].b = b) <;> cases decide (t.links[i].a = b) <;> cases decide (t.links[i].b = a) <;> rfl) (by simp [s_spec_LinkIndex_l1])]
  unfold idxI
  cases scan (fun _ x => linkP a b x) (fun i _ => (i : Int)) 0 t.links <;> rfl
theorem p_impl_LinkIndex_1 (x : DLink) (a b : Int) : s_impl_LinkIndex_1 x a b = some (linkP a b x) := by
  simp only [s_impl_LinkIndex_1, linkP, pl_eql]
  cases decide (x.a = a) <;> cases decide (x.b = b) <;> cases decide (x.a = b) <;> cases decide (x.b = a) <;> rfl
theorem p_impl_LinkIndex (t : DTopology) (a b : Int) (h : t.links.length ≤ 2 ^ 40) : s_impl_LinkIndex t a b = some (idxI (linkP a b) t.links) := by
  unfold s_impl_LinkIndex s_slices_IndexFunc_Link__LinkIndex_1
  rw [while_scan t.links (fun _ x => linkP a b x) (fun i _ => (i : Int)) .inr (.inl (t.links.length : Int)) (by omega) (fun i hi => by
    simp [s_slices_IndexFunc_Link__LinkIndex_1_l1, hi, p_impl_LinkIndex_1]) (by simp [s_slices_IndexFunc_Link__LinkIndex_1_l1])]
  unfold idxI
  cases scan (fun _ x => linkP a b x) (fun i _ => (i : Int)) 0 t.links <;> rfl
def nbrs (t : DTopology) (a : Int) : List Int := gath (fun i _ acc => if t.links.any (linkP a (i : Int)) then acc ++ [(i : Int)] else acc) 0 (List.range (max 0 (min t.size 6)).toNat) []
theorem range_get {n i x : Nat} (h : (List.range n)[i]? = some x) : x = i := by
  rw [List.getElem?_eq_some_iff] at h
  obtain ⟨h1, h2⟩ := h
  simpa using h2.symm
theorem p_spec_NeighborsOf (t : DTopology) (a : Int) (h : t.links.length ≤ 2 ^ 40) : s_spec_NeighborsOf t a = some (nbrs t a) := by
  unfold s_spec_NeighborsOf
  have hn : (max 0 (min t.size 6)).toNat ≤ 6 := by omega
  rw [while_gath (List.range (max 0 (min t.size 6)).toNat) (fun i _ acc => if t.links.any (linkP a (i : Int)) then acc ++ [(i : Int)] else acc) (fun s => if 6 < t.size then .inl (((max 0 (min t.size 6)).toNat : Int), s) else if (6 : Int) = t.size then .inr (((max 0 (min t.size 6)).toNat : Int), s) else .inr (((max 0 (min t.size 6)).toNat : Int), s)) (fun i acc => acc.length ≤ i) [] (by simp; omega) (Nat.le_refl _) (fun i acc hi hI => ?_) (fun acc hI => ?_)]
  · by_cases h1 : 6 < t.size
    · simp [h1, nbrs]
    · by_cases h2 : (6 : Int) = t.size <;> simp [h1, h2, nbrs]
  · simp only [List.length_range] at hi
    have hf : (acc.length + 1) * 8 ≤ 70368744177664 := by omega
    have h1 : (i : Int) < t.size := by omega
    have h2 : (i : Int) < 6 := by omega
    have hx := idxI_nonneg (linkP a (i : Int)) t.links
    constructor
    · simp only [s_spec_NeighborsOf_l1, pl_lss, decide_eq_true h1, decide_eq_true h2, cond_true, p_spec_LinkIndex t a _ h, Option.bind_some, pl_geq, hx]
      cases t.links.any (linkP a (i : Int)) <;> simp [hf]
    · split <;> first | (simp; omega) | omega
  · simp only [List.length_range, s_spec_NeighborsOf_l1, pl_lss]
    by_cases h1 : 6 < t.size
    · have e1 : (((max 0 (min t.size 6)).toNat : Nat) : Int) = 6 := by omega
      rw [e1]
      simp [h1]
    · have e1 : ¬ (((max 0 (min t.size 6)).toNat : Nat) : Int) < t.size := by omega
      simp only [decide_eq_false e1, cond_false, h1, if_false]
      split <;> rfl
theorem p_impl_NeighborsOf (t : DTopology) (a : Int) (h : t.links.length ≤ 2 ^ 40) : s_impl_NeighborsOf t a = some (nbrs t a) := by
  unfold s_impl_NeighborsOf
  have hn : (max 0 (min t.size 6)).toNat ≤ 6 := by omega
  have hm : prims.max 0 (prims.min t.size 6) = (((max 0 (min t.size 6)).toNat : Nat) : Int) := by
    rw [pl_max, pl_min]
    split <;> split <;> omega
  rw [while_gath (List.range (max 0 (min t.size 6)).toNat) (fun i _ acc => if t.links.any (linkP a (i : Int)) then acc ++ [(i : Int)] else acc) (fun s => (((max 0 (min t.size 6)).toNat : Int), s)) (fun i acc => acc.length ≤ i) [] (by simp; omega) (Nat.le_refl _) (fun i acc hi hI => ?_) (fun acc hI => ?_)]
  · rfl
  · simp only [List.length_range] at hi
    have hf : (acc.length + 1) * 8 ≤ 70368744177664 := by omega
    have h1 : (i : Int) < (((max 0 (min t.size 6)).toNat : Nat) : Int) := by omega
    have hx := idxI_nonneg (linkP a (i : Int)) t.links
    constructor
    · simp only [s_impl_NeighborsOf_l1, hm, pl_lss, decide_eq_true h1, cond_true, p_impl_LinkIndex t a _ h, Option.bind_some, pl_geq, hx]
      cases t.links.any (linkP a (i : Int)) <;> simp [hf]
    · split <;> first | (simp; omega) | omega
  · simp [s_impl_NeighborsOf_l1, hm]
end
end Go.Proofs.Ytofieohogenojaa
