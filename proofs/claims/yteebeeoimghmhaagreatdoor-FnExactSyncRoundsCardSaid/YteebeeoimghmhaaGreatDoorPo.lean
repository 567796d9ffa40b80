import Derived.Test.YteebeeoimghmhaaGreatDoorTx
import Derived.Test.YteebeeoimghmhaaGreatDoorSd
import Derived.Test.YteebeeoimghmhaaGreatDoorPl
import Derived.Test.YteebeeoimghmhaaGreatDoorFl
import Derived.Test.YteebeeoimghmhaaGreatDoorFh
namespace Go.Proofs.YteebeeoimghmhaaGreatDoor
open Go.RowKit
set_option linter.unusedVariables false
set_option linter.unusedSimpArgs false
theorem p_Itoa (n : Int) (h : I64 n) : s_strconv_Itoa n = some (bs (Go.Lib.itoa n)) := by
 unfold s_strconv_Itoa
 rw [if_pos ⟨h.1, h.2⟩]
 rfl
theorem p_impl_FormatInt (n : Int) (h : I64 n) : sIFormatInt n = some (bs (Go.Lib.itoa n)) := by
 unfold sIFormatInt
 rw [p_Itoa n h]
 rfl
theorem tmod_ten (n : Int) : (0 ≤ n ∧ n.tmod 10 = ((n.natAbs % 10 : Nat) : Int) ∧ n.tdiv 10 = ((n.natAbs / 10 : Nat) : Int)) ∨ (n < 0 ∧ n.tmod 10 = -((n.natAbs % 10 : Nat) : Int) ∧ n.tdiv 10 = -((n.natAbs / 10 : Nat) : Int)) := by
 rcases Int.le_total 0 n with h | h
 ·left
  obtain ⟨m, rfl⟩ := Int.eq_ofNat_of_zero_le h
  exact ⟨h, rfl, rfl⟩
 ·by_cases h0 : n = 0
  ·subst h0; left; exact ⟨Int.le_refl _, rfl, rfl⟩
  ·right
   obtain ⟨m, hm⟩ := Int.eq_ofNat_of_zero_le (show 0 ≤ -n by omega)
   have hn : n = -(m : Int) := by omega
   subst hn
   refine ⟨by omega, ?_, ?_⟩
   ·rw [Int.neg_tmod, Int.natAbs_neg]; rfl
   ·rw [Int.neg_tdiv, Int.natAbs_neg]; rfl
theorem byW_digit (k : Nat) (h : k < 10) : prims.byW (48 + (k : Int)) = UInt8.ofNat (48 + k) := by
 show UInt8.ofNat (IntKind.u8.wrap (48 + (k : Int))).toNat = _
 have e : IntKind.u8.wrap (48 + (k : Int)) = (48 + (k : Int)) % 256 := by simp [IntKind.wrap, IntKind.signed, IntKind.bits]
 rw [e]
 congr 1
 omega
theorem p_digits (n : Int) (h : I64 n) : whileO sSFormatInt_l1 fuel (ByteArray.mk (Array.mk []), n) = some (bs (dg0 n.natAbs), 0) := by
 have hlen : ∀ u : Nat, u < 10 ^ 19 → (dg0 u).length ≤ 19 := fun u hu => by
  unfold dg0
  split
  ·simp
  ·rw [decDigits_len]; exact nDigits_le 19 u (by omega) hu
 have hn := hlen n.natAbs (by unfold I64 at h; omega)
 have H := while_meas (step := sSFormatInt_l1) (fun x => (bs (dg0 x.2.natAbs ++ bl x.1), (0 : Int))) (fun x => (dg0 x.2.natAbs).length) (fun x => I64 x.2 ∧ x.1.size + (dg0 x.2.natAbs).length ≤ 40) (fun x hI => by
  obtain ⟨v2, v3⟩ := x
  obtain ⟨hI1, hsz⟩ := hI
  have hl := hI1.1
  have hu := hI1.2
  simp only at hl hu hsz
  by_cases h0 : v3 = 0
  ·right
   subst h0
   simp only [sSFormatInt_l1, pl_neq, decide_true, Bool.not_true, cond_false]
   show some (Sum.inr (v2, 0)) = some (Sum.inr (bs (dg0 0 ++ bl v2), 0))
   rw [show dg0 0 = [] from rfl, List.nil_append, bs_bl]
  ·left
   have hu0 : v3.natAbs ≠ 0 := by omega
   have hst := dg0_step v3.natAbs hu0
   have hlst : (dg0 v3.natAbs).length = (dg0 (v3.natAbs / 10)).length + 1 := by rw [hst]; simp
   have hcat : prims.catOk (prims.ofB [UInt8.ofNat (48 + v3.natAbs % 10)]) v2 = true := by
    rw [← bs_bl v2]
    exact catOk_bs [_] _ (by rw [bl_len]; simp; omega)
   have hsc : prims.scat (prims.ofB [UInt8.ofNat (48 + v3.natAbs % 10)]) v2 = bs ([UInt8.ofNat (48 + v3.natAbs % 10)] ++ bl v2) := by
    conv => lhs; rw [← bs_bl v2]
    exact scat_bs [_] _
   have hrem : prims.arith .rem .i64 v3 10 = v3.tmod 10 := rfl
   have hquo : prims.arith .quo .i64 v3 10 = v3.tdiv 10 := by
    show IntKind.i64.wrap (v3.tdiv 10) = _
    rw [IntKind.wrap_i64]
    rcases tmod_ten v3 with ⟨_, _, e⟩ | ⟨_, _, e⟩ <;> omega
   refine ⟨(bs ([UInt8.ofNat (48 + v3.natAbs % 10)] ++ bl v2), v3.tdiv 10), ?_, ?_, ?_, ?_⟩
   ·simp only [sSFormatInt_l1, pl_neq, pl_eql, pl_lss, decide_eq_false h0, Bool.not_false, cond_true, hrem, hquo, show decide ((10 : Int) = 0) = false from rfl, cond_false]
    have hk := byW_digit (v3.natAbs % 10) (by omega)
    rcases tmod_ten v3 with ⟨hp, e, _⟩ | ⟨hp, e, _⟩
    ·have e1 : prims.arith .add .i64 48 (v3.tmod 10) = 48 + ((v3.natAbs % 10 : Nat) : Int) := by rw [e]; exact pl_add _ _ (by omega) (by omega)
     have e2 : ¬ v3.tmod 10 < 0 := by omega
     simp only [decide_eq_false e2, cond_false, e1, hk, hcat, cond_true, hsc]
    ·by_cases hz : v3.natAbs % 10 = 0
     ·have e1 : prims.arith .add .i64 48 (v3.tmod 10) = 48 + ((v3.natAbs % 10 : Nat) : Int) := by rw [e, hz]; exact pl_add _ _ (by omega) (by omega)
      have e2 : ¬ v3.tmod 10 < 0 := by omega
      simp only [decide_eq_false e2, cond_false, e1, hk, hcat, cond_true, hsc]
     ·have e0 : prims.arith .sub .i64 0 (v3.tmod 10) = ((v3.natAbs % 10 : Nat) : Int) := by rw [e, pl_sub _ _ (by omega) (by omega)]; omega
      have e1 : prims.arith .add .i64 48 ((v3.natAbs % 10 : Nat) : Int) = 48 + ((v3.natAbs % 10 : Nat) : Int) := pl_add _ _ (by omega) (by omega)
      have e2 : v3.tmod 10 < 0 := by omega
      simp only [decide_eq_true e2, cond_true, e0, e1, hk, hcat, hsc]
   ·have hna : (v3.tdiv 10).natAbs = v3.natAbs / 10 := by rcases tmod_ten v3 with ⟨_, _, e⟩ | ⟨_, _, e⟩ <;> omega
    refine ⟨?_, ?_⟩
    ·show I64 (v3.tdiv 10)
     unfold I64
     rcases tmod_ten v3 with ⟨_, _, e⟩ | ⟨_, _, e⟩ <;> omega
    ·show ([UInt8.ofNat (48 + v3.natAbs % 10)] ++ bl v2).length + (dg0 (v3.tdiv 10).natAbs).length ≤ 40
     rw [hna, List.length_append, bl_len]
     simp only [List.length_cons, List.length_nil]
     omega
   ·show (dg0 (v3.tdiv 10).natAbs).length < (dg0 v3.natAbs).length
    have hna : (v3.tdiv 10).natAbs = v3.natAbs / 10 := by rcases tmod_ten v3 with ⟨_, _, e⟩ | ⟨_, _, e⟩ <;> omega
    rw [hna]
    omega
   ·show (bs (dg0 v3.natAbs ++ bl v2), (0 : Int)) = (bs (dg0 (v3.tdiv 10).natAbs ++ ([UInt8.ofNat (48 + v3.natAbs % 10)] ++ bl v2)), 0)
    have hna : (v3.tdiv 10).natAbs = v3.natAbs / 10 := by rcases tmod_ten v3 with ⟨_, _, e⟩ | ⟨_, _, e⟩ <;> omega
    rw [hna, hst, List.append_assoc]) fuel (bs [], n) ⟨h, by show 0 + (dg0 n.natAbs).length ≤ 40; omega⟩ (by unfold fuel; simp only; omega)
 simp only [bl_bs, List.append_nil] at H
 exact H
theorem p_spec_FormatInt (n : Int) (h : I64 n) : sSFormatInt n = some (bs (Go.Lib.itoa n)) := by
 unfold sSFormatInt
 rw [p_digits n h]
 by_cases h0 : n = 0
 ·subst h0
  simp only [pl_eql, decide_true, cond_true]
  have : Go.Lib.itoa 0 = [48] := by unfold Go.Lib.itoa; rw [if_neg (by decide), Go.Lib.decDigits]; rfl
  rw [this]
  rfl
 ·have hd : dg0 n.natAbs = Go.Lib.decDigits n.natAbs := if_neg (by omega)
  simp only [pl_eql, pl_lss, decide_eq_false h0, cond_false, Option.bind_some, hd]
  unfold Go.Lib.itoa
  by_cases hn : n < 0
  ·rw [if_pos hn]
   have hl := itoa_len n h
   unfold Go.Lib.itoa at hl
   rw [if_pos hn] at hl
   simp only [decide_eq_true hn, cond_true, bs_mk, catOk_bs [45] (Go.Lib.decDigits n.natAbs) (by simp only [List.length_cons, List.length_nil] at *; omega), scat_bs]
   rfl
  ·rw [if_neg hn, show n.toNat = n.natAbs by omega]
   simp only [decide_eq_false hn, cond_false]
theorem i64_nat {n : Nat} (h : n ≤ 2 ^ 40) : I64 (n : Int) := ⟨by omega, by omega⟩
end Go.Proofs.YteebeeoimghmhaaGreatDoor
namespace Go.Proofs.YteebeeoimghmhaaGreatDoor
open Go.RowKit
set_option linter.unusedVariables false
set_option linter.unusedSimpArgs false
attribute [local simp] pl_lss pl_leq pl_gtr pl_geq pl_eql pl_neq pl_int pl_len pl_rlen pl_fits pl_bnot pl_beq nthI_nat pl_ridx pl_rlen1 pl_len0
noncomputable section
theorem p_l1In (n a b : Int) : sSl1In n a b = some (decide (a ≤ n ∧ n ≤ b)) := by
 unfold sSl1In
 by_cases h : a ≤ n <;> simp [h]
theorem p_InRange (n a b : Int) : sIInRange n a b = some (decide (a ≤ n ∧ n ≤ b)) := by
 unfold sIInRange
 by_cases h : a ≤ n <;> simp [h]
def cmpI (a b : Int) : Int := if a < b then -1 else if b < a then 1 else 0
theorem p_Compare (a b : Int) : s_cmp_Compare_int a b = some (cmpI a b) := by
 unfold s_cmp_Compare_int s_cmp_isNaN_int cmpI
 by_cases h1 : a < b
 ·simp [h1]
 ·by_cases h2 : b < a <;> simp [h1, h2]
theorem p_Or (a b : Int) : s_cmp_Or_int [a, b] = some (if a = 0 then b else a) := by
 unfold s_cmp_Or_int
 rw [while_scan [a, b] (fun _ x => !decide (x = 0)) (fun _ x => x) .inr (.inl (2 : Int)) (by simp) (fun i hi => by
  simp only [s_cmp_Or_int_l1, lt_len _ hi, nthI_at hi, cond_true, Option.bind_some, pl_neq]) (by
  have := lt_end eI [a, b]
  simp only [s_cmp_Or_int_l1]
  rw [this]
  rfl)]
 by_cases h1 : a = 0
 ·by_cases h2 : b = 0 <;> simp [scan, h1, h2]
 ·simp [scan, h1]
def cmpL (x y : DLink) : Int := if cmpI x.a y.a = 0 then cmpI x.b y.b else cmpI x.a y.a
theorem p_compareLinks (x y : DLink) : sIcompareLinks x y = some (cmpL x y) := by
 unfold sIcompareLinks
 simp only [p_Compare, Option.bind_some, p_Or]
 rfl
def pairL (x y : DLink) : Bool := decide (x.a < y.a) || (decide (x.a = y.a) && decide (x.b < y.b))
theorem p_l19Pair (x y : DLink) : sSl19Pair x y = some (pairL x y) := by
 simp only [sSl19Pair, pairL, pl_lss, pl_eql]
 cases decide (x.a < y.a) <;> cases decide (x.a = y.a) <;> cases decide (x.b < y.b) <;> rfl
theorem pair_cmp (x y : DLink) : decide (0 ≤ cmpL x y) = !pairL x y := by
 unfold cmpL cmpI pairL
 rcases Int.lt_trichotomy x.a y.a with h | h | h
 ·have : ¬ y.a < x.a := by omega
  simp [h, this]
 ·rw [h]
  rcases Int.lt_trichotomy x.b y.b with h' | h' | h'
  ·simp [h']
  ·simp [h']
  ·have : ¬ x.b < y.b := by omega
   simp [h', this]
 ·have h1 : ¬ x.a < y.a := by omega
  have h2 : ¬ x.a = y.a := by omega
  simp [h, h1, h2]
def badS (t : DTopology) (i : Nat) (x : DLink) : Bool := !decide (0 ≤ x.a ∧ x.a ≤ prims.arith .sub .i64 t.size 1) || (!decide (0 ≤ x.b ∧ x.b ≤ prims.arith .sub .i64 t.size 1) || (decide (x.b ≤ x.a) || (decide (0 < (i : Int)) && match t.links[i - 1]? with | some y => !pairL y x | none => false)))
def badI (t : DTopology) (i : Nat) (x : DLink) : Bool := !decide (0 ≤ x.a ∧ x.a ≤ prims.arith .sub .i64 t.size 1) || (!decide (prims.arith .add .i64 x.a 1 ≤ x.b ∧ x.b ≤ prims.arith .sub .i64 t.size 1) || (decide (0 < (i : Int)) && match t.links[i - 1]? with | some y => decide (0 ≤ cmpL y x) | none => false))
theorem prev_at {t : DTopology} {i : Nat} (hi : i < t.links.length) (h0 : 0 < (i : Int)) (h : t.links.length ≤ 2 ^ 40) : nthI t.links (prims.arith .sub .i64 (i : Int) 1) = some (t.links[i - 1]'(by omega)) := by
 rw [pl_sub _ _ (by omega) (by omega), show (i : Int) - 1 = ((i - 1 : Nat) : Int) by omega]
 exact nthI_at (by omega)
def validT (t : DTopology) : Bool := match scan (badS t) (fun _ _ => false) 0 t.links with
 | some b => b
 | none => decide (1 ≤ t.size ∧ t.size ≤ 6)
theorem p_spec_ValidTopology (t : DTopology) (h : t.links.length ≤ 2 ^ 40) : sSValidTopology t = some (validT t) := by
 unfold sSValidTopology validT
 rw [while_scan t.links (badS t) (fun _ _ => false) .inr (.inl (t.links.length : Int)) (by omega) (fun i hi => by
  simp only [sSValidTopology_l1, lt_len _ hi, nthI_at hi, cond_true, Option.bind_some, p_l1In, badS, pl_bnot, pl_geq, pl_gtr]
  cases decide (0 ≤ t.links[i].a ∧ t.links[i].a ≤ prims.arith .sub .i64 t.size 1) <;> cases decide (0 ≤ t.links[i].b ∧ t.links[i].b ≤ prims.arith .sub .i64 t.size 1) <;> cases decide (t.links[i].b ≤ t.links[i].a) <;> first | rfl | skip
  by_cases h0 : 0 < (i : Int)
  ·simp only [decide_eq_true h0, cond_true, prev_at hi h0 h, Option.bind_some, p_l19Pair, List.getElem?_eq_getElem (show i - 1 < t.links.length by omega)]
   cases pairL (t.links[i - 1]'(by omega)) t.links[i] <;> rfl
  ·simp only [decide_eq_false h0]
   rfl) (by simp only [sSValidTopology_l1, lt_end]; rfl)]
 cases scan (badS t) (fun _ _ => false) 0 t.links
 ·simp [p_l1In]
 ·rfl
theorem scan_congr {α γ : Type} {p q : Nat → α → Bool} {r : Nat → α → γ} (h : ∀ i x, p i x = q i x) : ∀ (l : List α) (i : Nat), scan p r i l = scan q r i l
 | [], _ => rfl
 | x :: l, i => by simp only [scan, h, scan_congr h l]
theorem bad_eq (t : DTopology) (hs : 1 ≤ t.size ∧ t.size ≤ 6) (i : Nat) (x : DLink) : badI t i x = badS t i x := by
 unfold badI badS
 have e : prims.arith .sub .i64 t.size 1 = t.size - 1 := pl_sub _ _ (by omega) (by omega)
 rw [e]
 by_cases h1 : 0 ≤ x.a ∧ x.a ≤ t.size - 1
 ·have e2 : prims.arith .add .i64 x.a 1 = x.a + 1 := pl_add _ _ (by omega) (by omega)
  rw [e2]
  have e3 : (match t.links[i - 1]? with | some y => decide (0 ≤ cmpL y x) | none => false) = (match t.links[i - 1]? with | some y => !pairL y x | none => false) := by
   cases t.links[i - 1]? with
   | none => rfl
   | some y => exact pair_cmp y x
  rw [e3]
  by_cases h2 : 0 ≤ x.b ∧ x.b ≤ t.size - 1
  ·by_cases h3 : x.b ≤ x.a
   ·have : ¬ (x.a + 1 ≤ x.b ∧ x.b ≤ t.size - 1) := by omega
    rw [decide_eq_false this, decide_eq_true h1, decide_eq_true h2, decide_eq_true h3]
    rfl
   ·have : x.a + 1 ≤ x.b ∧ x.b ≤ t.size - 1 := by omega
    simp [h1, h2, h3, this]
  ·have : ¬ (x.a + 1 ≤ x.b ∧ x.b ≤ t.size - 1) := by omega
   simp [h1, h2, this]
 ·simp [h1]
theorem p_impl_ValidTopology (t : DTopology) (h : t.links.length ≤ 2 ^ 40) : sIValidTopology t = some (validT t) := by
 unfold sIValidTopology
 rw [while_scan t.links (badI t) (fun _ _ => false) .inr (.inl (t.links.length : Int)) (by omega) (fun i hi => by
  simp only [sIValidTopology_l1, lt_len _ hi, nthI_at hi, cond_true, Option.bind_some, p_InRange, badI, pl_bnot, pl_geq, pl_gtr]
  cases decide (0 ≤ t.links[i].a ∧ t.links[i].a ≤ prims.arith .sub .i64 t.size 1) <;> cases decide (prims.arith .add .i64 t.links[i].a 1 ≤ t.links[i].b ∧ t.links[i].b ≤ prims.arith .sub .i64 t.size 1) <;> first | rfl | skip
  by_cases h0 : 0 < (i : Int)
  ·simp only [decide_eq_true h0, cond_true, prev_at hi h0 h, Option.bind_some, p_compareLinks, List.getElem?_eq_getElem (show i - 1 < t.links.length by omega)]
   cases decide (0 ≤ cmpL (t.links[i - 1]'(by omega)) t.links[i]) <;> rfl
  ·simp only [decide_eq_false h0]
   rfl) (by simp only [sIValidTopology_l1, lt_end]; rfl)]
 by_cases hs : 1 ≤ t.size ∧ t.size ≤ 6
 ·rw [scan_congr (bad_eq t hs)]
  unfold validT
  cases scan (badS t) (fun _ _ => false) 0 t.links
  ·simp [p_InRange]
  ·rfl
 ·have hf : ∀ (p : Nat → DLink → Bool), ∀ (l : List DLink) (i : Nat) (b : Bool), scan p (fun _ _ => false) i l = some b → b = false := by
   intro p l i b hb
   obtain ⟨j, x, _, _, h3⟩ := scan_some p _ l i b hb
   exact h3
  have hv : validT t = false := by
   unfold validT
   cases hc : scan (badS t) (fun _ _ => false) 0 t.links with
   | none => simpa using hs
   | some b => exact hf _ _ _ _ hc
  rw [hv]
  cases hc : scan (badI t) (fun _ _ => false) 0 t.links with
  | none => simp [p_InRange, hs]
  | some b => rw [hf _ _ _ _ hc]; rfl
theorem validT_size {t : DTopology} (h : validT t = true) : 1 ≤ t.size ∧ t.size ≤ 6 := by
 unfold validT at h
 cases hc : scan (badS t) (fun _ _ => false) 0 t.links with
 | none => rw [hc] at h; simpa using h
 | some b =>
  rw [hc] at h
  obtain ⟨j, x, _, _, h3⟩ := scan_some _ _ _ _ _ hc
  simp only at h
  rw [h3] at h
  cases h
end
end Go.Proofs.YteebeeoimghmhaaGreatDoor
namespace Go.Proofs.YteebeeoimghmhaaGreatDoor
open Go.RowKit
set_option linter.unusedVariables false
set_option linter.unusedSimpArgs false
noncomputable section
def allE {α : Type} (e : α → α → Bool) : List α → List α → Bool
 | [], [] => true
 | x :: a, y :: b => e x y && allE e a b
 | _, _ => false
def offE {α : Type} (e : α → α → Bool) (b : List α) (i : Nat) (x : α) : Bool := match b[i]? with
 | some y => !e x y
 | none => false
theorem allE_scan {α : Type} (e : α → α → Bool) (full : List α) : ∀ (a b : List α) (i : Nat), full.drop i = b → a.length = b.length → scan (offE e full) (fun _ _ => false) i a = if allE e a b then none else some false
 | [], [], i, _, _ => rfl
 | [], _ :: _, i, _, h => by simp at h
 | _ :: _, [], i, _, h => by simp at h
 | x :: a, y :: b, i, hd, h => by
  have hy : full[i]? = some y := by
   have : (full.drop i)[0]? = some y := by rw [hd]; rfl
   rw [List.getElem?_drop] at this
   exact this
  have hd' : full.drop (i + 1) = b := by
   have := congrArg List.tail hd
   rwa [List.tail_drop] at this
  have ih := allE_scan e full a b (i + 1) hd' (by simpa using h)
  simp only [scan, allE, offE, hy]
  by_cases he : e x y = true
  ·simp [he, ih]
  ·simp [he]
theorem allE_eq {α : Type} [DecidableEq α] : ∀ (a b : List α), allE (fun x y => decide (x = y)) a b = decide (a = b)
 | [], [] => rfl
 | [], _ :: _ => rfl
 | _ :: _, [] => rfl
 | x :: a, y :: b => by
  simp only [allE, allE_eq a b]
  by_cases h1 : x = y <;> by_cases h2 : a = b <;> simp [h1, h2]
theorem bs_eq (x y : ByteArray) : (x.toList == y.toList) = decide (x = y) := by
 have hl : ∀ z : ByteArray, z.toList = z.data.toList := fun z => ByteArray.toList_eq z
 by_cases h : x = y
 ·subst h; simp
 ·rw [decide_eq_false h]
  rw [beq_eq_false_iff_ne]
  intro he
  rw [hl, hl] at he
  refine h ?_
  cases x; cases y
  simp only [ByteArray.mk.injEq]
  exact Array.toList_inj.1 he
theorem pl_sne (x y : ByteArray) : prims.scmp .neq x y = !decide (x = y) := congrArg (!·) (bs_eq x y)
theorem bl_irr : ∀ l : List UInt8, Op.bytesLess l l = false
 | [] => by simp [Op.bytesLess]
 | x :: l => by simp [Op.bytesLess, bl_irr l]
def cmpS (x y : ByteArray) : Int := if prims.scmp .lss x y then -1 else if prims.scmp .gtr x y then 1 else 0
theorem cmpS_zero (x y : ByteArray) : cmpS x y = 0 ↔ x = y := by
 have e1 : prims.scmp .gtr x y = !(prims.scmp .lss x y || (x.toList == y.toList)) := rfl
 unfold cmpS
 rw [e1, bs_eq]
 by_cases h : x = y
 ·subst h
  have : prims.scmp .lss x x = false := by
   show Op.bytesLess x.toList x.toList = false
   exact bl_irr _
  simp [this]
 ·cases prims.scmp .lss x y <;> simp [h]
def cmpN : List ByteArray → List ByteArray → Int
 | [], [] => 0
 | [], _ :: _ => -1
 | _ :: _, [] => 1
 | x :: a, y :: b => if cmpS x y = 0 then cmpN a b else cmpS x y
theorem cmpN_zero : ∀ a b : List ByteArray, cmpN a b = 0 ↔ a = b
 | [], [] => by simp [cmpN]
 | [], _ :: _ => by simp [cmpN]
 | _ :: _, [] => by simp [cmpN]
 | x :: a, y :: b => by
  simp only [cmpN]
  by_cases h : cmpS x y = 0
  ·rw [if_pos h, cmpN_zero a b]
   have := (cmpS_zero x y).1 h
   subst this
   simp
  ·rw [if_neg h]
   have : x ≠ y := fun e => h ((cmpS_zero x y).2 e)
   simp [h, this]
theorem p_l4Cmp (x y : ByteArray) : sSl4Cmp x y = some (cmpS x y) := by
 unfold sSl4Cmp cmpS
 cases prims.scmp .lss x y <;> cases prims.scmp .gtr x y <;> rfl
def cmpD : Nat → List ByteArray → List ByteArray → Int ⊕ (Int ⊕ Int)
 | i, [], _ => .inr (.inl i)
 | i, _ :: _, [] => .inl i
 | i, x :: a, y :: b => if cmpS x y = 0 then cmpD (i + 1) a b else .inr (.inr (cmpS x y))
theorem cmpD_N : ∀ (a b : List ByteArray) (i : Nat), (match cmpD i a b with | .inr (.inr r) => r | _ => cmpI a.length b.length) = cmpN a b
 | [], [], i => rfl
 | [], y :: b, i => by simp [cmpD, cmpN, cmpI]
 | x :: a, [], i => by simp [cmpD, cmpN, cmpI]; omega
 | x :: a, y :: b, i => by
  have ih := cmpD_N a b (i + 1)
  simp only [cmpD, cmpN]
  by_cases h : cmpS x y = 0
  ·rw [if_pos h, if_pos h, ← ih]
   have e : cmpI ((x :: a).length : Int) ((y :: b).length : Int) = cmpI a.length b.length := by
    unfold cmpI
    simp only [List.length_cons]
    by_cases h1 : (a.length : Int) < b.length
    ·rw [if_pos (by omega), if_pos h1]
    ·rw [if_neg (by omega), if_neg h1]
     by_cases h2 : (b.length : Int) < a.length
     ·rw [if_pos (by omega), if_pos h2]
     ·rw [if_neg (by omega), if_neg h2]
   rw [e]
  ·rw [if_neg h, if_neg h]
theorem p_CompareNames (a b : List ByteArray) (ha : a.length ≤ 2 ^ 40) : sSCompareNames a b = some (cmpN a b) := by
 unfold sSCompareNames
 rw [show whileO (sSCompareNames_l1 a b) fuel 0 = some (cmpD 0 a (b.drop 0)) from
  while_list0 (σ := Unit) a (fun i _ => (i : Int)) (fun i rest _ => cmpD i rest (b.drop i)) (fun _ _ => True) () (by unfold fuel; omega) trivial (fun s _ => by
   simp only [sSCompareNames_l1, lt_end, cond_false]; rfl) (fun i x rest s hd hi hx _ => by
   by_cases hb : i < b.length
   ·have hbd : b.drop i = b[i] :: b.drop (i + 1) := List.drop_eq_getElem_cons hb
    rw [hbd]
    simp only [sSCompareNames_l1, lt_len _ hi, lt_len _ hb, cond_true, hx, nthI_at hb, Option.bind_some, p_l4Cmp, pl_neq, cmpD]
    by_cases h0 : cmpS x b[i] = 0
    ·left
     refine ⟨(), ?_, trivial, by rw [if_pos h0]⟩
     rw [decide_eq_true h0]
     show some (Sum.inl (prims.arith .add .i64 (i : Int) 1)) = _
     rw [pl_inc i a.length hi (by omega)]
    ·right
     rw [decide_eq_false h0, if_neg h0]
     rfl
   ·right
    have hbd : b.drop i = [] := List.drop_eq_nil_of_le (by omega)
    rw [hbd]
    have e : prims.cmp .lss (i : Int) (prims.int (prims.len (List.map eS b))) = false := by
     rw [pl_lss, pl_int, pl_len]
     exact decide_eq_false (by omega)
    simp only [sSCompareNames_l1, lt_len _ hi, cond_true, e, cond_false]
    rfl)]
 rw [List.drop_zero, ← cmpD_N a b 0]
 have hc : (bif prims.cmp .lss (prims.int (prims.len (List.map eS a))) (prims.int (prims.len (List.map eS b))) then (some (-1)) else (bif prims.cmp .gtr (prims.int (prims.len (List.map eS a))) (prims.int (prims.len (List.map eS b))) then (some 1) else (some 0))) = some (cmpI a.length b.length) := by
  simp only [pl_lss, pl_gtr, pl_int, pl_len, cmpI]
  by_cases h1 : (a.length : Int) < b.length
  ·rw [decide_eq_true h1, if_pos h1]; rfl
  ·rw [decide_eq_false h1, if_neg h1]
   by_cases h2 : (b.length : Int) < a.length
   ·rw [decide_eq_true h2, if_pos h2]; rfl
   ·rw [decide_eq_false h2, if_neg h2]; rfl
 rcases cmpD 0 a b with i | i | r
 ·exact hc
 ·exact hc
 ·rfl
theorem p_spec_EqualNames (a b : List ByteArray) (ha : a.length ≤ 2 ^ 40) : sSEqualNames a b = some (decide (a = b)) := by
 unfold sSEqualNames
 rw [p_CompareNames a b ha]
 simp only [Option.bind_some, pl_eql]
 exact congrArg some (decide_eq_decide.2 (cmpN_zero a b))
theorem p_Equal_string (a b : List ByteArray) (ha : a.length ≤ 2 ^ 40) : sCEqual_string a b = some (decide (a = b)) := by
 unfold sCEqual_string
 simp only [pl_neq, pl_int, pl_len]
 by_cases h : a.length = b.length
 ·rw [decide_eq_true (show (a.length : Int) = b.length by omega)]
  simp only [Bool.not_true, cond_false]
  rw [while_scan a (offE (fun x y => decide (x = y)) b) (fun _ _ => false) .inr (.inl (a.length : Int)) (by omega) (fun i hi => by
   simp only [sCEqual_string_l1, lt_len _ hi, nthI_at hi, nthI_at (show i < b.length by omega), cond_true, Option.bind_some, pl_sne, offE, List.getElem?_eq_getElem (show i < b.length by omega)]) (by simp only [sCEqual_string_l1, lt_end]; rfl), allE_scan _ b a b 0 rfl h, allE_eq]
  by_cases he : a = b <;> simp [he]
 ·rw [decide_eq_false (show ¬ (a.length : Int) = b.length by omega), decide_eq_false (fun he => h (by rw [he]))]
  rfl
theorem p_impl_EqualNames (a b : List ByteArray) (ha : a.length ≤ 2 ^ 40) : sIEqualNames a b = some (decide (a = b)) := by
 unfold sIEqualNames
 rw [p_Equal_string a b ha]
 rfl
def okN (n : Int) : Bool := (decide (97 ≤ n) && decide (n ≤ 122)) || ((decide (48 ≤ n) && decide (n ≤ 57)) || decide (n = 45))
def okB (b : UInt8) : Bool := okN (b.toNat : Int)
theorem step_spec (n v : Int) : ((sSl1In n 97 122).bind fun r8 => bif prims.bnot r8 then ((sSl1In n 48 57).bind fun r11 => bif prims.bnot r11 then (bif prims.cmp .neq n 45 then (some (.inr (.inr (false)))) else (some (.inl (prims.arith .add .i64 v 1)))) else (some (.inl (prims.arith .add .i64 v 1)))) else (some (.inl (prims.arith .add .i64 v 1)))) = (bif !okN n then some (.inr (.inr false)) else some (.inl (prims.arith .add .i64 v 1)) : Option (Int ⊕ (Int ⊕ Bool))) := by
 simp only [p_l1In, Option.bind_some, pl_bnot, pl_neq, okN, Bool.decide_and]
 generalize prims.arith .add .i64 v 1 = q
 cases decide (97 ≤ n) <;> cases decide (n ≤ 122) <;> cases decide (48 ≤ n) <;> cases decide (n ≤ 57) <;> cases decide (n = 45) <;> rfl
theorem step_impl (n v : Int) : (bif prims.cmp .geq n 97 then (bif prims.cmp .leq n 122 then (bif prims.bnot true then (some (.inr (.inr (false)))) else (some (.inl (prims.arith .add .i64 v 1)))) else (bif prims.cmp .geq n 48 then (bif prims.cmp .leq n 57 then (bif prims.bnot true then (some (.inr (.inr (false)))) else (some (.inl (prims.arith .add .i64 v 1)))) else (bif prims.bnot (prims.cmp .eql n 45) then (some (.inr (.inr (false)))) else (some (.inl (prims.arith .add .i64 v 1))))) else (bif prims.bnot (prims.cmp .eql n 45) then (some (.inr (.inr (false)))) else (some (.inl (prims.arith .add .i64 v 1)))))) else (bif prims.cmp .geq n 48 then (bif prims.cmp .leq n 57 then (bif prims.bnot true then (some (.inr (.inr (false)))) else (some (.inl (prims.arith .add .i64 v 1)))) else (bif prims.bnot (prims.cmp .eql n 45) then (some (.inr (.inr (false)))) else (some (.inl (prims.arith .add .i64 v 1))))) else (bif prims.bnot (prims.cmp .eql n 45) then (some (.inr (.inr (false)))) else (some (.inl (prims.arith .add .i64 v 1)))))) = (bif !okN n then some (.inr (.inr false)) else some (.inl (prims.arith .add .i64 v 1)) : Option (Int ⊕ (Int ⊕ Bool))) := by
 simp only [pl_bnot, pl_geq, pl_leq, pl_eql, okN]
 generalize prims.arith .add .i64 v 1 = q
 cases decide (97 ≤ n) <;> cases decide (n ≤ 122) <;> cases decide (48 ≤ n) <;> cases decide (n ≤ 57) <;> cases decide (n = 45) <;> rfl
theorem sat_at {s : ByteArray} {i : Nat} (hi : i < (bl s).length) : prims.sat s (i : Int) = some (((bl s)[i].toNat : Nat) : Int) := by
 show (if 0 ≤ (i : Int) then (s.data.toList[(i : Int).toNat]?).map (fun b => (b.toNat : Int)) else none) = _
 have e : s.data.toList[i]? = some (bl s)[i] := List.getElem?_eq_getElem hi
 rw [if_pos (by omega), Int.toNat_natCast, e]
 rfl
theorem wrap_byte (b : UInt8) : prims.wrap .i64 (b.toNat : Int) = (b.toNat : Int) := by
 show IntKind.i64.wrap _ = _
 have := b.toNat_lt
 rw [IntKind.wrap_i64]
 omega
theorem lt_size {s : ByteArray} {i : Nat} (hi : i < (bl s).length) : prims.cmp .lss (i : Int) (prims.ssize s) = true := by
 rw [pl_lss, pl_sizeS]
 rw [bl_len] at hi
 exact decide_eq_true (by omega)
theorem lt_sizeE (s : ByteArray) : prims.cmp .lss (((bl s).length : Nat) : Int) (prims.ssize s) = false := by
 rw [pl_lss, pl_sizeS, bl_len]
 exact decide_eq_false (by omega)
def vPart (s : ByteArray) : Bool := decide (1 ≤ (s.size : Int) ∧ (s.size : Int) ≤ 8) && !(bl s).any (fun b => !okB b)
theorem vPart_fin (s : ByteArray) : (match (if (bl s).any (fun b => !okB b) then some false else none) with | some b => b | none => decide (1 ≤ (s.size : Int) ∧ (s.size : Int) ≤ 8)) = vPart s := by
 unfold vPart
 cases (bl s).any (fun b => !okB b) <;> cases decide (1 ≤ (s.size : Int) ∧ (s.size : Int) ≤ 8) <;> rfl
theorem p_spec_ValidPart (s : ByteArray) (h : s.size ≤ 2 ^ 40) : sSValidPart s = some (vPart s) := by
 unfold sSValidPart
 rw [while_scan (bl s) (fun _ b => !okB b) (fun _ _ => false) .inr (.inl (((bl s).length : Nat) : Int)) (by rw [bl_len]; omega) (fun i hi => by
  simp only [sSValidPart_l1, lt_size hi, sat_at hi, cond_true, Option.bind_some, wrap_byte]
  exact step_spec _ _) (by simp only [sSValidPart_l1, lt_sizeE]; rfl), scan_const]
 simp only [p_l1In, Option.bind_some, pl_bnot, pl_sizeS]
 rw [← vPart_fin]
 cases (bl s).any (fun b => !okB b) <;> cases decide (1 ≤ (s.size : Int) ∧ (s.size : Int) ≤ 8) <;> rfl
theorem p_impl_ValidPart (s : ByteArray) (h : s.size ≤ 2 ^ 40) : sIValidPart s = some (vPart s) := by
 unfold sIValidPart
 rw [while_scan (bl s) (fun _ b => !okB b) (fun _ _ => false) .inr (.inl (((bl s).length : Nat) : Int)) (by rw [bl_len]; omega) (fun i hi => by
  simp only [sIValidPart_l1, lt_size hi, sat_at hi, cond_true, Option.bind_some]
  exact step_impl _ _) (by simp only [sIValidPart_l1, lt_sizeE]; rfl), scan_const]
 simp only [p_InRange, Option.bind_some, pl_bnot, pl_sizeS]
 rw [← vPart_fin]
 cases (bl s).any (fun b => !okB b) <;> cases decide (1 ≤ (s.size : Int) ∧ (s.size : Int) ≤ 8) <;> rfl
def NameOk (l : List ByteArray) : Prop := l.length ≤ 2 ^ 40 ∧ ∀ s ∈ l, s.size ≤ 2 ^ 40
def vName (l : List ByteArray) : Bool := decide ((l.length : Int) ≤ 6) && !l.any (fun s => !vPart s)
theorem p_spec_ValidName (l : List ByteArray) (h : NameOk l) : sSValidName l = some (vName l) := by
 unfold sSValidName vName
 have hl := h.1
 rw [while_scan l (fun _ s => !vPart s) (fun _ _ => false) .inr (.inl (l.length : Int)) (by omega) (fun i hi => by
  simp only [sSValidName_l1, lt_len _ hi, nthI_at hi, cond_true, Option.bind_some, p_spec_ValidPart _ (h.2 _ (List.getElem_mem hi)), pl_bnot]) (by simp only [sSValidName_l1, lt_end]; rfl), scan_const]
 simp only [pl_leq, pl_int, pl_len]
 cases decide ((l.length : Int) ≤ 6) <;> cases l.any (fun s => !vPart s) <;> rfl
theorem p_anyPart (l : List ByteArray) (h : NameOk l) : sCContainsFunc_string__ValidName_1 l = some (l.any (fun s => !vPart s)) := by
 unfold sCContainsFunc_string__ValidName_1 sCIndexFunc_string__ValidName_1
 have hl := h.1
 rw [while_scan l (fun _ s => !vPart s) (fun i _ => (i : Int)) .inr (.inl (l.length : Int)) (by omega) (fun i hi => by
  simp only [sCIndexFunc_string__ValidName_1_l1, sIValidName_1, lt_len _ hi, nthI_at hi, cond_true, Option.bind_some, p_impl_ValidPart _ (h.2 _ (List.getElem_mem hi)), pl_bnot]) (by simp only [sCIndexFunc_string__ValidName_1_l1, lt_end]; rfl)]
 have e := idxI_nonneg (fun s => !vPart s) l
 unfold idxI at e
 rw [← e]
 cases scan (fun _ s => !vPart s) (fun i _ => (i : Int)) 0 l <;> rfl
theorem p_impl_ValidName (l : List ByteArray) (h : NameOk l) : sIValidName l = some (vName l) := by
 unfold sIValidName vName
 rw [p_anyPart l h]
 simp only [pl_leq, pl_int, pl_len, Option.bind_some, pl_bnot]
 cases decide ((l.length : Int) ≤ 6) <;> rfl
theorem p_Compare_string (x y : ByteArray) : s_cmp_Compare_string x y = some (cmpS x y) := by
 unfold s_cmp_Compare_string s_cmp_isNaN_string cmpS
 simp only [pl_sne, decide_true, Bool.not_true, Option.bind_some, cond_false]
 cases prims.scmp .lss x y <;> cases prims.scmp .gtr x y <;> rfl
def cDp : Nat → List ByteArray → List ByteArray → Int ⊕ Int
 | i, [], _ => .inl i
 | i, _ :: _, [] => .inr 1
 | i, x :: a, y :: b => if cmpS x y = 0 then cDp (i + 1) a b else .inr (cmpS x y)
def cFin (m n : Nat) : Int ⊕ Int → Int
 | .inl _ => if (m : Int) < n then -1 else 0
 | .inr r => r
theorem cD_N : ∀ (a b : List ByteArray) (i : Nat), cFin a.length b.length (cDp i a b) = cmpN a b
 | [], [], i => rfl
 | [], y :: b, i => by
  simp only [cDp, cmpN, cFin, List.length_cons, List.length_nil]
  rw [if_pos (by omega)]
 | x :: a, [], i => rfl
 | x :: a, y :: b, i => by
  have ih := cD_N a b (i + 1)
  simp only [cDp, cmpN]
  by_cases h : cmpS x y = 0
  ·rw [if_pos h, if_pos h, ← ih]
   cases cDp (i + 1) a b with
   | inr r => rfl
   | inl r =>
    simp only [cFin, List.length_cons]
    by_cases h1 : (a.length : Int) < b.length
    ·rw [if_pos (by omega), if_pos h1]
    ·rw [if_neg (by omega), if_neg h1]
  ·rw [if_neg h, if_neg h]
   rfl
theorem p_impl_CompareNames (a b : List ByteArray) (ha : a.length ≤ 2 ^ 40) : sICompareNames a b = some (cmpN a b) := by
 unfold sICompareNames sCCompare_string
 rw [show whileO (sCCompare_string_l1 a b) fuel 0 = some (cDp 0 a (b.drop 0)) from
  while_list0 (σ := Unit) a (fun i _ => (i : Int)) (fun i rest _ => cDp i rest (b.drop i)) (fun _ _ => True) () (by unfold fuel; omega) trivial (fun s _ => by
   simp only [sCCompare_string_l1, lt_end, cond_false]; rfl) (fun i x rest s hd hi hx _ => by
   by_cases hb : i < b.length
   ·have hbd : b.drop i = b[i] :: b.drop (i + 1) := List.drop_eq_getElem_cons hb
    have e : prims.cmp .geq (i : Int) (prims.int (prims.len (List.map eS b))) = false := by
     rw [pl_geq, pl_int, pl_len]
     exact decide_eq_false (by omega)
    rw [hbd]
    simp only [sCCompare_string_l1, lt_len _ hi, e, cond_false, cond_true, hx, nthI_at hb, Option.bind_some, p_Compare_string, pl_neq, cDp]
    by_cases h0 : cmpS x b[i] = 0
    ·left
     refine ⟨(), ?_, trivial, by rw [if_pos h0]⟩
     rw [decide_eq_true h0]
     show some (Sum.inl (prims.arith .add .i64 (i : Int) 1)) = _
     rw [pl_inc i a.length hi (by omega)]
    ·right
     rw [decide_eq_false h0, if_neg h0]
     rfl
   ·right
    have hbd : b.drop i = [] := List.drop_eq_nil_of_le (by omega)
    rw [hbd]
    have e : prims.cmp .geq (i : Int) (prims.int (prims.len (List.map eS b))) = true := by
     rw [pl_geq, pl_int, pl_len]
     exact decide_eq_true (by omega)
    simp only [sCCompare_string_l1, lt_len _ hi, hx, Option.bind_some, cond_true, e]
    rfl)]
 rw [List.drop_zero, ← cD_N a b 0]
 cases cDp 0 a b with
 | inr r => rfl
 | inl r =>
  simp only [Option.bind_some, pl_lss, pl_int, pl_len, cFin]
  by_cases h1 : (a.length : Int) < b.length
  ·rw [decide_eq_true h1, if_pos h1]; rfl
  ·rw [decide_eq_false h1, if_neg h1]; rfl
def TabOk (l : List DTableEntry) : Prop := l.length ≤ 2 ^ 40 ∧ ∀ x ∈ l, NameOk x.name
def badT (l : List DTableEntry) (i : Nat) (x : DTableEntry) : Bool := !vName x.name || (decide (0 < (i : Int)) && match l[i - 1]? with | some y => decide (0 ≤ cmpN y.name x.name) | none => false)
def vTab (l : List DTableEntry) : Bool := match scan (badT l) (fun _ _ => false) 0 l with
 | some b => b
 | none => decide ((l.length : Int) ≤ 20)
theorem prevT {l : List DTableEntry} {i : Nat} (hi : i < l.length) (h0 : 0 < (i : Int)) (h : l.length ≤ 2 ^ 40) : nthI l (prims.arith .sub .i64 (i : Int) 1) = some (l[i - 1]'(by omega)) := by
 rw [pl_sub _ _ (by omega) (by omega), show (i : Int) - 1 = ((i - 1 : Nat) : Int) by omega]
 exact nthI_at (by omega)
theorem p_spec_ValidTable (l : List DTableEntry) (h : TabOk l) : sSValidTable l = some (vTab l) := by
 unfold sSValidTable vTab
 have hl := h.1
 rw [while_scan l (badT l) (fun _ _ => false) .inr (.inl (l.length : Int)) (by omega) (fun i hi => by
  simp only [sSValidTable_l1, lt_len _ hi, nthI_at hi, cond_true, Option.bind_some, p_spec_ValidName _ (h.2 _ (List.getElem_mem hi)), badT, pl_bnot, pl_geq, pl_gtr]
  cases vName l[i].name
  ·rfl
  simp only [Bool.not_true, cond_false, Bool.false_or]
  by_cases h0 : 0 < (i : Int)
  ·have hp : i - 1 < l.length := by omega
   simp only [decide_eq_true h0, cond_true, prevT hi h0 h.1, Option.bind_some, p_CompareNames _ _ (h.2 _ (List.getElem_mem hp)).1, List.getElem?_eq_getElem hp]
   cases decide (0 ≤ cmpN (l[i - 1]'hp).name l[i].name) <;> rfl
  ·simp only [decide_eq_false h0]
   rfl) (by simp only [sSValidTable_l1, lt_end]; rfl)]
 simp only [pl_leq, pl_int, pl_len, Option.bind_some]
 cases scan (badT l) (fun _ _ => false) 0 l <;> rfl
theorem p_impl_ValidTable (l : List DTableEntry) (h : TabOk l) : sIValidTable l = some (vTab l) := by
 unfold sIValidTable vTab
 have hl := h.1
 rw [while_scan l (badT l) (fun _ _ => false) .inr (.inl (l.length : Int)) (by omega) (fun i hi => by
  simp only [sIValidTable_l1, lt_len _ hi, nthI_at hi, cond_true, Option.bind_some, p_impl_ValidName _ (h.2 _ (List.getElem_mem hi)), badT, pl_bnot, pl_geq, pl_gtr]
  cases vName l[i].name
  ·rfl
  simp only [Bool.not_true, cond_false, Bool.false_or]
  by_cases h0 : 0 < (i : Int)
  ·have hp : i - 1 < l.length := by omega
   simp only [decide_eq_true h0, cond_true, prevT hi h0 h.1, Option.bind_some, p_impl_CompareNames _ _ (h.2 _ (List.getElem_mem hp)).1, List.getElem?_eq_getElem hp]
   cases decide (0 ≤ cmpN (l[i - 1]'hp).name l[i].name) <;> rfl
  ·simp only [decide_eq_false h0]
   rfl) (by simp only [sIValidTable_l1, lt_end]; rfl)]
 simp only [pl_leq, pl_int, pl_len, Option.bind_some]
 cases scan (badT l) (fun _ _ => false) 0 l <;> rfl
def badV (x : DTableEntry) : Bool := !decide (1 ≤ x.value ∧ x.value ≤ 1000)
def vVec (l : List DTableEntry) : Bool := !l.any badV && vTab l
theorem p_spec_ValidVector (l : List DTableEntry) (h : TabOk l) : sSValidVector l = some (vVec l) := by
 unfold sSValidVector vVec
 have hl := h.1
 rw [while_scan l (fun _ x => badV x) (fun _ _ => false) .inr (.inl (l.length : Int)) (by omega) (fun i hi => by
  simp only [sSValidVector_l1, lt_len _ hi, nthI_at hi, cond_true, Option.bind_some, p_l1In, badV, pl_bnot]) (by simp only [sSValidVector_l1, lt_end]; rfl), scan_const, p_spec_ValidTable l h]
 cases l.any badV <;> cases vTab l <;> rfl
theorem p_anyV (l : List DTableEntry) (hl : l.length ≤ 2 ^ 40) : sCContainsFunc_TableEntry__ValidVector_1 l = some (l.any badV) := by
 unfold sCContainsFunc_TableEntry__ValidVector_1 sCIndexFunc_TableEntry__ValidVector_1
 rw [while_scan l (fun _ x => badV x) (fun i _ => (i : Int)) .inr (.inl (l.length : Int)) (by omega) (fun i hi => by
  simp only [sCIndexFunc_TableEntry__ValidVector_1_l1, sIValidVector_1, lt_len _ hi, nthI_at hi, cond_true, Option.bind_some, p_InRange, badV, pl_bnot]) (by simp only [sCIndexFunc_TableEntry__ValidVector_1_l1, lt_end]; rfl)]
 have e := idxI_nonneg badV l
 unfold idxI at e
 rw [← e]
 cases scan (fun _ x => badV x) (fun i _ => (i : Int)) 0 l <;> rfl
theorem p_impl_ValidVector (l : List DTableEntry) (h : TabOk l) : sIValidVector l = some (vVec l) := by
 unfold sIValidVector vVec
 rw [p_impl_ValidTable l h, p_anyV l h.1]
 cases l.any badV <;> cases vTab l <;> rfl
def sumV (s : Int) (l : List DTableEntry) : Int := l.foldl (fun s x => prims.arith .add .i64 s x.value) s
theorem p_spec_VectorSum (l : List DTableEntry) (hl : l.length ≤ 2 ^ 40) : sSVectorSum l = some (sumV 0 l) := by
 unfold sSVectorSum
 rw [show whileO (sSVectorSum_l1 l) fuel (0, 0) = some (sumV 0 l, (l.length : Int)) from
  while_list0 (σ := Int) l (fun i s => (s, (i : Int))) (fun i rest s => (sumV s rest, (l.length : Int))) (fun _ _ => True) 0 (by unfold fuel; omega) trivial (fun s _ => by
   simp only [sSVectorSum_l1, lt_end, cond_false]; rfl) (fun i x rest s hd hi hx _ => by
   left
   refine ⟨prims.arith .add .i64 s x.value, ?_, trivial, rfl⟩
   simp only [sSVectorSum_l1, lt_len _ hi, cond_true, hx, Option.bind_some, pl_inc i l.length hi (by omega)])]
 rfl
theorem p_impl_VectorSum (l : List DTableEntry) (hl : l.length ≤ 2 ^ 40) : sIVectorSum l = some (sumV 0 l) := p_spec_VectorSum l hl
def entP (n : List ByteArray) (x : DTableEntry) : Bool := decide (x.name = n)
def seqV (l : List DTableEntry) (n : List ByteArray) : Int := match nthI l (idxI (entP n) l) with
 | some x => x.value
 | none => 0
theorem p_l6Find (l : List DTableEntry) (n : List ByteArray) (h : TabOk l) : sSl6Find l n = some (idxI (entP n) l) := by
 unfold sSl6Find
 have hl := h.1
 rw [while_scan l (fun _ x => entP n x) (fun i _ => (i : Int)) .inr (.inl (l.length : Int)) (by omega) (fun j hj => by
  simp only [sSl6Find_l1, lt_len _ hj, nthI_at hj, cond_true, Option.bind_some, p_spec_EqualNames _ _ (h.2 _ (List.getElem_mem hj)).1, entP]) (by simp only [sSl6Find_l1, lt_end]; rfl)]
 unfold idxI
 cases scan (fun _ x => entP n x) (fun i _ => (i : Int)) 0 l <;> rfl
theorem p_indexOfName (l : List DTableEntry) (n : List ByteArray) (h : TabOk l) : sIindexOfName l n = some (idxI (entP n) l) := by
 unfold sIindexOfName sCIndexFunc_TableEntry__indexOfName_1
 have hl := h.1
 rw [while_scan l (fun _ x => entP n x) (fun i _ => (i : Int)) .inr (.inl (l.length : Int)) (by omega) (fun j hj => by
  simp only [sCIndexFunc_TableEntry__indexOfName_1_l1, sIindexOfName_1, lt_len _ hj, nthI_at hj, cond_true, Option.bind_some, p_impl_EqualNames _ _ (h.2 _ (List.getElem_mem hj)).1, entP]) (by simp only [sCIndexFunc_TableEntry__indexOfName_1_l1, lt_end]; rfl)]
 unfold idxI
 cases scan (fun _ x => entP n x) (fun i _ => (i : Int)) 0 l <;> rfl
theorem p_spec_SeqOf (l : List DTableEntry) (n : List ByteArray) (h : TabOk l) : sSSeqOf l n = some (seqV l n) := by
 unfold sSSeqOf sSLookupEntry seqV
 rw [p_l6Find l n h]
 rcases idxI_cases (entP n) l with ⟨h1, h2⟩ | ⟨j, x, h1, h2, h3⟩
 ·rw [h1]; rfl
 ·have hn : ¬ ((j : Nat) : Int) < 0 := by omega
  simp only [h1, Option.bind_some, pl_lss, decide_eq_false hn, cond_false, nthI_nat, h2]
theorem p_impl_SeqOf (l : List DTableEntry) (n : List ByteArray) (h : TabOk l) : sISeqOf l n = some (seqV l n) := by
 unfold sISeqOf sILookupEntry seqV
 rw [p_indexOfName l n h]
 rcases idxI_cases (entP n) l with ⟨h1, h2⟩ | ⟨j, x, h1, h2, h3⟩
 ·rw [h1]; rfl
 ·have hn : ¬ ((j : Nat) : Int) < 0 := by omega
  simp only [h1, Option.bind_some, pl_lss, decide_eq_false hn, cond_false, nthI_nat, h2]
def PubOk (l : List DPublication) : Prop := l.length ≤ 2 ^ 40 ∧ ∀ x ∈ l, x.publisher.length ≤ 2 ^ 40 ∧ x.content.length ≤ 2 ^ 40
def pubP (n : List ByteArray) (i : Int) (x : DPublication) : Bool := decide (x.seq = i) && decide (x.publisher = n)
theorem p_l28Find (l : List DPublication) (n : List ByteArray) (i : Int) (h : PubOk l) : sSl28Find l n i = some (idxI (pubP n i) l) := by
 unfold sSl28Find
 have hl := h.1
 rw [while_scan l (fun _ x => pubP n i x) (fun i _ => (i : Int)) .inr (.inl (l.length : Int)) (by omega) (fun j hj => by
  have hn := (h.2 l[j] (List.getElem_mem hj)).1
  simp only [sSl28Find_l1, lt_len _ hj, nthI_at hj, cond_true, Option.bind_some, pl_eql, p_spec_EqualNames _ _ hn, pubP]
  cases decide (l[j].seq = i) <;> cases decide (l[j].publisher = n) <;> rfl) (by simp only [sSl28Find_l1, lt_end]; rfl)]
 unfold idxI
 cases scan (fun _ x => pubP n i x) (fun i _ => (i : Int)) 0 l <;> rfl
theorem p_publishedAt (l : List DPublication) (n : List ByteArray) (i : Int) (h : PubOk l) : sIpublishedAt l n i = some (idxI (pubP n i) l) := by
 unfold sIpublishedAt sCIndexFunc_Publication__publishedAt_1
 have hl := h.1
 rw [while_scan l (fun _ x => pubP n i x) (fun i _ => (i : Int)) .inr (.inl (l.length : Int)) (by omega) (fun j hj => by
  have hn := (h.2 l[j] (List.getElem_mem hj)).1
  simp only [sCIndexFunc_Publication__publishedAt_1_l1, sIpublishedAt_1, lt_len _ hj, nthI_at hj, cond_true, Option.bind_some, pl_eql, p_impl_EqualNames _ _ hn, pubP]
  cases decide (l[j].seq = i) <;> cases decide (l[j].publisher = n) <;> rfl) (by simp only [sCIndexFunc_Publication__publishedAt_1_l1, lt_end]; rfl)]
 unfold idxI
 cases scan (fun _ x => pubP n i x) (fun i _ => (i : Int)) 0 l <;> rfl
theorem vName_parts {n : List ByteArray} (h : vName n = true) : n.length ≤ 6 ∧ ∀ s ∈ n, s.size ≤ 8 := by
 unfold vName at h
 rw [Bool.and_eq_true, decide_eq_true_eq, Bool.not_eq_true', List.any_eq_false] at h
 refine ⟨by omega, fun s hs => ?_⟩
 have h2 := h.2 s hs
 simp only [Bool.not_eq_true, Bool.not_eq_false'] at h2
 unfold vPart at h2
 rw [Bool.and_eq_true, decide_eq_true_eq] at h2
 omega
theorem fits_small (n b : Nat) (h : n ≤ 2 ^ 30) (hb : b ≤ 2 ^ 10) : prims.fits 0 n b = true := by
 rw [pl_fits, decide_eq_true_eq]
 have : (0 + n) * b ≤ 2 ^ 30 * 2 ^ 10 := Nat.mul_le_mul (by omega) hb
 omega
theorem p_l4Copy (l : List ByteArray) (h : l.length ≤ 2 ^ 30) : sSl4Copy l = some l := by
 unfold sSl4Copy
 rw [pl_rlen, fits_small _ _ h (by decide)]
 rfl
theorem p_copyName (l : List ByteArray) (h : l.length ≤ 2 ^ 30) : sIcopyName l = some l := by
 unfold sIcopyName sCClone_string
 rw [pl_rlen, fits_small _ _ h (by decide)]
 rfl
theorem fits_add (a b c : Nat) (h : (a + b) * c ≤ 2 ^ 46) : prims.fits a b c = true := by rw [pl_fits, decide_eq_true_eq]; exact h
theorem while_push {α β : Type} {step : (Int × List β) → Option ((Int × List β) ⊕ (Int × List β))} (l : List α) (g : α → List β) (hl : l.length < 2 ^ 61) (hg : ∀ x, (g x).length ≤ 1)
  (hs : ∀ (i : Nat) x out, x ∈ l → nthI l (i : Int) = some x → i < l.length → out.length ≤ i → step ((i : Int), out) = some (.inl (((i + 1 : Nat) : Int), out ++ g x)))
  (he : ∀ out, step ((l.length : Int), out) = some (.inr ((l.length : Int), out))) : whileO step fuel (0, []) = some ((l.length : Int), l.flatMap g) := by
 refine while_list0 (σ := List β) l (fun i s => ((i : Int), s)) (fun i rest s => ((l.length : Int), s ++ rest.flatMap g)) (fun i s => s.length ≤ i) [] (by unfold fuel; omega) (Nat.le_refl _) (fun s _ => by simpa using he s) fun i x rest s hd hi hx hI => ?_
 have hxl : x ∈ l := by
  have : x ∈ l.drop i := by rw [hd]; simp
  exact List.mem_of_mem_drop this
 refine .inl ⟨s ++ g x, hs i x s hxl hx hi hI, ?_, ?_⟩
 ·have := hg x
  rw [List.length_append]
  omega
 ·rw [List.flatMap_cons, List.append_assoc]
theorem flatMap_one {α : Type} : ∀ l : List α, l.flatMap (fun x => [x]) = l
 | [] => rfl
 | x :: l => by rw [List.flatMap_cons, flatMap_one l]; rfl
end
end Go.Proofs.YteebeeoimghmhaaGreatDoor
namespace Go.Proofs.YteebeeoimghmhaaGreatDoor
open Go.RowKit
set_option linter.unusedVariables false
set_option linter.unusedSimpArgs false
noncomputable section
def NmS (n : List ByteArray) : Prop := n.length ≤ 2 ^ 22 ∧ ∀ s ∈ n, s.size ≤ 2 ^ 40
def TabS (l : List DTableEntry) : Prop := l.length ≤ 2 ^ 22 ∧ ∀ x ∈ l, NmS x.name
theorem NmS.ok {n : List ByteArray} (h : NmS n) : NameOk n := ⟨by have := h.1; omega, h.2⟩
theorem TabS.ok {l : List DTableEntry} (h : TabS l) : TabOk l := ⟨by have := h.1; omega, fun x hx => (h.2 x hx).ok⟩
theorem p_l6Copy (l : List DTableEntry) (h : TabS l) : sSl6Copy l = some l := by
 unfold sSl6Copy
 have hl := h.1
 rw [while_push l (fun x => [x]) (by omega) (fun _ => Nat.le_refl _) (fun i x out hm hx hi ho => by
  have hn := (h.2 x hm).1
  simp only [sSl6Copy_l1, lt_len _ hi, cond_true, hx, Option.bind_some, p_l4Copy x.name (by omega)]
  simp only [pl_len, pl_rlen, pl_inc i l.length hi (by omega)]
  rw [fits_add _ _ _ (by simp only [List.length_singleton]; omega)]
  rfl) (fun out => by simp only [sSl6Copy_l1, lt_end]; rfl), flatMap_one]
 rfl
theorem p_copyTable (l : List DTableEntry) (h : TabS l) : sIcopyTable l = some l := by
 unfold sIcopyTable sIkeepTable__copyTable_1
 have hl := h.1
 rw [while_push l (fun x => [x]) (by omega) (fun _ => Nat.le_refl _) (fun i x out hm hx hi ho => by
  have hn := (h.2 x hm).1
  simp only [sIkeepTable__copyTable_1_l1, sIcopyTable_1, lt_len _ hi, cond_true, hx, Option.bind_some, p_copyName x.name (by omega)]
  simp only [pl_len, pl_rlen, pl_inc i l.length hi (by omega)]
  rw [fits_add _ _ _ (by simp only [List.length_singleton]; omega)]
  rfl) (fun out => by simp only [sIkeepTable__copyTable_1_l1, lt_end]; rfl), flatMap_one]
 rfl
def gtP (n : List ByteArray) (x : DTableEntry) : Bool := decide (0 < cmpN x.name n)
def insT (l : List DTableEntry) (k : Nat) (x : DTableEntry) : List DTableEntry := l.take k ++ x :: l.drop k
def putL (l : List DTableEntry) (n : List ByteArray) (v : Int) : List DTableEntry := if l.any (entP n) then l.set (idxI (entP n) l).toNat ⟨n, v⟩ else insT l (l.findIdx (gtP n)) ⟨n, v⟩
def put (l : List DTableEntry) (n : List ByteArray) (v : Int) : List DTableEntry × Bool := bif vTab (putL l n v) then (putL l n v, true) else (l, false)
theorem scan_find {α γ : Type} (q : α → Bool) (r : Nat → α → γ) : ∀ (l : List α) (i : Nat), (∃ h : l.findIdx q < l.length, scan (fun _ x => q x) r i l = some (r (i + l.findIdx q) l[l.findIdx q])) ∨ (l.findIdx q = l.length ∧ scan (fun _ x => q x) r i l = none)
 | [], i => .inr ⟨rfl, rfl⟩
 | x :: l, i => by
  by_cases hq : q x = true
  ·left
   have e : (x :: l).findIdx q = 0 := by simp [List.findIdx_cons, hq]
   refine ⟨by rw [e]; simp, ?_⟩
   simp only [scan, hq, e]
   rfl
  ·have hq' : q x = false := by simpa using hq
   have e : (x :: l).findIdx q = l.findIdx q + 1 := by simp [List.findIdx_cons, hq']
   rcases scan_find q r l (i + 1) with ⟨h, hs⟩ | ⟨h, hs⟩
   ·left
    refine ⟨by rw [e]; simpa using h, ?_⟩
    simp only [scan, hq', e, hs, Bool.false_eq_true, if_false, List.getElem_cons_succ]
    rw [show i + 1 + l.findIdx q = i + (l.findIdx q + 1) by omega]
   ·right
    refine ⟨by rw [e, h]; rfl, ?_⟩
    simp only [scan, hq', hs, Bool.false_eq_true, if_false]
theorem findIdx_congr' {α : Type} {p q : α → Bool} : ∀ l : List α, (∀ x ∈ l, p x = q x) → l.findIdx p = l.findIdx q
 | [], _ => rfl
 | x :: l, h => by
  rw [List.findIdx_cons, List.findIdx_cons, h x (by simp), findIdx_congr' l fun y hy => h y (by simp [hy])]
theorem idxI_find {α : Type} (q : α → Bool) (l : List α) : (idxI q l = ((l.findIdx q : Nat) : Int) ∧ l.findIdx q < l.length) ∨ (idxI q l = -1 ∧ l.findIdx q = l.length) := by
 unfold idxI
 rcases scan_find q (fun i _ => (i : Int)) l 0 with ⟨h, hs⟩ | ⟨h, hs⟩
 ·rw [hs]
  refine .inl ⟨?_, h⟩
  show ((0 + l.findIdx q : Nat) : Int) = _
  rw [Nat.zero_add]
 ·rw [hs]; exact .inr ⟨rfl, h⟩
theorem TabS.set {l : List DTableEntry} (h : TabS l) {n : List ByteArray} (hn : NmS n) (v : Int) (j : Nat) : TabS (l.set j ⟨n, v⟩) := ⟨by rw [List.length_set]; exact h.1, fun x hx => by
 rcases List.mem_or_eq_of_mem_set hx with hx | rfl
 ·exact h.2 x hx
 ·exact hn⟩
theorem insT_len {l : List DTableEntry} {k : Nat} (hk : k ≤ l.length) (x : DTableEntry) : (insT l k x).length = l.length + 1 := by
 unfold insT
 simp only [List.length_append, List.length_take, List.length_cons, List.length_drop]
 omega
theorem insT_ok {l : List DTableEntry} (h : TabS l) {n : List ByteArray} (hn : NmS n) (v : Int) {k : Nat} (hk : k ≤ l.length) : TabOk (insT l k ⟨n, v⟩) := ⟨by rw [insT_len hk]; have := h.1; omega, fun x hx => by
 unfold insT at hx
 rcases List.mem_append.1 hx with hx | hx
 ·exact (h.2 x (List.mem_of_mem_take hx)).ok
 ·rcases List.mem_cons.1 hx with rfl | hx
  ·exact hn.ok
  ·exact (h.2 x (List.mem_of_mem_drop hx)).ok⟩
theorem rsub_lo (n k : Nat) (h : k ≤ n) : prims.rsub 0 n none (some (k : Int)) = some (0, k) := by
 show (match boundI none 0, boundI (some (k : Int)) n with
  | some a, some h => if a ≤ h ∧ h ≤ n then some (0 + a, h - a) else none
  | _, _ => none) = _
 simp only [boundI]
 rw [if_pos (by omega), Int.toNat_natCast]
 simp only
 rw [if_pos ⟨Nat.zero_le _, h⟩]
 simp
theorem rsub_hi (n k : Nat) (h : k ≤ n) : prims.rsub 0 n (some (k : Int)) none = some (k, n - k) := by
 show (match boundI (some (k : Int)) 0, boundI none n with
  | some a, some h => if a ≤ h ∧ h ≤ n then some (0 + a, h - a) else none
  | _, _ => none) = _
 simp only [boundI]
 rw [if_pos (by omega), Int.toNat_natCast]
 simp only
 rw [if_pos ⟨h, Nat.le_refl _⟩]
 simp
theorem partI_lo {α : Type} (l : List α) (k : Nat) (h : k ≤ l.length) : partI l 0 k = some (l.take k) := by
 unfold partI
 rw [if_pos (by omega)]
 rfl
theorem partR_hi {α : Type} (l : List α) (k : Nat) (h : k ≤ l.length) : partR l 0 k k (l.length - k) = some (l.drop k) := by
 unfold partR partI
 rw [if_pos (by omega), if_pos (by omega), List.take_of_length_le (by rw [List.length_drop]; omega)]
theorem not_ent {l : List DTableEntry} {n : List ByteArray} (h : l.any (entP n) = false) : ∀ x ∈ l, (!decide (cmpN x.name n < 0)) = gtP n x := by
 intro x hx
 rw [List.any_eq_false] at h
 have h1 : ¬ x.name = n := by simpa [entP] using h x hx
 have h2 : cmpN x.name n ≠ 0 := fun e => h1 ((cmpN_zero _ _).1 e)
 unfold gtP
 by_cases h3 : cmpN x.name n < 0
 ·rw [decide_eq_true h3, decide_eq_false (by omega)]; rfl
 ·rw [decide_eq_false h3, decide_eq_true (by omega)]; rfl
theorem p_spec_PutEntry (l : List DTableEntry) (n : List ByteArray) (v : Int) (h : TabS l) (hn : NmS n) : sSPutEntry l n v = some (put l n v) := by
 unfold sSPutEntry
 have hl := h.1
 have hnl := hn.1
 rw [p_l6Copy l h, Option.bind_some, p_l6Find l n h.ok, Option.bind_some, pl_geq]
 unfold put putL
 rcases idxI_cases (entP n) l with ⟨h1, h2⟩ | ⟨j, x, h1, h2, h3⟩
 ·rw [h1, h2, if_neg Bool.false_ne_true]
  rw [show decide ((0 : Int) ≤ -1) = false from rfl, cond_false]
  rw [while_scan l (fun _ x => !decide (cmpN x.name n < 0)) (fun i x => ((i : Int), i, x, cmpN x.name n)) Sum.inl (.inr (l.length : Int)) (by omega) (fun i hi => by
   simp only [sSPutEntry_l1, lt_len _ hi, cond_true, ridx_at _ hi, List.getElem?_eq_getElem hi, Option.bind_some, p_CompareNames _ _ (h.ok.2 _ (List.getElem_mem hi)).1, pl_lss]
   cases decide (cmpN l[i].name n < 0) <;> rfl) (by simp only [sSPutEntry_l1, lt_end]; rfl)]
  rw [Option.bind_some]
  have hf := findIdx_congr' l (not_ent h2)
  have hk : l.findIdx (gtP n) ≤ l.length := List.findIdx_le_length
  have hv := p_spec_ValidTable _ (insT_ok h hn v hk)
  have hfit1 : prims.fits 0 (l.take (l.findIdx (gtP n))).length 32 = true := fits_small _ _ (by rw [List.length_take]; omega) (by decide)
  have hfit2 : prims.fits (l.take (l.findIdx (gtP n))).length 1 32 = true := fits_add _ _ _ (by rw [List.length_take]; omega)
  have hfit3 : prims.fits (l.take (l.findIdx (gtP n)) ++ [(⟨n, v⟩ : DTableEntry)]).length (l.drop (l.findIdx (gtP n))).length 32 = true := fits_add _ _ _ (by rw [List.length_append, List.length_take, List.length_drop]; simp only [List.length_singleton]; omega)
  have ht : (l.take (l.findIdx (gtP n)) ++ [(⟨n, v⟩ : DTableEntry)]) ++ l.drop (l.findIdx (gtP n)) = insT l (l.findIdx (gtP n)) ⟨n, v⟩ := by
   unfold insT
   rw [List.append_assoc]
   rfl
  rcases scan_find (fun x : DTableEntry => !decide (cmpN x.name n < 0)) (fun i x => ((i : Int), i, x, cmpN x.name n)) l 0 with ⟨hlt, hs⟩ | ⟨hlt, hs⟩
  ·rw [hs]
   simp only [Nat.zero_add]
   rw [hf]
   simp only [p_l4Copy n (by omega), Option.bind_some, pl_len, rsub_lo _ _ hk, rsub_hi _ _ hk, partI_lo _ _ hk, pl_rlen, List.length_singleton, hfit1, hfit2, hfit3, cond_true, partR_hi _ _ hk, ht, hv, pl_bnot]
   cases vTab (insT l (l.findIdx (gtP n)) ⟨n, v⟩) <;> rfl
  ·rw [hs]
   rw [← hlt, hf]
   simp only [p_l4Copy n (by omega), Option.bind_some, pl_len, rsub_lo _ _ hk, rsub_hi _ _ hk, partI_lo _ _ hk, pl_rlen, List.length_singleton, hfit1, hfit2, hfit3, cond_true, partR_hi _ _ hk, ht, hv, pl_bnot]
   cases vTab (insT l (l.findIdx (gtP n)) ⟨n, v⟩) <;> rfl
 ·have hj : j < l.length := (List.getElem?_eq_some_iff.1 h2).1
  have hx : x.name = n := by simpa [entP] using h3
  have ha : l.any (entP n) = true := List.any_eq_true.2 ⟨x, List.mem_of_getElem? h2, h3⟩
  rw [h1, ha]
  rw [decide_eq_true (show (0 : Int) ≤ ((j : Nat) : Int) by omega), cond_true, ridx_at _ hj, Option.bind_some, h2, Option.bind_some, hx, p_spec_ValidTable _ (h.set hn v j).ok, Option.bind_some, pl_bnot, Int.toNat_natCast]
  simp only [if_true]
  cases vTab (l.set j ⟨n, v⟩) <;> rfl
theorem p_gtIdx (l : List DTableEntry) (n : List ByteArray) (h : TabS l) : sCIndexFunc_TableEntry__PutEntry_1 l n = some (idxI (gtP n) l) := by
 unfold sCIndexFunc_TableEntry__PutEntry_1
 have hl := h.1
 rw [while_scan l (fun _ x => gtP n x) (fun i _ => (i : Int)) .inr (.inl (l.length : Int)) (by omega) (fun j hj => by
  simp only [sCIndexFunc_TableEntry__PutEntry_1_l1, sIPutEntry_1, lt_len _ hj, nthI_at hj, cond_true, Option.bind_some, p_impl_CompareNames _ _ (h.ok.2 _ (List.getElem_mem hj)).1, gtP, pl_gtr]) (by simp only [sCIndexFunc_TableEntry__PutEntry_1_l1, lt_end]; rfl)]
 unfold idxI
 cases scan (fun _ x => gtP n x) (fun i _ => (i : Int)) 0 l <;> rfl
theorem insO_at (l : List DTableEntry) (k : Nat) (x : DTableEntry) (hk : k ≤ l.length) (hl : l.length ≤ 2 ^ 22) : sCInsert_TableEntry l (k : Int) x = some (insT l k x) := by
 unfold sCInsert_TableEntry insO
 rw [if_pos ⟨by omega, by omega, by omega⟩, Int.toNat_natCast]
 rfl
theorem p_impl_PutEntry (l : List DTableEntry) (n : List ByteArray) (v : Int) (h : TabS l) (hn : NmS n) : sIPutEntry l n v = some (put l n v) := by
 unfold sIPutEntry
 have hl := h.1
 have hnl := hn.1
 rw [p_copyTable l h, Option.bind_some, p_indexOfName l n h.ok, Option.bind_some, pl_geq]
 unfold put putL
 rcases idxI_cases (entP n) l with ⟨h1, h2⟩ | ⟨j, x, h1, h2, h3⟩
 ·rw [h1, h2, if_neg Bool.false_ne_true]
  rw [show decide ((0 : Int) ≤ -1) = false from rfl, cond_false, p_gtIdx l n h, Option.bind_some]
  have hk : l.findIdx (gtP n) ≤ l.length := List.findIdx_le_length
  have hv := p_impl_ValidTable _ (insT_ok h hn v hk)
  rcases idxI_find (gtP n) l with ⟨e, hlt⟩ | ⟨e, hlt⟩
  ·rw [e]
   simp only [pl_lss, decide_eq_false (show ¬ ((l.findIdx (gtP n) : Nat) : Int) < 0 by omega), cond_false, p_copyName n (by omega), Option.bind_some, insO_at _ _ _ hk hl, hv, pl_bnot]
   cases vTab (insT l (l.findIdx (gtP n)) ⟨n, v⟩) <;> rfl
  ·rw [e]
   rw [hlt] at hv hk
   simp only [hlt, pl_lss, show decide ((-1 : Int) < 0) = true from rfl, cond_true, p_copyName n (by omega), Option.bind_some, pl_int, pl_len, insO_at _ _ _ hk hl, hv, pl_bnot]
   cases vTab (insT l l.length ⟨n, v⟩) <;> rfl
 ·have hj : j < l.length := (List.getElem?_eq_some_iff.1 h2).1
  have hx : x.name = n := by simpa [entP] using h3
  have ha : l.any (entP n) = true := List.any_eq_true.2 ⟨x, List.mem_of_getElem? h2, h3⟩
  rw [h1, ha]
  rw [decide_eq_true (show (0 : Int) ≤ ((j : Nat) : Int) by omega), cond_true, ridx_at _ hj, Option.bind_some, h2, Option.bind_some, hx, p_impl_ValidTable _ (h.set hn v j).ok, Option.bind_some, pl_bnot, Int.toNat_natCast]
  simp only [if_true]
  cases vTab (l.set j ⟨n, v⟩) <;> rfl
def Good (l : List DTableEntry) : Prop := l.length ≤ 20 ∧ ∀ x ∈ l, vName x.name = true
theorem vTab_good {l : List DTableEntry} (h : vTab l = true) : Good l := by
 unfold vTab at h
 cases hs : scan (badT l) (fun _ _ => false) 0 l with
 | some b =>
  rw [hs] at h
  obtain ⟨_, _, _, _, hb⟩ := scan_some _ _ l 0 b hs
  subst hb
  cases h
 | none =>
  rw [hs] at h
  refine ⟨by have := of_decide_eq_true h; omega, fun x hx => ?_⟩
  obtain ⟨j, hj⟩ := List.getElem?_of_mem hx
  have := scan_none _ _ l 0 hs j x hj
  unfold badT at this
  rw [Bool.or_eq_false_iff] at this
  simpa using this.1
theorem Good.tab {l : List DTableEntry} (h : Good l) : TabS l := ⟨by have := h.1; omega, fun x hx => by
 obtain ⟨h1, h2⟩ := vName_parts (h.2 x hx)
 exact ⟨by omega, fun s hs => by have := h2 s hs; omega⟩⟩
theorem put_tab {l : List DTableEntry} (h : TabS l) (n : List ByteArray) (v : Int) : TabS (put l n v).1 := by
 unfold put
 cases hv : vTab (putL l n v)
 ·exact h
 ·exact (vTab_good hv).tab
theorem gath_inv {α σ : Type} (f : Nat → α → σ → σ) (P : σ → Prop) (h : ∀ i x s, P s → P (f i x s)) : ∀ (l : List α) (i : Nat) (s : σ), P s → P (gath f i l s)
 | [], _, _, hs => hs
 | x :: l, i, s, hs => gath_inv f P h l (i + 1) _ (h i x s hs)
end
end Go.Proofs.YteebeeoimghmhaaGreatDoor
namespace Go.Proofs.YteebeeoimghmhaaGreatDoor
open Go.RowKit
set_option linter.unusedVariables false
set_option linter.unusedSimpArgs false
noncomputable section
theorem PubOk.take {l : List DPublication} (h : PubOk l) (i : Nat) : PubOk (l.take i) := ⟨by rw [List.length_take]; have := h.1; omega, fun x hx => h.2 x (List.mem_of_mem_take hx)⟩
theorem subI_take {α : Type} {l : List α} {i : Nat} (hi : i < l.length) : subI l none (some (i : Int)) = some (l.take i) := by
 have e : boundI (some (i : Int)) l.length = some i := by simp [boundI]
 have e0 : boundI none 0 = some 0 := rfl
 unfold subI
 rw [e, e0]
 simp only
 rw [if_pos ⟨by omega, by omega⟩]
 rfl
structure MemOk (m : DMember) : Prop where
 name : NameOk m.name
 vec : TabOk m.vector
 pub : PubOk m.publications
def badP (m : DMember) (i : Nat) (x : DPublication) : Bool := !decide (1 ≤ x.seq ∧ x.seq ≤ seqV m.vector x.publisher) || (decide (60 < (x.content.length : Int)) || decide (0 ≤ idxI (pubP x.publisher x.seq) (m.publications.take i)))
def vMem (m : DMember) : Bool := vName m.name && (!decide ((m.name.length : Int) = 0) && (vVec m.vector && (!decide (16 < (m.publications.length : Int)) && (decide ((m.publications.length : Int) = sumV 0 m.vector) && (match scan (badP m) (fun _ _ => false) 0 m.publications with | some b => b | none => true)))))
theorem p_spec_ValidMember (m : DMember) (h : MemOk m) : sSValidMember m = some (vMem m) := by
 unfold sSValidMember vMem
 have hl := h.pub.1
 rw [p_spec_ValidName _ h.name, p_spec_ValidVector _ h.vec, p_spec_VectorSum _ h.vec.1]
 rw [while_scan m.publications (badP m) (fun _ _ => false) .inr (.inl (m.publications.length : Int)) (by omega) (fun i hi => by
  have hlt : prims.cmp .lss (i : Int) (m.publications.length : Int) = true := decide_eq_true (by omega)
  simp only [sSValidMember_l1, hlt, nthI_at hi, cond_true, Option.bind_some, p_spec_SeqOf _ _ h.vec, p_l1In, pl_bnot, pl_gtr, pl_geq, pl_int, pl_len, subI_take hi, p_l28Find _ _ _ (h.pub.take i), badP]
  cases decide (1 ≤ m.publications[i].seq ∧ m.publications[i].seq ≤ seqV m.vector m.publications[i].publisher) <;> cases decide (60 < (m.publications[i].content.length : Int)) <;> cases decide (0 ≤ idxI (pubP m.publications[i].publisher m.publications[i].seq) (m.publications.take i)) <;> rfl) (by simp only [sSValidMember_l1, lt_end]; rfl)]
 simp only [Option.bind_some, pl_bnot, pl_eql, pl_neq, pl_gtr, pl_int, pl_len]
 cases vName m.name <;> cases decide ((m.name.length : Int) = 0) <;> cases vVec m.vector <;> cases decide (16 < (m.publications.length : Int)) <;> cases decide ((m.publications.length : Int) = sumV 0 m.vector) <;> first | rfl | skip
 cases scan (badP m) (fun _ _ => false) 0 m.publications <;> rfl
theorem p_impl_ValidMember (m : DMember) (h : MemOk m) : sIValidMember m = some (vMem m) := by
 unfold sIValidMember vMem
 have hl := h.pub.1
 have hf : ∀ b, scan (badP m) (fun _ _ => false) 0 m.publications = some b → b = false := by
  intro b hb
  obtain ⟨j, x, _, _, h3⟩ := scan_some _ _ _ _ _ hb
  exact h3
 rw [p_impl_ValidName _ h.name, p_impl_ValidVector _ h.vec, p_impl_VectorSum _ h.vec.1]
 rw [while_scan m.publications (badP m) (fun _ _ => false) .inr (.inl (m.publications.length : Int)) (by omega) (fun i hi => by
  have hlt : prims.cmp .lss (i : Int) (m.publications.length : Int) = true := decide_eq_true (by omega)
  simp only [sIValidMember_l1, hlt, nthI_at hi, cond_true, Option.bind_some, p_impl_SeqOf _ _ h.vec, p_InRange, pl_bnot, pl_gtr, pl_geq, pl_int, pl_len, subI_take hi, p_publishedAt _ _ _ (h.pub.take i), badP]
  cases decide (1 ≤ m.publications[i].seq ∧ m.publications[i].seq ≤ seqV m.vector m.publications[i].publisher) <;> cases decide (60 < (m.publications[i].content.length : Int)) <;> cases decide (0 ≤ idxI (pubP m.publications[i].publisher m.publications[i].seq) (m.publications.take i)) <;> rfl) (by simp only [sIValidMember_l1, lt_end]; rfl)]
 have es : decide (sumV 0 m.vector = (m.publications.length : Int)) = decide ((m.publications.length : Int) = sumV 0 m.vector) := decide_eq_decide.2 eq_comm
 simp only [Option.bind_some, pl_bnot, pl_eql, pl_neq, pl_gtr, pl_int, pl_len]
 cases hc : scan (badP m) (fun _ _ => false) 0 m.publications with
 | none =>
  simp only [Option.bind_some, es]
  cases vName m.name <;> cases decide ((m.name.length : Int) = 0) <;> cases vVec m.vector <;> cases decide (16 < (m.publications.length : Int)) <;> cases decide ((m.publications.length : Int) = sumV 0 m.vector) <;> rfl
 | some b =>
  rw [hf b hc]
  cases vName m.name <;> cases decide ((m.name.length : Int) = 0) <;> cases vVec m.vector <;> cases decide (16 < (m.publications.length : Int)) <;> cases decide ((m.publications.length : Int) = sumV 0 m.vector) <;> rfl
def mName (k : Int) : List ByteArray := [bs [109], bs (Go.Lib.itoa k)]
theorem p_l37Name (k : Int) (h : I64 k) : sSl37Name k = some (mName k) := by
 unfold sSl37Name
 simp only [p_spec_FormatInt k h, Option.bind_some]
 rfl
theorem p_memberName (k : Int) (h : I64 k) : sImemberName k = some (mName k) := by
 unfold sImemberName
 simp only [p_impl_FormatInt k h, Option.bind_some]
 rfl
structure GrpOk (g : DSyncGroup) : Prop where
 links : g.topology.links.length ≤ 2 ^ 40
 len : g.members.length ≤ 2 ^ 40
 mem : ∀ m ∈ g.members, MemOk m
def badM (i : Nat) (m : DMember) : Bool := !vMem m || !decide (m.name = mName i)
def vGrp (g : DSyncGroup) : Bool := validT g.topology && (decide ((g.members.length : Int) = g.topology.size) && (match scan badM (fun _ _ => false) 0 g.members with | some b => b | none => true))
theorem p_spec_ValidSyncGroup (g : DSyncGroup) (h : GrpOk g) : sSValidSyncGroup g = some (vGrp g) := by
 unfold sSValidSyncGroup vGrp
 have hl := h.len
 rw [p_spec_ValidTopology _ h.links]
 rw [while_scan g.members badM (fun _ _ => false) .inr (.inl (g.members.length : Int)) (by omega) (fun i hi => by
  have hm := h.mem _ (List.getElem_mem hi)
  simp only [sSValidSyncGroup_l1, lt_len _ hi, nthI_at hi, cond_true, Option.bind_some, p_spec_ValidMember _ hm, p_l37Name (i : Int) (i64_nat (by omega)), p_spec_EqualNames _ _ hm.name.1, pl_bnot, badM]
  cases vMem g.members[i] <;> cases decide (g.members[i].name = mName i) <;> rfl) (by simp only [sSValidSyncGroup_l1, lt_end]; rfl)]
 simp only [Option.bind_some, pl_bnot, pl_neq, pl_int, pl_len]
 cases validT g.topology <;> cases decide ((g.members.length : Int) = g.topology.size) <;> first | rfl | skip
 cases scan badM (fun _ _ => false) 0 g.members <;> rfl
theorem p_impl_ValidSyncGroup (g : DSyncGroup) (h : GrpOk g) : sIValidSyncGroup g = some (vGrp g) := by
 unfold sIValidSyncGroup vGrp
 have hl := h.len
 rw [p_impl_ValidTopology _ h.links]
 rw [while_scan g.members badM (fun _ _ => false) .inr (.inl (g.members.length : Int)) (by omega) (fun i hi => by
  have hm := h.mem _ (List.getElem_mem hi)
  simp only [sIValidSyncGroup_l1, lt_len _ hi, nthI_at hi, cond_true, Option.bind_some, p_impl_ValidMember _ hm, p_memberName (i : Int) (i64_nat (by omega)), p_impl_EqualNames _ _ hm.name.1, pl_bnot, badM]
  cases vMem g.members[i] <;> cases decide (g.members[i].name = mName i) <;> rfl) (by simp only [sIValidSyncGroup_l1, lt_end]; rfl)]
 simp only [Option.bind_some, pl_bnot, pl_neq, pl_int, pl_len]
 cases validT g.topology <;> cases decide ((g.members.length : Int) = g.topology.size) <;> first | rfl | skip
 cases scan badM (fun _ _ => false) 0 g.members <;> rfl
def PubS (l : List DPublication) : Prop := l.length ≤ 2 ^ 22 ∧ ∀ x ∈ l, NmS x.publisher ∧ x.content.length ≤ 2 ^ 22
structure MemS (m : DMember) : Prop where
 name : NmS m.name
 vec : TabS m.vector
 pub : PubS m.publications
theorem PubS.ok {l : List DPublication} (h : PubS l) : PubOk l := ⟨by have := h.1; omega, fun x hx => ⟨by have := (h.2 x hx).1.1; omega, by have := (h.2 x hx).2; omega⟩⟩
theorem MemS.ok {m : DMember} (h : MemS m) : MemOk m := ⟨h.name.ok, h.vec.ok, h.pub.ok⟩
theorem p_l28Copy (m : DMember) (h : MemS m) : sSl28Copy m = some m := by
 unfold sSl28Copy
 have hl := h.pub.1
 have hn := h.name.1
 rw [p_l4Copy m.name (by omega), Option.bind_some, p_l6Copy _ h.vec, Option.bind_some, while_push m.publications (fun x => [x]) (by omega) (fun _ => Nat.le_refl _) (fun i x out hm hx hi ho => by
  have h1 := (h.pub.2 x hm).1.1
  have h2 := (h.pub.2 x hm).2
  simp only [sSl28Copy_l1, lt_len _ hi, cond_true, hx, Option.bind_some, p_l4Copy x.publisher (by omega)]
  simp only [pl_len, pl_rlen, pl_inc i m.publications.length hi (by omega), fits_small x.content.length 1 (by omega) (by decide), cond_true]
  rw [fits_add _ _ _ (by simp only [List.length_singleton]; omega)]
  rfl) (fun out => by simp only [sSl28Copy_l1, lt_end]; rfl), flatMap_one]
 rfl
theorem p_Clone_byte (l : List UInt8) (h : l.length ≤ 2 ^ 30) : sCClone_byte l = some l := by
 unfold sCClone_byte
 rw [pl_rlen, fits_small _ _ h (by decide)]
 rfl
theorem p_copyMember (m : DMember) (h : MemS m) : sIcopyMember m = some m := by
 unfold sIcopyMember
 have hl := h.pub.1
 have hn := h.name.1
 rw [p_copyName m.name (by omega), Option.bind_some, p_copyTable _ h.vec, Option.bind_some, while_push m.publications (fun x => [x]) (by omega) (fun _ => Nat.le_refl _) (fun i x out hm hx hi ho => by
  have h1 := (h.pub.2 x hm).1.1
  have h2 := (h.pub.2 x hm).2
  simp only [sIcopyMember_l1, lt_len _ hi, cond_true, hx, Option.bind_some, p_copyName x.publisher (by omega), p_Clone_byte x.content (by omega)]
  simp only [pl_len, pl_rlen, pl_inc i m.publications.length hi (by omega)]
  rw [fits_add _ _ _ (by simp only [List.length_singleton]; omega)]
  rfl) (fun out => by simp only [sIcopyMember_l1, lt_end]; rfl), flatMap_one]
 rfl
def accM (m : DMember) (x : DPublication) : DMember := ⟨m.name, (put m.vector x.publisher x.seq).1, m.publications ++ [x]⟩
def acc (m : DMember) (x : DPublication) : DMember × Bool := bif decide (x.seq = prims.arith .add .i64 (seqV m.vector x.publisher) 1) && ((put m.vector x.publisher x.seq).2 && vMem (accM m x)) then (accM m x, true) else (m, false)
theorem accM_ok {m : DMember} (h : MemS m) {x : DPublication} (hn : NmS x.publisher) (hc : x.content.length ≤ 2 ^ 22) : MemOk (accM m x) := ⟨h.name.ok, (put_tab h.vec _ _).ok, by
 have hl := h.pub.1
 refine ⟨by show (m.publications ++ [x]).length ≤ _; rw [List.length_append, List.length_singleton]; omega, fun y hy => ?_⟩
 rcases List.mem_append.1 hy with hy | hy
 ·exact h.pub.ok.2 y hy
 ·rw [List.mem_singleton] at hy
  subst hy
  exact ⟨by have := hn.1; omega, by omega⟩⟩
theorem p_spec_Accept (m : DMember) (x : DPublication) (h : MemS m) (hn : NmS x.publisher) (hc : x.content.length ≤ 2 ^ 22) : sSAcceptPublication m x = some (acc m x) := by
 unfold sSAcceptPublication acc
 have hl := h.pub.1
 have h1 := hn.1
 rw [p_l28Copy m h, Option.bind_some, p_spec_SeqOf _ _ h.vec.ok, Option.bind_some, pl_neq]
 have hv := p_spec_ValidMember _ (accM_ok h hn hc)
 cases decide (x.seq = prims.arith .add .i64 (seqV m.vector x.publisher) 1) with
 | false => rfl
 | true =>
  simp only [Bool.not_true, cond_false, Bool.true_and]
  rw [p_spec_PutEntry _ _ _ h.vec hn, Option.bind_some]
  simp only [p_l4Copy x.publisher (by omega), Option.bind_some, pl_rlen, pl_len, List.length_singleton, fits_small x.content.length 1 (by omega) (by decide), cond_true, fits_add m.publications.length 1 56 (by omega), pl_bnot]
  have hv' : sSValidMember ⟨m.name, (put m.vector x.publisher x.seq).1, m.publications ++ [⟨x.publisher, x.seq, x.content⟩]⟩ = some (vMem (accM m x)) := hv
  rw [hv']
  cases (put m.vector x.publisher x.seq).2
  ·rfl
  ·cases vMem (accM m x) <;> rfl
theorem p_impl_Accept (m : DMember) (x : DPublication) (h : MemS m) (hn : NmS x.publisher) (hc : x.content.length ≤ 2 ^ 22) : sIAcceptPublication m x = some (acc m x) := by
 unfold sIAcceptPublication acc
 have hl := h.pub.1
 have h1 := hn.1
 rw [p_copyMember m h, Option.bind_some, p_impl_SeqOf _ _ h.vec.ok, Option.bind_some, pl_neq]
 have hv := p_impl_ValidMember _ (accM_ok h hn hc)
 cases decide (x.seq = prims.arith .add .i64 (seqV m.vector x.publisher) 1) with
 | false => rfl
 | true =>
  simp only [Bool.not_true, cond_false, Bool.true_and]
  simp only [p_copyName x.publisher (by omega), p_Clone_byte x.content (by omega), Option.bind_some, pl_rlen, pl_len, List.length_singleton, fits_add m.publications.length 1 56 (by omega), cond_true]
  rw [p_impl_PutEntry _ _ _ h.vec hn, Option.bind_some]
  simp only [pl_bnot]
  have hv' : sIValidMember ⟨m.name, (put m.vector x.publisher x.seq).1, m.publications ++ [⟨x.publisher, x.seq, x.content⟩]⟩ = some (vMem (accM m x)) := hv
  rw [hv']
  cases (put m.vector x.publisher x.seq).2
  ·rfl
  ·cases vMem (accM m x) <;> rfl
def GroS (g : DSyncGroup) : Prop := g.topology.links.length ≤ 2 ^ 22 ∧ g.members.length ≤ 2 ^ 22 ∧ ∀ m ∈ g.members, MemS m
theorem p_l37Copy (g : DSyncGroup) (h : GroS g) : sSl37Copy g = some g := by
 unfold sSl37Copy
 have hl := h.2.1
 have ht := h.1
 rw [pl_rlen, fits_small _ _ (by omega) (by decide), cond_true, while_push g.members (fun x => [x]) (by omega) (fun _ => Nat.le_refl _) (fun i x out hm hx hi ho => by
  simp only [sSl37Copy_l1, lt_len _ hi, cond_true, hx, Option.bind_some, p_l28Copy x (h.2.2 x hm)]
  simp only [pl_len, pl_rlen, pl_inc i g.members.length hi (by omega)]
  rw [fits_add _ _ _ (by simp only [List.length_singleton]; omega)]
  rfl) (fun out => by simp only [sSl37Copy_l1, lt_end]; rfl), flatMap_one]
 rfl
theorem p_copyTopology (t : DTopology) (h : t.links.length ≤ 2 ^ 22) : sIcopyTopology t = some t := by
 unfold sIcopyTopology sCClone_Link
 rw [pl_rlen, fits_small _ _ (by omega) (by decide)]
 rfl
theorem p_copyGroup (g : DSyncGroup) (h : GroS g) : sIcopyGroup g = some g := by
 unfold sIcopyGroup
 have hl := h.2.1
 have ht := h.1
 rw [p_copyTopology _ ht, Option.bind_some, while_push g.members (fun x => [x]) (by omega) (fun _ => Nat.le_refl _) (fun i x out hm hx hi ho => by
  simp only [sIcopyGroup_l1, lt_len _ hi, cond_true, hx, Option.bind_some, p_copyMember x (h.2.2 x hm)]
  simp only [pl_len, pl_rlen, pl_inc i g.members.length hi (by omega)]
  rw [fits_add _ _ _ (by simp only [List.length_singleton]; omega)]
  rfl) (fun out => by simp only [sIcopyGroup_l1, lt_end]; rfl), flatMap_one]
 rfl
end
end Go.Proofs.YteebeeoimghmhaaGreatDoor
namespace Go.Proofs.YteebeeoimghmhaaGreatDoor
open Go.RowKit
set_option linter.unusedVariables false
set_option linter.unusedSimpArgs false
noncomputable section
theorem cntL_szL {α : Type} (c f : α → Nat) (h : ∀ x, c x ≤ 2 * (f x + 1)) : ∀ l : List α, cntL c l ≤ 2 * szL f l
 | [] => Nat.le_refl _
 | x :: l => by
  have ih := cntL_szL c f h l
  have := h x
  simp only [szL, cntL]
  omega
theorem szL_le {α : Type} (f : α → Nat) (c : Nat) : ∀ l : List α, (∀ x ∈ l, f x ≤ c) → szL f l ≤ l.length * (c + 1)
 | [], _ => Nat.zero_le _
 | x :: l, h => by
  have ih := szL_le f c l fun y hy => h y (by simp [hy])
  have := h x (by simp)
  simp only [szL, List.length_cons, Nat.succ_mul]
  omega
theorem good_sz {l : List DTableEntry} (h : Good l) : szL szTableEntry l ≤ 1400 := by
 have h1 := szL_le szTableEntry 60 l fun x hx => by
  obtain ⟨h1, h2⟩ := vName_parts (h.2 x hx)
  have h3 := szL_le ByteArray.size 8 x.name h2
  have e : szTableEntry x = szL ByteArray.size x.name := rfl
  omega
 have := h.1
 omega
theorem cTab (x : DTableEntry) : cTableEntry x ≤ 2 * (szTableEntry x + 1) := by
 have e : szTableEntry x = szL ByteArray.size x.name := rfl
 have := szL_len ByteArray.size x.name
 unfold cTableEntry
 omega
theorem cPub (x : DPublication) : cPublication x ≤ 2 * (szPublication x + 1) := by
 have e : szPublication x = szL ByteArray.size x.publisher + szL (fun _ => 0) x.content := rfl
 have := szL_len ByteArray.size x.publisher
 have := szL_len (fun _ => 0) x.content
 unfold cPublication
 omega
theorem cMem (x : DMember) : cMember x ≤ 2 * (szMember x + 1) := by
 have e : szMember x = szL ByteArray.size x.name + szL szTableEntry x.vector + szL szPublication x.publications := rfl
 have := szL_len ByteArray.size x.name
 have := cntL_szL cTableEntry szTableEntry cTab x.vector
 have := cntL_szL cPublication szPublication cPub x.publications
 unfold cMember
 omega
theorem tab_of_sz {l : List DTableEntry} (h : szL szTableEntry l ≤ 2 ^ 22) : TabS l := ⟨by have := szL_len szTableEntry l; omega, fun x hx => by
 have h1 := szL_mem szTableEntry hx
 have e : szTableEntry x = szL ByteArray.size x.name := rfl
 have h2 := szL_len ByteArray.size x.name
 exact ⟨by omega, fun s hs => by have := szL_mem ByteArray.size hs; omega⟩⟩
theorem grp_cnt {g : DSyncGroup} (h : szSyncGroup g ≤ 1048576) : cntL cLink g.topology.links + cntL cMember g.members ≤ 4194304 := by
 have hz : szSyncGroup g = szL (fun _ => 0) g.topology.links + szL szMember g.members := rfl
 have h1 := cntL_szL cLink (fun _ => 0) (fun x => Nat.le_refl 2) g.topology.links
 have h2 := cntL_szL cMember szMember cMem g.members
 omega
end
end Go.Proofs.YteebeeoimghmhaaGreatDoor
namespace Go.Proofs.YteebeeoimghmhaaGreatDoor
open Go.RowKit
set_option linter.unusedVariables false
set_option linter.unusedSimpArgs false
noncomputable section
theorem szBytes : ∀ l : List UInt8, szL (fun _ => 0) l = l.length
 | [] => rfl
 | x :: l => by simp only [szL, szBytes l, List.length_cons]; omega
theorem szM (m : DMember) : szMember m = szL ByteArray.size m.name + szL szTableEntry m.vector + szL szPublication m.publications := rfl
theorem szG (g : DSyncGroup) : szSyncGroup g = szL (fun _ => 0) g.topology.links + szL szMember g.members := rfl
theorem nmS_of {n : List ByteArray} (h : szL ByteArray.size n ≤ 2 ^ 22) : NmS n := ⟨by have := szL_len ByteArray.size n; omega, fun s hs => by have := szL_mem ByteArray.size hs; omega⟩
theorem memS_of {m : DMember} (h : szMember m ≤ 2 ^ 22) : MemS m := by
 have e := szM m
 refine ⟨nmS_of (by omega), tab_of_sz (by omega), by have := szL_len szPublication m.publications; omega, fun x hx => ?_⟩
 have h1 := szL_mem szPublication hx
 have e2 : szPublication x = szL ByteArray.size x.publisher + szL (fun _ => 0) x.content := rfl
 have := szBytes x.content
 exact ⟨nmS_of (by omega), by omega⟩
theorem groS_of {g : DSyncGroup} (h : szSyncGroup g ≤ 2 ^ 22) : GroS g := by
 have e := szG g
 refine ⟨by have := szL_len (fun _ => 0) g.topology.links; omega, by have := szL_len szMember g.members; omega, fun m hm => memS_of ?_⟩
 have := szL_mem szMember hm
 omega
theorem grp_cnt2 {g : DSyncGroup} (h : szSyncGroup g ≤ 1099511627) : cntL cLink g.topology.links + cntL cMember g.members ≤ 4398046508 := by
 have hz := szG g
 have h1 := cntL_szL cLink (fun _ => 0) (fun x => Nat.le_refl 2) g.topology.links
 have h2 := cntL_szL cMember szMember cMem g.members
 omega
end
end Go.Proofs.YteebeeoimghmhaaGreatDoor
namespace Go.Proofs.YteebeeoimghmhaaGreatDoor
open Go.RowKit
set_option linter.unusedVariables false
set_option linter.unusedSimpArgs false
noncomputable section
theorem while_gathE {α σ τ δ : Type} {step : Int × τ → Option ((Int × τ) ⊕ δ)} (enc : σ → τ) (l : List α) (f : Nat → α → σ → σ) (fin : σ → δ) (Inv : Nat → σ → Prop) (s : σ) (hl : l.length < 2 ^ 61) (h0 : Inv 0 s)
  (hs : ∀ (i : Nat) (s : σ) (hi : i < l.length), Inv i s → step ((i : Int), enc s) = some (.inl (prims.arith .add .i64 i 1, enc (f i l[i] s))) ∧ Inv (i + 1) (f i l[i] s))
  (he : ∀ s, Inv l.length s → step ((l.length : Int), enc s) = some (.inr (fin s))) :
  whileO step fuel (0, enc s) = some (fin (gath f 0 l s)) ∧ Inv l.length (gath f 0 l s) := by
 have hI : ∀ (m i : Nat) (s : σ), i + m = l.length → Inv i s → Inv l.length (gath f i (l.drop i) s) := by
  intro m
  induction m with
  | zero =>
   intro i s hi h
   have : i = l.length := by omega
   subst this
   rw [List.drop_length]
   exact h
  | succ m ih =>
   intro i s hi h
   have hlt : i < l.length := by omega
   rw [List.drop_eq_getElem_cons hlt]
   exact ih (i + 1) _ (by omega) (hs i s hlt h).2
 refine ⟨while_list0 l (fun i s => ((i : Int), enc s)) (fun i rest s => fin (gath f i rest s)) Inv s (by unfold fuel; omega) h0 he fun i x rest s hd hi hx hI => ?_, by have := hI l.length 0 s (by omega) h0; rwa [List.drop_zero] at this⟩
 have hx' : l[i] = x := by
  have : l[i]? = some x := by rw [← hx]; simp [nthI]
  rw [List.getElem?_eq_getElem hi] at this
  injection this
 obtain ⟨h1, h2⟩ := hs i s hi hI
 rw [hx'] at h1 h2
 refine .inl ⟨f i x s, ?_, h2, rfl⟩
 rw [h1, show prims.arith .add .i64 (i : Int) 1 = ((i + 1 : Nat) : Int) by
  show IntKind.i64.wrap ((i : Int) + 1) = _
  rw [IntKind.wrap_i64]
  omega]
def fillN (n : List ByteArray) (top : Int) : Nat → Int → List DTableEntry → List DTableEntry
 | 0, _, out => out
 | m + 1, k, out => bif decide (k < top) && decide ((out.length : Int) < 20) then fillN n top m (prims.arith .add .i64 k 1) (out ++ [⟨n, prims.arith .add .i64 k 1⟩]) else out
def NewS (out : List DTableEntry) : Prop := out.length ≤ 20 ∧ ∀ y ∈ out, NmS y.name
theorem NewS.tab {out : List DTableEntry} (h : NewS out) : TabS out := ⟨by have := h.1; omega, h.2⟩
theorem fillN_ok {n : List ByteArray} (hn : NmS n) (top : Int) : ∀ (m : Nat) (k : Int) (out : List DTableEntry), NewS out → NewS (fillN n top m k out)
 | 0, _, out, h => h
 | m + 1, k, out, h => by
  unfold fillN
  cases hc : decide (k < top) && decide ((out.length : Int) < 20)
  ·exact h
  ·refine fillN_ok hn top m _ _ ⟨?_, fun y hy => ?_⟩
   ·rw [Bool.and_eq_true, decide_eq_true_eq, decide_eq_true_eq] at hc
    rw [List.length_append, List.length_singleton]
    omega
   ·rcases List.mem_append.1 hy with hy | hy
    ·exact h.2 y hy
    ·rw [List.mem_singleton] at hy
     subst hy
     exact hn
theorem fill_spec (x : DTableEntry) (top : Int) (hn : NmS x.name) : ∀ (m f : Nat) (k : Int) (out : List DTableEntry), out.length ≤ 20 → 21 ≤ out.length + m → m + 1 ≤ f → ∃ g, whileO (sSNewerThan_l2 x top) f (k, out) = some g ∧ (match g with | .inl (_, o) => o | .inr (_, o) => o) = fillN x.name top m k out
 | 0, f, k, out, h1, h2, h3 => by omega
 | m + 1, f, k, out, h1, h2, h3 => by
  obtain ⟨f, rfl⟩ : ∃ f', f = f' + 1 := ⟨f - 1, by omega⟩
  have hnl := hn.1
  unfold fillN
  by_cases hk : k < top
  ·by_cases ho : (out.length : Int) < 20
   ·have hst : sSNewerThan_l2 x top (k, out) = some (.inl (prims.arith .add .i64 k 1, out ++ [⟨x.name, prims.arith .add .i64 k 1⟩])) := by
     simp only [sSNewerThan_l2, pl_lss, decide_eq_true hk, cond_true, pl_int, pl_len, decide_eq_true ho, p_l4Copy x.name (by omega), Option.bind_some, pl_rlen, List.length_singleton, fits_add out.length 1 32 (by omega)]
    rw [whileO_inl hst, decide_eq_true hk, decide_eq_true ho]
    exact fill_spec x top hn m f _ _ (by rw [List.length_append, List.length_singleton]; omega) (by rw [List.length_append, List.length_singleton]; omega) (by omega)
   ·have hst : sSNewerThan_l2 x top (k, out) = some (.inr (.inl (k, out))) := by
     simp only [sSNewerThan_l2, pl_lss, decide_eq_true hk, cond_true, pl_int, pl_len, decide_eq_false ho, cond_false]
    refine ⟨_, whileO_inr hst, ?_⟩
    rw [decide_eq_true hk, decide_eq_false ho]
    rfl
  ·have hst : sSNewerThan_l2 x top (k, out) = some (.inr (.inr (k, out))) := by
    simp only [sSNewerThan_l2, pl_lss, decide_eq_false hk, cond_false]
   refine ⟨_, whileO_inr hst, ?_⟩
   rw [decide_eq_false hk]
   rfl
theorem fill_impl (a : List DTableEntry) (ha : TabS a) (x : DTableEntry) (hn : NmS x.name) : ∀ (m f : Nat) (k : Int) (out : List DTableEntry), out.length ≤ 20 → 21 ≤ out.length + m → m + 1 ≤ f → ∃ g, whileO (sINewerThan_l2 a x) f (k, out) = some g ∧ (match g with | .inl (_, o, _) => o | .inr (_, o, _) => o) = fillN x.name (seqV a x.name) m k out
 | 0, f, k, out, h1, h2, h3 => by omega
 | m + 1, f, k, out, h1, h2, h3 => by
  obtain ⟨f, rfl⟩ : ∃ f', f = f' + 1 := ⟨f - 1, by omega⟩
  have hnl := hn.1
  unfold fillN
  by_cases hk : k < seqV a x.name
  ·by_cases ho : (out.length : Int) < 20
   ·have hst : sINewerThan_l2 a x (k, out) = some (.inl (prims.arith .add .i64 k 1, out ++ [⟨x.name, prims.arith .add .i64 k 1⟩])) := by
     simp only [sINewerThan_l2, p_impl_SeqOf _ _ ha.ok, pl_lss, decide_eq_true hk, cond_true, pl_int, pl_len, decide_eq_true ho, p_copyName x.name (by omega), Option.bind_some, pl_rlen, List.length_singleton, fits_add out.length 1 32 (by omega)]
    rw [whileO_inl hst, decide_eq_true hk, decide_eq_true ho]
    exact fill_impl a ha x hn m f _ _ (by rw [List.length_append, List.length_singleton]; omega) (by rw [List.length_append, List.length_singleton]; omega) (by omega)
   ·have hst : sINewerThan_l2 a x (k, out) = some (.inr (.inl (k, out, seqV a x.name))) := by
     simp only [sINewerThan_l2, p_impl_SeqOf _ _ ha.ok, Option.bind_some, pl_lss, decide_eq_true hk, cond_true, pl_int, pl_len, decide_eq_false ho, cond_false]
    refine ⟨_, whileO_inr hst, ?_⟩
    rw [decide_eq_true hk, decide_eq_false ho]
    rfl
  ·have hst : sINewerThan_l2 a x (k, out) = some (.inr (.inr (k, out, seqV a x.name))) := by
    simp only [sINewerThan_l2, p_impl_SeqOf _ _ ha.ok, Option.bind_some, pl_lss, decide_eq_false hk, cond_false]
   refine ⟨_, whileO_inr hst, ?_⟩
   rw [decide_eq_false hk]
   rfl
def newF (a b : List DTableEntry) (_ : Nat) (x : DTableEntry) (out : List DTableEntry) : List DTableEntry := fillN x.name (seqV a x.name) 21 (seqV b x.name) out
def newer (a b : List DTableEntry) : List DTableEntry := gath (newF a b) 0 a []
theorem newS_nil : NewS [] := ⟨Nat.zero_le _, fun y hy => by simp at hy⟩
theorem p_spec_NewerThan (a b : List DTableEntry) (ha : TabS a) (hb : TabS b) : sSNewerThan a b = some (newer a b) ∧ NewS (newer a b) := by
 unfold sSNewerThan
 have hl := ha.1
 have W := while_gathE (step := sSNewerThan_l1 a b) (fun s : List DTableEntry => s) a (newF a b) (fun s => ((a.length : Int), s)) (fun _ s => NewS s) [] (by omega) newS_nil (fun i s hi hs => by
  have hn := ha.2 _ (List.getElem_mem hi)
  refine ⟨?_, fillN_ok hn _ _ _ _ hs⟩
  obtain ⟨g, h1, h2⟩ := fill_spec a[i] (seqV a a[i].name) hn 21 fuel (seqV b a[i].name) s hs.1 (by omega) (by unfold fuel; omega)
  simp only [sSNewerThan_l1, lt_len _ hi, nthI_at hi, cond_true, Option.bind_some, p_spec_SeqOf _ _ ha.ok, p_spec_SeqOf _ _ hb.ok, h1]
  unfold newF
  rw [← h2]
  rcases g with ⟨_, o⟩ | ⟨_, o⟩ <;> rfl) (fun s _ => by simp only [sSNewerThan_l1, lt_end]; rfl)
 rw [W.1]
 exact ⟨rfl, W.2⟩
theorem p_impl_NewerThan (a b : List DTableEntry) (ha : TabS a) (hb : TabS b) : sINewerThan a b = some (newer a b) := by
 unfold sINewerThan
 have hl := ha.1
 have W := while_gathE (step := sINewerThan_l1 a b) (fun s : List DTableEntry => s) a (newF a b) (fun s => ((a.length : Int), s)) (fun _ s => NewS s) [] (by omega) newS_nil (fun i s hi hs => by
  have hn := ha.2 _ (List.getElem_mem hi)
  refine ⟨?_, fillN_ok hn _ _ _ _ hs⟩
  obtain ⟨g, h1, h2⟩ := fill_impl a ha a[i] hn 21 fuel (seqV b a[i].name) s hs.1 (by omega) (by unfold fuel; omega)
  simp only [sINewerThan_l1, lt_len _ hi, nthI_at hi, cond_true, Option.bind_some, p_impl_SeqOf _ _ hb.ok, h1]
  unfold newF
  rw [← h2]
  rcases g with ⟨_, o, _⟩ | ⟨_, o, _⟩ <;> rfl) (fun s _ => by simp only [sINewerThan_l1, lt_end]; rfl)
 rw [W.1]
 rfl
def findP (m : DMember) (n : List ByteArray) (i : Int) : List UInt8 × Bool := match nthI m.publications (idxI (pubP n i) m.publications) with
 | some x => (x.content, true)
 | none => ([], false)
theorem p_spec_Find (m : DMember) (h : MemS m) (n : List ByteArray) (i : Int) : sSFindPublication m n i = some (findP m n i) ∧ (findP m n i).1.length ≤ 2 ^ 22 := by
 unfold sSFindPublication findP
 rw [p_l28Find _ _ _ h.pub.ok, Option.bind_some]
 rcases idxI_cases (pubP n i) m.publications with ⟨h1, h2⟩ | ⟨j, x, h1, h2, h3⟩
 ·rw [h1]
  exact ⟨rfl, Nat.zero_le _⟩
 ·have hn : ¬ ((j : Nat) : Int) < 0 := by omega
  have hc := (h.pub.2 x (List.mem_of_getElem? h2)).2
  simp only [h1, pl_lss, decide_eq_false hn, cond_false, nthI_nat, h2, Option.bind_some, pl_rlen, fits_small x.content.length 1 (by omega) (by decide), cond_true]
  exact ⟨trivial, hc⟩
theorem p_impl_Find (m : DMember) (h : MemS m) (n : List ByteArray) (i : Int) : sIFindPublication m n i = some (findP m n i) := by
 unfold sIFindPublication findP
 rw [p_publishedAt _ _ _ h.pub.ok, Option.bind_some]
 rcases idxI_cases (pubP n i) m.publications with ⟨h1, h2⟩ | ⟨j, x, h1, h2, h3⟩
 ·rw [h1]
  rfl
 ·have hn : ¬ ((j : Nat) : Int) < 0 := by omega
  have hc := (h.pub.2 x (List.mem_of_getElem? h2)).2
  simp only [h1, pl_lss, decide_eq_false hn, cond_false, nthI_nat, h2, Option.bind_some, p_Clone_byte x.content (by omega)]
theorem vMem_len {m : DMember} (h : vMem m = true) : m.publications.length ≤ 16 := by
 unfold vMem at h
 simp only [Bool.and_eq_true, Bool.not_eq_true', decide_eq_false_iff_not] at h
 omega
theorem acc_mem {m : DMember} (h : MemS m) {x : DPublication} (hn : NmS x.publisher) (hc : x.content.length ≤ 2 ^ 22) : MemS (acc m x).1 := by
 unfold acc
 cases hv : (decide (x.seq = prims.arith .add .i64 (seqV m.vector x.publisher) 1) && ((put m.vector x.publisher x.seq).2 && vMem (accM m x)))
 ·exact h
 ·rw [Bool.and_eq_true, Bool.and_eq_true] at hv
  have hl := vMem_len hv.2.2
  refine ⟨h.name, put_tab h.vec _ _, by show (accM m x).publications.length ≤ _; omega, fun y hy => ?_⟩
  rcases List.mem_append.1 hy with hy | hy
  ·exact h.pub.2 y hy
  ·rw [List.mem_singleton] at hy
   subst hy
   exact ⟨hn, hc⟩
theorem acc_v {m : DMember} (h : vMem m = true) (x : DPublication) : vMem (acc m x).1 = true := by
 unfold acc
 cases hv : (decide (x.seq = prims.arith .add .i64 (seqV m.vector x.publisher) 1) && ((put m.vector x.publisher x.seq).2 && vMem (accM m x)))
 ·exact h
 ·rw [Bool.and_eq_true, Bool.and_eq_true] at hv
  exact hv.2.2
def catF (fr : DMember) (_ : Nat) (x : DTableEntry) (s : DMember) : DMember := bif (findP fr x.name x.value).2 then (acc s ⟨x.name, x.value, (findP fr x.name x.value).1⟩).1 else s
def catchUp (m fr : DMember) : DMember := gath (catF fr) 0 (newer fr.vector m.vector) m
def tri (m : DMember) : List ByteArray × List DTableEntry × List DPublication := (m.name, m.vector, m.publications)
theorem p_spec_CatchUp (m fr : DMember) (h : MemS m) (hf : MemS fr) : sSCatchUp m fr = some (catchUp m fr) ∧ MemS (catchUp m fr) := by
 unfold sSCatchUp sSMissingFrom
 obtain ⟨hN, hS⟩ := p_spec_NewerThan fr.vector m.vector hf.vec h.vec
 have hl := hS.1
 have W := while_gathE (step := sSCatchUp_l1 fr (newer fr.vector m.vector)) tri (newer fr.vector m.vector) (catF fr) (fun s => (((newer fr.vector m.vector).length : Int), tri s)) (fun _ s => MemS s) m (by omega) h (fun i s hi hs => by
  have hn := hS.2 _ (List.getElem_mem hi)
  obtain ⟨hF, hFl⟩ := p_spec_Find fr hf (newer fr.vector m.vector)[i].name (newer fr.vector m.vector)[i].value
  unfold catF tri
  simp only [sSCatchUp_l1, lt_len _ hi, ridx_at _ hi, List.getElem?_eq_getElem hi, cond_true, Option.bind_some, hF]
  cases hb : (findP fr (newer fr.vector m.vector)[i].name (newer fr.vector m.vector)[i].value).2
  ·exact ⟨rfl, hs⟩
  ·refine ⟨?_, acc_mem hs hn hFl⟩
   rw [cond_true, p_spec_Accept s _ hs hn hFl]
   rfl) (fun s _ => by
  have e : prims.cmp .lss ((newer fr.vector m.vector).length : Int) (prims.int (prims.len (List.map eTableEntry (newer fr.vector m.vector)))) = false := lt_end _ _
  simp only [sSCatchUp_l1, tri, e]
  rfl)
 rw [p_l28Copy m h, Option.bind_some, hN, Option.bind_some, Option.bind_some]
 have W1 := W.1
 unfold tri at W1
 rw [W1]
 exact ⟨rfl, W.2⟩
theorem p_impl_CatchUp (m fr : DMember) (h : MemS m) (hf : MemS fr) : sICatchUp m fr = some (catchUp m fr) := by
 unfold sICatchUp sIMissingFrom
 obtain ⟨_, hS⟩ := p_spec_NewerThan fr.vector m.vector hf.vec h.vec
 have hN := p_impl_NewerThan fr.vector m.vector hf.vec h.vec
 have hl := hS.1
 have W := while_gathE (step := sICatchUp_l1 fr (newer fr.vector m.vector)) tri (newer fr.vector m.vector) (catF fr) (fun s => (((newer fr.vector m.vector).length : Int), tri s)) (fun _ s => MemS s) m (by omega) h (fun i s hi hs => by
  have hn := hS.2 _ (List.getElem_mem hi)
  have hF := p_impl_Find fr hf (newer fr.vector m.vector)[i].name (newer fr.vector m.vector)[i].value
  have hFl := (p_spec_Find fr hf (newer fr.vector m.vector)[i].name (newer fr.vector m.vector)[i].value).2
  unfold catF tri
  simp only [sICatchUp_l1, lt_len _ hi, ridx_at _ hi, List.getElem?_eq_getElem hi, cond_true, Option.bind_some, hF]
  cases hb : (findP fr (newer fr.vector m.vector)[i].name (newer fr.vector m.vector)[i].value).2
  ·exact ⟨rfl, hs⟩
  ·refine ⟨?_, acc_mem hs hn hFl⟩
   rw [cond_true, p_impl_Accept s _ hs hn hFl]
   rfl) (fun s _ => by
  have e : prims.cmp .lss ((newer fr.vector m.vector).length : Int) (prims.int (prims.len (List.map eTableEntry (newer fr.vector m.vector)))) = false := lt_end _ _
  simp only [sICatchUp_l1, tri, e]
  rfl)
 rw [p_copyMember m h, Option.bind_some, hN, Option.bind_some, Option.bind_some]
 have W1 := W.1
 unfold tri at W1
 rw [W1]
 rfl
theorem catchUp_v {m : DMember} (h : vMem m = true) (fr : DMember) : vMem (catchUp m fr) = true := gath_inv (catF fr) (fun s => vMem s = true) (fun i x s hs => by
 unfold catF
 cases (findP fr x.name x.value).2
 ·exact hs
 ·exact acc_v hs _) _ 0 m h
end
end Go.Proofs.YteebeeoimghmhaaGreatDoor
namespace Go.Proofs.YteebeeoimghmhaaGreatDoor
open Go.RowKit
set_option linter.unusedVariables false
set_option linter.unusedSimpArgs false
noncomputable section
def hasD (l : List Int) (i : Int) : Bool := l.any fun x => decide (x = i)
theorem p_l19Has (l : List Int) (i : Int) (hl : l.length ≤ 1048576) : sSl19Has l i = some (hasD l i) := by
 unfold sSl19Has hasD
 rw [while_scan l (fun _ x => decide (x = i)) (fun _ _ => true) .inr (.inl (l.length : Int)) (by omega) (fun j hj => by
  simp only [sSl19Has_l1, lt_len _ hj, nthI_at hj, cond_true, Option.bind_some, pl_eql]) (by simp only [sSl19Has_l1, lt_end]; rfl), scan_const]
 cases h : l.any fun x => decide (x = i) <;> simp
theorem p_Contains (l : List Int) (i : Int) (hl : l.length ≤ 1048576) : sCContains_int l i = some (hasD l i) := by
 unfold sCContains_int sCIndex_int hasD
 rw [while_scan l (fun _ x => decide (x = i)) (fun i _ => (i : Int)) .inr (.inl (l.length : Int)) (by omega) (fun j hj => by
  have e : decide (i = l[j]) = decide (l[j] = i) := decide_eq_decide.2 eq_comm
  simp only [sCIndex_int_l1, lt_len _ hj, nthI_at hj, cond_true, Option.bind_some, pl_eql, e]) (by simp only [sCIndex_int_l1, lt_end]; rfl)]
 have e := idxI_nonneg (fun x => decide (x = i)) l
 unfold idxI at e
 rw [← e]
 cases scan (fun _ x => decide (x = i)) (fun i _ => (i : Int)) 0 l <;> rfl
def syncF (dead : List Int) (i : Nat) (x : DLink) (s : List DMember) : List DMember := bif hasD dead i then s else match s[x.a.toNat]?, s[x.b.toNat]? with
 | some m, some n => match (s.set x.a.toNat (catchUp m n))[x.b.toNat]? with
  | some k => (s.set x.a.toNat (catchUp m n)).set x.b.toNat (catchUp k (catchUp m n))
  | none => s
 | _, _ => s
def syncR (g : DSyncGroup) (dead : List Int) : DSyncGroup := bif vGrp g then ⟨g.topology, gath (syncF dead) 0 g.topology.links g.members⟩ else g
def LInv (n : Nat) (s : List DMember) : Prop := s.length = n ∧ ∀ m ∈ s, vMem m = true ∧ MemS m
theorem LInv.set {n : Nat} {s : List DMember} (h : LInv n s) {m : DMember} (hv : vMem m = true) (hm : MemS m) (j : Nat) : LInv n (s.set j m) := ⟨by rw [List.length_set]; exact h.1, fun x hx => by
 rcases List.mem_or_eq_of_mem_set hx with hx | rfl
 ·exact h.2 x hx
 ·exact ⟨hv, hm⟩⟩
theorem sync_step {dead : List Int} {i : Nat} {x : DLink} {s : List DMember} {n : Nat} (h : LInv n s) (ha : x.a.toNat < n) (hb : x.b.toNat < n) (hd : hasD dead i = false) : ∃ p q k, s[x.a.toNat]? = some p ∧ s[x.b.toNat]? = some q ∧ (s.set x.a.toNat (catchUp p q))[x.b.toNat]? = some k ∧ (s.set x.a.toNat (catchUp p q))[x.a.toNat]? = some (catchUp p q) ∧ MemS p ∧ MemS q ∧ MemS k ∧ MemS (catchUp p q) ∧ syncF dead i x s = (s.set x.a.toNat (catchUp p q)).set x.b.toNat (catchUp k (catchUp p q)) ∧ LInv n (syncF dead i x s) := by
 have hl := h.1
 have e1 : s[x.a.toNat]? = some (s[x.a.toNat]'(by omega)) := List.getElem?_eq_getElem (by omega)
 have e2 : s[x.b.toNat]? = some (s[x.b.toNat]'(by omega)) := List.getElem?_eq_getElem (by omega)
 generalize s[x.a.toNat]'(by omega) = p at e1
 generalize s[x.b.toNat]'(by omega) = q at e2
 obtain ⟨pv, pm⟩ := h.2 p (List.mem_of_getElem? e1)
 obtain ⟨qv, qm⟩ := h.2 q (List.mem_of_getElem? e2)
 have cm := (p_spec_CatchUp p q pm qm).2
 have h1 := h.set (catchUp_v pv q) cm x.a.toNat
 have hl1 := h1.1
 have e3 : (s.set x.a.toNat (catchUp p q))[x.b.toNat]? = some ((s.set x.a.toNat (catchUp p q))[x.b.toNat]'(by omega)) := List.getElem?_eq_getElem (by omega)
 generalize (s.set x.a.toNat (catchUp p q))[x.b.toNat]'(by omega) = k at e3
 obtain ⟨kv, km⟩ := h1.2 k (List.mem_of_getElem? e3)
 have e4 : (s.set x.a.toNat (catchUp p q))[x.a.toNat]? = some (catchUp p q) := List.getElem?_set_self (by omega)
 have e5 : syncF dead i x s = (s.set x.a.toNat (catchUp p q)).set x.b.toNat (catchUp k (catchUp p q)) := by
  unfold syncF
  rw [hd, e1, e2]
  simp only [cond_false, e3]
 refine ⟨p, q, k, e1, e2, e3, e4, pm, qm, km, cm, e5, ?_⟩
 rw [e5]
 exact h1.set (catchUp_v kv _) (p_spec_CatchUp k _ km cm).2 _
theorem vGrp_parts {g : DSyncGroup} (h : vGrp g = true) : validT g.topology = true ∧ ((g.members.length : Nat) : Int) = g.topology.size ∧ ∀ m ∈ g.members, vMem m = true := by
 unfold vGrp at h
 rw [Bool.and_eq_true, Bool.and_eq_true, decide_eq_true_eq] at h
 refine ⟨h.1, h.2.1, fun m hm => ?_⟩
 have h2 := h.2.2
 cases hc : scan badM (fun _ _ => false) 0 g.members with
 | some b =>
  rw [hc] at h2
  obtain ⟨j, x, _, _, h3⟩ := scan_some _ _ _ _ _ hc
  simp only at h2
  rw [h3] at h2
  cases h2
 | none =>
  obtain ⟨j, hj⟩ := List.getElem?_of_mem hm
  have := scan_none _ _ _ 0 hc j m hj
  unfold badM at this
  rw [Bool.or_eq_false_iff] at this
  simpa using this.1
theorem vGrp_link {g : DSyncGroup} (h : vGrp g = true) {i : Nat} (hi : i < g.topology.links.length) : 0 ≤ g.topology.links[i].a ∧ g.topology.links[i].a.toNat < g.members.length ∧ 0 ≤ g.topology.links[i].b ∧ g.topology.links[i].b.toNat < g.members.length := by
 obtain ⟨h1, h2, _⟩ := vGrp_parts h
 obtain ⟨s1, s2⟩ := validT_size h1
 unfold validT at h1
 cases hc : scan (badS g.topology) (fun _ _ => false) 0 g.topology.links with
 | some b =>
  rw [hc] at h1
  obtain ⟨j, x, _, _, h3⟩ := scan_some _ _ _ _ _ hc
  simp only at h1
  rw [h3] at h1
  cases h1
 | none =>
  have h3 := scan_none _ _ _ 0 hc i g.topology.links[i] (List.getElem?_eq_getElem hi)
  unfold badS at h3
  rw [Bool.or_eq_false_iff, Bool.or_eq_false_iff, pl_sub _ _ (by omega) (by omega)] at h3
  have h4 := h3.1
  have h5 := h3.2.1
  simp only [Bool.not_eq_false', decide_eq_true_eq] at h4 h5
  omega
theorem vMem_sz {m : DMember} (h : vMem m = true) : szMember m ≤ 4000 := by
 have hl := vMem_len h
 unfold vMem at h
 simp only [Bool.and_eq_true] at h
 obtain ⟨h1, _, h3, _, _, h6⟩ := h
 have hg : Good m.vector := by
  unfold vVec at h3
  rw [Bool.and_eq_true] at h3
  exact vTab_good h3.2
 have hname : ∀ n : List ByteArray, vName n = true → szL ByteArray.size n ≤ 54 := fun n hn => by
  obtain ⟨g1, g2⟩ := vName_parts hn
  have := szL_le ByteArray.size 8 n g2
  omega
 have hv := good_sz hg
 have hn := hname _ h1
 have hp : szL szPublication m.publications ≤ m.publications.length * (114 + 1) := szL_le szPublication 114 _ fun x hx => by
  cases hc : scan (badP m) (fun _ _ => false) 0 m.publications with
  | some b =>
   rw [hc] at h6
   obtain ⟨j, y, _, _, h7⟩ := scan_some _ _ _ _ _ hc
   simp only at h6
   rw [h7] at h6
   cases h6
  | none =>
   obtain ⟨j, hj⟩ := List.getElem?_of_mem hx
   have h7 := scan_none _ _ _ 0 hc j x hj
   unfold badP at h7
   rw [Bool.or_eq_false_iff, Bool.or_eq_false_iff] at h7
   obtain ⟨h8, h9, _⟩ := h7
   simp only [Bool.not_eq_false', decide_eq_true_eq, decide_eq_false_iff_not] at h8 h9
   have hpn : vName x.publisher = true := by
    unfold seqV at h8
    rcases idxI_cases (entP x.publisher) m.vector with ⟨g1, _⟩ | ⟨q, y, g1, g2, g3⟩
    ·rw [g1] at h8
     have : nthI m.vector (-1) = none := nthI_neg _ _ (by omega)
     rw [this] at h8
     simp only at h8
     omega
    ·have e : y.name = x.publisher := by simpa [entP] using g3
     rw [← e]
     exact hg.2 y (List.mem_of_getElem? g2)
   have e2 : szPublication x = szL ByteArray.size x.publisher + szL (fun _ => 0) x.content := rfl
   have := hname _ hpn
   have := szBytes x.content
   omega
 have e := szM m
 omega
def RInv (g : DSyncGroup) : Prop := szL (fun _ => 0) g.topology.links ≤ 1048576 ∧ szL szMember g.members ≤ 1048576
theorem RInv.gro {g : DSyncGroup} (h : RInv g) : GroS g := groS_of (by have := szG g; have := h.1; have := h.2; omega)
theorem GroS.grp {g : DSyncGroup} (h : GroS g) : GrpOk g := ⟨by have := h.1; omega, by have := h.2.1; omega, fun m hm => (h.2.2 m hm).ok⟩
theorem p_spec_SyncRound (g : DSyncGroup) (dead : List Int) (h : RInv g) (hd : dead.length ≤ 1048576) : sSSyncRound g dead = some (syncR g dead) ∧ RInv (syncR g dead) := by
 unfold sSSyncRound syncR
 have hG := h.gro
 have hl := hG.1
 rw [p_l37Copy g hG, Option.bind_some]
 cases hv : vGrp g with
 | false =>
  have hst : ∃ r, sSSyncRound_l1 g dead (0, g.members) = some (.inr r) ∧ (r = .inl (0, g.members) ∨ r = .inr (0, g.members)) := by
   simp only [sSSyncRound_l1, p_spec_ValidSyncGroup g hG.grp, hv, Option.bind_some, cond_false]
   cases prims.cmp .lss (0 : Int) (prims.int (prims.len (List.map eLink g.topology.links)))
   ·exact ⟨_, rfl, .inr rfl⟩
   ·exact ⟨_, rfl, .inl rfl⟩
  obtain ⟨r, h1, h2⟩ := hst
  obtain ⟨f, hf⟩ : ∃ f, fuel = f + 1 := ⟨fuel - 1, by unfold fuel; omega⟩
  rw [hf, whileO_inr h1]
  rcases h2 with rfl | rfl <;> exact ⟨rfl, h⟩
 | true =>
  obtain ⟨h1, h2, h3⟩ := vGrp_parts hv
  obtain ⟨s1, s2⟩ := validT_size h1
  have W := while_gathE (step := sSSyncRound_l1 g dead) (fun s : List DMember => s) g.topology.links (syncF dead) (fun s => .inr ((g.topology.links.length : Int), s)) (fun _ s => LInv g.members.length s) g.members (by omega) ⟨rfl, fun m hm => ⟨h3 m hm, hG.2.2 m hm⟩⟩ (fun i s hi hs => by
   obtain ⟨a0, a1, b0, b1⟩ := vGrp_link hv hi
   have hsl := hs.1
   simp only [sSSyncRound_l1, lt_len _ hi, cond_true, p_spec_ValidSyncGroup g hG.grp, hv, Option.bind_some, p_l19Has dead (i : Int) hd]
   cases hq : hasD dead (i : Int) with
   | true =>
    rw [cond_true]
    have e : syncF dead i g.topology.links[i] s = s := by unfold syncF; rw [hq]; rfl
    rw [e]
    exact ⟨rfl, hs⟩
   | false =>
    obtain ⟨p, q, k, e1, e2, e3, e4, pm, qm, km, cm, e5, e6⟩ := sync_step hs a1 b1 hq
    refine ⟨?_, e6⟩
    have r1 : ∀ l : List DMember, l.length = s.length → prims.ridx 0 (prims.len (List.map eMember l)) g.topology.links[i].a = some g.topology.links[i].a.toNat := fun l hll => by
     have := ridx_at eMember (l := l) (i := g.topology.links[i].a.toNat) (by omega)
     rwa [Int.toNat_of_nonneg a0] at this
    have r2 : ∀ l : List DMember, l.length = s.length → prims.ridx 0 (prims.len (List.map eMember l)) g.topology.links[i].b = some g.topology.links[i].b.toNat := fun l hll => by
     have := ridx_at eMember (l := l) (i := g.topology.links[i].b.toNat) (by omega)
     rwa [Int.toNat_of_nonneg b0] at this
    simp only [cond_false, nthI_at hi, Option.bind_some, r1 s rfl, r2 s rfl, e1, e2, (p_spec_CatchUp p q pm qm).1, r2 (s.set g.topology.links[i].a.toNat (catchUp p q)) (List.length_set ..), e3, (p_spec_CatchUp k _ km cm).1, e5]) (fun s _ => by simp only [sSSyncRound_l1, lt_end]; rfl)
  rw [W.1]
  refine ⟨rfl, h.1, ?_⟩
  have hI := W.2
  have hz := szL_le szMember 4000 _ fun m hm => vMem_sz (hI.2 m hm).1
  have hlen := hI.1
  show szL szMember (gath (syncF dead) 0 g.topology.links g.members) ≤ _
  rw [hlen] at hz
  omega
theorem p_impl_SyncRound (g : DSyncGroup) (dead : List Int) (h : RInv g) (hd : dead.length ≤ 1048576) : sISyncRound g dead = some (syncR g dead) := by
 unfold sISyncRound syncR
 have hG := h.gro
 have hl := hG.1
 rw [p_copyGroup g hG, Option.bind_some, p_impl_ValidSyncGroup g hG.grp, Option.bind_some, pl_bnot]
 cases hv : vGrp g with
 | false => rfl
 | true =>
  obtain ⟨h1, h2, h3⟩ := vGrp_parts hv
  have W := while_gathE (step := sISyncRound_l1 g dead) (fun s : List DMember => s) g.topology.links (syncF dead) (fun s => ((g.topology.links.length : Int), s)) (fun _ s => LInv g.members.length s) g.members (by omega) ⟨rfl, fun m hm => ⟨h3 m hm, hG.2.2 m hm⟩⟩ (fun i s hi hs => by
   obtain ⟨a0, a1, b0, b1⟩ := vGrp_link hv hi
   have hsl := hs.1
   simp only [sISyncRound_l1, lt_len _ hi, cond_true, nthI_at hi, Option.bind_some, p_Contains dead (i : Int) hd, pl_bnot]
   cases hq : hasD dead (i : Int) with
   | true =>
    have e : syncF dead i g.topology.links[i] s = s := by unfold syncF; rw [hq]; rfl
    rw [e]
    exact ⟨rfl, hs⟩
   | false =>
    obtain ⟨p, q, k, e1, e2, e3, e4, pm, qm, km, cm, e5, e6⟩ := sync_step hs a1 b1 hq
    refine ⟨?_, e6⟩
    have r1 : ∀ l : List DMember, l.length = s.length → prims.ridx 0 (prims.len (List.map eMember l)) g.topology.links[i].a = some g.topology.links[i].a.toNat := fun l hll => by
     have := ridx_at eMember (l := l) (i := g.topology.links[i].a.toNat) (by omega)
     rwa [Int.toNat_of_nonneg a0] at this
    have r2 : ∀ l : List DMember, l.length = s.length → prims.ridx 0 (prims.len (List.map eMember l)) g.topology.links[i].b = some g.topology.links[i].b.toNat := fun l hll => by
     have := ridx_at eMember (l := l) (i := g.topology.links[i].b.toNat) (by omega)
     rwa [Int.toNat_of_nonneg b0] at this
    simp only [Bool.not_false, cond_true, Option.bind_some, r1 s rfl, r2 s rfl, e1, e2, p_impl_CatchUp p q pm qm, r1 (s.set g.topology.links[i].a.toNat (catchUp p q)) (List.length_set ..), r2 (s.set g.topology.links[i].a.toNat (catchUp p q)) (List.length_set ..), e3, e4, p_impl_CatchUp k _ km cm, e5]) (fun s _ => by simp only [sISyncRound_l1, lt_end]; rfl)
  rw [Bool.not_true, cond_false, W.1]
  rfl
theorem RInv_of {g : DSyncGroup} (h : szSyncGroup g ≤ 1048576) : RInv g := by
 have := szG g
 exact ⟨by omega, by omega⟩
theorem szInt : ∀ l : List Int, szL (fun _ => 0) l = l.length
 | [] => rfl
 | x :: l => by simp only [szL, szInt l, List.length_cons]; omega
end
end Go.Proofs.YteebeeoimghmhaaGreatDoor
namespace Go.Proofs.YteebeeoimghmhaaGreatDoor
open Go.RowKit
set_option linter.unusedVariables false
set_option linter.unusedSimpArgs false
noncomputable section
def iterR (dead : List Int) : Nat → DSyncGroup → DSyncGroup
 | 0, g => g
 | m + 1, g => iterR dead m (syncR g dead)
def rndR (g : DSyncGroup) (dead : List Int) (n : Int) : DSyncGroup := bif decide (0 ≤ n ∧ n ≤ 20) then iterR dead n.toNat g else g
theorem iter_inv {dead : List Int} (hd : dead.length ≤ 1048576) : ∀ (m : Nat) (g : DSyncGroup), RInv g → RInv (iterR dead m g)
 | 0, g, h => h
 | m + 1, g, h => iter_inv hd m _ (p_spec_SyncRound g dead h hd).2
theorem rnd_inv {dead : List Int} (hd : dead.length ≤ 1048576) (g : DSyncGroup) (n : Int) (h : RInv g) : RInv (rndR g dead n) := by
 unfold rndR
 cases decide (0 ≤ n ∧ n ≤ 20)
 ·exact h
 ·exact iter_inv hd _ g h
theorem rnd_spec {dead : List Int} (hd : dead.length ≤ 1048576) (n : Nat) (hn : n ≤ 20) : ∀ (m i f : Nat) (g : DSyncGroup), i + m = n → m < f → RInv g → whileO (sSSyncRounds_l1 dead (n : Int)) f ((i : Int), g.topology.size, g.topology.links, g.members) = some (.inr ((n : Int), (iterR dead m g).topology.size, (iterR dead m g).topology.links, (iterR dead m g).members))
 | 0, i, f, g, hi, hf, h => by
  obtain ⟨f, rfl⟩ : ∃ f', f = f' + 1 := ⟨f - 1, by omega⟩
  have hst : sSSyncRounds_l1 dead (n : Int) ((i : Int), g.topology.size, g.topology.links, g.members) = some (.inr (.inr ((i : Int), g.topology.size, g.topology.links, g.members))) := by
   simp only [sSSyncRounds_l1, pl_lss, decide_eq_false (show ¬ ((i : Nat) : Int) < (n : Int) by omega), cond_false]
  rw [whileO_inr hst]
  have : i = n := by omega
  subst this
  rfl
 | m + 1, i, f, g, hi, hf, h => by
  obtain ⟨f, rfl⟩ : ∃ f', f = f' + 1 := ⟨f - 1, by omega⟩
  obtain ⟨hs, hI⟩ := p_spec_SyncRound g dead h hd
  have hs' : sSSyncRound (⟨(⟨g.topology.size, g.topology.links⟩ : DTopology), g.members⟩ : DSyncGroup) dead = some (syncR g dead) := hs
  have hst : sSSyncRounds_l1 dead (n : Int) ((i : Int), g.topology.size, g.topology.links, g.members) = some (.inl (((i + 1 : Nat) : Int), (syncR g dead).topology.size, (syncR g dead).topology.links, (syncR g dead).members)) := by
   simp only [sSSyncRounds_l1, pl_lss, pl_leq, decide_eq_true (show ((i : Nat) : Int) < (n : Int) by omega), decide_eq_true (show ((n : Nat) : Int) ≤ 20 by omega), cond_true, hs', Option.bind_some, pl_inc i n (by omega) (by omega)]
  rw [whileO_inl hst]
  exact rnd_spec hd n hn m (i + 1) f _ (by omega) (by omega) hI
theorem rnd_impl {dead : List Int} (hd : dead.length ≤ 1048576) (n : Nat) (hn : n ≤ 20) : ∀ (m i f : Nat) (g : DSyncGroup), i + m = n → m < f → RInv g → whileO (sISyncRounds_l1 dead (n : Int)) f ((i : Int), g.topology.size, g.topology.links, g.members) = some ((n : Int), (iterR dead m g).topology.size, (iterR dead m g).topology.links, (iterR dead m g).members)
 | 0, i, f, g, hi, hf, h => by
  obtain ⟨f, rfl⟩ : ∃ f', f = f' + 1 := ⟨f - 1, by omega⟩
  have hst : sISyncRounds_l1 dead (n : Int) ((i : Int), g.topology.size, g.topology.links, g.members) = some (.inr ((i : Int), g.topology.size, g.topology.links, g.members)) := by
   simp only [sISyncRounds_l1, pl_lss, decide_eq_false (show ¬ ((i : Nat) : Int) < (n : Int) by omega), cond_false]
  rw [whileO_inr hst]
  have : i = n := by omega
  subst this
  rfl
 | m + 1, i, f, g, hi, hf, h => by
  obtain ⟨f, rfl⟩ : ∃ f', f = f' + 1 := ⟨f - 1, by omega⟩
  have hI := (p_spec_SyncRound g dead h hd).2
  have hs' : sISyncRound (⟨(⟨g.topology.size, g.topology.links⟩ : DTopology), g.members⟩ : DSyncGroup) dead = some (syncR g dead) := p_impl_SyncRound g dead h hd
  have hst : sISyncRounds_l1 dead (n : Int) ((i : Int), g.topology.size, g.topology.links, g.members) = some (.inl (((i + 1 : Nat) : Int), (syncR g dead).topology.size, (syncR g dead).topology.links, (syncR g dead).members)) := by
   simp only [sISyncRounds_l1, pl_lss, decide_eq_true (show ((i : Nat) : Int) < (n : Int) by omega), cond_true, hs', Option.bind_some, pl_inc i n (by omega) (by omega)]
  rw [whileO_inl hst]
  exact rnd_impl hd n hn m (i + 1) f _ (by omega) (by omega) hI
theorem p_spec_SyncRounds (g : DSyncGroup) (dead : List Int) (n : Int) (h : RInv g) (hd : dead.length ≤ 1048576) : sSSyncRounds g dead n = some (rndR g dead n) := by
 unfold sSSyncRounds rndR
 rw [p_l37Copy g h.gro, Option.bind_some]
 by_cases hn : 0 ≤ n ∧ n ≤ 20
 ·obtain ⟨k, rfl⟩ : ∃ k : Nat, n = k := ⟨n.toNat, by omega⟩
  rw [decide_eq_true hn]
  have W := rnd_spec hd k (by omega) k 0 fuel g (by omega) (by unfold fuel; omega) h
  rw [show (((0 : Nat) : Int)) = 0 from rfl] at W
  rw [W]
  rfl
 ·rw [decide_eq_false hn]
  obtain ⟨f, hf⟩ : ∃ f, fuel = f + 1 := ⟨fuel - 1, by unfold fuel; omega⟩
  by_cases h0 : (0 : Int) < n
  ·have hst : sSSyncRounds_l1 dead n (0, g.topology.size, g.topology.links, g.members) = some (.inr (.inl (0, g.topology.size, g.topology.links, g.members))) := by
    simp only [sSSyncRounds_l1, pl_lss, pl_leq, decide_eq_true h0, decide_eq_false (show ¬ n ≤ 20 by omega), cond_true, cond_false]
   rw [hf, whileO_inr hst]
   rfl
  ·have hst : sSSyncRounds_l1 dead n (0, g.topology.size, g.topology.links, g.members) = some (.inr (.inr (0, g.topology.size, g.topology.links, g.members))) := by
    simp only [sSSyncRounds_l1, pl_lss, decide_eq_false h0, cond_false]
   rw [hf, whileO_inr hst]
   rfl
theorem p_impl_SyncRounds (g : DSyncGroup) (dead : List Int) (n : Int) (h : RInv g) (hd : dead.length ≤ 1048576) : sISyncRounds g dead n = some (rndR g dead n) := by
 unfold sISyncRounds rndR
 rw [p_copyGroup g h.gro, Option.bind_some, p_InRange, Option.bind_some]
 by_cases hn : 0 ≤ n ∧ n ≤ 20
 ·obtain ⟨k, rfl⟩ : ∃ k : Nat, n = k := ⟨n.toNat, by omega⟩
  rw [decide_eq_true hn]
  have W := rnd_impl hd k (by omega) k 0 fuel g (by omega) (by unfold fuel; omega) h
  rw [show (((0 : Nat) : Int)) = 0 from rfl] at W
  rw [cond_true, W]
  rfl
 ·rw [decide_eq_false hn]
  rfl
theorem p_lawFnExactSyncRounds (x0 : DSyncGroup) (x1 : (List Int)) (x2 : Int) (k0 : okSyncGroup x0) (k1 : LimL I64 x1) (k2 : I64 x2) : sLFnExactSyncRounds x0 x1 x2 = some true := by
 unfold sLFnExactSyncRounds
 rw [pl_gtr, pl_int, pl_len]
 by_cases hn : x1.length ≤ 1048576
 rotate_left
 ·rw [decide_eq_true (show (1048576 : Int) < ((x1.length : Nat) : Int) by omega)]; rfl
 rw [decide_eq_false (show ¬ (1048576 : Int) < ((x1.length : Nat) : Int) by omega), cond_false]
 rw [p_szSyncGroup x0 1048576 k0 (by decide) (by decide), Option.bind_some, pl_lss]
 by_cases hs : ((szSyncGroup x0 : Nat) : Int) ≤ 1048576
 rotate_left
 ·rw [lt_remain hs]; rfl
 rw [not_lt_remain hs, cond_false]
 have hA : szSyncGroup x0 ≤ 1048576 := by omega
 have hB : szL (fun _ => 0) x1 ≤ 1048576 := by rw [szInt]; exact hn
 have hR := RInv_of hA
 have hc := grp_cnt hA
 have hI : RInv (rndR x0 x1 x2) := rnd_inv hn x0 x2 hR
 have hz : szSyncGroup (rndR x0 x1 x2) ≤ 2097152 := by have := szG (rndR x0 x1 x2); have := hI.1; have := hI.2; omega
 have hcd := grp_cnt2 (show szSyncGroup (rndR x0 x1 x2) ≤ 1099511627 by omega)
 have hmk : sLmarkSyncGroup x0 1 = some (mtSyncGroup x0 1, 1 + ((cntL cLink x0.topology.links + cntL cMember x0.members : Nat) : Int)) := if_pos ⟨by decide, by omega⟩
 have hn1 : sLmarkIntS x1 (1 + ((cntL cLink x0.topology.links + cntL cMember x0.members : Nat) : Int)) = some _ := if_pos ⟨by omega, by omega⟩
 have hs2 : sSSyncRounds x0 x1 x2 = some (rndR x0 x1 x2) := p_spec_SyncRounds x0 x1 x2 hR hn
 have hi2 : sISyncRounds x0 x1 x2 = some (rndR x0 x1 x2) := p_impl_SyncRounds x0 x1 x2 hR hn
 clear hI
 generalize rndR x0 x1 x2 = D at hz hcd hs2 hi2
 have hb : (1 : Int) + ((cntL cLink D.topology.links + cntL cMember D.members : Nat) : Int) ≤ 1099511627776 := by omega
 have hd1 := p_markSyncGroup D 1 (by decide) hb
 have hd2 := p_heldSyncGroup D 1 (by decide) hb (by have h1 := szL_len szMember D.members; have h2 := szG D; omega)
 have hq := p_eqSyncGroup D (by omega)
 have hb2 : (0 : Int) ≤ 1 + ((cntL cLink D.topology.links + cntL cMember D.members : Nat) : Int) := by omega
 have e : (⟨(⟨D.topology.size, (mtSyncGroup D 1).topology.links⟩ : DTopology), (mtSyncGroup D 1).members⟩ : DSyncGroup) = mtSyncGroup D 1 := rfl
 simp only [p_toSyncGroup x0 hA, p_toIntS x1 hB, hs2, hi2, Option.bind_some, hq, p_eqSyncGroup x0 (by omega), p_eqIntS x1 (by omega), pl_bnot, Bool.not_true, cond_false]
 simp only [hmk, hn1, Option.bind_some, lss_no (show (0 : Int) ≤ 1 + ((cntL cLink x0.topology.links + cntL cMember x0.members : Nat) : Int) + ((x1.length : Nat) : Int) by omega), cond_false, hd1, e, hd2, lss_no hb2, eq_self_i]
end
end Go.Proofs.YteebeeoimghmhaaGreatDoor
