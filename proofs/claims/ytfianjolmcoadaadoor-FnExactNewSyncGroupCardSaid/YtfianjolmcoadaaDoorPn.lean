/- Numbers as text, valid topologies, a new sync group: both ways. Joined: Pg2, Pv, Pn. -/
import Derived.Test.YtfianjolmcoadaaDoorTx
import Derived.Test.YtfianjolmcoadaaDoorPl
import Derived.Test.YtfianjolmcoadaaDoorSd
import Derived.Test.YtfianjolmcoadaaDoorEnc
namespace Go.Proofs.YtfianjolmcoadaaDoor
open Go.RowKit
set_option linter.unusedVariables false
set_option linter.unusedSimpArgs false
theorem p_Itoa (n : Int) (h : I64 n) : s_strconv_Itoa n = some (bs (Go.Lib.itoa n)) := by
  unfold s_strconv_Itoa
  rw [if_pos ⟨h.1, h.2⟩]
  rfl
theorem p_impl_FormatInt (n : Int) (h : I64 n) : s_impl_FormatInt n = some (bs (Go.Lib.itoa n)) := by
  unfold s_impl_FormatInt
  rw [p_Itoa n h]
  rfl
theorem tmod_ten (n : Int) : (0 ≤ n ∧ n.tmod 10 = ((n.natAbs % 10 : Nat) : Int) ∧ n.tdiv 10 = ((n.natAbs / 10 : Nat) : Int)) ∨ (n < 0 ∧ n.tmod 10 = -((n.natAbs % 10 : Nat) : Int) ∧ n.tdiv 10 = -((n.natAbs / 10 : Nat) : Int)) := by
  rcases Int.le_total 0 n with h | h
  · left
    obtain ⟨m, rfl⟩ := Int.eq_ofNat_of_zero_le h
    exact ⟨h, rfl, rfl⟩
  · by_cases h0 : n = 0
    · subst h0; left; exact ⟨Int.le_refl _, rfl, rfl⟩
    · right
      obtain ⟨m, hm⟩ := Int.eq_ofNat_of_zero_le (show 0 ≤ -n by omega)
      have hn : n = -(m : Int) := by omega
      subst hn
      refine ⟨by omega, ?_, ?_⟩
      · rw [Int.neg_tmod, Int.natAbs_neg]; rfl
      · rw [Int.neg_tdiv, Int.natAbs_neg]; rfl
theorem byW_digit (k : Nat) (h : k < 10) : prims.byW (48 + (k : Int)) = UInt8.ofNat (48 + k) := by
  show UInt8.ofNat (IntKind.u8.wrap (48 + (k : Int))).toNat = _
  have e : IntKind.u8.wrap (48 + (k : Int)) = (48 + (k : Int)) % 256 := by simp [IntKind.wrap, IntKind.signed, IntKind.bits]
  rw [e]
  congr 1
  omega
theorem p_digits (n : Int) (h : I64 n) : whileO s_spec_FormatInt_l1 fuel (ByteArray.mk (Array.mk []), n) = some (bs (dg0 n.natAbs), 0) := by
  have hlen : ∀ u : Nat, u < 10 ^ 19 → (dg0 u).length ≤ 19 := fun u hu => by
    unfold dg0
    split
    · simp
    · rw [decDigits_len]; exact nDigits_le 19 u (by omega) hu
  have hn := hlen n.natAbs (by unfold I64 at h; omega)
  have H := while_meas (step := s_spec_FormatInt_l1) (fun x => (bs (dg0 x.2.natAbs ++ bl x.1), (0 : Int))) (fun x => (dg0 x.2.natAbs).length) (fun x => I64 x.2 ∧ x.1.size + (dg0 x.2.natAbs).length ≤ 40) (fun x hI => by
    obtain ⟨v2, v3⟩ := x
    obtain ⟨hI1, hsz⟩ := hI
    have hl := hI1.1
    have hu := hI1.2
    simp only at hl hu hsz
    by_cases h0 : v3 = 0
    · right
      subst h0
      simp only [s_spec_FormatInt_l1, pl_neq, decide_true, Bool.not_true, cond_false]
      show some (Sum.inr (v2, 0)) = some (Sum.inr (bs (dg0 0 ++ bl v2), 0))
      rw [show dg0 0 = [] from rfl, List.nil_append, bs_bl]
    · left
      have hu0 : v3.natAbs ≠ 0 := by omega
      have hst := dg0_step v3.natAbs hu0
      have hlst : (dg0 v3.natAbs).length = (dg0 (v3.natAbs / 10)).length + 1 := by rw [hst]; simp
      have hcat : prims.catOk (prims.ofB [UInt8.ofNat (48 + v3.natAbs % 10)]) v2 = true := by
        rw [← bs_bl v2]
        exact catOk_bs [_] _ (by rw [bl_len]; simp; omega)
      have hsc : prims.scat (prims.ofB [UInt8.ofNat (48 + v3.natAbs % 10)]) v2 = bs ([UInt8.ofNat (48 + v3.natAbs % 10)] ++ bl v2) := by
        conv => lhs; rw [← bs_bl v2]
        exact scat_bs [_] _
      have hrem : prims.arith .rem .i64 v3 10 = v3.tmod 10 := rfl
      have hquo : prims.arith .quo .i64 v3 10 = v3.tdiv 10 := by
        show IntKind.i64.wrap (v3.tdiv 10) = _
        rw [IntKind.wrap_i64]
        rcases tmod_ten v3 with ⟨_, _, e⟩ | ⟨_, _, e⟩ <;> omega
      refine ⟨(bs ([UInt8.ofNat (48 + v3.natAbs % 10)] ++ bl v2), v3.tdiv 10), ?_, ?_, ?_, ?_⟩
      · simp only [s_spec_FormatInt_l1, pl_neq, pl_eql, pl_lss, decide_eq_false h0, Bool.not_false, cond_true, hrem, hquo, show decide ((10 : Int) = 0) = false from rfl, cond_false]
        have hk := byW_digit (v3.natAbs % 10) (by omega)
        rcases tmod_ten v3 with ⟨hp, e, _⟩ | ⟨hp, e, _⟩
        · have e1 : prims.arith .add .i64 48 (v3.tmod 10) = 48 + ((v3.natAbs % 10 : Nat) : Int) := by rw [e]; exact pl_add _ _ (by omega) (by omega)
          have e2 : ¬ v3.tmod 10 < 0 := by omega
          simp only [decide_eq_false e2, cond_false, e1, hk, hcat, cond_true, hsc]
        · by_cases hz : v3.natAbs % 10 = 0
          · have e1 : prims.arith .add .i64 48 (v3.tmod 10) = 48 + ((v3.natAbs % 10 : Nat) : Int) := by rw [e, hz]; exact pl_add _ _ (by omega) (by omega)
            have e2 : ¬ v3.tmod 10 < 0 := by omega
            simp only [decide_eq_false e2, cond_false, e1, hk, hcat, cond_true, hsc]
          · have e0 : prims.arith .sub .i64 0 (v3.tmod 10) = ((v3.natAbs % 10 : Nat) : Int) := by rw [e, pl_sub _ _ (by omega) (by omega)]; omega
            have e1 : prims.arith .add .i64 48 ((v3.natAbs % 10 : Nat) : Int) = 48 + ((v3.natAbs % 10 : Nat) : Int) := pl_add _ _ (by omega) (by omega)
            have e2 : v3.tmod 10 < 0 := by omega
            simp only [decide_eq_true e2, cond_true, e0, e1, hk, hcat, hsc]
      · have hna : (v3.tdiv 10).natAbs = v3.natAbs / 10 := by rcases tmod_ten v3 with ⟨_, _, e⟩ | ⟨_, _, e⟩ <;> omega
        refine ⟨?_, ?_⟩
        · show I64 (v3.tdiv 10)
          unfold I64
          rcases tmod_ten v3 with ⟨_, _, e⟩ | ⟨_, _, e⟩ <;> omega
        · show ([UInt8.ofNat (48 + v3.natAbs % 10)] ++ bl v2).length + (dg0 (v3.tdiv 10).natAbs).length ≤ 40
          rw [hna, List.length_append, bl_len]
          simp only [List.length_cons, List.length_nil]
          omega
      · show (dg0 (v3.tdiv 10).natAbs).length < (dg0 v3.natAbs).length
        have hna : (v3.tdiv 10).natAbs = v3.natAbs / 10 := by rcases tmod_ten v3 with ⟨_, _, e⟩ | ⟨_, _, e⟩ <;> omega
        rw [hna]
        omega
      · show (bs (dg0 v3.natAbs ++ bl v2), (0 : Int)) = (bs (dg0 (v3.tdiv 10).natAbs ++ ([UInt8.ofNat (48 + v3.natAbs % 10)] ++ bl v2)), 0)
        have hna : (v3.tdiv 10).natAbs = v3.natAbs / 10 := by rcases tmod_ten v3 with ⟨_, _, e⟩ | ⟨_, _, e⟩ <;> omega
        rw [hna, hst, List.append_assoc]) fuel (bs [], n) ⟨h, by show 0 + (dg0 n.natAbs).length ≤ 40; omega⟩ (by unfold fuel; simp only; omega)
  simp only [bl_bs, List.append_nil] at H
  exact H
theorem p_spec_FormatInt (n : Int) (h : I64 n) : s_spec_FormatInt n = some (bs (Go.Lib.itoa n)) := by
  unfold s_spec_FormatInt
  rw [p_digits n h]
  by_cases h0 : n = 0
  · subst h0
    simp only [pl_eql, decide_true, cond_true]
    have : Go.Lib.itoa 0 = [48] := by unfold Go.Lib.itoa; rw [if_neg (by decide), Go.Lib.decDigits]; rfl
    rw [this]
    rfl
  · have hd : dg0 n.natAbs = Go.Lib.decDigits n.natAbs := if_neg (by omega)
    simp only [pl_eql, pl_lss, decide_eq_false h0, cond_false, Option.bind_some, hd]
    unfold Go.Lib.itoa
    by_cases hn : n < 0
    · rw [if_pos hn]
      have hl := itoa_len n h
      unfold Go.Lib.itoa at hl
      rw [if_pos hn] at hl
      simp only [decide_eq_true hn, cond_true, bs_mk, catOk_bs [45] (Go.Lib.decDigits n.natAbs) (by simp only [List.length_cons, List.length_nil] at *; omega), scat_bs]
      rfl
    · rw [if_neg hn, show n.toNat = n.natAbs by omega]
      simp only [decide_eq_false hn, cond_false]
theorem i64_nat {n : Nat} (h : n ≤ 2 ^ 40) : I64 (n : Int) := ⟨by omega, by omega⟩
section
attribute [local simp] pl_lss pl_leq pl_gtr pl_geq pl_eql pl_neq pl_int pl_len pl_rlen pl_fits pl_bnot pl_beq nthI_nat pl_ridx pl_rlen1 pl_len0
noncomputable section
theorem p_l1In (n a b : Int) : s_spec_l1In n a b = some (decide (a ≤ n ∧ n ≤ b)) := by
  unfold s_spec_l1In
  by_cases h : a ≤ n <;> simp [h]
theorem p_InRange (n a b : Int) : s_impl_InRange n a b = some (decide (a ≤ n ∧ n ≤ b)) := by
  unfold s_impl_InRange
  by_cases h : a ≤ n <;> simp [h]
def cmpI (a b : Int) : Int := if a < b then -1 else if b < a then 1 else 0
theorem p_Compare (a b : Int) : s_cmp_Compare_int a b = some (cmpI a b) := by
  unfold s_cmp_Compare_int s_cmp_isNaN_int cmpI
  by_cases h1 : a < b
  · simp [h1]
  · by_cases h2 : b < a <;> simp [h1, h2]
theorem p_Or (a b : Int) : s_cmp_Or_int [a, b] = some (if a = 0 then b else a) := by
  unfold s_cmp_Or_int
  rw [while_scan [a, b] (fun _ x => !decide (x = 0)) (fun _ x => x) .inr (.inl (2 : Int)) (by simp) (fun i hi => by
    simp only [s_cmp_Or_int_l1, lt_len _ hi, nthI_at hi, cond_true, Option.bind_some, pl_neq]) (by
    have := lt_end eI [a, b]
    simp only [s_cmp_Or_int_l1]
    rw [this]
    rfl)]
  by_cases h1 : a = 0
  · by_cases h2 : b = 0 <;> simp [scan, h1, h2]
  · simp [scan, h1]
def cmpL (x y : DLink) : Int := if cmpI x.a y.a = 0 then cmpI x.b y.b else cmpI x.a y.a
theorem p_compareLinks (x y : DLink) : s_impl_compareLinks x y = some (cmpL x y) := by
  unfold s_impl_compareLinks
  simp only [p_Compare, Option.bind_some, p_Or]
  rfl
def pairL (x y : DLink) : Bool := decide (x.a < y.a) || (decide (x.a = y.a) && decide (x.b < y.b))
theorem p_l19Pair (x y : DLink) : s_spec_l19Pair x y = some (pairL x y) := by
  simp only [s_spec_l19Pair, pairL, pl_lss, pl_eql]
  cases decide (x.a < y.a) <;> cases decide (x.a = y.a) <;> cases decide (x.b < y.b) <;> rfl
theorem pair_cmp (x y : DLink) : decide (0 ≤ cmpL x y) = !pairL x y := by
  unfold cmpL cmpI pairL
  rcases Int.lt_trichotomy x.a y.a with h | h | h
  · have : ¬ y.a < x.a := by omega
    simp [h, this]
  · rw [h]
    rcases Int.lt_trichotomy x.b y.b with h' | h' | h'
    · simp [h']
    · simp [h']
    · have : ¬ x.b < y.b := by omega
      simp [h', this]
  · have h1 : ¬ x.a < y.a := by omega
    have h2 : ¬ x.a = y.a := by omega
    simp [h, h1, h2]
def badS (t : DTopology) (i : Nat) (x : DLink) : Bool := !decide (0 ≤ x.a ∧ x.a ≤ prims.arith .sub .i64 t.size 1) || (!decide (0 ≤ x.b ∧ x.b ≤ prims.arith .sub .i64 t.size 1) || (decide (x.b ≤ x.a) || (decide (0 < (i : Int)) && match t.links[i - 1]? with | some y => !pairL y x | none => false)))
def badI (t : DTopology) (i : Nat) (x : DLink) : Bool := !decide (0 ≤ x.a ∧ x.a ≤ prims.arith .sub .i64 t.size 1) || (!decide (prims.arith .add .i64 x.a 1 ≤ x.b ∧ x.b ≤ prims.arith .sub .i64 t.size 1) || (decide (0 < (i : Int)) && match t.links[i - 1]? with | some y => decide (0 ≤ cmpL y x) | none => false))
theorem prev_at {t : DTopology} {i : Nat} (hi : i < t.links.length) (h0 : 0 < (i : Int)) (h : t.links.length ≤ 2 ^ 40) : nthI t.links (prims.arith .sub .i64 (i : Int) 1) = some (t.links[i - 1]'(by omega)) := by
  rw [pl_sub _ _ (by omega) (by omega), show (i : Int) - 1 = ((i - 1 : Nat) : Int) by omega]
  exact nthI_at (by omega)
def validT (t : DTopology) : Bool := match scan (badS t) (fun _ _ => false) 0 t.links with
  | some b => b
  | none => decide (1 ≤ t.size ∧ t.size ≤ 6)
theorem p_spec_ValidTopology (t : DTopology) (h : t.links.length ≤ 2 ^ 40) : s_spec_ValidTopology t = some (validT t) := by
  unfold s_spec_ValidTopology validT
  rw [while_scan t.links (badS t) (fun _ _ => false) .inr (.inl (t.links.length : Int)) (by omega) (fun i hi => by
    simp only [s_spec_ValidTopology_l1, lt_len _ hi, nthI_at hi, cond_true, Option.bind_some, p_l1In, badS, pl_bnot, pl_geq, pl_gtr]
    cases decide (0 ≤ t.links[i].a ∧ t.links[i].a ≤ prims.arith .sub .i64 t.size 1) <;> cases decide (0 ≤ t.links[i].b ∧ t.links[i].b ≤ prims.arith .sub .i64 t.size 1) <;> cases decide (t.links[i].b ≤ t.links[i].a) <;> first | rfl | skip
    by_cases h0 : 0 < (i : Int)
    · simp only [decide_eq_true h0, cond_true, prev_at hi h0 h, Option.bind_some, p_l19Pair, List.getElem?_eq_getElem (show i - 1 < t.links.length by omega)]
      cases pairL (t.links[i - 1]'(by omega)) t.links[i] <;> rfl
    · simp only [decide_eq_false h0]
      rfl) (by simp only [s_spec_ValidTopology_l1, lt_end]; rfl)]
  cases scan (badS t) (fun _ _ => false) 0 t.links
  · simp [p_l1In]
  · rfl
theorem scan_congr {α γ : Type} {p q : Nat → α → Bool} {r : Nat → α → γ} (h : ∀ i x, p i x = q i x) : ∀ (l : List α) (i : Nat), scan p r i l = scan q r i l
  | [], _ => rfl
  | x :: l, i => by simp only [scan, h, scan_congr h l]
theorem bad_eq (t : DTopology) (hs : 1 ≤ t.size ∧ t.size ≤ 6) (i : Nat) (x : DLink) : badI t i x = badS t i x := by
  unfold badI badS
  have e : prims.arith .sub .i64 t.size 1 = t.size - 1 := pl_sub _ _ (by omega) (by omega)
  rw [e]
  by_cases h1 : 0 ≤ x.a ∧ x.a ≤ t.size - 1
  · have e2 : prims.arith .add .i64 x.a 1 = x.a + 1 := pl_add _ _ (by omega) (by omega)
    rw [e2]
    have e3 : (match t.links[i - 1]? with | some y => decide (0 ≤ cmpL y x) | none => false) = (match t.links[i - 1]? with | some y => !pairL y x | none => false) := by
      cases t.links[i - 1]? with
      | none => rfl
      | some y => exact pair_cmp y x
    rw [e3]
    by_cases h2 : 0 ≤ x.b ∧ x.b ≤ t.size - 1
    · by_cases h3 : x.b ≤ x.a
      · have : ¬ (x.a + 1 ≤ x.b ∧ x.b ≤ t.size - 1) := by omega
        rw [decide_eq_false this, decide_eq_true h1, decide_eq_true h2, decide_eq_true h3]
        rfl
      · have : x.a + 1 ≤ x.b ∧ x.b ≤ t.size - 1 := by omega
        simp [h1, h2, h3, this]
    · have : ¬ (x.a + 1 ≤ x.b ∧ x.b ≤ t.size - 1) := by omega
      simp [h1, h2, this]
  · simp [h1]
theorem p_impl_ValidTopology (t : DTopology) (h : t.links.length ≤ 2 ^ 40) : s_impl_ValidTopology t = some (validT t) := by
  unfold s_impl_ValidTopology
  rw [while_scan t.links (badI t) (fun _ _ => false) .inr (.inl (t.links.length : Int)) (by omega) (fun i hi => by
    simp only [s_impl_ValidTopology_l1, lt_len _ hi, nthI_at hi, cond_true, Option.bind_some, p_InRange, badI, pl_bnot, pl_geq, pl_gtr]
    cases decide (0 ≤ t.links[i].a ∧ t.links[i].a ≤ prims.arith .sub .i64 t.size 1) <;> cases decide (prims.arith .add .i64 t.links[i].a 1 ≤ t.links[i].b ∧ t.links[i].b ≤ prims.arith .sub .i64 t.size 1) <;> first | rfl | skip
    by_cases h0 : 0 < (i : Int)
    · simp only [decide_eq_true h0, cond_true, prev_at hi h0 h, Option.bind_some, p_compareLinks, List.getElem?_eq_getElem (show i - 1 < t.links.length by omega)]
      cases decide (0 ≤ cmpL (t.links[i - 1]'(by omega)) t.links[i]) <;> rfl
    · simp only [decide_eq_false h0]
      rfl) (by simp only [s_impl_ValidTopology_l1, lt_end]; rfl)]
  by_cases hs : 1 ≤ t.size ∧ t.size ≤ 6
  · rw [scan_congr (bad_eq t hs)]
    unfold validT
    cases scan (badS t) (fun _ _ => false) 0 t.links
    · simp [p_InRange]
    · rfl
  · have hf : ∀ (p : Nat → DLink → Bool), ∀ (l : List DLink) (i : Nat) (b : Bool), scan p (fun _ _ => false) i l = some b → b = false := by
      intro p l i b hb
      obtain ⟨j, x, _, _, h3⟩ := scan_some p _ l i b hb
      exact h3
    have hv : validT t = false := by
      unfold validT
      cases hc : scan (badS t) (fun _ _ => false) 0 t.links with
      | none => simpa using hs
      | some b => exact hf _ _ _ _ hc
    rw [hv]
    cases hc : scan (badI t) (fun _ _ => false) 0 t.links with
    | none => simp [p_InRange, hs]
    | some b => rw [hf _ _ _ _ hc]; rfl
theorem validT_size {t : DTopology} (h : validT t = true) : 1 ≤ t.size ∧ t.size ≤ 6 := by
  unfold validT at h
  cases hc : scan (badS t) (fun _ _ => false) 0 t.links with
  | none => rw [hc] at h; simpa using h
  | some b =>
    rw [hc] at h
    obtain ⟨j, x, _, _, h3⟩ := scan_some _ _ _ _ _ hc
    simp only at h
    rw [h3] at h
    cases h
end
end
def mName (k : Int) : List ByteArray := [bs [109], bs (Go.Lib.itoa k)]
theorem p_l37Name (k : Int) (h : I64 k) : s_spec_l37Name k = some (mName k) := by
  unfold s_spec_l37Name
  simp only [p_spec_FormatInt k h, Option.bind_some]
  rfl
theorem p_memberName (k : Int) (h : I64 k) : s_impl_memberName k = some (mName k) := by
  unfold s_impl_memberName
  simp only [p_impl_FormatInt k h, Option.bind_some]
  rfl
theorem fits_small (n b : Nat) (h : n ≤ 2 ^ 30) (hb : b ≤ 2 ^ 10) : prims.fits 0 n b = true := by
  rw [pl_fits, decide_eq_true_eq]
  have : (0 + n) * b ≤ 2 ^ 30 * 2 ^ 10 := Nat.mul_le_mul (by omega) hb
  omega
theorem p_l4Copy (l : List ByteArray) (h : l.length ≤ 2 ^ 30) : s_spec_l4Copy l = some l := by
  unfold s_spec_l4Copy
  rw [pl_rlen, fits_small _ _ h (by decide)]
  rfl
theorem p_copyName (l : List ByteArray) (h : l.length ≤ 2 ^ 30) : s_impl_copyName l = some l := by
  unfold s_impl_copyName s_slices_Clone_string
  rw [pl_rlen, fits_small _ _ h (by decide)]
  rfl
def memT (k : Int) : DMember := ⟨mName k, [], []⟩
theorem p_spec_NewMember (k : Int) : s_spec_NewMember (mName k) = some (memT k) := by
  unfold s_spec_NewMember
  rw [p_l4Copy _ (by simp [mName])]
  rfl
theorem p_impl_NewMember (k : Int) : s_impl_NewMember (mName k) = some (memT k) := by
  unfold s_impl_NewMember
  rw [p_copyName _ (by simp [mName])]
  rfl
def memsT (n : Nat) : List DMember := (List.range n).map fun i : Nat => memT (i : Int)
noncomputable def grpT (g : DTopology) : DSyncGroup := if validT g then ⟨g, memsT g.size.toNat⟩ else ⟨⟨0, []⟩, []⟩
theorem memsT_succ (i : Nat) : memsT (i + 1) = memsT i ++ [memT (i : Int)] := by simp [memsT, List.range_succ]
theorem memsT_len (n : Nat) : (memsT n).length = n := by simp [memsT]
theorem fits_add (a b c : Nat) (h : (a + b) * c ≤ 2 ^ 46) : prims.fits a b c = true := by rw [pl_fits, decide_eq_true_eq]; exact h
theorem p_spec_NewSyncGroup (g : DTopology) (h : g.links.length ≤ 2 ^ 20) : s_spec_NewSyncGroup g = some (grpT g) := by
  unfold s_spec_NewSyncGroup grpT
  rw [p_spec_ValidTopology g (by omega)]
  cases hv : validT g
  · rfl
  · have hs := validT_size hv
    have H := while_seq (step := s_spec_NewSyncGroup_l1 g) (fun i => ((i : Int), memsT i)) (g.size, memsT g.size.toNat) g.size.toNat (by omega) (fun i hi => by
      have h1 : (i : Int) < g.size := by omega
      have h2 : prims.fits (memsT i).length 1 72 = true := fits_add _ _ _ (by rw [memsT_len]; omega)
      simp only [s_spec_NewSyncGroup_l1, pl_lss, decide_eq_true h1, cond_true, p_l37Name (i : Int) (i64_nat (by omega)), Option.bind_some, p_spec_NewMember, pl_len, pl_rlen, List.length_cons, List.length_nil, Nat.zero_add, h2, memsT_succ, pl_inc i g.size.toNat hi (by omega)]) (by
      have h1 : ¬ (g.size < g.size) := by omega
      have h2 : (g.size.toNat : Int) = g.size := by omega
      simp only [s_spec_NewSyncGroup_l1, pl_lss, h2, decide_eq_false h1, cond_false])
    have e0 : ((0 : Int), ([] : List DMember)) = (((0 : Nat) : Int), memsT 0) := rfl
    simp only [Option.bind_some, pl_bnot, Bool.not_true, cond_false, pl_rlen, fits_small _ _ (show g.links.length ≤ 2 ^ 30 by omega) (show 16 ≤ 2 ^ 10 by decide), cond_true, e0, H, if_true]
theorem p_impl_NewSyncGroup (g : DTopology) (h : g.links.length ≤ 2 ^ 20) : s_impl_NewSyncGroup g = some (grpT g) := by
  unfold s_impl_NewSyncGroup grpT
  rw [p_impl_ValidTopology g (by omega)]
  cases hv : validT g
  · rfl
  · have hs := validT_size hv
    have H := while_seq (step := s_impl_NewSyncGroup_l1 g) (fun i => ((i : Int), memsT i)) (g.size, memsT g.size.toNat) g.size.toNat (by omega) (fun i hi => by
      have h1 : (i : Int) < g.size := by omega
      have h2 : prims.fits (memsT i).length 1 72 = true := fits_add _ _ _ (by rw [memsT_len]; omega)
      simp only [s_impl_NewSyncGroup_l1, pl_lss, decide_eq_true h1, cond_true, p_memberName (i : Int) (i64_nat (by omega)), Option.bind_some, p_impl_NewMember, pl_len, pl_rlen, List.length_cons, List.length_nil, Nat.zero_add, h2, memsT_succ, pl_inc i g.size.toNat hi (by omega)]) (by
      have h1 : ¬ (g.size < g.size) := by omega
      have h2 : (g.size.toNat : Int) = g.size := by omega
      simp only [s_impl_NewSyncGroup_l1, pl_lss, h2, decide_eq_false h1, cond_false])
    have e0 : ((0 : Int), ([] : List DMember)) = (((0 : Nat) : Int), memsT 0) := rfl
    unfold s_impl_copyTopology s_slices_Clone_Link
    simp only [Option.bind_some, pl_bnot, Bool.not_true, cond_false, pl_rlen, fits_small _ _ (show g.links.length ≤ 2 ^ 30 by omega) (show 16 ≤ 2 ^ 10 by decide), cond_true, e0, H, if_true]
end Go.Proofs.YtfianjolmcoadaaDoor
