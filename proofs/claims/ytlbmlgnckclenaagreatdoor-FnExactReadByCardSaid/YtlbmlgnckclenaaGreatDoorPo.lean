/- Joined: Pg2, Pw, Po. -/
import Derived.Test.YtlbmlgnckclenaaGreatDoorTx
import Derived.Test.YtlbmlgnckclenaaGreatDoorSd
import Derived.Test.YtlbmlgnckclenaaGreatDoorPl
import Derived.Test.YtlbmlgnckclenaaGreatDoorEnc
import Derived.Test.YtlbmlgnckclenaaGreatDoorFl
import Derived.Test.YtlbmlgnckclenaaGreatDoorFh
namespace Go.Proofs.YtlbmlgnckclenaaGreatDoor
open Go.RowKit
set_option linter.unusedVariables false
set_option linter.unusedSimpArgs false
theorem p_Itoa (n : Int) (h : I64 n) : s_strconv_Itoa n = some (bs (Go.Lib.itoa n)) := by
  unfold s_strconv_Itoa
  rw [if_pos ⟨h.1, h.2⟩]
  rfl
theorem p_impl_FormatInt (n : Int) (h : I64 n) : s_impl_FormatInt n = some (bs (Go.Lib.itoa n)) := by
  unfold s_impl_FormatInt
  rw [p_Itoa n h]
  rfl
theorem tmod_ten (n : Int) : (0 ≤ n ∧ n.tmod 10 = ((n.natAbs % 10 : Nat) : Int) ∧ n.tdiv 10 = ((n.natAbs / 10 : Nat) : Int)) ∨ (n < 0 ∧ n.tmod 10 = -((n.natAbs % 10 : Nat) : Int) ∧ n.tdiv 10 = -((n.natAbs / 10 : Nat) : Int)) := by
  rcases Int.le_total 0 n with h | h
  · left
    obtain ⟨m, rfl⟩ := Int.eq_ofNat_of_zero_le h
    exact ⟨h, rfl, rfl⟩
  · by_cases h0 : n = 0
    · subst h0; left; exact ⟨Int.le_refl _, rfl, rfl⟩
    · right
      obtain ⟨m, hm⟩ := Int.eq_ofNat_of_zero_le (show 0 ≤ -n by omega)
      have hn : n = -(m : Int) := by omega
      subst hn
      refine ⟨by omega, ?_, ?_⟩
      · rw [Int.neg_tmod, Int.natAbs_neg]; rfl
      · rw [Int.neg_tdiv, Int.natAbs_neg]; rfl
theorem byW_digit (k : Nat) (h : k < 10) : prims.byW (48 + (k : Int)) = UInt8.ofNat (48 + k) := by
  show UInt8.ofNat (IntKind.u8.wrap (48 + (k : Int))).toNat = _
  have e : IntKind.u8.wrap (48 + (k : Int)) = (48 + (k : Int)) % 256 := by simp [IntKind.wrap, IntKind.signed, IntKind.bits]
  rw [e]
  congr 1
  omega
theorem p_digits (n : Int) (h : I64 n) : whileO s_spec_FormatInt_l1 fuel (ByteArray.mk (Array.mk []), n) = some (bs (dg0 n.natAbs), 0) := by
  have hlen : ∀ u : Nat, u < 10 ^ 19 → (dg0 u).length ≤ 19 := fun u hu => by
    unfold dg0
    split
    · simp
    · rw [decDigits_len]; exact nDigits_le 19 u (by omega) hu
  have hn := hlen n.natAbs (by unfold I64 at h; omega)
  have H := while_meas (step := s_spec_FormatInt_l1) (fun x => (bs (dg0 x.2.natAbs ++ bl x.1), (0 : Int))) (fun x => (dg0 x.2.natAbs).length) (fun x => I64 x.2 ∧ x.1.size + (dg0 x.2.natAbs).length ≤ 40) (fun x hI => by
    obtain ⟨v2, v3⟩ := x
    obtain ⟨hI1, hsz⟩ := hI
    have hl := hI1.1
    have hu := hI1.2
    simp only at hl hu hsz
    by_cases h0 : v3 = 0
    · right
      subst h0
      simp only [s_spec_FormatInt_l1, pl_neq, decide_true, Bool.not_true, cond_false]
      show some (Sum.inr (v2, 0)) = some (Sum.inr (bs (dg0 0 ++ bl v2), 0))
      rw [show dg0 0 = [] from rfl, List.nil_append, bs_bl]
    · left
      have hu0 : v3.natAbs ≠ 0 := by omega
      have hst := dg0_step v3.natAbs hu0
      have hlst : (dg0 v3.natAbs).length = (dg0 (v3.natAbs / 10)).length + 1 := by rw [hst]; simp
      have hcat : prims.catOk (prims.ofB [UInt8.ofNat (48 + v3.natAbs % 10)]) v2 = true := by
        rw [← bs_bl v2]
        exact catOk_bs [_] _ (by rw [bl_len]; simp; omega)
      have hsc : prims.scat (prims.ofB [UInt8.ofNat (48 + v3.natAbs % 10)]) v2 = bs ([UInt8.ofNat (48 + v3.natAbs % 10)] ++ bl v2) := by
        conv => lhs; rw [← bs_bl v2]
        exact scat_bs [_] _
      have hrem : prims.arith .rem .i64 v3 10 = v3.tmod 10 := rfl
      have hquo : prims.arith .quo .i64 v3 10 = v3.tdiv 10 := by
        show IntKind.i64.wrap (v3.tdiv 10) = _
        rw [IntKind.wrap_i64]
        rcases tmod_ten v3 with ⟨_, _, e⟩ | ⟨_, _, e⟩ <;> omega
      refine ⟨(bs ([UInt8.ofNat (48 + v3.natAbs % 10)] ++ bl v2), v3.tdiv 10), ?_, ?_, ?_, ?_⟩
      · simp only [s_spec_FormatInt_l1, pl_neq, pl_eql, pl_lss, decide_eq_false h0, Bool.not_false, cond_true, hrem, hquo, show decide ((10 : Int) = 0) = false from rfl, cond_false]
        have hk := byW_digit (v3.natAbs % 10) (by omega)
        rcases tmod_ten v3 with ⟨hp, e, _⟩ | ⟨hp, e, _⟩
        · have e1 : prims.arith .add .i64 48 (v3.tmod 10) = 48 + ((v3.natAbs % 10 : Nat) : Int) := by rw [e]; exact pl_add _ _ (by omega) (by omega)
          have e2 : ¬ v3.tmod 10 < 0 := by omega
          simp only [decide_eq_false e2, cond_false, e1, hk, hcat, cond_true, hsc]
        · by_cases hz : v3.natAbs % 10 = 0
          · have e1 : prims.arith .add .i64 48 (v3.tmod 10) = 48 + ((v3.natAbs % 10 : Nat) : Int) := by rw [e, hz]; exact pl_add _ _ (by omega) (by omega)
            have e2 : ¬ v3.tmod 10 < 0 := by omega
            simp only [decide_eq_false e2, cond_false, e1, hk, hcat, cond_true, hsc]
          · have e0 : prims.arith .sub .i64 0 (v3.tmod 10) = ((v3.natAbs % 10 : Nat) : Int) := by rw [e, pl_sub _ _ (by omega) (by omega)]; omega
            have e1 : prims.arith .add .i64 48 ((v3.natAbs % 10 : Nat) : Int) = 48 + ((v3.natAbs % 10 : Nat) : Int) := pl_add _ _ (by omega) (by omega)
            have e2 : v3.tmod 10 < 0 := by omega
            simp only [decide_eq_true e2, cond_true, e0, e1, hk, hcat, hsc]
      · have hna : (v3.tdiv 10).natAbs = v3.natAbs / 10 := by rcases tmod_ten v3 with ⟨_, _, e⟩ | ⟨_, _, e⟩ <;> omega
        refine ⟨?_, ?_⟩
        · show I64 (v3.tdiv 10)
          unfold I64
          rcases tmod_ten v3 with ⟨_, _, e⟩ | ⟨_, _, e⟩ <;> omega
        · show ([UInt8.ofNat (48 + v3.natAbs % 10)] ++ bl v2).length + (dg0 (v3.tdiv 10).natAbs).length ≤ 40
          rw [hna, List.length_append, bl_len]
          simp only [List.length_cons, List.length_nil]
          omega
      · show (dg0 (v3.tdiv 10).natAbs).length < (dg0 v3.natAbs).length
        have hna : (v3.tdiv 10).natAbs = v3.natAbs / 10 := by rcases tmod_ten v3 with ⟨_, _, e⟩ | ⟨_, _, e⟩ <;> omega
        rw [hna]
        omega
      · show (bs (dg0 v3.natAbs ++ bl v2), (0 : Int)) = (bs (dg0 (v3.tdiv 10).natAbs ++ ([UInt8.ofNat (48 + v3.natAbs % 10)] ++ bl v2)), 0)
        have hna : (v3.tdiv 10).natAbs = v3.natAbs / 10 := by rcases tmod_ten v3 with ⟨_, _, e⟩ | ⟨_, _, e⟩ <;> omega
        rw [hna, hst, List.append_assoc]) fuel (bs [], n) ⟨h, by show 0 + (dg0 n.natAbs).length ≤ 40; omega⟩ (by unfold fuel; simp only; omega)
  simp only [bl_bs, List.append_nil] at H
  exact H
theorem p_spec_FormatInt (n : Int) (h : I64 n) : s_spec_FormatInt n = some (bs (Go.Lib.itoa n)) := by
  unfold s_spec_FormatInt
  rw [p_digits n h]
  by_cases h0 : n = 0
  · subst h0
    simp only [pl_eql, decide_true, cond_true]
    have : Go.Lib.itoa 0 = [48] := by unfold Go.Lib.itoa; rw [if_neg (by decide), Go.Lib.decDigits]; rfl
    rw [this]
    rfl
  · have hd : dg0 n.natAbs = Go.Lib.decDigits n.natAbs := if_neg (by omega)
    simp only [pl_eql, pl_lss, decide_eq_false h0, cond_false, Option.bind_some, hd]
    unfold Go.Lib.itoa
    by_cases hn : n < 0
    · rw [if_pos hn]
      have hl := itoa_len n h
      unfold Go.Lib.itoa at hl
      rw [if_pos hn] at hl
      simp only [decide_eq_true hn, cond_true, bs_mk, catOk_bs [45] (Go.Lib.decDigits n.natAbs) (by simp only [List.length_cons, List.length_nil] at *; omega), scat_bs]
      rfl
    · rw [if_neg hn, show n.toNat = n.natAbs by omega]
      simp only [decide_eq_false hn, cond_false]
theorem i64_nat {n : Nat} (h : n ≤ 2 ^ 40) : I64 (n : Int) := ⟨by omega, by omega⟩
end Go.Proofs.YtlbmlgnckclenaaGreatDoor

namespace Go.Proofs.YtlbmlgnckclenaaGreatDoor
open Go.RowKit
set_option linter.unusedVariables false
set_option linter.unusedSimpArgs false
set_option maxRecDepth 100000
noncomputable section
section
attribute [local simp] pl_lss pl_leq pl_gtr pl_geq pl_eql pl_neq pl_int pl_len pl_rlen pl_fits pl_bnot pl_beq nthI_nat pl_ridx pl_rlen1 pl_len0
theorem p_l1In (n a b : Int) : s_spec_l1In n a b = some (decide (a ≤ n ∧ n ≤ b)) := by
  unfold s_spec_l1In
  by_cases h : a ≤ n <;> simp [h]
theorem p_InRange (n a b : Int) : s_impl_InRange n a b = some (decide (a ≤ n ∧ n ≤ b)) := by
  unfold s_impl_InRange
  by_cases h : a ≤ n <;> simp [h]
theorem wrap_byte (b : UInt8) : prims.wrap .i64 (b.toNat : Int) = (b.toNat : Int) := by
  show IntKind.i64.wrap _ = _
  have := b.toNat_lt
  rw [IntKind.wrap_i64]
  omega
end
def cmpI (a b : Int) : Int := if a < b then -1 else if b < a then 1 else 0
def allE {α : Type} (e : α → α → Bool) : List α → List α → Bool
  | [], [] => true
  | x :: a, y :: b => e x y && allE e a b
  | _, _ => false
def offE {α : Type} (e : α → α → Bool) (b : List α) (i : Nat) (x : α) : Bool := match b[i]? with
  | some y => !e x y
  | none => false
theorem allE_scan {α : Type} (e : α → α → Bool) (full : List α) : ∀ (a b : List α) (i : Nat), full.drop i = b → a.length = b.length → scan (offE e full) (fun _ _ => false) i a = if allE e a b then none else some false
  | [], [], i, _, _ => rfl
  | [], _ :: _, i, _, h => by simp at h
  | _ :: _, [], i, _, h => by simp at h
  | x :: a, y :: b, i, hd, h => by
    have hy : full[i]? = some y := by
      have : (full.drop i)[0]? = some y := by rw [hd]; rfl
      rw [List.getElem?_drop] at this
      exact this
    have hd' : full.drop (i + 1) = b := by
      have := congrArg List.tail hd
      rwa [List.tail_drop] at this
    have ih := allE_scan e full a b (i + 1) hd' (by simpa using h)
    simp only [scan, allE, offE, hy]
    by_cases he : e x y = true
    · simp [he, ih]
    · simp [he]
theorem allE_len {α : Type} (e : α → α → Bool) : ∀ (a b : List α), a.length ≠ b.length → allE e a b = false
  | [], [], h => absurd rfl h
  | [], _ :: _, _ => rfl
  | _ :: _, [], _ => rfl
  | x :: a, y :: b, h => by
    simp only [allE, allE_len e a b (fun hh => h (by simp [hh])), Bool.and_false]
theorem allE_eq {α : Type} [DecidableEq α] : ∀ (a b : List α), allE (fun x y => decide (x = y)) a b = decide (a = b)
  | [], [] => rfl
  | [], _ :: _ => rfl
  | _ :: _, [] => rfl
  | x :: a, y :: b => by
    simp only [allE, allE_eq a b]
    by_cases h1 : x = y <;> by_cases h2 : a = b <;> simp [h1, h2]
theorem bs_eq (x y : ByteArray) : (x.toList == y.toList) = decide (x = y) := by
  have hl : ∀ z : ByteArray, z.toList = z.data.toList := fun z => ByteArray.toList_eq z
  by_cases h : x = y
  · subst h; simp
  · rw [decide_eq_false h]
    rw [beq_eq_false_iff_ne]
    intro he
    rw [hl, hl] at he
    refine h ?_
    cases x; cases y
    simp only [ByteArray.mk.injEq]
    exact Array.toList_inj.1 he
theorem pl_seq (x y : ByteArray) : prims.scmp .eql x y = decide (x = y) := bs_eq x y
theorem pl_sne (x y : ByteArray) : prims.scmp .neq x y = !decide (x = y) := congrArg (!·) (bs_eq x y)
theorem bl_irr : ∀ l : List UInt8, Op.bytesLess l l = false
  | [] => by simp [Op.bytesLess]
  | x :: l => by simp [Op.bytesLess, bl_irr l]
def cmpS (x y : ByteArray) : Int := if prims.scmp .lss x y then -1 else if prims.scmp .gtr x y then 1 else 0
theorem cmpS_zero (x y : ByteArray) : cmpS x y = 0 ↔ x = y := by
  have e1 : prims.scmp .gtr x y = !(prims.scmp .lss x y || (x.toList == y.toList)) := rfl
  unfold cmpS
  rw [e1, bs_eq]
  by_cases h : x = y
  · subst h
    have : prims.scmp .lss x x = false := by
      show Op.bytesLess x.toList x.toList = false
      exact bl_irr _
    simp [this]
  · cases prims.scmp .lss x y <;> simp [h]
def cmpN : List ByteArray → List ByteArray → Int
  | [], [] => 0
  | [], _ :: _ => -1
  | _ :: _, [] => 1
  | x :: a, y :: b => if cmpS x y = 0 then cmpN a b else cmpS x y
theorem cmpN_zero : ∀ a b : List ByteArray, cmpN a b = 0 ↔ a = b
  | [], [] => by simp [cmpN]
  | [], _ :: _ => by simp [cmpN]
  | _ :: _, [] => by simp [cmpN]
  | x :: a, y :: b => by
    simp only [cmpN]
    by_cases h : cmpS x y = 0
    · rw [if_pos h, cmpN_zero a b]
      have := (cmpS_zero x y).1 h
      subst this
      simp
    · rw [if_neg h]
      have : x ≠ y := fun e => h ((cmpS_zero x y).2 e)
      simp [h, this]
theorem p_l4Cmp (x y : ByteArray) : s_spec_l4Cmp x y = some (cmpS x y) := by
  unfold s_spec_l4Cmp cmpS
  cases prims.scmp .lss x y <;> cases prims.scmp .gtr x y <;> rfl
def cmpD : Nat → List ByteArray → List ByteArray → Int ⊕ (Int ⊕ Int)
  | i, [], _ => .inr (.inl i)
  | i, _ :: _, [] => .inl i
  | i, x :: a, y :: b => if cmpS x y = 0 then cmpD (i + 1) a b else .inr (.inr (cmpS x y))
theorem cmpD_N : ∀ (a b : List ByteArray) (i : Nat), (match cmpD i a b with | .inr (.inr r) => r | _ => cmpI a.length b.length) = cmpN a b
  | [], [], i => rfl
  | [], y :: b, i => by simp [cmpD, cmpN, cmpI]
  | x :: a, [], i => by simp [cmpD, cmpN, cmpI]; omega
  | x :: a, y :: b, i => by
    have ih := cmpD_N a b (i + 1)
    simp only [cmpD, cmpN]
    by_cases h : cmpS x y = 0
    · rw [if_pos h, if_pos h, ← ih]
      have e : cmpI ((x :: a).length : Int) ((y :: b).length : Int) = cmpI a.length b.length := by
        unfold cmpI
        simp only [List.length_cons]
        by_cases h1 : (a.length : Int) < b.length
        · rw [if_pos (by omega), if_pos h1]
        · rw [if_neg (by omega), if_neg h1]
          by_cases h2 : (b.length : Int) < a.length
          · rw [if_pos (by omega), if_pos h2]
          · rw [if_neg (by omega), if_neg h2]
      rw [e]
    · rw [if_neg h, if_neg h]
theorem p_CompareNames (a b : List ByteArray) (ha : a.length ≤ 2 ^ 40) : s_spec_CompareNames a b = some (cmpN a b) := by
  unfold s_spec_CompareNames
  rw [show whileO (s_spec_CompareNames_l1 a b) fuel 0 = some (cmpD 0 a (b.drop 0)) from
    while_list0 (σ := Unit) a (fun i _ => (i : Int)) (fun i rest _ => cmpD i rest (b.drop i)) (fun _ _ => True) () (by unfold fuel; omega) trivial (fun s _ => by
      simp only [s_spec_CompareNames_l1, lt_end, cond_false]; rfl) (fun i x rest s hd hi hx _ => by
      by_cases hb : i < b.length
      · have hbd : b.drop i = b[i] :: b.drop (i + 1) := List.drop_eq_getElem_cons hb
        rw [hbd]
        simp only [s_spec_CompareNames_l1, lt_len _ hi, lt_len _ hb, cond_true, hx, nthI_at hb, Option.bind_some, p_l4Cmp, pl_neq, cmpD]
        by_cases h0 : cmpS x b[i] = 0
        · left
          refine ⟨(), ?_, trivial, by rw [if_pos h0]⟩
          rw [decide_eq_true h0]
          show some (Sum.inl (prims.arith .add .i64 (i : Int) 1)) = _
          rw [pl_inc i a.length hi (by omega)]
        · right
          rw [decide_eq_false h0, if_neg h0]
          rfl
      · right
        have hbd : b.drop i = [] := List.drop_eq_nil_of_le (by omega)
        rw [hbd]
        have e : prims.cmp .lss (i : Int) (prims.int (prims.len (List.map eS b))) = false := by
          rw [pl_lss, pl_int, pl_len]
          exact decide_eq_false (by omega)
        simp only [s_spec_CompareNames_l1, lt_len _ hi, cond_true, e, cond_false]
        rfl)]
  rw [List.drop_zero, ← cmpD_N a b 0]
  have hc : (bif prims.cmp .lss (prims.int (prims.len (List.map eS a))) (prims.int (prims.len (List.map eS b))) then (some (-1)) else (bif prims.cmp .gtr (prims.int (prims.len (List.map eS a))) (prims.int (prims.len (List.map eS b))) then (some 1) else (some 0))) = some (cmpI a.length b.length) := by
    simp only [pl_lss, pl_gtr, pl_int, pl_len, cmpI]
    by_cases h1 : (a.length : Int) < b.length
    · rw [decide_eq_true h1, if_pos h1]; rfl
    · rw [decide_eq_false h1, if_neg h1]
      by_cases h2 : (b.length : Int) < a.length
      · rw [decide_eq_true h2, if_pos h2]; rfl
      · rw [decide_eq_false h2, if_neg h2]; rfl
  rcases cmpD 0 a b with i | i | r
  · exact hc
  · exact hc
  · rfl
theorem p_spec_EqualNames (a b : List ByteArray) (ha : a.length ≤ 2 ^ 40) : s_spec_EqualNames a b = some (decide (a = b)) := by
  unfold s_spec_EqualNames
  rw [p_CompareNames a b ha]
  simp only [Option.bind_some, pl_eql]
  exact congrArg some (decide_eq_decide.2 (cmpN_zero a b))
theorem p_Equal_string (a b : List ByteArray) (ha : a.length ≤ 2 ^ 40) : s_slices_Equal_string a b = some (decide (a = b)) := by
  unfold s_slices_Equal_string
  simp only [pl_neq, pl_int, pl_len]
  by_cases h : a.length = b.length
  · rw [decide_eq_true (show (a.length : Int) = b.length by omega)]
    simp only [Bool.not_true, cond_false]
    rw [while_scan a (offE (fun x y => decide (x = y)) b) (fun _ _ => false) .inr (.inl (a.length : Int)) (by omega) (fun i hi => by
      simp only [s_slices_Equal_string_l1, lt_len _ hi, nthI_at hi, nthI_at (show i < b.length by omega), cond_true, Option.bind_some, pl_sne, offE, List.getElem?_eq_getElem (show i < b.length by omega)]) (by simp only [s_slices_Equal_string_l1, lt_end]; rfl), allE_scan _ b a b 0 rfl h, allE_eq]
    by_cases he : a = b <;> simp [he]
  · rw [decide_eq_false (show ¬ (a.length : Int) = b.length by omega), decide_eq_false (fun he => h (by rw [he]))]
    rfl
theorem fits_small (n b : Nat) (h : n ≤ 2 ^ 30) (hb : b ≤ 2 ^ 10) : prims.fits 0 n b = true := by
  rw [pl_fits, decide_eq_true_eq]
  have : (0 + n) * b ≤ 2 ^ 30 * 2 ^ 10 := Nat.mul_le_mul (by omega) hb
  omega
theorem p_l4Copy (l : List ByteArray) (h : l.length ≤ 2 ^ 30) : s_spec_l4Copy l = some l := by
  unfold s_spec_l4Copy
  rw [pl_rlen, fits_small _ _ h (by decide)]
  rfl
theorem p_copyName (l : List ByteArray) (h : l.length ≤ 2 ^ 30) : s_impl_copyName l = some l := by
  unfold s_impl_copyName s_slices_Clone_string
  rw [pl_rlen, fits_small _ _ h (by decide)]
  rfl
theorem fits_add (a b c : Nat) (h : (a + b) * c ≤ 2 ^ 46) : prims.fits a b c = true := by rw [pl_fits, decide_eq_true_eq]; exact h
theorem while_push {α β : Type} {step : (Int × List β) → Option ((Int × List β) ⊕ (Int × List β))} (l : List α) (g : α → List β) (hl : l.length < 2 ^ 61) (hg : ∀ x, (g x).length ≤ 1)
    (hs : ∀ (i : Nat) x out, x ∈ l → nthI l (i : Int) = some x → i < l.length → out.length ≤ i → step ((i : Int), out) = some (.inl (((i + 1 : Nat) : Int), out ++ g x)))
    (he : ∀ out, step ((l.length : Int), out) = some (.inr ((l.length : Int), out))) : whileO step fuel (0, []) = some ((l.length : Int), l.flatMap g) := by
  refine while_list0 (σ := List β) l (fun i s => ((i : Int), s)) (fun i rest s => ((l.length : Int), s ++ rest.flatMap g)) (fun i s => s.length ≤ i) [] (by unfold fuel; omega) (Nat.le_refl _) (fun s _ => by simpa using he s) fun i x rest s hd hi hx hI => ?_
  have hxl : x ∈ l := by
    have : x ∈ l.drop i := by rw [hd]; simp
    exact List.mem_of_mem_drop this
  refine .inl ⟨s ++ g x, hs i x s hxl hx hi hI, ?_, ?_⟩
  · have := hg x
    rw [List.length_append]
    omega
  · rw [List.flatMap_cons, List.append_assoc]
def RdrS (l : List DReader) : Prop := l.length ≤ 2 ^ 21 ∧ ∀ x ∈ l, x.name.length ≤ 2 ^ 21
def hasP (a p : List ByteArray) : Bool := decide (p.length ≤ a.length) && decide (a.take p.length = p)
theorem subI_len {α : Type} (l : List α) (i : Nat) (h : i ≤ l.length) : subI l none (some (i : Int)) = some (l.take i) := by
  unfold subI
  simp only [boundI]
  rw [if_pos (by omega), Int.toNat_natCast]
  simp only
  rw [if_pos ⟨Nat.zero_le _, h⟩]
  simp
theorem p_spec_HasPrefix (a b : List ByteArray) (ha : a.length ≤ 2 ^ 30) : s_spec_HasPrefix a b = some (hasP a b) := by
  unfold s_spec_HasPrefix hasP
  simp only [pl_geq, pl_int, pl_len]
  by_cases h : b.length ≤ a.length
  · rw [decide_eq_true (show (b.length : Int) ≤ (a.length : Int) by omega), decide_eq_true h]
    have ht : s_spec_Truncate a (b.length : Int) = some (a.take b.length) := by
      unfold s_spec_Truncate s_spec_Min s_spec_Max
      simp only [pl_lss, pl_gtr, pl_int, pl_len]
      rw [decide_eq_false (show ¬ ((a.length : Int) < (b.length : Int)) by omega)]
      simp only [cond_false, Option.bind_some]
      have hm : (bif decide ((0 : Int) < (b.length : Int)) then some (b.length : Int) else some (0 : Int)) = some (b.length : Int) := by
        by_cases h0 : (0 : Int) < (b.length : Int)
        · rw [decide_eq_true h0]; rfl
        · rw [decide_eq_false h0, show ((b.length : Nat) : Int) = 0 by omega]; rfl
      rw [hm, Option.bind_some, subI_len a b.length h, Option.bind_some, pl_rlen, fits_small _ _ (by rw [List.length_take]; omega) (by decide)]
      rfl
    rw [cond_true, ht, Option.bind_some, p_spec_EqualNames _ _ (by rw [List.length_take]; omega)]
    rfl
  · rw [decide_eq_false (show ¬ ((b.length : Int) ≤ (a.length : Int)) by omega), decide_eq_false h]
    rfl
theorem p_impl_HasPrefix (a b : List ByteArray) (ha : a.length ≤ 2 ^ 30) : s_impl_HasPrefix a b = some (hasP a b) := by
  unfold s_impl_HasPrefix hasP
  simp only [pl_leq, pl_int, pl_len]
  by_cases h : b.length ≤ a.length
  · rw [decide_eq_true (show (b.length : Int) ≤ (a.length : Int) by omega), decide_eq_true h, cond_true, subI_len a b.length h, Option.bind_some, p_Equal_string _ _ (by rw [List.length_take]; omega)]
    rfl
  · rw [decide_eq_false (show ¬ ((b.length : Int) ≤ (a.length : Int)) by omega), decide_eq_false h]
    rfl
def mayR (k : Int) (n : List ByteArray) (x : DReader) : Bool := decide (x.node = k) && hasP n x.name
theorem p_spec_MayRead (l : List DReader) (k : Int) (n : List ByteArray) (h : RdrS l) (hn : n.length ≤ 2 ^ 21) : s_spec_MayRead l k n = some (l.any (mayR k n)) := by
  unfold s_spec_MayRead
  have hl := h.1
  rw [while_scan l (fun _ x => mayR k n x) (fun _ _ => true) .inr (.inl (l.length : Int)) (by omega) (fun i hi => by
    have hxn := h.2 l[i] (List.getElem_mem hi)
    simp only [s_spec_MayRead_l1, lt_len _ hi, nthI_at hi, cond_true, Option.bind_some, pl_eql, p_spec_HasPrefix n l[i].name (by omega), mayR]
    cases decide (l[i].node = k) <;> cases hasP n l[i].name <;> rfl) (by simp only [s_spec_MayRead_l1, lt_end]; rfl), scan_const]
  cases h : l.any (mayR k n) <;> simp
theorem p_impl_MayRead (l : List DReader) (k : Int) (n : List ByteArray) (h : RdrS l) (hn : n.length ≤ 2 ^ 21) : s_impl_MayRead l k n = some (l.any (mayR k n)) := by
  unfold s_impl_MayRead s_slices_ContainsFunc_Reader__MayRead_1 s_slices_IndexFunc_Reader__MayRead_1
  have hl := h.1
  rw [while_scan l (fun _ y => mayR k n y) (fun i _ => (i : Int)) .inr (.inl (l.length : Int)) (by omega) (fun j hj => by
    have hxn := h.2 l[j] (List.getElem_mem hj)
    simp only [s_slices_IndexFunc_Reader__MayRead_1_l1, s_impl_MayRead_1, lt_len _ hj, nthI_at hj, cond_true, Option.bind_some, pl_eql, p_impl_HasPrefix n l[j].name (by omega), mayR]
    cases decide (l[j].node = k) <;> cases hasP n l[j].name <;> rfl) (by simp only [s_slices_IndexFunc_Reader__MayRead_1_l1, lt_end]; rfl)]
  have e := idxI_nonneg (mayR k n) l
  unfold idxI at e
  rw [← e]
  cases scan (fun _ y => mayR k n y) (fun i _ => (i : Int)) 0 l <;> rfl
def modP (x : Int) : Int := prims.arith .rem .i64 (prims.arith .add .i64 (prims.arith .rem .i64 x 2147483647) 2147483647) 2147483647
def dStep (d x : Int) : Int := prims.arith .rem .i64 (prims.arith .add .i64 (prims.arith .add .i64 (prims.arith .mul .i64 d 1000003) (modP x)) 13) 2147483647
def dig (l : List Int) : Int := l.foldl dStep 11
theorem p_no : prims.cmp .eql 2147483647 0 = false := by rw [pl_eql]; decide
theorem p_spec_Mod (x : Int) : s_spec_Mod x 2147483647 = some (modP x) := by
  unfold s_spec_Mod modP
  rw [p_l1In, decide_eq_true (show (1 : Int) ≤ 2147483647 ∧ (2147483647 : Int) ≤ 1000000000000 from by decide)]
  simp only [Option.bind_some, pl_bnot, Bool.not_true, cond_false, p_no]
theorem p_impl_Mod (x : Int) : s_impl_Mod x 2147483647 = some (modP x) := by
  unfold s_impl_Mod modP
  rw [p_InRange, decide_eq_true (show (1 : Int) ≤ 2147483647 ∧ (2147483647 : Int) ≤ 1000000000000 from by decide)]
  simp only [Option.bind_some, pl_bnot, Bool.not_true, cond_false, p_no]
theorem p_spec_Digest (l : List Int) (hl : l.length ≤ 2 ^ 40) : s_spec_Digest l = some (dig l) := by
  unfold s_spec_Digest
  rw [show whileO (s_spec_Digest_l1 l) fuel (11, 0) = some (dig l, (l.length : Int)) from
    while_list0 (σ := Int) l (fun i s => (s, (i : Int))) (fun i rest s => (rest.foldl dStep s, (l.length : Int))) (fun _ _ => True) 11 (by unfold fuel; omega) trivial (fun s _ => by
      simp only [s_spec_Digest_l1, lt_end, cond_false]; rfl) (fun i x rest s hd hi hx _ => by
      left
      refine ⟨dStep s x, ?_, trivial, rfl⟩
      simp only [s_spec_Digest_l1, lt_len _ hi, cond_true, hx, Option.bind_some, p_spec_Mod, p_no, cond_false, pl_inc i l.length hi (by omega)]
      rfl)]
  rfl
theorem p_impl_Digest (l : List Int) (hl : l.length ≤ 2 ^ 40) : s_impl_Digest l = some (dig l) := by
  unfold s_impl_Digest
  rw [show whileO (s_impl_Digest_l1 l) fuel (11, 0) = some (dig l, (l.length : Int)) from
    while_list0 (σ := Int) l (fun i s => (s, (i : Int))) (fun i rest s => (rest.foldl dStep s, (l.length : Int))) (fun _ _ => True) 11 (by unfold fuel; omega) trivial (fun s _ => by
      simp only [s_impl_Digest_l1, lt_end, cond_false]; rfl) (fun i x rest s hd hi hx _ => by
      left
      refine ⟨dStep s x, ?_, trivial, rfl⟩
      simp only [s_impl_Digest_l1, lt_len _ hi, cond_true, hx, Option.bind_some, p_impl_Mod, p_no, cond_false, pl_inc i l.length hi (by omega)]
      rfl)]
  rfl
def bi (b : UInt8) : Int := (b.toNat : Int)
def bti (b : List UInt8) : List Int := (b.length : Int) :: b.map bi
theorem bti_len (b : List UInt8) : (bti b).length = b.length + 1 := by simp [bti]
theorem wrap_yI (b : UInt8) : prims.wrap .i64 (prims.yI b) = bi b := wrap_byte b
theorem p_spec_BytesToInts (b : List UInt8) (h : b.length ≤ 2 ^ 40) : s_spec_BytesToInts b = some (bti b) := by
  unfold s_spec_BytesToInts
  rw [show whileO (s_spec_BytesToInts_l1 b) fuel (0, [prims.int (prims.len (List.map eY b))]) = some ((b.length : Int), bti b) from by
    have H := while_list0 (σ := List Int) (step := s_spec_BytesToInts_l1 b) b (fun i s => ((i : Int), s)) (fun i rest s => ((b.length : Int), s ++ rest.map bi)) (fun i s => s.length = i + 1) [(b.length : Int)] (by unfold fuel; omega) rfl (fun s hs => by
        simp only [s_spec_BytesToInts_l1, lt_end, cond_false, List.map_nil, List.append_nil]) (fun i x rest s hd hi hx hs => by
        left
        have hf : (s.length + 1) * 8 ≤ 2 ^ 46 := by omega
        refine ⟨s ++ [bi x], ?_, by simp [hs], by simp⟩
        simp only [s_spec_BytesToInts_l1, pl_lss, pl_int, pl_len, decide_eq_true (show (i : Int) < (b.length : Int) by omega), cond_true, hx, Option.bind_some, wrap_yI, pl_fits, pl_rlen, List.length_cons, List.length_nil, decide_eq_true hf, pl_inc i b.length hi (by omega)])
    rw [pl_int, pl_len]
    exact H]
  rfl
theorem p_impl_BytesToInts (b : List UInt8) (h : b.length ≤ 2 ^ 40) : s_impl_BytesToInts b = some (bti b) := p_spec_BytesToInts b h
theorem byW_nat (m : Nat) : prims.byW (m : Int) = UInt8.ofNat m := by
  show UInt8.ofNat (IntKind.u8.wrap (m : Int)).toNat = _
  have h : IntKind.u8.wrap (m : Int) = (m : Int) % 256 := by simp [IntKind.wrap, IntKind.signed, IntKind.bits]
  rw [h, show ((m : Int) % 256).toNat = m % 256 by omega]
  apply UInt8.toNat_inj.1
  simp
theorem p_Concat (l : List (List Int)) (h : l.length ≤ 2 ^ 10) (hs : ∀ x ∈ l, x.length ≤ 4194304) : s_slices_Concat_int l = some l.flatten := by
  have hfl : ∀ i, ((l.take i).flatten).length ≤ i * 4194304 := by
    intro i
    induction i with
    | zero => simp
    | succ i ih =>
      by_cases hi : i < l.length
      · rw [List.take_succ_eq_append_getElem hi]
        have := hs l[i] (List.getElem_mem hi)
        simp only [List.flatten_append, List.flatten_cons, List.flatten_nil, List.append_nil, List.length_append]
        omega
      · have e1 : l.take i = l := List.take_of_length_le (Nat.le_of_not_lt hi)
        have e2 : l.take (i + 1) = l := List.take_of_length_le (Nat.le_succ_of_le (Nat.le_of_not_lt hi))
        rw [e1] at ih
        rw [e2]
        exact Nat.le_trans ih (Nat.mul_le_mul_right _ (Nat.le_succ i))
  have hm : ∀ i, i ≤ l.length → i * 4194304 ≤ 4294967296 := fun i hi => by omega
  have H1 := while_seq (step := s_slices_Concat_int_l1 l) (fun i => ((((l.take i).flatten.length : Nat) : Int), (i : Int))) (((l.flatten.length : Nat) : Int), (l.length : Int)) l.length (by omega) (fun i hi => by
    have h1 := hfl i
    have h2 := hs l[i] (List.getElem_mem hi)
    have h3 := hm i (Nat.le_of_lt hi)
    have e : prims.arith .add .i64 (((l.take i).flatten.length : Nat) : Int) ((l[i].length : Nat) : Int) = (((l.take (i + 1)).flatten.length : Nat) : Int) := by
      rw [pl_add _ _ (by omega) (by omega), List.take_succ_eq_append_getElem hi, List.flatten_append, List.length_append]
      simp only [List.flatten_cons, List.flatten_nil, List.append_nil]
      omega
    simp only [s_slices_Concat_int_l1, cond_true, nthI_at hi, Option.bind_some, pl_int, pl_len, e, pl_lss, decide_eq_true (show (i : Int) < (l.length : Int) by omega), decide_eq_false (show ¬ ((((l.take (i + 1)).flatten.length : Nat) : Int) < 0) by omega), cond_false, pl_inc i l.length hi (by omega)]) (by
    simp only [s_slices_Concat_int_l1, lt_end, cond_false, List.take_length])
  have H2 := while_seq (step := s_slices_Concat_int_l2 l) (fun i => ((i : Int), (l.take i).flatten)) ((l.length : Int), l.flatten) l.length (by omega) (fun i hi => by
    have h1 := hfl i
    have h2 := hs l[i] (List.getElem_mem hi)
    have h3 := hm i (Nat.le_of_lt hi)
    have hf : ((l.take i).flatten.length + l[i].length) * 8 ≤ 2 ^ 46 := by omega
    simp only [s_slices_Concat_int_l2, pl_lss, pl_int, decide_eq_true (show (i : Int) < (l.length : Int) by omega), cond_true, nthI_at hi, Option.bind_some, pl_fits, pl_len, pl_rlen, decide_eq_true hf, pl_inc i l.length hi (by omega)]
    rw [List.take_succ_eq_append_getElem hi, List.flatten_append]
    simp only [List.flatten_cons, List.flatten_nil, List.append_nil]) (by
    simp only [s_slices_Concat_int_l2, lt_end, cond_false, List.take_length])
  have hall := hfl l.length
  rw [List.take_length] at hall
  have h4 := hm l.length (Nat.le_refl _)
  unfold s_slices_Concat_int
  have e0 : ((0 : Int), (0 : Int)) = ((((l.take 0).flatten.length : Nat) : Int), ((0 : Nat) : Int)) := rfl
  rw [e0, H1]
  have eg : s_slices_Grow_int ((l.flatten.length : Nat) : Int) = some [] := by
    unfold s_slices_Grow_int
    rw [if_pos ⟨by omega, by omega⟩]
  simp only [Option.bind_some, eg]
  have e1 : ((0 : Int), ([] : List Int)) = (((0 : Nat) : Int), (l.take 0).flatten) := rfl
  rw [e1, H2]
  rfl
def mac (s : Int) (l : List Int) : Int := dig ([s] ++ l ++ [s])
theorem p_spec_ComputeMAC (s : Int) (l : List Int) (h : l.length ≤ 2 ^ 22) : s_spec_ComputeMAC s l = some (mac s l) := by
  unfold s_spec_ComputeMAC mac
  have hf : (1 + l.length) * 8 ≤ 2 ^ 46 := by omega
  have hf2 : (([s] ++ l).length + 1) * 8 ≤ 2 ^ 46 := by simp only [List.length_append, List.length_cons, List.length_nil]; omega
  simp only [pl_fits, pl_rlen, pl_len, decide_eq_true hf, cond_true, List.length_cons, List.length_nil, decide_eq_true hf2, p_spec_Digest ([s] ++ l ++ [s]) (by simp only [List.length_append, List.length_cons, List.length_nil]; omega), Option.bind_some]
theorem p_impl_ComputeMAC (s : Int) (l : List Int) (h : l.length ≤ 2 ^ 22) : s_impl_ComputeMAC s l = some (mac s l) := by
  unfold s_impl_ComputeMAC mac
  have e : [[s], l, [s]].flatten = [s] ++ l ++ [s] := by simp
  rw [p_Concat [[s], l, [s]] (by simp) (fun x hx => by
    simp only [List.mem_cons, List.not_mem_nil, or_false] at hx
    rcases hx with rfl | rfl | rfl
    · simp
    · exact h
    · simp), e]
  simp only [Option.bind_some, p_impl_Digest ([s] ++ l ++ [s]) (by simp only [List.length_append, List.length_cons, List.length_nil]; omega)]
theorem tmod_any (a : Int) : -2147483647 < a.tmod 2147483647 ∧ a.tmod 2147483647 < 2147483647 := ⟨Int.lt_tmod_of_pos a (by decide), Int.tmod_lt_of_pos a (by decide)⟩
theorem tmod_pos (a : Int) (h : 0 ≤ a) : 0 ≤ a.tmod 2147483647 ∧ a.tmod 2147483647 < 2147483647 := ⟨Int.tmod_nonneg _ h, Int.tmod_lt_of_pos a (by decide)⟩
theorem modP_rng (x : Int) : 0 ≤ modP x ∧ modP x < 2147483647 := by
  have h1 := tmod_any x
  have e : prims.arith .add .i64 (prims.arith .rem .i64 x 2147483647) 2147483647 = x.tmod 2147483647 + 2147483647 := pl_add (x.tmod 2147483647) 2147483647 (by omega) (by omega)
  unfold modP
  rw [e]
  exact tmod_pos _ (by omega)
theorem dStep_rng (d x : Int) (h : 0 ≤ d ∧ d < 2147483647) : 0 ≤ dStep d x ∧ dStep d x < 2147483647 := by
  have h1 := modP_rng x
  have e1 : prims.arith .mul .i64 d 1000003 = d * 1000003 := by
    show IntKind.i64.wrap (d * 1000003) = _
    rw [IntKind.wrap_i64]
    omega
  have e2 : prims.arith .add .i64 (prims.arith .mul .i64 d 1000003) (modP x) = d * 1000003 + modP x := by
    rw [e1]
    exact pl_add _ _ (by omega) (by omega)
  have e3 : prims.arith .add .i64 (prims.arith .add .i64 (prims.arith .mul .i64 d 1000003) (modP x)) 13 = d * 1000003 + modP x + 13 := by
    rw [e2]
    exact pl_add _ _ (by omega) (by omega)
  unfold dStep
  rw [e3]
  exact tmod_pos _ (by omega)
theorem dig_rng (l : List Int) : 0 ≤ dig l ∧ dig l < 2147483647 := by
  have : ∀ (l : List Int) (d : Int), 0 ≤ d ∧ d < 2147483647 → 0 ≤ l.foldl dStep d ∧ l.foldl dStep d < 2147483647 := by
    intro l
    induction l with
    | nil => intro d h; exact h
    | cons x l ih => intro d h; exact ih _ (dStep_rng d x h)
  exact this l 11 (by decide)
theorem mac_rng (s : Int) (l : List Int) : 0 ≤ mac s l ∧ mac s l < 2147483647 := dig_rng _
def der (s : Int) (t : ByteArray) : Int := if mac s (bti (bytesL t)) = 0 then 1 else mac s (bti (bytesL t))
theorem bytesL_len (t : ByteArray) : (bytesL t).length = t.size := rfl
theorem bytes_fit (t : ByteArray) (h : t.size ≤ 2 ^ 40) : prims.fits 0 (prims.rlen (prims.bytes t)) 1 = true := by
  rw [byt_gen, pl_rlen, bytesL_len, pl_fits, decide_eq_true_eq]
  omega
theorem p_spec_DeriveSecret (s : Int) (t : ByteArray) (h : t.size ≤ 2 ^ 21) : s_spec_DeriveSecret s t = some (der s t) := by
  have hm := mac_rng s (bti (bytesL t))
  have hl := bytesL_len t
  unfold s_spec_DeriveSecret der
  simp only [Option.bind_some, bytes_fit t (by omega), cond_true, p_spec_BytesToInts (bytesL t) (by omega), p_spec_ComputeMAC s (bti (bytesL t)) (by rw [bti_len]; omega)]
  unfold s_spec_Max
  rw [pl_gtr]
  by_cases h1 : 1 < mac s (bti (bytesL t))
  · rw [decide_eq_true h1, if_neg (by omega)]; rfl
  · rw [decide_eq_false h1]
    split
    · rfl
    · have : mac s (bti (bytesL t)) = 1 := by omega
      rw [this]; rfl
theorem p_impl_DeriveSecret (s : Int) (t : ByteArray) (h : t.size ≤ 2 ^ 21) : s_impl_DeriveSecret s t = some (der s t) := by
  have hl := bytesL_len t
  unfold s_impl_DeriveSecret der
  simp only [Option.bind_some, bytes_fit t (by omega), cond_true, p_impl_BytesToInts (bytesL t) (by omega), p_impl_ComputeMAC s (bti (bytesL t)) (by rw [bti_len]; omega), pl_eql]
  by_cases h1 : mac s (bti (bytesL t)) = 0
  · rw [decide_eq_true h1, if_pos h1]; rfl
  · rw [decide_eq_false h1, if_neg h1]; rfl
def nsec (s : Int) (n : List ByteArray) : Int := n.foldl der s
theorem p_spec_NamespaceSecret (s : Int) (n : List ByteArray) (hl : n.length ≤ 2 ^ 40) (h : ∀ t ∈ n, t.size ≤ 2 ^ 21) : s_spec_NamespaceSecret s n = some (nsec s n) := by
  unfold s_spec_NamespaceSecret
  rw [show whileO (s_spec_NamespaceSecret_l1 n) fuel (s, 0) = some (nsec s n, (n.length : Int)) from
    while_list0 (σ := Int) n (fun i s => (s, (i : Int))) (fun i rest s => (rest.foldl der s, (n.length : Int))) (fun _ _ => True) s (by unfold fuel; omega) trivial (fun s _ => by
      simp only [s_spec_NamespaceSecret_l1, lt_end, cond_false]; rfl) (fun i x rest s hd hi hx _ => by
      left
      have hmem : x ∈ n := by
        have : x ∈ n.drop i := by rw [hd]; simp
        exact List.mem_of_mem_drop this
      refine ⟨der s x, ?_, trivial, rfl⟩
      simp only [s_spec_NamespaceSecret_l1, lt_len _ hi, cond_true, hx, Option.bind_some, p_spec_DeriveSecret s x (h x hmem), pl_inc i n.length hi (by omega)])]
  rfl
theorem p_impl_NamespaceSecret (s : Int) (n : List ByteArray) (hl : n.length ≤ 2 ^ 40) (h : ∀ t ∈ n, t.size ≤ 2 ^ 21) : s_impl_NamespaceSecret s n = some (nsec s n) := by
  unfold s_impl_NamespaceSecret
  rw [show whileO (s_impl_NamespaceSecret_l1 n) fuel (s, 0) = some (nsec s n, (n.length : Int)) from
    while_list0 (σ := Int) n (fun i s => (s, (i : Int))) (fun i rest s => (rest.foldl der s, (n.length : Int))) (fun _ _ => True) s (by unfold fuel; omega) trivial (fun s _ => by
      simp only [s_impl_NamespaceSecret_l1, lt_end, cond_false]; rfl) (fun i x rest s hd hi hx _ => by
      left
      have hmem : x ∈ n := by
        have : x ∈ n.drop i := by rw [hd]; simp
        exact List.mem_of_mem_drop this
      refine ⟨der s x, ?_, trivial, rfl⟩
      simp only [s_impl_NamespaceSecret_l1, lt_len _ hi, cond_true, hx, Option.bind_some, p_impl_DeriveSecret s x (h x hmem), pl_inc i n.length hi (by omega)])]
  rfl
theorem p_spec_EpochSecret (s k : Int) (hk : I64 k) : s_spec_EpochSecret s k = some (der s (bs (Go.Lib.itoa k))) := by
  have hl := itoa_len k hk
  unfold s_spec_EpochSecret
  simp only [p_spec_FormatInt k hk, Option.bind_some, p_spec_DeriveSecret s (bs (Go.Lib.itoa k)) (by rw [bs_size]; omega)]
theorem p_impl_EpochSecret (s k : Int) (hk : I64 k) : s_impl_EpochSecret s k = some (der s (bs (Go.Lib.itoa k))) := by
  have hl := itoa_len k hk
  unfold s_impl_EpochSecret
  simp only [p_impl_FormatInt k hk, Option.bind_some, p_impl_DeriveSecret s (bs (Go.Lib.itoa k)) (by rw [bs_size]; omega)]
theorem rem256 (m : Int) (h : 0 ≤ m) : prims.arith .rem .i64 m 256 = ((m.toNat % 256 : Nat) : Int) := by
  show m.tmod 256 = _
  rw [Int.tmod_eq_emod_of_nonneg h]
  omega
theorem n256 : prims.cmp .eql 256 0 = false := by rw [pl_eql]; decide
theorem scan_two {α : Type} (p : α → Bool) (f : α → Int) : ∀ (l full : List α) (i : Nat), full.drop i = l → (match scan (fun _ x => p x) (fun j _ => (j : Int)) i l with | some k => (nthI full k).map f | none => none) = scan (fun _ x => p x) (fun _ x => f x) i l
  | [], full, i, h => rfl
  | x :: l, full, i, h => by
    have hx : full[i]? = some x := by
      have : (full.drop i)[0]? = some x := by rw [h]; rfl
      simpa using this
    cases hp : p x
    · have ih := scan_two p f l full (i + 1) (by rw [← List.drop_drop, h]; rfl)
      simp only [scan, hp, cond_false, Bool.false_eq_true, if_false] at ih ⊢
      exact ih
    · simp [scan, hp, nthI, hx]
end
end Go.Proofs.YtlbmlgnckclenaaGreatDoor

namespace Go.Proofs.YtlbmlgnckclenaaGreatDoor
open Go.RowKit
set_option linter.unusedVariables false
set_option linter.unusedSimpArgs false
set_option maxRecDepth 100000
noncomputable section
/-! the readers of an epoch, and their grants -/
theorem flatMap_if {α β : Type} (q : α → Bool) (f : α → β) : ∀ l : List α, l.flatMap (fun x => bif q x then [f x] else []) = (l.filter q).map f
  | [] => rfl
  | x :: l => by
    rw [List.flatMap_cons, flatMap_if q f l, List.filter_cons]
    cases q x <;> rfl
def actR (e : Int) (l : List DReader) : List DReader := l.filter fun x => decide (x.epoch ≤ e)
theorem rlb1 (x : DReader) : prims.rlen (borL (List.map eReader [x])) = 1 := rfl
theorem p_act (l : List DReader) (e : Int) (h : l.length ≤ 2 ^ 21) : whileO (s_spec_l38May_l1 l e) fuel (0, []) = some ((l.length : Int), actR e l) := by
  rw [while_push l (fun x => bif decide (x.epoch ≤ e) then [x] else []) (by omega) (fun x => by cases decide (x.epoch ≤ e) <;> simp) (fun i x out hm hx hi ho => by
    simp only [s_spec_l38May_l1, lt_len _ hi, cond_true, hx, Option.bind_some, pl_leq, rlb1]
    simp only [pl_len, pl_inc i l.length hi (by omega)]
    rw [fits_add _ _ _ (by omega)]
    cases decide (x.epoch ≤ e) <;> simp) (fun out => by simp only [s_spec_l38May_l1, lt_end]; rfl), flatMap_if, List.map_id']
  rfl
theorem p_l38May (l : List DReader) (e : Int) (h : l.length ≤ 2 ^ 21) : s_spec_l38May l e = some (actR e l) := by
  unfold s_spec_l38May
  rw [p_act l e h]
  rfl
theorem p_act2 (x : DAccessController) (e : Int) (h : x.readers.length ≤ 2 ^ 21) : whileO (s_impl_ReadBy_l1 x e) fuel (0, []) = some ((x.readers.length : Int), actR e x.readers) := by
  have : s_impl_ReadBy_l1 x e = s_spec_l38May_l1 x.readers e := by funext p; rfl
  rw [this, p_act x.readers e h]
theorem p_spec_Truncate (n : List ByteArray) (i : Nat) (h : i ≤ n.length) (hn : n.length ≤ 2 ^ 30) : s_spec_Truncate n (i : Int) = some (n.take i) := by
  unfold s_spec_Truncate s_spec_Min s_spec_Max
  simp only [pl_lss, pl_gtr, pl_int, pl_len]
  rw [decide_eq_false (show ¬ ((n.length : Int) < (i : Int)) by omega)]
  simp only [cond_false, Option.bind_some]
  have hm : (bif decide ((0 : Int) < (i : Int)) then some (i : Int) else some (0 : Int)) = some (i : Int) := by
    by_cases h0 : (0 : Int) < (i : Int)
    · rw [decide_eq_true h0]; rfl
    · rw [decide_eq_false h0, show ((i : Nat) : Int) = 0 by omega]; rfl
  rw [hm, Option.bind_some, subI_len n i h, Option.bind_some, pl_rlen, fits_small _ _ (by rw [List.length_take]; omega) (by decide)]
  rfl
theorem p_impl_Truncate (n : List ByteArray) (i : Nat) (h : i ≤ n.length) (hn : n.length ≤ 2 ^ 30) : s_impl_Truncate n (i : Int) = some (n.take i) := by
  have h1 : prims.max 0 (prims.min (i : Int) (prims.int (prims.len (List.map eS n)))) = (i : Int) := by
    rw [pl_int, pl_len, pl_min, pl_max]
    split <;> split <;> omega
  unfold s_impl_Truncate s_slices_Clone_string
  rw [h1, subI_len n i h, Option.bind_some, pl_rlen, fits_small _ _ (by rw [List.length_take]; omega) (by decide)]
  rfl
def RdrOk (l : List DReader) : Prop := l.length ≤ 2 ^ 21 ∧ ∀ x ∈ l, x.name.length ≤ 2 ^ 21 ∧ ∀ t ∈ x.name, t.size ≤ 2 ^ 21
def grant (s : Int) (x : DReader) : DGrant := ⟨x.name, nsec s x.name⟩
def grantsR (s k : Int) (l : List DReader) : List DGrant := (l.filter fun x => decide (x.node = k)).map (grant s)
theorem p_spec_GrantsOf (l : List DReader) (s k : Int) (h : RdrOk l) : s_spec_GrantsOf l s k = some (grantsR s k l) := by
  unfold s_spec_GrantsOf
  have hl := h.1
  rw [while_push l (fun x => bif decide (x.node = k) then [grant s x] else []) (by omega) (fun x => by cases decide (x.node = k) <;> simp) (fun i x out hm hx hi ho => by
    obtain ⟨h1, h2⟩ := h.2 x hm
    simp only [s_spec_GrantsOf_l1, s_spec_MakeGrant, lt_len _ hi, cond_true, hx, Option.bind_some, pl_eql, p_l4Copy x.name (by omega), p_spec_NamespaceSecret s x.name (by omega) h2]
    simp only [pl_len, pl_rlen, pl_inc i l.length hi (by omega)]
    rw [fits_add _ _ _ (by simp only [List.length_singleton]; omega)]
    cases decide (x.node = k) <;> simp [grant]) (fun out => by simp only [s_spec_GrantsOf_l1, lt_end]; rfl), flatMap_if]
  rfl
theorem p_impl_GrantsOf (l : List DReader) (s k : Int) (h : RdrOk l) : s_impl_GrantsOf l s k = some (grantsR s k l) := by
  unfold s_impl_GrantsOf
  have hl := h.1
  rw [while_push l (fun x => bif decide (x.node = k) then [grant s x] else []) (by omega) (fun x => by cases decide (x.node = k) <;> simp) (fun i x out hm hx hi ho => by
    obtain ⟨h1, h2⟩ := h.2 x hm
    simp only [s_impl_GrantsOf_l1, s_impl_MakeGrant, lt_len _ hi, cond_true, hx, Option.bind_some, pl_eql, p_copyName x.name (by omega), p_impl_NamespaceSecret s x.name (by omega) h2]
    simp only [pl_len, pl_rlen, pl_inc i l.length hi (by omega)]
    rw [fits_add _ _ _ (by simp only [List.length_singleton]; omega)]
    cases decide (x.node = k) <;> simp [grant]) (fun out => by simp only [s_impl_GrantsOf_l1, lt_end]; rfl), flatMap_if]
  rfl
/-! grants that cover a name -/
def covP (n : List ByteArray) (x : DGrant) : Bool := hasP n x.name
def gsec (g : List DGrant) (n : List ByteArray) : Int := match scan (fun _ x => covP n x) (fun _ x => nsec x.secret (n.drop x.name.length)) 0 g with
  | some s => s
  | none => 0
theorem p_l25Find (g : List DGrant) (n : List ByteArray) (hg : g.length ≤ 2 ^ 21) (hn : n.length ≤ 2 ^ 21) : s_spec_l25Find g n = some (idxI (covP n) g) := by
  unfold s_spec_l25Find
  rw [while_scan g (fun _ x => covP n x) (fun i _ => (i : Int)) .inr (.inl (g.length : Int)) (by omega) (fun j hj => by
    simp only [s_spec_l25Find_l1, lt_len _ hj, nthI_at hj, cond_true, Option.bind_some, p_spec_HasPrefix n _ (by omega), covP]) (by simp only [s_spec_l25Find_l1, lt_end]; rfl)]
  unfold idxI
  cases scan (fun _ x => covP n x) (fun i _ => (i : Int)) 0 g <;> rfl
theorem p_spec_GrantCovers (g : List DGrant) (n : List ByteArray) (hg : g.length ≤ 2 ^ 21) (hn : n.length ≤ 2 ^ 21) : s_spec_GrantCovers g n = some (g.any (covP n)) := by
  unfold s_spec_GrantCovers
  rw [p_l25Find g n hg hn, Option.bind_some, pl_geq, idxI_nonneg]
theorem p_impl_GrantCovers (g : List DGrant) (n : List ByteArray) (hg : g.length ≤ 2 ^ 21) (hn : n.length ≤ 2 ^ 21) : s_impl_GrantCovers g n = some (g.any (covP n)) := by
  unfold s_impl_GrantCovers s_slices_ContainsFunc_Grant__GrantCovers_1 s_slices_IndexFunc_Grant__GrantCovers_1
  rw [while_scan g (fun _ y => covP n y) (fun i _ => (i : Int)) .inr (.inl (g.length : Int)) (by omega) (fun j hj => by
    simp only [s_slices_IndexFunc_Grant__GrantCovers_1_l1, s_impl_GrantCovers_1, lt_len _ hj, nthI_at hj, cond_true, Option.bind_some, p_impl_HasPrefix n _ (by omega), covP]) (by simp only [s_slices_IndexFunc_Grant__GrantCovers_1_l1, lt_end]; rfl)]
  have e := idxI_nonneg (covP n) g
  unfold idxI at e
  rw [← e]
  cases scan (fun _ y => covP n y) (fun i _ => (i : Int)) 0 g <;> rfl
theorem subI_from {α : Type} (l : List α) (i : Nat) (h : i ≤ l.length) : subI l (some (i : Int)) none = some (l.drop i) := by
  unfold subI
  simp only [boundI]
  rw [if_pos (by omega), Int.toNat_natCast]
  simp only
  rw [if_pos ⟨h, Nat.le_refl _⟩]
  simp [List.take_of_length_le]
theorem cov_len {n : List ByteArray} {x : DGrant} (h : covP n x = true) : x.name.length ≤ n.length := by
  unfold covP hasP at h
  simp only [Bool.and_eq_true, decide_eq_true_eq] at h
  exact h.1
theorem p_spec_GrantedSecret (g : List DGrant) (n : List ByteArray) (hg : g.length ≤ 2 ^ 21) (hn : n.length ≤ 2 ^ 21) (ht : ∀ t ∈ n, t.size ≤ 2 ^ 21) : s_spec_GrantedSecret g n = some (gsec g n) := by
  unfold s_spec_GrantedSecret gsec
  rw [p_l25Find g n hg hn]
  have e := scan_two (covP n) (fun x => nsec x.secret (n.drop x.name.length)) g g 0 rfl
  rcases idxI_cases (covP n) g with ⟨h1, h2⟩ | ⟨j, x, h1, h2, h3⟩
  · rw [h1]
    unfold idxI at h1
    cases hs : scan (fun _ x => covP n x) (fun i _ => (i : Int)) 0 g with
    | none =>
      rw [hs] at e
      rw [← e]
      rfl
    | some k =>
      obtain ⟨j, x, e1, e2, e3⟩ := scan_some _ _ g 0 k hs
      rw [hs] at h1
      simp only at h1
      omega
  · rw [h1]
    unfold idxI at h1
    cases hs : scan (fun _ x => covP n x) (fun i _ => (i : Int)) 0 g with
    | none => rw [hs] at h1; simp only at h1; omega
    | some k =>
      rw [hs] at h1 e
      simp only at h1 e
      subst h1
      have hn0 : ¬ ((j : Nat) : Int) < 0 := by omega
      rw [← e]
      simp only [Option.bind_some, pl_lss, decide_eq_false hn0, cond_false, nthI_nat, h2, Option.map_some, pl_int, pl_len, subI_from n _ (cov_len h3), p_spec_NamespaceSecret x.secret (n.drop x.name.length) (by rw [List.length_drop]; omega) (fun t hm => ht t (List.mem_of_mem_drop hm))]
theorem p_impl_GrantedSecret (g : List DGrant) (n : List ByteArray) (hg : g.length ≤ 2 ^ 21) (hn : n.length ≤ 2 ^ 21) (ht : ∀ t ∈ n, t.size ≤ 2 ^ 21) : s_impl_GrantedSecret g n = some (gsec g n) := by
  unfold s_impl_GrantedSecret gsec
  rw [while_scan g (fun _ x => covP n x) (fun _ x => nsec x.secret (n.drop x.name.length)) .inr (.inl (g.length : Int)) (by omega) (fun j hj => by
    simp only [s_impl_GrantedSecret_l1, lt_len _ hj, nthI_at hj, cond_true, Option.bind_some, p_impl_HasPrefix n _ (by omega)]
    show (bif covP n g[j] then _ else _) = _
    cases hp : covP n g[j]
    · rfl
    · simp only [cond_true, if_true, pl_int, pl_len, subI_from n _ (cov_len hp), Option.bind_some, p_impl_NamespaceSecret g[j].secret (n.drop g[j].name.length) (by rw [List.length_drop]; omega) (fun t hm => ht t (List.mem_of_mem_drop hm))]) (by simp only [s_impl_GrantedSecret_l1, lt_end]; rfl)]
  cases scan (fun _ x => covP n x) (fun _ x => nsec x.secret (n.drop x.name.length)) 0 g <;> rfl
/-! numbers of one to six bytes -/
def rvI (b : List UInt8) : Nat → Nat → Int → Int × Int × Bool
  | 0, _, _ => (0, 0, false)
  | k + 1, i, v => match b[i]? with
    | none => (0, 0, false)
    | some x =>
      bif prims.cmp .lss (bi x) 128 then
        (bif prims.cmp .eql (bi x) 0 then
          (bif prims.cmp .gtr (i : Int) 0 then (0, 0, false)
          else (bif prims.cmp .gtr (prims.arith .or .i64 v (prims.arith .shl .i64 (prims.arith .and .i64 (bi x) 127) (prims.arith .mul .i64 7 (i : Int)))) 1000000000000 then (0, 0, false)
            else (prims.arith .or .i64 v (prims.arith .shl .i64 (prims.arith .and .i64 (bi x) 127) (prims.arith .mul .i64 7 (i : Int))), ((i + 1 : Nat) : Int), true)))
        else (bif prims.cmp .gtr (prims.arith .or .i64 v (prims.arith .shl .i64 (prims.arith .and .i64 (bi x) 127) (prims.arith .mul .i64 7 (i : Int)))) 1000000000000 then (0, 0, false)
          else (prims.arith .or .i64 v (prims.arith .shl .i64 (prims.arith .and .i64 (bi x) 127) (prims.arith .mul .i64 7 (i : Int))), ((i + 1 : Nat) : Int), true)))
      else rvI b k (i + 1) (prims.arith .or .i64 v (prims.arith .shl .i64 (prims.arith .and .i64 (bi x) 127) (prims.arith .mul .i64 7 (i : Int))))
theorem rvI_pos (b : List UInt8) : ∀ k i v, ∃ p : Nat, (rvI b k i v).2.1 = (p : Int) ∧ p ≤ b.length
  | 0, i, v => ⟨0, rfl, Nat.zero_le _⟩
  | k + 1, i, v => by
    unfold rvI
    cases hx : b[i]? with
    | none => exact ⟨0, rfl, Nat.zero_le _⟩
    | some x =>
      have hi : i < b.length := (List.getElem?_eq_some_iff.1 hx).1
      simp only
      cases prims.cmp .lss (bi x) 128
      · exact rvI_pos b k (i + 1) _
      · cases prims.cmp .eql (bi x) 0 <;> cases prims.cmp .gtr (i : Int) 0 <;> cases prims.cmp .gtr (prims.arith .or .i64 v (prims.arith .shl .i64 (prims.arith .and .i64 (bi x) 127) (prims.arith .mul .i64 7 (i : Int)))) 1000000000000 <;> first | exact ⟨0, rfl, Nat.zero_le _⟩ | exact ⟨i + 1, rfl, hi⟩
theorem seven (i : Nat) (h : i < 6) : prims.cmp .leq 0 (prims.arith .mul .i64 7 (i : Int)) = true := by
  have : i = 0 ∨ i = 1 ∨ i = 2 ∨ i = 3 ∨ i = 4 ∨ i = 5 := by omega
  rcases this with rfl | rfl | rfl | rfl | rfl | rfl <;> rfl
theorem p_rvS (b : List UInt8) (hb : b.length ≤ 2 ^ 40) : ∀ (k i n : Nat) (v : Int), i + k = 6 → k < n → ((whileO (s_spec_ReadVarint_l1 b 0) n (v, (i : Int))).bind fun g => match g with | .inl (w14, w15) => (some ((0 : Int), (0 : Int), false)) | .inr (w16) => (some w16)) = some (rvI b k i v)
  | 0, i, n + 1, v, h, hn => by
    rw [whileO_inr (g := .inl (v, (i : Int))) (by simp only [s_spec_ReadVarint_l1, pl_lss, decide_eq_false (show ¬ (i : Int) < 6 by omega), cond_false])]
    rfl
  | k + 1, i, n + 1, v, h, hn => by
    have hi6 : (i : Int) < 6 := by omega
    have hge : prims.cmp .geq 0 (prims.arith .sub .i64 (prims.int (prims.len (List.map eY b))) (i : Int)) = decide (b.length ≤ i) := by
      rw [pl_int, pl_len, pl_sub _ _ (by omega) (by omega), pl_geq]
      by_cases hh : b.length ≤ i
      · rw [decide_eq_true hh, decide_eq_true (by omega)]
      · rw [decide_eq_false hh, decide_eq_false (by omega)]
    have h0 : prims.arith .add .i64 0 (i : Int) = (i : Int) := by rw [pl_add _ _ (by omega) (by omega)]; omega
    have h1 : prims.arith .add .i64 (i : Int) 1 = ((i + 1 : Nat) : Int) := pl_inc i 6 (by omega) (by omega)
    have hst : ∀ x, s_spec_ReadVarint_l1 b 0 (v, (i : Int)) = x → x = s_spec_ReadVarint_l1 b 0 (v, (i : Int)) := fun x h => h.symm
    by_cases hl : b.length ≤ i
    · have hx : b[i]? = none := List.getElem?_eq_none hl
      rw [whileO_inr (g := .inr (0, 0, false)) (by
        simp only [s_spec_ReadVarint_l1, pl_lss, decide_eq_true hi6, cond_true, hge, decide_eq_true hl]
        rfl)]
      simp only [rvI, hx, Option.bind_some]
    · have hlt : i < b.length := by omega
      have hx : b[i]? = some b[i] := List.getElem?_eq_getElem hlt
      simp only [rvI, hx]
      cases hc : prims.cmp .lss (bi b[i]) 128
      · rw [whileO_inl (y := (prims.arith .or .i64 v (prims.arith .shl .i64 (prims.arith .and .i64 (bi b[i]) 127) (prims.arith .mul .i64 7 (i : Int))), ((i + 1 : Nat) : Int))) (by
          simp only [s_spec_ReadVarint_l1, hge, decide_eq_false hl, h0, nthI_at hlt, Option.bind_some, seven i (by omega), wrap_yI, hc, h1]
          simp only [pl_lss, decide_eq_true hi6, cond_true]
          rfl)]
        exact p_rvS b hb k (i + 1) n _ (by omega) (by omega)
      · cases hz : prims.cmp .eql (bi b[i]) 0 <;> cases hg : prims.cmp .gtr (i : Int) 0 <;> cases hw : prims.cmp .gtr (prims.arith .or .i64 v (prims.arith .shl .i64 (prims.arith .and .i64 (bi b[i]) 127) (prims.arith .mul .i64 7 (i : Int)))) 1000000000000 <;>
          (rw [whileO_inr (g := .inr _) (by
            simp only [s_spec_ReadVarint_l1, hge, decide_eq_false hl, h0, nthI_at hlt, Option.bind_some, seven i (by omega), wrap_yI, hc, hz, hg, hw, h1]
            simp only [pl_lss, decide_eq_true hi6, cond_true]
            rfl)]
           rfl)
theorem p_rvI (b : List UInt8) (hb : b.length ≤ 2 ^ 40) : ∀ (k i n : Nat) (v : Int), i + k = 6 → k < n → ((whileO (s_impl_ReadVarint_l1 b) n ((i : Int), v, (i : Int))).bind fun g => match g with | .inl (w15, w16, w17) => (some ((0 : Int), (0 : Int), false)) | .inr (.inl (w18, w19, w20)) => (some (0, 0, false)) | .inr (.inr (w21)) => (some w21)) = some (rvI b k i v)
  | 0, i, n + 1, v, h, hn => by
    rw [whileO_inr (g := .inr (.inl ((i : Int), v, (i : Int)))) (by simp only [s_impl_ReadVarint_l1, pl_lss, decide_eq_false (show ¬ (i : Int) < 6 by omega), cond_false])]
    rfl
  | k + 1, i, n + 1, v, h, hn => by
    have hi6 : (i : Int) < 6 := by omega
    have hge : prims.cmp .lss (i : Int) (prims.int (prims.len (List.map eY b))) = decide (i < b.length) := by
      rw [pl_int, pl_len, pl_lss]
      by_cases hh : i < b.length
      · rw [decide_eq_true hh, decide_eq_true (by omega)]
      · rw [decide_eq_false hh, decide_eq_false (by omega)]
    have h1 : prims.arith .add .i64 (i : Int) 1 = ((i + 1 : Nat) : Int) := pl_inc i 6 (by omega) (by omega)
    have h6 : prims.cmp .lss (i : Int) 6 = true := by rw [pl_lss, decide_eq_true hi6]
    by_cases hl : i < b.length
    rotate_left
    · have hx : b[i]? = none := List.getElem?_eq_none (by omega)
      rw [whileO_inr (g := .inl ((i : Int), v, (i : Int))) (by
        simp only [s_impl_ReadVarint_l1, h6, cond_true, hge, decide_eq_false hl]
        rfl)]
      simp only [rvI, hx, Option.bind_some]
    · have hx : b[i]? = some b[i] := List.getElem?_eq_getElem hl
      simp only [rvI, hx]
      cases hc : prims.cmp .lss (bi b[i]) 128
      · rw [whileO_inl (y := (((i + 1 : Nat) : Int), prims.arith .or .i64 v (prims.arith .shl .i64 (prims.arith .and .i64 (bi b[i]) 127) (prims.arith .mul .i64 7 (i : Int))), ((i + 1 : Nat) : Int))) (by
          simp only [s_impl_ReadVarint_l1, hge, decide_eq_true hl, nthI_at hl, Option.bind_some, seven i (by omega), wrap_yI, hc, h1, h6, cond_true]
          rfl)]
        exact p_rvI b hb k (i + 1) n _ (by omega) (by omega)
      · cases hz : prims.cmp .eql (bi b[i]) 0 <;> cases hg : prims.cmp .gtr (i : Int) 0 <;> cases hw : prims.cmp .gtr (prims.arith .or .i64 v (prims.arith .shl .i64 (prims.arith .and .i64 (bi b[i]) 127) (prims.arith .mul .i64 7 (i : Int)))) 1000000000000 <;>
          (rw [whileO_inr (g := .inr (.inr _)) (by
            simp only [s_impl_ReadVarint_l1, hge, decide_eq_true hl, nthI_at hl, Option.bind_some, seven i (by omega), wrap_yI, hc, hz, hg, hw, h1, h6, cond_true]
            rfl)]
           rfl)
theorem p_spec_ReadVarint (b : List UInt8) (hb : b.length ≤ 2 ^ 40) : s_spec_ReadVarint b 0 = some (rvI b 6 0 0) := by
  unfold s_spec_ReadVarint
  exact p_rvS b hb 6 0 fuel 0 rfl (by unfold fuel; omega)
theorem p_impl_ReadVarint (b : List UInt8) (hb : b.length ≤ 2 ^ 40) : s_impl_ReadVarint b 0 = some (rvI b 6 0 0) := by
  unfold s_impl_ReadVarint
  rw [show prims.cmp .lss 0 0 = false from rfl, cond_false]
  exact p_rvI b hb 6 0 fuel 0 rfl (by unfold fuel; omega)
/-! the cipher, read -/
def dec1 (s : Int) (i : Nat) (x : UInt8) : UInt8 := UInt8.ofNat ((x.toNat + (256 - (mac s [(i : Int)]).toNat % 256)) % 256)
def decF (s : Int) : Nat → List UInt8 → List UInt8
  | _, [] => []
  | i, x :: l => dec1 s i x :: decF s (i + 1) l
theorem decF_len (s : Int) : ∀ (l : List UInt8) (i : Nat), (decF s i l).length = l.length
  | [], i => rfl
  | x :: l, i => by simp [decF, decF_len s l (i + 1)]
theorem decF_at (s : Int) : ∀ (l : List UInt8) (k i : Nat) (h : i < l.length), (decF s k l)[i]? = some (dec1 s (k + i) l[i])
  | x :: l, k, 0, h => rfl
  | x :: l, k, i + 1, h => by
    have h' : i < l.length := by simpa using h
    have := decF_at s l (k + 1) i h'
    simp only [decF, List.getElem?_cons_succ, List.getElem_cons_succ]
    rw [this, show k + 1 + i = k + (i + 1) by omega]
theorem mod256 (a : Int) (h : -256 < a ∧ a < 256) : s_spec_Mod a 256 = some (((a + 256).toNat % 256 : Nat) : Int) := by
  have e0 : prims.arith .rem .i64 a 256 = a := by
    show a.tmod 256 = a
    rcases Int.le_total 0 a with h0 | h0
    · exact Int.tmod_eq_of_lt h0 h.2
    · obtain ⟨m, hm⟩ := Int.eq_ofNat_of_zero_le (show 0 ≤ -a by omega)
      rw [show a = -(m : Int) by omega, Int.neg_tmod, Int.tmod_eq_of_lt (by omega) (by omega)]
  unfold s_spec_Mod
  rw [p_l1In, Option.bind_some, decide_eq_true (by decide), pl_bnot, Bool.not_true, cond_false, n256, cond_false, e0, pl_add _ _ (by omega) (by omega), rem256 _ (by omega)]
theorem dec_spec (s : Int) (i : Nat) (x : UInt8) : (s_spec_Mod (prims.arith .sub .i64 (prims.wrap .i64 (prims.yI x)) (prims.arith .rem .i64 (mac s [(i : Int)]) 256)) 256) = some ((((x.toNat + (256 - (mac s [(i : Int)]).toNat % 256)) % 256 : Nat) : Int)) := by
  have hm := mac_rng s [(i : Int)]
  have hx := x.toNat_lt
  have e1 : prims.wrap .i64 (prims.yI x) = ((x.toNat : Nat) : Int) := wrap_byte x
  rw [rem256 _ hm.1, e1, pl_sub _ _ (by omega) (by omega), mod256 _ (by omega)]
  congr 2
  omega
theorem dec_impl (s : Int) (i : Nat) (x : UInt8) : prims.byW (prims.arith .sub .u8 (prims.yI x) (prims.yI (prims.byW (prims.arith .rem .i64 (mac s [(i : Int)]) 256)))) = dec1 s i x := by
  have hm := mac_rng s [(i : Int)]
  have hx := x.toNat_lt
  have e1 : prims.yI (prims.byW (prims.arith .rem .i64 (mac s [(i : Int)]) 256)) = (((mac s [(i : Int)]).toNat % 256 : Nat) : Int) := by
    rw [rem256 _ hm.1, byW_nat]
    show ((UInt8.ofNat _).toNat : Int) = _
    simp
  have e2 : prims.arith .sub .u8 (prims.yI x) (((mac s [(i : Int)]).toNat % 256 : Nat) : Int) = (((x.toNat + (256 - (mac s [(i : Int)]).toNat % 256)) % 256 : Nat) : Int) := by
    show IntKind.u8.wrap ((x.toNat : Int) - (((mac s [(i : Int)]).toNat % 256 : Nat) : Int)) = _
    have hw : ∀ x : Int, IntKind.u8.wrap x = x % 256 := fun x => by simp [IntKind.wrap, IntKind.signed, IntKind.bits]
    rw [hw]
    omega
  rw [e1, e2, byW_nat]
  rfl
theorem p_spec_Decrypt (s : Int) (b : List UInt8) (h : b.length ≤ 2 ^ 40) : s_spec_Decrypt s b = some (decF s 0 b) := by
  unfold s_spec_Decrypt
  have H := while_list0 (σ := List UInt8) (step := s_spec_Decrypt_l1 s b) b (fun i acc => ((i : Int), acc)) (fun i rest acc => ((b.length : Int), acc ++ decF s i rest)) (fun i acc => acc.length = i) [] (by unfold fuel; omega) rfl (fun acc hs => by
      simp only [s_spec_Decrypt_l1, lt_end, cond_false, decF, List.append_nil]) (fun i x rest acc hd hi hx hs => by
      left
      have hf : (acc.length + 1) * 1 ≤ 2 ^ 46 := by omega
      refine ⟨acc ++ [dec1 s i x], ?_, by simp [hs], by simp [decF]⟩
      simp only [s_spec_Decrypt_l1, pl_lss, pl_int, decide_eq_true (show (i : Int) < (b.length : Int) by omega), cond_true, hx, Option.bind_some, p_spec_ComputeMAC s [(i : Int)] (by simp), n256, cond_false, dec_spec, byW_nat, pl_fits, pl_len, pl_rlen, List.length_cons, List.length_nil, decide_eq_true hf, pl_inc i b.length hi (by omega)]
      rfl)
  exact congrArg (fun q => Option.bind q fun x => some x.2) H
theorem p_impl_Decrypt (s : Int) (b : List UInt8) (h : b.length ≤ 2 ^ 40) : s_impl_Decrypt s b = some (decF s 0 b) := by
  have hfl : prims.fits 0 (prims.rlen (prims.opn (List.map eY b))) 1 = true := by rw [pl_rlen, pl_fits, decide_eq_true_eq]; omega
  have hlen := decF_len s b 0
  have H := while_seq (step := s_impl_Decrypt_l1 s) (fun i => ((b.length : Int), (i : Int), (decF s 0 b).take i ++ b.drop i)) ((b.length : Int), (b.length : Int), decF s 0 b) b.length (by omega) (fun i hi => by
    have hl : ((decF s 0 b).take i ++ b.drop i).length = b.length := by simp only [List.length_append, List.length_take, List.length_drop]; omega
    have hat : ((decF s 0 b).take i ++ b.drop i)[i]? = some b[i] := by
      rw [List.getElem?_append_right (by rw [List.length_take]; omega), List.length_take, show i - min i (decF s 0 b).length = 0 by omega, List.getElem?_drop]
      simp
    have hA : (decF s 0 b)[i]? = some (dec1 s i b[i]) := by
      have := decF_at s b 0 i hi
      rw [Nat.zero_add] at this
      exact this
    have hset : ((decF s 0 b).take i ++ b.drop i).set i (dec1 s i b[i]) = (decF s 0 b).take (i + 1) ++ b.drop (i + 1) := by
      have hi' : i < (decF s 0 b).length := by omega
      have hAi : (decF s 0 b)[i] = dec1 s i b[i] := by rw [List.getElem?_eq_getElem hi'] at hA; exact Option.some.inj hA
      rw [List.drop_eq_getElem_cons hi, List.set_append_right _ _ (by rw [List.length_take]; omega), List.length_take, show i - min i (decF s 0 b).length = 0 by omega, List.set_cons_zero, List.take_succ_eq_append_getElem hi', hAi, List.append_assoc]
      rfl
    simp only [s_impl_Decrypt_l1, pl_lss, decide_eq_true (show (i : Int) < (b.length : Int) by omega), cond_true, ridx_at _ (show i < ((decF s 0 b).take i ++ b.drop i).length by omega), Option.bind_some, hat, p_impl_ComputeMAC s [(i : Int)] (by simp), n256, cond_false, dec_impl, hset, pl_inc i b.length hi (by omega)]) (by
    simp only [s_impl_Decrypt_l1, pl_lss, decide_eq_false (show ¬ (b.length : Int) < (b.length : Int) by omega), cond_false]
    rw [List.take_of_length_le (by omega), List.drop_length, List.append_nil])
  unfold s_impl_Decrypt s_slices_Clone_byte
  simp only [hfl, cond_true, Option.bind_some]
  rw [pl_int, pl_len]
  exact congrArg (fun q => Option.bind q fun x => some x.2.2) H
/-! content that is opened -/
def opnC (s v : Int) (c : List UInt8) : List UInt8 × Bool := bif decide (v = mac s (bti c)) then (c, true) else ([], false)
def openT (g : List DGrant) (n : List ByteArray) (b : List UInt8) : List UInt8 × Bool :=
  bif g.any (covP n) then (bif (rvI b 6 0 0).2.2 then opnC (gsec g n) (rvI b 6 0 0).1 (decF (gsec g n) 0 (b.drop (rvI b 6 0 0).2.1.toNat)) else ([], false)) else ([], false)
theorem opnC_len (s v : Int) (c : List UInt8) : (opnC s v c).1.length ≤ c.length := by
  unfold opnC
  cases decide (v = mac s (bti c))
  · exact Nat.zero_le _
  · exact Nat.le_refl _
theorem openT_len (g : List DGrant) (n : List ByteArray) (b : List UInt8) : (openT g n b).1.length ≤ b.length := by
  unfold openT
  cases g.any (covP n)
  · exact Nat.zero_le _
  cases (rvI b 6 0 0).2.2
  · exact Nat.zero_le _
  have h := opnC_len (gsec g n) (rvI b 6 0 0).1 (decF (gsec g n) 0 (b.drop (rvI b 6 0 0).2.1.toNat))
  rw [decF_len, List.length_drop] at h
  simp only [cond_true]
  omega
theorem p_spec_OpenContent (g : List DGrant) (n : List ByteArray) (b : List UInt8) (hg : g.length ≤ 2 ^ 21) (hn : n.length ≤ 2 ^ 21) (ht : ∀ t ∈ n, t.size ≤ 2 ^ 21) (hb : b.length ≤ 2 ^ 20) : s_spec_OpenContent g n b = some (openT g n b) := by
  unfold s_spec_OpenContent openT
  rw [p_spec_ReadVarint b (by omega), p_spec_GrantCovers g n hg hn]
  obtain ⟨p, hp, hpl⟩ := rvI_pos b 6 0 0
  generalize rvI b 6 0 0 = r at hp ⊢
  obtain ⟨r0, r1, r2⟩ := r
  simp only at hp
  subst hp
  simp only [Option.bind_some, pl_bnot, Int.toNat_natCast]
  cases g.any (covP n)
  · rfl
  cases r2
  · rfl
  have hd := decF_len (gsec g n) (b.drop p) 0
  rw [List.length_drop] at hd
  simp only [Bool.not_true, cond_false, cond_true, p_spec_GrantedSecret g n hg hn ht, Option.bind_some, subI_from b p hpl, p_spec_Decrypt (gsec g n) (b.drop p) (by rw [List.length_drop]; omega), p_spec_BytesToInts _ (show (decF (gsec g n) 0 (b.drop p)).length ≤ 2 ^ 40 by omega), p_spec_ComputeMAC (gsec g n) _ (show (bti (decF (gsec g n) 0 (b.drop p))).length ≤ 2 ^ 22 by rw [bti_len]; omega), pl_neq, opnC]
  cases decide (r0 = mac (gsec g n) (bti (decF (gsec g n) 0 (b.drop p)))) <;> rfl
theorem p_impl_OpenContent (g : List DGrant) (n : List ByteArray) (b : List UInt8) (hg : g.length ≤ 2 ^ 21) (hn : n.length ≤ 2 ^ 21) (ht : ∀ t ∈ n, t.size ≤ 2 ^ 21) (hb : b.length ≤ 2 ^ 20) : s_impl_OpenContent g n b = some (openT g n b) := by
  unfold s_impl_OpenContent openT
  rw [p_impl_ReadVarint b (by omega), p_impl_GrantCovers g n hg hn]
  obtain ⟨p, hp, hpl⟩ := rvI_pos b 6 0 0
  generalize rvI b 6 0 0 = r at hp ⊢
  obtain ⟨r0, r1, r2⟩ := r
  simp only at hp
  subst hp
  simp only [Option.bind_some, pl_bnot, Int.toNat_natCast]
  cases r2
  · cases g.any (covP n) <;> rfl
  cases g.any (covP n)
  · rfl
  have hd := decF_len (gsec g n) (b.drop p) 0
  rw [List.length_drop] at hd
  simp only [Bool.not_true, cond_false, cond_true, p_impl_GrantedSecret g n hg hn ht, Option.bind_some, subI_from b p hpl, p_impl_Decrypt (gsec g n) (b.drop p) (by rw [List.length_drop]; omega), p_impl_BytesToInts _ (show (decF (gsec g n) 0 (b.drop p)).length ≤ 2 ^ 40 by omega), p_impl_ComputeMAC (gsec g n) _ (show (bti (decF (gsec g n) 0 (b.drop p))).length ≤ 2 ^ 22 by rw [bti_len]; omega), pl_neq, opnC]
  cases decide (r0 = mac (gsec g n) (bti (decF (gsec g n) 0 (b.drop p)))) <;> rfl
/-! what a reader reads -/
def readN (x : DAccessController) (k e : Int) (n : List ByteArray) (b : List UInt8) : List UInt8 × Bool :=
  bif (actR e x.readers).any (mayR k n) then openT (grantsR (der x.master (bs (Go.Lib.itoa e))) k (actR e x.readers)) n b else ([], false)
def readT (x : DAccessController) (k e : Int) (d : DData) : List UInt8 × Bool :=
  match d.name[d.name.length - 1]? with
  | none => ([], false)
  | some t => bif prims.scmp .neq t (bs (101 :: Go.Lib.itoa e)) then ([], false) else readN x k e (d.name.take (d.name.length - 1)) d.content
theorem readT_len (x : DAccessController) (k e : Int) (d : DData) : (readT x k e d).1.length ≤ d.content.length := by
  unfold readT
  split
  · exact Nat.zero_le _
  · rename_i t _
    cases prims.scmp .neq t (bs (101 :: Go.Lib.itoa e))
    · unfold readN
      cases (actR e x.readers).any (mayR k (d.name.take (d.name.length - 1)))
      · exact Nat.zero_le _
      · exact openT_len _ _ _
    · exact Nat.zero_le _
theorem actR_ok {l : List DReader} (e : Int) (h : RdrOk l) : RdrOk (actR e l) := ⟨Nat.le_trans (List.length_filter_le _ _) h.1, fun x hx => h.2 x (List.mem_filter.1 hx).1⟩
theorem rdrS_of {l : List DReader} (h : RdrOk l) : RdrS l := ⟨h.1, fun x hx => (h.2 x hx).1⟩
theorem grantsR_len (s k : Int) (l : List DReader) : (grantsR s k l).length ≤ l.length := by
  unfold grantsR
  rw [List.length_map]
  exact List.length_filter_le _ _
theorem last_idx (l : List ByteArray) (h : l.length ≤ 2 ^ 21) (h0 : l.length ≠ 0) : prims.arith .sub .i64 (prims.int (prims.len (List.map eS l))) 1 = ((l.length - 1 : Nat) : Int) := by
  rw [pl_int, pl_len, pl_sub _ _ (by omega) (by omega)]
  omega
theorem p_spec_ReadBy (x : DAccessController) (k e : Int) (d : DData) (he : I64 e) (hr : RdrOk x.readers) (hn : d.name.length ≤ 2 ^ 21) (ht : ∀ t ∈ d.name, t.size ≤ 2 ^ 21) (hb : d.content.length ≤ 2 ^ 20) : s_spec_ReadBy x k e d = some (readT x k e d) := by
  unfold s_spec_ReadBy readT
  rw [p_l38May x.readers e hr.1, Option.bind_some]
  by_cases h0 : d.name.length = 0
  · have hnil : d.name = [] := List.length_eq_zero_iff.1 h0
    rw [hnil]
    rfl
  have hi : d.name.length - 1 < d.name.length := by omega
  rw [last_idx d.name hn h0, pl_lss, decide_eq_false (by omega), cond_false, nthI_at hi, List.getElem?_eq_getElem hi, Option.bind_some, p_spec_FormatInt e he, Option.bind_some, bs_mk, catOk_bs [101] _ (by have := itoa_len e he; simp only [List.length_singleton]; omega), cond_true, scat_bs]
  show _ = some (bif prims.scmp .neq _ (bs ([101] ++ Go.Lib.itoa e)) then _ else _)
  cases prims.scmp .neq d.name[d.name.length - 1] (bs ([101] ++ Go.Lib.itoa e))
  rotate_left
  · rfl
  have hr2 := actR_ok e hr
  have hl := (actR_ok e hr).1
  have htk : (d.name.take (d.name.length - 1)).length ≤ 2 ^ 21 := by rw [List.length_take]; omega
  have hg := grantsR_len (der x.master (bs (Go.Lib.itoa e))) k (actR e x.readers)
  unfold readN
  rw [cond_false, p_spec_Truncate d.name _ (by omega) (by omega), Option.bind_some, p_spec_MayRead _ _ _ (rdrS_of hr2) htk, Option.bind_some, pl_bnot]
  cases (actR e x.readers).any (mayR k (d.name.take (d.name.length - 1)))
  · rfl
  simp only [Bool.not_true, cond_false, cond_true, p_spec_EpochSecret x.master e he, Option.bind_some, p_spec_GrantsOf _ _ _ hr2, p_spec_OpenContent _ _ d.content (show (grantsR (der x.master (bs (Go.Lib.itoa e))) k (actR e x.readers)).length ≤ 2 ^ 21 by omega) htk (fun t hm => ht t (List.mem_of_mem_take hm)) hb]
theorem p_impl_ReadBy (x : DAccessController) (k e : Int) (d : DData) (he : I64 e) (hr : RdrOk x.readers) (hn : d.name.length ≤ 2 ^ 21) (ht : ∀ t ∈ d.name, t.size ≤ 2 ^ 21) (hb : d.content.length ≤ 2 ^ 20) : s_impl_ReadBy x k e d = some (readT x k e d) := by
  unfold s_impl_ReadBy readT
  by_cases h0 : d.name.length = 0
  · have hnil : d.name = [] := List.length_eq_zero_iff.1 h0
    rw [hnil]
    rfl
  have hi : d.name.length - 1 < d.name.length := by omega
  rw [last_idx d.name hn h0, pl_lss, decide_eq_false (by omega), cond_false, nthI_at hi, List.getElem?_eq_getElem hi, Option.bind_some, p_impl_FormatInt e he, Option.bind_some, bs_mk, catOk_bs [101] _ (by have := itoa_len e he; simp only [List.length_singleton]; omega), cond_true, scat_bs]
  show _ = some (bif prims.scmp .neq _ (bs ([101] ++ Go.Lib.itoa e)) then _ else _)
  cases prims.scmp .neq d.name[d.name.length - 1] (bs ([101] ++ Go.Lib.itoa e))
  rotate_left
  · rfl
  have hr2 := actR_ok e hr
  have hl := (actR_ok e hr).1
  have htk : (d.name.take (d.name.length - 1)).length ≤ 2 ^ 21 := by rw [List.length_take]; omega
  have hg := grantsR_len (der x.master (bs (Go.Lib.itoa e))) k (actR e x.readers)
  unfold readN
  rw [cond_false, p_act2 x e hr.1, Option.bind_some]
  simp only
  rw [p_impl_Truncate d.name _ (by omega) (by omega), Option.bind_some, p_impl_MayRead _ _ _ (rdrS_of hr2) htk, Option.bind_some, pl_bnot]
  cases (actR e x.readers).any (mayR k (d.name.take (d.name.length - 1)))
  · rfl
  simp only [Bool.not_true, cond_false, cond_true, p_impl_EpochSecret x.master e he, Option.bind_some, p_impl_GrantsOf _ _ _ hr2, p_impl_OpenContent _ _ d.content (show (grantsR (der x.master (bs (Go.Lib.itoa e))) k (actR e x.readers)).length ≤ 2 ^ 21 by omega) htk (fun t hm => ht t (List.mem_of_mem_take hm)) hb]
/-! the law -/
theorem cntL_szL {α : Type} (c f : α → Nat) (h : ∀ x, c x ≤ 2 * (f x + 1)) : ∀ l : List α, cntL c l ≤ 2 * szL f l
  | [] => Nat.le_refl _
  | x :: l => by
    have h1 := cntL_szL c f h l
    have h2 := h x
    simp only [cntL, szL]
    omega
theorem szBytes (l : List UInt8) : szL (fun _ => 0) l = l.length := by
  rw [szL_sumF]
  have : ∀ l : List UInt8, sumF (fun _ => 0) l = 0 := fun l => by
    induction l with
    | nil => rfl
    | cons x l ih => simp only [sumF, ih]
  rw [this]
  rfl
theorem p_lawFnExactReadBy (x0 : DAccessController) (x1 : Int) (x2 : Int) (x3 : DData) (k0 : okAccessController x0) (k1 : I64 x1) (k2 : I64 x2) (k3 : okData x3) : s_laws_FnExactReadBy x0 x1 x2 x3 = some true := by
  unfold s_laws_FnExactReadBy
  rw [p_szAccessController x0 1048576 k0 (by decide) (by decide), Option.bind_some, pl_lss]
  by_cases hs : ((szAccessController x0 : Nat) : Int) ≤ 1048576
  rotate_left
  · rw [lt_remain hs]; rfl
  rw [not_lt_remain hs, cond_false, show remain 1048576 (szAccessController x0) = 1048576 - ((szAccessController x0 : Nat) : Int) from if_pos hs]
  rw [p_szData x3 _ k3 (by omega) (by omega), Option.bind_some, pl_lss]
  by_cases hs1 : ((szData x3 : Nat) : Int) ≤ 1048576 - ((szAccessController x0 : Nat) : Int)
  rotate_left
  · rw [lt_remain hs1]; rfl
  rw [not_lt_remain hs1, cond_false]
  have hz : szAccessController x0 = szL szKey x0.keys + szL szReader x0.readers := rfl
  have hz3 : szData x3 = szL ByteArray.size x3.name + szL (fun _ => 0) x3.content + szL ByteArray.size x3.keyName := rfl
  have hA : szAccessController x0 ≤ 1048576 := by omega
  have hB : szData x3 ≤ 1048576 := by omega
  have hb0 := szBytes x3.content
  have hn1 := szL_len ByteArray.size x3.name
  have hn2 := szL_len ByteArray.size x3.keyName
  have hR : RdrOk x0.readers := ⟨by have := szL_len szReader x0.readers; omega, fun y hy => by
    have h1 := szL_mem szReader hy
    have e : szReader y = szL ByteArray.size y.name := rfl
    have h2 := szL_len ByteArray.size y.name
    exact ⟨by omega, fun t ht => by have := szL_mem ByteArray.size ht; omega⟩⟩
  have hN : ∀ t ∈ x3.name, t.size ≤ 2 ^ 21 := fun t ht => by have := szL_mem ByteArray.size ht; omega
  have hc1 : cntL cKey x0.keys ≤ 2 * szL szKey x0.keys := cntL_szL _ _ (fun x => by
    have e : szKey x = szL ByteArray.size x.name := rfl
    have := szL_len ByteArray.size x.name
    unfold cKey
    omega) _
  have hc2 : cntL cReader x0.readers ≤ 2 * szL szReader x0.readers := cntL_szL _ _ (fun x => by
    have e : szReader x = szL ByteArray.size x.name := rfl
    have := szL_len ByteArray.size x.name
    unfold cReader
    omega) _
  have hmk : s_laws_markAccessController x0 1 = some (mtAccessController x0 1, 1 + ((cntL cKey x0.keys + cntL cReader x0.readers : Nat) : Int)) := if_pos ⟨by decide, by omega⟩
  have hmd : s_laws_markData x3 (1 + ((cntL cKey x0.keys + cntL cReader x0.readers : Nat) : Int)) = some _ := if_pos ⟨by omega, by omega⟩
  have hs2 := p_spec_ReadBy x0 x1 x2 x3 k2 hR (by omega) hN (by omega)
  have hi2 := p_impl_ReadBy x0 x1 x2 x3 k2 hR (by omega) hN (by omega)
  have hl := readT_len x0 x1 x2 x3
  generalize readT x0 x1 x2 x3 = D at hs2 hi2 hl
  obtain ⟨D, ok⟩ := D
  dsimp only at hl
  have hd1 := p_markByteS D 1 (by decide) (by omega)
  have hd2 := p_heldByteS D 1 (by decide) (by omega)
  simp only [p_toAccessController x0 hA, p_toData x3 hB, hs2, hi2, Option.bind_some, p_eqAccessController x0 (by omega), p_eqData x3 (by omega), p_eqByteS D (by rw [szBytes]; omega), pl_bnot, Bool.not_true, cond_false, eq_self_b2]
  simp only [hmk, hmd, Option.bind_some, lss_no (show (0 : Int) ≤ 1 + ((cntL cKey x0.keys + cntL cReader x0.readers : Nat) : Int) + ((x3.name.length + x3.content.length + x3.keyName.length : Nat) : Int) by omega), cond_false, hd1, hd2, lss_no (show (0 : Int) ≤ 1 + ((D.length : Nat) : Int) by omega), eq_self_i]
end
end Go.Proofs.YtlbmlgnckclenaaGreatDoor
