/- What FormatInt computes. -/
import Derived.Test.YtgkbhlncehgalaaGreatDoorTx
import Derived.Test.YtgkbhlncehgalaaGreatDoorSd
namespace Go.Proofs.YtgkbhlncehgalaaGreatDoor
open Go.RowKit
set_option linter.unusedVariables false
set_option linter.unusedSimpArgs false
theorem p_Itoa (n : Int) (h : I64 n) : s_strconv_Itoa n = some (bs (Go.Lib.itoa n)) := by
  unfold s_strconv_Itoa
  rw [if_pos ⟨h.1, h.2⟩]
  rfl
theorem p_impl_FormatInt (n : Int) (h : I64 n) : s_impl_FormatInt n = some (bs (Go.Lib.itoa n)) := by
  unfold s_impl_FormatInt
  rw [p_Itoa n h]
  rfl
theorem tmod_ten (n : Int) : (0 ≤ n ∧ n.tmod 10 = ((n.natAbs % 10 : Nat) : Int) ∧ n.tdiv 10 = ((n.natAbs / 10 : Nat) : Int)) ∨ (n < 0 ∧ n.tmod 10 = -((n.natAbs % 10 : Nat) : Int) ∧ n.tdiv 10 = -((n.natAbs / 10 : Nat) : Int)) := by
  rcases Int.le_total 0 n with h | h
  · left
    obtain ⟨m, rfl⟩ := Int.eq_ofNat_of_zero_le h
    exact ⟨h, rfl, rfl⟩
  · by_cases h0 : n = 0
    · subst h0; left; exact ⟨Int.le_refl _, rfl, rfl⟩
    · right
      obtain ⟨m, hm⟩ := Int.eq_ofNat_of_zero_le (show 0 ≤ -n by omega)
      have hn : n = -(m : Int) := by omega
      subst hn
      refine ⟨by omega, ?_, ?_⟩
      · rw [Int.neg_tmod, Int.natAbs_neg]; rfl
      · rw [Int.neg_tdiv, Int.natAbs_neg]; rfl
theorem byW_digit (k : Nat) (h : k < 10) : prims.byW (48 + (k : Int)) = UInt8.ofNat (48 + k) := by
  show UInt8.ofNat (IntKind.u8.wrap (48 + (k : Int))).toNat = _
  have e : IntKind.u8.wrap (48 + (k : Int)) = (48 + (k : Int)) % 256 := by simp [IntKind.wrap, IntKind.signed, IntKind.bits]
  rw [e]
  congr 1
  omega
theorem p_digits (n : Int) (h : I64 n) : whileO s_spec_FormatInt_l1 fuel (ByteArray.mk (Array.mk []), n) = some (bs (dg0 n.natAbs), 0) := by
  have hlen : ∀ u : Nat, u < 10 ^ 19 → (dg0 u).length ≤ 19 := fun u hu => by
    unfold dg0
    split
    · simp
    · rw [decDigits_len]; exact nDigits_le 19 u (by omega) hu
  have hn := hlen n.natAbs (by unfold I64 at h; omega)
  have H := while_meas (step := s_spec_FormatInt_l1) (fun x => (bs (dg0 x.2.natAbs ++ bl x.1), (0 : Int))) (fun x => (dg0 x.2.natAbs).length) (fun x => I64 x.2 ∧ x.1.size + (dg0 x.2.natAbs).length ≤ 40) (fun x hI => by
    obtain ⟨v2, v3⟩ := x
    obtain ⟨hI1, hsz⟩ := hI
    have hl := hI1.1
    have hu := hI1.2
    simp only at hl hu hsz
    by_cases h0 : v3 = 0
    · right
      subst h0
      simp only [s_spec_FormatInt_l1, pl_neq, decide_true, Bool.not_true, cond_false]
      show some (Sum.inr (v2, 0)) = some (Sum.inr (bs (dg0 0 ++ bl v2), 0))
      rw [show dg0 0 = [] from rfl, List.nil_append, bs_bl]
    · left
      have hu0 : v3.natAbs ≠ 0 := by omega
      have hst := dg0_step v3.natAbs hu0
      have hlst : (dg0 v3.natAbs).length = (dg0 (v3.natAbs / 10)).length + 1 := by rw [hst]; simp
      have hcat : prims.catOk (prims.ofB [UInt8.ofNat (48 + v3.natAbs % 10)]) v2 = true := by
        rw [← bs_bl v2]
        exact catOk_bs [_] _ (by rw [bl_len]; simp; omega)
      have hsc : prims.scat (prims.ofB [UInt8.ofNat (48 + v3.natAbs % 10)]) v2 = bs ([UInt8.ofNat (48 + v3.natAbs % 10)] ++ bl v2) := by
        conv => lhs; rw [← bs_bl v2]
        exact scat_bs [_] _
      have hrem : prims.arith .rem .i64 v3 10 = v3.tmod 10 := rfl
      have hquo : prims.arith .quo .i64 v3 10 = v3.tdiv 10 := by
        show IntKind.i64.wrap (v3.tdiv 10) = _
        rw [IntKind.wrap_i64]
        rcases tmod_ten v3 with ⟨_, _, e⟩ | ⟨_, _, e⟩ <;> omega
      refine ⟨(bs ([UInt8.ofNat (48 + v3.natAbs % 10)] ++ bl v2), v3.tdiv 10), ?_, ?_, ?_, ?_⟩
      · simp only [s_spec_FormatInt_l1, pl_neq, pl_eql, pl_lss, decide_eq_false h0, Bool.not_false, cond_true, hrem, hquo, show decide ((10 : Int) = 0) = false from rfl, cond_false]
        have hk := byW_digit (v3.natAbs % 10) (by omega)
        rcases tmod_ten v3 with ⟨hp, e, _⟩ | ⟨hp, e, _⟩
        · have e1 : prims.arith .add .i64 48 (v3.tmod 10) = 48 + ((v3.natAbs % 10 : Nat) : Int) := by rw [e]; exact pl_add _ _ (by omega) (by omega)
          have e2 : ¬ v3.tmod 10 < 0 := by omega
          simp only [decide_eq_false e2, cond_false, e1, hk, hcat, cond_true, hsc]
        · by_cases hz : v3.natAbs % 10 = 0
          · have e1 : prims.arith .add .i64 48 (v3.tmod 10) = 48 + ((v3.natAbs % 10 : Nat) : Int) := by rw [e, hz]; exact pl_add _ _ (by omega) (by omega)
            have e2 : ¬ v3.tmod 10 < 0 := by omega
            simp only [decide_eq_false e2, cond_false, e1, hk, hcat, cond_true, hsc]
          · have e0 : prims.arith .sub .i64 0 (v3.tmod 10) = ((v3.natAbs % 10 : Nat) : Int) := by rw [e, pl_sub _ _ (by omega) (by omega)]; omega
            have e1 : prims.arith .add .i64 48 ((v3.natAbs % 10 : Nat) : Int) = 48 + ((v3.natAbs % 10 : Nat) : Int) := pl_add _ _ (by omega) (by omega)
            have e2 : v3.tmod 10 < 0 := by omega
            simp only [decide_eq_true e2, cond_true, e0, e1, hk, hcat, hsc]
      · have hna : (v3.tdiv 10).natAbs = v3.natAbs / 10 := by rcases tmod_ten v3 with ⟨_, _, e⟩ | ⟨_, _, e⟩ <;> omega
        refine ⟨?_, ?_⟩
        · show I64 (v3.tdiv 10)
          unfold I64
          rcases tmod_ten v3 with ⟨_, _, e⟩ | ⟨_, _, e⟩ <;> omega
        · show ([UInt8.ofNat (48 + v3.natAbs % 10)] ++ bl v2).length + (dg0 (v3.tdiv 10).natAbs).length ≤ 40
          rw [hna, List.length_append, bl_len]
          simp only [List.length_cons, List.length_nil]
          omega
      · show (dg0 (v3.tdiv 10).natAbs).length < (dg0 v3.natAbs).length
        have hna : (v3.tdiv 10).natAbs = v3.natAbs / 10 := by rcases tmod_ten v3 with ⟨_, _, e⟩ | ⟨_, _, e⟩ <;> omega
        rw [hna]
        omega
      · show (bs (dg0 v3.natAbs ++ bl v2), (0 : Int)) = (bs (dg0 (v3.tdiv 10).natAbs ++ ([UInt8.ofNat (48 + v3.natAbs % 10)] ++ bl v2)), 0)
        have hna : (v3.tdiv 10).natAbs = v3.natAbs / 10 := by rcases tmod_ten v3 with ⟨_, _, e⟩ | ⟨_, _, e⟩ <;> omega
        rw [hna, hst, List.append_assoc]) fuel (bs [], n) ⟨h, by show 0 + (dg0 n.natAbs).length ≤ 40; omega⟩ (by unfold fuel; simp only; omega)
  simp only [bl_bs, List.append_nil] at H
  exact H
theorem p_spec_FormatInt (n : Int) (h : I64 n) : s_spec_FormatInt n = some (bs (Go.Lib.itoa n)) := by
  unfold s_spec_FormatInt
  rw [p_digits n h]
  by_cases h0 : n = 0
  · subst h0
    simp only [pl_eql, decide_true, cond_true]
    have : Go.Lib.itoa 0 = [48] := by unfold Go.Lib.itoa; rw [if_neg (by decide), Go.Lib.decDigits]; rfl
    rw [this]
    rfl
  · have hd : dg0 n.natAbs = Go.Lib.decDigits n.natAbs := if_neg (by omega)
    simp only [pl_eql, pl_lss, decide_eq_false h0, cond_false, Option.bind_some, hd]
    unfold Go.Lib.itoa
    by_cases hn : n < 0
    · rw [if_pos hn]
      have hl := itoa_len n h
      unfold Go.Lib.itoa at hl
      rw [if_pos hn] at hl
      simp only [decide_eq_true hn, cond_true, bs_mk, catOk_bs [45] (Go.Lib.decDigits n.natAbs) (by simp only [List.length_cons, List.length_nil] at *; omega), scat_bs]
      rfl
    · rw [if_neg hn, show n.toNat = n.natAbs by omega]
      simp only [decide_eq_false hn, cond_false]
theorem i64_nat {n : Nat} (h : n ≤ 2 ^ 40) : I64 (n : Int) := ⟨by omega, by omega⟩
end Go.Proofs.YtgkbhlncehgalaaGreatDoor
