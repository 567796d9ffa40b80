/- What was marked is held. Printed by famheld.py. -/
import Derived.Test.YteebeeoimghmhaaMkr
import Derived.Test.YteebeeoimghmhaaFamRaw
import Derived.Test.YteebeeoimghmhaaFl
import Derived.Test.YteebeeoimghmhaaPl
import Derived.Test.YteebeeoimghmhaaSd
namespace Go.Proofs.Yteebeeoimghmhaa
open Go.RowKit
set_option linter.unusedVariables false
set_option linter.unusedSimpArgs false
set_option maxRecDepth 100000
theorem cntL_le {α : Type} (c : α → Nat) (b : Nat) : ∀ (l : List α), (∀ x ∈ l, c x ≤ b) → cntL c l ≤ l.length * b
  | [], _ => by simp [cntL]
  | x :: l, h => by
    have h1 := h x (by simp)
    have h2 := cntL_le c b l fun y hy => h y (by simp [hy])
    simp only [cntL, List.length_cons, Nat.succ_mul]
    omega
theorem mkZ_at {α : Type} (f : α → Int → α) (c : α → Nat) : ∀ (l : List α) (k : Int) (i : Nat) (h : i < l.length) (h' : i < (mkZ f c l k).length), (mkZ f c l k)[i] = f l[i] (k + (cntL c (l.take i) : Nat))
  | [], k, i, h, _ => by simp at h
  | x :: l, k, 0, _, _ => by simp [mkZ, cntL]
  | x :: l, k, i + 1, h, h' => by
    have := mkZ_at f c l (k + (c x : Nat)) i (by simpa using h) (by simpa [mkZ] using h')
    simp only [mkZ, List.getElem_cons_succ, List.take_succ_cons, cntL, this]
    rw [show k + (c x : Nat) + (cntL c (l.take i) : Nat) = k + ((c x + cntL c (l.take i) : Nat) : Int) by omega]
theorem lss_no {r : Int} (h : 0 ≤ r) : prims.cmp .lss r 0 = false := by rw [pl_lss]; simpa using h
theorem byW_mk (k : Int) (h : 0 ≤ k) : prims.byW k = mkByte k := by
  show UInt8.ofNat (IntKind.u8.wrap k).toNat = UInt8.ofNat k.toNat
  have e : IntKind.u8.wrap k = k % 256 := by simp [IntKind.wrap, IntKind.signed, IntKind.bits]
  rw [e]
  apply UInt8.toNat.inj
  rw [UInt8.toNat_ofNat', UInt8.toNat_ofNat']
  omega
theorem rem3 (k : Int) (h : 0 ≤ k) : prims.cmp .eql (prims.arith .rem .i64 k 3) 0 = (k % 3 == 0) := by
  show ((k.tmod 3) == 0) = (k % 3 == 0)
  obtain ⟨m, rfl⟩ := Int.eq_ofNat_of_zero_le h
  rfl
theorem cntL_len {α : Type} (c : α → Nat) (h : ∀ x, 1 ≤ c x) : ∀ l : List α, l.length ≤ cntL c l
  | [] => Nat.le_refl _
  | x :: l => by have := cntL_len c h l; have := h x; simp only [cntL, List.length_cons]; omega
theorem p_markText (k : Int) (h0 : 0 ≤ k) (hb : k ≤ 1099511627776) : s_laws_markText k = some (mkText k) := by
  unfold s_laws_markText mkText
  by_cases hz : k ≤ 0
  · rw [pl_leq, decide_eq_true hz, if_pos hz]; rfl
  · rw [pl_leq, decide_eq_false hz, if_neg hz, cond_false]
    have hd : dg0 k.toNat = Go.Lib.decDigits k.toNat := if_neg (by omega)
    have hlen : (dg0 k.toNat).length ≤ 13 := by
      rw [hd, decDigits_len]
      exact nDigits_le 13 k.toNat (by omega) (by omega)
    have H := while_meas (step := s_laws_markText_l1) (fun x => ((0 : Int), bs (dg0 x.1.toNat ++ bl x.2))) (fun x => (dg0 x.1.toNat).length) (fun x => 0 ≤ x.1 ∧ x.1 ≤ 1099511627776 ∧ x.2.size + (dg0 x.1.toNat).length ≤ 20) (fun x hI => by
      obtain ⟨v2, v3⟩ := x
      obtain ⟨hm, hu, hsz⟩ := hI
      simp only at hm hu hsz
      by_cases hp : 0 < v2
      · left
        have hst := dg0_step v2.toNat (by omega)
        have hlst : (dg0 v2.toNat).length = (dg0 (v2.toNat / 10)).length + 1 := by rw [hst]; simp
        obtain ⟨m, rfl⟩ := Int.eq_ofNat_of_zero_le hm
        simp only [Int.toNat_natCast] at hst hlst hsz
        have hrem : prims.arith .rem .i64 (m : Int) 10 = ((m % 10 : Nat) : Int) := rfl
        have hquo : prims.arith .quo .i64 (m : Int) 10 = ((m / 10 : Nat) : Int) := by
          show IntKind.i64.wrap ((m / 10 : Nat) : Int) = _
          rw [IntKind.wrap_i64]
          omega
        have hadd : prims.arith .add .i64 48 ((m % 10 : Nat) : Int) = 48 + ((m % 10 : Nat) : Int) := pl_add _ _ (by omega) (by omega)
        have hby : prims.byW (48 + ((m % 10 : Nat) : Int)) = UInt8.ofNat (48 + m % 10) := by
          rw [byW_mk _ (by omega)]
          unfold mkByte
          congr 1
          try omega
        have hcat : prims.catOk (prims.ofB [UInt8.ofNat (48 + m % 10)]) v3 = true := by
          rw [← bs_bl v3]
          exact catOk_bs [_] _ (by rw [bl_len]; simp; omega)
        have hsc : prims.scat (prims.ofB [UInt8.ofNat (48 + m % 10)]) v3 = bs ([UInt8.ofNat (48 + m % 10)] ++ bl v3) := by
          conv => lhs; rw [← bs_bl v3]
          exact scat_bs [_] _
        refine ⟨(((m / 10 : Nat) : Int), bs ([UInt8.ofNat (48 + m % 10)] ++ bl v3)), ?_, ⟨?_, ?_, ?_⟩, ?_, ?_⟩
        · simp only [s_laws_markText_l1, pl_gtr, pl_eql, decide_eq_true hp, cond_true, show decide ((10 : Int) = 0) = false from rfl, cond_false, hrem, hadd, hby, hcat, hsc, hquo]
        · show (0 : Int) ≤ ((m / 10 : Nat) : Int); omega
        · show ((m / 10 : Nat) : Int) ≤ 1099511627776; omega
        · show ([UInt8.ofNat (48 + m % 10)] ++ bl v3).length + (dg0 (((m / 10 : Nat) : Int)).toNat).length ≤ 20
          rw [List.length_append, bl_len, Int.toNat_natCast]
          simp only [List.length_cons, List.length_nil]
          omega
        · show (dg0 (((m / 10 : Nat) : Int)).toNat).length < (dg0 ((m : Int)).toNat).length
          rw [Int.toNat_natCast, Int.toNat_natCast]
          omega
        · show ((0 : Int), bs (dg0 ((m : Int)).toNat ++ bl v3)) = (0, bs (dg0 (((m / 10 : Nat) : Int)).toNat ++ ([UInt8.ofNat (48 + m % 10)] ++ bl v3)))
          rw [Int.toNat_natCast, Int.toNat_natCast, hst, List.append_assoc]
      · right
        have h00 : v2 = 0 := by omega
        subst h00
        simp only [s_laws_markText_l1, pl_gtr, decide_eq_false hp, cond_false]
        show some (Sum.inr ((0 : Int), v3)) = some (Sum.inr (0, bs (dg0 0 ++ bl v3)))
        rw [show dg0 0 = [] from rfl, List.nil_append, bs_bl]) fuel (k, bs []) ⟨h0, hb, by show 0 + (dg0 k.toNat).length ≤ 20; omega⟩ (by unfold fuel; simp only; omega)
    have e : (k, (ByteArray.mk (Array.mk []))) = (k, bs []) := rfl
    rw [e, H]
    simp only [Option.bind_some, bl_bs, List.append_nil, hd, bs_mk, catOk_bs [109] (Go.Lib.decDigits k.toNat) (by rw [← hd]; simp; omega), cond_true, scat_bs]
    rfl

theorem p_heldStringS (l : (List ByteArray)) (k : Int) (h0 : 0 ≤ k) (hb : k + (l.length : Nat) ≤ 1099511627776) : s_laws_heldStringS (mkZ (fun _ k => mkText k) (fun _ => 1) l k) k = some (k + (l.length : Nat)) := by
  have hlen : l.length < 2 ^ 61 := by omega
  have H := while_seq (step := s_laws_heldStringS_l1 (mkZ (fun _ k => mkText k) (fun _ => 1) l k)) (fun i => (k + (cntL (fun _ => 1) (l.take i) : Nat), (i : Int))) (.inl (k + (cntL (fun _ => 1) l : Nat), (l.length : Int))) l.length hlen (fun i hi => by
    have hm : i < (mkZ (fun _ k => mkText k) (fun _ => 1) l k).length := by rw [mkZ_length]; exact hi
    have hx := mkZ_at (fun _ k => mkText k) (fun _ => 1) l k i hi hm
    have hct := cntL_take (fun _ => 1) l i hi
    have hle := cntL_take_le (fun _ => 1) l (i + 1)
    have hcl := cntL_one l
    obtain ⟨K, hK⟩ : ∃ K : Int, K = k + (cntL (fun _ => 1) (l.take i) : Nat) := ⟨_, rfl⟩
    obtain ⟨x0, hx0⟩ : ∃ x, x = l[i] := ⟨_, rfl⟩
    rw [← hK] at hx
    try rw [← hx0] at hx
    try rw [← hx0] at hct
    simp only [s_laws_heldStringS_l1, lt_len _ hm, cond_true, nthI_at hm, Option.bind_some, hx, ← hK, cond_false, p_markText K (by omega) (by omega), eq_self_s, pl_add K 1 (by omega) (by omega), pl_inc i l.length hi (by omega)]
    rw [show K + 1 = k + ((cntL (fun _ => 1) (l.take (i + 1)) : Nat) : Int) by omega]) (by
    have hend := lt_end eS (mkZ (fun _ k => mkText k) (fun _ => 1) l k)
    rw [mkZ_length] at hend
    simp only [s_laws_heldStringS_l1, List.take_length, hend, cond_false])
  rw [cntL_one l] at H
  have e0 : (k, (0 : Int)) = (k + ((cntL (fun _ => 1) (l.take 0) : Nat) : Int), ((0 : Nat) : Int)) := by simp [cntL]
  unfold s_laws_heldStringS
  rw [e0, H]
  rfl
theorem p_heldKeyS (l : (List DKey)) (k : Int) (h0 : 0 ≤ k) (hb : k + (cntL cKey l : Nat) ≤ 1099511627776) : s_laws_heldKeyS (mkZ mKey cKey l k) k = some (k + (cntL cKey l : Nat)) := by
  have hlen : l.length < 2 ^ 61 := by have := cntL_len cKey (fun x => by unfold cKey; omega) l; omega
  have H := while_seq (step := s_laws_heldKeyS_l1 (mkZ mKey cKey l k)) (fun i => (k + (cntL cKey (l.take i) : Nat), (i : Int))) (.inl (k + (cntL cKey l : Nat), (l.length : Int))) l.length hlen (fun i hi => by
    have hm : i < (mkZ mKey cKey l k).length := by rw [mkZ_length]; exact hi
    have hx := mkZ_at mKey cKey l k i hi hm
    have hct := cntL_take cKey l i hi
    have hle := cntL_take_le cKey l (i + 1)
    obtain ⟨K, hK⟩ : ∃ K : Int, K = k + (cntL cKey (l.take i) : Nat) := ⟨_, rfl⟩
    obtain ⟨x0, hx0⟩ : ∃ x, x = l[i] := ⟨_, rfl⟩
    rw [← hK] at hx
    try rw [← hx0] at hx
    try rw [← hx0] at hct
    have hcx : cKey x0 = x0.name.length + 1 := rfl
    simp only [s_laws_heldKeyS_l1, lt_len _ hm, cond_true, nthI_at hm, Option.bind_some, hx, ← hK, cond_false, mKey, p_heldStringS x0.name (K) (by omega) (by omega), lss_no (show 0 ≤ K + (x0.name.length : Nat) by omega), pl_add (K + (x0.name.length : Nat)) 1 (by omega) (by omega), eq_self_i, eq_self_b, eq_self_b2, pl_bnot, Bool.not_true, pl_inc i l.length hi (by omega)]
    rw [show K + (x0.name.length : Nat) + 1 = k + ((cntL cKey (l.take (i + 1)) : Nat) : Int) by omega]) (by
    have hend := lt_end eKey (mkZ mKey cKey l k)
    rw [mkZ_length] at hend
    simp only [s_laws_heldKeyS_l1, List.take_length, hend, cond_false])
  have e0 : (k, (0 : Int)) = (k + ((cntL cKey (l.take 0) : Nat) : Int), ((0 : Nat) : Int)) := by simp [cntL]
  unfold s_laws_heldKeyS
  rw [e0, H]
  rfl
theorem p_heldReaderS (l : (List DReader)) (k : Int) (h0 : 0 ≤ k) (hb : k + (cntL cReader l : Nat) ≤ 1099511627776) : s_laws_heldReaderS (mkZ mReader cReader l k) k = some (k + (cntL cReader l : Nat)) := by
  have hlen : l.length < 2 ^ 61 := by have := cntL_len cReader (fun x => by unfold cReader; omega) l; omega
  have H := while_seq (step := s_laws_heldReaderS_l1 (mkZ mReader cReader l k)) (fun i => (k + (cntL cReader (l.take i) : Nat), (i : Int))) (.inl (k + (cntL cReader l : Nat), (l.length : Int))) l.length hlen (fun i hi => by
    have hm : i < (mkZ mReader cReader l k).length := by rw [mkZ_length]; exact hi
    have hx := mkZ_at mReader cReader l k i hi hm
    have hct := cntL_take cReader l i hi
    have hle := cntL_take_le cReader l (i + 1)
    obtain ⟨K, hK⟩ : ∃ K : Int, K = k + (cntL cReader (l.take i) : Nat) := ⟨_, rfl⟩
    obtain ⟨x0, hx0⟩ : ∃ x, x = l[i] := ⟨_, rfl⟩
    rw [← hK] at hx
    try rw [← hx0] at hx
    try rw [← hx0] at hct
    have hcx : cReader x0 = 1 + x0.name.length + 1 := rfl
    simp only [s_laws_heldReaderS_l1, lt_len _ hm, cond_true, nthI_at hm, Option.bind_some, hx, ← hK, cond_false, mReader, pl_add (K) 1 (by omega) (by omega), p_heldStringS x0.name (K + 1) (by omega) (by omega), lss_no (show 0 ≤ K + 1 + (x0.name.length : Nat) by omega), pl_add (K + 1 + (x0.name.length : Nat)) 1 (by omega) (by omega), eq_self_i, eq_self_b, eq_self_b2, pl_bnot, Bool.not_true, pl_inc i l.length hi (by omega)]
    rw [show K + 1 + (x0.name.length : Nat) + 1 = k + ((cntL cReader (l.take (i + 1)) : Nat) : Int) by omega]) (by
    have hend := lt_end eReader (mkZ mReader cReader l k)
    rw [mkZ_length] at hend
    simp only [s_laws_heldReaderS_l1, List.take_length, hend, cond_false])
  have e0 : (k, (0 : Int)) = (k + ((cntL cReader (l.take 0) : Nat) : Int), ((0 : Nat) : Int)) := by simp [cntL]
  unfold s_laws_heldReaderS
  rw [e0, H]
  rfl
theorem p_heldAccessController (x : DAccessController) (k : Int) (h0 : 0 ≤ k) (hb : k + (cntL cKey x.keys + cntL cReader x.readers : Nat) ≤ 1099511627776) : s_laws_heldAccessController (mtAccessController x k) k = some (k + (cntL cKey x.keys + cntL cReader x.readers : Nat)) := by
  unfold s_laws_heldAccessController
  simp only [mtAccessController, p_heldKeyS x.keys (k) (by omega) (by omega), lss_no (show 0 ≤ k + (cntL cKey x.keys : Nat) by omega), p_heldReaderS x.readers (k + (cntL cKey x.keys : Nat)) (by omega) (by omega), lss_no (show 0 ≤ k + (cntL cKey x.keys : Nat) + (cntL cReader x.readers : Nat) by omega), Option.bind_some, cond_false]
  try (congr 1; omega)
theorem p_markAccessController (x : DAccessController) (k : Int) (h0 : 0 ≤ k) (hb : k + (cntL cKey x.keys + cntL cReader x.readers : Nat) ≤ 1099511627776) : s_laws_markAccessController x k = some ((mtAccessController x (k)), k + (cntL cKey x.keys + cntL cReader x.readers : Nat)) := if_pos ⟨h0, hb⟩
end Go.Proofs.Yteebeeoimghmhaa
