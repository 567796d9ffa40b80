/- What the families laws.sz.. compute. Printed by gen.py. -/
import Derived.Test.YtjdhggkbdognnaaGreatProg
import Derived.Test.YtjdhggkbdognnaaGreatTypes
namespace Go.Proofs.YtjdhggkbdognnaaGreat
open Go.RowKit
set_option linter.unusedVariables false
set_option linter.unusedSimpArgs false
set_option linter.unusedSectionVars false

set_option maxHeartbeats 400000 in
theorem szLinkS_c (v : Value) (l : (List DLink)) (left : Int) (w : World) (h : sLinkL.rd w [v] l) (h0 : 0 ≤ left) (h1 : left ≤ 1048576) :
    Calls Tryz.prog 70 #[v, .int .i64 left] w fun e w' => e = .returned (.int .i64 (remain left ((szL (fun _ => 0)) l))) ∧ Ext w w' := by
  obtain ⟨A, c, rfl, hl, hm⟩ := Shape.sl_form h
  unfold maxLen at hm
  have hlen := szL_len (fun _ => 0) l
  have H := Lib.hid h; clear h
  by_cases hlt : left < l.length
  · have hlt' : left - l.length < 0 := by omega
    go_enter Tryz.func70, Tryz.ntmps70
    go_wp2
    go_ret
    exact ⟨ret_int (remain_lt (by omega)).symm, Ext.refl _⟩
  · have hlt' : decide (left - l.length < 0) = false := by simp; omega
    have hge : (l.length : Int) ≤ left := by omega
    go_enter Tryz.func70, Tryz.ntmps70
    go_wp2
    go_ret
    exact ⟨ret_int (by rw [szL_zero, remain_le (by omega)]), Ext.refl _⟩
set_option maxHeartbeats 400000 in
theorem szTopology_c (cs : List Value) (x : DTopology) (left : Int) (w : World) (h : sTopology.rd w cs x) (h0 : 0 ≤ left) (h1 : left ≤ 1048576) :
    Calls Tryz.prog 28 #[.agg cs.toArray, .int .i64 left] w fun e w' => e = .returned (.int .i64 (remain left (szTopology x))) ∧ Ext w w' := by
  obtain ⟨c1, rfl, r0, r1⟩ := sTopology_rd h
  go_enter Tryz.func28, Tryz.ntmps28
  go_wp2_with fail
  refine (szLinkS_c _ x.links _ _ (sLinkL.ext (by exact (Ext.refl _).alloc _) r1) (by omega) (by omega)).mono ?_
  rintro e w0 ⟨rfl, hx0⟩
  have hX0 : Ext w w0 := Ext.trans (by exact (Ext.refl _).alloc _) hx0
  have hbd0 := remain_bd (left) ((szL (fun _ => 0)) x.links)
  by_cases hq0 : remain (left) ((szL (fun _ => 0)) x.links) < 0
  · have hq' := remain_neg hq0
    go_wp2
    go_ret
    exact ⟨ret_int (by rw [remain_lt (by unfold szTopology; omega)]), hX0⟩
  obtain ⟨hp0, hv0⟩ := remain_pos (Int.not_lt.1 hq0)
  rw [hv0] at hq0 hbd0 ⊢
  clear hv0
  go_wp2
  go_ret
  exact ⟨ret_int (by rw [remain_le (by unfold szTopology; omega)]; unfold szTopology; omega), hX0⟩

set_option maxHeartbeats 400000 in
theorem szStringS_c (v : Value) (l : (List ByteArray)) (left : Int) (w : World) (h : strs.rd w [v] l) (h0 : 0 ≤ left) (h1 : left ≤ 1048576) :
    Calls Tryz.prog 35 #[v, .int .i64 left] w fun e w' => e = .returned (.int .i64 (remain left ((szL ByteArray.size) l))) ∧ Ext w w' := by
  obtain ⟨A, c, rfl, hl, hm⟩ := Shape.sl_form h
  unfold maxLen at hm
  have hlen := szL_len ByteArray.size l
  have H := Lib.hid h; clear h
  by_cases hlt : left < l.length
  · have hlt' : left - l.length < 0 := by omega
    go_enter Tryz.func35, Tryz.ntmps35
    go_wp2
    go_ret
    exact ⟨ret_int (remain_lt (by omega)).symm, Ext.refl _⟩
  · have hlt' : decide (left - l.length < 0) = false := by simp; omega
    have hge : (l.length : Int) ≤ left := by omega
    go_enter Tryz.func35, Tryz.ntmps35
    go_wp2
    go_loopw [1, 5] (fun t i wr => ∃ k : Nat, k ≤ l.length ∧ i = .int .i64 k ∧ t = .int .i64 (left - l.length - ((szL ByteArray.size) (l.take k) - k)) ∧ ((szL ByteArray.size) (l.take k) : Int) + l.length - k ≤ left ∧ Ext w wr) (fun _ i _ => l.length - (intOf i).toNat)
    case atStart => exact ⟨0, Nat.zero_le _, rfl, by simp [szL], by simp [szL]; omega, Ext.refl _⟩
    case round =>
      obtain ⟨k, hk, rfl, rfl, hinv, hx⟩ := hrel
      have hl1 := szL_len ByteArray.size (l.take k)
      rw [List.length_take, Nat.min_eq_left hk] at hl1
      by_cases hlt : k < l.length
      · have HS := Lib.hid (szL_take ByteArray.size l k hlt)
        have hl2 := szL_rest ByteArray.size l (k + 1) hlt
        obtain ⟨b, off, rfl, hcell, hs⟩ := Shape.str_at (strs.ext hx H.out) hlt
        unfold maxLen at hs
        go_wp2
        · have hneg : left - l.length - ((szL ByteArray.size) (l.take k) - k) - (l[k].size : Int) < 0 := by assumption
          go_ret
          have hh := HS.out
          exact ⟨ret_int (remain_lt (by omega)).symm, hx⟩
        · have hneg : 0 ≤ left - l.length - ((szL ByteArray.size) (l.take k) - k) - (l[k].size : Int) := by assumption
          have hh := HS.out
          go_roundw
          case rel => exact ⟨k + 1, by omega, by go_num, by rw [hh]; go_num, by rw [hh]; omega, hx⟩
          case measure => simp [intOf]; omega
      · have : k = l.length := by omega
        subst this
        rw [List.take_length] at hinv hl1
        go_wp2
        go_ret
        simp only [List.take_length]
        exact ⟨ret_int (by rw [remain_le (by omega)]; omega), hx⟩

set_option maxHeartbeats 400000 in
theorem szName_c (cs : List Value) (x : (List ByteArray)) (left : Int) (w : World) (h : strs.rd w cs x) (h0 : 0 ≤ left) (h1 : left ≤ 1048576) :
    Calls Tryz.prog 8 #[.agg cs.toArray, .int .i64 left] w fun e w' => e = .returned (.int .i64 (remain left ((szL ByteArray.size) x))) ∧ Ext w w' := by
  have r0 := h; obtain ⟨c0, rfl⟩ := one_cell (strs.len h)
  go_enter Tryz.func8, Tryz.ntmps8
  go_wp2_with fail
  refine (szStringS_c _ x _ _ (strs.ext (by exact (Ext.refl _).alloc _) r0) (by omega) (by omega)).mono ?_
  rintro e w0 ⟨rfl, hx0⟩
  have hX0 : Ext w w0 := Ext.trans (by exact (Ext.refl _).alloc _) hx0
  have hbd0 := remain_bd (left) ((szL ByteArray.size) x)
  by_cases hq0 : remain (left) ((szL ByteArray.size) x) < 0
  · have hq' := remain_neg hq0
    go_wp2
    go_ret
    exact ⟨ret_int (by rw [remain_lt (by omega)]), hX0⟩
  obtain ⟨hp0, hv0⟩ := remain_pos (Int.not_lt.1 hq0)
  rw [hv0] at hq0 hbd0 ⊢
  clear hv0
  go_wp2
  go_ret
  exact ⟨ret_int (by rw [remain_le (by omega)]), hX0⟩

set_option maxHeartbeats 400000 in
theorem szKey_c (cs : List Value) (x : DKey) (left : Int) (w : World) (h : sKey.rd w cs x) (h0 : 0 ≤ left) (h1 : left ≤ 1048576) :
    Calls Tryz.prog 118 #[.agg cs.toArray, .int .i64 left] w fun e w' => e = .returned (.int .i64 (remain left (szKey x))) ∧ Ext w w' := by
  obtain ⟨c0, rfl, r0, r1⟩ := sKey_rd h
  go_enter Tryz.func118, Tryz.ntmps118
  go_wp2_with fail
  refine (szName_c _ x.name _ _ (strs.ext (by exact (Ext.refl _).alloc _) r0) (by omega) (by omega)).mono ?_
  rintro e w0 ⟨rfl, hx0⟩
  have hX0 : Ext w w0 := Ext.trans (by exact (Ext.refl _).alloc _) hx0
  have hbd0 := remain_bd (left) ((szL ByteArray.size) x.name)
  by_cases hq0 : remain (left) ((szL ByteArray.size) x.name) < 0
  · have hq' := remain_neg hq0
    go_wp2
    go_ret
    exact ⟨ret_int (by rw [remain_lt (by unfold szKey; omega)]), hX0⟩
  obtain ⟨hp0, hv0⟩ := remain_pos (Int.not_lt.1 hq0)
  rw [hv0] at hq0 hbd0 ⊢
  clear hv0
  go_wp2
  go_ret
  exact ⟨ret_int (by rw [remain_le (by unfold szKey; omega)]; unfold szKey; omega), hX0⟩

set_option maxHeartbeats 400000 in
theorem szKeyS_c (v : Value) (l : (List DKey)) (left : Int) (w : World) (h : sKeyL.rd w [v] l) (h0 : 0 ≤ left) (h1 : left ≤ 1048576) :
    Calls Tryz.prog 71 #[v, .int .i64 left] w fun e w' => e = .returned (.int .i64 (remain left ((szL szKey) l))) ∧ Ext w w' := by
  obtain ⟨A, c, rfl, hl, hm⟩ := Shape.sl_form h
  unfold maxLen at hm
  have hlen := szL_len szKey l
  have H := Lib.hid h; clear h
  by_cases hlt : left < l.length
  · have hlt' : left - l.length < 0 := by omega
    go_enter Tryz.func71, Tryz.ntmps71
    go_wp2
    go_ret
    exact ⟨ret_int (remain_lt (by omega)).symm, Ext.refl _⟩
  · have hlt' : decide (left - l.length < 0) = false := by simp; omega
    have hge : (l.length : Int) ≤ left := by omega
    go_enter Tryz.func71, Tryz.ntmps71
    go_wp2
    go_loopw [1, 5] (fun t i wr => ∃ k : Nat, k ≤ l.length ∧ i = .int .i64 k ∧ t = .int .i64 (left - l.length - ((szL szKey) (l.take k) - k)) ∧ ((szL szKey) (l.take k) : Int) + l.length - k ≤ left ∧ Ext w wr) (fun _ i _ => l.length - (intOf i).toNat)
    case atStart => exact ⟨0, Nat.zero_le _, rfl, by simp [szL], by simp [szL]; omega, Ext.refl _⟩
    case round =>
      obtain ⟨k, hk, rfl, rfl, hinv, hx⟩ := hrel
      have hl1 := szL_len szKey (l.take k)
      rw [List.length_take, Nat.min_eq_left hk] at hl1
      by_cases hlt : k < l.length
      · have HS := Lib.hid (szL_take szKey l k hlt)
        have hl2 := szL_rest szKey l (k + 1) hlt
        obtain ⟨b, off, es, rfl, hc, hr⟩ := Shape.sl_at (sKeyL.ext hx H.out) hlt
        have hr' := hr
        obtain ⟨c0, rfl, r0, r1⟩ := sKey_rd hr
        have f0 := hc 0 _ rfl
        have f1 := hc 1 _ rfl
        simp only [Nat.add_zero, show sKey.k = 2 from rfl, Nat.mul_one] at f0 f1
        go_wp2_with fail
        refine (szKey_c _ l[k] _ _ hr' (by omega) (by omega)).mono ?_
        rintro e w1 ⟨rfl, hx1⟩
        have hx2 := hx.trans hx1
        have hbd := remain_bd (left - l.length - ((szL szKey) (l.take k) - k)) (szKey l[k])
        by_cases hq : remain (left - l.length - ((szL szKey) (l.take k) - k)) (szKey l[k]) < 0
        · have hq' := remain_neg hq
          go_wp2
          go_ret
          have hh := HS.out
          exact ⟨ret_int (remain_lt (by omega)).symm, hx2⟩
        · obtain ⟨hq1, hq2⟩ := remain_pos (Int.not_lt.1 hq)
          have HQ := Lib.hid hq2
          rw [hq2] at hq hbd
          clear hq2
          rw [HQ.out]
          go_wp2
          have hh := HS.out
          go_roundw
          case rel => exact ⟨k + 1, by omega, by go_num, by rw [hh]; go_num, by rw [hh]; omega, hx2⟩
          case measure => simp [intOf]; omega
      · have : k = l.length := by omega
        subst this
        rw [List.take_length] at hinv hl1
        go_wp2
        go_ret
        simp only [List.take_length]
        exact ⟨ret_int (by rw [remain_le (by omega)]; omega), hx⟩

set_option maxHeartbeats 400000 in
theorem szPattern_c (cs : List Value) (x : (List ByteArray)) (left : Int) (w : World) (h : strs.rd w cs x) (h0 : 0 ≤ left) (h1 : left ≤ 1048576) :
    Calls Tryz.prog 156 #[.agg cs.toArray, .int .i64 left] w fun e w' => e = .returned (.int .i64 (remain left ((szL ByteArray.size) x))) ∧ Ext w w' := by
  have r0 := h; obtain ⟨c0, rfl⟩ := one_cell (strs.len h)
  go_enter Tryz.func156, Tryz.ntmps156
  go_wp2_with fail
  refine (szStringS_c _ x _ _ (strs.ext (by exact (Ext.refl _).alloc _) r0) (by omega) (by omega)).mono ?_
  rintro e w0 ⟨rfl, hx0⟩
  have hX0 : Ext w w0 := Ext.trans (by exact (Ext.refl _).alloc _) hx0
  have hbd0 := remain_bd (left) ((szL ByteArray.size) x)
  by_cases hq0 : remain (left) ((szL ByteArray.size) x) < 0
  · have hq' := remain_neg hq0
    go_wp2
    go_ret
    exact ⟨ret_int (by rw [remain_lt (by omega)]), hX0⟩
  obtain ⟨hp0, hv0⟩ := remain_pos (Int.not_lt.1 hq0)
  rw [hv0] at hq0 hbd0 ⊢
  clear hv0
  go_wp2
  go_ret
  exact ⟨ret_int (by rw [remain_le (by omega)]), hX0⟩

set_option maxHeartbeats 400000 in
theorem szRule_c (cs : List Value) (x : DRule) (left : Int) (w : World) (h : sRule.rd w cs x) (h0 : 0 ≤ left) (h1 : left ≤ 1048576) :
    Calls Tryz.prog 119 #[.agg cs.toArray, .int .i64 left] w fun e w' => e = .returned (.int .i64 (remain left (szRule x))) ∧ Ext w w' := by
  obtain ⟨c0, c1, rfl, r0, r1⟩ := sRule_rd h
  go_enter Tryz.func119, Tryz.ntmps119
  go_wp2_with fail
  refine (szPattern_c _ x.dataPattern _ _ (strs.ext (by exact (Ext.refl _).alloc _) r0) (by omega) (by omega)).mono ?_
  rintro e w0 ⟨rfl, hx0⟩
  have hX0 : Ext w w0 := Ext.trans (by exact (Ext.refl _).alloc _) hx0
  have f0 : w0.cell? ⟨w.heap.size, 0, none⟩ = some (c0) := hx0.cell (by simp)
  have f1 : w0.cell? ⟨w.heap.size, 1, none⟩ = some (c1) := hx0.cell (by simp)
  have hbd0 := remain_bd (left) ((szL ByteArray.size) x.dataPattern)
  by_cases hq0 : remain (left) ((szL ByteArray.size) x.dataPattern) < 0
  · have hq' := remain_neg hq0
    go_wp2
    go_ret
    exact ⟨ret_int (by rw [remain_lt (by unfold szRule; omega)]), hX0⟩
  obtain ⟨hp0, hv0⟩ := remain_pos (Int.not_lt.1 hq0)
  rw [hv0] at hq0 hbd0 ⊢
  clear hv0
  go_wp2_with fail
  refine (szPattern_c _ x.keyPattern _ _ (strs.ext (by exact hX0) r1) (by omega) (by omega)).mono ?_
  rintro e w1 ⟨rfl, hx1⟩
  have hX1 : Ext w w1 := Ext.trans (by exact hX0) hx1
  have hbd1 := remain_bd (left - ((szL ByteArray.size) x.dataPattern : Nat)) ((szL ByteArray.size) x.keyPattern)
  by_cases hq1 : remain (left - ((szL ByteArray.size) x.dataPattern : Nat)) ((szL ByteArray.size) x.keyPattern) < 0
  · have hq' := remain_neg hq1
    go_wp2
    go_ret
    exact ⟨ret_int (by rw [remain_lt (by unfold szRule; omega)]), hX1⟩
  obtain ⟨hp1, hv1⟩ := remain_pos (Int.not_lt.1 hq1)
  rw [hv1] at hq1 hbd1 ⊢
  clear hv1
  go_wp2
  go_ret
  exact ⟨ret_int (by rw [remain_le (by unfold szRule; omega)]; unfold szRule; omega), hX1⟩

set_option maxHeartbeats 400000 in
theorem szRuleS_c (v : Value) (l : (List DRule)) (left : Int) (w : World) (h : sRuleL.rd w [v] l) (h0 : 0 ≤ left) (h1 : left ≤ 1048576) :
    Calls Tryz.prog 72 #[v, .int .i64 left] w fun e w' => e = .returned (.int .i64 (remain left ((szL szRule) l))) ∧ Ext w w' := by
  obtain ⟨A, c, rfl, hl, hm⟩ := Shape.sl_form h
  unfold maxLen at hm
  have hlen := szL_len szRule l
  have H := Lib.hid h; clear h
  by_cases hlt : left < l.length
  · have hlt' : left - l.length < 0 := by omega
    go_enter Tryz.func72, Tryz.ntmps72
    go_wp2
    go_ret
    exact ⟨ret_int (remain_lt (by omega)).symm, Ext.refl _⟩
  · have hlt' : decide (left - l.length < 0) = false := by simp; omega
    have hge : (l.length : Int) ≤ left := by omega
    go_enter Tryz.func72, Tryz.ntmps72
    go_wp2
    go_loopw [1, 5] (fun t i wr => ∃ k : Nat, k ≤ l.length ∧ i = .int .i64 k ∧ t = .int .i64 (left - l.length - ((szL szRule) (l.take k) - k)) ∧ ((szL szRule) (l.take k) : Int) + l.length - k ≤ left ∧ Ext w wr) (fun _ i _ => l.length - (intOf i).toNat)
    case atStart => exact ⟨0, Nat.zero_le _, rfl, by simp [szL], by simp [szL]; omega, Ext.refl _⟩
    case round =>
      obtain ⟨k, hk, rfl, rfl, hinv, hx⟩ := hrel
      have hl1 := szL_len szRule (l.take k)
      rw [List.length_take, Nat.min_eq_left hk] at hl1
      by_cases hlt : k < l.length
      · have HS := Lib.hid (szL_take szRule l k hlt)
        have hl2 := szL_rest szRule l (k + 1) hlt
        obtain ⟨b, off, es, rfl, hc, hr⟩ := Shape.sl_at (sRuleL.ext hx H.out) hlt
        have hr' := hr
        obtain ⟨c0, c1, rfl, r0, r1⟩ := sRule_rd hr
        have f0 := hc 0 _ rfl
        have f1 := hc 1 _ rfl
        simp only [Nat.add_zero, show sRule.k = 2 from rfl, Nat.mul_one] at f0 f1
        go_wp2_with fail
        refine (szRule_c _ l[k] _ _ hr' (by omega) (by omega)).mono ?_
        rintro e w1 ⟨rfl, hx1⟩
        have hx2 := hx.trans hx1
        have hbd := remain_bd (left - l.length - ((szL szRule) (l.take k) - k)) (szRule l[k])
        by_cases hq : remain (left - l.length - ((szL szRule) (l.take k) - k)) (szRule l[k]) < 0
        · have hq' := remain_neg hq
          go_wp2
          go_ret
          have hh := HS.out
          exact ⟨ret_int (remain_lt (by omega)).symm, hx2⟩
        · obtain ⟨hq1, hq2⟩ := remain_pos (Int.not_lt.1 hq)
          have HQ := Lib.hid hq2
          rw [hq2] at hq hbd
          clear hq2
          rw [HQ.out]
          go_wp2
          have hh := HS.out
          go_roundw
          case rel => exact ⟨k + 1, by omega, by go_num, by rw [hh]; go_num, by rw [hh]; omega, hx2⟩
          case measure => simp [intOf]; omega
      · have : k = l.length := by omega
        subst this
        rw [List.take_length] at hinv hl1
        go_wp2
        go_ret
        simp only [List.take_length]
        exact ⟨ret_int (by rw [remain_le (by omega)]; omega), hx⟩

set_option maxHeartbeats 400000 in
theorem szNameS_c (v : Value) (l : (List (List ByteArray))) (left : Int) (w : World) (h : sNameL.rd w [v] l) (h0 : 0 ≤ left) (h1 : left ≤ 1048576) :
    Calls Tryz.prog 73 #[v, .int .i64 left] w fun e w' => e = .returned (.int .i64 (remain left ((szL (szL ByteArray.size)) l))) ∧ Ext w w' := by
  obtain ⟨A, c, rfl, hl, hm⟩ := Shape.sl_form h
  unfold maxLen at hm
  have hlen := szL_len (szL ByteArray.size) l
  have H := Lib.hid h; clear h
  by_cases hlt : left < l.length
  · have hlt' : left - l.length < 0 := by omega
    go_enter Tryz.func73, Tryz.ntmps73
    go_wp2
    go_ret
    exact ⟨ret_int (remain_lt (by omega)).symm, Ext.refl _⟩
  · have hlt' : decide (left - l.length < 0) = false := by simp; omega
    have hge : (l.length : Int) ≤ left := by omega
    go_enter Tryz.func73, Tryz.ntmps73
    go_wp2
    go_loopw [1, 5] (fun t i wr => ∃ k : Nat, k ≤ l.length ∧ i = .int .i64 k ∧ t = .int .i64 (left - l.length - ((szL (szL ByteArray.size)) (l.take k) - k)) ∧ ((szL (szL ByteArray.size)) (l.take k) : Int) + l.length - k ≤ left ∧ Ext w wr) (fun _ i _ => l.length - (intOf i).toNat)
    case atStart => exact ⟨0, Nat.zero_le _, rfl, by simp [szL], by simp [szL]; omega, Ext.refl _⟩
    case round =>
      obtain ⟨k, hk, rfl, rfl, hinv, hx⟩ := hrel
      have hl1 := szL_len (szL ByteArray.size) (l.take k)
      rw [List.length_take, Nat.min_eq_left hk] at hl1
      by_cases hlt : k < l.length
      · have HS := Lib.hid (szL_take (szL ByteArray.size) l k hlt)
        have hl2 := szL_rest (szL ByteArray.size) l (k + 1) hlt
        obtain ⟨b, off, es, rfl, hc, hr⟩ := Shape.sl_at (sNameL.ext hx H.out) hlt
        have hr' := hr
        have r0 := hr; obtain ⟨c0, rfl⟩ := one_cell (strs.len hr)
        have f0 := hc 0 _ rfl
        simp only [Nat.add_zero, show strs.k = 1 from rfl, Nat.mul_one] at f0
        go_wp2_with fail
        refine (szName_c _ l[k] _ _ hr' (by omega) (by omega)).mono ?_
        rintro e w1 ⟨rfl, hx1⟩
        have hx2 := hx.trans hx1
        have hbd := remain_bd (left - l.length - ((szL (szL ByteArray.size)) (l.take k) - k)) ((szL ByteArray.size) l[k])
        by_cases hq : remain (left - l.length - ((szL (szL ByteArray.size)) (l.take k) - k)) ((szL ByteArray.size) l[k]) < 0
        · have hq' := remain_neg hq
          go_wp2
          go_ret
          have hh := HS.out
          exact ⟨ret_int (remain_lt (by omega)).symm, hx2⟩
        · obtain ⟨hq1, hq2⟩ := remain_pos (Int.not_lt.1 hq)
          have HQ := Lib.hid hq2
          rw [hq2] at hq hbd
          clear hq2
          rw [HQ.out]
          go_wp2
          have hh := HS.out
          go_roundw
          case rel => exact ⟨k + 1, by omega, by go_num, by rw [hh]; go_num, by rw [hh]; omega, hx2⟩
          case measure => simp [intOf]; omega
      · have : k = l.length := by omega
        subst this
        rw [List.take_length] at hinv hl1
        go_wp2
        go_ret
        simp only [List.take_length]
        exact ⟨ret_int (by rw [remain_le (by omega)]; omega), hx⟩

set_option maxHeartbeats 400000 in
theorem szByteS_c (v : Value) (l : (List UInt8)) (left : Int) (w : World) (h : sBytes.rd w [v] l) (h0 : 0 ≤ left) (h1 : left ≤ 1048576) :
    Calls Tryz.prog 157 #[v, .int .i64 left] w fun e w' => e = .returned (.int .i64 (remain left ((szL (fun _ => 0)) l))) ∧ Ext w w' := by
  obtain ⟨A, c, rfl, hl, hm⟩ := Shape.sl_form h
  unfold maxLen at hm
  have hlen := szL_len (fun _ => 0) l
  have H := Lib.hid h; clear h
  by_cases hlt : left < l.length
  · have hlt' : left - l.length < 0 := by omega
    go_enter Tryz.func157, Tryz.ntmps157
    go_wp2
    go_ret
    exact ⟨ret_int (remain_lt (by omega)).symm, Ext.refl _⟩
  · have hlt' : decide (left - l.length < 0) = false := by simp; omega
    have hge : (l.length : Int) ≤ left := by omega
    go_enter Tryz.func157, Tryz.ntmps157
    go_wp2
    go_ret
    exact ⟨ret_int (by rw [szL_zero, remain_le (by omega)]), Ext.refl _⟩
set_option maxHeartbeats 400000 in
theorem szData_c (cs : List Value) (x : DData) (left : Int) (w : World) (h : sData.rd w cs x) (h0 : 0 ≤ left) (h1 : left ≤ 1048576) :
    Calls Tryz.prog 120 #[.agg cs.toArray, .int .i64 left] w fun e w' => e = .returned (.int .i64 (remain left (szData x))) ∧ Ext w w' := by
  obtain ⟨c0, c1, c2, rfl, r0, r1, r2, r3, r4⟩ := sData_rd h
  go_enter Tryz.func120, Tryz.ntmps120
  go_wp2_with fail
  refine (szName_c _ x.name _ _ (strs.ext (by exact (Ext.refl _).alloc _) r0) (by omega) (by omega)).mono ?_
  rintro e w0 ⟨rfl, hx0⟩
  have hX0 : Ext w w0 := Ext.trans (by exact (Ext.refl _).alloc _) hx0
  have f0 : w0.cell? ⟨w.heap.size, 0, none⟩ = some (c0) := hx0.cell (by simp)
  have f1 : w0.cell? ⟨w.heap.size, 1, none⟩ = some (c1) := hx0.cell (by simp)
  have f2 : w0.cell? ⟨w.heap.size, 2, none⟩ = some (c2) := hx0.cell (by simp)
  have f3 : w0.cell? ⟨w.heap.size, 3, none⟩ = some (.int .i64 x.freshUntil) := hx0.cell (by simp)
  have f4 : w0.cell? ⟨w.heap.size, 4, none⟩ = some (.int .i64 x.signature) := hx0.cell (by simp)
  have hbd0 := remain_bd (left) ((szL ByteArray.size) x.name)
  by_cases hq0 : remain (left) ((szL ByteArray.size) x.name) < 0
  · have hq' := remain_neg hq0
    go_wp2
    go_ret
    exact ⟨ret_int (by rw [remain_lt (by unfold szData; omega)]), hX0⟩
  obtain ⟨hp0, hv0⟩ := remain_pos (Int.not_lt.1 hq0)
  rw [hv0] at hq0 hbd0 ⊢
  clear hv0
  go_wp2_with fail
  refine (szByteS_c _ x.content _ _ (sBytes.ext (by exact hX0) r1) (by omega) (by omega)).mono ?_
  rintro e w1 ⟨rfl, hx1⟩
  have hX1 : Ext w w1 := Ext.trans (by exact hX0) hx1
  have f0 : w1.cell? ⟨w.heap.size, 0, none⟩ = some (c0) := hx1.cell f0
  have f1 : w1.cell? ⟨w.heap.size, 1, none⟩ = some (c1) := hx1.cell f1
  have f2 : w1.cell? ⟨w.heap.size, 2, none⟩ = some (c2) := hx1.cell f2
  have f3 : w1.cell? ⟨w.heap.size, 3, none⟩ = some (.int .i64 x.freshUntil) := hx1.cell f3
  have f4 : w1.cell? ⟨w.heap.size, 4, none⟩ = some (.int .i64 x.signature) := hx1.cell f4
  have hbd1 := remain_bd (left - ((szL ByteArray.size) x.name : Nat)) ((szL (fun _ => 0)) x.content)
  by_cases hq1 : remain (left - ((szL ByteArray.size) x.name : Nat)) ((szL (fun _ => 0)) x.content) < 0
  · have hq' := remain_neg hq1
    go_wp2
    go_ret
    exact ⟨ret_int (by rw [remain_lt (by unfold szData; omega)]), hX1⟩
  obtain ⟨hp1, hv1⟩ := remain_pos (Int.not_lt.1 hq1)
  rw [hv1] at hq1 hbd1 ⊢
  clear hv1
  go_wp2_with fail
  refine (szName_c _ x.keyName _ _ (strs.ext (by exact hX1) r2) (by omega) (by omega)).mono ?_
  rintro e w2 ⟨rfl, hx2⟩
  have hX2 : Ext w w2 := Ext.trans (by exact hX1) hx2
  have hbd2 := remain_bd (left - ((szL ByteArray.size) x.name : Nat) - ((szL (fun _ => 0)) x.content : Nat)) ((szL ByteArray.size) x.keyName)
  by_cases hq2 : remain (left - ((szL ByteArray.size) x.name : Nat) - ((szL (fun _ => 0)) x.content : Nat)) ((szL ByteArray.size) x.keyName) < 0
  · have hq' := remain_neg hq2
    go_wp2
    go_ret
    exact ⟨ret_int (by rw [remain_lt (by unfold szData; omega)]), hX2⟩
  obtain ⟨hp2, hv2⟩ := remain_pos (Int.not_lt.1 hq2)
  rw [hv2] at hq2 hbd2 ⊢
  clear hv2
  go_wp2
  go_ret
  exact ⟨ret_int (by rw [remain_le (by unfold szData; omega)]; unfold szData; omega), hX2⟩

set_option maxHeartbeats 400000 in
theorem szDataS_c (v : Value) (l : (List DData)) (left : Int) (w : World) (h : sDataL.rd w [v] l) (h0 : 0 ≤ left) (h1 : left ≤ 1048576) :
    Calls Tryz.prog 74 #[v, .int .i64 left] w fun e w' => e = .returned (.int .i64 (remain left ((szL szData) l))) ∧ Ext w w' := by
  obtain ⟨A, c, rfl, hl, hm⟩ := Shape.sl_form h
  unfold maxLen at hm
  have hlen := szL_len szData l
  have H := Lib.hid h; clear h
  by_cases hlt : left < l.length
  · have hlt' : left - l.length < 0 := by omega
    go_enter Tryz.func74, Tryz.ntmps74
    go_wp2
    go_ret
    exact ⟨ret_int (remain_lt (by omega)).symm, Ext.refl _⟩
  · have hlt' : decide (left - l.length < 0) = false := by simp; omega
    have hge : (l.length : Int) ≤ left := by omega
    go_enter Tryz.func74, Tryz.ntmps74
    go_wp2
    go_loopw [1, 5] (fun t i wr => ∃ k : Nat, k ≤ l.length ∧ i = .int .i64 k ∧ t = .int .i64 (left - l.length - ((szL szData) (l.take k) - k)) ∧ ((szL szData) (l.take k) : Int) + l.length - k ≤ left ∧ Ext w wr) (fun _ i _ => l.length - (intOf i).toNat)
    case atStart => exact ⟨0, Nat.zero_le _, rfl, by simp [szL], by simp [szL]; omega, Ext.refl _⟩
    case round =>
      obtain ⟨k, hk, rfl, rfl, hinv, hx⟩ := hrel
      have hl1 := szL_len szData (l.take k)
      rw [List.length_take, Nat.min_eq_left hk] at hl1
      by_cases hlt : k < l.length
      · have HS := Lib.hid (szL_take szData l k hlt)
        have hl2 := szL_rest szData l (k + 1) hlt
        obtain ⟨b, off, es, rfl, hc, hr⟩ := Shape.sl_at (sDataL.ext hx H.out) hlt
        have hr' := hr
        obtain ⟨c0, c1, c2, rfl, r0, r1, r2, r3, r4⟩ := sData_rd hr
        have f0 := hc 0 _ rfl
        have f1 := hc 1 _ rfl
        have f2 := hc 2 _ rfl
        have f3 := hc 3 _ rfl
        have f4 := hc 4 _ rfl
        simp only [Nat.add_zero, show sData.k = 5 from rfl, Nat.mul_one] at f0 f1 f2 f3 f4
        go_wp2_with fail
        refine (szData_c _ l[k] _ _ hr' (by omega) (by omega)).mono ?_
        rintro e w1 ⟨rfl, hx1⟩
        have hx2 := hx.trans hx1
        have hbd := remain_bd (left - l.length - ((szL szData) (l.take k) - k)) (szData l[k])
        by_cases hq : remain (left - l.length - ((szL szData) (l.take k) - k)) (szData l[k]) < 0
        · have hq' := remain_neg hq
          go_wp2
          go_ret
          have hh := HS.out
          exact ⟨ret_int (remain_lt (by omega)).symm, hx2⟩
        · obtain ⟨hq1, hq2⟩ := remain_pos (Int.not_lt.1 hq)
          have HQ := Lib.hid hq2
          rw [hq2] at hq hbd
          clear hq2
          rw [HQ.out]
          go_wp2
          have hh := HS.out
          go_roundw
          case rel => exact ⟨k + 1, by omega, by go_num, by rw [hh]; go_num, by rw [hh]; omega, hx2⟩
          case measure => simp [intOf]; omega
      · have : k = l.length := by omega
        subst this
        rw [List.take_length] at hinv hl1
        go_wp2
        go_ret
        simp only [List.take_length]
        exact ⟨ret_int (by rw [remain_le (by omega)]; omega), hx⟩

set_option maxHeartbeats 400000 in
theorem szTrustPolicy_c (cs : List Value) (x : DTrustPolicy) (left : Int) (w : World) (h : sTrustPolicy.rd w cs x) (h0 : 0 ≤ left) (h1 : left ≤ 1048576) :
    Calls Tryz.prog 29 #[.agg cs.toArray, .int .i64 left] w fun e w' => e = .returned (.int .i64 (remain left (szTrustPolicy x))) ∧ Ext w w' := by
  obtain ⟨c0, c1, c2, c3, rfl, r0, r1, r2, r3⟩ := sTrustPolicy_rd h
  go_enter Tryz.func29, Tryz.ntmps29
  go_wp2_with fail
  refine (szKeyS_c _ x.keys _ _ (sKeyL.ext (by exact (Ext.refl _).alloc _) r0) (by omega) (by omega)).mono ?_
  rintro e w0 ⟨rfl, hx0⟩
  have hX0 : Ext w w0 := Ext.trans (by exact (Ext.refl _).alloc _) hx0
  have f0 : w0.cell? ⟨w.heap.size, 0, none⟩ = some (c0) := hx0.cell (by simp)
  have f1 : w0.cell? ⟨w.heap.size, 1, none⟩ = some (c1) := hx0.cell (by simp)
  have f2 : w0.cell? ⟨w.heap.size, 2, none⟩ = some (c2) := hx0.cell (by simp)
  have f3 : w0.cell? ⟨w.heap.size, 3, none⟩ = some (c3) := hx0.cell (by simp)
  have hbd0 := remain_bd (left) ((szL szKey) x.keys)
  by_cases hq0 : remain (left) ((szL szKey) x.keys) < 0
  · have hq' := remain_neg hq0
    go_wp2
    go_ret
    exact ⟨ret_int (by rw [remain_lt (by unfold szTrustPolicy; omega)]), hX0⟩
  obtain ⟨hp0, hv0⟩ := remain_pos (Int.not_lt.1 hq0)
  rw [hv0] at hq0 hbd0 ⊢
  clear hv0
  go_wp2_with fail
  refine (szRuleS_c _ x.rules _ _ (sRuleL.ext (by exact hX0) r1) (by omega) (by omega)).mono ?_
  rintro e w1 ⟨rfl, hx1⟩
  have hX1 : Ext w w1 := Ext.trans (by exact hX0) hx1
  have f0 : w1.cell? ⟨w.heap.size, 0, none⟩ = some (c0) := hx1.cell f0
  have f1 : w1.cell? ⟨w.heap.size, 1, none⟩ = some (c1) := hx1.cell f1
  have f2 : w1.cell? ⟨w.heap.size, 2, none⟩ = some (c2) := hx1.cell f2
  have f3 : w1.cell? ⟨w.heap.size, 3, none⟩ = some (c3) := hx1.cell f3
  have hbd1 := remain_bd (left - ((szL szKey) x.keys : Nat)) ((szL szRule) x.rules)
  by_cases hq1 : remain (left - ((szL szKey) x.keys : Nat)) ((szL szRule) x.rules) < 0
  · have hq' := remain_neg hq1
    go_wp2
    go_ret
    exact ⟨ret_int (by rw [remain_lt (by unfold szTrustPolicy; omega)]), hX1⟩
  obtain ⟨hp1, hv1⟩ := remain_pos (Int.not_lt.1 hq1)
  rw [hv1] at hq1 hbd1 ⊢
  clear hv1
  go_wp2_with fail
  refine (szNameS_c _ x.anchors _ _ (sNameL.ext (by exact hX1) r2) (by omega) (by omega)).mono ?_
  rintro e w2 ⟨rfl, hx2⟩
  have hX2 : Ext w w2 := Ext.trans (by exact hX1) hx2
  have f0 : w2.cell? ⟨w.heap.size, 0, none⟩ = some (c0) := hx2.cell f0
  have f1 : w2.cell? ⟨w.heap.size, 1, none⟩ = some (c1) := hx2.cell f1
  have f2 : w2.cell? ⟨w.heap.size, 2, none⟩ = some (c2) := hx2.cell f2
  have f3 : w2.cell? ⟨w.heap.size, 3, none⟩ = some (c3) := hx2.cell f3
  have hbd2 := remain_bd (left - ((szL szKey) x.keys : Nat) - ((szL szRule) x.rules : Nat)) ((szL (szL ByteArray.size)) x.anchors)
  by_cases hq2 : remain (left - ((szL szKey) x.keys : Nat) - ((szL szRule) x.rules : Nat)) ((szL (szL ByteArray.size)) x.anchors) < 0
  · have hq' := remain_neg hq2
    go_wp2
    go_ret
    exact ⟨ret_int (by rw [remain_lt (by unfold szTrustPolicy; omega)]), hX2⟩
  obtain ⟨hp2, hv2⟩ := remain_pos (Int.not_lt.1 hq2)
  rw [hv2] at hq2 hbd2 ⊢
  clear hv2
  go_wp2_with fail
  refine (szDataS_c _ x.certificates _ _ (sDataL.ext (by exact hX2) r3) (by omega) (by omega)).mono ?_
  rintro e w3 ⟨rfl, hx3⟩
  have hX3 : Ext w w3 := Ext.trans (by exact hX2) hx3
  have hbd3 := remain_bd (left - ((szL szKey) x.keys : Nat) - ((szL szRule) x.rules : Nat) - ((szL (szL ByteArray.size)) x.anchors : Nat)) ((szL szData) x.certificates)
  by_cases hq3 : remain (left - ((szL szKey) x.keys : Nat) - ((szL szRule) x.rules : Nat) - ((szL (szL ByteArray.size)) x.anchors : Nat)) ((szL szData) x.certificates) < 0
  · have hq' := remain_neg hq3
    go_wp2
    go_ret
    exact ⟨ret_int (by rw [remain_lt (by unfold szTrustPolicy; omega)]), hX3⟩
  obtain ⟨hp3, hv3⟩ := remain_pos (Int.not_lt.1 hq3)
  rw [hv3] at hq3 hbd3 ⊢
  clear hv3
  go_wp2
  go_ret
  exact ⟨ret_int (by rw [remain_le (by unfold szTrustPolicy; omega)]; unfold szTrustPolicy; omega), hX3⟩

set_option maxHeartbeats 400000 in
theorem szTableEntry_c (cs : List Value) (x : DTableEntry) (left : Int) (w : World) (h : sTableEntry.rd w cs x) (h0 : 0 ≤ left) (h1 : left ≤ 1048576) :
    Calls Tryz.prog 75 #[.agg cs.toArray, .int .i64 left] w fun e w' => e = .returned (.int .i64 (remain left (szTableEntry x))) ∧ Ext w w' := by
  obtain ⟨c0, rfl, r0, r1⟩ := sTableEntry_rd h
  go_enter Tryz.func75, Tryz.ntmps75
  go_wp2_with fail
  refine (szName_c _ x.name _ _ (strs.ext (by exact (Ext.refl _).alloc _) r0) (by omega) (by omega)).mono ?_
  rintro e w0 ⟨rfl, hx0⟩
  have hX0 : Ext w w0 := Ext.trans (by exact (Ext.refl _).alloc _) hx0
  have hbd0 := remain_bd (left) ((szL ByteArray.size) x.name)
  by_cases hq0 : remain (left) ((szL ByteArray.size) x.name) < 0
  · have hq' := remain_neg hq0
    go_wp2
    go_ret
    exact ⟨ret_int (by rw [remain_lt (by unfold szTableEntry; omega)]), hX0⟩
  obtain ⟨hp0, hv0⟩ := remain_pos (Int.not_lt.1 hq0)
  rw [hv0] at hq0 hbd0 ⊢
  clear hv0
  go_wp2
  go_ret
  exact ⟨ret_int (by rw [remain_le (by unfold szTableEntry; omega)]; unfold szTableEntry; omega), hX0⟩

set_option maxHeartbeats 400000 in
theorem szTableEntryS_c (v : Value) (l : (List DTableEntry)) (left : Int) (w : World) (h : sTableEntryL.rd w [v] l) (h0 : 0 ≤ left) (h1 : left ≤ 1048576) :
    Calls Tryz.prog 30 #[v, .int .i64 left] w fun e w' => e = .returned (.int .i64 (remain left ((szL szTableEntry) l))) ∧ Ext w w' := by
  obtain ⟨A, c, rfl, hl, hm⟩ := Shape.sl_form h
  unfold maxLen at hm
  have hlen := szL_len szTableEntry l
  have H := Lib.hid h; clear h
  by_cases hlt : left < l.length
  · have hlt' : left - l.length < 0 := by omega
    go_enter Tryz.func30, Tryz.ntmps30
    go_wp2
    go_ret
    exact ⟨ret_int (remain_lt (by omega)).symm, Ext.refl _⟩
  · have hlt' : decide (left - l.length < 0) = false := by simp; omega
    have hge : (l.length : Int) ≤ left := by omega
    go_enter Tryz.func30, Tryz.ntmps30
    go_wp2
    go_loopw [1, 5] (fun t i wr => ∃ k : Nat, k ≤ l.length ∧ i = .int .i64 k ∧ t = .int .i64 (left - l.length - ((szL szTableEntry) (l.take k) - k)) ∧ ((szL szTableEntry) (l.take k) : Int) + l.length - k ≤ left ∧ Ext w wr) (fun _ i _ => l.length - (intOf i).toNat)
    case atStart => exact ⟨0, Nat.zero_le _, rfl, by simp [szL], by simp [szL]; omega, Ext.refl _⟩
    case round =>
      obtain ⟨k, hk, rfl, rfl, hinv, hx⟩ := hrel
      have hl1 := szL_len szTableEntry (l.take k)
      rw [List.length_take, Nat.min_eq_left hk] at hl1
      by_cases hlt : k < l.length
      · have HS := Lib.hid (szL_take szTableEntry l k hlt)
        have hl2 := szL_rest szTableEntry l (k + 1) hlt
        obtain ⟨b, off, es, rfl, hc, hr⟩ := Shape.sl_at (sTableEntryL.ext hx H.out) hlt
        have hr' := hr
        obtain ⟨c0, rfl, r0, r1⟩ := sTableEntry_rd hr
        have f0 := hc 0 _ rfl
        have f1 := hc 1 _ rfl
        simp only [Nat.add_zero, show sTableEntry.k = 2 from rfl, Nat.mul_one] at f0 f1
        go_wp2_with fail
        refine (szTableEntry_c _ l[k] _ _ hr' (by omega) (by omega)).mono ?_
        rintro e w1 ⟨rfl, hx1⟩
        have hx2 := hx.trans hx1
        have hbd := remain_bd (left - l.length - ((szL szTableEntry) (l.take k) - k)) (szTableEntry l[k])
        by_cases hq : remain (left - l.length - ((szL szTableEntry) (l.take k) - k)) (szTableEntry l[k]) < 0
        · have hq' := remain_neg hq
          go_wp2
          go_ret
          have hh := HS.out
          exact ⟨ret_int (remain_lt (by omega)).symm, hx2⟩
        · obtain ⟨hq1, hq2⟩ := remain_pos (Int.not_lt.1 hq)
          have HQ := Lib.hid hq2
          rw [hq2] at hq hbd
          clear hq2
          rw [HQ.out]
          go_wp2
          have hh := HS.out
          go_roundw
          case rel => exact ⟨k + 1, by omega, by go_num, by rw [hh]; go_num, by rw [hh]; omega, hx2⟩
          case measure => simp [intOf]; omega
      · have : k = l.length := by omega
        subst this
        rw [List.take_length] at hinv hl1
        go_wp2
        go_ret
        simp only [List.take_length]
        exact ⟨ret_int (by rw [remain_le (by omega)]; omega), hx⟩

set_option maxHeartbeats 400000 in
theorem szCacheEntry_c (cs : List Value) (x : DCacheEntry) (left : Int) (w : World) (h : sCacheEntry.rd w cs x) (h0 : 0 ≤ left) (h1 : left ≤ 1048576) :
    Calls Tryz.prog 189 #[.agg cs.toArray, .int .i64 left] w fun e w' => e = .returned (.int .i64 (remain left (szCacheEntry x))) ∧ Ext w w' := by
  obtain ⟨c0, c1, c2, rfl, r0, r1⟩ := sCacheEntry_rd h
  go_enter Tryz.func189, Tryz.ntmps189
  go_wp2_with fail
  refine (szData_c _ x.data _ _ (sData.ext (by exact (Ext.refl _).alloc _) r0) (by omega) (by omega)).mono ?_
  rintro e w0 ⟨rfl, hx0⟩
  have hX0 : Ext w w0 := Ext.trans (by exact (Ext.refl _).alloc _) hx0
  have hbd0 := remain_bd (left) (szData x.data)
  by_cases hq0 : remain (left) (szData x.data) < 0
  · have hq' := remain_neg hq0
    go_wp2
    go_ret
    exact ⟨ret_int (by rw [remain_lt (by unfold szCacheEntry; omega)]), hX0⟩
  obtain ⟨hp0, hv0⟩ := remain_pos (Int.not_lt.1 hq0)
  rw [hv0] at hq0 hbd0 ⊢
  clear hv0
  go_wp2
  go_ret
  exact ⟨ret_int (by rw [remain_le (by unfold szCacheEntry; omega)]; unfold szCacheEntry; omega), hX0⟩

set_option maxHeartbeats 400000 in
theorem szCacheEntryS_c (v : Value) (l : (List DCacheEntry)) (left : Int) (w : World) (h : sCacheEntryL.rd w [v] l) (h0 : 0 ≤ left) (h1 : left ≤ 1048576) :
    Calls Tryz.prog 158 #[v, .int .i64 left] w fun e w' => e = .returned (.int .i64 (remain left ((szL szCacheEntry) l))) ∧ Ext w w' := by
  obtain ⟨A, c, rfl, hl, hm⟩ := Shape.sl_form h
  unfold maxLen at hm
  have hlen := szL_len szCacheEntry l
  have H := Lib.hid h; clear h
  by_cases hlt : left < l.length
  · have hlt' : left - l.length < 0 := by omega
    go_enter Tryz.func158, Tryz.ntmps158
    go_wp2
    go_ret
    exact ⟨ret_int (remain_lt (by omega)).symm, Ext.refl _⟩
  · have hlt' : decide (left - l.length < 0) = false := by simp; omega
    have hge : (l.length : Int) ≤ left := by omega
    go_enter Tryz.func158, Tryz.ntmps158
    go_wp2
    go_loopw [1, 5] (fun t i wr => ∃ k : Nat, k ≤ l.length ∧ i = .int .i64 k ∧ t = .int .i64 (left - l.length - ((szL szCacheEntry) (l.take k) - k)) ∧ ((szL szCacheEntry) (l.take k) : Int) + l.length - k ≤ left ∧ Ext w wr) (fun _ i _ => l.length - (intOf i).toNat)
    case atStart => exact ⟨0, Nat.zero_le _, rfl, by simp [szL], by simp [szL]; omega, Ext.refl _⟩
    case round =>
      obtain ⟨k, hk, rfl, rfl, hinv, hx⟩ := hrel
      have hl1 := szL_len szCacheEntry (l.take k)
      rw [List.length_take, Nat.min_eq_left hk] at hl1
      by_cases hlt : k < l.length
      · have HS := Lib.hid (szL_take szCacheEntry l k hlt)
        have hl2 := szL_rest szCacheEntry l (k + 1) hlt
        obtain ⟨b, off, es, rfl, hc, hr⟩ := Shape.sl_at (sCacheEntryL.ext hx H.out) hlt
        have hr' := hr
        obtain ⟨c0, c1, c2, rfl, r0, r1⟩ := sCacheEntry_rd hr
        have f0 := hc 0 _ rfl
        have f1 := hc 1 _ rfl
        have f2 := hc 2 _ rfl
        have f3 := hc 3 _ rfl
        have f4 := hc 4 _ rfl
        have f5 := hc 5 _ rfl
        simp only [Nat.add_zero, show sCacheEntry.k = 6 from rfl, Nat.mul_one] at f0 f1 f2 f3 f4 f5
        go_wp2_with fail
        refine (szCacheEntry_c _ l[k] _ _ hr' (by omega) (by omega)).mono ?_
        rintro e w1 ⟨rfl, hx1⟩
        have hx2 := hx.trans hx1
        have hbd := remain_bd (left - l.length - ((szL szCacheEntry) (l.take k) - k)) (szCacheEntry l[k])
        by_cases hq : remain (left - l.length - ((szL szCacheEntry) (l.take k) - k)) (szCacheEntry l[k]) < 0
        · have hq' := remain_neg hq
          go_wp2
          go_ret
          have hh := HS.out
          exact ⟨ret_int (remain_lt (by omega)).symm, hx2⟩
        · obtain ⟨hq1, hq2⟩ := remain_pos (Int.not_lt.1 hq)
          have HQ := Lib.hid hq2
          rw [hq2] at hq hbd
          clear hq2
          rw [HQ.out]
          go_wp2
          have hh := HS.out
          go_roundw
          case rel => exact ⟨k + 1, by omega, by go_num, by rw [hh]; go_num, by rw [hh]; omega, hx2⟩
          case measure => simp [intOf]; omega
      · have : k = l.length := by omega
        subst this
        rw [List.take_length] at hinv hl1
        go_wp2
        go_ret
        simp only [List.take_length]
        exact ⟨ret_int (by rw [remain_le (by omega)]; omega), hx⟩

set_option maxHeartbeats 400000 in
theorem szContentStore_c (cs : List Value) (x : DContentStore) (left : Int) (w : World) (h : sContentStore.rd w cs x) (h0 : 0 ≤ left) (h1 : left ≤ 1048576) :
    Calls Tryz.prog 121 #[.agg cs.toArray, .int .i64 left] w fun e w' => e = .returned (.int .i64 (remain left (szContentStore x))) ∧ Ext w w' := by
  obtain ⟨c1, rfl, r0, r1⟩ := sContentStore_rd h
  go_enter Tryz.func121, Tryz.ntmps121
  go_wp2_with fail
  refine (szCacheEntryS_c _ x.entries _ _ (sCacheEntryL.ext (by exact (Ext.refl _).alloc _) r1) (by omega) (by omega)).mono ?_
  rintro e w0 ⟨rfl, hx0⟩
  have hX0 : Ext w w0 := Ext.trans (by exact (Ext.refl _).alloc _) hx0
  have hbd0 := remain_bd (left) ((szL szCacheEntry) x.entries)
  by_cases hq0 : remain (left) ((szL szCacheEntry) x.entries) < 0
  · have hq' := remain_neg hq0
    go_wp2
    go_ret
    exact ⟨ret_int (by rw [remain_lt (by unfold szContentStore; omega)]), hX0⟩
  obtain ⟨hp0, hv0⟩ := remain_pos (Int.not_lt.1 hq0)
  rw [hv0] at hq0 hbd0 ⊢
  clear hv0
  go_wp2
  go_ret
  exact ⟨ret_int (by rw [remain_le (by unfold szContentStore; omega)]; unfold szContentStore; omega), hX0⟩

set_option maxHeartbeats 400000 in
theorem szRequesterS_c (v : Value) (l : (List DRequester)) (left : Int) (w : World) (h : sRequesterL.rd w [v] l) (h0 : 0 ≤ left) (h1 : left ≤ 1048576) :
    Calls Tryz.prog 190 #[v, .int .i64 left] w fun e w' => e = .returned (.int .i64 (remain left ((szL (fun _ => 0)) l))) ∧ Ext w w' := by
  obtain ⟨A, c, rfl, hl, hm⟩ := Shape.sl_form h
  unfold maxLen at hm
  have hlen := szL_len (fun _ => 0) l
  have H := Lib.hid h; clear h
  by_cases hlt : left < l.length
  · have hlt' : left - l.length < 0 := by omega
    go_enter Tryz.func190, Tryz.ntmps190
    go_wp2
    go_ret
    exact ⟨ret_int (remain_lt (by omega)).symm, Ext.refl _⟩
  · have hlt' : decide (left - l.length < 0) = false := by simp; omega
    have hge : (l.length : Int) ≤ left := by omega
    go_enter Tryz.func190, Tryz.ntmps190
    go_wp2
    go_ret
    exact ⟨ret_int (by rw [szL_zero, remain_le (by omega)]), Ext.refl _⟩
set_option maxHeartbeats 400000 in
theorem szPendingInterest_c (cs : List Value) (x : DPendingInterest) (left : Int) (w : World) (h : sPendingInterest.rd w cs x) (h0 : 0 ≤ left) (h1 : left ≤ 1048576) :
    Calls Tryz.prog 159 #[.agg cs.toArray, .int .i64 left] w fun e w' => e = .returned (.int .i64 (remain left (szPendingInterest x))) ∧ Ext w w' := by
  obtain ⟨c0, c1, rfl, r0, r1, r2⟩ := sPendingInterest_rd h
  go_enter Tryz.func159, Tryz.ntmps159
  go_wp2_with fail
  refine (szName_c _ x.name _ _ (strs.ext (by exact (Ext.refl _).alloc _) r0) (by omega) (by omega)).mono ?_
  rintro e w0 ⟨rfl, hx0⟩
  have hX0 : Ext w w0 := Ext.trans (by exact (Ext.refl _).alloc _) hx0
  have f0 : w0.cell? ⟨w.heap.size, 0, none⟩ = some (c0) := hx0.cell (by simp)
  have f1 : w0.cell? ⟨w.heap.size, 1, none⟩ = some (c1) := hx0.cell (by simp)
  have f2 : w0.cell? ⟨w.heap.size, 2, none⟩ = some (.int .i64 x.lastSent) := hx0.cell (by simp)
  have hbd0 := remain_bd (left) ((szL ByteArray.size) x.name)
  by_cases hq0 : remain (left) ((szL ByteArray.size) x.name) < 0
  · have hq' := remain_neg hq0
    go_wp2
    go_ret
    exact ⟨ret_int (by rw [remain_lt (by unfold szPendingInterest; omega)]), hX0⟩
  obtain ⟨hp0, hv0⟩ := remain_pos (Int.not_lt.1 hq0)
  rw [hv0] at hq0 hbd0 ⊢
  clear hv0
  go_wp2_with fail
  refine (szRequesterS_c _ x.requesters _ _ (sRequesterL.ext (by exact hX0) r1) (by omega) (by omega)).mono ?_
  rintro e w1 ⟨rfl, hx1⟩
  have hX1 : Ext w w1 := Ext.trans (by exact hX0) hx1
  have hbd1 := remain_bd (left - ((szL ByteArray.size) x.name : Nat)) ((szL (fun _ => 0)) x.requesters)
  by_cases hq1 : remain (left - ((szL ByteArray.size) x.name : Nat)) ((szL (fun _ => 0)) x.requesters) < 0
  · have hq' := remain_neg hq1
    go_wp2
    go_ret
    exact ⟨ret_int (by rw [remain_lt (by unfold szPendingInterest; omega)]), hX1⟩
  obtain ⟨hp1, hv1⟩ := remain_pos (Int.not_lt.1 hq1)
  rw [hv1] at hq1 hbd1 ⊢
  clear hv1
  go_wp2
  go_ret
  exact ⟨ret_int (by rw [remain_le (by unfold szPendingInterest; omega)]; unfold szPendingInterest; omega), hX1⟩

set_option maxHeartbeats 400000 in
theorem szPendingInterestS_c (v : Value) (l : (List DPendingInterest)) (left : Int) (w : World) (h : sPendingInterestL.rd w [v] l) (h0 : 0 ≤ left) (h1 : left ≤ 1048576) :
    Calls Tryz.prog 122 #[v, .int .i64 left] w fun e w' => e = .returned (.int .i64 (remain left ((szL szPendingInterest) l))) ∧ Ext w w' := by
  obtain ⟨A, c, rfl, hl, hm⟩ := Shape.sl_form h
  unfold maxLen at hm
  have hlen := szL_len szPendingInterest l
  have H := Lib.hid h; clear h
  by_cases hlt : left < l.length
  · have hlt' : left - l.length < 0 := by omega
    go_enter Tryz.func122, Tryz.ntmps122
    go_wp2
    go_ret
    exact ⟨ret_int (remain_lt (by omega)).symm, Ext.refl _⟩
  · have hlt' : decide (left - l.length < 0) = false := by simp; omega
    have hge : (l.length : Int) ≤ left := by omega
    go_enter Tryz.func122, Tryz.ntmps122
    go_wp2
    go_loopw [1, 5] (fun t i wr => ∃ k : Nat, k ≤ l.length ∧ i = .int .i64 k ∧ t = .int .i64 (left - l.length - ((szL szPendingInterest) (l.take k) - k)) ∧ ((szL szPendingInterest) (l.take k) : Int) + l.length - k ≤ left ∧ Ext w wr) (fun _ i _ => l.length - (intOf i).toNat)
    case atStart => exact ⟨0, Nat.zero_le _, rfl, by simp [szL], by simp [szL]; omega, Ext.refl _⟩
    case round =>
      obtain ⟨k, hk, rfl, rfl, hinv, hx⟩ := hrel
      have hl1 := szL_len szPendingInterest (l.take k)
      rw [List.length_take, Nat.min_eq_left hk] at hl1
      by_cases hlt : k < l.length
      · have HS := Lib.hid (szL_take szPendingInterest l k hlt)
        have hl2 := szL_rest szPendingInterest l (k + 1) hlt
        obtain ⟨b, off, es, rfl, hc, hr⟩ := Shape.sl_at (sPendingInterestL.ext hx H.out) hlt
        have hr' := hr
        obtain ⟨c0, c1, rfl, r0, r1, r2⟩ := sPendingInterest_rd hr
        have f0 := hc 0 _ rfl
        have f1 := hc 1 _ rfl
        have f2 := hc 2 _ rfl
        simp only [Nat.add_zero, show sPendingInterest.k = 3 from rfl, Nat.mul_one] at f0 f1 f2
        go_wp2_with fail
        refine (szPendingInterest_c _ l[k] _ _ hr' (by omega) (by omega)).mono ?_
        rintro e w1 ⟨rfl, hx1⟩
        have hx2 := hx.trans hx1
        have hbd := remain_bd (left - l.length - ((szL szPendingInterest) (l.take k) - k)) (szPendingInterest l[k])
        by_cases hq : remain (left - l.length - ((szL szPendingInterest) (l.take k) - k)) (szPendingInterest l[k]) < 0
        · have hq' := remain_neg hq
          go_wp2
          go_ret
          have hh := HS.out
          exact ⟨ret_int (remain_lt (by omega)).symm, hx2⟩
        · obtain ⟨hq1, hq2⟩ := remain_pos (Int.not_lt.1 hq)
          have HQ := Lib.hid hq2
          rw [hq2] at hq hbd
          clear hq2
          rw [HQ.out]
          go_wp2
          have hh := HS.out
          go_roundw
          case rel => exact ⟨k + 1, by omega, by go_num, by rw [hh]; go_num, by rw [hh]; omega, hx2⟩
          case measure => simp [intOf]; omega
      · have : k = l.length := by omega
        subst this
        rw [List.take_length] at hinv hl1
        go_wp2
        go_ret
        simp only [List.take_length]
        exact ⟨ret_int (by rw [remain_le (by omega)]; omega), hx⟩

set_option maxHeartbeats 400000 in
theorem szSeenNonce_c (cs : List Value) (x : DSeenNonce) (left : Int) (w : World) (h : sSeenNonce.rd w cs x) (h0 : 0 ≤ left) (h1 : left ≤ 1048576) :
    Calls Tryz.prog 160 #[.agg cs.toArray, .int .i64 left] w fun e w' => e = .returned (.int .i64 (remain left (szSeenNonce x))) ∧ Ext w w' := by
  obtain ⟨c0, rfl, r0, r1⟩ := sSeenNonce_rd h
  go_enter Tryz.func160, Tryz.ntmps160
  go_wp2_with fail
  refine (szName_c _ x.name _ _ (strs.ext (by exact (Ext.refl _).alloc _) r0) (by omega) (by omega)).mono ?_
  rintro e w0 ⟨rfl, hx0⟩
  have hX0 : Ext w w0 := Ext.trans (by exact (Ext.refl _).alloc _) hx0
  have hbd0 := remain_bd (left) ((szL ByteArray.size) x.name)
  by_cases hq0 : remain (left) ((szL ByteArray.size) x.name) < 0
  · have hq' := remain_neg hq0
    go_wp2
    go_ret
    exact ⟨ret_int (by rw [remain_lt (by unfold szSeenNonce; omega)]), hX0⟩
  obtain ⟨hp0, hv0⟩ := remain_pos (Int.not_lt.1 hq0)
  rw [hv0] at hq0 hbd0 ⊢
  clear hv0
  go_wp2
  go_ret
  exact ⟨ret_int (by rw [remain_le (by unfold szSeenNonce; omega)]; unfold szSeenNonce; omega), hX0⟩

set_option maxHeartbeats 400000 in
theorem szSeenNonceS_c (v : Value) (l : (List DSeenNonce)) (left : Int) (w : World) (h : sSeenNonceL.rd w [v] l) (h0 : 0 ≤ left) (h1 : left ≤ 1048576) :
    Calls Tryz.prog 123 #[v, .int .i64 left] w fun e w' => e = .returned (.int .i64 (remain left ((szL szSeenNonce) l))) ∧ Ext w w' := by
  obtain ⟨A, c, rfl, hl, hm⟩ := Shape.sl_form h
  unfold maxLen at hm
  have hlen := szL_len szSeenNonce l
  have H := Lib.hid h; clear h
  by_cases hlt : left < l.length
  · have hlt' : left - l.length < 0 := by omega
    go_enter Tryz.func123, Tryz.ntmps123
    go_wp2
    go_ret
    exact ⟨ret_int (remain_lt (by omega)).symm, Ext.refl _⟩
  · have hlt' : decide (left - l.length < 0) = false := by simp; omega
    have hge : (l.length : Int) ≤ left := by omega
    go_enter Tryz.func123, Tryz.ntmps123
    go_wp2
    go_loopw [1, 5] (fun t i wr => ∃ k : Nat, k ≤ l.length ∧ i = .int .i64 k ∧ t = .int .i64 (left - l.length - ((szL szSeenNonce) (l.take k) - k)) ∧ ((szL szSeenNonce) (l.take k) : Int) + l.length - k ≤ left ∧ Ext w wr) (fun _ i _ => l.length - (intOf i).toNat)
    case atStart => exact ⟨0, Nat.zero_le _, rfl, by simp [szL], by simp [szL]; omega, Ext.refl _⟩
    case round =>
      obtain ⟨k, hk, rfl, rfl, hinv, hx⟩ := hrel
      have hl1 := szL_len szSeenNonce (l.take k)
      rw [List.length_take, Nat.min_eq_left hk] at hl1
      by_cases hlt : k < l.length
      · have HS := Lib.hid (szL_take szSeenNonce l k hlt)
        have hl2 := szL_rest szSeenNonce l (k + 1) hlt
        obtain ⟨b, off, es, rfl, hc, hr⟩ := Shape.sl_at (sSeenNonceL.ext hx H.out) hlt
        have hr' := hr
        obtain ⟨c0, rfl, r0, r1⟩ := sSeenNonce_rd hr
        have f0 := hc 0 _ rfl
        have f1 := hc 1 _ rfl
        simp only [Nat.add_zero, show sSeenNonce.k = 2 from rfl, Nat.mul_one] at f0 f1
        go_wp2_with fail
        refine (szSeenNonce_c _ l[k] _ _ hr' (by omega) (by omega)).mono ?_
        rintro e w1 ⟨rfl, hx1⟩
        have hx2 := hx.trans hx1
        have hbd := remain_bd (left - l.length - ((szL szSeenNonce) (l.take k) - k)) (szSeenNonce l[k])
        by_cases hq : remain (left - l.length - ((szL szSeenNonce) (l.take k) - k)) (szSeenNonce l[k]) < 0
        · have hq' := remain_neg hq
          go_wp2
          go_ret
          have hh := HS.out
          exact ⟨ret_int (remain_lt (by omega)).symm, hx2⟩
        · obtain ⟨hq1, hq2⟩ := remain_pos (Int.not_lt.1 hq)
          have HQ := Lib.hid hq2
          rw [hq2] at hq hbd
          clear hq2
          rw [HQ.out]
          go_wp2
          have hh := HS.out
          go_roundw
          case rel => exact ⟨k + 1, by omega, by go_num, by rw [hh]; go_num, by rw [hh]; omega, hx2⟩
          case measure => simp [intOf]; omega
      · have : k = l.length := by omega
        subst this
        rw [List.take_length] at hinv hl1
        go_wp2
        go_ret
        simp only [List.take_length]
        exact ⟨ret_int (by rw [remain_le (by omega)]; omega), hx⟩

set_option maxHeartbeats 400000 in
theorem szRoute_c (cs : List Value) (x : DRoute) (left : Int) (w : World) (h : sRoute.rd w cs x) (h0 : 0 ≤ left) (h1 : left ≤ 1048576) :
    Calls Tryz.prog 161 #[.agg cs.toArray, .int .i64 left] w fun e w' => e = .returned (.int .i64 (remain left (szRoute x))) ∧ Ext w w' := by
  obtain ⟨c0, rfl, r0, r1, r2⟩ := sRoute_rd h
  go_enter Tryz.func161, Tryz.ntmps161
  go_wp2_with fail
  refine (szName_c _ x.pfx _ _ (strs.ext (by exact (Ext.refl _).alloc _) r0) (by omega) (by omega)).mono ?_
  rintro e w0 ⟨rfl, hx0⟩
  have hX0 : Ext w w0 := Ext.trans (by exact (Ext.refl _).alloc _) hx0
  have hbd0 := remain_bd (left) ((szL ByteArray.size) x.pfx)
  by_cases hq0 : remain (left) ((szL ByteArray.size) x.pfx) < 0
  · have hq' := remain_neg hq0
    go_wp2
    go_ret
    exact ⟨ret_int (by rw [remain_lt (by unfold szRoute; omega)]), hX0⟩
  obtain ⟨hp0, hv0⟩ := remain_pos (Int.not_lt.1 hq0)
  rw [hv0] at hq0 hbd0 ⊢
  clear hv0
  go_wp2
  go_ret
  exact ⟨ret_int (by rw [remain_le (by unfold szRoute; omega)]; unfold szRoute; omega), hX0⟩

set_option maxHeartbeats 400000 in
theorem szRouteS_c (v : Value) (l : (List DRoute)) (left : Int) (w : World) (h : sRouteL.rd w [v] l) (h0 : 0 ≤ left) (h1 : left ≤ 1048576) :
    Calls Tryz.prog 124 #[v, .int .i64 left] w fun e w' => e = .returned (.int .i64 (remain left ((szL szRoute) l))) ∧ Ext w w' := by
  obtain ⟨A, c, rfl, hl, hm⟩ := Shape.sl_form h
  unfold maxLen at hm
  have hlen := szL_len szRoute l
  have H := Lib.hid h; clear h
  by_cases hlt : left < l.length
  · have hlt' : left - l.length < 0 := by omega
    go_enter Tryz.func124, Tryz.ntmps124
    go_wp2
    go_ret
    exact ⟨ret_int (remain_lt (by omega)).symm, Ext.refl _⟩
  · have hlt' : decide (left - l.length < 0) = false := by simp; omega
    have hge : (l.length : Int) ≤ left := by omega
    go_enter Tryz.func124, Tryz.ntmps124
    go_wp2
    go_loopw [1, 5] (fun t i wr => ∃ k : Nat, k ≤ l.length ∧ i = .int .i64 k ∧ t = .int .i64 (left - l.length - ((szL szRoute) (l.take k) - k)) ∧ ((szL szRoute) (l.take k) : Int) + l.length - k ≤ left ∧ Ext w wr) (fun _ i _ => l.length - (intOf i).toNat)
    case atStart => exact ⟨0, Nat.zero_le _, rfl, by simp [szL], by simp [szL]; omega, Ext.refl _⟩
    case round =>
      obtain ⟨k, hk, rfl, rfl, hinv, hx⟩ := hrel
      have hl1 := szL_len szRoute (l.take k)
      rw [List.length_take, Nat.min_eq_left hk] at hl1
      by_cases hlt : k < l.length
      · have HS := Lib.hid (szL_take szRoute l k hlt)
        have hl2 := szL_rest szRoute l (k + 1) hlt
        obtain ⟨b, off, es, rfl, hc, hr⟩ := Shape.sl_at (sRouteL.ext hx H.out) hlt
        have hr' := hr
        obtain ⟨c0, rfl, r0, r1, r2⟩ := sRoute_rd hr
        have f0 := hc 0 _ rfl
        have f1 := hc 1 _ rfl
        have f2 := hc 2 _ rfl
        simp only [Nat.add_zero, show sRoute.k = 3 from rfl, Nat.mul_one] at f0 f1 f2
        go_wp2_with fail
        refine (szRoute_c _ l[k] _ _ hr' (by omega) (by omega)).mono ?_
        rintro e w1 ⟨rfl, hx1⟩
        have hx2 := hx.trans hx1
        have hbd := remain_bd (left - l.length - ((szL szRoute) (l.take k) - k)) (szRoute l[k])
        by_cases hq : remain (left - l.length - ((szL szRoute) (l.take k) - k)) (szRoute l[k]) < 0
        · have hq' := remain_neg hq
          go_wp2
          go_ret
          have hh := HS.out
          exact ⟨ret_int (remain_lt (by omega)).symm, hx2⟩
        · obtain ⟨hq1, hq2⟩ := remain_pos (Int.not_lt.1 hq)
          have HQ := Lib.hid hq2
          rw [hq2] at hq hbd
          clear hq2
          rw [HQ.out]
          go_wp2
          have hh := HS.out
          go_roundw
          case rel => exact ⟨k + 1, by omega, by go_num, by rw [hh]; go_num, by rw [hh]; omega, hx2⟩
          case measure => simp [intOf]; omega
      · have : k = l.length := by omega
        subst this
        rw [List.take_length] at hinv hl1
        go_wp2
        go_ret
        simp only [List.take_length]
        exact ⟨ret_int (by rw [remain_le (by omega)]; omega), hx⟩

set_option maxHeartbeats 400000 in
theorem szMeasurement_c (cs : List Value) (x : DMeasurement) (left : Int) (w : World) (h : sMeasurement.rd w cs x) (h0 : 0 ≤ left) (h1 : left ≤ 1048576) :
    Calls Tryz.prog 162 #[.agg cs.toArray, .int .i64 left] w fun e w' => e = .returned (.int .i64 (remain left (szMeasurement x))) ∧ Ext w w' := by
  obtain ⟨c0, rfl, r0, r1, r2⟩ := sMeasurement_rd h
  go_enter Tryz.func162, Tryz.ntmps162
  go_wp2_with fail
  refine (szName_c _ x.pfx _ _ (strs.ext (by exact (Ext.refl _).alloc _) r0) (by omega) (by omega)).mono ?_
  rintro e w0 ⟨rfl, hx0⟩
  have hX0 : Ext w w0 := Ext.trans (by exact (Ext.refl _).alloc _) hx0
  have hbd0 := remain_bd (left) ((szL ByteArray.size) x.pfx)
  by_cases hq0 : remain (left) ((szL ByteArray.size) x.pfx) < 0
  · have hq' := remain_neg hq0
    go_wp2
    go_ret
    exact ⟨ret_int (by rw [remain_lt (by unfold szMeasurement; omega)]), hX0⟩
  obtain ⟨hp0, hv0⟩ := remain_pos (Int.not_lt.1 hq0)
  rw [hv0] at hq0 hbd0 ⊢
  clear hv0
  go_wp2
  go_ret
  exact ⟨ret_int (by rw [remain_le (by unfold szMeasurement; omega)]; unfold szMeasurement; omega), hX0⟩

set_option maxHeartbeats 400000 in
theorem szMeasurementS_c (v : Value) (l : (List DMeasurement)) (left : Int) (w : World) (h : sMeasurementL.rd w [v] l) (h0 : 0 ≤ left) (h1 : left ≤ 1048576) :
    Calls Tryz.prog 125 #[v, .int .i64 left] w fun e w' => e = .returned (.int .i64 (remain left ((szL szMeasurement) l))) ∧ Ext w w' := by
  obtain ⟨A, c, rfl, hl, hm⟩ := Shape.sl_form h
  unfold maxLen at hm
  have hlen := szL_len szMeasurement l
  have H := Lib.hid h; clear h
  by_cases hlt : left < l.length
  · have hlt' : left - l.length < 0 := by omega
    go_enter Tryz.func125, Tryz.ntmps125
    go_wp2
    go_ret
    exact ⟨ret_int (remain_lt (by omega)).symm, Ext.refl _⟩
  · have hlt' : decide (left - l.length < 0) = false := by simp; omega
    have hge : (l.length : Int) ≤ left := by omega
    go_enter Tryz.func125, Tryz.ntmps125
    go_wp2
    go_loopw [1, 5] (fun t i wr => ∃ k : Nat, k ≤ l.length ∧ i = .int .i64 k ∧ t = .int .i64 (left - l.length - ((szL szMeasurement) (l.take k) - k)) ∧ ((szL szMeasurement) (l.take k) : Int) + l.length - k ≤ left ∧ Ext w wr) (fun _ i _ => l.length - (intOf i).toNat)
    case atStart => exact ⟨0, Nat.zero_le _, rfl, by simp [szL], by simp [szL]; omega, Ext.refl _⟩
    case round =>
      obtain ⟨k, hk, rfl, rfl, hinv, hx⟩ := hrel
      have hl1 := szL_len szMeasurement (l.take k)
      rw [List.length_take, Nat.min_eq_left hk] at hl1
      by_cases hlt : k < l.length
      · have HS := Lib.hid (szL_take szMeasurement l k hlt)
        have hl2 := szL_rest szMeasurement l (k + 1) hlt
        obtain ⟨b, off, es, rfl, hc, hr⟩ := Shape.sl_at (sMeasurementL.ext hx H.out) hlt
        have hr' := hr
        obtain ⟨c0, rfl, r0, r1, r2⟩ := sMeasurement_rd hr
        have f0 := hc 0 _ rfl
        have f1 := hc 1 _ rfl
        have f2 := hc 2 _ rfl
        simp only [Nat.add_zero, show sMeasurement.k = 3 from rfl, Nat.mul_one] at f0 f1 f2
        go_wp2_with fail
        refine (szMeasurement_c _ l[k] _ _ hr' (by omega) (by omega)).mono ?_
        rintro e w1 ⟨rfl, hx1⟩
        have hx2 := hx.trans hx1
        have hbd := remain_bd (left - l.length - ((szL szMeasurement) (l.take k) - k)) (szMeasurement l[k])
        by_cases hq : remain (left - l.length - ((szL szMeasurement) (l.take k) - k)) (szMeasurement l[k]) < 0
        · have hq' := remain_neg hq
          go_wp2
          go_ret
          have hh := HS.out
          exact ⟨ret_int (remain_lt (by omega)).symm, hx2⟩
        · obtain ⟨hq1, hq2⟩ := remain_pos (Int.not_lt.1 hq)
          have HQ := Lib.hid hq2
          rw [hq2] at hq hbd
          clear hq2
          rw [HQ.out]
          go_wp2
          have hh := HS.out
          go_roundw
          case rel => exact ⟨k + 1, by omega, by go_num, by rw [hh]; go_num, by rw [hh]; omega, hx2⟩
          case measure => simp [intOf]; omega
      · have : k = l.length := by omega
        subst this
        rw [List.take_length] at hinv hl1
        go_wp2
        go_ret
        simp only [List.take_length]
        exact ⟨ret_int (by rw [remain_le (by omega)]; omega), hx⟩

set_option maxHeartbeats 400000 in
theorem szNode_c (cs : List Value) (x : DNode) (left : Int) (w : World) (h : sNode.rd w cs x) (h0 : 0 ≤ left) (h1 : left ≤ 1048576) :
    Calls Tryz.prog 76 #[.agg cs.toArray, .int .i64 left] w fun e w' => e = .returned (.int .i64 (remain left (szNode x))) ∧ Ext w w' := by
  obtain ⟨c0, c2, c3, c4, c5, c6, rfl, r0, r1, r2, r3, r4, r5, r6⟩ := sNode_rd h
  go_enter Tryz.func76, Tryz.ntmps76
  go_wp2_with fail
  refine (szDataS_c _ x.locals _ _ (sDataL.ext (by exact (Ext.refl _).alloc _) r0) (by omega) (by omega)).mono ?_
  rintro e w0 ⟨rfl, hx0⟩
  have hX0 : Ext w w0 := Ext.trans (by exact (Ext.refl _).alloc _) hx0
  have f0 : w0.cell? ⟨w.heap.size, 0, none⟩ = some (c0) := hx0.cell (by simp)
  have f1 : w0.cell? ⟨w.heap.size, 1, none⟩ = some (.int .i64 x.cache.capacity) := hx0.cell (by simp)
  have f2 : w0.cell? ⟨w.heap.size, 2, none⟩ = some (c2) := hx0.cell (by simp)
  have f3 : w0.cell? ⟨w.heap.size, 3, none⟩ = some (c3) := hx0.cell (by simp)
  have f4 : w0.cell? ⟨w.heap.size, 4, none⟩ = some (c4) := hx0.cell (by simp)
  have f5 : w0.cell? ⟨w.heap.size, 5, none⟩ = some (c5) := hx0.cell (by simp)
  have f6 : w0.cell? ⟨w.heap.size, 6, none⟩ = some (c6) := hx0.cell (by simp)
  have f7 : w0.cell? ⟨w.heap.size, 7, none⟩ = some (.int .i64 x.dropped) := hx0.cell (by simp)
  have hbd0 := remain_bd (left) ((szL szData) x.locals)
  by_cases hq0 : remain (left) ((szL szData) x.locals) < 0
  · have hq' := remain_neg hq0
    go_wp2
    go_ret
    exact ⟨ret_int (by rw [remain_lt (by unfold szNode; omega)]), hX0⟩
  obtain ⟨hp0, hv0⟩ := remain_pos (Int.not_lt.1 hq0)
  rw [hv0] at hq0 hbd0 ⊢
  clear hv0
  go_wp2_with fail
  refine (szContentStore_c _ x.cache _ _ (sContentStore.ext (by exact hX0) r1) (by omega) (by omega)).mono ?_
  rintro e w1 ⟨rfl, hx1⟩
  have hX1 : Ext w w1 := Ext.trans (by exact hX0) hx1
  have f0 : w1.cell? ⟨w.heap.size, 0, none⟩ = some (c0) := hx1.cell f0
  have f1 : w1.cell? ⟨w.heap.size, 1, none⟩ = some (.int .i64 x.cache.capacity) := hx1.cell f1
  have f2 : w1.cell? ⟨w.heap.size, 2, none⟩ = some (c2) := hx1.cell f2
  have f3 : w1.cell? ⟨w.heap.size, 3, none⟩ = some (c3) := hx1.cell f3
  have f4 : w1.cell? ⟨w.heap.size, 4, none⟩ = some (c4) := hx1.cell f4
  have f5 : w1.cell? ⟨w.heap.size, 5, none⟩ = some (c5) := hx1.cell f5
  have f6 : w1.cell? ⟨w.heap.size, 6, none⟩ = some (c6) := hx1.cell f6
  have f7 : w1.cell? ⟨w.heap.size, 7, none⟩ = some (.int .i64 x.dropped) := hx1.cell f7
  have hbd1 := remain_bd (left - ((szL szData) x.locals : Nat)) (szContentStore x.cache)
  by_cases hq1 : remain (left - ((szL szData) x.locals : Nat)) (szContentStore x.cache) < 0
  · have hq' := remain_neg hq1
    go_wp2
    go_ret
    exact ⟨ret_int (by rw [remain_lt (by unfold szNode; omega)]), hX1⟩
  obtain ⟨hp1, hv1⟩ := remain_pos (Int.not_lt.1 hq1)
  rw [hv1] at hq1 hbd1 ⊢
  clear hv1
  go_wp2_with fail
  refine (szPendingInterestS_c _ x.pending _ _ (sPendingInterestL.ext (by exact hX1) r2) (by omega) (by omega)).mono ?_
  rintro e w2 ⟨rfl, hx2⟩
  have hX2 : Ext w w2 := Ext.trans (by exact hX1) hx2
  have f0 : w2.cell? ⟨w.heap.size, 0, none⟩ = some (c0) := hx2.cell f0
  have f1 : w2.cell? ⟨w.heap.size, 1, none⟩ = some (.int .i64 x.cache.capacity) := hx2.cell f1
  have f2 : w2.cell? ⟨w.heap.size, 2, none⟩ = some (c2) := hx2.cell f2
  have f3 : w2.cell? ⟨w.heap.size, 3, none⟩ = some (c3) := hx2.cell f3
  have f4 : w2.cell? ⟨w.heap.size, 4, none⟩ = some (c4) := hx2.cell f4
  have f5 : w2.cell? ⟨w.heap.size, 5, none⟩ = some (c5) := hx2.cell f5
  have f6 : w2.cell? ⟨w.heap.size, 6, none⟩ = some (c6) := hx2.cell f6
  have f7 : w2.cell? ⟨w.heap.size, 7, none⟩ = some (.int .i64 x.dropped) := hx2.cell f7
  have hbd2 := remain_bd (left - ((szL szData) x.locals : Nat) - (szContentStore x.cache : Nat)) ((szL szPendingInterest) x.pending)
  by_cases hq2 : remain (left - ((szL szData) x.locals : Nat) - (szContentStore x.cache : Nat)) ((szL szPendingInterest) x.pending) < 0
  · have hq' := remain_neg hq2
    go_wp2
    go_ret
    exact ⟨ret_int (by rw [remain_lt (by unfold szNode; omega)]), hX2⟩
  obtain ⟨hp2, hv2⟩ := remain_pos (Int.not_lt.1 hq2)
  rw [hv2] at hq2 hbd2 ⊢
  clear hv2
  go_wp2_with fail
  refine (szSeenNonceS_c _ x.seen _ _ (sSeenNonceL.ext (by exact hX2) r3) (by omega) (by omega)).mono ?_
  rintro e w3 ⟨rfl, hx3⟩
  have hX3 : Ext w w3 := Ext.trans (by exact hX2) hx3
  have f0 : w3.cell? ⟨w.heap.size, 0, none⟩ = some (c0) := hx3.cell f0
  have f1 : w3.cell? ⟨w.heap.size, 1, none⟩ = some (.int .i64 x.cache.capacity) := hx3.cell f1
  have f2 : w3.cell? ⟨w.heap.size, 2, none⟩ = some (c2) := hx3.cell f2
  have f3 : w3.cell? ⟨w.heap.size, 3, none⟩ = some (c3) := hx3.cell f3
  have f4 : w3.cell? ⟨w.heap.size, 4, none⟩ = some (c4) := hx3.cell f4
  have f5 : w3.cell? ⟨w.heap.size, 5, none⟩ = some (c5) := hx3.cell f5
  have f6 : w3.cell? ⟨w.heap.size, 6, none⟩ = some (c6) := hx3.cell f6
  have f7 : w3.cell? ⟨w.heap.size, 7, none⟩ = some (.int .i64 x.dropped) := hx3.cell f7
  have hbd3 := remain_bd (left - ((szL szData) x.locals : Nat) - (szContentStore x.cache : Nat) - ((szL szPendingInterest) x.pending : Nat)) ((szL szSeenNonce) x.seen)
  by_cases hq3 : remain (left - ((szL szData) x.locals : Nat) - (szContentStore x.cache : Nat) - ((szL szPendingInterest) x.pending : Nat)) ((szL szSeenNonce) x.seen) < 0
  · have hq' := remain_neg hq3
    go_wp2
    go_ret
    exact ⟨ret_int (by rw [remain_lt (by unfold szNode; omega)]), hX3⟩
  obtain ⟨hp3, hv3⟩ := remain_pos (Int.not_lt.1 hq3)
  rw [hv3] at hq3 hbd3 ⊢
  clear hv3
  go_wp2_with fail
  refine (szRouteS_c _ x.routes _ _ (sRouteL.ext (by exact hX3) r4) (by omega) (by omega)).mono ?_
  rintro e w4 ⟨rfl, hx4⟩
  have hX4 : Ext w w4 := Ext.trans (by exact hX3) hx4
  have f0 : w4.cell? ⟨w.heap.size, 0, none⟩ = some (c0) := hx4.cell f0
  have f1 : w4.cell? ⟨w.heap.size, 1, none⟩ = some (.int .i64 x.cache.capacity) := hx4.cell f1
  have f2 : w4.cell? ⟨w.heap.size, 2, none⟩ = some (c2) := hx4.cell f2
  have f3 : w4.cell? ⟨w.heap.size, 3, none⟩ = some (c3) := hx4.cell f3
  have f4 : w4.cell? ⟨w.heap.size, 4, none⟩ = some (c4) := hx4.cell f4
  have f5 : w4.cell? ⟨w.heap.size, 5, none⟩ = some (c5) := hx4.cell f5
  have f6 : w4.cell? ⟨w.heap.size, 6, none⟩ = some (c6) := hx4.cell f6
  have f7 : w4.cell? ⟨w.heap.size, 7, none⟩ = some (.int .i64 x.dropped) := hx4.cell f7
  have hbd4 := remain_bd (left - ((szL szData) x.locals : Nat) - (szContentStore x.cache : Nat) - ((szL szPendingInterest) x.pending : Nat) - ((szL szSeenNonce) x.seen : Nat)) ((szL szRoute) x.routes)
  by_cases hq4 : remain (left - ((szL szData) x.locals : Nat) - (szContentStore x.cache : Nat) - ((szL szPendingInterest) x.pending : Nat) - ((szL szSeenNonce) x.seen : Nat)) ((szL szRoute) x.routes) < 0
  · have hq' := remain_neg hq4
    go_wp2
    go_ret
    exact ⟨ret_int (by rw [remain_lt (by unfold szNode; omega)]), hX4⟩
  obtain ⟨hp4, hv4⟩ := remain_pos (Int.not_lt.1 hq4)
  rw [hv4] at hq4 hbd4 ⊢
  clear hv4
  go_wp2_with fail
  refine (szMeasurementS_c _ x.measurements _ _ (sMeasurementL.ext (by exact hX4) r5) (by omega) (by omega)).mono ?_
  rintro e w5 ⟨rfl, hx5⟩
  have hX5 : Ext w w5 := Ext.trans (by exact hX4) hx5
  have hbd5 := remain_bd (left - ((szL szData) x.locals : Nat) - (szContentStore x.cache : Nat) - ((szL szPendingInterest) x.pending : Nat) - ((szL szSeenNonce) x.seen : Nat) - ((szL szRoute) x.routes : Nat)) ((szL szMeasurement) x.measurements)
  by_cases hq5 : remain (left - ((szL szData) x.locals : Nat) - (szContentStore x.cache : Nat) - ((szL szPendingInterest) x.pending : Nat) - ((szL szSeenNonce) x.seen : Nat) - ((szL szRoute) x.routes : Nat)) ((szL szMeasurement) x.measurements) < 0
  · have hq' := remain_neg hq5
    go_wp2
    go_ret
    exact ⟨ret_int (by rw [remain_lt (by unfold szNode; omega)]), hX5⟩
  obtain ⟨hp5, hv5⟩ := remain_pos (Int.not_lt.1 hq5)
  rw [hv5] at hq5 hbd5 ⊢
  clear hv5
  go_wp2
  go_ret
  exact ⟨ret_int (by rw [remain_le (by unfold szNode; omega)]; unfold szNode; omega), hX5⟩

set_option maxHeartbeats 400000 in
theorem szNodeS_c (v : Value) (l : (List DNode)) (left : Int) (w : World) (h : sNodeL.rd w [v] l) (h0 : 0 ≤ left) (h1 : left ≤ 1048576) :
    Calls Tryz.prog 31 #[v, .int .i64 left] w fun e w' => e = .returned (.int .i64 (remain left ((szL szNode) l))) ∧ Ext w w' := by
  obtain ⟨A, c, rfl, hl, hm⟩ := Shape.sl_form h
  unfold maxLen at hm
  have hlen := szL_len szNode l
  have H := Lib.hid h; clear h
  by_cases hlt : left < l.length
  · have hlt' : left - l.length < 0 := by omega
    go_enter Tryz.func31, Tryz.ntmps31
    go_wp2
    go_ret
    exact ⟨ret_int (remain_lt (by omega)).symm, Ext.refl _⟩
  · have hlt' : decide (left - l.length < 0) = false := by simp; omega
    have hge : (l.length : Int) ≤ left := by omega
    go_enter Tryz.func31, Tryz.ntmps31
    go_wp2
    go_loopw [1, 5] (fun t i wr => ∃ k : Nat, k ≤ l.length ∧ i = .int .i64 k ∧ t = .int .i64 (left - l.length - ((szL szNode) (l.take k) - k)) ∧ ((szL szNode) (l.take k) : Int) + l.length - k ≤ left ∧ Ext w wr) (fun _ i _ => l.length - (intOf i).toNat)
    case atStart => exact ⟨0, Nat.zero_le _, rfl, by simp [szL], by simp [szL]; omega, Ext.refl _⟩
    case round =>
      obtain ⟨k, hk, rfl, rfl, hinv, hx⟩ := hrel
      have hl1 := szL_len szNode (l.take k)
      rw [List.length_take, Nat.min_eq_left hk] at hl1
      by_cases hlt : k < l.length
      · have HS := Lib.hid (szL_take szNode l k hlt)
        have hl2 := szL_rest szNode l (k + 1) hlt
        obtain ⟨b, off, es, rfl, hc, hr⟩ := Shape.sl_at (sNodeL.ext hx H.out) hlt
        have hr' := hr
        obtain ⟨c0, c2, c3, c4, c5, c6, rfl, r0, r1, r2, r3, r4, r5, r6⟩ := sNode_rd hr
        have f0 := hc 0 _ rfl
        have f1 := hc 1 _ rfl
        have f2 := hc 2 _ rfl
        have f3 := hc 3 _ rfl
        have f4 := hc 4 _ rfl
        have f5 := hc 5 _ rfl
        have f6 := hc 6 _ rfl
        have f7 := hc 7 _ rfl
        simp only [Nat.add_zero, show sNode.k = 8 from rfl, Nat.mul_one] at f0 f1 f2 f3 f4 f5 f6 f7
        go_wp2_with fail
        refine (szNode_c _ l[k] _ _ hr' (by omega) (by omega)).mono ?_
        rintro e w1 ⟨rfl, hx1⟩
        have hx2 := hx.trans hx1
        have hbd := remain_bd (left - l.length - ((szL szNode) (l.take k) - k)) (szNode l[k])
        by_cases hq : remain (left - l.length - ((szL szNode) (l.take k) - k)) (szNode l[k]) < 0
        · have hq' := remain_neg hq
          go_wp2
          go_ret
          have hh := HS.out
          exact ⟨ret_int (remain_lt (by omega)).symm, hx2⟩
        · obtain ⟨hq1, hq2⟩ := remain_pos (Int.not_lt.1 hq)
          have HQ := Lib.hid hq2
          rw [hq2] at hq hbd
          clear hq2
          rw [HQ.out]
          go_wp2
          have hh := HS.out
          go_roundw
          case rel => exact ⟨k + 1, by omega, by go_num, by rw [hh]; go_num, by rw [hh]; omega, hx2⟩
          case measure => simp [intOf]; omega
      · have : k = l.length := by omega
        subst this
        rw [List.take_length] at hinv hl1
        go_wp2
        go_ret
        simp only [List.take_length]
        exact ⟨ret_int (by rw [remain_le (by omega)]; omega), hx⟩

set_option maxHeartbeats 400000 in
theorem szIntS_c (v : Value) (l : (List Int)) (left : Int) (w : World) (h : sInts.rd w [v] l) (h0 : 0 ≤ left) (h1 : left ≤ 1048576) :
    Calls Tryz.prog 32 #[v, .int .i64 left] w fun e w' => e = .returned (.int .i64 (remain left ((szL (fun _ => 0)) l))) ∧ Ext w w' := by
  obtain ⟨A, c, rfl, hl, hm⟩ := Shape.sl_form h
  unfold maxLen at hm
  have hlen := szL_len (fun _ => 0) l
  have H := Lib.hid h; clear h
  by_cases hlt : left < l.length
  · have hlt' : left - l.length < 0 := by omega
    go_enter Tryz.func32, Tryz.ntmps32
    go_wp2
    go_ret
    exact ⟨ret_int (remain_lt (by omega)).symm, Ext.refl _⟩
  · have hlt' : decide (left - l.length < 0) = false := by simp; omega
    have hge : (l.length : Int) ≤ left := by omega
    go_enter Tryz.func32, Tryz.ntmps32
    go_wp2
    go_ret
    exact ⟨ret_int (by rw [szL_zero, remain_le (by omega)]), Ext.refl _⟩
set_option maxHeartbeats 400000 in
theorem szInterest_c (cs : List Value) (x : DInterest) (left : Int) (w : World) (h : sInterest.rd w cs x) (h0 : 0 ≤ left) (h1 : left ≤ 1048576) :
    Calls Tryz.prog 126 #[.agg cs.toArray, .int .i64 left] w fun e w' => e = .returned (.int .i64 (remain left (szInterest x))) ∧ Ext w w' := by
  obtain ⟨c0, rfl, r0, r1, r2, r3⟩ := sInterest_rd h
  go_enter Tryz.func126, Tryz.ntmps126
  go_wp2_with fail
  refine (szName_c _ x.name _ _ (strs.ext (by exact (Ext.refl _).alloc _) r0) (by omega) (by omega)).mono ?_
  rintro e w0 ⟨rfl, hx0⟩
  have hX0 : Ext w w0 := Ext.trans (by exact (Ext.refl _).alloc _) hx0
  have hbd0 := remain_bd (left) ((szL ByteArray.size) x.name)
  by_cases hq0 : remain (left) ((szL ByteArray.size) x.name) < 0
  · have hq' := remain_neg hq0
    go_wp2
    go_ret
    exact ⟨ret_int (by rw [remain_lt (by unfold szInterest; omega)]), hX0⟩
  obtain ⟨hp0, hv0⟩ := remain_pos (Int.not_lt.1 hq0)
  rw [hv0] at hq0 hbd0 ⊢
  clear hv0
  go_wp2
  go_ret
  exact ⟨ret_int (by rw [remain_le (by unfold szInterest; omega)]; unfold szInterest; omega), hX0⟩

set_option maxHeartbeats 400000 in
theorem szPacketInFlight_c (cs : List Value) (x : DPacketInFlight) (left : Int) (w : World) (h : sPacketInFlight.rd w cs x) (h0 : 0 ≤ left) (h1 : left ≤ 1048576) :
    Calls Tryz.prog 77 #[.agg cs.toArray, .int .i64 left] w fun e w' => e = .returned (.int .i64 (remain left (szPacketInFlight x))) ∧ Ext w w' := by
  obtain ⟨c3, c7, c8, c9, rfl, r0, r1, r3, r4⟩ := sPacketInFlight_rd h
  go_enter Tryz.func77, Tryz.ntmps77
  go_wp2_with fail
  refine (szInterest_c _ x.interest _ _ (sInterest.ext (by exact (Ext.refl _).alloc _) r3) (by omega) (by omega)).mono ?_
  rintro e w0 ⟨rfl, hx0⟩
  have hX0 : Ext w w0 := Ext.trans (by exact (Ext.refl _).alloc _) hx0
  have f0 : w0.cell? ⟨w.heap.size, 0, none⟩ = some (.int .i64 x.dest) := hx0.cell (by simp)
  have f1 : w0.cell? ⟨w.heap.size, 1, none⟩ = some (.int .i64 x.face) := hx0.cell (by simp)
  have f2 : w0.cell? ⟨w.heap.size, 2, none⟩ = some (.bool x.isInterest) := hx0.cell (by simp)
  have f3 : w0.cell? ⟨w.heap.size, 3, none⟩ = some (c3) := hx0.cell (by simp)
  have f4 : w0.cell? ⟨w.heap.size, 4, none⟩ = some (.int .i64 x.interest.nonce) := hx0.cell (by simp)
  have f5 : w0.cell? ⟨w.heap.size, 5, none⟩ = some (.int .i64 x.interest.hopLimit) := hx0.cell (by simp)
  have f6 : w0.cell? ⟨w.heap.size, 6, none⟩ = some (.int .i64 x.interest.lifetime) := hx0.cell (by simp)
  have f7 : w0.cell? ⟨w.heap.size, 7, none⟩ = some (c7) := hx0.cell (by simp)
  have f8 : w0.cell? ⟨w.heap.size, 8, none⟩ = some (c8) := hx0.cell (by simp)
  have f9 : w0.cell? ⟨w.heap.size, 9, none⟩ = some (c9) := hx0.cell (by simp)
  have f10 : w0.cell? ⟨w.heap.size, 10, none⟩ = some (.int .i64 x.data.freshUntil) := hx0.cell (by simp)
  have f11 : w0.cell? ⟨w.heap.size, 11, none⟩ = some (.int .i64 x.data.signature) := hx0.cell (by simp)
  have hbd0 := remain_bd (left) (szInterest x.interest)
  by_cases hq0 : remain (left) (szInterest x.interest) < 0
  · have hq' := remain_neg hq0
    go_wp2
    go_ret
    exact ⟨ret_int (by rw [remain_lt (by unfold szPacketInFlight; omega)]), hX0⟩
  obtain ⟨hp0, hv0⟩ := remain_pos (Int.not_lt.1 hq0)
  rw [hv0] at hq0 hbd0 ⊢
  clear hv0
  go_wp2_with fail
  refine (szData_c _ x.data _ _ (sData.ext (by exact hX0) r4) (by omega) (by omega)).mono ?_
  rintro e w1 ⟨rfl, hx1⟩
  have hX1 : Ext w w1 := Ext.trans (by exact hX0) hx1
  have hbd1 := remain_bd (left - (szInterest x.interest : Nat)) (szData x.data)
  by_cases hq1 : remain (left - (szInterest x.interest : Nat)) (szData x.data) < 0
  · have hq' := remain_neg hq1
    go_wp2
    go_ret
    exact ⟨ret_int (by rw [remain_lt (by unfold szPacketInFlight; omega)]), hX1⟩
  obtain ⟨hp1, hv1⟩ := remain_pos (Int.not_lt.1 hq1)
  rw [hv1] at hq1 hbd1 ⊢
  clear hv1
  go_wp2
  go_ret
  exact ⟨ret_int (by rw [remain_le (by unfold szPacketInFlight; omega)]; unfold szPacketInFlight; omega), hX1⟩

set_option maxHeartbeats 400000 in
theorem szPacketInFlightS_c (v : Value) (l : (List DPacketInFlight)) (left : Int) (w : World) (h : sPacketInFlightL.rd w [v] l) (h0 : 0 ≤ left) (h1 : left ≤ 1048576) :
    Calls Tryz.prog 33 #[v, .int .i64 left] w fun e w' => e = .returned (.int .i64 (remain left ((szL szPacketInFlight) l))) ∧ Ext w w' := by
  obtain ⟨A, c, rfl, hl, hm⟩ := Shape.sl_form h
  unfold maxLen at hm
  have hlen := szL_len szPacketInFlight l
  have H := Lib.hid h; clear h
  by_cases hlt : left < l.length
  · have hlt' : left - l.length < 0 := by omega
    go_enter Tryz.func33, Tryz.ntmps33
    go_wp2
    go_ret
    exact ⟨ret_int (remain_lt (by omega)).symm, Ext.refl _⟩
  · have hlt' : decide (left - l.length < 0) = false := by simp; omega
    have hge : (l.length : Int) ≤ left := by omega
    go_enter Tryz.func33, Tryz.ntmps33
    go_wp2
    go_loopw [1, 5] (fun t i wr => ∃ k : Nat, k ≤ l.length ∧ i = .int .i64 k ∧ t = .int .i64 (left - l.length - ((szL szPacketInFlight) (l.take k) - k)) ∧ ((szL szPacketInFlight) (l.take k) : Int) + l.length - k ≤ left ∧ Ext w wr) (fun _ i _ => l.length - (intOf i).toNat)
    case atStart => exact ⟨0, Nat.zero_le _, rfl, by simp [szL], by simp [szL]; omega, Ext.refl _⟩
    case round =>
      obtain ⟨k, hk, rfl, rfl, hinv, hx⟩ := hrel
      have hl1 := szL_len szPacketInFlight (l.take k)
      rw [List.length_take, Nat.min_eq_left hk] at hl1
      by_cases hlt : k < l.length
      · have HS := Lib.hid (szL_take szPacketInFlight l k hlt)
        have hl2 := szL_rest szPacketInFlight l (k + 1) hlt
        obtain ⟨b, off, es, rfl, hc, hr⟩ := Shape.sl_at (sPacketInFlightL.ext hx H.out) hlt
        have hr' := hr
        obtain ⟨c3, c7, c8, c9, rfl, r0, r1, r3, r4⟩ := sPacketInFlight_rd hr
        have f0 := hc 0 _ rfl
        have f1 := hc 1 _ rfl
        have f2 := hc 2 _ rfl
        have f3 := hc 3 _ rfl
        have f4 := hc 4 _ rfl
        have f5 := hc 5 _ rfl
        have f6 := hc 6 _ rfl
        have f7 := hc 7 _ rfl
        have f8 := hc 8 _ rfl
        have f9 := hc 9 _ rfl
        have f10 := hc 10 _ rfl
        have f11 := hc 11 _ rfl
        simp only [Nat.add_zero, show sPacketInFlight.k = 12 from rfl, Nat.mul_one] at f0 f1 f2 f3 f4 f5 f6 f7 f8 f9 f10 f11
        go_wp2_with fail
        refine (szPacketInFlight_c _ l[k] _ _ hr' (by omega) (by omega)).mono ?_
        rintro e w1 ⟨rfl, hx1⟩
        have hx2 := hx.trans hx1
        have hbd := remain_bd (left - l.length - ((szL szPacketInFlight) (l.take k) - k)) (szPacketInFlight l[k])
        by_cases hq : remain (left - l.length - ((szL szPacketInFlight) (l.take k) - k)) (szPacketInFlight l[k]) < 0
        · have hq' := remain_neg hq
          go_wp2
          go_ret
          have hh := HS.out
          exact ⟨ret_int (remain_lt (by omega)).symm, hx2⟩
        · obtain ⟨hq1, hq2⟩ := remain_pos (Int.not_lt.1 hq)
          have HQ := Lib.hid hq2
          rw [hq2] at hq hbd
          clear hq2
          rw [HQ.out]
          go_wp2
          have hh := HS.out
          go_roundw
          case rel => exact ⟨k + 1, by omega, by go_num, by rw [hh]; go_num, by rw [hh]; omega, hx2⟩
          case measure => simp [intOf]; omega
      · have : k = l.length := by omega
        subst this
        rw [List.take_length] at hinv hl1
        go_wp2
        go_ret
        simp only [List.take_length]
        exact ⟨ret_int (by rw [remain_le (by omega)]; omega), hx⟩

set_option maxHeartbeats 400000 in
theorem szConsumer_c (cs : List Value) (x : DConsumer) (left : Int) (w : World) (h : sConsumer.rd w cs x) (h0 : 0 ≤ left) (h1 : left ≤ 1048576) :
    Calls Tryz.prog 78 #[.agg cs.toArray, .int .i64 left] w fun e w' => e = .returned (.int .i64 (remain left (szConsumer x))) ∧ Ext w w' := by
  obtain ⟨c2, c6, c7, c8, rfl, r0, r1, r2, r3, r4, r6⟩ := sConsumer_rd h
  go_enter Tryz.func78, Tryz.ntmps78
  go_wp2_with fail
  refine (szName_c _ x.name _ _ (strs.ext (by exact (Ext.refl _).alloc _) r2) (by omega) (by omega)).mono ?_
  rintro e w0 ⟨rfl, hx0⟩
  have hX0 : Ext w w0 := Ext.trans (by exact (Ext.refl _).alloc _) hx0
  have f0 : w0.cell? ⟨w.heap.size, 0, none⟩ = some (.int .i64 x.node) := hx0.cell (by simp)
  have f1 : w0.cell? ⟨w.heap.size, 1, none⟩ = some (.int .i64 x.index) := hx0.cell (by simp)
  have f2 : w0.cell? ⟨w.heap.size, 2, none⟩ = some (c2) := hx0.cell (by simp)
  have f3 : w0.cell? ⟨w.heap.size, 3, none⟩ = some (.int .i64 x.attempts) := hx0.cell (by simp)
  have f4 : w0.cell? ⟨w.heap.size, 4, none⟩ = some (.int .i64 x.wait) := hx0.cell (by simp)
  have f5 : w0.cell? ⟨w.heap.size, 5, none⟩ = some (.bool x.satisfied) := hx0.cell (by simp)
  have f6 : w0.cell? ⟨w.heap.size, 6, none⟩ = some (c6) := hx0.cell (by simp)
  have f7 : w0.cell? ⟨w.heap.size, 7, none⟩ = some (c7) := hx0.cell (by simp)
  have f8 : w0.cell? ⟨w.heap.size, 8, none⟩ = some (c8) := hx0.cell (by simp)
  have f9 : w0.cell? ⟨w.heap.size, 9, none⟩ = some (.int .i64 x.data.freshUntil) := hx0.cell (by simp)
  have f10 : w0.cell? ⟨w.heap.size, 10, none⟩ = some (.int .i64 x.data.signature) := hx0.cell (by simp)
  have hbd0 := remain_bd (left) ((szL ByteArray.size) x.name)
  by_cases hq0 : remain (left) ((szL ByteArray.size) x.name) < 0
  · have hq' := remain_neg hq0
    go_wp2
    go_ret
    exact ⟨ret_int (by rw [remain_lt (by unfold szConsumer; omega)]), hX0⟩
  obtain ⟨hp0, hv0⟩ := remain_pos (Int.not_lt.1 hq0)
  rw [hv0] at hq0 hbd0 ⊢
  clear hv0
  go_wp2_with fail
  refine (szData_c _ x.data _ _ (sData.ext (by exact hX0) r6) (by omega) (by omega)).mono ?_
  rintro e w1 ⟨rfl, hx1⟩
  have hX1 : Ext w w1 := Ext.trans (by exact hX0) hx1
  have hbd1 := remain_bd (left - ((szL ByteArray.size) x.name : Nat)) (szData x.data)
  by_cases hq1 : remain (left - ((szL ByteArray.size) x.name : Nat)) (szData x.data) < 0
  · have hq' := remain_neg hq1
    go_wp2
    go_ret
    exact ⟨ret_int (by rw [remain_lt (by unfold szConsumer; omega)]), hX1⟩
  obtain ⟨hp1, hv1⟩ := remain_pos (Int.not_lt.1 hq1)
  rw [hv1] at hq1 hbd1 ⊢
  clear hv1
  go_wp2
  go_ret
  exact ⟨ret_int (by rw [remain_le (by unfold szConsumer; omega)]; unfold szConsumer; omega), hX1⟩

set_option maxHeartbeats 400000 in
theorem szConsumerS_c (v : Value) (l : (List DConsumer)) (left : Int) (w : World) (h : sConsumerL.rd w [v] l) (h0 : 0 ≤ left) (h1 : left ≤ 1048576) :
    Calls Tryz.prog 34 #[v, .int .i64 left] w fun e w' => e = .returned (.int .i64 (remain left ((szL szConsumer) l))) ∧ Ext w w' := by
  obtain ⟨A, c, rfl, hl, hm⟩ := Shape.sl_form h
  unfold maxLen at hm
  have hlen := szL_len szConsumer l
  have H := Lib.hid h; clear h
  by_cases hlt : left < l.length
  · have hlt' : left - l.length < 0 := by omega
    go_enter Tryz.func34, Tryz.ntmps34
    go_wp2
    go_ret
    exact ⟨ret_int (remain_lt (by omega)).symm, Ext.refl _⟩
  · have hlt' : decide (left - l.length < 0) = false := by simp; omega
    have hge : (l.length : Int) ≤ left := by omega
    go_enter Tryz.func34, Tryz.ntmps34
    go_wp2
    go_loopw [1, 5] (fun t i wr => ∃ k : Nat, k ≤ l.length ∧ i = .int .i64 k ∧ t = .int .i64 (left - l.length - ((szL szConsumer) (l.take k) - k)) ∧ ((szL szConsumer) (l.take k) : Int) + l.length - k ≤ left ∧ Ext w wr) (fun _ i _ => l.length - (intOf i).toNat)
    case atStart => exact ⟨0, Nat.zero_le _, rfl, by simp [szL], by simp [szL]; omega, Ext.refl _⟩
    case round =>
      obtain ⟨k, hk, rfl, rfl, hinv, hx⟩ := hrel
      have hl1 := szL_len szConsumer (l.take k)
      rw [List.length_take, Nat.min_eq_left hk] at hl1
      by_cases hlt : k < l.length
      · have HS := Lib.hid (szL_take szConsumer l k hlt)
        have hl2 := szL_rest szConsumer l (k + 1) hlt
        obtain ⟨b, off, es, rfl, hc, hr⟩ := Shape.sl_at (sConsumerL.ext hx H.out) hlt
        have hr' := hr
        obtain ⟨c2, c6, c7, c8, rfl, r0, r1, r2, r3, r4, r6⟩ := sConsumer_rd hr
        have f0 := hc 0 _ rfl
        have f1 := hc 1 _ rfl
        have f2 := hc 2 _ rfl
        have f3 := hc 3 _ rfl
        have f4 := hc 4 _ rfl
        have f5 := hc 5 _ rfl
        have f6 := hc 6 _ rfl
        have f7 := hc 7 _ rfl
        have f8 := hc 8 _ rfl
        have f9 := hc 9 _ rfl
        have f10 := hc 10 _ rfl
        simp only [Nat.add_zero, show sConsumer.k = 11 from rfl, Nat.mul_one] at f0 f1 f2 f3 f4 f5 f6 f7 f8 f9 f10
        go_wp2_with fail
        refine (szConsumer_c _ l[k] _ _ hr' (by omega) (by omega)).mono ?_
        rintro e w1 ⟨rfl, hx1⟩
        have hx2 := hx.trans hx1
        have hbd := remain_bd (left - l.length - ((szL szConsumer) (l.take k) - k)) (szConsumer l[k])
        by_cases hq : remain (left - l.length - ((szL szConsumer) (l.take k) - k)) (szConsumer l[k]) < 0
        · have hq' := remain_neg hq
          go_wp2
          go_ret
          have hh := HS.out
          exact ⟨ret_int (remain_lt (by omega)).symm, hx2⟩
        · obtain ⟨hq1, hq2⟩ := remain_pos (Int.not_lt.1 hq)
          have HQ := Lib.hid hq2
          rw [hq2] at hq hbd
          clear hq2
          rw [HQ.out]
          go_wp2
          have hh := HS.out
          go_roundw
          case rel => exact ⟨k + 1, by omega, by go_num, by rw [hh]; go_num, by rw [hh]; omega, hx2⟩
          case measure => simp [intOf]; omega
      · have : k = l.length := by omega
        subst this
        rw [List.take_length] at hinv hl1
        go_wp2
        go_ret
        simp only [List.take_length]
        exact ⟨ret_int (by rw [remain_le (by omega)]; omega), hx⟩

set_option maxHeartbeats 400000 in
theorem szNetwork_c (cs : List Value) (x : DNetwork) (left : Int) (w : World) (h : sNetwork.rd w cs x) (h0 : 0 ≤ left) (h1 : left ≤ 1048576) :
    Calls Tryz.prog 7 #[.agg cs.toArray, .int .i64 left] w fun e w' => e = .returned (.int .i64 (remain left (szNetwork x))) ∧ Ext w w' := by
  obtain ⟨c1, c2, c3, c4, c5, c6, c7, c9, c10, c11, rfl, r0, r1, r2, r3, r4, r5, r6, r7, r8, r9⟩ := sNetwork_rd h
  go_enter Tryz.func7, Tryz.ntmps7
  go_wp2_with fail
  refine (szTopology_c _ x.topology _ _ (sTopology.ext (by exact (Ext.refl _).alloc _) r0) (by omega) (by omega)).mono ?_
  rintro e w0 ⟨rfl, hx0⟩
  have hX0 : Ext w w0 := Ext.trans (by exact (Ext.refl _).alloc _) hx0
  have f0 : w0.cell? ⟨w.heap.size, 0, none⟩ = some (.int .i64 x.topology.size) := hx0.cell (by simp)
  have f1 : w0.cell? ⟨w.heap.size, 1, none⟩ = some (c1) := hx0.cell (by simp)
  have f2 : w0.cell? ⟨w.heap.size, 2, none⟩ = some (c2) := hx0.cell (by simp)
  have f3 : w0.cell? ⟨w.heap.size, 3, none⟩ = some (c3) := hx0.cell (by simp)
  have f4 : w0.cell? ⟨w.heap.size, 4, none⟩ = some (c4) := hx0.cell (by simp)
  have f5 : w0.cell? ⟨w.heap.size, 5, none⟩ = some (c5) := hx0.cell (by simp)
  have f6 : w0.cell? ⟨w.heap.size, 6, none⟩ = some (c6) := hx0.cell (by simp)
  have f7 : w0.cell? ⟨w.heap.size, 7, none⟩ = some (c7) := hx0.cell (by simp)
  have f8 : w0.cell? ⟨w.heap.size, 8, none⟩ = some (.int .i64 x.downNodes) := hx0.cell (by simp)
  have f9 : w0.cell? ⟨w.heap.size, 9, none⟩ = some (c9) := hx0.cell (by simp)
  have f10 : w0.cell? ⟨w.heap.size, 10, none⟩ = some (c10) := hx0.cell (by simp)
  have f11 : w0.cell? ⟨w.heap.size, 11, none⟩ = some (c11) := hx0.cell (by simp)
  have f12 : w0.cell? ⟨w.heap.size, 12, none⟩ = some (.int .i64 x.now) := hx0.cell (by simp)
  have f13 : w0.cell? ⟨w.heap.size, 13, none⟩ = some (.int .i64 x.dropped) := hx0.cell (by simp)
  have hbd0 := remain_bd (left) (szTopology x.topology)
  by_cases hq0 : remain (left) (szTopology x.topology) < 0
  · have hq' := remain_neg hq0
    go_wp2
    go_ret
    exact ⟨ret_int (by rw [remain_lt (by unfold szNetwork; omega)]), hX0⟩
  obtain ⟨hp0, hv0⟩ := remain_pos (Int.not_lt.1 hq0)
  rw [hv0] at hq0 hbd0 ⊢
  clear hv0
  go_wp2_with fail
  refine (szTrustPolicy_c _ x.trust _ _ (sTrustPolicy.ext (by exact hX0) r1) (by omega) (by omega)).mono ?_
  rintro e w1 ⟨rfl, hx1⟩
  have hX1 : Ext w w1 := Ext.trans (by exact hX0) hx1
  have f0 : w1.cell? ⟨w.heap.size, 0, none⟩ = some (.int .i64 x.topology.size) := hx1.cell f0
  have f1 : w1.cell? ⟨w.heap.size, 1, none⟩ = some (c1) := hx1.cell f1
  have f2 : w1.cell? ⟨w.heap.size, 2, none⟩ = some (c2) := hx1.cell f2
  have f3 : w1.cell? ⟨w.heap.size, 3, none⟩ = some (c3) := hx1.cell f3
  have f4 : w1.cell? ⟨w.heap.size, 4, none⟩ = some (c4) := hx1.cell f4
  have f5 : w1.cell? ⟨w.heap.size, 5, none⟩ = some (c5) := hx1.cell f5
  have f6 : w1.cell? ⟨w.heap.size, 6, none⟩ = some (c6) := hx1.cell f6
  have f7 : w1.cell? ⟨w.heap.size, 7, none⟩ = some (c7) := hx1.cell f7
  have f8 : w1.cell? ⟨w.heap.size, 8, none⟩ = some (.int .i64 x.downNodes) := hx1.cell f8
  have f9 : w1.cell? ⟨w.heap.size, 9, none⟩ = some (c9) := hx1.cell f9
  have f10 : w1.cell? ⟨w.heap.size, 10, none⟩ = some (c10) := hx1.cell f10
  have f11 : w1.cell? ⟨w.heap.size, 11, none⟩ = some (c11) := hx1.cell f11
  have f12 : w1.cell? ⟨w.heap.size, 12, none⟩ = some (.int .i64 x.now) := hx1.cell f12
  have f13 : w1.cell? ⟨w.heap.size, 13, none⟩ = some (.int .i64 x.dropped) := hx1.cell f13
  have hbd1 := remain_bd (left - (szTopology x.topology : Nat)) (szTrustPolicy x.trust)
  by_cases hq1 : remain (left - (szTopology x.topology : Nat)) (szTrustPolicy x.trust) < 0
  · have hq' := remain_neg hq1
    go_wp2
    go_ret
    exact ⟨ret_int (by rw [remain_lt (by unfold szNetwork; omega)]), hX1⟩
  obtain ⟨hp1, hv1⟩ := remain_pos (Int.not_lt.1 hq1)
  rw [hv1] at hq1 hbd1 ⊢
  clear hv1
  go_wp2_with fail
  refine (szTableEntryS_c _ x.producers _ _ (sTableEntryL.ext (by exact hX1) r2) (by omega) (by omega)).mono ?_
  rintro e w2 ⟨rfl, hx2⟩
  have hX2 : Ext w w2 := Ext.trans (by exact hX1) hx2
  have f0 : w2.cell? ⟨w.heap.size, 0, none⟩ = some (.int .i64 x.topology.size) := hx2.cell f0
  have f1 : w2.cell? ⟨w.heap.size, 1, none⟩ = some (c1) := hx2.cell f1
  have f2 : w2.cell? ⟨w.heap.size, 2, none⟩ = some (c2) := hx2.cell f2
  have f3 : w2.cell? ⟨w.heap.size, 3, none⟩ = some (c3) := hx2.cell f3
  have f4 : w2.cell? ⟨w.heap.size, 4, none⟩ = some (c4) := hx2.cell f4
  have f5 : w2.cell? ⟨w.heap.size, 5, none⟩ = some (c5) := hx2.cell f5
  have f6 : w2.cell? ⟨w.heap.size, 6, none⟩ = some (c6) := hx2.cell f6
  have f7 : w2.cell? ⟨w.heap.size, 7, none⟩ = some (c7) := hx2.cell f7
  have f8 : w2.cell? ⟨w.heap.size, 8, none⟩ = some (.int .i64 x.downNodes) := hx2.cell f8
  have f9 : w2.cell? ⟨w.heap.size, 9, none⟩ = some (c9) := hx2.cell f9
  have f10 : w2.cell? ⟨w.heap.size, 10, none⟩ = some (c10) := hx2.cell f10
  have f11 : w2.cell? ⟨w.heap.size, 11, none⟩ = some (c11) := hx2.cell f11
  have f12 : w2.cell? ⟨w.heap.size, 12, none⟩ = some (.int .i64 x.now) := hx2.cell f12
  have f13 : w2.cell? ⟨w.heap.size, 13, none⟩ = some (.int .i64 x.dropped) := hx2.cell f13
  have hbd2 := remain_bd (left - (szTopology x.topology : Nat) - (szTrustPolicy x.trust : Nat)) ((szL szTableEntry) x.producers)
  by_cases hq2 : remain (left - (szTopology x.topology : Nat) - (szTrustPolicy x.trust : Nat)) ((szL szTableEntry) x.producers) < 0
  · have hq' := remain_neg hq2
    go_wp2
    go_ret
    exact ⟨ret_int (by rw [remain_lt (by unfold szNetwork; omega)]), hX2⟩
  obtain ⟨hp2, hv2⟩ := remain_pos (Int.not_lt.1 hq2)
  rw [hv2] at hq2 hbd2 ⊢
  clear hv2
  go_wp2_with fail
  refine (szNodeS_c _ x.nodes _ _ (sNodeL.ext (by exact hX2) r3) (by omega) (by omega)).mono ?_
  rintro e w3 ⟨rfl, hx3⟩
  have hX3 : Ext w w3 := Ext.trans (by exact hX2) hx3
  have f0 : w3.cell? ⟨w.heap.size, 0, none⟩ = some (.int .i64 x.topology.size) := hx3.cell f0
  have f1 : w3.cell? ⟨w.heap.size, 1, none⟩ = some (c1) := hx3.cell f1
  have f2 : w3.cell? ⟨w.heap.size, 2, none⟩ = some (c2) := hx3.cell f2
  have f3 : w3.cell? ⟨w.heap.size, 3, none⟩ = some (c3) := hx3.cell f3
  have f4 : w3.cell? ⟨w.heap.size, 4, none⟩ = some (c4) := hx3.cell f4
  have f5 : w3.cell? ⟨w.heap.size, 5, none⟩ = some (c5) := hx3.cell f5
  have f6 : w3.cell? ⟨w.heap.size, 6, none⟩ = some (c6) := hx3.cell f6
  have f7 : w3.cell? ⟨w.heap.size, 7, none⟩ = some (c7) := hx3.cell f7
  have f8 : w3.cell? ⟨w.heap.size, 8, none⟩ = some (.int .i64 x.downNodes) := hx3.cell f8
  have f9 : w3.cell? ⟨w.heap.size, 9, none⟩ = some (c9) := hx3.cell f9
  have f10 : w3.cell? ⟨w.heap.size, 10, none⟩ = some (c10) := hx3.cell f10
  have f11 : w3.cell? ⟨w.heap.size, 11, none⟩ = some (c11) := hx3.cell f11
  have f12 : w3.cell? ⟨w.heap.size, 12, none⟩ = some (.int .i64 x.now) := hx3.cell f12
  have f13 : w3.cell? ⟨w.heap.size, 13, none⟩ = some (.int .i64 x.dropped) := hx3.cell f13
  have hbd3 := remain_bd (left - (szTopology x.topology : Nat) - (szTrustPolicy x.trust : Nat) - ((szL szTableEntry) x.producers : Nat)) ((szL szNode) x.nodes)
  by_cases hq3 : remain (left - (szTopology x.topology : Nat) - (szTrustPolicy x.trust : Nat) - ((szL szTableEntry) x.producers : Nat)) ((szL szNode) x.nodes) < 0
  · have hq' := remain_neg hq3
    go_wp2
    go_ret
    exact ⟨ret_int (by rw [remain_lt (by unfold szNetwork; omega)]), hX3⟩
  obtain ⟨hp3, hv3⟩ := remain_pos (Int.not_lt.1 hq3)
  rw [hv3] at hq3 hbd3 ⊢
  clear hv3
  go_wp2_with fail
  refine (szIntS_c _ x.failedLinks _ _ (sInts.ext (by exact hX3) r5) (by omega) (by omega)).mono ?_
  rintro e w4 ⟨rfl, hx4⟩
  have hX4 : Ext w w4 := Ext.trans (by exact hX3) hx4
  have f0 : w4.cell? ⟨w.heap.size, 0, none⟩ = some (.int .i64 x.topology.size) := hx4.cell f0
  have f1 : w4.cell? ⟨w.heap.size, 1, none⟩ = some (c1) := hx4.cell f1
  have f2 : w4.cell? ⟨w.heap.size, 2, none⟩ = some (c2) := hx4.cell f2
  have f3 : w4.cell? ⟨w.heap.size, 3, none⟩ = some (c3) := hx4.cell f3
  have f4 : w4.cell? ⟨w.heap.size, 4, none⟩ = some (c4) := hx4.cell f4
  have f5 : w4.cell? ⟨w.heap.size, 5, none⟩ = some (c5) := hx4.cell f5
  have f6 : w4.cell? ⟨w.heap.size, 6, none⟩ = some (c6) := hx4.cell f6
  have f7 : w4.cell? ⟨w.heap.size, 7, none⟩ = some (c7) := hx4.cell f7
  have f8 : w4.cell? ⟨w.heap.size, 8, none⟩ = some (.int .i64 x.downNodes) := hx4.cell f8
  have f9 : w4.cell? ⟨w.heap.size, 9, none⟩ = some (c9) := hx4.cell f9
  have f10 : w4.cell? ⟨w.heap.size, 10, none⟩ = some (c10) := hx4.cell f10
  have f11 : w4.cell? ⟨w.heap.size, 11, none⟩ = some (c11) := hx4.cell f11
  have f12 : w4.cell? ⟨w.heap.size, 12, none⟩ = some (.int .i64 x.now) := hx4.cell f12
  have f13 : w4.cell? ⟨w.heap.size, 13, none⟩ = some (.int .i64 x.dropped) := hx4.cell f13
  have hbd4 := remain_bd (left - (szTopology x.topology : Nat) - (szTrustPolicy x.trust : Nat) - ((szL szTableEntry) x.producers : Nat) - ((szL szNode) x.nodes : Nat)) ((szL (fun _ => 0)) x.failedLinks)
  by_cases hq4 : remain (left - (szTopology x.topology : Nat) - (szTrustPolicy x.trust : Nat) - ((szL szTableEntry) x.producers : Nat) - ((szL szNode) x.nodes : Nat)) ((szL (fun _ => 0)) x.failedLinks) < 0
  · have hq' := remain_neg hq4
    go_wp2
    go_ret
    exact ⟨ret_int (by rw [remain_lt (by unfold szNetwork; omega)]), hX4⟩
  obtain ⟨hp4, hv4⟩ := remain_pos (Int.not_lt.1 hq4)
  rw [hv4] at hq4 hbd4 ⊢
  clear hv4
  go_wp2_with fail
  refine (szPacketInFlightS_c _ x.inFlight _ _ (sPacketInFlightL.ext (by exact hX4) r6) (by omega) (by omega)).mono ?_
  rintro e w5 ⟨rfl, hx5⟩
  have hX5 : Ext w w5 := Ext.trans (by exact hX4) hx5
  have f0 : w5.cell? ⟨w.heap.size, 0, none⟩ = some (.int .i64 x.topology.size) := hx5.cell f0
  have f1 : w5.cell? ⟨w.heap.size, 1, none⟩ = some (c1) := hx5.cell f1
  have f2 : w5.cell? ⟨w.heap.size, 2, none⟩ = some (c2) := hx5.cell f2
  have f3 : w5.cell? ⟨w.heap.size, 3, none⟩ = some (c3) := hx5.cell f3
  have f4 : w5.cell? ⟨w.heap.size, 4, none⟩ = some (c4) := hx5.cell f4
  have f5 : w5.cell? ⟨w.heap.size, 5, none⟩ = some (c5) := hx5.cell f5
  have f6 : w5.cell? ⟨w.heap.size, 6, none⟩ = some (c6) := hx5.cell f6
  have f7 : w5.cell? ⟨w.heap.size, 7, none⟩ = some (c7) := hx5.cell f7
  have f8 : w5.cell? ⟨w.heap.size, 8, none⟩ = some (.int .i64 x.downNodes) := hx5.cell f8
  have f9 : w5.cell? ⟨w.heap.size, 9, none⟩ = some (c9) := hx5.cell f9
  have f10 : w5.cell? ⟨w.heap.size, 10, none⟩ = some (c10) := hx5.cell f10
  have f11 : w5.cell? ⟨w.heap.size, 11, none⟩ = some (c11) := hx5.cell f11
  have f12 : w5.cell? ⟨w.heap.size, 12, none⟩ = some (.int .i64 x.now) := hx5.cell f12
  have f13 : w5.cell? ⟨w.heap.size, 13, none⟩ = some (.int .i64 x.dropped) := hx5.cell f13
  have hbd5 := remain_bd (left - (szTopology x.topology : Nat) - (szTrustPolicy x.trust : Nat) - ((szL szTableEntry) x.producers : Nat) - ((szL szNode) x.nodes : Nat) - ((szL (fun _ => 0)) x.failedLinks : Nat)) ((szL szPacketInFlight) x.inFlight)
  by_cases hq5 : remain (left - (szTopology x.topology : Nat) - (szTrustPolicy x.trust : Nat) - ((szL szTableEntry) x.producers : Nat) - ((szL szNode) x.nodes : Nat) - ((szL (fun _ => 0)) x.failedLinks : Nat)) ((szL szPacketInFlight) x.inFlight) < 0
  · have hq' := remain_neg hq5
    go_wp2
    go_ret
    exact ⟨ret_int (by rw [remain_lt (by unfold szNetwork; omega)]), hX5⟩
  obtain ⟨hp5, hv5⟩ := remain_pos (Int.not_lt.1 hq5)
  rw [hv5] at hq5 hbd5 ⊢
  clear hv5
  go_wp2_with fail
  refine (szConsumerS_c _ x.consumers _ _ (sConsumerL.ext (by exact hX5) r7) (by omega) (by omega)).mono ?_
  rintro e w6 ⟨rfl, hx6⟩
  have hX6 : Ext w w6 := Ext.trans (by exact hX5) hx6
  have hbd6 := remain_bd (left - (szTopology x.topology : Nat) - (szTrustPolicy x.trust : Nat) - ((szL szTableEntry) x.producers : Nat) - ((szL szNode) x.nodes : Nat) - ((szL (fun _ => 0)) x.failedLinks : Nat) - ((szL szPacketInFlight) x.inFlight : Nat)) ((szL szConsumer) x.consumers)
  by_cases hq6 : remain (left - (szTopology x.topology : Nat) - (szTrustPolicy x.trust : Nat) - ((szL szTableEntry) x.producers : Nat) - ((szL szNode) x.nodes : Nat) - ((szL (fun _ => 0)) x.failedLinks : Nat) - ((szL szPacketInFlight) x.inFlight : Nat)) ((szL szConsumer) x.consumers) < 0
  · have hq' := remain_neg hq6
    go_wp2
    go_ret
    exact ⟨ret_int (by rw [remain_lt (by unfold szNetwork; omega)]), hX6⟩
  obtain ⟨hp6, hv6⟩ := remain_pos (Int.not_lt.1 hq6)
  rw [hv6] at hq6 hbd6 ⊢
  clear hv6
  go_wp2
  go_ret
  exact ⟨ret_int (by rw [remain_le (by unfold szNetwork; omega)]; unfold szNetwork; omega), hX6⟩

end Go.Proofs.YtjdhggkbdognnaaGreat
