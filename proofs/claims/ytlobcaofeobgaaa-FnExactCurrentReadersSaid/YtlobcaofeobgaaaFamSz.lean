/- What the families laws.sz.. compute. Printed by gen.py. -/
import Derived.Test.YtlobcaofeobgaaaProg
import Derived.Test.YtlobcaofeobgaaaTypes
namespace Go.Proofs.Ytlobcaofeobgaaa
open Go.RowKit
set_option linter.unusedVariables false
set_option linter.unusedSimpArgs false
set_option linter.unusedSectionVars false

set_option maxHeartbeats 400000 in
theorem szStringS_c (v : Value) (l : (List ByteArray)) (left : Int) (w : World) (h : strs.rd w [v] l) (h0 : 0 ≤ left) (h1 : left ≤ 1048576) :
    Calls Try.prog 31 #[v, .int .i64 left] w fun e w' => e = .returned (.int .i64 (remain left ((szL ByteArray.size) l))) ∧ Ext w w' := by
  obtain ⟨A, c, rfl, hl, hm⟩ := Shape.sl_form h
  unfold maxLen at hm
  have hlen := szL_len ByteArray.size l
  have H := Lib.hid h; clear h
  by_cases hlt : left < l.length
  · have hlt' : left - l.length < 0 := by omega
    go_enter Try.func31, Try.ntmps31
    go_wp2
    go_ret
    exact ⟨ret_int (remain_lt (by omega)).symm, Ext.refl _⟩
  · have hlt' : decide (left - l.length < 0) = false := by simp; omega
    have hge : (l.length : Int) ≤ left := by omega
    go_enter Try.func31, Try.ntmps31
    go_wp2
    go_loopw [1, 5] (fun t i wr => ∃ k : Nat, k ≤ l.length ∧ i = .int .i64 k ∧ t = .int .i64 (left - l.length - ((szL ByteArray.size) (l.take k) - k)) ∧ ((szL ByteArray.size) (l.take k) : Int) + l.length - k ≤ left ∧ Ext w wr) (fun _ i _ => l.length - (intOf i).toNat)
    case atStart => exact ⟨0, Nat.zero_le _, rfl, by simp [szL], by simp [szL]; omega, Ext.refl _⟩
    case round =>
      obtain ⟨k, hk, rfl, rfl, hinv, hx⟩ := hrel
      have hl1 := szL_len ByteArray.size (l.take k)
      rw [List.length_take, Nat.min_eq_left hk] at hl1
      by_cases hlt : k < l.length
      · have HS := Lib.hid (szL_take ByteArray.size l k hlt)
        have hl2 := szL_rest ByteArray.size l (k + 1) hlt
        obtain ⟨b, off, rfl, hcell, hs⟩ := Shape.str_at (strs.ext hx H.out) hlt
        unfold maxLen at hs
        go_wp2
        · have hneg : left - l.length - ((szL ByteArray.size) (l.take k) - k) - (l[k].size : Int) < 0 := by assumption
          go_ret
          have hh := HS.out
          exact ⟨ret_int (remain_lt (by omega)).symm, hx⟩
        · have hneg : 0 ≤ left - l.length - ((szL ByteArray.size) (l.take k) - k) - (l[k].size : Int) := by assumption
          have hh := HS.out
          go_roundw
          case rel => exact ⟨k + 1, by omega, by go_num, by rw [hh]; go_num, by rw [hh]; omega, hx⟩
          case measure => simp [intOf]; omega
      · have : k = l.length := by omega
        subst this
        rw [List.take_length] at hinv hl1
        go_wp2
        go_ret
        simp only [List.take_length]
        exact ⟨ret_int (by rw [remain_le (by omega)]; omega), hx⟩

set_option maxHeartbeats 400000 in
theorem szName_c (cs : List Value) (x : (List ByteArray)) (left : Int) (w : World) (h : strs.rd w cs x) (h0 : 0 ≤ left) (h1 : left ≤ 1048576) :
    Calls Try.prog 7 #[.agg cs.toArray, .int .i64 left] w fun e w' => e = .returned (.int .i64 (remain left ((szL ByteArray.size) x))) ∧ Ext w w' := by
  have r0 := h; obtain ⟨c0, rfl⟩ := one_cell (strs.len h)
  go_enter Try.func7, Try.ntmps7
  go_wp2_with fail
  refine (szStringS_c _ x _ _ (strs.ext (by exact (Ext.refl _).alloc _) r0) (by omega) (by omega)).mono ?_
  rintro e w0 ⟨rfl, hx0⟩
  have hX0 : Ext w w0 := Ext.trans (by exact (Ext.refl _).alloc _) hx0
  have hbd0 := remain_bd (left) ((szL ByteArray.size) x)
  by_cases hq0 : remain (left) ((szL ByteArray.size) x) < 0
  · have hq' := remain_neg hq0
    go_wp2
    go_ret
    exact ⟨ret_int (by rw [remain_lt (by omega)]), hX0⟩
  obtain ⟨hp0, hv0⟩ := remain_pos (Int.not_lt.1 hq0)
  rw [hv0] at hq0 hbd0 ⊢
  clear hv0
  go_wp2
  go_ret
  exact ⟨ret_int (by rw [remain_le (by omega)]), hX0⟩

set_option maxHeartbeats 400000 in
theorem szKey_c (cs : List Value) (x : DKey) (left : Int) (w : World) (h : sKey.rd w cs x) (h0 : 0 ≤ left) (h1 : left ≤ 1048576) :
    Calls Try.prog 65 #[.agg cs.toArray, .int .i64 left] w fun e w' => e = .returned (.int .i64 (remain left (szKey x))) ∧ Ext w w' := by
  obtain ⟨c0, rfl, r0, r1⟩ := sKey_rd h
  go_enter Try.func65, Try.ntmps65
  go_wp2_with fail
  refine (szName_c _ x.name _ _ (strs.ext (by exact (Ext.refl _).alloc _) r0) (by omega) (by omega)).mono ?_
  rintro e w0 ⟨rfl, hx0⟩
  have hX0 : Ext w w0 := Ext.trans (by exact (Ext.refl _).alloc _) hx0
  have hbd0 := remain_bd (left) ((szL ByteArray.size) x.name)
  by_cases hq0 : remain (left) ((szL ByteArray.size) x.name) < 0
  · have hq' := remain_neg hq0
    go_wp2
    go_ret
    exact ⟨ret_int (by rw [remain_lt (by unfold szKey; omega)]), hX0⟩
  obtain ⟨hp0, hv0⟩ := remain_pos (Int.not_lt.1 hq0)
  rw [hv0] at hq0 hbd0 ⊢
  clear hv0
  go_wp2
  go_ret
  exact ⟨ret_int (by rw [remain_le (by unfold szKey; omega)]; unfold szKey; omega), hX0⟩

set_option maxHeartbeats 400000 in
theorem szKeyS_c (v : Value) (l : (List DKey)) (left : Int) (w : World) (h : sKeyL.rd w [v] l) (h0 : 0 ≤ left) (h1 : left ≤ 1048576) :
    Calls Try.prog 29 #[v, .int .i64 left] w fun e w' => e = .returned (.int .i64 (remain left ((szL szKey) l))) ∧ Ext w w' := by
  obtain ⟨A, c, rfl, hl, hm⟩ := Shape.sl_form h
  unfold maxLen at hm
  have hlen := szL_len szKey l
  have H := Lib.hid h; clear h
  by_cases hlt : left < l.length
  · have hlt' : left - l.length < 0 := by omega
    go_enter Try.func29, Try.ntmps29
    go_wp2
    go_ret
    exact ⟨ret_int (remain_lt (by omega)).symm, Ext.refl _⟩
  · have hlt' : decide (left - l.length < 0) = false := by simp; omega
    have hge : (l.length : Int) ≤ left := by omega
    go_enter Try.func29, Try.ntmps29
    go_wp2
    go_loopw [1, 5] (fun t i wr => ∃ k : Nat, k ≤ l.length ∧ i = .int .i64 k ∧ t = .int .i64 (left - l.length - ((szL szKey) (l.take k) - k)) ∧ ((szL szKey) (l.take k) : Int) + l.length - k ≤ left ∧ Ext w wr) (fun _ i _ => l.length - (intOf i).toNat)
    case atStart => exact ⟨0, Nat.zero_le _, rfl, by simp [szL], by simp [szL]; omega, Ext.refl _⟩
    case round =>
      obtain ⟨k, hk, rfl, rfl, hinv, hx⟩ := hrel
      have hl1 := szL_len szKey (l.take k)
      rw [List.length_take, Nat.min_eq_left hk] at hl1
      by_cases hlt : k < l.length
      · have HS := Lib.hid (szL_take szKey l k hlt)
        have hl2 := szL_rest szKey l (k + 1) hlt
        obtain ⟨b, off, es, rfl, hc, hr⟩ := Shape.sl_at (sKeyL.ext hx H.out) hlt
        have hr' := hr
        obtain ⟨c0, rfl, r0, r1⟩ := sKey_rd hr
        have f0 := hc 0 _ rfl
        have f1 := hc 1 _ rfl
        simp only [Nat.add_zero, show sKey.k = 2 from rfl, Nat.mul_one] at f0 f1
        go_wp2_with fail
        refine (szKey_c _ l[k] _ _ hr' (by omega) (by omega)).mono ?_
        rintro e w1 ⟨rfl, hx1⟩
        have hx2 := hx.trans hx1
        have hbd := remain_bd (left - l.length - ((szL szKey) (l.take k) - k)) (szKey l[k])
        by_cases hq : remain (left - l.length - ((szL szKey) (l.take k) - k)) (szKey l[k]) < 0
        · have hq' := remain_neg hq
          go_wp2
          go_ret
          have hh := HS.out
          exact ⟨ret_int (remain_lt (by omega)).symm, hx2⟩
        · obtain ⟨hq1, hq2⟩ := remain_pos (Int.not_lt.1 hq)
          have HQ := Lib.hid hq2
          rw [hq2] at hq hbd
          clear hq2
          rw [HQ.out]
          go_wp2
          have hh := HS.out
          go_roundw
          case rel => exact ⟨k + 1, by omega, by go_num, by rw [hh]; go_num, by rw [hh]; omega, hx2⟩
          case measure => simp [intOf]; omega
      · have : k = l.length := by omega
        subst this
        rw [List.take_length] at hinv hl1
        go_wp2
        go_ret
        simp only [List.take_length]
        exact ⟨ret_int (by rw [remain_le (by omega)]; omega), hx⟩

set_option maxHeartbeats 400000 in
theorem szReader_c (cs : List Value) (x : DReader) (left : Int) (w : World) (h : sReader.rd w cs x) (h0 : 0 ≤ left) (h1 : left ≤ 1048576) :
    Calls Try.prog 66 #[.agg cs.toArray, .int .i64 left] w fun e w' => e = .returned (.int .i64 (remain left (szReader x))) ∧ Ext w w' := by
  obtain ⟨c1, rfl, r0, r1, r2⟩ := sReader_rd h
  go_enter Try.func66, Try.ntmps66
  go_wp2_with fail
  refine (szName_c _ x.name _ _ (strs.ext (by exact (Ext.refl _).alloc _) r1) (by omega) (by omega)).mono ?_
  rintro e w0 ⟨rfl, hx0⟩
  have hX0 : Ext w w0 := Ext.trans (by exact (Ext.refl _).alloc _) hx0
  have hbd0 := remain_bd (left) ((szL ByteArray.size) x.name)
  by_cases hq0 : remain (left) ((szL ByteArray.size) x.name) < 0
  · have hq' := remain_neg hq0
    go_wp2
    go_ret
    exact ⟨ret_int (by rw [remain_lt (by unfold szReader; omega)]), hX0⟩
  obtain ⟨hp0, hv0⟩ := remain_pos (Int.not_lt.1 hq0)
  rw [hv0] at hq0 hbd0 ⊢
  clear hv0
  go_wp2
  go_ret
  exact ⟨ret_int (by rw [remain_le (by unfold szReader; omega)]; unfold szReader; omega), hX0⟩

set_option maxHeartbeats 400000 in
theorem szReaderS_c (v : Value) (l : (List DReader)) (left : Int) (w : World) (h : sReaderL.rd w [v] l) (h0 : 0 ≤ left) (h1 : left ≤ 1048576) :
    Calls Try.prog 30 #[v, .int .i64 left] w fun e w' => e = .returned (.int .i64 (remain left ((szL szReader) l))) ∧ Ext w w' := by
  obtain ⟨A, c, rfl, hl, hm⟩ := Shape.sl_form h
  unfold maxLen at hm
  have hlen := szL_len szReader l
  have H := Lib.hid h; clear h
  by_cases hlt : left < l.length
  · have hlt' : left - l.length < 0 := by omega
    go_enter Try.func30, Try.ntmps30
    go_wp2
    go_ret
    exact ⟨ret_int (remain_lt (by omega)).symm, Ext.refl _⟩
  · have hlt' : decide (left - l.length < 0) = false := by simp; omega
    have hge : (l.length : Int) ≤ left := by omega
    go_enter Try.func30, Try.ntmps30
    go_wp2
    go_loopw [1, 5] (fun t i wr => ∃ k : Nat, k ≤ l.length ∧ i = .int .i64 k ∧ t = .int .i64 (left - l.length - ((szL szReader) (l.take k) - k)) ∧ ((szL szReader) (l.take k) : Int) + l.length - k ≤ left ∧ Ext w wr) (fun _ i _ => l.length - (intOf i).toNat)
    case atStart => exact ⟨0, Nat.zero_le _, rfl, by simp [szL], by simp [szL]; omega, Ext.refl _⟩
    case round =>
      obtain ⟨k, hk, rfl, rfl, hinv, hx⟩ := hrel
      have hl1 := szL_len szReader (l.take k)
      rw [List.length_take, Nat.min_eq_left hk] at hl1
      by_cases hlt : k < l.length
      · have HS := Lib.hid (szL_take szReader l k hlt)
        have hl2 := szL_rest szReader l (k + 1) hlt
        obtain ⟨b, off, es, rfl, hc, hr⟩ := Shape.sl_at (sReaderL.ext hx H.out) hlt
        have hr' := hr
        obtain ⟨c1, rfl, r0, r1, r2⟩ := sReader_rd hr
        have f0 := hc 0 _ rfl
        have f1 := hc 1 _ rfl
        have f2 := hc 2 _ rfl
        simp only [Nat.add_zero, show sReader.k = 3 from rfl, Nat.mul_one] at f0 f1 f2
        go_wp2_with fail
        refine (szReader_c _ l[k] _ _ hr' (by omega) (by omega)).mono ?_
        rintro e w1 ⟨rfl, hx1⟩
        have hx2 := hx.trans hx1
        have hbd := remain_bd (left - l.length - ((szL szReader) (l.take k) - k)) (szReader l[k])
        by_cases hq : remain (left - l.length - ((szL szReader) (l.take k) - k)) (szReader l[k]) < 0
        · have hq' := remain_neg hq
          go_wp2
          go_ret
          have hh := HS.out
          exact ⟨ret_int (remain_lt (by omega)).symm, hx2⟩
        · obtain ⟨hq1, hq2⟩ := remain_pos (Int.not_lt.1 hq)
          have HQ := Lib.hid hq2
          rw [hq2] at hq hbd
          clear hq2
          rw [HQ.out]
          go_wp2
          have hh := HS.out
          go_roundw
          case rel => exact ⟨k + 1, by omega, by go_num, by rw [hh]; go_num, by rw [hh]; omega, hx2⟩
          case measure => simp [intOf]; omega
      · have : k = l.length := by omega
        subst this
        rw [List.take_length] at hinv hl1
        go_wp2
        go_ret
        simp only [List.take_length]
        exact ⟨ret_int (by rw [remain_le (by omega)]; omega), hx⟩

set_option maxHeartbeats 400000 in
theorem szAccessController_c (cs : List Value) (x : DAccessController) (left : Int) (w : World) (h : sAccessController.rd w cs x) (h0 : 0 ≤ left) (h1 : left ≤ 1048576) :
    Calls Try.prog 6 #[.agg cs.toArray, .int .i64 left] w fun e w' => e = .returned (.int .i64 (remain left (szAccessController x))) ∧ Ext w w' := by
  obtain ⟨c0, c3, rfl, r0, r1, r2, r3⟩ := sAccessController_rd h
  go_enter Try.func6, Try.ntmps6
  go_wp2_with fail
  refine (szKeyS_c _ x.keys _ _ (sKeyL.ext (by exact (Ext.refl _).alloc _) r0) (by omega) (by omega)).mono ?_
  rintro e w0 ⟨rfl, hx0⟩
  have hX0 : Ext w w0 := Ext.trans (by exact (Ext.refl _).alloc _) hx0
  have f0 : w0.cell? ⟨w.heap.size, 0, none⟩ = some (c0) := hx0.cell (by simp)
  have f1 : w0.cell? ⟨w.heap.size, 1, none⟩ = some (.int .i64 x.master) := hx0.cell (by simp)
  have f2 : w0.cell? ⟨w.heap.size, 2, none⟩ = some (.int .i64 x.epoch) := hx0.cell (by simp)
  have f3 : w0.cell? ⟨w.heap.size, 3, none⟩ = some (c3) := hx0.cell (by simp)
  have hbd0 := remain_bd (left) ((szL szKey) x.keys)
  by_cases hq0 : remain (left) ((szL szKey) x.keys) < 0
  · have hq' := remain_neg hq0
    go_wp2
    go_ret
    exact ⟨ret_int (by rw [remain_lt (by unfold szAccessController; omega)]), hX0⟩
  obtain ⟨hp0, hv0⟩ := remain_pos (Int.not_lt.1 hq0)
  rw [hv0] at hq0 hbd0 ⊢
  clear hv0
  go_wp2_with fail
  refine (szReaderS_c _ x.readers _ _ (sReaderL.ext (by exact hX0) r3) (by omega) (by omega)).mono ?_
  rintro e w1 ⟨rfl, hx1⟩
  have hX1 : Ext w w1 := Ext.trans (by exact hX0) hx1
  have hbd1 := remain_bd (left - ((szL szKey) x.keys : Nat)) ((szL szReader) x.readers)
  by_cases hq1 : remain (left - ((szL szKey) x.keys : Nat)) ((szL szReader) x.readers) < 0
  · have hq' := remain_neg hq1
    go_wp2
    go_ret
    exact ⟨ret_int (by rw [remain_lt (by unfold szAccessController; omega)]), hX1⟩
  obtain ⟨hp1, hv1⟩ := remain_pos (Int.not_lt.1 hq1)
  rw [hv1] at hq1 hbd1 ⊢
  clear hv1
  go_wp2
  go_ret
  exact ⟨ret_int (by rw [remain_le (by unfold szAccessController; omega)]; unfold szAccessController; omega), hX1⟩

end Go.Proofs.Ytlobcaofeobgaaa
