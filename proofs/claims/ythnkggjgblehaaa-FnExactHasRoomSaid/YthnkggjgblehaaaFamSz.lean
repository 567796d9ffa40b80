/- What the families laws.sz.. compute. Printed by gen.py. -/
import Derived.Test.YthnkggjgblehaaaProg
import Derived.Test.YthnkggjgblehaaaTypes
namespace Go.Proofs.Ythnkggjgblehaaa
open Go.RowKit
set_option linter.unusedVariables false

set_option maxHeartbeats 400000 in
theorem szStringS_c (v : Value) (l : (List ByteArray)) (left : Int) (w : World) (h : strs.rd w [v] l) (h0 : 0 ≤ left) (h1 : left ≤ 1048576) :
    Calls Try.prog 50 #[v, .int .i64 left] w fun e w' => e = .returned (.int .i64 (remain left ((szL ByteArray.size) l))) ∧ Ext w w' := by
  obtain ⟨A, c, rfl, hl, hm⟩ := Shape.sl_form h
  unfold maxLen at hm
  have hlen := szL_len ByteArray.size l
  have H := Lib.hid h; clear h
  by_cases hlt : left < l.length
  · have hlt' : left - l.length < 0 := by omega
    go_enter Try.func50, Try.ntmps50
    go_wp2
    go_ret
    exact ⟨ret_int (remain_lt (by omega)).symm, Ext.refl _⟩
  · have hlt' : decide (left - l.length < 0) = false := by simp; omega
    have hge : (l.length : Int) ≤ left := by omega
    go_enter Try.func50, Try.ntmps50
    go_wp2
    go_loopw [1, 5] (fun t i wr => ∃ k : Nat, k ≤ l.length ∧ i = .int .i64 k ∧ t = .int .i64 (left - l.length - ((szL ByteArray.size) (l.take k) - k)) ∧ ((szL ByteArray.size) (l.take k) : Int) + l.length - k ≤ left ∧ Ext w wr) (fun _ i _ => l.length - (intOf i).toNat)
    case atStart => exact ⟨0, Nat.zero_le _, rfl, by simp [szL], by simp [szL]; omega, Ext.refl _⟩
    case round =>
      obtain ⟨k, hk, rfl, rfl, hinv, hx⟩ := hrel
      have hl1 := szL_len ByteArray.size (l.take k)
      rw [List.length_take, Nat.min_eq_left hk] at hl1
      by_cases hlt : k < l.length
      · have HS := Lib.hid (szL_take ByteArray.size l k hlt)
        have hl2 := szL_rest ByteArray.size l (k + 1) hlt
        obtain ⟨b, off, rfl, hcell, hs⟩ := Shape.str_at (strs.ext hx H.out) hlt
        unfold maxLen at hs
        go_wp2
        · have hneg : left - l.length - ((szL ByteArray.size) (l.take k) - k) - (l[k].size : Int) < 0 := by assumption
          go_ret
          have hh := HS.out
          exact ⟨ret_int (remain_lt (by omega)).symm, hx⟩
        · have hneg : 0 ≤ left - l.length - ((szL ByteArray.size) (l.take k) - k) - (l[k].size : Int) := by assumption
          have hh := HS.out
          go_roundw
          case rel => exact ⟨k + 1, by omega, by go_num, by rw [hh]; go_num, by rw [hh]; omega, hx⟩
          case measure => simp [intOf]; omega
      · have : k = l.length := by omega
        subst this
        rw [List.take_length] at hinv hl1
        go_wp2
        go_ret
        simp only [List.take_length]
        exact ⟨ret_int (by rw [remain_le (by omega)]; omega), hx⟩

set_option maxHeartbeats 400000 in
theorem szName_c (cs : List Value) (x : (List ByteArray)) (left : Int) (w : World) (h : strs.rd w cs x) (h0 : 0 ≤ left) (h1 : left ≤ 1048576) :
    Calls Try.prog 13 #[.agg cs.toArray, .int .i64 left] w fun e w' => e = .returned (.int .i64 (remain left ((szL ByteArray.size) x))) ∧ Ext w w' := by
  have r0 := h
  obtain ⟨c0, rfl⟩ := one_cell (strs.len h)
  go_enter Try.func13, Try.ntmps13
  go_wp2_with fail
  refine (szStringS_c _ x _ _ (strs.ext (by exact (Ext.refl _).alloc _) r0) (by omega) (by omega)).mono ?_
  rintro e w0 ⟨rfl, hx0⟩
  have hX0 : Ext w w0 := Ext.trans (by exact (Ext.refl _).alloc _) hx0
  have hbd0 := remain_bd (left) ((szL ByteArray.size) x)
  by_cases hq0 : remain (left) ((szL ByteArray.size) x) < 0
  · have hq' := remain_neg hq0
    go_wp2
    go_ret
    exact ⟨ret_int (by rw [remain_lt (by omega)]), hX0⟩
  obtain ⟨hp0, hv0⟩ := remain_pos (Int.not_lt.1 hq0)
  rw [hv0] at hq0 hbd0 ⊢
  clear hv0
  go_wp2
  go_ret
  exact ⟨ret_int (by rw [remain_le (by omega)]), hX0⟩

set_option maxHeartbeats 400000 in
theorem szKey_c (cs : List Value) (x : DKey) (left : Int) (w : World) (h : sKey.rd w cs x) (h0 : 0 ≤ left) (h1 : left ≤ 1048576) :
    Calls Try.prog 86 #[.agg cs.toArray, .int .i64 left] w fun e w' => e = .returned (.int .i64 (remain left (szKey x))) ∧ Ext w w' := by
  obtain ⟨c0, rfl, r0, r1⟩ := sKey_rd h
  go_enter Try.func86, Try.ntmps86
  go_wp2_with fail
  refine (szName_c _ x.name _ _ (strs.ext (by exact (Ext.refl _).alloc _) r0) (by omega) (by omega)).mono ?_
  rintro e w0 ⟨rfl, hx0⟩
  have hX0 : Ext w w0 := Ext.trans (by exact (Ext.refl _).alloc _) hx0
  have hbd0 := remain_bd (left) ((szL ByteArray.size) x.name)
  by_cases hq0 : remain (left) ((szL ByteArray.size) x.name) < 0
  · have hq' := remain_neg hq0
    go_wp2
    go_ret
    exact ⟨ret_int (by rw [remain_lt (by unfold szKey; omega)]), hX0⟩
  obtain ⟨hp0, hv0⟩ := remain_pos (Int.not_lt.1 hq0)
  rw [hv0] at hq0 hbd0 ⊢
  clear hv0
  go_wp2
  go_ret
  exact ⟨ret_int (by rw [remain_le (by unfold szKey; omega)]; unfold szKey; omega), hX0⟩

set_option maxHeartbeats 400000 in
theorem szKeyS_c (v : Value) (l : (List DKey)) (left : Int) (w : World) (h : sKeyL.rd w [v] l) (h0 : 0 ≤ left) (h1 : left ≤ 1048576) :
    Calls Try.prog 36 #[v, .int .i64 left] w fun e w' => e = .returned (.int .i64 (remain left ((szL szKey) l))) ∧ Ext w w' := by
  obtain ⟨A, c, rfl, hl, hm⟩ := Shape.sl_form h
  unfold maxLen at hm
  have hlen := szL_len szKey l
  have H := Lib.hid h; clear h
  by_cases hlt : left < l.length
  · have hlt' : left - l.length < 0 := by omega
    go_enter Try.func36, Try.ntmps36
    go_wp2
    go_ret
    exact ⟨ret_int (remain_lt (by omega)).symm, Ext.refl _⟩
  · have hlt' : decide (left - l.length < 0) = false := by simp; omega
    have hge : (l.length : Int) ≤ left := by omega
    go_enter Try.func36, Try.ntmps36
    go_wp2
    go_loopw [1, 5] (fun t i wr => ∃ k : Nat, k ≤ l.length ∧ i = .int .i64 k ∧ t = .int .i64 (left - l.length - ((szL szKey) (l.take k) - k)) ∧ ((szL szKey) (l.take k) : Int) + l.length - k ≤ left ∧ Ext w wr) (fun _ i _ => l.length - (intOf i).toNat)
    case atStart => exact ⟨0, Nat.zero_le _, rfl, by simp [szL], by simp [szL]; omega, Ext.refl _⟩
    case round =>
      obtain ⟨k, hk, rfl, rfl, hinv, hx⟩ := hrel
      have hl1 := szL_len szKey (l.take k)
      rw [List.length_take, Nat.min_eq_left hk] at hl1
      by_cases hlt : k < l.length
      · have HS := Lib.hid (szL_take szKey l k hlt)
        have hl2 := szL_rest szKey l (k + 1) hlt
        obtain ⟨b, off, es, rfl, hc, hr⟩ := Shape.sl_at (sKeyL.ext hx H.out) hlt
        have hr' := hr
        obtain ⟨c0, rfl, r0, r1⟩ := sKey_rd hr
        have f0 := hc 0 _ rfl
        have f1 := hc 1 _ rfl
        simp only [Nat.add_zero, show sKey.k = 2 from rfl] at f0 f1
        go_wp2_with fail
        refine (szKey_c _ l[k] _ _ hr' (by omega) (by omega)).mono ?_
        rintro e w1 ⟨rfl, hx1⟩
        have hx2 := hx.trans hx1
        have hbd := remain_bd (left - l.length - ((szL szKey) (l.take k) - k)) (szKey l[k])
        by_cases hq : remain (left - l.length - ((szL szKey) (l.take k) - k)) (szKey l[k]) < 0
        · have hq' := remain_neg hq
          go_wp2
          go_ret
          have hh := HS.out
          exact ⟨ret_int (remain_lt (by omega)).symm, hx2⟩
        · obtain ⟨hq1, hq2⟩ := remain_pos (Int.not_lt.1 hq)
          have HQ := Lib.hid hq2
          rw [hq2] at hq hbd
          clear hq2
          rw [HQ.out]
          go_wp2
          have hh := HS.out
          go_roundw
          case rel => exact ⟨k + 1, by omega, by go_num, by rw [hh]; go_num, by rw [hh]; omega, hx2⟩
          case measure => simp [intOf]; omega
      · have : k = l.length := by omega
        subst this
        rw [List.take_length] at hinv hl1
        go_wp2
        go_ret
        simp only [List.take_length]
        exact ⟨ret_int (by rw [remain_le (by omega)]; omega), hx⟩

set_option maxHeartbeats 400000 in
theorem szReader_c (cs : List Value) (x : DReader) (left : Int) (w : World) (h : sReader.rd w cs x) (h0 : 0 ≤ left) (h1 : left ≤ 1048576) :
    Calls Try.prog 87 #[.agg cs.toArray, .int .i64 left] w fun e w' => e = .returned (.int .i64 (remain left (szReader x))) ∧ Ext w w' := by
  obtain ⟨c1, rfl, r0, r1, r2⟩ := sReader_rd h
  go_enter Try.func87, Try.ntmps87
  go_wp2_with fail
  refine (szName_c _ x.name _ _ (strs.ext (by exact (Ext.refl _).alloc _) r1) (by omega) (by omega)).mono ?_
  rintro e w0 ⟨rfl, hx0⟩
  have hX0 : Ext w w0 := Ext.trans (by exact (Ext.refl _).alloc _) hx0
  have hbd0 := remain_bd (left) ((szL ByteArray.size) x.name)
  by_cases hq0 : remain (left) ((szL ByteArray.size) x.name) < 0
  · have hq' := remain_neg hq0
    go_wp2
    go_ret
    exact ⟨ret_int (by rw [remain_lt (by unfold szReader; omega)]), hX0⟩
  obtain ⟨hp0, hv0⟩ := remain_pos (Int.not_lt.1 hq0)
  rw [hv0] at hq0 hbd0 ⊢
  clear hv0
  go_wp2
  go_ret
  exact ⟨ret_int (by rw [remain_le (by unfold szReader; omega)]; unfold szReader; omega), hX0⟩

set_option maxHeartbeats 400000 in
theorem szReaderS_c (v : Value) (l : (List DReader)) (left : Int) (w : World) (h : sReaderL.rd w [v] l) (h0 : 0 ≤ left) (h1 : left ≤ 1048576) :
    Calls Try.prog 37 #[v, .int .i64 left] w fun e w' => e = .returned (.int .i64 (remain left ((szL szReader) l))) ∧ Ext w w' := by
  obtain ⟨A, c, rfl, hl, hm⟩ := Shape.sl_form h
  unfold maxLen at hm
  have hlen := szL_len szReader l
  have H := Lib.hid h; clear h
  by_cases hlt : left < l.length
  · have hlt' : left - l.length < 0 := by omega
    go_enter Try.func37, Try.ntmps37
    go_wp2
    go_ret
    exact ⟨ret_int (remain_lt (by omega)).symm, Ext.refl _⟩
  · have hlt' : decide (left - l.length < 0) = false := by simp; omega
    have hge : (l.length : Int) ≤ left := by omega
    go_enter Try.func37, Try.ntmps37
    go_wp2
    go_loopw [1, 5] (fun t i wr => ∃ k : Nat, k ≤ l.length ∧ i = .int .i64 k ∧ t = .int .i64 (left - l.length - ((szL szReader) (l.take k) - k)) ∧ ((szL szReader) (l.take k) : Int) + l.length - k ≤ left ∧ Ext w wr) (fun _ i _ => l.length - (intOf i).toNat)
    case atStart => exact ⟨0, Nat.zero_le _, rfl, by simp [szL], by simp [szL]; omega, Ext.refl _⟩
    case round =>
      obtain ⟨k, hk, rfl, rfl, hinv, hx⟩ := hrel
      have hl1 := szL_len szReader (l.take k)
      rw [List.length_take, Nat.min_eq_left hk] at hl1
      by_cases hlt : k < l.length
      · have HS := Lib.hid (szL_take szReader l k hlt)
        have hl2 := szL_rest szReader l (k + 1) hlt
        obtain ⟨b, off, es, rfl, hc, hr⟩ := Shape.sl_at (sReaderL.ext hx H.out) hlt
        have hr' := hr
        obtain ⟨c1, rfl, r0, r1, r2⟩ := sReader_rd hr
        have f0 := hc 0 _ rfl
        have f1 := hc 1 _ rfl
        have f2 := hc 2 _ rfl
        simp only [Nat.add_zero, show sReader.k = 3 from rfl] at f0 f1 f2
        go_wp2_with fail
        refine (szReader_c _ l[k] _ _ hr' (by omega) (by omega)).mono ?_
        rintro e w1 ⟨rfl, hx1⟩
        have hx2 := hx.trans hx1
        have hbd := remain_bd (left - l.length - ((szL szReader) (l.take k) - k)) (szReader l[k])
        by_cases hq : remain (left - l.length - ((szL szReader) (l.take k) - k)) (szReader l[k]) < 0
        · have hq' := remain_neg hq
          go_wp2
          go_ret
          have hh := HS.out
          exact ⟨ret_int (remain_lt (by omega)).symm, hx2⟩
        · obtain ⟨hq1, hq2⟩ := remain_pos (Int.not_lt.1 hq)
          have HQ := Lib.hid hq2
          rw [hq2] at hq hbd
          clear hq2
          rw [HQ.out]
          go_wp2
          have hh := HS.out
          go_roundw
          case rel => exact ⟨k + 1, by omega, by go_num, by rw [hh]; go_num, by rw [hh]; omega, hx2⟩
          case measure => simp [intOf]; omega
      · have : k = l.length := by omega
        subst this
        rw [List.take_length] at hinv hl1
        go_wp2
        go_ret
        simp only [List.take_length]
        exact ⟨ret_int (by rw [remain_le (by omega)]; omega), hx⟩

set_option maxHeartbeats 400000 in
theorem szAccessController_c (cs : List Value) (x : DAccessController) (left : Int) (w : World) (h : sAccessController.rd w cs x) (h0 : 0 ≤ left) (h1 : left ≤ 1048576) :
    Calls Try.prog 8 #[.agg cs.toArray, .int .i64 left] w fun e w' => e = .returned (.int .i64 (remain left (szAccessController x))) ∧ Ext w w' := by
  obtain ⟨c0, c3, rfl, r0, r1, r2, r3⟩ := sAccessController_rd h
  go_enter Try.func8, Try.ntmps8
  go_wp2_with fail
  refine (szKeyS_c _ x.keys _ _ (sKeyL.ext (by exact (Ext.refl _).alloc _) r0) (by omega) (by omega)).mono ?_
  rintro e w0 ⟨rfl, hx0⟩
  have hX0 : Ext w w0 := Ext.trans (by exact (Ext.refl _).alloc _) hx0
  have f0 : w0.cell? ⟨w.heap.size, 0, none⟩ = some (c0) := hx0.cell (by simp)
  have f1 : w0.cell? ⟨w.heap.size, 1, none⟩ = some (.int .i64 x.master) := hx0.cell (by simp)
  have f2 : w0.cell? ⟨w.heap.size, 2, none⟩ = some (.int .i64 x.epoch) := hx0.cell (by simp)
  have f3 : w0.cell? ⟨w.heap.size, 3, none⟩ = some (c3) := hx0.cell (by simp)
  have hbd0 := remain_bd (left) ((szL szKey) x.keys)
  by_cases hq0 : remain (left) ((szL szKey) x.keys) < 0
  · have hq' := remain_neg hq0
    go_wp2
    go_ret
    exact ⟨ret_int (by rw [remain_lt (by unfold szAccessController; omega)]), hX0⟩
  obtain ⟨hp0, hv0⟩ := remain_pos (Int.not_lt.1 hq0)
  rw [hv0] at hq0 hbd0 ⊢
  clear hv0
  go_wp2_with fail
  refine (szReaderS_c _ x.readers _ _ (sReaderL.ext (by exact hX0) r3) (by omega) (by omega)).mono ?_
  rintro e w1 ⟨rfl, hx1⟩
  have hX1 : Ext w w1 := Ext.trans (by exact hX0) hx1
  have hbd1 := remain_bd (left - ((szL szKey) x.keys : Nat)) ((szL szReader) x.readers)
  by_cases hq1 : remain (left - ((szL szKey) x.keys : Nat)) ((szL szReader) x.readers) < 0
  · have hq' := remain_neg hq1
    go_wp2
    go_ret
    exact ⟨ret_int (by rw [remain_lt (by unfold szAccessController; omega)]), hX1⟩
  obtain ⟨hp1, hv1⟩ := remain_pos (Int.not_lt.1 hq1)
  rw [hv1] at hq1 hbd1 ⊢
  clear hv1
  go_wp2
  go_ret
  exact ⟨ret_int (by rw [remain_le (by unfold szAccessController; omega)]; unfold szAccessController; omega), hX1⟩

set_option maxHeartbeats 400000 in
theorem szByteS_c (v : Value) (l : (List UInt8)) (left : Int) (w : World) (h : sBytes.rd w [v] l) (h0 : 0 ≤ left) (h1 : left ≤ 1048576) :
    Calls Try.prog 138 #[v, .int .i64 left] w fun e w' => e = .returned (.int .i64 (remain left ((szL (fun _ => 0)) l))) ∧ Ext w w' := by
  obtain ⟨A, c, rfl, hl, hm⟩ := Shape.sl_form h
  unfold maxLen at hm
  have hlen := szL_len (fun _ => 0) l
  have H := Lib.hid h; clear h
  by_cases hlt : left < l.length
  · have hlt' : left - l.length < 0 := by omega
    go_enter Try.func138, Try.ntmps138
    go_wp2
    go_ret
    exact ⟨ret_int (remain_lt (by omega)).symm, Ext.refl _⟩
  · have hlt' : decide (left - l.length < 0) = false := by simp; omega
    have hge : (l.length : Int) ≤ left := by omega
    go_enter Try.func138, Try.ntmps138
    go_wp2
    go_ret
    exact ⟨ret_int (by rw [szL_zero, remain_le (by omega)]), Ext.refl _⟩
set_option maxHeartbeats 400000 in
theorem szData_c (cs : List Value) (x : DData) (left : Int) (w : World) (h : sData.rd w cs x) (h0 : 0 ≤ left) (h1 : left ≤ 1048576) :
    Calls Try.prog 109 #[.agg cs.toArray, .int .i64 left] w fun e w' => e = .returned (.int .i64 (remain left (szData x))) ∧ Ext w w' := by
  obtain ⟨c0, c1, c2, rfl, r0, r1, r2, r3, r4⟩ := sData_rd h
  go_enter Try.func109, Try.ntmps109
  go_wp2_with fail
  refine (szName_c _ x.name _ _ (strs.ext (by exact (Ext.refl _).alloc _) r0) (by omega) (by omega)).mono ?_
  rintro e w0 ⟨rfl, hx0⟩
  have hX0 : Ext w w0 := Ext.trans (by exact (Ext.refl _).alloc _) hx0
  have f0 : w0.cell? ⟨w.heap.size, 0, none⟩ = some (c0) := hx0.cell (by simp)
  have f1 : w0.cell? ⟨w.heap.size, 1, none⟩ = some (c1) := hx0.cell (by simp)
  have f2 : w0.cell? ⟨w.heap.size, 2, none⟩ = some (c2) := hx0.cell (by simp)
  have f3 : w0.cell? ⟨w.heap.size, 3, none⟩ = some (.int .i64 x.freshUntil) := hx0.cell (by simp)
  have f4 : w0.cell? ⟨w.heap.size, 4, none⟩ = some (.int .i64 x.signature) := hx0.cell (by simp)
  have hbd0 := remain_bd (left) ((szL ByteArray.size) x.name)
  by_cases hq0 : remain (left) ((szL ByteArray.size) x.name) < 0
  · have hq' := remain_neg hq0
    go_wp2
    go_ret
    exact ⟨ret_int (by rw [remain_lt (by unfold szData; omega)]), hX0⟩
  obtain ⟨hp0, hv0⟩ := remain_pos (Int.not_lt.1 hq0)
  rw [hv0] at hq0 hbd0 ⊢
  clear hv0
  go_wp2_with fail
  refine (szByteS_c _ x.content _ _ (sBytes.ext (by exact hX0) r1) (by omega) (by omega)).mono ?_
  rintro e w1 ⟨rfl, hx1⟩
  have hX1 : Ext w w1 := Ext.trans (by exact hX0) hx1
  have f0 : w1.cell? ⟨w.heap.size, 0, none⟩ = some (c0) := hx1.cell f0
  have f1 : w1.cell? ⟨w.heap.size, 1, none⟩ = some (c1) := hx1.cell f1
  have f2 : w1.cell? ⟨w.heap.size, 2, none⟩ = some (c2) := hx1.cell f2
  have f3 : w1.cell? ⟨w.heap.size, 3, none⟩ = some (.int .i64 x.freshUntil) := hx1.cell f3
  have f4 : w1.cell? ⟨w.heap.size, 4, none⟩ = some (.int .i64 x.signature) := hx1.cell f4
  have hbd1 := remain_bd (left - ((szL ByteArray.size) x.name : Nat)) ((szL (fun _ => 0)) x.content)
  by_cases hq1 : remain (left - ((szL ByteArray.size) x.name : Nat)) ((szL (fun _ => 0)) x.content) < 0
  · have hq' := remain_neg hq1
    go_wp2
    go_ret
    exact ⟨ret_int (by rw [remain_lt (by unfold szData; omega)]), hX1⟩
  obtain ⟨hp1, hv1⟩ := remain_pos (Int.not_lt.1 hq1)
  rw [hv1] at hq1 hbd1 ⊢
  clear hv1
  go_wp2_with fail
  refine (szName_c _ x.keyName _ _ (strs.ext (by exact hX1) r2) (by omega) (by omega)).mono ?_
  rintro e w2 ⟨rfl, hx2⟩
  have hX2 : Ext w w2 := Ext.trans (by exact hX1) hx2
  have hbd2 := remain_bd (left - ((szL ByteArray.size) x.name : Nat) - ((szL (fun _ => 0)) x.content : Nat)) ((szL ByteArray.size) x.keyName)
  by_cases hq2 : remain (left - ((szL ByteArray.size) x.name : Nat) - ((szL (fun _ => 0)) x.content : Nat)) ((szL ByteArray.size) x.keyName) < 0
  · have hq' := remain_neg hq2
    go_wp2
    go_ret
    exact ⟨ret_int (by rw [remain_lt (by unfold szData; omega)]), hX2⟩
  obtain ⟨hp2, hv2⟩ := remain_pos (Int.not_lt.1 hq2)
  rw [hv2] at hq2 hbd2 ⊢
  clear hv2
  go_wp2
  go_ret
  exact ⟨ret_int (by rw [remain_le (by unfold szData; omega)]; unfold szData; omega), hX2⟩

set_option maxHeartbeats 400000 in
theorem szDataS_c (v : Value) (l : (List DData)) (left : Int) (w : World) (h : sDataL.rd w [v] l) (h0 : 0 ≤ left) (h1 : left ≤ 1048576) :
    Calls Try.prog 66 #[v, .int .i64 left] w fun e w' => e = .returned (.int .i64 (remain left ((szL szData) l))) ∧ Ext w w' := by
  obtain ⟨A, c, rfl, hl, hm⟩ := Shape.sl_form h
  unfold maxLen at hm
  have hlen := szL_len szData l
  have H := Lib.hid h; clear h
  by_cases hlt : left < l.length
  · have hlt' : left - l.length < 0 := by omega
    go_enter Try.func66, Try.ntmps66
    go_wp2
    go_ret
    exact ⟨ret_int (remain_lt (by omega)).symm, Ext.refl _⟩
  · have hlt' : decide (left - l.length < 0) = false := by simp; omega
    have hge : (l.length : Int) ≤ left := by omega
    go_enter Try.func66, Try.ntmps66
    go_wp2
    go_loopw [1, 5] (fun t i wr => ∃ k : Nat, k ≤ l.length ∧ i = .int .i64 k ∧ t = .int .i64 (left - l.length - ((szL szData) (l.take k) - k)) ∧ ((szL szData) (l.take k) : Int) + l.length - k ≤ left ∧ Ext w wr) (fun _ i _ => l.length - (intOf i).toNat)
    case atStart => exact ⟨0, Nat.zero_le _, rfl, by simp [szL], by simp [szL]; omega, Ext.refl _⟩
    case round =>
      obtain ⟨k, hk, rfl, rfl, hinv, hx⟩ := hrel
      have hl1 := szL_len szData (l.take k)
      rw [List.length_take, Nat.min_eq_left hk] at hl1
      by_cases hlt : k < l.length
      · have HS := Lib.hid (szL_take szData l k hlt)
        have hl2 := szL_rest szData l (k + 1) hlt
        obtain ⟨b, off, es, rfl, hc, hr⟩ := Shape.sl_at (sDataL.ext hx H.out) hlt
        have hr' := hr
        obtain ⟨c0, c1, c2, rfl, r0, r1, r2, r3, r4⟩ := sData_rd hr
        have f0 := hc 0 _ rfl
        have f1 := hc 1 _ rfl
        have f2 := hc 2 _ rfl
        have f3 := hc 3 _ rfl
        have f4 := hc 4 _ rfl
        simp only [Nat.add_zero, show sData.k = 5 from rfl] at f0 f1 f2 f3 f4
        go_wp2_with fail
        refine (szData_c _ l[k] _ _ hr' (by omega) (by omega)).mono ?_
        rintro e w1 ⟨rfl, hx1⟩
        have hx2 := hx.trans hx1
        have hbd := remain_bd (left - l.length - ((szL szData) (l.take k) - k)) (szData l[k])
        by_cases hq : remain (left - l.length - ((szL szData) (l.take k) - k)) (szData l[k]) < 0
        · have hq' := remain_neg hq
          go_wp2
          go_ret
          have hh := HS.out
          exact ⟨ret_int (remain_lt (by omega)).symm, hx2⟩
        · obtain ⟨hq1, hq2⟩ := remain_pos (Int.not_lt.1 hq)
          have HQ := Lib.hid hq2
          rw [hq2] at hq hbd
          clear hq2
          rw [HQ.out]
          go_wp2
          have hh := HS.out
          go_roundw
          case rel => exact ⟨k + 1, by omega, by go_num, by rw [hh]; go_num, by rw [hh]; omega, hx2⟩
          case measure => simp [intOf]; omega
      · have : k = l.length := by omega
        subst this
        rw [List.take_length] at hinv hl1
        go_wp2
        go_ret
        simp only [List.take_length]
        exact ⟨ret_int (by rw [remain_le (by omega)]; omega), hx⟩

set_option maxHeartbeats 400000 in
theorem szCacheEntry_c (cs : List Value) (x : DCacheEntry) (left : Int) (w : World) (h : sCacheEntry.rd w cs x) (h0 : 0 ≤ left) (h1 : left ≤ 1048576) :
    Calls Try.prog 139 #[.agg cs.toArray, .int .i64 left] w fun e w' => e = .returned (.int .i64 (remain left (szCacheEntry x))) ∧ Ext w w' := by
  obtain ⟨c0, c1, c2, rfl, r0, r1⟩ := sCacheEntry_rd h
  go_enter Try.func139, Try.ntmps139
  go_wp2_with fail
  refine (szData_c _ x.data _ _ (sData.ext (by exact (Ext.refl _).alloc _) r0) (by omega) (by omega)).mono ?_
  rintro e w0 ⟨rfl, hx0⟩
  have hX0 : Ext w w0 := Ext.trans (by exact (Ext.refl _).alloc _) hx0
  have hbd0 := remain_bd (left) (szData x.data)
  by_cases hq0 : remain (left) (szData x.data) < 0
  · have hq' := remain_neg hq0
    go_wp2
    go_ret
    exact ⟨ret_int (by rw [remain_lt (by unfold szCacheEntry; omega)]), hX0⟩
  obtain ⟨hp0, hv0⟩ := remain_pos (Int.not_lt.1 hq0)
  rw [hv0] at hq0 hbd0 ⊢
  clear hv0
  go_wp2
  go_ret
  exact ⟨ret_int (by rw [remain_le (by unfold szCacheEntry; omega)]; unfold szCacheEntry; omega), hX0⟩

set_option maxHeartbeats 400000 in
theorem szCacheEntryS_c (v : Value) (l : (List DCacheEntry)) (left : Int) (w : World) (h : sCacheEntryL.rd w [v] l) (h0 : 0 ≤ left) (h1 : left ≤ 1048576) :
    Calls Try.prog 110 #[v, .int .i64 left] w fun e w' => e = .returned (.int .i64 (remain left ((szL szCacheEntry) l))) ∧ Ext w w' := by
  obtain ⟨A, c, rfl, hl, hm⟩ := Shape.sl_form h
  unfold maxLen at hm
  have hlen := szL_len szCacheEntry l
  have H := Lib.hid h; clear h
  by_cases hlt : left < l.length
  · have hlt' : left - l.length < 0 := by omega
    go_enter Try.func110, Try.ntmps110
    go_wp2
    go_ret
    exact ⟨ret_int (remain_lt (by omega)).symm, Ext.refl _⟩
  · have hlt' : decide (left - l.length < 0) = false := by simp; omega
    have hge : (l.length : Int) ≤ left := by omega
    go_enter Try.func110, Try.ntmps110
    go_wp2
    go_loopw [1, 5] (fun t i wr => ∃ k : Nat, k ≤ l.length ∧ i = .int .i64 k ∧ t = .int .i64 (left - l.length - ((szL szCacheEntry) (l.take k) - k)) ∧ ((szL szCacheEntry) (l.take k) : Int) + l.length - k ≤ left ∧ Ext w wr) (fun _ i _ => l.length - (intOf i).toNat)
    case atStart => exact ⟨0, Nat.zero_le _, rfl, by simp [szL], by simp [szL]; omega, Ext.refl _⟩
    case round =>
      obtain ⟨k, hk, rfl, rfl, hinv, hx⟩ := hrel
      have hl1 := szL_len szCacheEntry (l.take k)
      rw [List.length_take, Nat.min_eq_left hk] at hl1
      by_cases hlt : k < l.length
      · have HS := Lib.hid (szL_take szCacheEntry l k hlt)
        have hl2 := szL_rest szCacheEntry l (k + 1) hlt
        obtain ⟨b, off, es, rfl, hc, hr⟩ := Shape.sl_at (sCacheEntryL.ext hx H.out) hlt
        have hr' := hr
        obtain ⟨c0, c1, c2, rfl, r0, r1⟩ := sCacheEntry_rd hr
        have f0 := hc 0 _ rfl
        have f1 := hc 1 _ rfl
        have f2 := hc 2 _ rfl
        have f3 := hc 3 _ rfl
        have f4 := hc 4 _ rfl
        have f5 := hc 5 _ rfl
        simp only [Nat.add_zero, show sCacheEntry.k = 6 from rfl] at f0 f1 f2 f3 f4 f5
        go_wp2_with fail
        refine (szCacheEntry_c _ l[k] _ _ hr' (by omega) (by omega)).mono ?_
        rintro e w1 ⟨rfl, hx1⟩
        have hx2 := hx.trans hx1
        have hbd := remain_bd (left - l.length - ((szL szCacheEntry) (l.take k) - k)) (szCacheEntry l[k])
        by_cases hq : remain (left - l.length - ((szL szCacheEntry) (l.take k) - k)) (szCacheEntry l[k]) < 0
        · have hq' := remain_neg hq
          go_wp2
          go_ret
          have hh := HS.out
          exact ⟨ret_int (remain_lt (by omega)).symm, hx2⟩
        · obtain ⟨hq1, hq2⟩ := remain_pos (Int.not_lt.1 hq)
          have HQ := Lib.hid hq2
          rw [hq2] at hq hbd
          clear hq2
          rw [HQ.out]
          go_wp2
          have hh := HS.out
          go_roundw
          case rel => exact ⟨k + 1, by omega, by go_num, by rw [hh]; go_num, by rw [hh]; omega, hx2⟩
          case measure => simp [intOf]; omega
      · have : k = l.length := by omega
        subst this
        rw [List.take_length] at hinv hl1
        go_wp2
        go_ret
        simp only [List.take_length]
        exact ⟨ret_int (by rw [remain_le (by omega)]; omega), hx⟩

set_option maxHeartbeats 400000 in
theorem szContentStore_c (cs : List Value) (x : DContentStore) (left : Int) (w : World) (h : sContentStore.rd w cs x) (h0 : 0 ≤ left) (h1 : left ≤ 1048576) :
    Calls Try.prog 67 #[.agg cs.toArray, .int .i64 left] w fun e w' => e = .returned (.int .i64 (remain left (szContentStore x))) ∧ Ext w w' := by
  obtain ⟨c1, rfl, r0, r1⟩ := sContentStore_rd h
  go_enter Try.func67, Try.ntmps67
  go_wp2_with fail
  refine (szCacheEntryS_c _ x.entries _ _ (sCacheEntryL.ext (by exact (Ext.refl _).alloc _) r1) (by omega) (by omega)).mono ?_
  rintro e w0 ⟨rfl, hx0⟩
  have hX0 : Ext w w0 := Ext.trans (by exact (Ext.refl _).alloc _) hx0
  have hbd0 := remain_bd (left) ((szL szCacheEntry) x.entries)
  by_cases hq0 : remain (left) ((szL szCacheEntry) x.entries) < 0
  · have hq' := remain_neg hq0
    go_wp2
    go_ret
    exact ⟨ret_int (by rw [remain_lt (by unfold szContentStore; omega)]), hX0⟩
  obtain ⟨hp0, hv0⟩ := remain_pos (Int.not_lt.1 hq0)
  rw [hv0] at hq0 hbd0 ⊢
  clear hv0
  go_wp2
  go_ret
  exact ⟨ret_int (by rw [remain_le (by unfold szContentStore; omega)]; unfold szContentStore; omega), hX0⟩

set_option maxHeartbeats 400000 in
theorem szRequesterS_c (v : Value) (l : (List DRequester)) (left : Int) (w : World) (h : sRequesterL.rd w [v] l) (h0 : 0 ≤ left) (h1 : left ≤ 1048576) :
    Calls Try.prog 140 #[v, .int .i64 left] w fun e w' => e = .returned (.int .i64 (remain left ((szL (fun _ => 0)) l))) ∧ Ext w w' := by
  obtain ⟨A, c, rfl, hl, hm⟩ := Shape.sl_form h
  unfold maxLen at hm
  have hlen := szL_len (fun _ => 0) l
  have H := Lib.hid h; clear h
  by_cases hlt : left < l.length
  · have hlt' : left - l.length < 0 := by omega
    go_enter Try.func140, Try.ntmps140
    go_wp2
    go_ret
    exact ⟨ret_int (remain_lt (by omega)).symm, Ext.refl _⟩
  · have hlt' : decide (left - l.length < 0) = false := by simp; omega
    have hge : (l.length : Int) ≤ left := by omega
    go_enter Try.func140, Try.ntmps140
    go_wp2
    go_ret
    exact ⟨ret_int (by rw [szL_zero, remain_le (by omega)]), Ext.refl _⟩
set_option maxHeartbeats 400000 in
theorem szPendingInterest_c (cs : List Value) (x : DPendingInterest) (left : Int) (w : World) (h : sPendingInterest.rd w cs x) (h0 : 0 ≤ left) (h1 : left ≤ 1048576) :
    Calls Try.prog 111 #[.agg cs.toArray, .int .i64 left] w fun e w' => e = .returned (.int .i64 (remain left (szPendingInterest x))) ∧ Ext w w' := by
  obtain ⟨c0, c1, rfl, r0, r1, r2⟩ := sPendingInterest_rd h
  go_enter Try.func111, Try.ntmps111
  go_wp2_with fail
  refine (szName_c _ x.name _ _ (strs.ext (by exact (Ext.refl _).alloc _) r0) (by omega) (by omega)).mono ?_
  rintro e w0 ⟨rfl, hx0⟩
  have hX0 : Ext w w0 := Ext.trans (by exact (Ext.refl _).alloc _) hx0
  have f0 : w0.cell? ⟨w.heap.size, 0, none⟩ = some (c0) := hx0.cell (by simp)
  have f1 : w0.cell? ⟨w.heap.size, 1, none⟩ = some (c1) := hx0.cell (by simp)
  have f2 : w0.cell? ⟨w.heap.size, 2, none⟩ = some (.int .i64 x.lastSent) := hx0.cell (by simp)
  have hbd0 := remain_bd (left) ((szL ByteArray.size) x.name)
  by_cases hq0 : remain (left) ((szL ByteArray.size) x.name) < 0
  · have hq' := remain_neg hq0
    go_wp2
    go_ret
    exact ⟨ret_int (by rw [remain_lt (by unfold szPendingInterest; omega)]), hX0⟩
  obtain ⟨hp0, hv0⟩ := remain_pos (Int.not_lt.1 hq0)
  rw [hv0] at hq0 hbd0 ⊢
  clear hv0
  go_wp2_with fail
  refine (szRequesterS_c _ x.requesters _ _ (sRequesterL.ext (by exact hX0) r1) (by omega) (by omega)).mono ?_
  rintro e w1 ⟨rfl, hx1⟩
  have hX1 : Ext w w1 := Ext.trans (by exact hX0) hx1
  have hbd1 := remain_bd (left - ((szL ByteArray.size) x.name : Nat)) ((szL (fun _ => 0)) x.requesters)
  by_cases hq1 : remain (left - ((szL ByteArray.size) x.name : Nat)) ((szL (fun _ => 0)) x.requesters) < 0
  · have hq' := remain_neg hq1
    go_wp2
    go_ret
    exact ⟨ret_int (by rw [remain_lt (by unfold szPendingInterest; omega)]), hX1⟩
  obtain ⟨hp1, hv1⟩ := remain_pos (Int.not_lt.1 hq1)
  rw [hv1] at hq1 hbd1 ⊢
  clear hv1
  go_wp2
  go_ret
  exact ⟨ret_int (by rw [remain_le (by unfold szPendingInterest; omega)]; unfold szPendingInterest; omega), hX1⟩

set_option maxHeartbeats 400000 in
theorem szPendingInterestS_c (v : Value) (l : (List DPendingInterest)) (left : Int) (w : World) (h : sPendingInterestL.rd w [v] l) (h0 : 0 ≤ left) (h1 : left ≤ 1048576) :
    Calls Try.prog 68 #[v, .int .i64 left] w fun e w' => e = .returned (.int .i64 (remain left ((szL szPendingInterest) l))) ∧ Ext w w' := by
  obtain ⟨A, c, rfl, hl, hm⟩ := Shape.sl_form h
  unfold maxLen at hm
  have hlen := szL_len szPendingInterest l
  have H := Lib.hid h; clear h
  by_cases hlt : left < l.length
  · have hlt' : left - l.length < 0 := by omega
    go_enter Try.func68, Try.ntmps68
    go_wp2
    go_ret
    exact ⟨ret_int (remain_lt (by omega)).symm, Ext.refl _⟩
  · have hlt' : decide (left - l.length < 0) = false := by simp; omega
    have hge : (l.length : Int) ≤ left := by omega
    go_enter Try.func68, Try.ntmps68
    go_wp2
    go_loopw [1, 5] (fun t i wr => ∃ k : Nat, k ≤ l.length ∧ i = .int .i64 k ∧ t = .int .i64 (left - l.length - ((szL szPendingInterest) (l.take k) - k)) ∧ ((szL szPendingInterest) (l.take k) : Int) + l.length - k ≤ left ∧ Ext w wr) (fun _ i _ => l.length - (intOf i).toNat)
    case atStart => exact ⟨0, Nat.zero_le _, rfl, by simp [szL], by simp [szL]; omega, Ext.refl _⟩
    case round =>
      obtain ⟨k, hk, rfl, rfl, hinv, hx⟩ := hrel
      have hl1 := szL_len szPendingInterest (l.take k)
      rw [List.length_take, Nat.min_eq_left hk] at hl1
      by_cases hlt : k < l.length
      · have HS := Lib.hid (szL_take szPendingInterest l k hlt)
        have hl2 := szL_rest szPendingInterest l (k + 1) hlt
        obtain ⟨b, off, es, rfl, hc, hr⟩ := Shape.sl_at (sPendingInterestL.ext hx H.out) hlt
        have hr' := hr
        obtain ⟨c0, c1, rfl, r0, r1, r2⟩ := sPendingInterest_rd hr
        have f0 := hc 0 _ rfl
        have f1 := hc 1 _ rfl
        have f2 := hc 2 _ rfl
        simp only [Nat.add_zero, show sPendingInterest.k = 3 from rfl] at f0 f1 f2
        go_wp2_with fail
        refine (szPendingInterest_c _ l[k] _ _ hr' (by omega) (by omega)).mono ?_
        rintro e w1 ⟨rfl, hx1⟩
        have hx2 := hx.trans hx1
        have hbd := remain_bd (left - l.length - ((szL szPendingInterest) (l.take k) - k)) (szPendingInterest l[k])
        by_cases hq : remain (left - l.length - ((szL szPendingInterest) (l.take k) - k)) (szPendingInterest l[k]) < 0
        · have hq' := remain_neg hq
          go_wp2
          go_ret
          have hh := HS.out
          exact ⟨ret_int (remain_lt (by omega)).symm, hx2⟩
        · obtain ⟨hq1, hq2⟩ := remain_pos (Int.not_lt.1 hq)
          have HQ := Lib.hid hq2
          rw [hq2] at hq hbd
          clear hq2
          rw [HQ.out]
          go_wp2
          have hh := HS.out
          go_roundw
          case rel => exact ⟨k + 1, by omega, by go_num, by rw [hh]; go_num, by rw [hh]; omega, hx2⟩
          case measure => simp [intOf]; omega
      · have : k = l.length := by omega
        subst this
        rw [List.take_length] at hinv hl1
        go_wp2
        go_ret
        simp only [List.take_length]
        exact ⟨ret_int (by rw [remain_le (by omega)]; omega), hx⟩

set_option maxHeartbeats 400000 in
theorem szSeenNonce_c (cs : List Value) (x : DSeenNonce) (left : Int) (w : World) (h : sSeenNonce.rd w cs x) (h0 : 0 ≤ left) (h1 : left ≤ 1048576) :
    Calls Try.prog 112 #[.agg cs.toArray, .int .i64 left] w fun e w' => e = .returned (.int .i64 (remain left (szSeenNonce x))) ∧ Ext w w' := by
  obtain ⟨c0, rfl, r0, r1⟩ := sSeenNonce_rd h
  go_enter Try.func112, Try.ntmps112
  go_wp2_with fail
  refine (szName_c _ x.name _ _ (strs.ext (by exact (Ext.refl _).alloc _) r0) (by omega) (by omega)).mono ?_
  rintro e w0 ⟨rfl, hx0⟩
  have hX0 : Ext w w0 := Ext.trans (by exact (Ext.refl _).alloc _) hx0
  have hbd0 := remain_bd (left) ((szL ByteArray.size) x.name)
  by_cases hq0 : remain (left) ((szL ByteArray.size) x.name) < 0
  · have hq' := remain_neg hq0
    go_wp2
    go_ret
    exact ⟨ret_int (by rw [remain_lt (by unfold szSeenNonce; omega)]), hX0⟩
  obtain ⟨hp0, hv0⟩ := remain_pos (Int.not_lt.1 hq0)
  rw [hv0] at hq0 hbd0 ⊢
  clear hv0
  go_wp2
  go_ret
  exact ⟨ret_int (by rw [remain_le (by unfold szSeenNonce; omega)]; unfold szSeenNonce; omega), hX0⟩

set_option maxHeartbeats 400000 in
theorem szSeenNonceS_c (v : Value) (l : (List DSeenNonce)) (left : Int) (w : World) (h : sSeenNonceL.rd w [v] l) (h0 : 0 ≤ left) (h1 : left ≤ 1048576) :
    Calls Try.prog 69 #[v, .int .i64 left] w fun e w' => e = .returned (.int .i64 (remain left ((szL szSeenNonce) l))) ∧ Ext w w' := by
  obtain ⟨A, c, rfl, hl, hm⟩ := Shape.sl_form h
  unfold maxLen at hm
  have hlen := szL_len szSeenNonce l
  have H := Lib.hid h; clear h
  by_cases hlt : left < l.length
  · have hlt' : left - l.length < 0 := by omega
    go_enter Try.func69, Try.ntmps69
    go_wp2
    go_ret
    exact ⟨ret_int (remain_lt (by omega)).symm, Ext.refl _⟩
  · have hlt' : decide (left - l.length < 0) = false := by simp; omega
    have hge : (l.length : Int) ≤ left := by omega
    go_enter Try.func69, Try.ntmps69
    go_wp2
    go_loopw [1, 5] (fun t i wr => ∃ k : Nat, k ≤ l.length ∧ i = .int .i64 k ∧ t = .int .i64 (left - l.length - ((szL szSeenNonce) (l.take k) - k)) ∧ ((szL szSeenNonce) (l.take k) : Int) + l.length - k ≤ left ∧ Ext w wr) (fun _ i _ => l.length - (intOf i).toNat)
    case atStart => exact ⟨0, Nat.zero_le _, rfl, by simp [szL], by simp [szL]; omega, Ext.refl _⟩
    case round =>
      obtain ⟨k, hk, rfl, rfl, hinv, hx⟩ := hrel
      have hl1 := szL_len szSeenNonce (l.take k)
      rw [List.length_take, Nat.min_eq_left hk] at hl1
      by_cases hlt : k < l.length
      · have HS := Lib.hid (szL_take szSeenNonce l k hlt)
        have hl2 := szL_rest szSeenNonce l (k + 1) hlt
        obtain ⟨b, off, es, rfl, hc, hr⟩ := Shape.sl_at (sSeenNonceL.ext hx H.out) hlt
        have hr' := hr
        obtain ⟨c0, rfl, r0, r1⟩ := sSeenNonce_rd hr
        have f0 := hc 0 _ rfl
        have f1 := hc 1 _ rfl
        simp only [Nat.add_zero, show sSeenNonce.k = 2 from rfl] at f0 f1
        go_wp2_with fail
        refine (szSeenNonce_c _ l[k] _ _ hr' (by omega) (by omega)).mono ?_
        rintro e w1 ⟨rfl, hx1⟩
        have hx2 := hx.trans hx1
        have hbd := remain_bd (left - l.length - ((szL szSeenNonce) (l.take k) - k)) (szSeenNonce l[k])
        by_cases hq : remain (left - l.length - ((szL szSeenNonce) (l.take k) - k)) (szSeenNonce l[k]) < 0
        · have hq' := remain_neg hq
          go_wp2
          go_ret
          have hh := HS.out
          exact ⟨ret_int (remain_lt (by omega)).symm, hx2⟩
        · obtain ⟨hq1, hq2⟩ := remain_pos (Int.not_lt.1 hq)
          have HQ := Lib.hid hq2
          rw [hq2] at hq hbd
          clear hq2
          rw [HQ.out]
          go_wp2
          have hh := HS.out
          go_roundw
          case rel => exact ⟨k + 1, by omega, by go_num, by rw [hh]; go_num, by rw [hh]; omega, hx2⟩
          case measure => simp [intOf]; omega
      · have : k = l.length := by omega
        subst this
        rw [List.take_length] at hinv hl1
        go_wp2
        go_ret
        simp only [List.take_length]
        exact ⟨ret_int (by rw [remain_le (by omega)]; omega), hx⟩

set_option maxHeartbeats 400000 in
theorem szRoute_c (cs : List Value) (x : DRoute) (left : Int) (w : World) (h : sRoute.rd w cs x) (h0 : 0 ≤ left) (h1 : left ≤ 1048576) :
    Calls Try.prog 113 #[.agg cs.toArray, .int .i64 left] w fun e w' => e = .returned (.int .i64 (remain left (szRoute x))) ∧ Ext w w' := by
  obtain ⟨c0, rfl, r0, r1, r2⟩ := sRoute_rd h
  go_enter Try.func113, Try.ntmps113
  go_wp2_with fail
  refine (szName_c _ x.pfx _ _ (strs.ext (by exact (Ext.refl _).alloc _) r0) (by omega) (by omega)).mono ?_
  rintro e w0 ⟨rfl, hx0⟩
  have hX0 : Ext w w0 := Ext.trans (by exact (Ext.refl _).alloc _) hx0
  have hbd0 := remain_bd (left) ((szL ByteArray.size) x.pfx)
  by_cases hq0 : remain (left) ((szL ByteArray.size) x.pfx) < 0
  · have hq' := remain_neg hq0
    go_wp2
    go_ret
    exact ⟨ret_int (by rw [remain_lt (by unfold szRoute; omega)]), hX0⟩
  obtain ⟨hp0, hv0⟩ := remain_pos (Int.not_lt.1 hq0)
  rw [hv0] at hq0 hbd0 ⊢
  clear hv0
  go_wp2
  go_ret
  exact ⟨ret_int (by rw [remain_le (by unfold szRoute; omega)]; unfold szRoute; omega), hX0⟩

set_option maxHeartbeats 400000 in
theorem szRouteS_c (v : Value) (l : (List DRoute)) (left : Int) (w : World) (h : sRouteL.rd w [v] l) (h0 : 0 ≤ left) (h1 : left ≤ 1048576) :
    Calls Try.prog 70 #[v, .int .i64 left] w fun e w' => e = .returned (.int .i64 (remain left ((szL szRoute) l))) ∧ Ext w w' := by
  obtain ⟨A, c, rfl, hl, hm⟩ := Shape.sl_form h
  unfold maxLen at hm
  have hlen := szL_len szRoute l
  have H := Lib.hid h; clear h
  by_cases hlt : left < l.length
  · have hlt' : left - l.length < 0 := by omega
    go_enter Try.func70, Try.ntmps70
    go_wp2
    go_ret
    exact ⟨ret_int (remain_lt (by omega)).symm, Ext.refl _⟩
  · have hlt' : decide (left - l.length < 0) = false := by simp; omega
    have hge : (l.length : Int) ≤ left := by omega
    go_enter Try.func70, Try.ntmps70
    go_wp2
    go_loopw [1, 5] (fun t i wr => ∃ k : Nat, k ≤ l.length ∧ i = .int .i64 k ∧ t = .int .i64 (left - l.length - ((szL szRoute) (l.take k) - k)) ∧ ((szL szRoute) (l.take k) : Int) + l.length - k ≤ left ∧ Ext w wr) (fun _ i _ => l.length - (intOf i).toNat)
    case atStart => exact ⟨0, Nat.zero_le _, rfl, by simp [szL], by simp [szL]; omega, Ext.refl _⟩
    case round =>
      obtain ⟨k, hk, rfl, rfl, hinv, hx⟩ := hrel
      have hl1 := szL_len szRoute (l.take k)
      rw [List.length_take, Nat.min_eq_left hk] at hl1
      by_cases hlt : k < l.length
      · have HS := Lib.hid (szL_take szRoute l k hlt)
        have hl2 := szL_rest szRoute l (k + 1) hlt
        obtain ⟨b, off, es, rfl, hc, hr⟩ := Shape.sl_at (sRouteL.ext hx H.out) hlt
        have hr' := hr
        obtain ⟨c0, rfl, r0, r1, r2⟩ := sRoute_rd hr
        have f0 := hc 0 _ rfl
        have f1 := hc 1 _ rfl
        have f2 := hc 2 _ rfl
        simp only [Nat.add_zero, show sRoute.k = 3 from rfl] at f0 f1 f2
        go_wp2_with fail
        refine (szRoute_c _ l[k] _ _ hr' (by omega) (by omega)).mono ?_
        rintro e w1 ⟨rfl, hx1⟩
        have hx2 := hx.trans hx1
        have hbd := remain_bd (left - l.length - ((szL szRoute) (l.take k) - k)) (szRoute l[k])
        by_cases hq : remain (left - l.length - ((szL szRoute) (l.take k) - k)) (szRoute l[k]) < 0
        · have hq' := remain_neg hq
          go_wp2
          go_ret
          have hh := HS.out
          exact ⟨ret_int (remain_lt (by omega)).symm, hx2⟩
        · obtain ⟨hq1, hq2⟩ := remain_pos (Int.not_lt.1 hq)
          have HQ := Lib.hid hq2
          rw [hq2] at hq hbd
          clear hq2
          rw [HQ.out]
          go_wp2
          have hh := HS.out
          go_roundw
          case rel => exact ⟨k + 1, by omega, by go_num, by rw [hh]; go_num, by rw [hh]; omega, hx2⟩
          case measure => simp [intOf]; omega
      · have : k = l.length := by omega
        subst this
        rw [List.take_length] at hinv hl1
        go_wp2
        go_ret
        simp only [List.take_length]
        exact ⟨ret_int (by rw [remain_le (by omega)]; omega), hx⟩

set_option maxHeartbeats 400000 in
theorem szMeasurement_c (cs : List Value) (x : DMeasurement) (left : Int) (w : World) (h : sMeasurement.rd w cs x) (h0 : 0 ≤ left) (h1 : left ≤ 1048576) :
    Calls Try.prog 114 #[.agg cs.toArray, .int .i64 left] w fun e w' => e = .returned (.int .i64 (remain left (szMeasurement x))) ∧ Ext w w' := by
  obtain ⟨c0, rfl, r0, r1, r2⟩ := sMeasurement_rd h
  go_enter Try.func114, Try.ntmps114
  go_wp2_with fail
  refine (szName_c _ x.pfx _ _ (strs.ext (by exact (Ext.refl _).alloc _) r0) (by omega) (by omega)).mono ?_
  rintro e w0 ⟨rfl, hx0⟩
  have hX0 : Ext w w0 := Ext.trans (by exact (Ext.refl _).alloc _) hx0
  have hbd0 := remain_bd (left) ((szL ByteArray.size) x.pfx)
  by_cases hq0 : remain (left) ((szL ByteArray.size) x.pfx) < 0
  · have hq' := remain_neg hq0
    go_wp2
    go_ret
    exact ⟨ret_int (by rw [remain_lt (by unfold szMeasurement; omega)]), hX0⟩
  obtain ⟨hp0, hv0⟩ := remain_pos (Int.not_lt.1 hq0)
  rw [hv0] at hq0 hbd0 ⊢
  clear hv0
  go_wp2
  go_ret
  exact ⟨ret_int (by rw [remain_le (by unfold szMeasurement; omega)]; unfold szMeasurement; omega), hX0⟩

set_option maxHeartbeats 400000 in
theorem szMeasurementS_c (v : Value) (l : (List DMeasurement)) (left : Int) (w : World) (h : sMeasurementL.rd w [v] l) (h0 : 0 ≤ left) (h1 : left ≤ 1048576) :
    Calls Try.prog 71 #[v, .int .i64 left] w fun e w' => e = .returned (.int .i64 (remain left ((szL szMeasurement) l))) ∧ Ext w w' := by
  obtain ⟨A, c, rfl, hl, hm⟩ := Shape.sl_form h
  unfold maxLen at hm
  have hlen := szL_len szMeasurement l
  have H := Lib.hid h; clear h
  by_cases hlt : left < l.length
  · have hlt' : left - l.length < 0 := by omega
    go_enter Try.func71, Try.ntmps71
    go_wp2
    go_ret
    exact ⟨ret_int (remain_lt (by omega)).symm, Ext.refl _⟩
  · have hlt' : decide (left - l.length < 0) = false := by simp; omega
    have hge : (l.length : Int) ≤ left := by omega
    go_enter Try.func71, Try.ntmps71
    go_wp2
    go_loopw [1, 5] (fun t i wr => ∃ k : Nat, k ≤ l.length ∧ i = .int .i64 k ∧ t = .int .i64 (left - l.length - ((szL szMeasurement) (l.take k) - k)) ∧ ((szL szMeasurement) (l.take k) : Int) + l.length - k ≤ left ∧ Ext w wr) (fun _ i _ => l.length - (intOf i).toNat)
    case atStart => exact ⟨0, Nat.zero_le _, rfl, by simp [szL], by simp [szL]; omega, Ext.refl _⟩
    case round =>
      obtain ⟨k, hk, rfl, rfl, hinv, hx⟩ := hrel
      have hl1 := szL_len szMeasurement (l.take k)
      rw [List.length_take, Nat.min_eq_left hk] at hl1
      by_cases hlt : k < l.length
      · have HS := Lib.hid (szL_take szMeasurement l k hlt)
        have hl2 := szL_rest szMeasurement l (k + 1) hlt
        obtain ⟨b, off, es, rfl, hc, hr⟩ := Shape.sl_at (sMeasurementL.ext hx H.out) hlt
        have hr' := hr
        obtain ⟨c0, rfl, r0, r1, r2⟩ := sMeasurement_rd hr
        have f0 := hc 0 _ rfl
        have f1 := hc 1 _ rfl
        have f2 := hc 2 _ rfl
        simp only [Nat.add_zero, show sMeasurement.k = 3 from rfl] at f0 f1 f2
        go_wp2_with fail
        refine (szMeasurement_c _ l[k] _ _ hr' (by omega) (by omega)).mono ?_
        rintro e w1 ⟨rfl, hx1⟩
        have hx2 := hx.trans hx1
        have hbd := remain_bd (left - l.length - ((szL szMeasurement) (l.take k) - k)) (szMeasurement l[k])
        by_cases hq : remain (left - l.length - ((szL szMeasurement) (l.take k) - k)) (szMeasurement l[k]) < 0
        · have hq' := remain_neg hq
          go_wp2
          go_ret
          have hh := HS.out
          exact ⟨ret_int (remain_lt (by omega)).symm, hx2⟩
        · obtain ⟨hq1, hq2⟩ := remain_pos (Int.not_lt.1 hq)
          have HQ := Lib.hid hq2
          rw [hq2] at hq hbd
          clear hq2
          rw [HQ.out]
          go_wp2
          have hh := HS.out
          go_roundw
          case rel => exact ⟨k + 1, by omega, by go_num, by rw [hh]; go_num, by rw [hh]; omega, hx2⟩
          case measure => simp [intOf]; omega
      · have : k = l.length := by omega
        subst this
        rw [List.take_length] at hinv hl1
        go_wp2
        go_ret
        simp only [List.take_length]
        exact ⟨ret_int (by rw [remain_le (by omega)]; omega), hx⟩

set_option maxHeartbeats 400000 in
theorem szNode_c (cs : List Value) (x : DNode) (left : Int) (w : World) (h : sNode.rd w cs x) (h0 : 0 ≤ left) (h1 : left ≤ 1048576) :
    Calls Try.prog 26 #[.agg cs.toArray, .int .i64 left] w fun e w' => e = .returned (.int .i64 (remain left (szNode x))) ∧ Ext w w' := by
  obtain ⟨c0, c2, c3, c4, c5, c6, rfl, r0, r1, r2, r3, r4, r5, r6⟩ := sNode_rd h
  go_enter Try.func26, Try.ntmps26
  go_wp2_with fail
  refine (szDataS_c _ x.locals _ _ (sDataL.ext (by exact (Ext.refl _).alloc _) r0) (by omega) (by omega)).mono ?_
  rintro e w0 ⟨rfl, hx0⟩
  have hX0 : Ext w w0 := Ext.trans (by exact (Ext.refl _).alloc _) hx0
  have f0 : w0.cell? ⟨w.heap.size, 0, none⟩ = some (c0) := hx0.cell (by simp)
  have f1 : w0.cell? ⟨w.heap.size, 1, none⟩ = some (.int .i64 x.cache.capacity) := hx0.cell (by simp)
  have f2 : w0.cell? ⟨w.heap.size, 2, none⟩ = some (c2) := hx0.cell (by simp)
  have f3 : w0.cell? ⟨w.heap.size, 3, none⟩ = some (c3) := hx0.cell (by simp)
  have f4 : w0.cell? ⟨w.heap.size, 4, none⟩ = some (c4) := hx0.cell (by simp)
  have f5 : w0.cell? ⟨w.heap.size, 5, none⟩ = some (c5) := hx0.cell (by simp)
  have f6 : w0.cell? ⟨w.heap.size, 6, none⟩ = some (c6) := hx0.cell (by simp)
  have f7 : w0.cell? ⟨w.heap.size, 7, none⟩ = some (.int .i64 x.dropped) := hx0.cell (by simp)
  have hbd0 := remain_bd (left) ((szL szData) x.locals)
  by_cases hq0 : remain (left) ((szL szData) x.locals) < 0
  · have hq' := remain_neg hq0
    go_wp2
    go_ret
    exact ⟨ret_int (by rw [remain_lt (by unfold szNode; omega)]), hX0⟩
  obtain ⟨hp0, hv0⟩ := remain_pos (Int.not_lt.1 hq0)
  rw [hv0] at hq0 hbd0 ⊢
  clear hv0
  go_wp2_with fail
  refine (szContentStore_c _ x.cache _ _ (sContentStore.ext (by exact hX0) r1) (by omega) (by omega)).mono ?_
  rintro e w1 ⟨rfl, hx1⟩
  have hX1 : Ext w w1 := Ext.trans (by exact hX0) hx1
  have f0 : w1.cell? ⟨w.heap.size, 0, none⟩ = some (c0) := hx1.cell f0
  have f1 : w1.cell? ⟨w.heap.size, 1, none⟩ = some (.int .i64 x.cache.capacity) := hx1.cell f1
  have f2 : w1.cell? ⟨w.heap.size, 2, none⟩ = some (c2) := hx1.cell f2
  have f3 : w1.cell? ⟨w.heap.size, 3, none⟩ = some (c3) := hx1.cell f3
  have f4 : w1.cell? ⟨w.heap.size, 4, none⟩ = some (c4) := hx1.cell f4
  have f5 : w1.cell? ⟨w.heap.size, 5, none⟩ = some (c5) := hx1.cell f5
  have f6 : w1.cell? ⟨w.heap.size, 6, none⟩ = some (c6) := hx1.cell f6
  have f7 : w1.cell? ⟨w.heap.size, 7, none⟩ = some (.int .i64 x.dropped) := hx1.cell f7
  have hbd1 := remain_bd (left - ((szL szData) x.locals : Nat)) (szContentStore x.cache)
  by_cases hq1 : remain (left - ((szL szData) x.locals : Nat)) (szContentStore x.cache) < 0
  · have hq' := remain_neg hq1
    go_wp2
    go_ret
    exact ⟨ret_int (by rw [remain_lt (by unfold szNode; omega)]), hX1⟩
  obtain ⟨hp1, hv1⟩ := remain_pos (Int.not_lt.1 hq1)
  rw [hv1] at hq1 hbd1 ⊢
  clear hv1
  go_wp2_with fail
  refine (szPendingInterestS_c _ x.pending _ _ (sPendingInterestL.ext (by exact hX1) r2) (by omega) (by omega)).mono ?_
  rintro e w2 ⟨rfl, hx2⟩
  have hX2 : Ext w w2 := Ext.trans (by exact hX1) hx2
  have f0 : w2.cell? ⟨w.heap.size, 0, none⟩ = some (c0) := hx2.cell f0
  have f1 : w2.cell? ⟨w.heap.size, 1, none⟩ = some (.int .i64 x.cache.capacity) := hx2.cell f1
  have f2 : w2.cell? ⟨w.heap.size, 2, none⟩ = some (c2) := hx2.cell f2
  have f3 : w2.cell? ⟨w.heap.size, 3, none⟩ = some (c3) := hx2.cell f3
  have f4 : w2.cell? ⟨w.heap.size, 4, none⟩ = some (c4) := hx2.cell f4
  have f5 : w2.cell? ⟨w.heap.size, 5, none⟩ = some (c5) := hx2.cell f5
  have f6 : w2.cell? ⟨w.heap.size, 6, none⟩ = some (c6) := hx2.cell f6
  have f7 : w2.cell? ⟨w.heap.size, 7, none⟩ = some (.int .i64 x.dropped) := hx2.cell f7
  have hbd2 := remain_bd (left - ((szL szData) x.locals : Nat) - (szContentStore x.cache : Nat)) ((szL szPendingInterest) x.pending)
  by_cases hq2 : remain (left - ((szL szData) x.locals : Nat) - (szContentStore x.cache : Nat)) ((szL szPendingInterest) x.pending) < 0
  · have hq' := remain_neg hq2
    go_wp2
    go_ret
    exact ⟨ret_int (by rw [remain_lt (by unfold szNode; omega)]), hX2⟩
  obtain ⟨hp2, hv2⟩ := remain_pos (Int.not_lt.1 hq2)
  rw [hv2] at hq2 hbd2 ⊢
  clear hv2
  go_wp2_with fail
  refine (szSeenNonceS_c _ x.seen _ _ (sSeenNonceL.ext (by exact hX2) r3) (by omega) (by omega)).mono ?_
  rintro e w3 ⟨rfl, hx3⟩
  have hX3 : Ext w w3 := Ext.trans (by exact hX2) hx3
  have f0 : w3.cell? ⟨w.heap.size, 0, none⟩ = some (c0) := hx3.cell f0
  have f1 : w3.cell? ⟨w.heap.size, 1, none⟩ = some (.int .i64 x.cache.capacity) := hx3.cell f1
  have f2 : w3.cell? ⟨w.heap.size, 2, none⟩ = some (c2) := hx3.cell f2
  have f3 : w3.cell? ⟨w.heap.size, 3, none⟩ = some (c3) := hx3.cell f3
  have f4 : w3.cell? ⟨w.heap.size, 4, none⟩ = some (c4) := hx3.cell f4
  have f5 : w3.cell? ⟨w.heap.size, 5, none⟩ = some (c5) := hx3.cell f5
  have f6 : w3.cell? ⟨w.heap.size, 6, none⟩ = some (c6) := hx3.cell f6
  have f7 : w3.cell? ⟨w.heap.size, 7, none⟩ = some (.int .i64 x.dropped) := hx3.cell f7
  have hbd3 := remain_bd (left - ((szL szData) x.locals : Nat) - (szContentStore x.cache : Nat) - ((szL szPendingInterest) x.pending : Nat)) ((szL szSeenNonce) x.seen)
  by_cases hq3 : remain (left - ((szL szData) x.locals : Nat) - (szContentStore x.cache : Nat) - ((szL szPendingInterest) x.pending : Nat)) ((szL szSeenNonce) x.seen) < 0
  · have hq' := remain_neg hq3
    go_wp2
    go_ret
    exact ⟨ret_int (by rw [remain_lt (by unfold szNode; omega)]), hX3⟩
  obtain ⟨hp3, hv3⟩ := remain_pos (Int.not_lt.1 hq3)
  rw [hv3] at hq3 hbd3 ⊢
  clear hv3
  go_wp2_with fail
  refine (szRouteS_c _ x.routes _ _ (sRouteL.ext (by exact hX3) r4) (by omega) (by omega)).mono ?_
  rintro e w4 ⟨rfl, hx4⟩
  have hX4 : Ext w w4 := Ext.trans (by exact hX3) hx4
  have f0 : w4.cell? ⟨w.heap.size, 0, none⟩ = some (c0) := hx4.cell f0
  have f1 : w4.cell? ⟨w.heap.size, 1, none⟩ = some (.int .i64 x.cache.capacity) := hx4.cell f1
  have f2 : w4.cell? ⟨w.heap.size, 2, none⟩ = some (c2) := hx4.cell f2
  have f3 : w4.cell? ⟨w.heap.size, 3, none⟩ = some (c3) := hx4.cell f3
  have f4 : w4.cell? ⟨w.heap.size, 4, none⟩ = some (c4) := hx4.cell f4
  have f5 : w4.cell? ⟨w.heap.size, 5, none⟩ = some (c5) := hx4.cell f5
  have f6 : w4.cell? ⟨w.heap.size, 6, none⟩ = some (c6) := hx4.cell f6
  have f7 : w4.cell? ⟨w.heap.size, 7, none⟩ = some (.int .i64 x.dropped) := hx4.cell f7
  have hbd4 := remain_bd (left - ((szL szData) x.locals : Nat) - (szContentStore x.cache : Nat) - ((szL szPendingInterest) x.pending : Nat) - ((szL szSeenNonce) x.seen : Nat)) ((szL szRoute) x.routes)
  by_cases hq4 : remain (left - ((szL szData) x.locals : Nat) - (szContentStore x.cache : Nat) - ((szL szPendingInterest) x.pending : Nat) - ((szL szSeenNonce) x.seen : Nat)) ((szL szRoute) x.routes) < 0
  · have hq' := remain_neg hq4
    go_wp2
    go_ret
    exact ⟨ret_int (by rw [remain_lt (by unfold szNode; omega)]), hX4⟩
  obtain ⟨hp4, hv4⟩ := remain_pos (Int.not_lt.1 hq4)
  rw [hv4] at hq4 hbd4 ⊢
  clear hv4
  go_wp2_with fail
  refine (szMeasurementS_c _ x.measurements _ _ (sMeasurementL.ext (by exact hX4) r5) (by omega) (by omega)).mono ?_
  rintro e w5 ⟨rfl, hx5⟩
  have hX5 : Ext w w5 := Ext.trans (by exact hX4) hx5
  have hbd5 := remain_bd (left - ((szL szData) x.locals : Nat) - (szContentStore x.cache : Nat) - ((szL szPendingInterest) x.pending : Nat) - ((szL szSeenNonce) x.seen : Nat) - ((szL szRoute) x.routes : Nat)) ((szL szMeasurement) x.measurements)
  by_cases hq5 : remain (left - ((szL szData) x.locals : Nat) - (szContentStore x.cache : Nat) - ((szL szPendingInterest) x.pending : Nat) - ((szL szSeenNonce) x.seen : Nat) - ((szL szRoute) x.routes : Nat)) ((szL szMeasurement) x.measurements) < 0
  · have hq' := remain_neg hq5
    go_wp2
    go_ret
    exact ⟨ret_int (by rw [remain_lt (by unfold szNode; omega)]), hX5⟩
  obtain ⟨hp5, hv5⟩ := remain_pos (Int.not_lt.1 hq5)
  rw [hv5] at hq5 hbd5 ⊢
  clear hv5
  go_wp2
  go_ret
  exact ⟨ret_int (by rw [remain_le (by unfold szNode; omega)]; unfold szNode; omega), hX5⟩

set_option maxHeartbeats 400000 in
theorem szInterest_c (cs : List Value) (x : DInterest) (left : Int) (w : World) (h : sInterest.rd w cs x) (h0 : 0 ≤ left) (h1 : left ≤ 1048576) :
    Calls Try.prog 31 #[.agg cs.toArray, .int .i64 left] w fun e w' => e = .returned (.int .i64 (remain left (szInterest x))) ∧ Ext w w' := by
  obtain ⟨c0, rfl, r0, r1, r2, r3⟩ := sInterest_rd h
  go_enter Try.func31, Try.ntmps31
  go_wp2_with fail
  refine (szName_c _ x.name _ _ (strs.ext (by exact (Ext.refl _).alloc _) r0) (by omega) (by omega)).mono ?_
  rintro e w0 ⟨rfl, hx0⟩
  have hX0 : Ext w w0 := Ext.trans (by exact (Ext.refl _).alloc _) hx0
  have hbd0 := remain_bd (left) ((szL ByteArray.size) x.name)
  by_cases hq0 : remain (left) ((szL ByteArray.size) x.name) < 0
  · have hq' := remain_neg hq0
    go_wp2
    go_ret
    exact ⟨ret_int (by rw [remain_lt (by unfold szInterest; omega)]), hX0⟩
  obtain ⟨hp0, hv0⟩ := remain_pos (Int.not_lt.1 hq0)
  rw [hv0] at hq0 hbd0 ⊢
  clear hv0
  go_wp2
  go_ret
  exact ⟨ret_int (by rw [remain_le (by unfold szInterest; omega)]; unfold szInterest; omega), hX0⟩

end Go.Proofs.Ythnkggjgblehaaa
