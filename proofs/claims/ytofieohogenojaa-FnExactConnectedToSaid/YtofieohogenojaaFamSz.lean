/- What the families laws.sz.. compute. Printed by gen.py. -/
import Derived.Test.YtofieohogenojaaProg
import Derived.Test.YtofieohogenojaaTypes
namespace Go.Proofs.Ytofieohogenojaa
open Go.RowKit
set_option linter.unusedVariables false
set_option linter.unusedSimpArgs false
set_option linter.unusedSectionVars false

set_option maxHeartbeats 400000 in
theorem szLinkS_c (v : Value) (l : (List DLink)) (left : Int) (w : World) (h : sLinkL.rd w [v] l) (h0 : 0 ≤ left) (h1 : left ≤ 1048576) :
    Calls Try.prog 77 #[v, .int .i64 left] w fun e w' => e = .returned (.int .i64 (remain left ((szL (fun _ => 0)) l))) ∧ Ext w w' := by
  obtain ⟨A, c, rfl, hl, hm⟩ := Shape.sl_form h
  unfold maxLen at hm
  have hlen := szL_len (fun _ => 0) l
  have H := Lib.hid h; clear h
  by_cases hlt : left < l.length
  · have hlt' : left - l.length < 0 := by omega
    go_enter Try.func77, Try.ntmps77
    go_wp2
    go_ret
    exact ⟨ret_int (remain_lt (by omega)).symm, Ext.refl _⟩
  · have hlt' : decide (left - l.length < 0) = false := by simp; omega
    have hge : (l.length : Int) ≤ left := by omega
    go_enter Try.func77, Try.ntmps77
    go_wp2
    go_ret
    exact ⟨ret_int (by rw [szL_zero, remain_le (by omega)]), Ext.refl _⟩
set_option maxHeartbeats 400000 in
theorem szTopology_c (cs : List Value) (x : DTopology) (left : Int) (w : World) (h : sTopology.rd w cs x) (h0 : 0 ≤ left) (h1 : left ≤ 1048576) :
    Calls Try.prog 46 #[.agg cs.toArray, .int .i64 left] w fun e w' => e = .returned (.int .i64 (remain left (szTopology x))) ∧ Ext w w' := by
  obtain ⟨c1, rfl, r0, r1⟩ := sTopology_rd h
  go_enter Try.func46, Try.ntmps46
  go_wp2_with fail
  refine (szLinkS_c _ x.links _ _ (sLinkL.ext (by exact (Ext.refl _).alloc _) r1) (by omega) (by omega)).mono ?_
  rintro e w0 ⟨rfl, hx0⟩
  have hX0 : Ext w w0 := Ext.trans (by exact (Ext.refl _).alloc _) hx0
  have hbd0 := remain_bd (left) ((szL (fun _ => 0)) x.links)
  by_cases hq0 : remain (left) ((szL (fun _ => 0)) x.links) < 0
  · have hq' := remain_neg hq0
    go_wp2
    go_ret
    exact ⟨ret_int (by rw [remain_lt (by unfold szTopology; omega)]), hX0⟩
  obtain ⟨hp0, hv0⟩ := remain_pos (Int.not_lt.1 hq0)
  rw [hv0] at hq0 hbd0 ⊢
  clear hv0
  go_wp2
  go_ret
  exact ⟨ret_int (by rw [remain_le (by unfold szTopology; omega)]; unfold szTopology; omega), hX0⟩

set_option maxHeartbeats 400000 in
theorem szStringS_c (v : Value) (l : (List ByteArray)) (left : Int) (w : World) (h : strs.rd w [v] l) (h0 : 0 ≤ left) (h1 : left ≤ 1048576) :
    Calls Try.prog 28 #[v, .int .i64 left] w fun e w' => e = .returned (.int .i64 (remain left ((szL ByteArray.size) l))) ∧ Ext w w' := by
  obtain ⟨A, c, rfl, hl, hm⟩ := Shape.sl_form h
  unfold maxLen at hm
  have hlen := szL_len ByteArray.size l
  have H := Lib.hid h; clear h
  by_cases hlt : left < l.length
  · have hlt' : left - l.length < 0 := by omega
    go_enter Try.func28, Try.ntmps28
    go_wp2
    go_ret
    exact ⟨ret_int (remain_lt (by omega)).symm, Ext.refl _⟩
  · have hlt' : decide (left - l.length < 0) = false := by simp; omega
    have hge : (l.length : Int) ≤ left := by omega
    go_enter Try.func28, Try.ntmps28
    go_wp2
    go_loopw [1, 5] (fun t i wr => ∃ k : Nat, k ≤ l.length ∧ i = .int .i64 k ∧ t = .int .i64 (left - l.length - ((szL ByteArray.size) (l.take k) - k)) ∧ ((szL ByteArray.size) (l.take k) : Int) + l.length - k ≤ left ∧ Ext w wr) (fun _ i _ => l.length - (intOf i).toNat)
    case atStart => exact ⟨0, Nat.zero_le _, rfl, by simp [szL], by simp [szL]; omega, Ext.refl _⟩
    case round =>
      obtain ⟨k, hk, rfl, rfl, hinv, hx⟩ := hrel
      have hl1 := szL_len ByteArray.size (l.take k)
      rw [List.length_take, Nat.min_eq_left hk] at hl1
      by_cases hlt : k < l.length
      · have HS := Lib.hid (szL_take ByteArray.size l k hlt)
        have hl2 := szL_rest ByteArray.size l (k + 1) hlt
        obtain ⟨b, off, rfl, hcell, hs⟩ := Shape.str_at (strs.ext hx H.out) hlt
        unfold maxLen at hs
        go_wp2
        · have hneg : left - l.length - ((szL ByteArray.size) (l.take k) - k) - (l[k].size : Int) < 0 := by assumption
          go_ret
          have hh := HS.out
          exact ⟨ret_int (remain_lt (by omega)).symm, hx⟩
        · have hneg : 0 ≤ left - l.length - ((szL ByteArray.size) (l.take k) - k) - (l[k].size : Int) := by assumption
          have hh := HS.out
          go_roundw
          case rel => exact ⟨k + 1, by omega, by go_num, by rw [hh]; go_num, by rw [hh]; omega, hx⟩
          case measure => simp [intOf]; omega
      · have : k = l.length := by omega
        subst this
        rw [List.take_length] at hinv hl1
        go_wp2
        go_ret
        simp only [List.take_length]
        exact ⟨ret_int (by rw [remain_le (by omega)]; omega), hx⟩

set_option maxHeartbeats 400000 in
theorem szName_c (cs : List Value) (x : (List ByteArray)) (left : Int) (w : World) (h : strs.rd w cs x) (h0 : 0 ≤ left) (h1 : left ≤ 1048576) :
    Calls Try.prog 6 #[.agg cs.toArray, .int .i64 left] w fun e w' => e = .returned (.int .i64 (remain left ((szL ByteArray.size) x))) ∧ Ext w w' := by
  have r0 := h; obtain ⟨c0, rfl⟩ := one_cell (strs.len h)
  go_enter Try.func6, Try.ntmps6
  go_wp2_with fail
  refine (szStringS_c _ x _ _ (strs.ext (by exact (Ext.refl _).alloc _) r0) (by omega) (by omega)).mono ?_
  rintro e w0 ⟨rfl, hx0⟩
  have hX0 : Ext w w0 := Ext.trans (by exact (Ext.refl _).alloc _) hx0
  have hbd0 := remain_bd (left) ((szL ByteArray.size) x)
  by_cases hq0 : remain (left) ((szL ByteArray.size) x) < 0
  · have hq' := remain_neg hq0
    go_wp2
    go_ret
    exact ⟨ret_int (by rw [remain_lt (by omega)]), hX0⟩
  obtain ⟨hp0, hv0⟩ := remain_pos (Int.not_lt.1 hq0)
  rw [hv0] at hq0 hbd0 ⊢
  clear hv0
  go_wp2
  go_ret
  exact ⟨ret_int (by rw [remain_le (by omega)]), hX0⟩

set_option maxHeartbeats 400000 in
theorem szTableEntry_c (cs : List Value) (x : DTableEntry) (left : Int) (w : World) (h : sTableEntry.rd w cs x) (h0 : 0 ≤ left) (h1 : left ≤ 1048576) :
    Calls Try.prog 140 #[.agg cs.toArray, .int .i64 left] w fun e w' => e = .returned (.int .i64 (remain left (szTableEntry x))) ∧ Ext w w' := by
  obtain ⟨c0, rfl, r0, r1⟩ := sTableEntry_rd h
  go_enter Try.func140, Try.ntmps140
  go_wp2_with fail
  refine (szName_c _ x.name _ _ (strs.ext (by exact (Ext.refl _).alloc _) r0) (by omega) (by omega)).mono ?_
  rintro e w0 ⟨rfl, hx0⟩
  have hX0 : Ext w w0 := Ext.trans (by exact (Ext.refl _).alloc _) hx0
  have hbd0 := remain_bd (left) ((szL ByteArray.size) x.name)
  by_cases hq0 : remain (left) ((szL ByteArray.size) x.name) < 0
  · have hq' := remain_neg hq0
    go_wp2
    go_ret
    exact ⟨ret_int (by rw [remain_lt (by unfold szTableEntry; omega)]), hX0⟩
  obtain ⟨hp0, hv0⟩ := remain_pos (Int.not_lt.1 hq0)
  rw [hv0] at hq0 hbd0 ⊢
  clear hv0
  go_wp2
  go_ret
  exact ⟨ret_int (by rw [remain_le (by unfold szTableEntry; omega)]; unfold szTableEntry; omega), hX0⟩

set_option maxHeartbeats 400000 in
theorem szTableEntryS_c (v : Value) (l : (List DTableEntry)) (left : Int) (w : World) (h : sTableEntryL.rd w [v] l) (h0 : 0 ≤ left) (h1 : left ≤ 1048576) :
    Calls Try.prog 125 #[v, .int .i64 left] w fun e w' => e = .returned (.int .i64 (remain left ((szL szTableEntry) l))) ∧ Ext w w' := by
  obtain ⟨A, c, rfl, hl, hm⟩ := Shape.sl_form h
  unfold maxLen at hm
  have hlen := szL_len szTableEntry l
  have H := Lib.hid h; clear h
  by_cases hlt : left < l.length
  · have hlt' : left - l.length < 0 := by omega
    go_enter Try.func125, Try.ntmps125
    go_wp2
    go_ret
    exact ⟨ret_int (remain_lt (by omega)).symm, Ext.refl _⟩
  · have hlt' : decide (left - l.length < 0) = false := by simp; omega
    have hge : (l.length : Int) ≤ left := by omega
    go_enter Try.func125, Try.ntmps125
    go_wp2
    go_loopw [1, 5] (fun t i wr => ∃ k : Nat, k ≤ l.length ∧ i = .int .i64 k ∧ t = .int .i64 (left - l.length - ((szL szTableEntry) (l.take k) - k)) ∧ ((szL szTableEntry) (l.take k) : Int) + l.length - k ≤ left ∧ Ext w wr) (fun _ i _ => l.length - (intOf i).toNat)
    case atStart => exact ⟨0, Nat.zero_le _, rfl, by simp [szL], by simp [szL]; omega, Ext.refl _⟩
    case round =>
      obtain ⟨k, hk, rfl, rfl, hinv, hx⟩ := hrel
      have hl1 := szL_len szTableEntry (l.take k)
      rw [List.length_take, Nat.min_eq_left hk] at hl1
      by_cases hlt : k < l.length
      · have HS := Lib.hid (szL_take szTableEntry l k hlt)
        have hl2 := szL_rest szTableEntry l (k + 1) hlt
        obtain ⟨b, off, es, rfl, hc, hr⟩ := Shape.sl_at (sTableEntryL.ext hx H.out) hlt
        have hr' := hr
        obtain ⟨c0, rfl, r0, r1⟩ := sTableEntry_rd hr
        have f0 := hc 0 _ rfl
        have f1 := hc 1 _ rfl
        simp only [Nat.add_zero, show sTableEntry.k = 2 from rfl, Nat.mul_one] at f0 f1
        go_wp2_with fail
        refine (szTableEntry_c _ l[k] _ _ hr' (by omega) (by omega)).mono ?_
        rintro e w1 ⟨rfl, hx1⟩
        have hx2 := hx.trans hx1
        have hbd := remain_bd (left - l.length - ((szL szTableEntry) (l.take k) - k)) (szTableEntry l[k])
        by_cases hq : remain (left - l.length - ((szL szTableEntry) (l.take k) - k)) (szTableEntry l[k]) < 0
        · have hq' := remain_neg hq
          go_wp2
          go_ret
          have hh := HS.out
          exact ⟨ret_int (remain_lt (by omega)).symm, hx2⟩
        · obtain ⟨hq1, hq2⟩ := remain_pos (Int.not_lt.1 hq)
          have HQ := Lib.hid hq2
          rw [hq2] at hq hbd
          clear hq2
          rw [HQ.out]
          go_wp2
          have hh := HS.out
          go_roundw
          case rel => exact ⟨k + 1, by omega, by go_num, by rw [hh]; go_num, by rw [hh]; omega, hx2⟩
          case measure => simp [intOf]; omega
      · have : k = l.length := by omega
        subst this
        rw [List.take_length] at hinv hl1
        go_wp2
        go_ret
        simp only [List.take_length]
        exact ⟨ret_int (by rw [remain_le (by omega)]; omega), hx⟩

set_option maxHeartbeats 400000 in
theorem szStateVector_c (cs : List Value) (x : (List DTableEntry)) (left : Int) (w : World) (h : sTableEntryL.rd w cs x) (h0 : 0 ≤ left) (h1 : left ≤ 1048576) :
    Calls Try.prog 103 #[.agg cs.toArray, .int .i64 left] w fun e w' => e = .returned (.int .i64 (remain left ((szL szTableEntry) x))) ∧ Ext w w' := by
  have r0 := h; obtain ⟨c0, rfl⟩ := one_cell (sTableEntryL.len h)
  go_enter Try.func103, Try.ntmps103
  go_wp2_with fail
  refine (szTableEntryS_c _ x _ _ (sTableEntryL.ext (by exact (Ext.refl _).alloc _) r0) (by omega) (by omega)).mono ?_
  rintro e w0 ⟨rfl, hx0⟩
  have hX0 : Ext w w0 := Ext.trans (by exact (Ext.refl _).alloc _) hx0
  have hbd0 := remain_bd (left) ((szL szTableEntry) x)
  by_cases hq0 : remain (left) ((szL szTableEntry) x) < 0
  · have hq' := remain_neg hq0
    go_wp2
    go_ret
    exact ⟨ret_int (by rw [remain_lt (by omega)]), hX0⟩
  obtain ⟨hp0, hv0⟩ := remain_pos (Int.not_lt.1 hq0)
  rw [hv0] at hq0 hbd0 ⊢
  clear hv0
  go_wp2
  go_ret
  exact ⟨ret_int (by rw [remain_le (by omega)]), hX0⟩

set_option maxHeartbeats 400000 in
theorem szByteS_c (v : Value) (l : (List UInt8)) (left : Int) (w : World) (h : sBytes.rd w [v] l) (h0 : 0 ≤ left) (h1 : left ≤ 1048576) :
    Calls Try.prog 141 #[v, .int .i64 left] w fun e w' => e = .returned (.int .i64 (remain left ((szL (fun _ => 0)) l))) ∧ Ext w w' := by
  obtain ⟨A, c, rfl, hl, hm⟩ := Shape.sl_form h
  unfold maxLen at hm
  have hlen := szL_len (fun _ => 0) l
  have H := Lib.hid h; clear h
  by_cases hlt : left < l.length
  · have hlt' : left - l.length < 0 := by omega
    go_enter Try.func141, Try.ntmps141
    go_wp2
    go_ret
    exact ⟨ret_int (remain_lt (by omega)).symm, Ext.refl _⟩
  · have hlt' : decide (left - l.length < 0) = false := by simp; omega
    have hge : (l.length : Int) ≤ left := by omega
    go_enter Try.func141, Try.ntmps141
    go_wp2
    go_ret
    exact ⟨ret_int (by rw [szL_zero, remain_le (by omega)]), Ext.refl _⟩
set_option maxHeartbeats 400000 in
theorem szPublication_c (cs : List Value) (x : DPublication) (left : Int) (w : World) (h : sPublication.rd w cs x) (h0 : 0 ≤ left) (h1 : left ≤ 1048576) :
    Calls Try.prog 126 #[.agg cs.toArray, .int .i64 left] w fun e w' => e = .returned (.int .i64 (remain left (szPublication x))) ∧ Ext w w' := by
  obtain ⟨c0, c2, rfl, r0, r1, r2⟩ := sPublication_rd h
  go_enter Try.func126, Try.ntmps126
  go_wp2_with fail
  refine (szName_c _ x.publisher _ _ (strs.ext (by exact (Ext.refl _).alloc _) r0) (by omega) (by omega)).mono ?_
  rintro e w0 ⟨rfl, hx0⟩
  have hX0 : Ext w w0 := Ext.trans (by exact (Ext.refl _).alloc _) hx0
  have f0 : w0.cell? ⟨w.heap.size, 0, none⟩ = some (c0) := hx0.cell (by simp)
  have f1 : w0.cell? ⟨w.heap.size, 1, none⟩ = some (.int .i64 x.seq) := hx0.cell (by simp)
  have f2 : w0.cell? ⟨w.heap.size, 2, none⟩ = some (c2) := hx0.cell (by simp)
  have hbd0 := remain_bd (left) ((szL ByteArray.size) x.publisher)
  by_cases hq0 : remain (left) ((szL ByteArray.size) x.publisher) < 0
  · have hq' := remain_neg hq0
    go_wp2
    go_ret
    exact ⟨ret_int (by rw [remain_lt (by unfold szPublication; omega)]), hX0⟩
  obtain ⟨hp0, hv0⟩ := remain_pos (Int.not_lt.1 hq0)
  rw [hv0] at hq0 hbd0 ⊢
  clear hv0
  go_wp2_with fail
  refine (szByteS_c _ x.content _ _ (sBytes.ext (by exact hX0) r2) (by omega) (by omega)).mono ?_
  rintro e w1 ⟨rfl, hx1⟩
  have hX1 : Ext w w1 := Ext.trans (by exact hX0) hx1
  have hbd1 := remain_bd (left - ((szL ByteArray.size) x.publisher : Nat)) ((szL (fun _ => 0)) x.content)
  by_cases hq1 : remain (left - ((szL ByteArray.size) x.publisher : Nat)) ((szL (fun _ => 0)) x.content) < 0
  · have hq' := remain_neg hq1
    go_wp2
    go_ret
    exact ⟨ret_int (by rw [remain_lt (by unfold szPublication; omega)]), hX1⟩
  obtain ⟨hp1, hv1⟩ := remain_pos (Int.not_lt.1 hq1)
  rw [hv1] at hq1 hbd1 ⊢
  clear hv1
  go_wp2
  go_ret
  exact ⟨ret_int (by rw [remain_le (by unfold szPublication; omega)]; unfold szPublication; omega), hX1⟩

set_option maxHeartbeats 400000 in
theorem szPublicationS_c (v : Value) (l : (List DPublication)) (left : Int) (w : World) (h : sPublicationL.rd w [v] l) (h0 : 0 ≤ left) (h1 : left ≤ 1048576) :
    Calls Try.prog 104 #[v, .int .i64 left] w fun e w' => e = .returned (.int .i64 (remain left ((szL szPublication) l))) ∧ Ext w w' := by
  obtain ⟨A, c, rfl, hl, hm⟩ := Shape.sl_form h
  unfold maxLen at hm
  have hlen := szL_len szPublication l
  have H := Lib.hid h; clear h
  by_cases hlt : left < l.length
  · have hlt' : left - l.length < 0 := by omega
    go_enter Try.func104, Try.ntmps104
    go_wp2
    go_ret
    exact ⟨ret_int (remain_lt (by omega)).symm, Ext.refl _⟩
  · have hlt' : decide (left - l.length < 0) = false := by simp; omega
    have hge : (l.length : Int) ≤ left := by omega
    go_enter Try.func104, Try.ntmps104
    go_wp2
    go_loopw [1, 5] (fun t i wr => ∃ k : Nat, k ≤ l.length ∧ i = .int .i64 k ∧ t = .int .i64 (left - l.length - ((szL szPublication) (l.take k) - k)) ∧ ((szL szPublication) (l.take k) : Int) + l.length - k ≤ left ∧ Ext w wr) (fun _ i _ => l.length - (intOf i).toNat)
    case atStart => exact ⟨0, Nat.zero_le _, rfl, by simp [szL], by simp [szL]; omega, Ext.refl _⟩
    case round =>
      obtain ⟨k, hk, rfl, rfl, hinv, hx⟩ := hrel
      have hl1 := szL_len szPublication (l.take k)
      rw [List.length_take, Nat.min_eq_left hk] at hl1
      by_cases hlt : k < l.length
      · have HS := Lib.hid (szL_take szPublication l k hlt)
        have hl2 := szL_rest szPublication l (k + 1) hlt
        obtain ⟨b, off, es, rfl, hc, hr⟩ := Shape.sl_at (sPublicationL.ext hx H.out) hlt
        have hr' := hr
        obtain ⟨c0, c2, rfl, r0, r1, r2⟩ := sPublication_rd hr
        have f0 := hc 0 _ rfl
        have f1 := hc 1 _ rfl
        have f2 := hc 2 _ rfl
        simp only [Nat.add_zero, show sPublication.k = 3 from rfl, Nat.mul_one] at f0 f1 f2
        go_wp2_with fail
        refine (szPublication_c _ l[k] _ _ hr' (by omega) (by omega)).mono ?_
        rintro e w1 ⟨rfl, hx1⟩
        have hx2 := hx.trans hx1
        have hbd := remain_bd (left - l.length - ((szL szPublication) (l.take k) - k)) (szPublication l[k])
        by_cases hq : remain (left - l.length - ((szL szPublication) (l.take k) - k)) (szPublication l[k]) < 0
        · have hq' := remain_neg hq
          go_wp2
          go_ret
          have hh := HS.out
          exact ⟨ret_int (remain_lt (by omega)).symm, hx2⟩
        · obtain ⟨hq1, hq2⟩ := remain_pos (Int.not_lt.1 hq)
          have HQ := Lib.hid hq2
          rw [hq2] at hq hbd
          clear hq2
          rw [HQ.out]
          go_wp2
          have hh := HS.out
          go_roundw
          case rel => exact ⟨k + 1, by omega, by go_num, by rw [hh]; go_num, by rw [hh]; omega, hx2⟩
          case measure => simp [intOf]; omega
      · have : k = l.length := by omega
        subst this
        rw [List.take_length] at hinv hl1
        go_wp2
        go_ret
        simp only [List.take_length]
        exact ⟨ret_int (by rw [remain_le (by omega)]; omega), hx⟩

set_option maxHeartbeats 400000 in
theorem szMember_c (cs : List Value) (x : DMember) (left : Int) (w : World) (h : sMember.rd w cs x) (h0 : 0 ≤ left) (h1 : left ≤ 1048576) :
    Calls Try.prog 78 #[.agg cs.toArray, .int .i64 left] w fun e w' => e = .returned (.int .i64 (remain left (szMember x))) ∧ Ext w w' := by
  obtain ⟨c0, c1, c2, rfl, r0, r1, r2⟩ := sMember_rd h
  go_enter Try.func78, Try.ntmps78
  go_wp2_with fail
  refine (szName_c _ x.name _ _ (strs.ext (by exact (Ext.refl _).alloc _) r0) (by omega) (by omega)).mono ?_
  rintro e w0 ⟨rfl, hx0⟩
  have hX0 : Ext w w0 := Ext.trans (by exact (Ext.refl _).alloc _) hx0
  have f0 : w0.cell? ⟨w.heap.size, 0, none⟩ = some (c0) := hx0.cell (by simp)
  have f1 : w0.cell? ⟨w.heap.size, 1, none⟩ = some (c1) := hx0.cell (by simp)
  have f2 : w0.cell? ⟨w.heap.size, 2, none⟩ = some (c2) := hx0.cell (by simp)
  have hbd0 := remain_bd (left) ((szL ByteArray.size) x.name)
  by_cases hq0 : remain (left) ((szL ByteArray.size) x.name) < 0
  · have hq' := remain_neg hq0
    go_wp2
    go_ret
    exact ⟨ret_int (by rw [remain_lt (by unfold szMember; omega)]), hX0⟩
  obtain ⟨hp0, hv0⟩ := remain_pos (Int.not_lt.1 hq0)
  rw [hv0] at hq0 hbd0 ⊢
  clear hv0
  go_wp2_with fail
  refine (szStateVector_c _ x.vector _ _ (sTableEntryL.ext (by exact hX0) r1) (by omega) (by omega)).mono ?_
  rintro e w1 ⟨rfl, hx1⟩
  have hX1 : Ext w w1 := Ext.trans (by exact hX0) hx1
  have f0 : w1.cell? ⟨w.heap.size, 0, none⟩ = some (c0) := hx1.cell f0
  have f1 : w1.cell? ⟨w.heap.size, 1, none⟩ = some (c1) := hx1.cell f1
  have f2 : w1.cell? ⟨w.heap.size, 2, none⟩ = some (c2) := hx1.cell f2
  have hbd1 := remain_bd (left - ((szL ByteArray.size) x.name : Nat)) ((szL szTableEntry) x.vector)
  by_cases hq1 : remain (left - ((szL ByteArray.size) x.name : Nat)) ((szL szTableEntry) x.vector) < 0
  · have hq' := remain_neg hq1
    go_wp2
    go_ret
    exact ⟨ret_int (by rw [remain_lt (by unfold szMember; omega)]), hX1⟩
  obtain ⟨hp1, hv1⟩ := remain_pos (Int.not_lt.1 hq1)
  rw [hv1] at hq1 hbd1 ⊢
  clear hv1
  go_wp2_with fail
  refine (szPublicationS_c _ x.publications _ _ (sPublicationL.ext (by exact hX1) r2) (by omega) (by omega)).mono ?_
  rintro e w2 ⟨rfl, hx2⟩
  have hX2 : Ext w w2 := Ext.trans (by exact hX1) hx2
  have hbd2 := remain_bd (left - ((szL ByteArray.size) x.name : Nat) - ((szL szTableEntry) x.vector : Nat)) ((szL szPublication) x.publications)
  by_cases hq2 : remain (left - ((szL ByteArray.size) x.name : Nat) - ((szL szTableEntry) x.vector : Nat)) ((szL szPublication) x.publications) < 0
  · have hq' := remain_neg hq2
    go_wp2
    go_ret
    exact ⟨ret_int (by rw [remain_lt (by unfold szMember; omega)]), hX2⟩
  obtain ⟨hp2, hv2⟩ := remain_pos (Int.not_lt.1 hq2)
  rw [hv2] at hq2 hbd2 ⊢
  clear hv2
  go_wp2
  go_ret
  exact ⟨ret_int (by rw [remain_le (by unfold szMember; omega)]; unfold szMember; omega), hX2⟩

set_option maxHeartbeats 400000 in
theorem szMemberS_c (v : Value) (l : (List DMember)) (left : Int) (w : World) (h : sMemberL.rd w [v] l) (h0 : 0 ≤ left) (h1 : left ≤ 1048576) :
    Calls Try.prog 47 #[v, .int .i64 left] w fun e w' => e = .returned (.int .i64 (remain left ((szL szMember) l))) ∧ Ext w w' := by
  obtain ⟨A, c, rfl, hl, hm⟩ := Shape.sl_form h
  unfold maxLen at hm
  have hlen := szL_len szMember l
  have H := Lib.hid h; clear h
  by_cases hlt : left < l.length
  · have hlt' : left - l.length < 0 := by omega
    go_enter Try.func47, Try.ntmps47
    go_wp2
    go_ret
    exact ⟨ret_int (remain_lt (by omega)).symm, Ext.refl _⟩
  · have hlt' : decide (left - l.length < 0) = false := by simp; omega
    have hge : (l.length : Int) ≤ left := by omega
    go_enter Try.func47, Try.ntmps47
    go_wp2
    go_loopw [1, 5] (fun t i wr => ∃ k : Nat, k ≤ l.length ∧ i = .int .i64 k ∧ t = .int .i64 (left - l.length - ((szL szMember) (l.take k) - k)) ∧ ((szL szMember) (l.take k) : Int) + l.length - k ≤ left ∧ Ext w wr) (fun _ i _ => l.length - (intOf i).toNat)
    case atStart => exact ⟨0, Nat.zero_le _, rfl, by simp [szL], by simp [szL]; omega, Ext.refl _⟩
    case round =>
      obtain ⟨k, hk, rfl, rfl, hinv, hx⟩ := hrel
      have hl1 := szL_len szMember (l.take k)
      rw [List.length_take, Nat.min_eq_left hk] at hl1
      by_cases hlt : k < l.length
      · have HS := Lib.hid (szL_take szMember l k hlt)
        have hl2 := szL_rest szMember l (k + 1) hlt
        obtain ⟨b, off, es, rfl, hc, hr⟩ := Shape.sl_at (sMemberL.ext hx H.out) hlt
        have hr' := hr
        obtain ⟨c0, c1, c2, rfl, r0, r1, r2⟩ := sMember_rd hr
        have f0 := hc 0 _ rfl
        have f1 := hc 1 _ rfl
        have f2 := hc 2 _ rfl
        simp only [Nat.add_zero, show sMember.k = 3 from rfl, Nat.mul_one] at f0 f1 f2
        go_wp2_with fail
        refine (szMember_c _ l[k] _ _ hr' (by omega) (by omega)).mono ?_
        rintro e w1 ⟨rfl, hx1⟩
        have hx2 := hx.trans hx1
        have hbd := remain_bd (left - l.length - ((szL szMember) (l.take k) - k)) (szMember l[k])
        by_cases hq : remain (left - l.length - ((szL szMember) (l.take k) - k)) (szMember l[k]) < 0
        · have hq' := remain_neg hq
          go_wp2
          go_ret
          have hh := HS.out
          exact ⟨ret_int (remain_lt (by omega)).symm, hx2⟩
        · obtain ⟨hq1, hq2⟩ := remain_pos (Int.not_lt.1 hq)
          have HQ := Lib.hid hq2
          rw [hq2] at hq hbd
          clear hq2
          rw [HQ.out]
          go_wp2
          have hh := HS.out
          go_roundw
          case rel => exact ⟨k + 1, by omega, by go_num, by rw [hh]; go_num, by rw [hh]; omega, hx2⟩
          case measure => simp [intOf]; omega
      · have : k = l.length := by omega
        subst this
        rw [List.take_length] at hinv hl1
        go_wp2
        go_ret
        simp only [List.take_length]
        exact ⟨ret_int (by rw [remain_le (by omega)]; omega), hx⟩

set_option maxHeartbeats 400000 in
theorem szSyncGroup_c (cs : List Value) (x : DSyncGroup) (left : Int) (w : World) (h : sSyncGroup.rd w cs x) (h0 : 0 ≤ left) (h1 : left ≤ 1048576) :
    Calls Try.prog 16 #[.agg cs.toArray, .int .i64 left] w fun e w' => e = .returned (.int .i64 (remain left (szSyncGroup x))) ∧ Ext w w' := by
  obtain ⟨c1, c2, rfl, r0, r1⟩ := sSyncGroup_rd h
  go_enter Try.func16, Try.ntmps16
  go_wp2_with fail
  refine (szTopology_c _ x.topology _ _ (sTopology.ext (by exact (Ext.refl _).alloc _) r0) (by omega) (by omega)).mono ?_
  rintro e w0 ⟨rfl, hx0⟩
  have hX0 : Ext w w0 := Ext.trans (by exact (Ext.refl _).alloc _) hx0
  have f0 : w0.cell? ⟨w.heap.size, 0, none⟩ = some (.int .i64 x.topology.size) := hx0.cell (by simp)
  have f1 : w0.cell? ⟨w.heap.size, 1, none⟩ = some (c1) := hx0.cell (by simp)
  have f2 : w0.cell? ⟨w.heap.size, 2, none⟩ = some (c2) := hx0.cell (by simp)
  have hbd0 := remain_bd (left) (szTopology x.topology)
  by_cases hq0 : remain (left) (szTopology x.topology) < 0
  · have hq' := remain_neg hq0
    go_wp2
    go_ret
    exact ⟨ret_int (by rw [remain_lt (by unfold szSyncGroup; omega)]), hX0⟩
  obtain ⟨hp0, hv0⟩ := remain_pos (Int.not_lt.1 hq0)
  rw [hv0] at hq0 hbd0 ⊢
  clear hv0
  go_wp2_with fail
  refine (szMemberS_c _ x.members _ _ (sMemberL.ext (by exact hX0) r1) (by omega) (by omega)).mono ?_
  rintro e w1 ⟨rfl, hx1⟩
  have hX1 : Ext w w1 := Ext.trans (by exact hX0) hx1
  have hbd1 := remain_bd (left - (szTopology x.topology : Nat)) ((szL szMember) x.members)
  by_cases hq1 : remain (left - (szTopology x.topology : Nat)) ((szL szMember) x.members) < 0
  · have hq' := remain_neg hq1
    go_wp2
    go_ret
    exact ⟨ret_int (by rw [remain_lt (by unfold szSyncGroup; omega)]), hX1⟩
  obtain ⟨hp1, hv1⟩ := remain_pos (Int.not_lt.1 hq1)
  rw [hv1] at hq1 hbd1 ⊢
  clear hv1
  go_wp2
  go_ret
  exact ⟨ret_int (by rw [remain_le (by unfold szSyncGroup; omega)]; unfold szSyncGroup; omega), hX1⟩

end Go.Proofs.Ytofieohogenojaa
