/- What the families laws.eq.. answer: true, where both read alike. Printed by gen.py. -/
import Derived.Test.YtlobcaofeobgaaaProg
import Derived.Test.YtlobcaofeobgaaaTypes
namespace Go.Proofs.Ytlobcaofeobgaaa
open Go.RowKit
set_option linter.unusedVariables false
set_option linter.unusedSimpArgs false
set_option linter.unusedSectionVars false

set_option maxHeartbeats 400000 in
theorem eqStringS_c (va vb : Value) (l : (List ByteArray)) (w : World) (ha : strs.rd w [va] l) (hb : strs.rd w [vb] l) :
    Calls Try.prog 39 #[va, vb] w fun e w' => e = .returned (.bool true) ∧ Ext w w' := by
  obtain ⟨A, c, rfl, hl, hm⟩ := Shape.sl_form ha
  obtain ⟨B, d, rfl, hl', hm'⟩ := Shape.sl_form hb
  unfold maxLen at hm hm'
  have Ha := Lib.hid ha
  have Hb := Lib.hid hb
  clear ha hb
  have hn' : ((l.length : Int) != l.length) = false := by simp
  go_enter Try.func39, Try.ntmps39
  go_wp2
  go_loopw [5] (fun i wr => ∃ k : Nat, k ≤ l.length ∧ i = .int .i64 k ∧ Ext w wr) (fun i _ => l.length - (intOf i).toNat)
  case atStart => exact ⟨0, Nat.zero_le _, rfl, Ext.refl _⟩
  case round =>
    obtain ⟨k, hk, rfl, hx⟩ := hrel
    by_cases hlt : k < l.length
    · obtain ⟨b1, o1, rfl, hc1, _⟩ := Shape.str_at (strs.ext hx Ha.out) hlt
      obtain ⟨b2, o2, rfl, hc2, _⟩ := Shape.str_at (strs.ext hx Hb.out) hlt
      have hsame : (!l[k].toList == l[k].toList) = false := by simp
      go_wp2
      go_quiet (fail)
      go_wp2
      go_roundw
      case rel => exact ⟨k + 1, by omega, by go_num, hx.drewN _⟩
      case measure => simp [intOf]; omega
    · have : k = l.length := by omega
      subst this
      go_wp2
      go_ret
      exact ⟨rfl, hx⟩

set_option maxHeartbeats 400000 in
theorem eqName_c (ca cb : List Value) (x : (List ByteArray)) (w : World) (ha : strs.rd w ca x) (hb : strs.rd w cb x) :
    Calls Try.prog 14 #[.agg ca.toArray, .agg cb.toArray] w fun e w' => e = .returned (.bool true) ∧ Ext w w' := by
  have p0 := ha; obtain ⟨c0, rfl⟩ := one_cell (strs.len ha)
  have q0 := hb; obtain ⟨d0, rfl⟩ := one_cell (strs.len hb)
  go_enter Try.func14, Try.ntmps14
  go_wp2_with fail
  refine (eqStringS_c _ _ x _ (strs.ext (by exact ((Ext.refl w).alloc _).alloc _) p0) (strs.ext (by exact ((Ext.refl w).alloc _).alloc _) q0)).mono ?_
  rintro e w0 ⟨rfl, hx0⟩
  have f0 : w0.cell? ⟨w.heap.size, 0, none⟩ = some (c0) := hx0.cell (by simp)
  have g0 : w0.cell? ⟨w.heap.size + 1, 0, none⟩ = some (d0) := hx0.cell (by simp)
  have E0 : Ext w w0 := Ext.trans (by exact ((Ext.refl w).alloc _).alloc _) hx0
  go_wp2
  go_ret
  exact ⟨rfl, E0⟩

set_option maxHeartbeats 400000 in
theorem eqKey_c (ca cb : List Value) (x : DKey) (w : World) (ha : sKey.rd w ca x) (hb : sKey.rd w cb x) :
    Calls Try.prog 69 #[.agg ca.toArray, .agg cb.toArray] w fun e w' => e = .returned (.bool true) ∧ Ext w w' := by
  obtain ⟨c0, rfl, p0, p1⟩ := sKey_rd ha
  obtain ⟨d0, rfl, q0, q1⟩ := sKey_rd hb
  have hs1 : (x.secret != x.secret) = false := by simp
  go_enter Try.func69, Try.ntmps69
  go_wp2_with fail
  refine (eqName_c _ _ x.name _ (strs.ext (by exact ((Ext.refl w).alloc _).alloc _) p0) (strs.ext (by exact ((Ext.refl w).alloc _).alloc _) q0)).mono ?_
  rintro e w0 ⟨rfl, hx0⟩
  have f0 : w0.cell? ⟨w.heap.size, 0, none⟩ = some (c0) := hx0.cell (by simp)
  have g0 : w0.cell? ⟨w.heap.size + 1, 0, none⟩ = some (d0) := hx0.cell (by simp)
  have f1 : w0.cell? ⟨w.heap.size, 1, none⟩ = some (.int .i64 x.secret) := hx0.cell (by simp)
  have g1 : w0.cell? ⟨w.heap.size + 1, 1, none⟩ = some (.int .i64 x.secret) := hx0.cell (by simp)
  have E0 : Ext w w0 := Ext.trans (by exact ((Ext.refl w).alloc _).alloc _) hx0
  go_wp2
  go_ret
  exact ⟨rfl, E0⟩

set_option maxHeartbeats 400000 in
theorem eqKeyS_c (va vb : Value) (l : (List DKey)) (w : World) (ha : sKeyL.rd w [va] l) (hb : sKeyL.rd w [vb] l) :
    Calls Try.prog 37 #[va, vb] w fun e w' => e = .returned (.bool true) ∧ Ext w w' := by
  obtain ⟨A, c, rfl, hl, hm⟩ := Shape.sl_form ha
  obtain ⟨B, d, rfl, hl', hm'⟩ := Shape.sl_form hb
  unfold maxLen at hm hm'
  have Ha := Lib.hid ha
  have Hb := Lib.hid hb
  clear ha hb
  have hn' : ((l.length : Int) != l.length) = false := by simp
  go_enter Try.func37, Try.ntmps37
  go_wp2
  go_loopw [5] (fun i wr => ∃ k : Nat, k ≤ l.length ∧ i = .int .i64 k ∧ Ext w wr) (fun i _ => l.length - (intOf i).toNat)
  case atStart => exact ⟨0, Nat.zero_le _, rfl, Ext.refl _⟩
  case round =>
    obtain ⟨k, hk, rfl, hx⟩ := hrel
    by_cases hlt : k < l.length
    · obtain ⟨b1, o1, es1, rfl, hc1, hr1⟩ := Shape.sl_at (sKeyL.ext hx Ha.out) hlt
      obtain ⟨b2, o2, es2, rfl, hc2, hr2⟩ := Shape.sl_at (sKeyL.ext hx Hb.out) hlt
      have hr1' := hr1
      have hr2' := hr2
      obtain ⟨c0, rfl, p0, p1⟩ := sKey_rd hr1
      obtain ⟨d0, rfl, q0, q1⟩ := sKey_rd hr2
      have f0 := Ext.cellOf (hc1 0 _ rfl)
      have f1 := Ext.cellOf (hc1 1 _ rfl)
      have g0 := Ext.cellOf (hc2 0 _ rfl)
      have g1 := Ext.cellOf (hc2 1 _ rfl)
      simp only [Nat.add_zero, show sKey.k = 2 from rfl, Nat.mul_one] at f0 g0 f1 g1
      clear hc1 hc2
      go_wp2
      refine wp_region_ext (by kernel_rfl) (by kernel_rfl) ?_
      repeat (go_big_quiet_step (((go_at_call 69; refine Calls.ext_of (eqKey_c _ _ l[k] _ ?_ ?_); (exact sKey.ext (ExtOf.ok _) hr1'); (exact sKey.ext (ExtOf.ok _) hr2')))))
      refine wpQuiet_nil ?_
      rintro _ ⟨⟨w1, hx1⟩, rfl⟩
      clear f0 g0 f1 g1
      go_wp2
      go_roundw
      case rel => exact ⟨k + 1, by omega, by go_num, hx.trans hx1⟩
      case measure => simp [intOf]; omega
    · have : k = l.length := by omega
      subst this
      go_wp2
      go_ret
      exact ⟨rfl, hx⟩

set_option maxHeartbeats 400000 in
theorem eqReader_c (ca cb : List Value) (x : DReader) (w : World) (ha : sReader.rd w ca x) (hb : sReader.rd w cb x) :
    Calls Try.prog 70 #[.agg ca.toArray, .agg cb.toArray] w fun e w' => e = .returned (.bool true) ∧ Ext w w' := by
  obtain ⟨c1, rfl, p0, p1, p2⟩ := sReader_rd ha
  obtain ⟨d1, rfl, q0, q1, q2⟩ := sReader_rd hb
  have hs0 : (x.node != x.node) = false := by simp
  have hs2 : (x.epoch != x.epoch) = false := by simp
  go_enter Try.func70, Try.ntmps70
  go_wp2_with fail
  refine (eqName_c _ _ x.name _ (strs.ext (by exact ((Ext.refl w).alloc _).alloc _) p1) (strs.ext (by exact ((Ext.refl w).alloc _).alloc _) q1)).mono ?_
  rintro e w0 ⟨rfl, hx0⟩
  have f0 : w0.cell? ⟨w.heap.size, 0, none⟩ = some (.int .i64 x.node) := hx0.cell (by simp)
  have g0 : w0.cell? ⟨w.heap.size + 1, 0, none⟩ = some (.int .i64 x.node) := hx0.cell (by simp)
  have f1 : w0.cell? ⟨w.heap.size, 1, none⟩ = some (c1) := hx0.cell (by simp)
  have g1 : w0.cell? ⟨w.heap.size + 1, 1, none⟩ = some (d1) := hx0.cell (by simp)
  have f2 : w0.cell? ⟨w.heap.size, 2, none⟩ = some (.int .i64 x.epoch) := hx0.cell (by simp)
  have g2 : w0.cell? ⟨w.heap.size + 1, 2, none⟩ = some (.int .i64 x.epoch) := hx0.cell (by simp)
  have E0 : Ext w w0 := Ext.trans (by exact ((Ext.refl w).alloc _).alloc _) hx0
  go_wp2
  go_ret
  exact ⟨rfl, E0⟩

set_option maxHeartbeats 400000 in
theorem eqReaderS_c (va vb : Value) (l : (List DReader)) (w : World) (ha : sReaderL.rd w [va] l) (hb : sReaderL.rd w [vb] l) :
    Calls Try.prog 38 #[va, vb] w fun e w' => e = .returned (.bool true) ∧ Ext w w' := by
  obtain ⟨A, c, rfl, hl, hm⟩ := Shape.sl_form ha
  obtain ⟨B, d, rfl, hl', hm'⟩ := Shape.sl_form hb
  unfold maxLen at hm hm'
  have Ha := Lib.hid ha
  have Hb := Lib.hid hb
  clear ha hb
  have hn' : ((l.length : Int) != l.length) = false := by simp
  go_enter Try.func38, Try.ntmps38
  go_wp2
  go_loopw [5] (fun i wr => ∃ k : Nat, k ≤ l.length ∧ i = .int .i64 k ∧ Ext w wr) (fun i _ => l.length - (intOf i).toNat)
  case atStart => exact ⟨0, Nat.zero_le _, rfl, Ext.refl _⟩
  case round =>
    obtain ⟨k, hk, rfl, hx⟩ := hrel
    by_cases hlt : k < l.length
    · obtain ⟨b1, o1, es1, rfl, hc1, hr1⟩ := Shape.sl_at (sReaderL.ext hx Ha.out) hlt
      obtain ⟨b2, o2, es2, rfl, hc2, hr2⟩ := Shape.sl_at (sReaderL.ext hx Hb.out) hlt
      have hr1' := hr1
      have hr2' := hr2
      obtain ⟨c1, rfl, p0, p1, p2⟩ := sReader_rd hr1
      obtain ⟨d1, rfl, q0, q1, q2⟩ := sReader_rd hr2
      have f0 := Ext.cellOf (hc1 0 _ rfl)
      have f1 := Ext.cellOf (hc1 1 _ rfl)
      have f2 := Ext.cellOf (hc1 2 _ rfl)
      have g0 := Ext.cellOf (hc2 0 _ rfl)
      have g1 := Ext.cellOf (hc2 1 _ rfl)
      have g2 := Ext.cellOf (hc2 2 _ rfl)
      simp only [Nat.add_zero, show sReader.k = 3 from rfl, Nat.mul_one] at f0 g0 f1 g1 f2 g2
      clear hc1 hc2
      go_wp2
      refine wp_region_ext (by kernel_rfl) (by kernel_rfl) ?_
      repeat (go_big_quiet_step (((go_at_call 70; refine Calls.ext_of (eqReader_c _ _ l[k] _ ?_ ?_); (exact sReader.ext (ExtOf.ok _) hr1'); (exact sReader.ext (ExtOf.ok _) hr2')))))
      refine wpQuiet_nil ?_
      rintro _ ⟨⟨w1, hx1⟩, rfl⟩
      clear f0 g0 f1 g1 f2 g2
      go_wp2
      go_roundw
      case rel => exact ⟨k + 1, by omega, by go_num, hx.trans hx1⟩
      case measure => simp [intOf]; omega
    · have : k = l.length := by omega
      subst this
      go_wp2
      go_ret
      exact ⟨rfl, hx⟩

set_option maxHeartbeats 400000 in
theorem eqAccessController_c (ca cb : List Value) (x : DAccessController) (w : World) (ha : sAccessController.rd w ca x) (hb : sAccessController.rd w cb x) :
    Calls Try.prog 13 #[.agg ca.toArray, .agg cb.toArray] w fun e w' => e = .returned (.bool true) ∧ Ext w w' := by
  obtain ⟨c0, c3, rfl, p0, p1, p2, p3⟩ := sAccessController_rd ha
  obtain ⟨d0, d3, rfl, q0, q1, q2, q3⟩ := sAccessController_rd hb
  have hs1 : (x.master != x.master) = false := by simp
  have hs2 : (x.epoch != x.epoch) = false := by simp
  go_enter Try.func13, Try.ntmps13
  go_wp2_with fail
  refine (eqKeyS_c _ _ x.keys _ (sKeyL.ext (by exact ((Ext.refl w).alloc _).alloc _) p0) (sKeyL.ext (by exact ((Ext.refl w).alloc _).alloc _) q0)).mono ?_
  rintro e w0 ⟨rfl, hx0⟩
  have f0 : w0.cell? ⟨w.heap.size, 0, none⟩ = some (c0) := hx0.cell (by simp)
  have g0 : w0.cell? ⟨w.heap.size + 1, 0, none⟩ = some (d0) := hx0.cell (by simp)
  have f1 : w0.cell? ⟨w.heap.size, 1, none⟩ = some (.int .i64 x.master) := hx0.cell (by simp)
  have g1 : w0.cell? ⟨w.heap.size + 1, 1, none⟩ = some (.int .i64 x.master) := hx0.cell (by simp)
  have f2 : w0.cell? ⟨w.heap.size, 2, none⟩ = some (.int .i64 x.epoch) := hx0.cell (by simp)
  have g2 : w0.cell? ⟨w.heap.size + 1, 2, none⟩ = some (.int .i64 x.epoch) := hx0.cell (by simp)
  have f3 : w0.cell? ⟨w.heap.size, 3, none⟩ = some (c3) := hx0.cell (by simp)
  have g3 : w0.cell? ⟨w.heap.size + 1, 3, none⟩ = some (d3) := hx0.cell (by simp)
  have E0 : Ext w w0 := Ext.trans (by exact ((Ext.refl w).alloc _).alloc _) hx0
  go_wp2_with fail
  refine (eqReaderS_c _ _ x.readers _ (sReaderL.ext (by exact E0) p3) (sReaderL.ext (by exact E0) q3)).mono ?_
  rintro e w1 ⟨rfl, hx1⟩
  have f0 : w1.cell? ⟨w.heap.size, 0, none⟩ = some (c0) := hx1.cell f0
  have g0 : w1.cell? ⟨w.heap.size + 1, 0, none⟩ = some (d0) := hx1.cell g0
  have f1 : w1.cell? ⟨w.heap.size, 1, none⟩ = some (.int .i64 x.master) := hx1.cell f1
  have g1 : w1.cell? ⟨w.heap.size + 1, 1, none⟩ = some (.int .i64 x.master) := hx1.cell g1
  have f2 : w1.cell? ⟨w.heap.size, 2, none⟩ = some (.int .i64 x.epoch) := hx1.cell f2
  have g2 : w1.cell? ⟨w.heap.size + 1, 2, none⟩ = some (.int .i64 x.epoch) := hx1.cell g2
  have f3 : w1.cell? ⟨w.heap.size, 3, none⟩ = some (c3) := hx1.cell f3
  have g3 : w1.cell? ⟨w.heap.size + 1, 3, none⟩ = some (d3) := hx1.cell g3
  have E1 : Ext w w1 := Ext.trans (by exact E0) hx1
  go_wp2
  go_ret
  exact ⟨rfl, E1⟩

set_option maxHeartbeats 400000 in
theorem eqIntS_c (va vb : Value) (l : (List Int)) (w : World) (ha : sInts.rd w [va] l) (hb : sInts.rd w [vb] l) :
    Calls Try.prog 12 #[va, vb] w fun e w' => e = .returned (.bool true) ∧ Ext w w' := by
  obtain ⟨A, c, rfl, hl, hm⟩ := Shape.sl_form ha
  obtain ⟨B, d, rfl, hl', hm'⟩ := Shape.sl_form hb
  unfold maxLen at hm hm'
  have Ha := Lib.hid ha
  have Hb := Lib.hid hb
  clear ha hb
  have hn' : ((l.length : Int) != l.length) = false := by simp
  go_enter Try.func12, Try.ntmps12
  go_wp2
  go_loopw [5] (fun i wr => ∃ k : Nat, k ≤ l.length ∧ i = .int .i64 k ∧ Ext w wr) (fun i _ => l.length - (intOf i).toNat)
  case atStart => exact ⟨0, Nat.zero_le _, rfl, Ext.refl _⟩
  case round =>
    obtain ⟨k, hk, rfl, hx⟩ := hrel
    by_cases hlt : k < l.length
    · obtain ⟨b1, o1, rfl, hc1, _⟩ := Shape.int_at (sInts.ext hx Ha.out) hlt
      obtain ⟨b2, o2, rfl, hc2, _⟩ := Shape.int_at (sInts.ext hx Hb.out) hlt
      have hsame : (l[k] != l[k]) = false := by simp
      go_wp2
      go_quiet (fail)
      go_wp2
      go_roundw
      case rel => exact ⟨k + 1, by omega, by go_num, hx.drewN _⟩
      case measure => simp [intOf]; omega
    · have : k = l.length := by omega
      subst this
      go_wp2
      go_ret
      exact ⟨rfl, hx⟩

end Go.Proofs.Ytlobcaofeobgaaa
