/- What the families laws.eq.. answer: true, where both read alike. Printed by gen.py. -/
import Derived.Test.YthnkggjgblehaaaProg
import Derived.Test.YthnkggjgblehaaaTypes
namespace Go.Proofs.Ythnkggjgblehaaa
open Go.RowKit
set_option linter.unusedVariables false

set_option maxHeartbeats 400000 in
theorem eqStringS_c (va vb : Value) (l : (List ByteArray)) (w : World) (ha : strs.rd w [va] l) (hb : strs.rd w [vb] l) :
    Calls Try.prog 54 #[va, vb] w fun e w' => e = .returned (.bool true) ∧ Ext w w' := by
  obtain ⟨A, c, rfl, hl, hm⟩ := Shape.sl_form ha
  obtain ⟨B, d, rfl, hl', hm'⟩ := Shape.sl_form hb
  unfold maxLen at hm hm'
  have Ha := Lib.hid ha
  have Hb := Lib.hid hb
  clear ha hb
  have hn' : ((l.length : Int) != l.length) = false := by simp
  go_enter Try.func54, Try.ntmps54
  go_wp2
  go_loopw [5] (fun i wr => ∃ k : Nat, k ≤ l.length ∧ i = .int .i64 k ∧ Ext w wr) (fun i _ => l.length - (intOf i).toNat)
  case atStart => exact ⟨0, Nat.zero_le _, rfl, Ext.refl _⟩
  case round =>
    obtain ⟨k, hk, rfl, hx⟩ := hrel
    by_cases hlt : k < l.length
    · obtain ⟨b1, o1, rfl, hc1, _⟩ := Shape.str_at (strs.ext hx Ha.out) hlt
      obtain ⟨b2, o2, rfl, hc2, _⟩ := Shape.str_at (strs.ext hx Hb.out) hlt
      have hsame : (!l[k].toList == l[k].toList) = false := by simp
      go_wp2
      go_quiet (fail)
      go_wp2
      go_roundw
      case rel => exact ⟨k + 1, by omega, by go_num, hx.drewN _⟩
      case measure => simp [intOf]; omega
    · have : k = l.length := by omega
      subst this
      go_wp2
      go_ret
      exact ⟨rfl, hx⟩

set_option maxHeartbeats 400000 in
theorem eqName_c (ca cb : List Value) (x : (List ByteArray)) (w : World) (ha : strs.rd w ca x) (hb : strs.rd w cb x) :
    Calls Try.prog 18 #[.agg ca.toArray, .agg cb.toArray] w fun e w' => e = .returned (.bool true) ∧ Ext w w' := by
  have p0 := ha
  obtain ⟨c0, rfl⟩ := one_cell (strs.len ha)
  have q0 := hb
  obtain ⟨d0, rfl⟩ := one_cell (strs.len hb)
  go_enter Try.func18, Try.ntmps18
  go_wp2_with fail
  refine (eqStringS_c _ _ x _ (strs.ext (by exact ((Ext.refl w).alloc _).alloc _) p0) (strs.ext (by exact ((Ext.refl w).alloc _).alloc _) q0)).mono ?_
  rintro e w0 ⟨rfl, hx0⟩
  have f0 : w0.cell? ⟨w.heap.size, 0, none⟩ = some (c0) := hx0.cell (by simp)
  have g0 : w0.cell? ⟨w.heap.size + 1, 0, none⟩ = some (d0) := hx0.cell (by simp)
  have E0 : Ext w w0 := Ext.trans (by exact ((Ext.refl w).alloc _).alloc _) hx0
  go_wp2
  go_ret
  exact ⟨rfl, E0⟩

set_option maxHeartbeats 400000 in
theorem eqKey_c (ca cb : List Value) (x : DKey) (w : World) (ha : sKey.rd w ca x) (hb : sKey.rd w cb x) :
    Calls Try.prog 97 #[.agg ca.toArray, .agg cb.toArray] w fun e w' => e = .returned (.bool true) ∧ Ext w w' := by
  obtain ⟨c0, rfl, p0, p1⟩ := sKey_rd ha
  obtain ⟨d0, rfl, q0, q1⟩ := sKey_rd hb
  have hs1 : (x.secret != x.secret) = false := by simp
  go_enter Try.func97, Try.ntmps97
  go_wp2_with fail
  refine (eqName_c _ _ x.name _ (strs.ext (by exact ((Ext.refl w).alloc _).alloc _) p0) (strs.ext (by exact ((Ext.refl w).alloc _).alloc _) q0)).mono ?_
  rintro e w0 ⟨rfl, hx0⟩
  have f0 : w0.cell? ⟨w.heap.size, 0, none⟩ = some (c0) := hx0.cell (by simp)
  have g0 : w0.cell? ⟨w.heap.size + 1, 0, none⟩ = some (d0) := hx0.cell (by simp)
  have f1 : w0.cell? ⟨w.heap.size, 1, none⟩ = some (.int .i64 x.secret) := hx0.cell (by simp)
  have g1 : w0.cell? ⟨w.heap.size + 1, 1, none⟩ = some (.int .i64 x.secret) := hx0.cell (by simp)
  have E0 : Ext w w0 := Ext.trans (by exact ((Ext.refl w).alloc _).alloc _) hx0
  go_wp2
  go_ret
  exact ⟨rfl, E0⟩

set_option maxHeartbeats 400000 in
theorem eqKeyS_c (va vb : Value) (l : (List DKey)) (w : World) (ha : sKeyL.rd w [va] l) (hb : sKeyL.rd w [vb] l) :
    Calls Try.prog 48 #[va, vb] w fun e w' => e = .returned (.bool true) ∧ Ext w w' := by
  obtain ⟨A, c, rfl, hl, hm⟩ := Shape.sl_form ha
  obtain ⟨B, d, rfl, hl', hm'⟩ := Shape.sl_form hb
  unfold maxLen at hm hm'
  have Ha := Lib.hid ha
  have Hb := Lib.hid hb
  clear ha hb
  have hn' : ((l.length : Int) != l.length) = false := by simp
  go_enter Try.func48, Try.ntmps48
  go_wp2
  go_loopw [5] (fun i wr => ∃ k : Nat, k ≤ l.length ∧ i = .int .i64 k ∧ Ext w wr) (fun i _ => l.length - (intOf i).toNat)
  case atStart => exact ⟨0, Nat.zero_le _, rfl, Ext.refl _⟩
  case round =>
    obtain ⟨k, hk, rfl, hx⟩ := hrel
    by_cases hlt : k < l.length
    · obtain ⟨b1, o1, es1, rfl, hc1, hr1⟩ := Shape.sl_at (sKeyL.ext hx Ha.out) hlt
      obtain ⟨b2, o2, es2, rfl, hc2, hr2⟩ := Shape.sl_at (sKeyL.ext hx Hb.out) hlt
      have hr1' := hr1
      have hr2' := hr2
      obtain ⟨c0, rfl, p0, p1⟩ := sKey_rd hr1
      obtain ⟨d0, rfl, q0, q1⟩ := sKey_rd hr2
      have f0 := Ext.cellOf (hc1 0 _ rfl)
      have f1 := Ext.cellOf (hc1 1 _ rfl)
      have g0 := Ext.cellOf (hc2 0 _ rfl)
      have g1 := Ext.cellOf (hc2 1 _ rfl)
      simp only [Nat.add_zero, show sKey.k = 2 from rfl] at f0 g0 f1 g1
      clear hc1 hc2
      go_wp2
      refine wp_region_ext (by kernel_rfl) (by kernel_rfl) ?_
      repeat (go_big_quiet_step (((go_at_call 97; refine Calls.ext_of (eqKey_c _ _ l[k] _ ?_ ?_); (exact sKey.ext (ExtOf.ok _) hr1'); (exact sKey.ext (ExtOf.ok _) hr2')))))
      refine wpQuiet_nil ?_
      rintro _ ⟨⟨w1, hx1⟩, rfl⟩
      clear f0 g0 f1 g1
      go_wp2
      go_roundw
      case rel => exact ⟨k + 1, by omega, by go_num, hx.trans hx1⟩
      case measure => simp [intOf]; omega
    · have : k = l.length := by omega
      subst this
      go_wp2
      go_ret
      exact ⟨rfl, hx⟩

set_option maxHeartbeats 400000 in
theorem eqReader_c (ca cb : List Value) (x : DReader) (w : World) (ha : sReader.rd w ca x) (hb : sReader.rd w cb x) :
    Calls Try.prog 98 #[.agg ca.toArray, .agg cb.toArray] w fun e w' => e = .returned (.bool true) ∧ Ext w w' := by
  obtain ⟨c1, rfl, p0, p1, p2⟩ := sReader_rd ha
  obtain ⟨d1, rfl, q0, q1, q2⟩ := sReader_rd hb
  have hs0 : (x.node != x.node) = false := by simp
  have hs2 : (x.epoch != x.epoch) = false := by simp
  go_enter Try.func98, Try.ntmps98
  go_wp2_with fail
  refine (eqName_c _ _ x.name _ (strs.ext (by exact ((Ext.refl w).alloc _).alloc _) p1) (strs.ext (by exact ((Ext.refl w).alloc _).alloc _) q1)).mono ?_
  rintro e w0 ⟨rfl, hx0⟩
  have f0 : w0.cell? ⟨w.heap.size, 0, none⟩ = some (.int .i64 x.node) := hx0.cell (by simp)
  have g0 : w0.cell? ⟨w.heap.size + 1, 0, none⟩ = some (.int .i64 x.node) := hx0.cell (by simp)
  have f1 : w0.cell? ⟨w.heap.size, 1, none⟩ = some (c1) := hx0.cell (by simp)
  have g1 : w0.cell? ⟨w.heap.size + 1, 1, none⟩ = some (d1) := hx0.cell (by simp)
  have f2 : w0.cell? ⟨w.heap.size, 2, none⟩ = some (.int .i64 x.epoch) := hx0.cell (by simp)
  have g2 : w0.cell? ⟨w.heap.size + 1, 2, none⟩ = some (.int .i64 x.epoch) := hx0.cell (by simp)
  have E0 : Ext w w0 := Ext.trans (by exact ((Ext.refl w).alloc _).alloc _) hx0
  go_wp2
  go_ret
  exact ⟨rfl, E0⟩

set_option maxHeartbeats 400000 in
theorem eqReaderS_c (va vb : Value) (l : (List DReader)) (w : World) (ha : sReaderL.rd w [va] l) (hb : sReaderL.rd w [vb] l) :
    Calls Try.prog 49 #[va, vb] w fun e w' => e = .returned (.bool true) ∧ Ext w w' := by
  obtain ⟨A, c, rfl, hl, hm⟩ := Shape.sl_form ha
  obtain ⟨B, d, rfl, hl', hm'⟩ := Shape.sl_form hb
  unfold maxLen at hm hm'
  have Ha := Lib.hid ha
  have Hb := Lib.hid hb
  clear ha hb
  have hn' : ((l.length : Int) != l.length) = false := by simp
  go_enter Try.func49, Try.ntmps49
  go_wp2
  go_loopw [5] (fun i wr => ∃ k : Nat, k ≤ l.length ∧ i = .int .i64 k ∧ Ext w wr) (fun i _ => l.length - (intOf i).toNat)
  case atStart => exact ⟨0, Nat.zero_le _, rfl, Ext.refl _⟩
  case round =>
    obtain ⟨k, hk, rfl, hx⟩ := hrel
    by_cases hlt : k < l.length
    · obtain ⟨b1, o1, es1, rfl, hc1, hr1⟩ := Shape.sl_at (sReaderL.ext hx Ha.out) hlt
      obtain ⟨b2, o2, es2, rfl, hc2, hr2⟩ := Shape.sl_at (sReaderL.ext hx Hb.out) hlt
      have hr1' := hr1
      have hr2' := hr2
      obtain ⟨c1, rfl, p0, p1, p2⟩ := sReader_rd hr1
      obtain ⟨d1, rfl, q0, q1, q2⟩ := sReader_rd hr2
      have f0 := Ext.cellOf (hc1 0 _ rfl)
      have f1 := Ext.cellOf (hc1 1 _ rfl)
      have f2 := Ext.cellOf (hc1 2 _ rfl)
      have g0 := Ext.cellOf (hc2 0 _ rfl)
      have g1 := Ext.cellOf (hc2 1 _ rfl)
      have g2 := Ext.cellOf (hc2 2 _ rfl)
      simp only [Nat.add_zero, show sReader.k = 3 from rfl] at f0 g0 f1 g1 f2 g2
      clear hc1 hc2
      go_wp2
      refine wp_region_ext (by kernel_rfl) (by kernel_rfl) ?_
      repeat (go_big_quiet_step (((go_at_call 98; refine Calls.ext_of (eqReader_c _ _ l[k] _ ?_ ?_); (exact sReader.ext (ExtOf.ok _) hr1'); (exact sReader.ext (ExtOf.ok _) hr2')))))
      refine wpQuiet_nil ?_
      rintro _ ⟨⟨w1, hx1⟩, rfl⟩
      clear f0 g0 f1 g1 f2 g2
      go_wp2
      go_roundw
      case rel => exact ⟨k + 1, by omega, by go_num, hx.trans hx1⟩
      case measure => simp [intOf]; omega
    · have : k = l.length := by omega
      subst this
      go_wp2
      go_ret
      exact ⟨rfl, hx⟩

set_option maxHeartbeats 400000 in
theorem eqAccessController_c (ca cb : List Value) (x : DAccessController) (w : World) (ha : sAccessController.rd w ca x) (hb : sAccessController.rd w cb x) :
    Calls Try.prog 12 #[.agg ca.toArray, .agg cb.toArray] w fun e w' => e = .returned (.bool true) ∧ Ext w w' := by
  obtain ⟨c0, c3, rfl, p0, p1, p2, p3⟩ := sAccessController_rd ha
  obtain ⟨d0, d3, rfl, q0, q1, q2, q3⟩ := sAccessController_rd hb
  have hs1 : (x.master != x.master) = false := by simp
  have hs2 : (x.epoch != x.epoch) = false := by simp
  go_enter Try.func12, Try.ntmps12
  go_wp2_with fail
  refine (eqKeyS_c _ _ x.keys _ (sKeyL.ext (by exact ((Ext.refl w).alloc _).alloc _) p0) (sKeyL.ext (by exact ((Ext.refl w).alloc _).alloc _) q0)).mono ?_
  rintro e w0 ⟨rfl, hx0⟩
  have f0 : w0.cell? ⟨w.heap.size, 0, none⟩ = some (c0) := hx0.cell (by simp)
  have g0 : w0.cell? ⟨w.heap.size + 1, 0, none⟩ = some (d0) := hx0.cell (by simp)
  have f1 : w0.cell? ⟨w.heap.size, 1, none⟩ = some (.int .i64 x.master) := hx0.cell (by simp)
  have g1 : w0.cell? ⟨w.heap.size + 1, 1, none⟩ = some (.int .i64 x.master) := hx0.cell (by simp)
  have f2 : w0.cell? ⟨w.heap.size, 2, none⟩ = some (.int .i64 x.epoch) := hx0.cell (by simp)
  have g2 : w0.cell? ⟨w.heap.size + 1, 2, none⟩ = some (.int .i64 x.epoch) := hx0.cell (by simp)
  have f3 : w0.cell? ⟨w.heap.size, 3, none⟩ = some (c3) := hx0.cell (by simp)
  have g3 : w0.cell? ⟨w.heap.size + 1, 3, none⟩ = some (d3) := hx0.cell (by simp)
  have E0 : Ext w w0 := Ext.trans (by exact ((Ext.refl w).alloc _).alloc _) hx0
  go_wp2_with fail
  refine (eqReaderS_c _ _ x.readers _ (sReaderL.ext (by exact E0) p3) (sReaderL.ext (by exact E0) q3)).mono ?_
  rintro e w1 ⟨rfl, hx1⟩
  have f0 : w1.cell? ⟨w.heap.size, 0, none⟩ = some (c0) := hx1.cell f0
  have g0 : w1.cell? ⟨w.heap.size + 1, 0, none⟩ = some (d0) := hx1.cell g0
  have f1 : w1.cell? ⟨w.heap.size, 1, none⟩ = some (.int .i64 x.master) := hx1.cell f1
  have g1 : w1.cell? ⟨w.heap.size + 1, 1, none⟩ = some (.int .i64 x.master) := hx1.cell g1
  have f2 : w1.cell? ⟨w.heap.size, 2, none⟩ = some (.int .i64 x.epoch) := hx1.cell f2
  have g2 : w1.cell? ⟨w.heap.size + 1, 2, none⟩ = some (.int .i64 x.epoch) := hx1.cell g2
  have f3 : w1.cell? ⟨w.heap.size, 3, none⟩ = some (c3) := hx1.cell f3
  have g3 : w1.cell? ⟨w.heap.size + 1, 3, none⟩ = some (d3) := hx1.cell g3
  have E1 : Ext w w1 := Ext.trans (by exact E0) hx1
  go_wp2
  go_ret
  exact ⟨rfl, E1⟩

set_option maxHeartbeats 400000 in
theorem eqByteS_c (va vb : Value) (l : (List UInt8)) (w : World) (ha : sBytes.rd w [va] l) (hb : sBytes.rd w [vb] l) :
    Calls Try.prog 144 #[va, vb] w fun e w' => e = .returned (.bool true) ∧ Ext w w' := by
  obtain ⟨A, c, rfl, hl, hm⟩ := Shape.sl_form ha
  obtain ⟨B, d, rfl, hl', hm'⟩ := Shape.sl_form hb
  unfold maxLen at hm hm'
  have Ha := Lib.hid ha
  have Hb := Lib.hid hb
  clear ha hb
  have hn' : ((l.length : Int) != l.length) = false := by simp
  go_enter Try.func144, Try.ntmps144
  go_wp2
  go_loopw [5] (fun i wr => ∃ k : Nat, k ≤ l.length ∧ i = .int .i64 k ∧ Ext w wr) (fun i _ => l.length - (intOf i).toNat)
  case atStart => exact ⟨0, Nat.zero_le _, rfl, Ext.refl _⟩
  case round =>
    obtain ⟨k, hk, rfl, hx⟩ := hrel
    by_cases hlt : k < l.length
    · obtain ⟨b1, o1, rfl, hc1⟩ := Shape.byte_at (sBytes.ext hx Ha.out) hlt
      obtain ⟨b2, o2, rfl, hc2⟩ := Shape.byte_at (sBytes.ext hx Hb.out) hlt
      have hsame : ((l[k].toNat : Int) != (l[k].toNat : Int)) = false := by simp
      go_wp2
      go_quiet (fail)
      go_wp2
      go_roundw
      case rel => exact ⟨k + 1, by omega, by go_num, hx.drewN _⟩
      case measure => simp [intOf]; omega
    · have : k = l.length := by omega
      subst this
      go_wp2
      go_ret
      exact ⟨rfl, hx⟩

set_option maxHeartbeats 400000 in
theorem eqData_c (ca cb : List Value) (x : DData) (w : World) (ha : sData.rd w ca x) (hb : sData.rd w cb x) :
    Calls Try.prog 121 #[.agg ca.toArray, .agg cb.toArray] w fun e w' => e = .returned (.bool true) ∧ Ext w w' := by
  obtain ⟨c0, c1, c2, rfl, p0, p1, p2, p3, p4⟩ := sData_rd ha
  obtain ⟨d0, d1, d2, rfl, q0, q1, q2, q3, q4⟩ := sData_rd hb
  have hs3 : (x.freshUntil != x.freshUntil) = false := by simp
  have hs4 : (x.signature != x.signature) = false := by simp
  go_enter Try.func121, Try.ntmps121
  go_wp2_with fail
  refine (eqName_c _ _ x.name _ (strs.ext (by exact ((Ext.refl w).alloc _).alloc _) p0) (strs.ext (by exact ((Ext.refl w).alloc _).alloc _) q0)).mono ?_
  rintro e w0 ⟨rfl, hx0⟩
  have f0 : w0.cell? ⟨w.heap.size, 0, none⟩ = some (c0) := hx0.cell (by simp)
  have g0 : w0.cell? ⟨w.heap.size + 1, 0, none⟩ = some (d0) := hx0.cell (by simp)
  have f1 : w0.cell? ⟨w.heap.size, 1, none⟩ = some (c1) := hx0.cell (by simp)
  have g1 : w0.cell? ⟨w.heap.size + 1, 1, none⟩ = some (d1) := hx0.cell (by simp)
  have f2 : w0.cell? ⟨w.heap.size, 2, none⟩ = some (c2) := hx0.cell (by simp)
  have g2 : w0.cell? ⟨w.heap.size + 1, 2, none⟩ = some (d2) := hx0.cell (by simp)
  have f3 : w0.cell? ⟨w.heap.size, 3, none⟩ = some (.int .i64 x.freshUntil) := hx0.cell (by simp)
  have g3 : w0.cell? ⟨w.heap.size + 1, 3, none⟩ = some (.int .i64 x.freshUntil) := hx0.cell (by simp)
  have f4 : w0.cell? ⟨w.heap.size, 4, none⟩ = some (.int .i64 x.signature) := hx0.cell (by simp)
  have g4 : w0.cell? ⟨w.heap.size + 1, 4, none⟩ = some (.int .i64 x.signature) := hx0.cell (by simp)
  have E0 : Ext w w0 := Ext.trans (by exact ((Ext.refl w).alloc _).alloc _) hx0
  go_wp2_with fail
  refine (eqByteS_c _ _ x.content _ (sBytes.ext (by exact E0) p1) (sBytes.ext (by exact E0) q1)).mono ?_
  rintro e w1 ⟨rfl, hx1⟩
  have f0 : w1.cell? ⟨w.heap.size, 0, none⟩ = some (c0) := hx1.cell f0
  have g0 : w1.cell? ⟨w.heap.size + 1, 0, none⟩ = some (d0) := hx1.cell g0
  have f1 : w1.cell? ⟨w.heap.size, 1, none⟩ = some (c1) := hx1.cell f1
  have g1 : w1.cell? ⟨w.heap.size + 1, 1, none⟩ = some (d1) := hx1.cell g1
  have f2 : w1.cell? ⟨w.heap.size, 2, none⟩ = some (c2) := hx1.cell f2
  have g2 : w1.cell? ⟨w.heap.size + 1, 2, none⟩ = some (d2) := hx1.cell g2
  have f3 : w1.cell? ⟨w.heap.size, 3, none⟩ = some (.int .i64 x.freshUntil) := hx1.cell f3
  have g3 : w1.cell? ⟨w.heap.size + 1, 3, none⟩ = some (.int .i64 x.freshUntil) := hx1.cell g3
  have f4 : w1.cell? ⟨w.heap.size, 4, none⟩ = some (.int .i64 x.signature) := hx1.cell f4
  have g4 : w1.cell? ⟨w.heap.size + 1, 4, none⟩ = some (.int .i64 x.signature) := hx1.cell g4
  have E1 : Ext w w1 := Ext.trans (by exact E0) hx1
  go_wp2_with fail
  refine (eqName_c _ _ x.keyName _ (strs.ext (by exact E1) p2) (strs.ext (by exact E1) q2)).mono ?_
  rintro e w2 ⟨rfl, hx2⟩
  have f0 : w2.cell? ⟨w.heap.size, 0, none⟩ = some (c0) := hx2.cell f0
  have g0 : w2.cell? ⟨w.heap.size + 1, 0, none⟩ = some (d0) := hx2.cell g0
  have f1 : w2.cell? ⟨w.heap.size, 1, none⟩ = some (c1) := hx2.cell f1
  have g1 : w2.cell? ⟨w.heap.size + 1, 1, none⟩ = some (d1) := hx2.cell g1
  have f2 : w2.cell? ⟨w.heap.size, 2, none⟩ = some (c2) := hx2.cell f2
  have g2 : w2.cell? ⟨w.heap.size + 1, 2, none⟩ = some (d2) := hx2.cell g2
  have f3 : w2.cell? ⟨w.heap.size, 3, none⟩ = some (.int .i64 x.freshUntil) := hx2.cell f3
  have g3 : w2.cell? ⟨w.heap.size + 1, 3, none⟩ = some (.int .i64 x.freshUntil) := hx2.cell g3
  have f4 : w2.cell? ⟨w.heap.size, 4, none⟩ = some (.int .i64 x.signature) := hx2.cell f4
  have g4 : w2.cell? ⟨w.heap.size + 1, 4, none⟩ = some (.int .i64 x.signature) := hx2.cell g4
  have E2 : Ext w w2 := Ext.trans (by exact E1) hx2
  go_wp2
  go_ret
  exact ⟨rfl, E2⟩

set_option maxHeartbeats 400000 in
theorem eqDataS_c (va vb : Value) (l : (List DData)) (w : World) (ha : sDataL.rd w [va] l) (hb : sDataL.rd w [vb] l) :
    Calls Try.prog 78 #[va, vb] w fun e w' => e = .returned (.bool true) ∧ Ext w w' := by
  obtain ⟨A, c, rfl, hl, hm⟩ := Shape.sl_form ha
  obtain ⟨B, d, rfl, hl', hm'⟩ := Shape.sl_form hb
  unfold maxLen at hm hm'
  have Ha := Lib.hid ha
  have Hb := Lib.hid hb
  clear ha hb
  have hn' : ((l.length : Int) != l.length) = false := by simp
  go_enter Try.func78, Try.ntmps78
  go_wp2
  go_loopw [5] (fun i wr => ∃ k : Nat, k ≤ l.length ∧ i = .int .i64 k ∧ Ext w wr) (fun i _ => l.length - (intOf i).toNat)
  case atStart => exact ⟨0, Nat.zero_le _, rfl, Ext.refl _⟩
  case round =>
    obtain ⟨k, hk, rfl, hx⟩ := hrel
    by_cases hlt : k < l.length
    · obtain ⟨b1, o1, es1, rfl, hc1, hr1⟩ := Shape.sl_at (sDataL.ext hx Ha.out) hlt
      obtain ⟨b2, o2, es2, rfl, hc2, hr2⟩ := Shape.sl_at (sDataL.ext hx Hb.out) hlt
      have hr1' := hr1
      have hr2' := hr2
      obtain ⟨c0, c1, c2, rfl, p0, p1, p2, p3, p4⟩ := sData_rd hr1
      obtain ⟨d0, d1, d2, rfl, q0, q1, q2, q3, q4⟩ := sData_rd hr2
      have f0 := Ext.cellOf (hc1 0 _ rfl)
      have f1 := Ext.cellOf (hc1 1 _ rfl)
      have f2 := Ext.cellOf (hc1 2 _ rfl)
      have f3 := Ext.cellOf (hc1 3 _ rfl)
      have f4 := Ext.cellOf (hc1 4 _ rfl)
      have g0 := Ext.cellOf (hc2 0 _ rfl)
      have g1 := Ext.cellOf (hc2 1 _ rfl)
      have g2 := Ext.cellOf (hc2 2 _ rfl)
      have g3 := Ext.cellOf (hc2 3 _ rfl)
      have g4 := Ext.cellOf (hc2 4 _ rfl)
      simp only [Nat.add_zero, show sData.k = 5 from rfl] at f0 g0 f1 g1 f2 g2 f3 g3 f4 g4
      clear hc1 hc2
      go_wp2
      refine wp_region_ext (by kernel_rfl) (by kernel_rfl) ?_
      repeat (go_big_quiet_step (((go_at_call 121; refine Calls.ext_of (eqData_c _ _ l[k] _ ?_ ?_); (exact sData.ext (ExtOf.ok _) hr1'); (exact sData.ext (ExtOf.ok _) hr2')))))
      refine wpQuiet_nil ?_
      rintro _ ⟨⟨w1, hx1⟩, rfl⟩
      clear f0 g0 f1 g1 f2 g2 f3 g3 f4 g4
      go_wp2
      go_roundw
      case rel => exact ⟨k + 1, by omega, by go_num, hx.trans hx1⟩
      case measure => simp [intOf]; omega
    · have : k = l.length := by omega
      subst this
      go_wp2
      go_ret
      exact ⟨rfl, hx⟩

set_option maxHeartbeats 400000 in
theorem eqCacheEntry_c (ca cb : List Value) (x : DCacheEntry) (w : World) (ha : sCacheEntry.rd w ca x) (hb : sCacheEntry.rd w cb x) :
    Calls Try.prog 145 #[.agg ca.toArray, .agg cb.toArray] w fun e w' => e = .returned (.bool true) ∧ Ext w w' := by
  obtain ⟨c0, c1, c2, rfl, p0, p1⟩ := sCacheEntry_rd ha
  obtain ⟨d0, d1, d2, rfl, q0, q1⟩ := sCacheEntry_rd hb
  have hs3 : (x.data.freshUntil != x.data.freshUntil) = false := by simp
  have hs4 : (x.data.signature != x.data.signature) = false := by simp
  have hs5 : (x.lastUsed != x.lastUsed) = false := by simp
  go_enter Try.func145, Try.ntmps145
  go_wp2_with fail
  refine (eqData_c _ _ x.data _ (sData.ext (by exact ((Ext.refl w).alloc _).alloc _) p0) (sData.ext (by exact ((Ext.refl w).alloc _).alloc _) q0)).mono ?_
  rintro e w0 ⟨rfl, hx0⟩
  have f0 : w0.cell? ⟨w.heap.size, 0, none⟩ = some (c0) := hx0.cell (by simp)
  have g0 : w0.cell? ⟨w.heap.size + 1, 0, none⟩ = some (d0) := hx0.cell (by simp)
  have f1 : w0.cell? ⟨w.heap.size, 1, none⟩ = some (c1) := hx0.cell (by simp)
  have g1 : w0.cell? ⟨w.heap.size + 1, 1, none⟩ = some (d1) := hx0.cell (by simp)
  have f2 : w0.cell? ⟨w.heap.size, 2, none⟩ = some (c2) := hx0.cell (by simp)
  have g2 : w0.cell? ⟨w.heap.size + 1, 2, none⟩ = some (d2) := hx0.cell (by simp)
  have f3 : w0.cell? ⟨w.heap.size, 3, none⟩ = some (.int .i64 x.data.freshUntil) := hx0.cell (by simp)
  have g3 : w0.cell? ⟨w.heap.size + 1, 3, none⟩ = some (.int .i64 x.data.freshUntil) := hx0.cell (by simp)
  have f4 : w0.cell? ⟨w.heap.size, 4, none⟩ = some (.int .i64 x.data.signature) := hx0.cell (by simp)
  have g4 : w0.cell? ⟨w.heap.size + 1, 4, none⟩ = some (.int .i64 x.data.signature) := hx0.cell (by simp)
  have f5 : w0.cell? ⟨w.heap.size, 5, none⟩ = some (.int .i64 x.lastUsed) := hx0.cell (by simp)
  have g5 : w0.cell? ⟨w.heap.size + 1, 5, none⟩ = some (.int .i64 x.lastUsed) := hx0.cell (by simp)
  have E0 : Ext w w0 := Ext.trans (by exact ((Ext.refl w).alloc _).alloc _) hx0
  go_wp2
  go_ret
  exact ⟨rfl, E0⟩

set_option maxHeartbeats 400000 in
theorem eqCacheEntryS_c (va vb : Value) (l : (List DCacheEntry)) (w : World) (ha : sCacheEntryL.rd w [va] l) (hb : sCacheEntryL.rd w [vb] l) :
    Calls Try.prog 122 #[va, vb] w fun e w' => e = .returned (.bool true) ∧ Ext w w' := by
  obtain ⟨A, c, rfl, hl, hm⟩ := Shape.sl_form ha
  obtain ⟨B, d, rfl, hl', hm'⟩ := Shape.sl_form hb
  unfold maxLen at hm hm'
  have Ha := Lib.hid ha
  have Hb := Lib.hid hb
  clear ha hb
  have hn' : ((l.length : Int) != l.length) = false := by simp
  go_enter Try.func122, Try.ntmps122
  go_wp2
  go_loopw [5] (fun i wr => ∃ k : Nat, k ≤ l.length ∧ i = .int .i64 k ∧ Ext w wr) (fun i _ => l.length - (intOf i).toNat)
  case atStart => exact ⟨0, Nat.zero_le _, rfl, Ext.refl _⟩
  case round =>
    obtain ⟨k, hk, rfl, hx⟩ := hrel
    by_cases hlt : k < l.length
    · obtain ⟨b1, o1, es1, rfl, hc1, hr1⟩ := Shape.sl_at (sCacheEntryL.ext hx Ha.out) hlt
      obtain ⟨b2, o2, es2, rfl, hc2, hr2⟩ := Shape.sl_at (sCacheEntryL.ext hx Hb.out) hlt
      have hr1' := hr1
      have hr2' := hr2
      obtain ⟨c0, c1, c2, rfl, p0, p1⟩ := sCacheEntry_rd hr1
      obtain ⟨d0, d1, d2, rfl, q0, q1⟩ := sCacheEntry_rd hr2
      have f0 := Ext.cellOf (hc1 0 _ rfl)
      have f1 := Ext.cellOf (hc1 1 _ rfl)
      have f2 := Ext.cellOf (hc1 2 _ rfl)
      have f3 := Ext.cellOf (hc1 3 _ rfl)
      have f4 := Ext.cellOf (hc1 4 _ rfl)
      have f5 := Ext.cellOf (hc1 5 _ rfl)
      have g0 := Ext.cellOf (hc2 0 _ rfl)
      have g1 := Ext.cellOf (hc2 1 _ rfl)
      have g2 := Ext.cellOf (hc2 2 _ rfl)
      have g3 := Ext.cellOf (hc2 3 _ rfl)
      have g4 := Ext.cellOf (hc2 4 _ rfl)
      have g5 := Ext.cellOf (hc2 5 _ rfl)
      simp only [Nat.add_zero, show sCacheEntry.k = 6 from rfl] at f0 g0 f1 g1 f2 g2 f3 g3 f4 g4 f5 g5
      clear hc1 hc2
      go_wp2
      refine wp_region_ext (by kernel_rfl) (by kernel_rfl) ?_
      repeat (go_big_quiet_step (((go_at_call 145; refine Calls.ext_of (eqCacheEntry_c _ _ l[k] _ ?_ ?_); (exact sCacheEntry.ext (ExtOf.ok _) hr1'); (exact sCacheEntry.ext (ExtOf.ok _) hr2')))))
      refine wpQuiet_nil ?_
      rintro _ ⟨⟨w1, hx1⟩, rfl⟩
      clear f0 g0 f1 g1 f2 g2 f3 g3 f4 g4 f5 g5
      go_wp2
      go_roundw
      case rel => exact ⟨k + 1, by omega, by go_num, hx.trans hx1⟩
      case measure => simp [intOf]; omega
    · have : k = l.length := by omega
      subst this
      go_wp2
      go_ret
      exact ⟨rfl, hx⟩

set_option maxHeartbeats 400000 in
theorem eqContentStore_c (ca cb : List Value) (x : DContentStore) (w : World) (ha : sContentStore.rd w ca x) (hb : sContentStore.rd w cb x) :
    Calls Try.prog 79 #[.agg ca.toArray, .agg cb.toArray] w fun e w' => e = .returned (.bool true) ∧ Ext w w' := by
  obtain ⟨c1, rfl, p0, p1⟩ := sContentStore_rd ha
  obtain ⟨d1, rfl, q0, q1⟩ := sContentStore_rd hb
  have hs0 : (x.capacity != x.capacity) = false := by simp
  go_enter Try.func79, Try.ntmps79
  go_wp2_with fail
  refine (eqCacheEntryS_c _ _ x.entries _ (sCacheEntryL.ext (by exact ((Ext.refl w).alloc _).alloc _) p1) (sCacheEntryL.ext (by exact ((Ext.refl w).alloc _).alloc _) q1)).mono ?_
  rintro e w0 ⟨rfl, hx0⟩
  have f0 : w0.cell? ⟨w.heap.size, 0, none⟩ = some (.int .i64 x.capacity) := hx0.cell (by simp)
  have g0 : w0.cell? ⟨w.heap.size + 1, 0, none⟩ = some (.int .i64 x.capacity) := hx0.cell (by simp)
  have f1 : w0.cell? ⟨w.heap.size, 1, none⟩ = some (c1) := hx0.cell (by simp)
  have g1 : w0.cell? ⟨w.heap.size + 1, 1, none⟩ = some (d1) := hx0.cell (by simp)
  have E0 : Ext w w0 := Ext.trans (by exact ((Ext.refl w).alloc _).alloc _) hx0
  go_wp2
  go_ret
  exact ⟨rfl, E0⟩

set_option maxHeartbeats 400000 in
theorem eqRequester_c (ca cb : List Value) (x : DRequester) (w : World) (ha : sRequester.rd w ca x) (hb : sRequester.rd w cb x) :
    Calls Try.prog 154 #[.agg ca.toArray, .agg cb.toArray] w fun e w' => e = .returned (.bool true) ∧ Ext w w' := by
  obtain ⟨rfl, p0, p1, p2⟩ := sRequester_rd ha
  obtain ⟨rfl, q0, q1, q2⟩ := sRequester_rd hb
  have hs0 : (x.face != x.face) = false := by simp
  have hs1 : (x.nonce != x.nonce) = false := by simp
  have hs2 : (x.expiry != x.expiry) = false := by simp
  go_enter Try.func154, Try.ntmps154
  go_wp2
  go_ret
  exact ⟨rfl, ((Ext.refl w).alloc _).alloc _⟩

set_option maxHeartbeats 400000 in
theorem eqRequesterS_c (va vb : Value) (l : (List DRequester)) (w : World) (ha : sRequesterL.rd w [va] l) (hb : sRequesterL.rd w [vb] l) :
    Calls Try.prog 146 #[va, vb] w fun e w' => e = .returned (.bool true) ∧ Ext w w' := by
  obtain ⟨A, c, rfl, hl, hm⟩ := Shape.sl_form ha
  obtain ⟨B, d, rfl, hl', hm'⟩ := Shape.sl_form hb
  unfold maxLen at hm hm'
  have Ha := Lib.hid ha
  have Hb := Lib.hid hb
  clear ha hb
  have hn' : ((l.length : Int) != l.length) = false := by simp
  go_enter Try.func146, Try.ntmps146
  go_wp2
  go_loopw [5] (fun i wr => ∃ k : Nat, k ≤ l.length ∧ i = .int .i64 k ∧ Ext w wr) (fun i _ => l.length - (intOf i).toNat)
  case atStart => exact ⟨0, Nat.zero_le _, rfl, Ext.refl _⟩
  case round =>
    obtain ⟨k, hk, rfl, hx⟩ := hrel
    by_cases hlt : k < l.length
    · obtain ⟨b1, o1, es1, rfl, hc1, hr1⟩ := Shape.sl_at (sRequesterL.ext hx Ha.out) hlt
      obtain ⟨b2, o2, es2, rfl, hc2, hr2⟩ := Shape.sl_at (sRequesterL.ext hx Hb.out) hlt
      have hr1' := hr1
      have hr2' := hr2
      obtain ⟨rfl, p0, p1, p2⟩ := sRequester_rd hr1
      obtain ⟨rfl, q0, q1, q2⟩ := sRequester_rd hr2
      have f0 := Ext.cellOf (hc1 0 _ rfl)
      have f1 := Ext.cellOf (hc1 1 _ rfl)
      have f2 := Ext.cellOf (hc1 2 _ rfl)
      have g0 := Ext.cellOf (hc2 0 _ rfl)
      have g1 := Ext.cellOf (hc2 1 _ rfl)
      have g2 := Ext.cellOf (hc2 2 _ rfl)
      simp only [Nat.add_zero, show sRequester.k = 3 from rfl] at f0 g0 f1 g1 f2 g2
      clear hc1 hc2
      go_wp2
      refine wp_region_ext (by kernel_rfl) (by kernel_rfl) ?_
      repeat (go_big_quiet_step (((go_at_call 154; refine Calls.ext_of (eqRequester_c _ _ l[k] _ ?_ ?_); (exact sRequester.ext (ExtOf.ok _) hr1'); (exact sRequester.ext (ExtOf.ok _) hr2')))))
      refine wpQuiet_nil ?_
      rintro _ ⟨⟨w1, hx1⟩, rfl⟩
      clear f0 g0 f1 g1 f2 g2
      go_wp2
      go_roundw
      case rel => exact ⟨k + 1, by omega, by go_num, hx.trans hx1⟩
      case measure => simp [intOf]; omega
    · have : k = l.length := by omega
      subst this
      go_wp2
      go_ret
      exact ⟨rfl, hx⟩

set_option maxHeartbeats 400000 in
theorem eqPendingInterest_c (ca cb : List Value) (x : DPendingInterest) (w : World) (ha : sPendingInterest.rd w ca x) (hb : sPendingInterest.rd w cb x) :
    Calls Try.prog 123 #[.agg ca.toArray, .agg cb.toArray] w fun e w' => e = .returned (.bool true) ∧ Ext w w' := by
  obtain ⟨c0, c1, rfl, p0, p1, p2⟩ := sPendingInterest_rd ha
  obtain ⟨d0, d1, rfl, q0, q1, q2⟩ := sPendingInterest_rd hb
  have hs2 : (x.lastSent != x.lastSent) = false := by simp
  go_enter Try.func123, Try.ntmps123
  go_wp2_with fail
  refine (eqName_c _ _ x.name _ (strs.ext (by exact ((Ext.refl w).alloc _).alloc _) p0) (strs.ext (by exact ((Ext.refl w).alloc _).alloc _) q0)).mono ?_
  rintro e w0 ⟨rfl, hx0⟩
  have f0 : w0.cell? ⟨w.heap.size, 0, none⟩ = some (c0) := hx0.cell (by simp)
  have g0 : w0.cell? ⟨w.heap.size + 1, 0, none⟩ = some (d0) := hx0.cell (by simp)
  have f1 : w0.cell? ⟨w.heap.size, 1, none⟩ = some (c1) := hx0.cell (by simp)
  have g1 : w0.cell? ⟨w.heap.size + 1, 1, none⟩ = some (d1) := hx0.cell (by simp)
  have f2 : w0.cell? ⟨w.heap.size, 2, none⟩ = some (.int .i64 x.lastSent) := hx0.cell (by simp)
  have g2 : w0.cell? ⟨w.heap.size + 1, 2, none⟩ = some (.int .i64 x.lastSent) := hx0.cell (by simp)
  have E0 : Ext w w0 := Ext.trans (by exact ((Ext.refl w).alloc _).alloc _) hx0
  go_wp2_with fail
  refine (eqRequesterS_c _ _ x.requesters _ (sRequesterL.ext (by exact E0) p1) (sRequesterL.ext (by exact E0) q1)).mono ?_
  rintro e w1 ⟨rfl, hx1⟩
  have f0 : w1.cell? ⟨w.heap.size, 0, none⟩ = some (c0) := hx1.cell f0
  have g0 : w1.cell? ⟨w.heap.size + 1, 0, none⟩ = some (d0) := hx1.cell g0
  have f1 : w1.cell? ⟨w.heap.size, 1, none⟩ = some (c1) := hx1.cell f1
  have g1 : w1.cell? ⟨w.heap.size + 1, 1, none⟩ = some (d1) := hx1.cell g1
  have f2 : w1.cell? ⟨w.heap.size, 2, none⟩ = some (.int .i64 x.lastSent) := hx1.cell f2
  have g2 : w1.cell? ⟨w.heap.size + 1, 2, none⟩ = some (.int .i64 x.lastSent) := hx1.cell g2
  have E1 : Ext w w1 := Ext.trans (by exact E0) hx1
  go_wp2
  go_ret
  exact ⟨rfl, E1⟩

set_option maxHeartbeats 400000 in
theorem eqPendingInterestS_c (va vb : Value) (l : (List DPendingInterest)) (w : World) (ha : sPendingInterestL.rd w [va] l) (hb : sPendingInterestL.rd w [vb] l) :
    Calls Try.prog 80 #[va, vb] w fun e w' => e = .returned (.bool true) ∧ Ext w w' := by
  obtain ⟨A, c, rfl, hl, hm⟩ := Shape.sl_form ha
  obtain ⟨B, d, rfl, hl', hm'⟩ := Shape.sl_form hb
  unfold maxLen at hm hm'
  have Ha := Lib.hid ha
  have Hb := Lib.hid hb
  clear ha hb
  have hn' : ((l.length : Int) != l.length) = false := by simp
  go_enter Try.func80, Try.ntmps80
  go_wp2
  go_loopw [5] (fun i wr => ∃ k : Nat, k ≤ l.length ∧ i = .int .i64 k ∧ Ext w wr) (fun i _ => l.length - (intOf i).toNat)
  case atStart => exact ⟨0, Nat.zero_le _, rfl, Ext.refl _⟩
  case round =>
    obtain ⟨k, hk, rfl, hx⟩ := hrel
    by_cases hlt : k < l.length
    · obtain ⟨b1, o1, es1, rfl, hc1, hr1⟩ := Shape.sl_at (sPendingInterestL.ext hx Ha.out) hlt
      obtain ⟨b2, o2, es2, rfl, hc2, hr2⟩ := Shape.sl_at (sPendingInterestL.ext hx Hb.out) hlt
      have hr1' := hr1
      have hr2' := hr2
      obtain ⟨c0, c1, rfl, p0, p1, p2⟩ := sPendingInterest_rd hr1
      obtain ⟨d0, d1, rfl, q0, q1, q2⟩ := sPendingInterest_rd hr2
      have f0 := Ext.cellOf (hc1 0 _ rfl)
      have f1 := Ext.cellOf (hc1 1 _ rfl)
      have f2 := Ext.cellOf (hc1 2 _ rfl)
      have g0 := Ext.cellOf (hc2 0 _ rfl)
      have g1 := Ext.cellOf (hc2 1 _ rfl)
      have g2 := Ext.cellOf (hc2 2 _ rfl)
      simp only [Nat.add_zero, show sPendingInterest.k = 3 from rfl] at f0 g0 f1 g1 f2 g2
      clear hc1 hc2
      go_wp2
      refine wp_region_ext (by kernel_rfl) (by kernel_rfl) ?_
      repeat (go_big_quiet_step (((go_at_call 123; refine Calls.ext_of (eqPendingInterest_c _ _ l[k] _ ?_ ?_); (exact sPendingInterest.ext (ExtOf.ok _) hr1'); (exact sPendingInterest.ext (ExtOf.ok _) hr2')))))
      refine wpQuiet_nil ?_
      rintro _ ⟨⟨w1, hx1⟩, rfl⟩
      clear f0 g0 f1 g1 f2 g2
      go_wp2
      go_roundw
      case rel => exact ⟨k + 1, by omega, by go_num, hx.trans hx1⟩
      case measure => simp [intOf]; omega
    · have : k = l.length := by omega
      subst this
      go_wp2
      go_ret
      exact ⟨rfl, hx⟩

set_option maxHeartbeats 400000 in
theorem eqSeenNonce_c (ca cb : List Value) (x : DSeenNonce) (w : World) (ha : sSeenNonce.rd w ca x) (hb : sSeenNonce.rd w cb x) :
    Calls Try.prog 124 #[.agg ca.toArray, .agg cb.toArray] w fun e w' => e = .returned (.bool true) ∧ Ext w w' := by
  obtain ⟨c0, rfl, p0, p1⟩ := sSeenNonce_rd ha
  obtain ⟨d0, rfl, q0, q1⟩ := sSeenNonce_rd hb
  have hs1 : (x.nonce != x.nonce) = false := by simp
  go_enter Try.func124, Try.ntmps124
  go_wp2_with fail
  refine (eqName_c _ _ x.name _ (strs.ext (by exact ((Ext.refl w).alloc _).alloc _) p0) (strs.ext (by exact ((Ext.refl w).alloc _).alloc _) q0)).mono ?_
  rintro e w0 ⟨rfl, hx0⟩
  have f0 : w0.cell? ⟨w.heap.size, 0, none⟩ = some (c0) := hx0.cell (by simp)
  have g0 : w0.cell? ⟨w.heap.size + 1, 0, none⟩ = some (d0) := hx0.cell (by simp)
  have f1 : w0.cell? ⟨w.heap.size, 1, none⟩ = some (.int .i64 x.nonce) := hx0.cell (by simp)
  have g1 : w0.cell? ⟨w.heap.size + 1, 1, none⟩ = some (.int .i64 x.nonce) := hx0.cell (by simp)
  have E0 : Ext w w0 := Ext.trans (by exact ((Ext.refl w).alloc _).alloc _) hx0
  go_wp2
  go_ret
  exact ⟨rfl, E0⟩

set_option maxHeartbeats 400000 in
theorem eqSeenNonceS_c (va vb : Value) (l : (List DSeenNonce)) (w : World) (ha : sSeenNonceL.rd w [va] l) (hb : sSeenNonceL.rd w [vb] l) :
    Calls Try.prog 81 #[va, vb] w fun e w' => e = .returned (.bool true) ∧ Ext w w' := by
  obtain ⟨A, c, rfl, hl, hm⟩ := Shape.sl_form ha
  obtain ⟨B, d, rfl, hl', hm'⟩ := Shape.sl_form hb
  unfold maxLen at hm hm'
  have Ha := Lib.hid ha
  have Hb := Lib.hid hb
  clear ha hb
  have hn' : ((l.length : Int) != l.length) = false := by simp
  go_enter Try.func81, Try.ntmps81
  go_wp2
  go_loopw [5] (fun i wr => ∃ k : Nat, k ≤ l.length ∧ i = .int .i64 k ∧ Ext w wr) (fun i _ => l.length - (intOf i).toNat)
  case atStart => exact ⟨0, Nat.zero_le _, rfl, Ext.refl _⟩
  case round =>
    obtain ⟨k, hk, rfl, hx⟩ := hrel
    by_cases hlt : k < l.length
    · obtain ⟨b1, o1, es1, rfl, hc1, hr1⟩ := Shape.sl_at (sSeenNonceL.ext hx Ha.out) hlt
      obtain ⟨b2, o2, es2, rfl, hc2, hr2⟩ := Shape.sl_at (sSeenNonceL.ext hx Hb.out) hlt
      have hr1' := hr1
      have hr2' := hr2
      obtain ⟨c0, rfl, p0, p1⟩ := sSeenNonce_rd hr1
      obtain ⟨d0, rfl, q0, q1⟩ := sSeenNonce_rd hr2
      have f0 := Ext.cellOf (hc1 0 _ rfl)
      have f1 := Ext.cellOf (hc1 1 _ rfl)
      have g0 := Ext.cellOf (hc2 0 _ rfl)
      have g1 := Ext.cellOf (hc2 1 _ rfl)
      simp only [Nat.add_zero, show sSeenNonce.k = 2 from rfl] at f0 g0 f1 g1
      clear hc1 hc2
      go_wp2
      refine wp_region_ext (by kernel_rfl) (by kernel_rfl) ?_
      repeat (go_big_quiet_step (((go_at_call 124; refine Calls.ext_of (eqSeenNonce_c _ _ l[k] _ ?_ ?_); (exact sSeenNonce.ext (ExtOf.ok _) hr1'); (exact sSeenNonce.ext (ExtOf.ok _) hr2')))))
      refine wpQuiet_nil ?_
      rintro _ ⟨⟨w1, hx1⟩, rfl⟩
      clear f0 g0 f1 g1
      go_wp2
      go_roundw
      case rel => exact ⟨k + 1, by omega, by go_num, hx.trans hx1⟩
      case measure => simp [intOf]; omega
    · have : k = l.length := by omega
      subst this
      go_wp2
      go_ret
      exact ⟨rfl, hx⟩

set_option maxHeartbeats 400000 in
theorem eqRoute_c (ca cb : List Value) (x : DRoute) (w : World) (ha : sRoute.rd w ca x) (hb : sRoute.rd w cb x) :
    Calls Try.prog 125 #[.agg ca.toArray, .agg cb.toArray] w fun e w' => e = .returned (.bool true) ∧ Ext w w' := by
  obtain ⟨c0, rfl, p0, p1, p2⟩ := sRoute_rd ha
  obtain ⟨d0, rfl, q0, q1, q2⟩ := sRoute_rd hb
  have hs1 : (x.face != x.face) = false := by simp
  have hs2 : (x.cost != x.cost) = false := by simp
  go_enter Try.func125, Try.ntmps125
  go_wp2_with fail
  refine (eqName_c _ _ x.pfx _ (strs.ext (by exact ((Ext.refl w).alloc _).alloc _) p0) (strs.ext (by exact ((Ext.refl w).alloc _).alloc _) q0)).mono ?_
  rintro e w0 ⟨rfl, hx0⟩
  have f0 : w0.cell? ⟨w.heap.size, 0, none⟩ = some (c0) := hx0.cell (by simp)
  have g0 : w0.cell? ⟨w.heap.size + 1, 0, none⟩ = some (d0) := hx0.cell (by simp)
  have f1 : w0.cell? ⟨w.heap.size, 1, none⟩ = some (.int .i64 x.face) := hx0.cell (by simp)
  have g1 : w0.cell? ⟨w.heap.size + 1, 1, none⟩ = some (.int .i64 x.face) := hx0.cell (by simp)
  have f2 : w0.cell? ⟨w.heap.size, 2, none⟩ = some (.int .i64 x.cost) := hx0.cell (by simp)
  have g2 : w0.cell? ⟨w.heap.size + 1, 2, none⟩ = some (.int .i64 x.cost) := hx0.cell (by simp)
  have E0 : Ext w w0 := Ext.trans (by exact ((Ext.refl w).alloc _).alloc _) hx0
  go_wp2
  go_ret
  exact ⟨rfl, E0⟩

set_option maxHeartbeats 400000 in
theorem eqRouteS_c (va vb : Value) (l : (List DRoute)) (w : World) (ha : sRouteL.rd w [va] l) (hb : sRouteL.rd w [vb] l) :
    Calls Try.prog 82 #[va, vb] w fun e w' => e = .returned (.bool true) ∧ Ext w w' := by
  obtain ⟨A, c, rfl, hl, hm⟩ := Shape.sl_form ha
  obtain ⟨B, d, rfl, hl', hm'⟩ := Shape.sl_form hb
  unfold maxLen at hm hm'
  have Ha := Lib.hid ha
  have Hb := Lib.hid hb
  clear ha hb
  have hn' : ((l.length : Int) != l.length) = false := by simp
  go_enter Try.func82, Try.ntmps82
  go_wp2
  go_loopw [5] (fun i wr => ∃ k : Nat, k ≤ l.length ∧ i = .int .i64 k ∧ Ext w wr) (fun i _ => l.length - (intOf i).toNat)
  case atStart => exact ⟨0, Nat.zero_le _, rfl, Ext.refl _⟩
  case round =>
    obtain ⟨k, hk, rfl, hx⟩ := hrel
    by_cases hlt : k < l.length
    · obtain ⟨b1, o1, es1, rfl, hc1, hr1⟩ := Shape.sl_at (sRouteL.ext hx Ha.out) hlt
      obtain ⟨b2, o2, es2, rfl, hc2, hr2⟩ := Shape.sl_at (sRouteL.ext hx Hb.out) hlt
      have hr1' := hr1
      have hr2' := hr2
      obtain ⟨c0, rfl, p0, p1, p2⟩ := sRoute_rd hr1
      obtain ⟨d0, rfl, q0, q1, q2⟩ := sRoute_rd hr2
      have f0 := Ext.cellOf (hc1 0 _ rfl)
      have f1 := Ext.cellOf (hc1 1 _ rfl)
      have f2 := Ext.cellOf (hc1 2 _ rfl)
      have g0 := Ext.cellOf (hc2 0 _ rfl)
      have g1 := Ext.cellOf (hc2 1 _ rfl)
      have g2 := Ext.cellOf (hc2 2 _ rfl)
      simp only [Nat.add_zero, show sRoute.k = 3 from rfl] at f0 g0 f1 g1 f2 g2
      clear hc1 hc2
      go_wp2
      refine wp_region_ext (by kernel_rfl) (by kernel_rfl) ?_
      repeat (go_big_quiet_step (((go_at_call 125; refine Calls.ext_of (eqRoute_c _ _ l[k] _ ?_ ?_); (exact sRoute.ext (ExtOf.ok _) hr1'); (exact sRoute.ext (ExtOf.ok _) hr2')))))
      refine wpQuiet_nil ?_
      rintro _ ⟨⟨w1, hx1⟩, rfl⟩
      clear f0 g0 f1 g1 f2 g2
      go_wp2
      go_roundw
      case rel => exact ⟨k + 1, by omega, by go_num, hx.trans hx1⟩
      case measure => simp [intOf]; omega
    · have : k = l.length := by omega
      subst this
      go_wp2
      go_ret
      exact ⟨rfl, hx⟩

set_option maxHeartbeats 400000 in
theorem eqMeasurement_c (ca cb : List Value) (x : DMeasurement) (w : World) (ha : sMeasurement.rd w ca x) (hb : sMeasurement.rd w cb x) :
    Calls Try.prog 126 #[.agg ca.toArray, .agg cb.toArray] w fun e w' => e = .returned (.bool true) ∧ Ext w w' := by
  obtain ⟨c0, rfl, p0, p1, p2⟩ := sMeasurement_rd ha
  obtain ⟨d0, rfl, q0, q1, q2⟩ := sMeasurement_rd hb
  have hs1 : (x.face != x.face) = false := by simp
  have hs2 : (x.failures != x.failures) = false := by simp
  go_enter Try.func126, Try.ntmps126
  go_wp2_with fail
  refine (eqName_c _ _ x.pfx _ (strs.ext (by exact ((Ext.refl w).alloc _).alloc _) p0) (strs.ext (by exact ((Ext.refl w).alloc _).alloc _) q0)).mono ?_
  rintro e w0 ⟨rfl, hx0⟩
  have f0 : w0.cell? ⟨w.heap.size, 0, none⟩ = some (c0) := hx0.cell (by simp)
  have g0 : w0.cell? ⟨w.heap.size + 1, 0, none⟩ = some (d0) := hx0.cell (by simp)
  have f1 : w0.cell? ⟨w.heap.size, 1, none⟩ = some (.int .i64 x.face) := hx0.cell (by simp)
  have g1 : w0.cell? ⟨w.heap.size + 1, 1, none⟩ = some (.int .i64 x.face) := hx0.cell (by simp)
  have f2 : w0.cell? ⟨w.heap.size, 2, none⟩ = some (.int .i64 x.failures) := hx0.cell (by simp)
  have g2 : w0.cell? ⟨w.heap.size + 1, 2, none⟩ = some (.int .i64 x.failures) := hx0.cell (by simp)
  have E0 : Ext w w0 := Ext.trans (by exact ((Ext.refl w).alloc _).alloc _) hx0
  go_wp2
  go_ret
  exact ⟨rfl, E0⟩

set_option maxHeartbeats 400000 in
theorem eqMeasurementS_c (va vb : Value) (l : (List DMeasurement)) (w : World) (ha : sMeasurementL.rd w [va] l) (hb : sMeasurementL.rd w [vb] l) :
    Calls Try.prog 83 #[va, vb] w fun e w' => e = .returned (.bool true) ∧ Ext w w' := by
  obtain ⟨A, c, rfl, hl, hm⟩ := Shape.sl_form ha
  obtain ⟨B, d, rfl, hl', hm'⟩ := Shape.sl_form hb
  unfold maxLen at hm hm'
  have Ha := Lib.hid ha
  have Hb := Lib.hid hb
  clear ha hb
  have hn' : ((l.length : Int) != l.length) = false := by simp
  go_enter Try.func83, Try.ntmps83
  go_wp2
  go_loopw [5] (fun i wr => ∃ k : Nat, k ≤ l.length ∧ i = .int .i64 k ∧ Ext w wr) (fun i _ => l.length - (intOf i).toNat)
  case atStart => exact ⟨0, Nat.zero_le _, rfl, Ext.refl _⟩
  case round =>
    obtain ⟨k, hk, rfl, hx⟩ := hrel
    by_cases hlt : k < l.length
    · obtain ⟨b1, o1, es1, rfl, hc1, hr1⟩ := Shape.sl_at (sMeasurementL.ext hx Ha.out) hlt
      obtain ⟨b2, o2, es2, rfl, hc2, hr2⟩ := Shape.sl_at (sMeasurementL.ext hx Hb.out) hlt
      have hr1' := hr1
      have hr2' := hr2
      obtain ⟨c0, rfl, p0, p1, p2⟩ := sMeasurement_rd hr1
      obtain ⟨d0, rfl, q0, q1, q2⟩ := sMeasurement_rd hr2
      have f0 := Ext.cellOf (hc1 0 _ rfl)
      have f1 := Ext.cellOf (hc1 1 _ rfl)
      have f2 := Ext.cellOf (hc1 2 _ rfl)
      have g0 := Ext.cellOf (hc2 0 _ rfl)
      have g1 := Ext.cellOf (hc2 1 _ rfl)
      have g2 := Ext.cellOf (hc2 2 _ rfl)
      simp only [Nat.add_zero, show sMeasurement.k = 3 from rfl] at f0 g0 f1 g1 f2 g2
      clear hc1 hc2
      go_wp2
      refine wp_region_ext (by kernel_rfl) (by kernel_rfl) ?_
      repeat (go_big_quiet_step (((go_at_call 126; refine Calls.ext_of (eqMeasurement_c _ _ l[k] _ ?_ ?_); (exact sMeasurement.ext (ExtOf.ok _) hr1'); (exact sMeasurement.ext (ExtOf.ok _) hr2')))))
      refine wpQuiet_nil ?_
      rintro _ ⟨⟨w1, hx1⟩, rfl⟩
      clear f0 g0 f1 g1 f2 g2
      go_wp2
      go_roundw
      case rel => exact ⟨k + 1, by omega, by go_num, hx.trans hx1⟩
      case measure => simp [intOf]; omega
    · have : k = l.length := by omega
      subst this
      go_wp2
      go_ret
      exact ⟨rfl, hx⟩

set_option maxHeartbeats 400000 in
theorem eqNode_c (ca cb : List Value) (x : DNode) (w : World) (ha : sNode.rd w ca x) (hb : sNode.rd w cb x) :
    Calls Try.prog 30 #[.agg ca.toArray, .agg cb.toArray] w fun e w' => e = .returned (.bool true) ∧ Ext w w' := by
  obtain ⟨c0, c2, c3, c4, c5, c6, rfl, p0, p1, p2, p3, p4, p5, p6⟩ := sNode_rd ha
  obtain ⟨d0, d2, d3, d4, d5, d6, rfl, q0, q1, q2, q3, q4, q5, q6⟩ := sNode_rd hb
  have hs1 : (x.cache.capacity != x.cache.capacity) = false := by simp
  have hs7 : (x.dropped != x.dropped) = false := by simp
  go_enter Try.func30, Try.ntmps30
  go_wp2_with fail
  refine (eqDataS_c _ _ x.locals _ (sDataL.ext (by exact ((Ext.refl w).alloc _).alloc _) p0) (sDataL.ext (by exact ((Ext.refl w).alloc _).alloc _) q0)).mono ?_
  rintro e w0 ⟨rfl, hx0⟩
  have f0 : w0.cell? ⟨w.heap.size, 0, none⟩ = some (c0) := hx0.cell (by simp)
  have g0 : w0.cell? ⟨w.heap.size + 1, 0, none⟩ = some (d0) := hx0.cell (by simp)
  have f1 : w0.cell? ⟨w.heap.size, 1, none⟩ = some (.int .i64 x.cache.capacity) := hx0.cell (by simp)
  have g1 : w0.cell? ⟨w.heap.size + 1, 1, none⟩ = some (.int .i64 x.cache.capacity) := hx0.cell (by simp)
  have f2 : w0.cell? ⟨w.heap.size, 2, none⟩ = some (c2) := hx0.cell (by simp)
  have g2 : w0.cell? ⟨w.heap.size + 1, 2, none⟩ = some (d2) := hx0.cell (by simp)
  have f3 : w0.cell? ⟨w.heap.size, 3, none⟩ = some (c3) := hx0.cell (by simp)
  have g3 : w0.cell? ⟨w.heap.size + 1, 3, none⟩ = some (d3) := hx0.cell (by simp)
  have f4 : w0.cell? ⟨w.heap.size, 4, none⟩ = some (c4) := hx0.cell (by simp)
  have g4 : w0.cell? ⟨w.heap.size + 1, 4, none⟩ = some (d4) := hx0.cell (by simp)
  have f5 : w0.cell? ⟨w.heap.size, 5, none⟩ = some (c5) := hx0.cell (by simp)
  have g5 : w0.cell? ⟨w.heap.size + 1, 5, none⟩ = some (d5) := hx0.cell (by simp)
  have f6 : w0.cell? ⟨w.heap.size, 6, none⟩ = some (c6) := hx0.cell (by simp)
  have g6 : w0.cell? ⟨w.heap.size + 1, 6, none⟩ = some (d6) := hx0.cell (by simp)
  have f7 : w0.cell? ⟨w.heap.size, 7, none⟩ = some (.int .i64 x.dropped) := hx0.cell (by simp)
  have g7 : w0.cell? ⟨w.heap.size + 1, 7, none⟩ = some (.int .i64 x.dropped) := hx0.cell (by simp)
  have E0 : Ext w w0 := Ext.trans (by exact ((Ext.refl w).alloc _).alloc _) hx0
  go_wp2_with fail
  refine (eqContentStore_c _ _ x.cache _ (sContentStore.ext (by exact E0) p1) (sContentStore.ext (by exact E0) q1)).mono ?_
  rintro e w1 ⟨rfl, hx1⟩
  have f0 : w1.cell? ⟨w.heap.size, 0, none⟩ = some (c0) := hx1.cell f0
  have g0 : w1.cell? ⟨w.heap.size + 1, 0, none⟩ = some (d0) := hx1.cell g0
  have f1 : w1.cell? ⟨w.heap.size, 1, none⟩ = some (.int .i64 x.cache.capacity) := hx1.cell f1
  have g1 : w1.cell? ⟨w.heap.size + 1, 1, none⟩ = some (.int .i64 x.cache.capacity) := hx1.cell g1
  have f2 : w1.cell? ⟨w.heap.size, 2, none⟩ = some (c2) := hx1.cell f2
  have g2 : w1.cell? ⟨w.heap.size + 1, 2, none⟩ = some (d2) := hx1.cell g2
  have f3 : w1.cell? ⟨w.heap.size, 3, none⟩ = some (c3) := hx1.cell f3
  have g3 : w1.cell? ⟨w.heap.size + 1, 3, none⟩ = some (d3) := hx1.cell g3
  have f4 : w1.cell? ⟨w.heap.size, 4, none⟩ = some (c4) := hx1.cell f4
  have g4 : w1.cell? ⟨w.heap.size + 1, 4, none⟩ = some (d4) := hx1.cell g4
  have f5 : w1.cell? ⟨w.heap.size, 5, none⟩ = some (c5) := hx1.cell f5
  have g5 : w1.cell? ⟨w.heap.size + 1, 5, none⟩ = some (d5) := hx1.cell g5
  have f6 : w1.cell? ⟨w.heap.size, 6, none⟩ = some (c6) := hx1.cell f6
  have g6 : w1.cell? ⟨w.heap.size + 1, 6, none⟩ = some (d6) := hx1.cell g6
  have f7 : w1.cell? ⟨w.heap.size, 7, none⟩ = some (.int .i64 x.dropped) := hx1.cell f7
  have g7 : w1.cell? ⟨w.heap.size + 1, 7, none⟩ = some (.int .i64 x.dropped) := hx1.cell g7
  have E1 : Ext w w1 := Ext.trans (by exact E0) hx1
  go_wp2_with fail
  refine (eqPendingInterestS_c _ _ x.pending _ (sPendingInterestL.ext (by exact E1) p2) (sPendingInterestL.ext (by exact E1) q2)).mono ?_
  rintro e w2 ⟨rfl, hx2⟩
  have f0 : w2.cell? ⟨w.heap.size, 0, none⟩ = some (c0) := hx2.cell f0
  have g0 : w2.cell? ⟨w.heap.size + 1, 0, none⟩ = some (d0) := hx2.cell g0
  have f1 : w2.cell? ⟨w.heap.size, 1, none⟩ = some (.int .i64 x.cache.capacity) := hx2.cell f1
  have g1 : w2.cell? ⟨w.heap.size + 1, 1, none⟩ = some (.int .i64 x.cache.capacity) := hx2.cell g1
  have f2 : w2.cell? ⟨w.heap.size, 2, none⟩ = some (c2) := hx2.cell f2
  have g2 : w2.cell? ⟨w.heap.size + 1, 2, none⟩ = some (d2) := hx2.cell g2
  have f3 : w2.cell? ⟨w.heap.size, 3, none⟩ = some (c3) := hx2.cell f3
  have g3 : w2.cell? ⟨w.heap.size + 1, 3, none⟩ = some (d3) := hx2.cell g3
  have f4 : w2.cell? ⟨w.heap.size, 4, none⟩ = some (c4) := hx2.cell f4
  have g4 : w2.cell? ⟨w.heap.size + 1, 4, none⟩ = some (d4) := hx2.cell g4
  have f5 : w2.cell? ⟨w.heap.size, 5, none⟩ = some (c5) := hx2.cell f5
  have g5 : w2.cell? ⟨w.heap.size + 1, 5, none⟩ = some (d5) := hx2.cell g5
  have f6 : w2.cell? ⟨w.heap.size, 6, none⟩ = some (c6) := hx2.cell f6
  have g6 : w2.cell? ⟨w.heap.size + 1, 6, none⟩ = some (d6) := hx2.cell g6
  have f7 : w2.cell? ⟨w.heap.size, 7, none⟩ = some (.int .i64 x.dropped) := hx2.cell f7
  have g7 : w2.cell? ⟨w.heap.size + 1, 7, none⟩ = some (.int .i64 x.dropped) := hx2.cell g7
  have E2 : Ext w w2 := Ext.trans (by exact E1) hx2
  go_wp2_with fail
  refine (eqSeenNonceS_c _ _ x.seen _ (sSeenNonceL.ext (by exact E2) p3) (sSeenNonceL.ext (by exact E2) q3)).mono ?_
  rintro e w3 ⟨rfl, hx3⟩
  have f0 : w3.cell? ⟨w.heap.size, 0, none⟩ = some (c0) := hx3.cell f0
  have g0 : w3.cell? ⟨w.heap.size + 1, 0, none⟩ = some (d0) := hx3.cell g0
  have f1 : w3.cell? ⟨w.heap.size, 1, none⟩ = some (.int .i64 x.cache.capacity) := hx3.cell f1
  have g1 : w3.cell? ⟨w.heap.size + 1, 1, none⟩ = some (.int .i64 x.cache.capacity) := hx3.cell g1
  have f2 : w3.cell? ⟨w.heap.size, 2, none⟩ = some (c2) := hx3.cell f2
  have g2 : w3.cell? ⟨w.heap.size + 1, 2, none⟩ = some (d2) := hx3.cell g2
  have f3 : w3.cell? ⟨w.heap.size, 3, none⟩ = some (c3) := hx3.cell f3
  have g3 : w3.cell? ⟨w.heap.size + 1, 3, none⟩ = some (d3) := hx3.cell g3
  have f4 : w3.cell? ⟨w.heap.size, 4, none⟩ = some (c4) := hx3.cell f4
  have g4 : w3.cell? ⟨w.heap.size + 1, 4, none⟩ = some (d4) := hx3.cell g4
  have f5 : w3.cell? ⟨w.heap.size, 5, none⟩ = some (c5) := hx3.cell f5
  have g5 : w3.cell? ⟨w.heap.size + 1, 5, none⟩ = some (d5) := hx3.cell g5
  have f6 : w3.cell? ⟨w.heap.size, 6, none⟩ = some (c6) := hx3.cell f6
  have g6 : w3.cell? ⟨w.heap.size + 1, 6, none⟩ = some (d6) := hx3.cell g6
  have f7 : w3.cell? ⟨w.heap.size, 7, none⟩ = some (.int .i64 x.dropped) := hx3.cell f7
  have g7 : w3.cell? ⟨w.heap.size + 1, 7, none⟩ = some (.int .i64 x.dropped) := hx3.cell g7
  have E3 : Ext w w3 := Ext.trans (by exact E2) hx3
  go_wp2_with fail
  refine (eqRouteS_c _ _ x.routes _ (sRouteL.ext (by exact E3) p4) (sRouteL.ext (by exact E3) q4)).mono ?_
  rintro e w4 ⟨rfl, hx4⟩
  have f0 : w4.cell? ⟨w.heap.size, 0, none⟩ = some (c0) := hx4.cell f0
  have g0 : w4.cell? ⟨w.heap.size + 1, 0, none⟩ = some (d0) := hx4.cell g0
  have f1 : w4.cell? ⟨w.heap.size, 1, none⟩ = some (.int .i64 x.cache.capacity) := hx4.cell f1
  have g1 : w4.cell? ⟨w.heap.size + 1, 1, none⟩ = some (.int .i64 x.cache.capacity) := hx4.cell g1
  have f2 : w4.cell? ⟨w.heap.size, 2, none⟩ = some (c2) := hx4.cell f2
  have g2 : w4.cell? ⟨w.heap.size + 1, 2, none⟩ = some (d2) := hx4.cell g2
  have f3 : w4.cell? ⟨w.heap.size, 3, none⟩ = some (c3) := hx4.cell f3
  have g3 : w4.cell? ⟨w.heap.size + 1, 3, none⟩ = some (d3) := hx4.cell g3
  have f4 : w4.cell? ⟨w.heap.size, 4, none⟩ = some (c4) := hx4.cell f4
  have g4 : w4.cell? ⟨w.heap.size + 1, 4, none⟩ = some (d4) := hx4.cell g4
  have f5 : w4.cell? ⟨w.heap.size, 5, none⟩ = some (c5) := hx4.cell f5
  have g5 : w4.cell? ⟨w.heap.size + 1, 5, none⟩ = some (d5) := hx4.cell g5
  have f6 : w4.cell? ⟨w.heap.size, 6, none⟩ = some (c6) := hx4.cell f6
  have g6 : w4.cell? ⟨w.heap.size + 1, 6, none⟩ = some (d6) := hx4.cell g6
  have f7 : w4.cell? ⟨w.heap.size, 7, none⟩ = some (.int .i64 x.dropped) := hx4.cell f7
  have g7 : w4.cell? ⟨w.heap.size + 1, 7, none⟩ = some (.int .i64 x.dropped) := hx4.cell g7
  have E4 : Ext w w4 := Ext.trans (by exact E3) hx4
  go_wp2_with fail
  refine (eqMeasurementS_c _ _ x.measurements _ (sMeasurementL.ext (by exact E4) p5) (sMeasurementL.ext (by exact E4) q5)).mono ?_
  rintro e w5 ⟨rfl, hx5⟩
  have f0 : w5.cell? ⟨w.heap.size, 0, none⟩ = some (c0) := hx5.cell f0
  have g0 : w5.cell? ⟨w.heap.size + 1, 0, none⟩ = some (d0) := hx5.cell g0
  have f1 : w5.cell? ⟨w.heap.size, 1, none⟩ = some (.int .i64 x.cache.capacity) := hx5.cell f1
  have g1 : w5.cell? ⟨w.heap.size + 1, 1, none⟩ = some (.int .i64 x.cache.capacity) := hx5.cell g1
  have f2 : w5.cell? ⟨w.heap.size, 2, none⟩ = some (c2) := hx5.cell f2
  have g2 : w5.cell? ⟨w.heap.size + 1, 2, none⟩ = some (d2) := hx5.cell g2
  have f3 : w5.cell? ⟨w.heap.size, 3, none⟩ = some (c3) := hx5.cell f3
  have g3 : w5.cell? ⟨w.heap.size + 1, 3, none⟩ = some (d3) := hx5.cell g3
  have f4 : w5.cell? ⟨w.heap.size, 4, none⟩ = some (c4) := hx5.cell f4
  have g4 : w5.cell? ⟨w.heap.size + 1, 4, none⟩ = some (d4) := hx5.cell g4
  have f5 : w5.cell? ⟨w.heap.size, 5, none⟩ = some (c5) := hx5.cell f5
  have g5 : w5.cell? ⟨w.heap.size + 1, 5, none⟩ = some (d5) := hx5.cell g5
  have f6 : w5.cell? ⟨w.heap.size, 6, none⟩ = some (c6) := hx5.cell f6
  have g6 : w5.cell? ⟨w.heap.size + 1, 6, none⟩ = some (d6) := hx5.cell g6
  have f7 : w5.cell? ⟨w.heap.size, 7, none⟩ = some (.int .i64 x.dropped) := hx5.cell f7
  have g7 : w5.cell? ⟨w.heap.size + 1, 7, none⟩ = some (.int .i64 x.dropped) := hx5.cell g7
  have E5 : Ext w w5 := Ext.trans (by exact E4) hx5
  go_wp2
  go_ret
  exact ⟨rfl, E5⟩

set_option maxHeartbeats 400000 in
theorem eqInterest_c (ca cb : List Value) (x : DInterest) (w : World) (ha : sInterest.rd w ca x) (hb : sInterest.rd w cb x) :
    Calls Try.prog 35 #[.agg ca.toArray, .agg cb.toArray] w fun e w' => e = .returned (.bool true) ∧ Ext w w' := by
  obtain ⟨c0, rfl, p0, p1, p2, p3⟩ := sInterest_rd ha
  obtain ⟨d0, rfl, q0, q1, q2, q3⟩ := sInterest_rd hb
  have hs1 : (x.nonce != x.nonce) = false := by simp
  have hs2 : (x.hopLimit != x.hopLimit) = false := by simp
  have hs3 : (x.lifetime != x.lifetime) = false := by simp
  go_enter Try.func35, Try.ntmps35
  go_wp2_with fail
  refine (eqName_c _ _ x.name _ (strs.ext (by exact ((Ext.refl w).alloc _).alloc _) p0) (strs.ext (by exact ((Ext.refl w).alloc _).alloc _) q0)).mono ?_
  rintro e w0 ⟨rfl, hx0⟩
  have f0 : w0.cell? ⟨w.heap.size, 0, none⟩ = some (c0) := hx0.cell (by simp)
  have g0 : w0.cell? ⟨w.heap.size + 1, 0, none⟩ = some (d0) := hx0.cell (by simp)
  have f1 : w0.cell? ⟨w.heap.size, 1, none⟩ = some (.int .i64 x.nonce) := hx0.cell (by simp)
  have g1 : w0.cell? ⟨w.heap.size + 1, 1, none⟩ = some (.int .i64 x.nonce) := hx0.cell (by simp)
  have f2 : w0.cell? ⟨w.heap.size, 2, none⟩ = some (.int .i64 x.hopLimit) := hx0.cell (by simp)
  have g2 : w0.cell? ⟨w.heap.size + 1, 2, none⟩ = some (.int .i64 x.hopLimit) := hx0.cell (by simp)
  have f3 : w0.cell? ⟨w.heap.size, 3, none⟩ = some (.int .i64 x.lifetime) := hx0.cell (by simp)
  have g3 : w0.cell? ⟨w.heap.size + 1, 3, none⟩ = some (.int .i64 x.lifetime) := hx0.cell (by simp)
  have E0 : Ext w w0 := Ext.trans (by exact ((Ext.refl w).alloc _).alloc _) hx0
  go_wp2
  go_ret
  exact ⟨rfl, E0⟩

end Go.Proofs.Ythnkggjgblehaaa
