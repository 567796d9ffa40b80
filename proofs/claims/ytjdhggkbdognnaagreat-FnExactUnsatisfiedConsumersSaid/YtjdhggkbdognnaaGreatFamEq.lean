/- What the families laws.eq.. answer: true, where both read alike. Printed by gen.py. -/
import Derived.Test.YtjdhggkbdognnaaGreatProg
import Derived.Test.YtjdhggkbdognnaaGreatTypes
namespace Go.Proofs.YtjdhggkbdognnaaGreat
open Go.RowKit
set_option linter.unusedVariables false
set_option linter.unusedSimpArgs false
set_option linter.unusedSectionVars false

set_option maxHeartbeats 400000 in
theorem eqLink_c (ca cb : List Value) (x : DLink) (w : World) (ha : sLink.rd w ca x) (hb : sLink.rd w cb x) :
    Calls Tryz.prog 138 #[.agg ca.toArray, .agg cb.toArray] w fun e w' => e = .returned (.bool true) ∧ Ext w w' := by
  obtain ⟨rfl, p0, p1⟩ := sLink_rd ha
  obtain ⟨rfl, q0, q1⟩ := sLink_rd hb
  have hs0 : (x.a != x.a) = false := by simp
  have hs1 : (x.b != x.b) = false := by simp
  go_enter Tryz.func138, Tryz.ntmps138
  go_wp2
  go_ret
  exact ⟨rfl, ((Ext.refl w).alloc _).alloc _⟩

set_option maxHeartbeats 400000 in
theorem eqLinkS_c (va vb : Value) (l : (List DLink)) (w : World) (ha : sLinkL.rd w [va] l) (hb : sLinkL.rd w [vb] l) :
    Calls Tryz.prog 90 #[va, vb] w fun e w' => e = .returned (.bool true) ∧ Ext w w' := by
  obtain ⟨A, c, rfl, hl, hm⟩ := Shape.sl_form ha
  obtain ⟨B, d, rfl, hl', hm'⟩ := Shape.sl_form hb
  unfold maxLen at hm hm'
  have Ha := Lib.hid ha
  have Hb := Lib.hid hb
  clear ha hb
  have hn' : ((l.length : Int) != l.length) = false := by simp
  go_enter Tryz.func90, Tryz.ntmps90
  go_wp2
  go_loopw [5] (fun i wr => ∃ k : Nat, k ≤ l.length ∧ i = .int .i64 k ∧ Ext w wr) (fun i _ => l.length - (intOf i).toNat)
  case atStart => exact ⟨0, Nat.zero_le _, rfl, Ext.refl _⟩
  case round =>
    obtain ⟨k, hk, rfl, hx⟩ := hrel
    by_cases hlt : k < l.length
    · obtain ⟨b1, o1, es1, rfl, hc1, hr1⟩ := Shape.sl_at (sLinkL.ext hx Ha.out) hlt
      obtain ⟨b2, o2, es2, rfl, hc2, hr2⟩ := Shape.sl_at (sLinkL.ext hx Hb.out) hlt
      have hr1' := hr1
      have hr2' := hr2
      obtain ⟨rfl, p0, p1⟩ := sLink_rd hr1
      obtain ⟨rfl, q0, q1⟩ := sLink_rd hr2
      have f0 := Ext.cellOf (hc1 0 _ rfl)
      have f1 := Ext.cellOf (hc1 1 _ rfl)
      have g0 := Ext.cellOf (hc2 0 _ rfl)
      have g1 := Ext.cellOf (hc2 1 _ rfl)
      simp only [Nat.add_zero, show sLink.k = 2 from rfl, Nat.mul_one] at f0 g0 f1 g1
      clear hc1 hc2
      go_wp2
      refine wp_region_ext (by kernel_rfl) (by kernel_rfl) ?_
      repeat (go_big_quiet_step (((go_at_call 138; refine Calls.ext_of (eqLink_c _ _ l[k] _ ?_ ?_); (exact sLink.ext (ExtOf.ok _) hr1'); (exact sLink.ext (ExtOf.ok _) hr2')))))
      refine wpQuiet_nil ?_
      rintro _ ⟨⟨w1, hx1⟩, rfl⟩
      clear f0 g0 f1 g1
      go_wp2
      go_roundw
      case rel => exact ⟨k + 1, by omega, by go_num, hx.trans hx1⟩
      case measure => simp [intOf]; omega
    · have : k = l.length := by omega
      subst this
      go_wp2
      go_ret
      exact ⟨rfl, hx⟩

set_option maxHeartbeats 400000 in
theorem eqTopology_c (ca cb : List Value) (x : DTopology) (w : World) (ha : sTopology.rd w ca x) (hb : sTopology.rd w cb x) :
    Calls Tryz.prog 46 #[.agg ca.toArray, .agg cb.toArray] w fun e w' => e = .returned (.bool true) ∧ Ext w w' := by
  obtain ⟨c1, rfl, p0, p1⟩ := sTopology_rd ha
  obtain ⟨d1, rfl, q0, q1⟩ := sTopology_rd hb
  have hs0 : (x.size != x.size) = false := by simp
  go_enter Tryz.func46, Tryz.ntmps46
  go_wp2_with fail
  refine (eqLinkS_c _ _ x.links _ (sLinkL.ext (by exact ((Ext.refl w).alloc _).alloc _) p1) (sLinkL.ext (by exact ((Ext.refl w).alloc _).alloc _) q1)).mono ?_
  rintro e w0 ⟨rfl, hx0⟩
  have f0 : w0.cell? ⟨w.heap.size, 0, none⟩ = some (.int .i64 x.size) := hx0.cell (by simp)
  have g0 : w0.cell? ⟨w.heap.size + 1, 0, none⟩ = some (.int .i64 x.size) := hx0.cell (by simp)
  have f1 : w0.cell? ⟨w.heap.size, 1, none⟩ = some (c1) := hx0.cell (by simp)
  have g1 : w0.cell? ⟨w.heap.size + 1, 1, none⟩ = some (d1) := hx0.cell (by simp)
  have E0 : Ext w w0 := Ext.trans (by exact ((Ext.refl w).alloc _).alloc _) hx0
  go_wp2
  go_ret
  exact ⟨rfl, E0⟩

set_option maxHeartbeats 400000 in
theorem eqStringS_c (va vb : Value) (l : (List ByteArray)) (w : World) (ha : strs.rd w [va] l) (hb : strs.rd w [vb] l) :
    Calls Tryz.prog 52 #[va, vb] w fun e w' => e = .returned (.bool true) ∧ Ext w w' := by
  obtain ⟨A, c, rfl, hl, hm⟩ := Shape.sl_form ha
  obtain ⟨B, d, rfl, hl', hm'⟩ := Shape.sl_form hb
  unfold maxLen at hm hm'
  have Ha := Lib.hid ha
  have Hb := Lib.hid hb
  clear ha hb
  have hn' : ((l.length : Int) != l.length) = false := by simp
  go_enter Tryz.func52, Tryz.ntmps52
  go_wp2
  go_loopw [5] (fun i wr => ∃ k : Nat, k ≤ l.length ∧ i = .int .i64 k ∧ Ext w wr) (fun i _ => l.length - (intOf i).toNat)
  case atStart => exact ⟨0, Nat.zero_le _, rfl, Ext.refl _⟩
  case round =>
    obtain ⟨k, hk, rfl, hx⟩ := hrel
    by_cases hlt : k < l.length
    · obtain ⟨b1, o1, rfl, hc1, _⟩ := Shape.str_at (strs.ext hx Ha.out) hlt
      obtain ⟨b2, o2, rfl, hc2, _⟩ := Shape.str_at (strs.ext hx Hb.out) hlt
      have hsame : (!l[k].toList == l[k].toList) = false := by simp
      go_wp2
      go_quiet (fail)
      go_wp2
      go_roundw
      case rel => exact ⟨k + 1, by omega, by go_num, hx.drewN _⟩
      case measure => simp [intOf]; omega
    · have : k = l.length := by omega
      subst this
      go_wp2
      go_ret
      exact ⟨rfl, hx⟩

set_option maxHeartbeats 400000 in
theorem eqName_c (ca cb : List Value) (x : (List ByteArray)) (w : World) (ha : strs.rd w ca x) (hb : strs.rd w cb x) :
    Calls Tryz.prog 14 #[.agg ca.toArray, .agg cb.toArray] w fun e w' => e = .returned (.bool true) ∧ Ext w w' := by
  have p0 := ha; obtain ⟨c0, rfl⟩ := one_cell (strs.len ha)
  have q0 := hb; obtain ⟨d0, rfl⟩ := one_cell (strs.len hb)
  go_enter Tryz.func14, Tryz.ntmps14
  go_wp2_with fail
  refine (eqStringS_c _ _ x _ (strs.ext (by exact ((Ext.refl w).alloc _).alloc _) p0) (strs.ext (by exact ((Ext.refl w).alloc _).alloc _) q0)).mono ?_
  rintro e w0 ⟨rfl, hx0⟩
  have f0 : w0.cell? ⟨w.heap.size, 0, none⟩ = some (c0) := hx0.cell (by simp)
  have g0 : w0.cell? ⟨w.heap.size + 1, 0, none⟩ = some (d0) := hx0.cell (by simp)
  have E0 : Ext w w0 := Ext.trans (by exact ((Ext.refl w).alloc _).alloc _) hx0
  go_wp2
  go_ret
  exact ⟨rfl, E0⟩

set_option maxHeartbeats 400000 in
theorem eqKey_c (ca cb : List Value) (x : DKey) (w : World) (ha : sKey.rd w ca x) (hb : sKey.rd w cb x) :
    Calls Tryz.prog 139 #[.agg ca.toArray, .agg cb.toArray] w fun e w' => e = .returned (.bool true) ∧ Ext w w' := by
  obtain ⟨c0, rfl, p0, p1⟩ := sKey_rd ha
  obtain ⟨d0, rfl, q0, q1⟩ := sKey_rd hb
  have hs1 : (x.secret != x.secret) = false := by simp
  go_enter Tryz.func139, Tryz.ntmps139
  go_wp2_with fail
  refine (eqName_c _ _ x.name _ (strs.ext (by exact ((Ext.refl w).alloc _).alloc _) p0) (strs.ext (by exact ((Ext.refl w).alloc _).alloc _) q0)).mono ?_
  rintro e w0 ⟨rfl, hx0⟩
  have f0 : w0.cell? ⟨w.heap.size, 0, none⟩ = some (c0) := hx0.cell (by simp)
  have g0 : w0.cell? ⟨w.heap.size + 1, 0, none⟩ = some (d0) := hx0.cell (by simp)
  have f1 : w0.cell? ⟨w.heap.size, 1, none⟩ = some (.int .i64 x.secret) := hx0.cell (by simp)
  have g1 : w0.cell? ⟨w.heap.size + 1, 1, none⟩ = some (.int .i64 x.secret) := hx0.cell (by simp)
  have E0 : Ext w w0 := Ext.trans (by exact ((Ext.refl w).alloc _).alloc _) hx0
  go_wp2
  go_ret
  exact ⟨rfl, E0⟩

set_option maxHeartbeats 400000 in
theorem eqKeyS_c (va vb : Value) (l : (List DKey)) (w : World) (ha : sKeyL.rd w [va] l) (hb : sKeyL.rd w [vb] l) :
    Calls Tryz.prog 91 #[va, vb] w fun e w' => e = .returned (.bool true) ∧ Ext w w' := by
  obtain ⟨A, c, rfl, hl, hm⟩ := Shape.sl_form ha
  obtain ⟨B, d, rfl, hl', hm'⟩ := Shape.sl_form hb
  unfold maxLen at hm hm'
  have Ha := Lib.hid ha
  have Hb := Lib.hid hb
  clear ha hb
  have hn' : ((l.length : Int) != l.length) = false := by simp
  go_enter Tryz.func91, Tryz.ntmps91
  go_wp2
  go_loopw [5] (fun i wr => ∃ k : Nat, k ≤ l.length ∧ i = .int .i64 k ∧ Ext w wr) (fun i _ => l.length - (intOf i).toNat)
  case atStart => exact ⟨0, Nat.zero_le _, rfl, Ext.refl _⟩
  case round =>
    obtain ⟨k, hk, rfl, hx⟩ := hrel
    by_cases hlt : k < l.length
    · obtain ⟨b1, o1, es1, rfl, hc1, hr1⟩ := Shape.sl_at (sKeyL.ext hx Ha.out) hlt
      obtain ⟨b2, o2, es2, rfl, hc2, hr2⟩ := Shape.sl_at (sKeyL.ext hx Hb.out) hlt
      have hr1' := hr1
      have hr2' := hr2
      obtain ⟨c0, rfl, p0, p1⟩ := sKey_rd hr1
      obtain ⟨d0, rfl, q0, q1⟩ := sKey_rd hr2
      have f0 := Ext.cellOf (hc1 0 _ rfl)
      have f1 := Ext.cellOf (hc1 1 _ rfl)
      have g0 := Ext.cellOf (hc2 0 _ rfl)
      have g1 := Ext.cellOf (hc2 1 _ rfl)
      simp only [Nat.add_zero, show sKey.k = 2 from rfl, Nat.mul_one] at f0 g0 f1 g1
      clear hc1 hc2
      go_wp2
      refine wp_region_ext (by kernel_rfl) (by kernel_rfl) ?_
      repeat (go_big_quiet_step (((go_at_call 139; refine Calls.ext_of (eqKey_c _ _ l[k] _ ?_ ?_); (exact sKey.ext (ExtOf.ok _) hr1'); (exact sKey.ext (ExtOf.ok _) hr2')))))
      refine wpQuiet_nil ?_
      rintro _ ⟨⟨w1, hx1⟩, rfl⟩
      clear f0 g0 f1 g1
      go_wp2
      go_roundw
      case rel => exact ⟨k + 1, by omega, by go_num, hx.trans hx1⟩
      case measure => simp [intOf]; omega
    · have : k = l.length := by omega
      subst this
      go_wp2
      go_ret
      exact ⟨rfl, hx⟩

set_option maxHeartbeats 400000 in
theorem eqPattern_c (ca cb : List Value) (x : (List ByteArray)) (w : World) (ha : strs.rd w ca x) (hb : strs.rd w cb x) :
    Calls Tryz.prog 172 #[.agg ca.toArray, .agg cb.toArray] w fun e w' => e = .returned (.bool true) ∧ Ext w w' := by
  have p0 := ha; obtain ⟨c0, rfl⟩ := one_cell (strs.len ha)
  have q0 := hb; obtain ⟨d0, rfl⟩ := one_cell (strs.len hb)
  go_enter Tryz.func172, Tryz.ntmps172
  go_wp2_with fail
  refine (eqStringS_c _ _ x _ (strs.ext (by exact ((Ext.refl w).alloc _).alloc _) p0) (strs.ext (by exact ((Ext.refl w).alloc _).alloc _) q0)).mono ?_
  rintro e w0 ⟨rfl, hx0⟩
  have f0 : w0.cell? ⟨w.heap.size, 0, none⟩ = some (c0) := hx0.cell (by simp)
  have g0 : w0.cell? ⟨w.heap.size + 1, 0, none⟩ = some (d0) := hx0.cell (by simp)
  have E0 : Ext w w0 := Ext.trans (by exact ((Ext.refl w).alloc _).alloc _) hx0
  go_wp2
  go_ret
  exact ⟨rfl, E0⟩

set_option maxHeartbeats 400000 in
theorem eqRule_c (ca cb : List Value) (x : DRule) (w : World) (ha : sRule.rd w ca x) (hb : sRule.rd w cb x) :
    Calls Tryz.prog 140 #[.agg ca.toArray, .agg cb.toArray] w fun e w' => e = .returned (.bool true) ∧ Ext w w' := by
  obtain ⟨c0, c1, rfl, p0, p1⟩ := sRule_rd ha
  obtain ⟨d0, d1, rfl, q0, q1⟩ := sRule_rd hb
  go_enter Tryz.func140, Tryz.ntmps140
  go_wp2_with fail
  refine (eqPattern_c _ _ x.dataPattern _ (strs.ext (by exact ((Ext.refl w).alloc _).alloc _) p0) (strs.ext (by exact ((Ext.refl w).alloc _).alloc _) q0)).mono ?_
  rintro e w0 ⟨rfl, hx0⟩
  have f0 : w0.cell? ⟨w.heap.size, 0, none⟩ = some (c0) := hx0.cell (by simp)
  have g0 : w0.cell? ⟨w.heap.size + 1, 0, none⟩ = some (d0) := hx0.cell (by simp)
  have f1 : w0.cell? ⟨w.heap.size, 1, none⟩ = some (c1) := hx0.cell (by simp)
  have g1 : w0.cell? ⟨w.heap.size + 1, 1, none⟩ = some (d1) := hx0.cell (by simp)
  have E0 : Ext w w0 := Ext.trans (by exact ((Ext.refl w).alloc _).alloc _) hx0
  go_wp2_with fail
  refine (eqPattern_c _ _ x.keyPattern _ (strs.ext (by exact E0) p1) (strs.ext (by exact E0) q1)).mono ?_
  rintro e w1 ⟨rfl, hx1⟩
  have f0 : w1.cell? ⟨w.heap.size, 0, none⟩ = some (c0) := hx1.cell f0
  have g0 : w1.cell? ⟨w.heap.size + 1, 0, none⟩ = some (d0) := hx1.cell g0
  have f1 : w1.cell? ⟨w.heap.size, 1, none⟩ = some (c1) := hx1.cell f1
  have g1 : w1.cell? ⟨w.heap.size + 1, 1, none⟩ = some (d1) := hx1.cell g1
  have E1 : Ext w w1 := Ext.trans (by exact E0) hx1
  go_wp2
  go_ret
  exact ⟨rfl, E1⟩

set_option maxHeartbeats 400000 in
theorem eqRuleS_c (va vb : Value) (l : (List DRule)) (w : World) (ha : sRuleL.rd w [va] l) (hb : sRuleL.rd w [vb] l) :
    Calls Tryz.prog 92 #[va, vb] w fun e w' => e = .returned (.bool true) ∧ Ext w w' := by
  obtain ⟨A, c, rfl, hl, hm⟩ := Shape.sl_form ha
  obtain ⟨B, d, rfl, hl', hm'⟩ := Shape.sl_form hb
  unfold maxLen at hm hm'
  have Ha := Lib.hid ha
  have Hb := Lib.hid hb
  clear ha hb
  have hn' : ((l.length : Int) != l.length) = false := by simp
  go_enter Tryz.func92, Tryz.ntmps92
  go_wp2
  go_loopw [5] (fun i wr => ∃ k : Nat, k ≤ l.length ∧ i = .int .i64 k ∧ Ext w wr) (fun i _ => l.length - (intOf i).toNat)
  case atStart => exact ⟨0, Nat.zero_le _, rfl, Ext.refl _⟩
  case round =>
    obtain ⟨k, hk, rfl, hx⟩ := hrel
    by_cases hlt : k < l.length
    · obtain ⟨b1, o1, es1, rfl, hc1, hr1⟩ := Shape.sl_at (sRuleL.ext hx Ha.out) hlt
      obtain ⟨b2, o2, es2, rfl, hc2, hr2⟩ := Shape.sl_at (sRuleL.ext hx Hb.out) hlt
      have hr1' := hr1
      have hr2' := hr2
      obtain ⟨c0, c1, rfl, p0, p1⟩ := sRule_rd hr1
      obtain ⟨d0, d1, rfl, q0, q1⟩ := sRule_rd hr2
      have f0 := Ext.cellOf (hc1 0 _ rfl)
      have f1 := Ext.cellOf (hc1 1 _ rfl)
      have g0 := Ext.cellOf (hc2 0 _ rfl)
      have g1 := Ext.cellOf (hc2 1 _ rfl)
      simp only [Nat.add_zero, show sRule.k = 2 from rfl, Nat.mul_one] at f0 g0 f1 g1
      clear hc1 hc2
      go_wp2
      refine wp_region_ext (by kernel_rfl) (by kernel_rfl) ?_
      repeat (go_big_quiet_step (((go_at_call 140; refine Calls.ext_of (eqRule_c _ _ l[k] _ ?_ ?_); (exact sRule.ext (ExtOf.ok _) hr1'); (exact sRule.ext (ExtOf.ok _) hr2')))))
      refine wpQuiet_nil ?_
      rintro _ ⟨⟨w1, hx1⟩, rfl⟩
      clear f0 g0 f1 g1
      go_wp2
      go_roundw
      case rel => exact ⟨k + 1, by omega, by go_num, hx.trans hx1⟩
      case measure => simp [intOf]; omega
    · have : k = l.length := by omega
      subst this
      go_wp2
      go_ret
      exact ⟨rfl, hx⟩

set_option maxHeartbeats 400000 in
theorem eqNameS_c (va vb : Value) (l : (List (List ByteArray))) (w : World) (ha : sNameL.rd w [va] l) (hb : sNameL.rd w [vb] l) :
    Calls Tryz.prog 93 #[va, vb] w fun e w' => e = .returned (.bool true) ∧ Ext w w' := by
  obtain ⟨A, c, rfl, hl, hm⟩ := Shape.sl_form ha
  obtain ⟨B, d, rfl, hl', hm'⟩ := Shape.sl_form hb
  unfold maxLen at hm hm'
  have Ha := Lib.hid ha
  have Hb := Lib.hid hb
  clear ha hb
  have hn' : ((l.length : Int) != l.length) = false := by simp
  go_enter Tryz.func93, Tryz.ntmps93
  go_wp2
  go_loopw [5] (fun i wr => ∃ k : Nat, k ≤ l.length ∧ i = .int .i64 k ∧ Ext w wr) (fun i _ => l.length - (intOf i).toNat)
  case atStart => exact ⟨0, Nat.zero_le _, rfl, Ext.refl _⟩
  case round =>
    obtain ⟨k, hk, rfl, hx⟩ := hrel
    by_cases hlt : k < l.length
    · obtain ⟨b1, o1, es1, rfl, hc1, hr1⟩ := Shape.sl_at (sNameL.ext hx Ha.out) hlt
      obtain ⟨b2, o2, es2, rfl, hc2, hr2⟩ := Shape.sl_at (sNameL.ext hx Hb.out) hlt
      have hr1' := hr1
      have hr2' := hr2
      have p0 := hr1; obtain ⟨c0, rfl⟩ := one_cell (strs.len hr1)
      have q0 := hr2; obtain ⟨d0, rfl⟩ := one_cell (strs.len hr2)
      have f0 := Ext.cellOf (hc1 0 _ rfl)
      have g0 := Ext.cellOf (hc2 0 _ rfl)
      simp only [Nat.add_zero, show strs.k = 1 from rfl, Nat.mul_one] at f0 g0
      clear hc1 hc2
      go_wp2
      refine wp_region_ext (by kernel_rfl) (by kernel_rfl) ?_
      repeat (go_big_quiet_step (((go_at_call 14; refine Calls.ext_of (eqName_c _ _ l[k] _ ?_ ?_); (exact strs.ext (ExtOf.ok _) hr1'); (exact strs.ext (ExtOf.ok _) hr2')))))
      refine wpQuiet_nil ?_
      rintro _ ⟨⟨w1, hx1⟩, rfl⟩
      clear f0 g0
      go_wp2
      go_roundw
      case rel => exact ⟨k + 1, by omega, by go_num, hx.trans hx1⟩
      case measure => simp [intOf]; omega
    · have : k = l.length := by omega
      subst this
      go_wp2
      go_ret
      exact ⟨rfl, hx⟩

set_option maxHeartbeats 400000 in
theorem eqByteS_c (va vb : Value) (l : (List UInt8)) (w : World) (ha : sBytes.rd w [va] l) (hb : sBytes.rd w [vb] l) :
    Calls Tryz.prog 116 #[va, vb] w fun e w' => e = .returned (.bool true) ∧ Ext w w' := by
  obtain ⟨A, c, rfl, hl, hm⟩ := Shape.sl_form ha
  obtain ⟨B, d, rfl, hl', hm'⟩ := Shape.sl_form hb
  unfold maxLen at hm hm'
  have Ha := Lib.hid ha
  have Hb := Lib.hid hb
  clear ha hb
  have hn' : ((l.length : Int) != l.length) = false := by simp
  go_enter Tryz.func116, Tryz.ntmps116
  go_wp2
  go_loopw [5] (fun i wr => ∃ k : Nat, k ≤ l.length ∧ i = .int .i64 k ∧ Ext w wr) (fun i _ => l.length - (intOf i).toNat)
  case atStart => exact ⟨0, Nat.zero_le _, rfl, Ext.refl _⟩
  case round =>
    obtain ⟨k, hk, rfl, hx⟩ := hrel
    by_cases hlt : k < l.length
    · obtain ⟨b1, o1, rfl, hc1⟩ := Shape.byte_at (sBytes.ext hx Ha.out) hlt
      obtain ⟨b2, o2, rfl, hc2⟩ := Shape.byte_at (sBytes.ext hx Hb.out) hlt
      have hsame : ((l[k].toNat : Int) != (l[k].toNat : Int)) = false := by simp
      go_wp2
      go_quiet (fail)
      go_wp2
      go_roundw
      case rel => exact ⟨k + 1, by omega, by go_num, hx.drewN _⟩
      case measure => simp [intOf]; omega
    · have : k = l.length := by omega
      subst this
      go_wp2
      go_ret
      exact ⟨rfl, hx⟩

set_option maxHeartbeats 400000 in
theorem eqData_c (ca cb : List Value) (x : DData) (w : World) (ha : sData.rd w ca x) (hb : sData.rd w cb x) :
    Calls Tryz.prog 65 #[.agg ca.toArray, .agg cb.toArray] w fun e w' => e = .returned (.bool true) ∧ Ext w w' := by
  obtain ⟨c0, c1, c2, rfl, p0, p1, p2, p3, p4⟩ := sData_rd ha
  obtain ⟨d0, d1, d2, rfl, q0, q1, q2, q3, q4⟩ := sData_rd hb
  have hs3 : (x.freshUntil != x.freshUntil) = false := by simp
  have hs4 : (x.signature != x.signature) = false := by simp
  go_enter Tryz.func65, Tryz.ntmps65
  go_wp2_with fail
  refine (eqName_c _ _ x.name _ (strs.ext (by exact ((Ext.refl w).alloc _).alloc _) p0) (strs.ext (by exact ((Ext.refl w).alloc _).alloc _) q0)).mono ?_
  rintro e w0 ⟨rfl, hx0⟩
  have f0 : w0.cell? ⟨w.heap.size, 0, none⟩ = some (c0) := hx0.cell (by simp)
  have g0 : w0.cell? ⟨w.heap.size + 1, 0, none⟩ = some (d0) := hx0.cell (by simp)
  have f1 : w0.cell? ⟨w.heap.size, 1, none⟩ = some (c1) := hx0.cell (by simp)
  have g1 : w0.cell? ⟨w.heap.size + 1, 1, none⟩ = some (d1) := hx0.cell (by simp)
  have f2 : w0.cell? ⟨w.heap.size, 2, none⟩ = some (c2) := hx0.cell (by simp)
  have g2 : w0.cell? ⟨w.heap.size + 1, 2, none⟩ = some (d2) := hx0.cell (by simp)
  have f3 : w0.cell? ⟨w.heap.size, 3, none⟩ = some (.int .i64 x.freshUntil) := hx0.cell (by simp)
  have g3 : w0.cell? ⟨w.heap.size + 1, 3, none⟩ = some (.int .i64 x.freshUntil) := hx0.cell (by simp)
  have f4 : w0.cell? ⟨w.heap.size, 4, none⟩ = some (.int .i64 x.signature) := hx0.cell (by simp)
  have g4 : w0.cell? ⟨w.heap.size + 1, 4, none⟩ = some (.int .i64 x.signature) := hx0.cell (by simp)
  have E0 : Ext w w0 := Ext.trans (by exact ((Ext.refl w).alloc _).alloc _) hx0
  go_wp2_with fail
  refine (eqByteS_c _ _ x.content _ (sBytes.ext (by exact E0) p1) (sBytes.ext (by exact E0) q1)).mono ?_
  rintro e w1 ⟨rfl, hx1⟩
  have f0 : w1.cell? ⟨w.heap.size, 0, none⟩ = some (c0) := hx1.cell f0
  have g0 : w1.cell? ⟨w.heap.size + 1, 0, none⟩ = some (d0) := hx1.cell g0
  have f1 : w1.cell? ⟨w.heap.size, 1, none⟩ = some (c1) := hx1.cell f1
  have g1 : w1.cell? ⟨w.heap.size + 1, 1, none⟩ = some (d1) := hx1.cell g1
  have f2 : w1.cell? ⟨w.heap.size, 2, none⟩ = some (c2) := hx1.cell f2
  have g2 : w1.cell? ⟨w.heap.size + 1, 2, none⟩ = some (d2) := hx1.cell g2
  have f3 : w1.cell? ⟨w.heap.size, 3, none⟩ = some (.int .i64 x.freshUntil) := hx1.cell f3
  have g3 : w1.cell? ⟨w.heap.size + 1, 3, none⟩ = some (.int .i64 x.freshUntil) := hx1.cell g3
  have f4 : w1.cell? ⟨w.heap.size, 4, none⟩ = some (.int .i64 x.signature) := hx1.cell f4
  have g4 : w1.cell? ⟨w.heap.size + 1, 4, none⟩ = some (.int .i64 x.signature) := hx1.cell g4
  have E1 : Ext w w1 := Ext.trans (by exact E0) hx1
  go_wp2_with fail
  refine (eqName_c _ _ x.keyName _ (strs.ext (by exact E1) p2) (strs.ext (by exact E1) q2)).mono ?_
  rintro e w2 ⟨rfl, hx2⟩
  have f0 : w2.cell? ⟨w.heap.size, 0, none⟩ = some (c0) := hx2.cell f0
  have g0 : w2.cell? ⟨w.heap.size + 1, 0, none⟩ = some (d0) := hx2.cell g0
  have f1 : w2.cell? ⟨w.heap.size, 1, none⟩ = some (c1) := hx2.cell f1
  have g1 : w2.cell? ⟨w.heap.size + 1, 1, none⟩ = some (d1) := hx2.cell g1
  have f2 : w2.cell? ⟨w.heap.size, 2, none⟩ = some (c2) := hx2.cell f2
  have g2 : w2.cell? ⟨w.heap.size + 1, 2, none⟩ = some (d2) := hx2.cell g2
  have f3 : w2.cell? ⟨w.heap.size, 3, none⟩ = some (.int .i64 x.freshUntil) := hx2.cell f3
  have g3 : w2.cell? ⟨w.heap.size + 1, 3, none⟩ = some (.int .i64 x.freshUntil) := hx2.cell g3
  have f4 : w2.cell? ⟨w.heap.size, 4, none⟩ = some (.int .i64 x.signature) := hx2.cell f4
  have g4 : w2.cell? ⟨w.heap.size + 1, 4, none⟩ = some (.int .i64 x.signature) := hx2.cell g4
  have E2 : Ext w w2 := Ext.trans (by exact E1) hx2
  go_wp2
  go_ret
  exact ⟨rfl, E2⟩

set_option maxHeartbeats 400000 in
theorem eqDataS_c (va vb : Value) (l : (List DData)) (w : World) (ha : sDataL.rd w [va] l) (hb : sDataL.rd w [vb] l) :
    Calls Tryz.prog 25 #[va, vb] w fun e w' => e = .returned (.bool true) ∧ Ext w w' := by
  obtain ⟨A, c, rfl, hl, hm⟩ := Shape.sl_form ha
  obtain ⟨B, d, rfl, hl', hm'⟩ := Shape.sl_form hb
  unfold maxLen at hm hm'
  have Ha := Lib.hid ha
  have Hb := Lib.hid hb
  clear ha hb
  have hn' : ((l.length : Int) != l.length) = false := by simp
  go_enter Tryz.func25, Tryz.ntmps25
  go_wp2
  go_loopw [5] (fun i wr => ∃ k : Nat, k ≤ l.length ∧ i = .int .i64 k ∧ Ext w wr) (fun i _ => l.length - (intOf i).toNat)
  case atStart => exact ⟨0, Nat.zero_le _, rfl, Ext.refl _⟩
  case round =>
    obtain ⟨k, hk, rfl, hx⟩ := hrel
    by_cases hlt : k < l.length
    · obtain ⟨b1, o1, es1, rfl, hc1, hr1⟩ := Shape.sl_at (sDataL.ext hx Ha.out) hlt
      obtain ⟨b2, o2, es2, rfl, hc2, hr2⟩ := Shape.sl_at (sDataL.ext hx Hb.out) hlt
      have hr1' := hr1
      have hr2' := hr2
      obtain ⟨c0, c1, c2, rfl, p0, p1, p2, p3, p4⟩ := sData_rd hr1
      obtain ⟨d0, d1, d2, rfl, q0, q1, q2, q3, q4⟩ := sData_rd hr2
      have f0 := Ext.cellOf (hc1 0 _ rfl)
      have f1 := Ext.cellOf (hc1 1 _ rfl)
      have f2 := Ext.cellOf (hc1 2 _ rfl)
      have f3 := Ext.cellOf (hc1 3 _ rfl)
      have f4 := Ext.cellOf (hc1 4 _ rfl)
      have g0 := Ext.cellOf (hc2 0 _ rfl)
      have g1 := Ext.cellOf (hc2 1 _ rfl)
      have g2 := Ext.cellOf (hc2 2 _ rfl)
      have g3 := Ext.cellOf (hc2 3 _ rfl)
      have g4 := Ext.cellOf (hc2 4 _ rfl)
      simp only [Nat.add_zero, show sData.k = 5 from rfl, Nat.mul_one] at f0 g0 f1 g1 f2 g2 f3 g3 f4 g4
      clear hc1 hc2
      go_wp2
      refine wp_region_ext (by kernel_rfl) (by kernel_rfl) ?_
      repeat (go_big_quiet_step (((go_at_call 65; refine Calls.ext_of (eqData_c _ _ l[k] _ ?_ ?_); (exact sData.ext (ExtOf.ok _) hr1'); (exact sData.ext (ExtOf.ok _) hr2')))))
      refine wpQuiet_nil ?_
      rintro _ ⟨⟨w1, hx1⟩, rfl⟩
      clear f0 g0 f1 g1 f2 g2 f3 g3 f4 g4
      go_wp2
      go_roundw
      case rel => exact ⟨k + 1, by omega, by go_num, hx.trans hx1⟩
      case measure => simp [intOf]; omega
    · have : k = l.length := by omega
      subst this
      go_wp2
      go_ret
      exact ⟨rfl, hx⟩

set_option maxHeartbeats 400000 in
theorem eqTrustPolicy_c (ca cb : List Value) (x : DTrustPolicy) (w : World) (ha : sTrustPolicy.rd w ca x) (hb : sTrustPolicy.rd w cb x) :
    Calls Tryz.prog 47 #[.agg ca.toArray, .agg cb.toArray] w fun e w' => e = .returned (.bool true) ∧ Ext w w' := by
  obtain ⟨c0, c1, c2, c3, rfl, p0, p1, p2, p3⟩ := sTrustPolicy_rd ha
  obtain ⟨d0, d1, d2, d3, rfl, q0, q1, q2, q3⟩ := sTrustPolicy_rd hb
  go_enter Tryz.func47, Tryz.ntmps47
  go_wp2_with fail
  refine (eqKeyS_c _ _ x.keys _ (sKeyL.ext (by exact ((Ext.refl w).alloc _).alloc _) p0) (sKeyL.ext (by exact ((Ext.refl w).alloc _).alloc _) q0)).mono ?_
  rintro e w0 ⟨rfl, hx0⟩
  have f0 : w0.cell? ⟨w.heap.size, 0, none⟩ = some (c0) := hx0.cell (by simp)
  have g0 : w0.cell? ⟨w.heap.size + 1, 0, none⟩ = some (d0) := hx0.cell (by simp)
  have f1 : w0.cell? ⟨w.heap.size, 1, none⟩ = some (c1) := hx0.cell (by simp)
  have g1 : w0.cell? ⟨w.heap.size + 1, 1, none⟩ = some (d1) := hx0.cell (by simp)
  have f2 : w0.cell? ⟨w.heap.size, 2, none⟩ = some (c2) := hx0.cell (by simp)
  have g2 : w0.cell? ⟨w.heap.size + 1, 2, none⟩ = some (d2) := hx0.cell (by simp)
  have f3 : w0.cell? ⟨w.heap.size, 3, none⟩ = some (c3) := hx0.cell (by simp)
  have g3 : w0.cell? ⟨w.heap.size + 1, 3, none⟩ = some (d3) := hx0.cell (by simp)
  have E0 : Ext w w0 := Ext.trans (by exact ((Ext.refl w).alloc _).alloc _) hx0
  go_wp2_with fail
  refine (eqRuleS_c _ _ x.rules _ (sRuleL.ext (by exact E0) p1) (sRuleL.ext (by exact E0) q1)).mono ?_
  rintro e w1 ⟨rfl, hx1⟩
  have f0 : w1.cell? ⟨w.heap.size, 0, none⟩ = some (c0) := hx1.cell f0
  have g0 : w1.cell? ⟨w.heap.size + 1, 0, none⟩ = some (d0) := hx1.cell g0
  have f1 : w1.cell? ⟨w.heap.size, 1, none⟩ = some (c1) := hx1.cell f1
  have g1 : w1.cell? ⟨w.heap.size + 1, 1, none⟩ = some (d1) := hx1.cell g1
  have f2 : w1.cell? ⟨w.heap.size, 2, none⟩ = some (c2) := hx1.cell f2
  have g2 : w1.cell? ⟨w.heap.size + 1, 2, none⟩ = some (d2) := hx1.cell g2
  have f3 : w1.cell? ⟨w.heap.size, 3, none⟩ = some (c3) := hx1.cell f3
  have g3 : w1.cell? ⟨w.heap.size + 1, 3, none⟩ = some (d3) := hx1.cell g3
  have E1 : Ext w w1 := Ext.trans (by exact E0) hx1
  go_wp2_with fail
  refine (eqNameS_c _ _ x.anchors _ (sNameL.ext (by exact E1) p2) (sNameL.ext (by exact E1) q2)).mono ?_
  rintro e w2 ⟨rfl, hx2⟩
  have f0 : w2.cell? ⟨w.heap.size, 0, none⟩ = some (c0) := hx2.cell f0
  have g0 : w2.cell? ⟨w.heap.size + 1, 0, none⟩ = some (d0) := hx2.cell g0
  have f1 : w2.cell? ⟨w.heap.size, 1, none⟩ = some (c1) := hx2.cell f1
  have g1 : w2.cell? ⟨w.heap.size + 1, 1, none⟩ = some (d1) := hx2.cell g1
  have f2 : w2.cell? ⟨w.heap.size, 2, none⟩ = some (c2) := hx2.cell f2
  have g2 : w2.cell? ⟨w.heap.size + 1, 2, none⟩ = some (d2) := hx2.cell g2
  have f3 : w2.cell? ⟨w.heap.size, 3, none⟩ = some (c3) := hx2.cell f3
  have g3 : w2.cell? ⟨w.heap.size + 1, 3, none⟩ = some (d3) := hx2.cell g3
  have E2 : Ext w w2 := Ext.trans (by exact E1) hx2
  go_wp2_with fail
  refine (eqDataS_c _ _ x.certificates _ (sDataL.ext (by exact E2) p3) (sDataL.ext (by exact E2) q3)).mono ?_
  rintro e w3 ⟨rfl, hx3⟩
  have f0 : w3.cell? ⟨w.heap.size, 0, none⟩ = some (c0) := hx3.cell f0
  have g0 : w3.cell? ⟨w.heap.size + 1, 0, none⟩ = some (d0) := hx3.cell g0
  have f1 : w3.cell? ⟨w.heap.size, 1, none⟩ = some (c1) := hx3.cell f1
  have g1 : w3.cell? ⟨w.heap.size + 1, 1, none⟩ = some (d1) := hx3.cell g1
  have f2 : w3.cell? ⟨w.heap.size, 2, none⟩ = some (c2) := hx3.cell f2
  have g2 : w3.cell? ⟨w.heap.size + 1, 2, none⟩ = some (d2) := hx3.cell g2
  have f3 : w3.cell? ⟨w.heap.size, 3, none⟩ = some (c3) := hx3.cell f3
  have g3 : w3.cell? ⟨w.heap.size + 1, 3, none⟩ = some (d3) := hx3.cell g3
  have E3 : Ext w w3 := Ext.trans (by exact E2) hx3
  go_wp2
  go_ret
  exact ⟨rfl, E3⟩

set_option maxHeartbeats 400000 in
theorem eqTableEntry_c (ca cb : List Value) (x : DTableEntry) (w : World) (ha : sTableEntry.rd w ca x) (hb : sTableEntry.rd w cb x) :
    Calls Tryz.prog 94 #[.agg ca.toArray, .agg cb.toArray] w fun e w' => e = .returned (.bool true) ∧ Ext w w' := by
  obtain ⟨c0, rfl, p0, p1⟩ := sTableEntry_rd ha
  obtain ⟨d0, rfl, q0, q1⟩ := sTableEntry_rd hb
  have hs1 : (x.value != x.value) = false := by simp
  go_enter Tryz.func94, Tryz.ntmps94
  go_wp2_with fail
  refine (eqName_c _ _ x.name _ (strs.ext (by exact ((Ext.refl w).alloc _).alloc _) p0) (strs.ext (by exact ((Ext.refl w).alloc _).alloc _) q0)).mono ?_
  rintro e w0 ⟨rfl, hx0⟩
  have f0 : w0.cell? ⟨w.heap.size, 0, none⟩ = some (c0) := hx0.cell (by simp)
  have g0 : w0.cell? ⟨w.heap.size + 1, 0, none⟩ = some (d0) := hx0.cell (by simp)
  have f1 : w0.cell? ⟨w.heap.size, 1, none⟩ = some (.int .i64 x.value) := hx0.cell (by simp)
  have g1 : w0.cell? ⟨w.heap.size + 1, 1, none⟩ = some (.int .i64 x.value) := hx0.cell (by simp)
  have E0 : Ext w w0 := Ext.trans (by exact ((Ext.refl w).alloc _).alloc _) hx0
  go_wp2
  go_ret
  exact ⟨rfl, E0⟩

set_option maxHeartbeats 400000 in
theorem eqTableEntryS_c (va vb : Value) (l : (List DTableEntry)) (w : World) (ha : sTableEntryL.rd w [va] l) (hb : sTableEntryL.rd w [vb] l) :
    Calls Tryz.prog 48 #[va, vb] w fun e w' => e = .returned (.bool true) ∧ Ext w w' := by
  obtain ⟨A, c, rfl, hl, hm⟩ := Shape.sl_form ha
  obtain ⟨B, d, rfl, hl', hm'⟩ := Shape.sl_form hb
  unfold maxLen at hm hm'
  have Ha := Lib.hid ha
  have Hb := Lib.hid hb
  clear ha hb
  have hn' : ((l.length : Int) != l.length) = false := by simp
  go_enter Tryz.func48, Tryz.ntmps48
  go_wp2
  go_loopw [5] (fun i wr => ∃ k : Nat, k ≤ l.length ∧ i = .int .i64 k ∧ Ext w wr) (fun i _ => l.length - (intOf i).toNat)
  case atStart => exact ⟨0, Nat.zero_le _, rfl, Ext.refl _⟩
  case round =>
    obtain ⟨k, hk, rfl, hx⟩ := hrel
    by_cases hlt : k < l.length
    · obtain ⟨b1, o1, es1, rfl, hc1, hr1⟩ := Shape.sl_at (sTableEntryL.ext hx Ha.out) hlt
      obtain ⟨b2, o2, es2, rfl, hc2, hr2⟩ := Shape.sl_at (sTableEntryL.ext hx Hb.out) hlt
      have hr1' := hr1
      have hr2' := hr2
      obtain ⟨c0, rfl, p0, p1⟩ := sTableEntry_rd hr1
      obtain ⟨d0, rfl, q0, q1⟩ := sTableEntry_rd hr2
      have f0 := Ext.cellOf (hc1 0 _ rfl)
      have f1 := Ext.cellOf (hc1 1 _ rfl)
      have g0 := Ext.cellOf (hc2 0 _ rfl)
      have g1 := Ext.cellOf (hc2 1 _ rfl)
      simp only [Nat.add_zero, show sTableEntry.k = 2 from rfl, Nat.mul_one] at f0 g0 f1 g1
      clear hc1 hc2
      go_wp2
      refine wp_region_ext (by kernel_rfl) (by kernel_rfl) ?_
      repeat (go_big_quiet_step (((go_at_call 94; refine Calls.ext_of (eqTableEntry_c _ _ l[k] _ ?_ ?_); (exact sTableEntry.ext (ExtOf.ok _) hr1'); (exact sTableEntry.ext (ExtOf.ok _) hr2')))))
      refine wpQuiet_nil ?_
      rintro _ ⟨⟨w1, hx1⟩, rfl⟩
      clear f0 g0 f1 g1
      go_wp2
      go_roundw
      case rel => exact ⟨k + 1, by omega, by go_num, hx.trans hx1⟩
      case measure => simp [intOf]; omega
    · have : k = l.length := by omega
      subst this
      go_wp2
      go_ret
      exact ⟨rfl, hx⟩

set_option maxHeartbeats 400000 in
theorem eqCacheEntry_c (ca cb : List Value) (x : DCacheEntry) (w : World) (ha : sCacheEntry.rd w ca x) (hb : sCacheEntry.rd w cb x) :
    Calls Tryz.prog 193 #[.agg ca.toArray, .agg cb.toArray] w fun e w' => e = .returned (.bool true) ∧ Ext w w' := by
  obtain ⟨c0, c1, c2, rfl, p0, p1⟩ := sCacheEntry_rd ha
  obtain ⟨d0, d1, d2, rfl, q0, q1⟩ := sCacheEntry_rd hb
  have hs3 : (x.data.freshUntil != x.data.freshUntil) = false := by simp
  have hs4 : (x.data.signature != x.data.signature) = false := by simp
  have hs5 : (x.lastUsed != x.lastUsed) = false := by simp
  go_enter Tryz.func193, Tryz.ntmps193
  go_wp2_with fail
  refine (eqData_c _ _ x.data _ (sData.ext (by exact ((Ext.refl w).alloc _).alloc _) p0) (sData.ext (by exact ((Ext.refl w).alloc _).alloc _) q0)).mono ?_
  rintro e w0 ⟨rfl, hx0⟩
  have f0 : w0.cell? ⟨w.heap.size, 0, none⟩ = some (c0) := hx0.cell (by simp)
  have g0 : w0.cell? ⟨w.heap.size + 1, 0, none⟩ = some (d0) := hx0.cell (by simp)
  have f1 : w0.cell? ⟨w.heap.size, 1, none⟩ = some (c1) := hx0.cell (by simp)
  have g1 : w0.cell? ⟨w.heap.size + 1, 1, none⟩ = some (d1) := hx0.cell (by simp)
  have f2 : w0.cell? ⟨w.heap.size, 2, none⟩ = some (c2) := hx0.cell (by simp)
  have g2 : w0.cell? ⟨w.heap.size + 1, 2, none⟩ = some (d2) := hx0.cell (by simp)
  have f3 : w0.cell? ⟨w.heap.size, 3, none⟩ = some (.int .i64 x.data.freshUntil) := hx0.cell (by simp)
  have g3 : w0.cell? ⟨w.heap.size + 1, 3, none⟩ = some (.int .i64 x.data.freshUntil) := hx0.cell (by simp)
  have f4 : w0.cell? ⟨w.heap.size, 4, none⟩ = some (.int .i64 x.data.signature) := hx0.cell (by simp)
  have g4 : w0.cell? ⟨w.heap.size + 1, 4, none⟩ = some (.int .i64 x.data.signature) := hx0.cell (by simp)
  have f5 : w0.cell? ⟨w.heap.size, 5, none⟩ = some (.int .i64 x.lastUsed) := hx0.cell (by simp)
  have g5 : w0.cell? ⟨w.heap.size + 1, 5, none⟩ = some (.int .i64 x.lastUsed) := hx0.cell (by simp)
  have E0 : Ext w w0 := Ext.trans (by exact ((Ext.refl w).alloc _).alloc _) hx0
  go_wp2
  go_ret
  exact ⟨rfl, E0⟩

set_option maxHeartbeats 400000 in
theorem eqCacheEntryS_c (va vb : Value) (l : (List DCacheEntry)) (w : World) (ha : sCacheEntryL.rd w [va] l) (hb : sCacheEntryL.rd w [vb] l) :
    Calls Tryz.prog 173 #[va, vb] w fun e w' => e = .returned (.bool true) ∧ Ext w w' := by
  obtain ⟨A, c, rfl, hl, hm⟩ := Shape.sl_form ha
  obtain ⟨B, d, rfl, hl', hm'⟩ := Shape.sl_form hb
  unfold maxLen at hm hm'
  have Ha := Lib.hid ha
  have Hb := Lib.hid hb
  clear ha hb
  have hn' : ((l.length : Int) != l.length) = false := by simp
  go_enter Tryz.func173, Tryz.ntmps173
  go_wp2
  go_loopw [5] (fun i wr => ∃ k : Nat, k ≤ l.length ∧ i = .int .i64 k ∧ Ext w wr) (fun i _ => l.length - (intOf i).toNat)
  case atStart => exact ⟨0, Nat.zero_le _, rfl, Ext.refl _⟩
  case round =>
    obtain ⟨k, hk, rfl, hx⟩ := hrel
    by_cases hlt : k < l.length
    · obtain ⟨b1, o1, es1, rfl, hc1, hr1⟩ := Shape.sl_at (sCacheEntryL.ext hx Ha.out) hlt
      obtain ⟨b2, o2, es2, rfl, hc2, hr2⟩ := Shape.sl_at (sCacheEntryL.ext hx Hb.out) hlt
      have hr1' := hr1
      have hr2' := hr2
      obtain ⟨c0, c1, c2, rfl, p0, p1⟩ := sCacheEntry_rd hr1
      obtain ⟨d0, d1, d2, rfl, q0, q1⟩ := sCacheEntry_rd hr2
      have f0 := Ext.cellOf (hc1 0 _ rfl)
      have f1 := Ext.cellOf (hc1 1 _ rfl)
      have f2 := Ext.cellOf (hc1 2 _ rfl)
      have f3 := Ext.cellOf (hc1 3 _ rfl)
      have f4 := Ext.cellOf (hc1 4 _ rfl)
      have f5 := Ext.cellOf (hc1 5 _ rfl)
      have g0 := Ext.cellOf (hc2 0 _ rfl)
      have g1 := Ext.cellOf (hc2 1 _ rfl)
      have g2 := Ext.cellOf (hc2 2 _ rfl)
      have g3 := Ext.cellOf (hc2 3 _ rfl)
      have g4 := Ext.cellOf (hc2 4 _ rfl)
      have g5 := Ext.cellOf (hc2 5 _ rfl)
      simp only [Nat.add_zero, show sCacheEntry.k = 6 from rfl, Nat.mul_one] at f0 g0 f1 g1 f2 g2 f3 g3 f4 g4 f5 g5
      clear hc1 hc2
      go_wp2
      refine wp_region_ext (by kernel_rfl) (by kernel_rfl) ?_
      repeat (go_big_quiet_step (((go_at_call 193; refine Calls.ext_of (eqCacheEntry_c _ _ l[k] _ ?_ ?_); (exact sCacheEntry.ext (ExtOf.ok _) hr1'); (exact sCacheEntry.ext (ExtOf.ok _) hr2')))))
      refine wpQuiet_nil ?_
      rintro _ ⟨⟨w1, hx1⟩, rfl⟩
      clear f0 g0 f1 g1 f2 g2 f3 g3 f4 g4 f5 g5
      go_wp2
      go_roundw
      case rel => exact ⟨k + 1, by omega, by go_num, hx.trans hx1⟩
      case measure => simp [intOf]; omega
    · have : k = l.length := by omega
      subst this
      go_wp2
      go_ret
      exact ⟨rfl, hx⟩

set_option maxHeartbeats 400000 in
theorem eqContentStore_c (ca cb : List Value) (x : DContentStore) (w : World) (ha : sContentStore.rd w ca x) (hb : sContentStore.rd w cb x) :
    Calls Tryz.prog 141 #[.agg ca.toArray, .agg cb.toArray] w fun e w' => e = .returned (.bool true) ∧ Ext w w' := by
  obtain ⟨c1, rfl, p0, p1⟩ := sContentStore_rd ha
  obtain ⟨d1, rfl, q0, q1⟩ := sContentStore_rd hb
  have hs0 : (x.capacity != x.capacity) = false := by simp
  go_enter Tryz.func141, Tryz.ntmps141
  go_wp2_with fail
  refine (eqCacheEntryS_c _ _ x.entries _ (sCacheEntryL.ext (by exact ((Ext.refl w).alloc _).alloc _) p1) (sCacheEntryL.ext (by exact ((Ext.refl w).alloc _).alloc _) q1)).mono ?_
  rintro e w0 ⟨rfl, hx0⟩
  have f0 : w0.cell? ⟨w.heap.size, 0, none⟩ = some (.int .i64 x.capacity) := hx0.cell (by simp)
  have g0 : w0.cell? ⟨w.heap.size + 1, 0, none⟩ = some (.int .i64 x.capacity) := hx0.cell (by simp)
  have f1 : w0.cell? ⟨w.heap.size, 1, none⟩ = some (c1) := hx0.cell (by simp)
  have g1 : w0.cell? ⟨w.heap.size + 1, 1, none⟩ = some (d1) := hx0.cell (by simp)
  have E0 : Ext w w0 := Ext.trans (by exact ((Ext.refl w).alloc _).alloc _) hx0
  go_wp2
  go_ret
  exact ⟨rfl, E0⟩

set_option maxHeartbeats 400000 in
theorem eqRequester_c (ca cb : List Value) (x : DRequester) (w : World) (ha : sRequester.rd w ca x) (hb : sRequester.rd w cb x) :
    Calls Tryz.prog 209 #[.agg ca.toArray, .agg cb.toArray] w fun e w' => e = .returned (.bool true) ∧ Ext w w' := by
  obtain ⟨rfl, p0, p1, p2⟩ := sRequester_rd ha
  obtain ⟨rfl, q0, q1, q2⟩ := sRequester_rd hb
  have hs0 : (x.face != x.face) = false := by simp
  have hs1 : (x.nonce != x.nonce) = false := by simp
  have hs2 : (x.expiry != x.expiry) = false := by simp
  go_enter Tryz.func209, Tryz.ntmps209
  go_wp2
  go_ret
  exact ⟨rfl, ((Ext.refl w).alloc _).alloc _⟩

set_option maxHeartbeats 400000 in
theorem eqRequesterS_c (va vb : Value) (l : (List DRequester)) (w : World) (ha : sRequesterL.rd w [va] l) (hb : sRequesterL.rd w [vb] l) :
    Calls Tryz.prog 194 #[va, vb] w fun e w' => e = .returned (.bool true) ∧ Ext w w' := by
  obtain ⟨A, c, rfl, hl, hm⟩ := Shape.sl_form ha
  obtain ⟨B, d, rfl, hl', hm'⟩ := Shape.sl_form hb
  unfold maxLen at hm hm'
  have Ha := Lib.hid ha
  have Hb := Lib.hid hb
  clear ha hb
  have hn' : ((l.length : Int) != l.length) = false := by simp
  go_enter Tryz.func194, Tryz.ntmps194
  go_wp2
  go_loopw [5] (fun i wr => ∃ k : Nat, k ≤ l.length ∧ i = .int .i64 k ∧ Ext w wr) (fun i _ => l.length - (intOf i).toNat)
  case atStart => exact ⟨0, Nat.zero_le _, rfl, Ext.refl _⟩
  case round =>
    obtain ⟨k, hk, rfl, hx⟩ := hrel
    by_cases hlt : k < l.length
    · obtain ⟨b1, o1, es1, rfl, hc1, hr1⟩ := Shape.sl_at (sRequesterL.ext hx Ha.out) hlt
      obtain ⟨b2, o2, es2, rfl, hc2, hr2⟩ := Shape.sl_at (sRequesterL.ext hx Hb.out) hlt
      have hr1' := hr1
      have hr2' := hr2
      obtain ⟨rfl, p0, p1, p2⟩ := sRequester_rd hr1
      obtain ⟨rfl, q0, q1, q2⟩ := sRequester_rd hr2
      have f0 := Ext.cellOf (hc1 0 _ rfl)
      have f1 := Ext.cellOf (hc1 1 _ rfl)
      have f2 := Ext.cellOf (hc1 2 _ rfl)
      have g0 := Ext.cellOf (hc2 0 _ rfl)
      have g1 := Ext.cellOf (hc2 1 _ rfl)
      have g2 := Ext.cellOf (hc2 2 _ rfl)
      simp only [Nat.add_zero, show sRequester.k = 3 from rfl, Nat.mul_one] at f0 g0 f1 g1 f2 g2
      clear hc1 hc2
      go_wp2
      refine wp_region_ext (by kernel_rfl) (by kernel_rfl) ?_
      repeat (go_big_quiet_step (((go_at_call 209; refine Calls.ext_of (eqRequester_c _ _ l[k] _ ?_ ?_); (exact sRequester.ext (ExtOf.ok _) hr1'); (exact sRequester.ext (ExtOf.ok _) hr2')))))
      refine wpQuiet_nil ?_
      rintro _ ⟨⟨w1, hx1⟩, rfl⟩
      clear f0 g0 f1 g1 f2 g2
      go_wp2
      go_roundw
      case rel => exact ⟨k + 1, by omega, by go_num, hx.trans hx1⟩
      case measure => simp [intOf]; omega
    · have : k = l.length := by omega
      subst this
      go_wp2
      go_ret
      exact ⟨rfl, hx⟩

set_option maxHeartbeats 400000 in
theorem eqPendingInterest_c (ca cb : List Value) (x : DPendingInterest) (w : World) (ha : sPendingInterest.rd w ca x) (hb : sPendingInterest.rd w cb x) :
    Calls Tryz.prog 174 #[.agg ca.toArray, .agg cb.toArray] w fun e w' => e = .returned (.bool true) ∧ Ext w w' := by
  obtain ⟨c0, c1, rfl, p0, p1, p2⟩ := sPendingInterest_rd ha
  obtain ⟨d0, d1, rfl, q0, q1, q2⟩ := sPendingInterest_rd hb
  have hs2 : (x.lastSent != x.lastSent) = false := by simp
  go_enter Tryz.func174, Tryz.ntmps174
  go_wp2_with fail
  refine (eqName_c _ _ x.name _ (strs.ext (by exact ((Ext.refl w).alloc _).alloc _) p0) (strs.ext (by exact ((Ext.refl w).alloc _).alloc _) q0)).mono ?_
  rintro e w0 ⟨rfl, hx0⟩
  have f0 : w0.cell? ⟨w.heap.size, 0, none⟩ = some (c0) := hx0.cell (by simp)
  have g0 : w0.cell? ⟨w.heap.size + 1, 0, none⟩ = some (d0) := hx0.cell (by simp)
  have f1 : w0.cell? ⟨w.heap.size, 1, none⟩ = some (c1) := hx0.cell (by simp)
  have g1 : w0.cell? ⟨w.heap.size + 1, 1, none⟩ = some (d1) := hx0.cell (by simp)
  have f2 : w0.cell? ⟨w.heap.size, 2, none⟩ = some (.int .i64 x.lastSent) := hx0.cell (by simp)
  have g2 : w0.cell? ⟨w.heap.size + 1, 2, none⟩ = some (.int .i64 x.lastSent) := hx0.cell (by simp)
  have E0 : Ext w w0 := Ext.trans (by exact ((Ext.refl w).alloc _).alloc _) hx0
  go_wp2_with fail
  refine (eqRequesterS_c _ _ x.requesters _ (sRequesterL.ext (by exact E0) p1) (sRequesterL.ext (by exact E0) q1)).mono ?_
  rintro e w1 ⟨rfl, hx1⟩
  have f0 : w1.cell? ⟨w.heap.size, 0, none⟩ = some (c0) := hx1.cell f0
  have g0 : w1.cell? ⟨w.heap.size + 1, 0, none⟩ = some (d0) := hx1.cell g0
  have f1 : w1.cell? ⟨w.heap.size, 1, none⟩ = some (c1) := hx1.cell f1
  have g1 : w1.cell? ⟨w.heap.size + 1, 1, none⟩ = some (d1) := hx1.cell g1
  have f2 : w1.cell? ⟨w.heap.size, 2, none⟩ = some (.int .i64 x.lastSent) := hx1.cell f2
  have g2 : w1.cell? ⟨w.heap.size + 1, 2, none⟩ = some (.int .i64 x.lastSent) := hx1.cell g2
  have E1 : Ext w w1 := Ext.trans (by exact E0) hx1
  go_wp2
  go_ret
  exact ⟨rfl, E1⟩

set_option maxHeartbeats 400000 in
theorem eqPendingInterestS_c (va vb : Value) (l : (List DPendingInterest)) (w : World) (ha : sPendingInterestL.rd w [va] l) (hb : sPendingInterestL.rd w [vb] l) :
    Calls Tryz.prog 142 #[va, vb] w fun e w' => e = .returned (.bool true) ∧ Ext w w' := by
  obtain ⟨A, c, rfl, hl, hm⟩ := Shape.sl_form ha
  obtain ⟨B, d, rfl, hl', hm'⟩ := Shape.sl_form hb
  unfold maxLen at hm hm'
  have Ha := Lib.hid ha
  have Hb := Lib.hid hb
  clear ha hb
  have hn' : ((l.length : Int) != l.length) = false := by simp
  go_enter Tryz.func142, Tryz.ntmps142
  go_wp2
  go_loopw [5] (fun i wr => ∃ k : Nat, k ≤ l.length ∧ i = .int .i64 k ∧ Ext w wr) (fun i _ => l.length - (intOf i).toNat)
  case atStart => exact ⟨0, Nat.zero_le _, rfl, Ext.refl _⟩
  case round =>
    obtain ⟨k, hk, rfl, hx⟩ := hrel
    by_cases hlt : k < l.length
    · obtain ⟨b1, o1, es1, rfl, hc1, hr1⟩ := Shape.sl_at (sPendingInterestL.ext hx Ha.out) hlt
      obtain ⟨b2, o2, es2, rfl, hc2, hr2⟩ := Shape.sl_at (sPendingInterestL.ext hx Hb.out) hlt
      have hr1' := hr1
      have hr2' := hr2
      obtain ⟨c0, c1, rfl, p0, p1, p2⟩ := sPendingInterest_rd hr1
      obtain ⟨d0, d1, rfl, q0, q1, q2⟩ := sPendingInterest_rd hr2
      have f0 := Ext.cellOf (hc1 0 _ rfl)
      have f1 := Ext.cellOf (hc1 1 _ rfl)
      have f2 := Ext.cellOf (hc1 2 _ rfl)
      have g0 := Ext.cellOf (hc2 0 _ rfl)
      have g1 := Ext.cellOf (hc2 1 _ rfl)
      have g2 := Ext.cellOf (hc2 2 _ rfl)
      simp only [Nat.add_zero, show sPendingInterest.k = 3 from rfl, Nat.mul_one] at f0 g0 f1 g1 f2 g2
      clear hc1 hc2
      go_wp2
      refine wp_region_ext (by kernel_rfl) (by kernel_rfl) ?_
      repeat (go_big_quiet_step (((go_at_call 174; refine Calls.ext_of (eqPendingInterest_c _ _ l[k] _ ?_ ?_); (exact sPendingInterest.ext (ExtOf.ok _) hr1'); (exact sPendingInterest.ext (ExtOf.ok _) hr2')))))
      refine wpQuiet_nil ?_
      rintro _ ⟨⟨w1, hx1⟩, rfl⟩
      clear f0 g0 f1 g1 f2 g2
      go_wp2
      go_roundw
      case rel => exact ⟨k + 1, by omega, by go_num, hx.trans hx1⟩
      case measure => simp [intOf]; omega
    · have : k = l.length := by omega
      subst this
      go_wp2
      go_ret
      exact ⟨rfl, hx⟩

set_option maxHeartbeats 400000 in
theorem eqSeenNonce_c (ca cb : List Value) (x : DSeenNonce) (w : World) (ha : sSeenNonce.rd w ca x) (hb : sSeenNonce.rd w cb x) :
    Calls Tryz.prog 175 #[.agg ca.toArray, .agg cb.toArray] w fun e w' => e = .returned (.bool true) ∧ Ext w w' := by
  obtain ⟨c0, rfl, p0, p1⟩ := sSeenNonce_rd ha
  obtain ⟨d0, rfl, q0, q1⟩ := sSeenNonce_rd hb
  have hs1 : (x.nonce != x.nonce) = false := by simp
  go_enter Tryz.func175, Tryz.ntmps175
  go_wp2_with fail
  refine (eqName_c _ _ x.name _ (strs.ext (by exact ((Ext.refl w).alloc _).alloc _) p0) (strs.ext (by exact ((Ext.refl w).alloc _).alloc _) q0)).mono ?_
  rintro e w0 ⟨rfl, hx0⟩
  have f0 : w0.cell? ⟨w.heap.size, 0, none⟩ = some (c0) := hx0.cell (by simp)
  have g0 : w0.cell? ⟨w.heap.size + 1, 0, none⟩ = some (d0) := hx0.cell (by simp)
  have f1 : w0.cell? ⟨w.heap.size, 1, none⟩ = some (.int .i64 x.nonce) := hx0.cell (by simp)
  have g1 : w0.cell? ⟨w.heap.size + 1, 1, none⟩ = some (.int .i64 x.nonce) := hx0.cell (by simp)
  have E0 : Ext w w0 := Ext.trans (by exact ((Ext.refl w).alloc _).alloc _) hx0
  go_wp2
  go_ret
  exact ⟨rfl, E0⟩

set_option maxHeartbeats 400000 in
theorem eqSeenNonceS_c (va vb : Value) (l : (List DSeenNonce)) (w : World) (ha : sSeenNonceL.rd w [va] l) (hb : sSeenNonceL.rd w [vb] l) :
    Calls Tryz.prog 143 #[va, vb] w fun e w' => e = .returned (.bool true) ∧ Ext w w' := by
  obtain ⟨A, c, rfl, hl, hm⟩ := Shape.sl_form ha
  obtain ⟨B, d, rfl, hl', hm'⟩ := Shape.sl_form hb
  unfold maxLen at hm hm'
  have Ha := Lib.hid ha
  have Hb := Lib.hid hb
  clear ha hb
  have hn' : ((l.length : Int) != l.length) = false := by simp
  go_enter Tryz.func143, Tryz.ntmps143
  go_wp2
  go_loopw [5] (fun i wr => ∃ k : Nat, k ≤ l.length ∧ i = .int .i64 k ∧ Ext w wr) (fun i _ => l.length - (intOf i).toNat)
  case atStart => exact ⟨0, Nat.zero_le _, rfl, Ext.refl _⟩
  case round =>
    obtain ⟨k, hk, rfl, hx⟩ := hrel
    by_cases hlt : k < l.length
    · obtain ⟨b1, o1, es1, rfl, hc1, hr1⟩ := Shape.sl_at (sSeenNonceL.ext hx Ha.out) hlt
      obtain ⟨b2, o2, es2, rfl, hc2, hr2⟩ := Shape.sl_at (sSeenNonceL.ext hx Hb.out) hlt
      have hr1' := hr1
      have hr2' := hr2
      obtain ⟨c0, rfl, p0, p1⟩ := sSeenNonce_rd hr1
      obtain ⟨d0, rfl, q0, q1⟩ := sSeenNonce_rd hr2
      have f0 := Ext.cellOf (hc1 0 _ rfl)
      have f1 := Ext.cellOf (hc1 1 _ rfl)
      have g0 := Ext.cellOf (hc2 0 _ rfl)
      have g1 := Ext.cellOf (hc2 1 _ rfl)
      simp only [Nat.add_zero, show sSeenNonce.k = 2 from rfl, Nat.mul_one] at f0 g0 f1 g1
      clear hc1 hc2
      go_wp2
      refine wp_region_ext (by kernel_rfl) (by kernel_rfl) ?_
      repeat (go_big_quiet_step (((go_at_call 175; refine Calls.ext_of (eqSeenNonce_c _ _ l[k] _ ?_ ?_); (exact sSeenNonce.ext (ExtOf.ok _) hr1'); (exact sSeenNonce.ext (ExtOf.ok _) hr2')))))
      refine wpQuiet_nil ?_
      rintro _ ⟨⟨w1, hx1⟩, rfl⟩
      clear f0 g0 f1 g1
      go_wp2
      go_roundw
      case rel => exact ⟨k + 1, by omega, by go_num, hx.trans hx1⟩
      case measure => simp [intOf]; omega
    · have : k = l.length := by omega
      subst this
      go_wp2
      go_ret
      exact ⟨rfl, hx⟩

set_option maxHeartbeats 400000 in
theorem eqRoute_c (ca cb : List Value) (x : DRoute) (w : World) (ha : sRoute.rd w ca x) (hb : sRoute.rd w cb x) :
    Calls Tryz.prog 176 #[.agg ca.toArray, .agg cb.toArray] w fun e w' => e = .returned (.bool true) ∧ Ext w w' := by
  obtain ⟨c0, rfl, p0, p1, p2⟩ := sRoute_rd ha
  obtain ⟨d0, rfl, q0, q1, q2⟩ := sRoute_rd hb
  have hs1 : (x.face != x.face) = false := by simp
  have hs2 : (x.cost != x.cost) = false := by simp
  go_enter Tryz.func176, Tryz.ntmps176
  go_wp2_with fail
  refine (eqName_c _ _ x.pfx _ (strs.ext (by exact ((Ext.refl w).alloc _).alloc _) p0) (strs.ext (by exact ((Ext.refl w).alloc _).alloc _) q0)).mono ?_
  rintro e w0 ⟨rfl, hx0⟩
  have f0 : w0.cell? ⟨w.heap.size, 0, none⟩ = some (c0) := hx0.cell (by simp)
  have g0 : w0.cell? ⟨w.heap.size + 1, 0, none⟩ = some (d0) := hx0.cell (by simp)
  have f1 : w0.cell? ⟨w.heap.size, 1, none⟩ = some (.int .i64 x.face) := hx0.cell (by simp)
  have g1 : w0.cell? ⟨w.heap.size + 1, 1, none⟩ = some (.int .i64 x.face) := hx0.cell (by simp)
  have f2 : w0.cell? ⟨w.heap.size, 2, none⟩ = some (.int .i64 x.cost) := hx0.cell (by simp)
  have g2 : w0.cell? ⟨w.heap.size + 1, 2, none⟩ = some (.int .i64 x.cost) := hx0.cell (by simp)
  have E0 : Ext w w0 := Ext.trans (by exact ((Ext.refl w).alloc _).alloc _) hx0
  go_wp2
  go_ret
  exact ⟨rfl, E0⟩

set_option maxHeartbeats 400000 in
theorem eqRouteS_c (va vb : Value) (l : (List DRoute)) (w : World) (ha : sRouteL.rd w [va] l) (hb : sRouteL.rd w [vb] l) :
    Calls Tryz.prog 144 #[va, vb] w fun e w' => e = .returned (.bool true) ∧ Ext w w' := by
  obtain ⟨A, c, rfl, hl, hm⟩ := Shape.sl_form ha
  obtain ⟨B, d, rfl, hl', hm'⟩ := Shape.sl_form hb
  unfold maxLen at hm hm'
  have Ha := Lib.hid ha
  have Hb := Lib.hid hb
  clear ha hb
  have hn' : ((l.length : Int) != l.length) = false := by simp
  go_enter Tryz.func144, Tryz.ntmps144
  go_wp2
  go_loopw [5] (fun i wr => ∃ k : Nat, k ≤ l.length ∧ i = .int .i64 k ∧ Ext w wr) (fun i _ => l.length - (intOf i).toNat)
  case atStart => exact ⟨0, Nat.zero_le _, rfl, Ext.refl _⟩
  case round =>
    obtain ⟨k, hk, rfl, hx⟩ := hrel
    by_cases hlt : k < l.length
    · obtain ⟨b1, o1, es1, rfl, hc1, hr1⟩ := Shape.sl_at (sRouteL.ext hx Ha.out) hlt
      obtain ⟨b2, o2, es2, rfl, hc2, hr2⟩ := Shape.sl_at (sRouteL.ext hx Hb.out) hlt
      have hr1' := hr1
      have hr2' := hr2
      obtain ⟨c0, rfl, p0, p1, p2⟩ := sRoute_rd hr1
      obtain ⟨d0, rfl, q0, q1, q2⟩ := sRoute_rd hr2
      have f0 := Ext.cellOf (hc1 0 _ rfl)
      have f1 := Ext.cellOf (hc1 1 _ rfl)
      have f2 := Ext.cellOf (hc1 2 _ rfl)
      have g0 := Ext.cellOf (hc2 0 _ rfl)
      have g1 := Ext.cellOf (hc2 1 _ rfl)
      have g2 := Ext.cellOf (hc2 2 _ rfl)
      simp only [Nat.add_zero, show sRoute.k = 3 from rfl, Nat.mul_one] at f0 g0 f1 g1 f2 g2
      clear hc1 hc2
      go_wp2
      refine wp_region_ext (by kernel_rfl) (by kernel_rfl) ?_
      repeat (go_big_quiet_step (((go_at_call 176; refine Calls.ext_of (eqRoute_c _ _ l[k] _ ?_ ?_); (exact sRoute.ext (ExtOf.ok _) hr1'); (exact sRoute.ext (ExtOf.ok _) hr2')))))
      refine wpQuiet_nil ?_
      rintro _ ⟨⟨w1, hx1⟩, rfl⟩
      clear f0 g0 f1 g1 f2 g2
      go_wp2
      go_roundw
      case rel => exact ⟨k + 1, by omega, by go_num, hx.trans hx1⟩
      case measure => simp [intOf]; omega
    · have : k = l.length := by omega
      subst this
      go_wp2
      go_ret
      exact ⟨rfl, hx⟩

set_option maxHeartbeats 400000 in
theorem eqMeasurement_c (ca cb : List Value) (x : DMeasurement) (w : World) (ha : sMeasurement.rd w ca x) (hb : sMeasurement.rd w cb x) :
    Calls Tryz.prog 177 #[.agg ca.toArray, .agg cb.toArray] w fun e w' => e = .returned (.bool true) ∧ Ext w w' := by
  obtain ⟨c0, rfl, p0, p1, p2⟩ := sMeasurement_rd ha
  obtain ⟨d0, rfl, q0, q1, q2⟩ := sMeasurement_rd hb
  have hs1 : (x.face != x.face) = false := by simp
  have hs2 : (x.failures != x.failures) = false := by simp
  go_enter Tryz.func177, Tryz.ntmps177
  go_wp2_with fail
  refine (eqName_c _ _ x.pfx _ (strs.ext (by exact ((Ext.refl w).alloc _).alloc _) p0) (strs.ext (by exact ((Ext.refl w).alloc _).alloc _) q0)).mono ?_
  rintro e w0 ⟨rfl, hx0⟩
  have f0 : w0.cell? ⟨w.heap.size, 0, none⟩ = some (c0) := hx0.cell (by simp)
  have g0 : w0.cell? ⟨w.heap.size + 1, 0, none⟩ = some (d0) := hx0.cell (by simp)
  have f1 : w0.cell? ⟨w.heap.size, 1, none⟩ = some (.int .i64 x.face) := hx0.cell (by simp)
  have g1 : w0.cell? ⟨w.heap.size + 1, 1, none⟩ = some (.int .i64 x.face) := hx0.cell (by simp)
  have f2 : w0.cell? ⟨w.heap.size, 2, none⟩ = some (.int .i64 x.failures) := hx0.cell (by simp)
  have g2 : w0.cell? ⟨w.heap.size + 1, 2, none⟩ = some (.int .i64 x.failures) := hx0.cell (by simp)
  have E0 : Ext w w0 := Ext.trans (by exact ((Ext.refl w).alloc _).alloc _) hx0
  go_wp2
  go_ret
  exact ⟨rfl, E0⟩

set_option maxHeartbeats 400000 in
theorem eqMeasurementS_c (va vb : Value) (l : (List DMeasurement)) (w : World) (ha : sMeasurementL.rd w [va] l) (hb : sMeasurementL.rd w [vb] l) :
    Calls Tryz.prog 145 #[va, vb] w fun e w' => e = .returned (.bool true) ∧ Ext w w' := by
  obtain ⟨A, c, rfl, hl, hm⟩ := Shape.sl_form ha
  obtain ⟨B, d, rfl, hl', hm'⟩ := Shape.sl_form hb
  unfold maxLen at hm hm'
  have Ha := Lib.hid ha
  have Hb := Lib.hid hb
  clear ha hb
  have hn' : ((l.length : Int) != l.length) = false := by simp
  go_enter Tryz.func145, Tryz.ntmps145
  go_wp2
  go_loopw [5] (fun i wr => ∃ k : Nat, k ≤ l.length ∧ i = .int .i64 k ∧ Ext w wr) (fun i _ => l.length - (intOf i).toNat)
  case atStart => exact ⟨0, Nat.zero_le _, rfl, Ext.refl _⟩
  case round =>
    obtain ⟨k, hk, rfl, hx⟩ := hrel
    by_cases hlt : k < l.length
    · obtain ⟨b1, o1, es1, rfl, hc1, hr1⟩ := Shape.sl_at (sMeasurementL.ext hx Ha.out) hlt
      obtain ⟨b2, o2, es2, rfl, hc2, hr2⟩ := Shape.sl_at (sMeasurementL.ext hx Hb.out) hlt
      have hr1' := hr1
      have hr2' := hr2
      obtain ⟨c0, rfl, p0, p1, p2⟩ := sMeasurement_rd hr1
      obtain ⟨d0, rfl, q0, q1, q2⟩ := sMeasurement_rd hr2
      have f0 := Ext.cellOf (hc1 0 _ rfl)
      have f1 := Ext.cellOf (hc1 1 _ rfl)
      have f2 := Ext.cellOf (hc1 2 _ rfl)
      have g0 := Ext.cellOf (hc2 0 _ rfl)
      have g1 := Ext.cellOf (hc2 1 _ rfl)
      have g2 := Ext.cellOf (hc2 2 _ rfl)
      simp only [Nat.add_zero, show sMeasurement.k = 3 from rfl, Nat.mul_one] at f0 g0 f1 g1 f2 g2
      clear hc1 hc2
      go_wp2
      refine wp_region_ext (by kernel_rfl) (by kernel_rfl) ?_
      repeat (go_big_quiet_step (((go_at_call 177; refine Calls.ext_of (eqMeasurement_c _ _ l[k] _ ?_ ?_); (exact sMeasurement.ext (ExtOf.ok _) hr1'); (exact sMeasurement.ext (ExtOf.ok _) hr2')))))
      refine wpQuiet_nil ?_
      rintro _ ⟨⟨w1, hx1⟩, rfl⟩
      clear f0 g0 f1 g1 f2 g2
      go_wp2
      go_roundw
      case rel => exact ⟨k + 1, by omega, by go_num, hx.trans hx1⟩
      case measure => simp [intOf]; omega
    · have : k = l.length := by omega
      subst this
      go_wp2
      go_ret
      exact ⟨rfl, hx⟩

set_option maxHeartbeats 400000 in
theorem eqNode_c (ca cb : List Value) (x : DNode) (w : World) (ha : sNode.rd w ca x) (hb : sNode.rd w cb x) :
    Calls Tryz.prog 95 #[.agg ca.toArray, .agg cb.toArray] w fun e w' => e = .returned (.bool true) ∧ Ext w w' := by
  obtain ⟨c0, c2, c3, c4, c5, c6, rfl, p0, p1, p2, p3, p4, p5, p6⟩ := sNode_rd ha
  obtain ⟨d0, d2, d3, d4, d5, d6, rfl, q0, q1, q2, q3, q4, q5, q6⟩ := sNode_rd hb
  have hs1 : (x.cache.capacity != x.cache.capacity) = false := by simp
  have hs7 : (x.dropped != x.dropped) = false := by simp
  go_enter Tryz.func95, Tryz.ntmps95
  go_wp2_with fail
  refine (eqDataS_c _ _ x.locals _ (sDataL.ext (by exact ((Ext.refl w).alloc _).alloc _) p0) (sDataL.ext (by exact ((Ext.refl w).alloc _).alloc _) q0)).mono ?_
  rintro e w0 ⟨rfl, hx0⟩
  have f0 : w0.cell? ⟨w.heap.size, 0, none⟩ = some (c0) := hx0.cell (by simp)
  have g0 : w0.cell? ⟨w.heap.size + 1, 0, none⟩ = some (d0) := hx0.cell (by simp)
  have f1 : w0.cell? ⟨w.heap.size, 1, none⟩ = some (.int .i64 x.cache.capacity) := hx0.cell (by simp)
  have g1 : w0.cell? ⟨w.heap.size + 1, 1, none⟩ = some (.int .i64 x.cache.capacity) := hx0.cell (by simp)
  have f2 : w0.cell? ⟨w.heap.size, 2, none⟩ = some (c2) := hx0.cell (by simp)
  have g2 : w0.cell? ⟨w.heap.size + 1, 2, none⟩ = some (d2) := hx0.cell (by simp)
  have f3 : w0.cell? ⟨w.heap.size, 3, none⟩ = some (c3) := hx0.cell (by simp)
  have g3 : w0.cell? ⟨w.heap.size + 1, 3, none⟩ = some (d3) := hx0.cell (by simp)
  have f4 : w0.cell? ⟨w.heap.size, 4, none⟩ = some (c4) := hx0.cell (by simp)
  have g4 : w0.cell? ⟨w.heap.size + 1, 4, none⟩ = some (d4) := hx0.cell (by simp)
  have f5 : w0.cell? ⟨w.heap.size, 5, none⟩ = some (c5) := hx0.cell (by simp)
  have g5 : w0.cell? ⟨w.heap.size + 1, 5, none⟩ = some (d5) := hx0.cell (by simp)
  have f6 : w0.cell? ⟨w.heap.size, 6, none⟩ = some (c6) := hx0.cell (by simp)
  have g6 : w0.cell? ⟨w.heap.size + 1, 6, none⟩ = some (d6) := hx0.cell (by simp)
  have f7 : w0.cell? ⟨w.heap.size, 7, none⟩ = some (.int .i64 x.dropped) := hx0.cell (by simp)
  have g7 : w0.cell? ⟨w.heap.size + 1, 7, none⟩ = some (.int .i64 x.dropped) := hx0.cell (by simp)
  have E0 : Ext w w0 := Ext.trans (by exact ((Ext.refl w).alloc _).alloc _) hx0
  go_wp2_with fail
  refine (eqContentStore_c _ _ x.cache _ (sContentStore.ext (by exact E0) p1) (sContentStore.ext (by exact E0) q1)).mono ?_
  rintro e w1 ⟨rfl, hx1⟩
  have f0 : w1.cell? ⟨w.heap.size, 0, none⟩ = some (c0) := hx1.cell f0
  have g0 : w1.cell? ⟨w.heap.size + 1, 0, none⟩ = some (d0) := hx1.cell g0
  have f1 : w1.cell? ⟨w.heap.size, 1, none⟩ = some (.int .i64 x.cache.capacity) := hx1.cell f1
  have g1 : w1.cell? ⟨w.heap.size + 1, 1, none⟩ = some (.int .i64 x.cache.capacity) := hx1.cell g1
  have f2 : w1.cell? ⟨w.heap.size, 2, none⟩ = some (c2) := hx1.cell f2
  have g2 : w1.cell? ⟨w.heap.size + 1, 2, none⟩ = some (d2) := hx1.cell g2
  have f3 : w1.cell? ⟨w.heap.size, 3, none⟩ = some (c3) := hx1.cell f3
  have g3 : w1.cell? ⟨w.heap.size + 1, 3, none⟩ = some (d3) := hx1.cell g3
  have f4 : w1.cell? ⟨w.heap.size, 4, none⟩ = some (c4) := hx1.cell f4
  have g4 : w1.cell? ⟨w.heap.size + 1, 4, none⟩ = some (d4) := hx1.cell g4
  have f5 : w1.cell? ⟨w.heap.size, 5, none⟩ = some (c5) := hx1.cell f5
  have g5 : w1.cell? ⟨w.heap.size + 1, 5, none⟩ = some (d5) := hx1.cell g5
  have f6 : w1.cell? ⟨w.heap.size, 6, none⟩ = some (c6) := hx1.cell f6
  have g6 : w1.cell? ⟨w.heap.size + 1, 6, none⟩ = some (d6) := hx1.cell g6
  have f7 : w1.cell? ⟨w.heap.size, 7, none⟩ = some (.int .i64 x.dropped) := hx1.cell f7
  have g7 : w1.cell? ⟨w.heap.size + 1, 7, none⟩ = some (.int .i64 x.dropped) := hx1.cell g7
  have E1 : Ext w w1 := Ext.trans (by exact E0) hx1
  go_wp2_with fail
  refine (eqPendingInterestS_c _ _ x.pending _ (sPendingInterestL.ext (by exact E1) p2) (sPendingInterestL.ext (by exact E1) q2)).mono ?_
  rintro e w2 ⟨rfl, hx2⟩
  have f0 : w2.cell? ⟨w.heap.size, 0, none⟩ = some (c0) := hx2.cell f0
  have g0 : w2.cell? ⟨w.heap.size + 1, 0, none⟩ = some (d0) := hx2.cell g0
  have f1 : w2.cell? ⟨w.heap.size, 1, none⟩ = some (.int .i64 x.cache.capacity) := hx2.cell f1
  have g1 : w2.cell? ⟨w.heap.size + 1, 1, none⟩ = some (.int .i64 x.cache.capacity) := hx2.cell g1
  have f2 : w2.cell? ⟨w.heap.size, 2, none⟩ = some (c2) := hx2.cell f2
  have g2 : w2.cell? ⟨w.heap.size + 1, 2, none⟩ = some (d2) := hx2.cell g2
  have f3 : w2.cell? ⟨w.heap.size, 3, none⟩ = some (c3) := hx2.cell f3
  have g3 : w2.cell? ⟨w.heap.size + 1, 3, none⟩ = some (d3) := hx2.cell g3
  have f4 : w2.cell? ⟨w.heap.size, 4, none⟩ = some (c4) := hx2.cell f4
  have g4 : w2.cell? ⟨w.heap.size + 1, 4, none⟩ = some (d4) := hx2.cell g4
  have f5 : w2.cell? ⟨w.heap.size, 5, none⟩ = some (c5) := hx2.cell f5
  have g5 : w2.cell? ⟨w.heap.size + 1, 5, none⟩ = some (d5) := hx2.cell g5
  have f6 : w2.cell? ⟨w.heap.size, 6, none⟩ = some (c6) := hx2.cell f6
  have g6 : w2.cell? ⟨w.heap.size + 1, 6, none⟩ = some (d6) := hx2.cell g6
  have f7 : w2.cell? ⟨w.heap.size, 7, none⟩ = some (.int .i64 x.dropped) := hx2.cell f7
  have g7 : w2.cell? ⟨w.heap.size + 1, 7, none⟩ = some (.int .i64 x.dropped) := hx2.cell g7
  have E2 : Ext w w2 := Ext.trans (by exact E1) hx2
  go_wp2_with fail
  refine (eqSeenNonceS_c _ _ x.seen _ (sSeenNonceL.ext (by exact E2) p3) (sSeenNonceL.ext (by exact E2) q3)).mono ?_
  rintro e w3 ⟨rfl, hx3⟩
  have f0 : w3.cell? ⟨w.heap.size, 0, none⟩ = some (c0) := hx3.cell f0
  have g0 : w3.cell? ⟨w.heap.size + 1, 0, none⟩ = some (d0) := hx3.cell g0
  have f1 : w3.cell? ⟨w.heap.size, 1, none⟩ = some (.int .i64 x.cache.capacity) := hx3.cell f1
  have g1 : w3.cell? ⟨w.heap.size + 1, 1, none⟩ = some (.int .i64 x.cache.capacity) := hx3.cell g1
  have f2 : w3.cell? ⟨w.heap.size, 2, none⟩ = some (c2) := hx3.cell f2
  have g2 : w3.cell? ⟨w.heap.size + 1, 2, none⟩ = some (d2) := hx3.cell g2
  have f3 : w3.cell? ⟨w.heap.size, 3, none⟩ = some (c3) := hx3.cell f3
  have g3 : w3.cell? ⟨w.heap.size + 1, 3, none⟩ = some (d3) := hx3.cell g3
  have f4 : w3.cell? ⟨w.heap.size, 4, none⟩ = some (c4) := hx3.cell f4
  have g4 : w3.cell? ⟨w.heap.size + 1, 4, none⟩ = some (d4) := hx3.cell g4
  have f5 : w3.cell? ⟨w.heap.size, 5, none⟩ = some (c5) := hx3.cell f5
  have g5 : w3.cell? ⟨w.heap.size + 1, 5, none⟩ = some (d5) := hx3.cell g5
  have f6 : w3.cell? ⟨w.heap.size, 6, none⟩ = some (c6) := hx3.cell f6
  have g6 : w3.cell? ⟨w.heap.size + 1, 6, none⟩ = some (d6) := hx3.cell g6
  have f7 : w3.cell? ⟨w.heap.size, 7, none⟩ = some (.int .i64 x.dropped) := hx3.cell f7
  have g7 : w3.cell? ⟨w.heap.size + 1, 7, none⟩ = some (.int .i64 x.dropped) := hx3.cell g7
  have E3 : Ext w w3 := Ext.trans (by exact E2) hx3
  go_wp2_with fail
  refine (eqRouteS_c _ _ x.routes _ (sRouteL.ext (by exact E3) p4) (sRouteL.ext (by exact E3) q4)).mono ?_
  rintro e w4 ⟨rfl, hx4⟩
  have f0 : w4.cell? ⟨w.heap.size, 0, none⟩ = some (c0) := hx4.cell f0
  have g0 : w4.cell? ⟨w.heap.size + 1, 0, none⟩ = some (d0) := hx4.cell g0
  have f1 : w4.cell? ⟨w.heap.size, 1, none⟩ = some (.int .i64 x.cache.capacity) := hx4.cell f1
  have g1 : w4.cell? ⟨w.heap.size + 1, 1, none⟩ = some (.int .i64 x.cache.capacity) := hx4.cell g1
  have f2 : w4.cell? ⟨w.heap.size, 2, none⟩ = some (c2) := hx4.cell f2
  have g2 : w4.cell? ⟨w.heap.size + 1, 2, none⟩ = some (d2) := hx4.cell g2
  have f3 : w4.cell? ⟨w.heap.size, 3, none⟩ = some (c3) := hx4.cell f3
  have g3 : w4.cell? ⟨w.heap.size + 1, 3, none⟩ = some (d3) := hx4.cell g3
  have f4 : w4.cell? ⟨w.heap.size, 4, none⟩ = some (c4) := hx4.cell f4
  have g4 : w4.cell? ⟨w.heap.size + 1, 4, none⟩ = some (d4) := hx4.cell g4
  have f5 : w4.cell? ⟨w.heap.size, 5, none⟩ = some (c5) := hx4.cell f5
  have g5 : w4.cell? ⟨w.heap.size + 1, 5, none⟩ = some (d5) := hx4.cell g5
  have f6 : w4.cell? ⟨w.heap.size, 6, none⟩ = some (c6) := hx4.cell f6
  have g6 : w4.cell? ⟨w.heap.size + 1, 6, none⟩ = some (d6) := hx4.cell g6
  have f7 : w4.cell? ⟨w.heap.size, 7, none⟩ = some (.int .i64 x.dropped) := hx4.cell f7
  have g7 : w4.cell? ⟨w.heap.size + 1, 7, none⟩ = some (.int .i64 x.dropped) := hx4.cell g7
  have E4 : Ext w w4 := Ext.trans (by exact E3) hx4
  go_wp2_with fail
  refine (eqMeasurementS_c _ _ x.measurements _ (sMeasurementL.ext (by exact E4) p5) (sMeasurementL.ext (by exact E4) q5)).mono ?_
  rintro e w5 ⟨rfl, hx5⟩
  have f0 : w5.cell? ⟨w.heap.size, 0, none⟩ = some (c0) := hx5.cell f0
  have g0 : w5.cell? ⟨w.heap.size + 1, 0, none⟩ = some (d0) := hx5.cell g0
  have f1 : w5.cell? ⟨w.heap.size, 1, none⟩ = some (.int .i64 x.cache.capacity) := hx5.cell f1
  have g1 : w5.cell? ⟨w.heap.size + 1, 1, none⟩ = some (.int .i64 x.cache.capacity) := hx5.cell g1
  have f2 : w5.cell? ⟨w.heap.size, 2, none⟩ = some (c2) := hx5.cell f2
  have g2 : w5.cell? ⟨w.heap.size + 1, 2, none⟩ = some (d2) := hx5.cell g2
  have f3 : w5.cell? ⟨w.heap.size, 3, none⟩ = some (c3) := hx5.cell f3
  have g3 : w5.cell? ⟨w.heap.size + 1, 3, none⟩ = some (d3) := hx5.cell g3
  have f4 : w5.cell? ⟨w.heap.size, 4, none⟩ = some (c4) := hx5.cell f4
  have g4 : w5.cell? ⟨w.heap.size + 1, 4, none⟩ = some (d4) := hx5.cell g4
  have f5 : w5.cell? ⟨w.heap.size, 5, none⟩ = some (c5) := hx5.cell f5
  have g5 : w5.cell? ⟨w.heap.size + 1, 5, none⟩ = some (d5) := hx5.cell g5
  have f6 : w5.cell? ⟨w.heap.size, 6, none⟩ = some (c6) := hx5.cell f6
  have g6 : w5.cell? ⟨w.heap.size + 1, 6, none⟩ = some (d6) := hx5.cell g6
  have f7 : w5.cell? ⟨w.heap.size, 7, none⟩ = some (.int .i64 x.dropped) := hx5.cell f7
  have g7 : w5.cell? ⟨w.heap.size + 1, 7, none⟩ = some (.int .i64 x.dropped) := hx5.cell g7
  have E5 : Ext w w5 := Ext.trans (by exact E4) hx5
  go_wp2
  go_ret
  exact ⟨rfl, E5⟩

set_option maxHeartbeats 400000 in
theorem eqNodeS_c (va vb : Value) (l : (List DNode)) (w : World) (ha : sNodeL.rd w [va] l) (hb : sNodeL.rd w [vb] l) :
    Calls Tryz.prog 49 #[va, vb] w fun e w' => e = .returned (.bool true) ∧ Ext w w' := by
  obtain ⟨A, c, rfl, hl, hm⟩ := Shape.sl_form ha
  obtain ⟨B, d, rfl, hl', hm'⟩ := Shape.sl_form hb
  unfold maxLen at hm hm'
  have Ha := Lib.hid ha
  have Hb := Lib.hid hb
  clear ha hb
  have hn' : ((l.length : Int) != l.length) = false := by simp
  go_enter Tryz.func49, Tryz.ntmps49
  go_wp2
  go_loopw [5] (fun i wr => ∃ k : Nat, k ≤ l.length ∧ i = .int .i64 k ∧ Ext w wr) (fun i _ => l.length - (intOf i).toNat)
  case atStart => exact ⟨0, Nat.zero_le _, rfl, Ext.refl _⟩
  case round =>
    obtain ⟨k, hk, rfl, hx⟩ := hrel
    by_cases hlt : k < l.length
    · obtain ⟨b1, o1, es1, rfl, hc1, hr1⟩ := Shape.sl_at (sNodeL.ext hx Ha.out) hlt
      obtain ⟨b2, o2, es2, rfl, hc2, hr2⟩ := Shape.sl_at (sNodeL.ext hx Hb.out) hlt
      have hr1' := hr1
      have hr2' := hr2
      obtain ⟨c0, c2, c3, c4, c5, c6, rfl, p0, p1, p2, p3, p4, p5, p6⟩ := sNode_rd hr1
      obtain ⟨d0, d2, d3, d4, d5, d6, rfl, q0, q1, q2, q3, q4, q5, q6⟩ := sNode_rd hr2
      have f0 := Ext.cellOf (hc1 0 _ rfl)
      have f1 := Ext.cellOf (hc1 1 _ rfl)
      have f2 := Ext.cellOf (hc1 2 _ rfl)
      have f3 := Ext.cellOf (hc1 3 _ rfl)
      have f4 := Ext.cellOf (hc1 4 _ rfl)
      have f5 := Ext.cellOf (hc1 5 _ rfl)
      have f6 := Ext.cellOf (hc1 6 _ rfl)
      have f7 := Ext.cellOf (hc1 7 _ rfl)
      have g0 := Ext.cellOf (hc2 0 _ rfl)
      have g1 := Ext.cellOf (hc2 1 _ rfl)
      have g2 := Ext.cellOf (hc2 2 _ rfl)
      have g3 := Ext.cellOf (hc2 3 _ rfl)
      have g4 := Ext.cellOf (hc2 4 _ rfl)
      have g5 := Ext.cellOf (hc2 5 _ rfl)
      have g6 := Ext.cellOf (hc2 6 _ rfl)
      have g7 := Ext.cellOf (hc2 7 _ rfl)
      simp only [Nat.add_zero, show sNode.k = 8 from rfl, Nat.mul_one] at f0 g0 f1 g1 f2 g2 f3 g3 f4 g4 f5 g5 f6 g6 f7 g7
      clear hc1 hc2
      go_wp2
      refine wp_region_ext (by kernel_rfl) (by kernel_rfl) ?_
      repeat (go_big_quiet_step (((go_at_call 95; refine Calls.ext_of (eqNode_c _ _ l[k] _ ?_ ?_); (exact sNode.ext (ExtOf.ok _) hr1'); (exact sNode.ext (ExtOf.ok _) hr2')))))
      refine wpQuiet_nil ?_
      rintro _ ⟨⟨w1, hx1⟩, rfl⟩
      clear f0 g0 f1 g1 f2 g2 f3 g3 f4 g4 f5 g5 f6 g6 f7 g7
      go_wp2
      go_roundw
      case rel => exact ⟨k + 1, by omega, by go_num, hx.trans hx1⟩
      case measure => simp [intOf]; omega
    · have : k = l.length := by omega
      subst this
      go_wp2
      go_ret
      exact ⟨rfl, hx⟩

set_option maxHeartbeats 400000 in
theorem eqIntS_c (va vb : Value) (l : (List Int)) (w : World) (ha : sInts.rd w [va] l) (hb : sInts.rd w [vb] l) :
    Calls Tryz.prog 19 #[va, vb] w fun e w' => e = .returned (.bool true) ∧ Ext w w' := by
  obtain ⟨A, c, rfl, hl, hm⟩ := Shape.sl_form ha
  obtain ⟨B, d, rfl, hl', hm'⟩ := Shape.sl_form hb
  unfold maxLen at hm hm'
  have Ha := Lib.hid ha
  have Hb := Lib.hid hb
  clear ha hb
  have hn' : ((l.length : Int) != l.length) = false := by simp
  go_enter Tryz.func19, Tryz.ntmps19
  go_wp2
  go_loopw [5] (fun i wr => ∃ k : Nat, k ≤ l.length ∧ i = .int .i64 k ∧ Ext w wr) (fun i _ => l.length - (intOf i).toNat)
  case atStart => exact ⟨0, Nat.zero_le _, rfl, Ext.refl _⟩
  case round =>
    obtain ⟨k, hk, rfl, hx⟩ := hrel
    by_cases hlt : k < l.length
    · obtain ⟨b1, o1, rfl, hc1, _⟩ := Shape.int_at (sInts.ext hx Ha.out) hlt
      obtain ⟨b2, o2, rfl, hc2, _⟩ := Shape.int_at (sInts.ext hx Hb.out) hlt
      have hsame : (l[k] != l[k]) = false := by simp
      go_wp2
      go_quiet (fail)
      go_wp2
      go_roundw
      case rel => exact ⟨k + 1, by omega, by go_num, hx.drewN _⟩
      case measure => simp [intOf]; omega
    · have : k = l.length := by omega
      subst this
      go_wp2
      go_ret
      exact ⟨rfl, hx⟩

set_option maxHeartbeats 400000 in
theorem eqInterest_c (ca cb : List Value) (x : DInterest) (w : World) (ha : sInterest.rd w ca x) (hb : sInterest.rd w cb x) :
    Calls Tryz.prog 146 #[.agg ca.toArray, .agg cb.toArray] w fun e w' => e = .returned (.bool true) ∧ Ext w w' := by
  obtain ⟨c0, rfl, p0, p1, p2, p3⟩ := sInterest_rd ha
  obtain ⟨d0, rfl, q0, q1, q2, q3⟩ := sInterest_rd hb
  have hs1 : (x.nonce != x.nonce) = false := by simp
  have hs2 : (x.hopLimit != x.hopLimit) = false := by simp
  have hs3 : (x.lifetime != x.lifetime) = false := by simp
  go_enter Tryz.func146, Tryz.ntmps146
  go_wp2_with fail
  refine (eqName_c _ _ x.name _ (strs.ext (by exact ((Ext.refl w).alloc _).alloc _) p0) (strs.ext (by exact ((Ext.refl w).alloc _).alloc _) q0)).mono ?_
  rintro e w0 ⟨rfl, hx0⟩
  have f0 : w0.cell? ⟨w.heap.size, 0, none⟩ = some (c0) := hx0.cell (by simp)
  have g0 : w0.cell? ⟨w.heap.size + 1, 0, none⟩ = some (d0) := hx0.cell (by simp)
  have f1 : w0.cell? ⟨w.heap.size, 1, none⟩ = some (.int .i64 x.nonce) := hx0.cell (by simp)
  have g1 : w0.cell? ⟨w.heap.size + 1, 1, none⟩ = some (.int .i64 x.nonce) := hx0.cell (by simp)
  have f2 : w0.cell? ⟨w.heap.size, 2, none⟩ = some (.int .i64 x.hopLimit) := hx0.cell (by simp)
  have g2 : w0.cell? ⟨w.heap.size + 1, 2, none⟩ = some (.int .i64 x.hopLimit) := hx0.cell (by simp)
  have f3 : w0.cell? ⟨w.heap.size, 3, none⟩ = some (.int .i64 x.lifetime) := hx0.cell (by simp)
  have g3 : w0.cell? ⟨w.heap.size + 1, 3, none⟩ = some (.int .i64 x.lifetime) := hx0.cell (by simp)
  have E0 : Ext w w0 := Ext.trans (by exact ((Ext.refl w).alloc _).alloc _) hx0
  go_wp2
  go_ret
  exact ⟨rfl, E0⟩

set_option maxHeartbeats 400000 in
theorem eqPacketInFlight_c (ca cb : List Value) (x : DPacketInFlight) (w : World) (ha : sPacketInFlight.rd w ca x) (hb : sPacketInFlight.rd w cb x) :
    Calls Tryz.prog 96 #[.agg ca.toArray, .agg cb.toArray] w fun e w' => e = .returned (.bool true) ∧ Ext w w' := by
  obtain ⟨c3, c7, c8, c9, rfl, p0, p1, p3, p4⟩ := sPacketInFlight_rd ha
  obtain ⟨d3, d7, d8, d9, rfl, q0, q1, q3, q4⟩ := sPacketInFlight_rd hb
  have hs0 : (x.dest != x.dest) = false := by simp
  have hs1 : (x.face != x.face) = false := by simp
  have hs2 : (x.isInterest != x.isInterest) = false := by simp
  have hs4 : (x.interest.nonce != x.interest.nonce) = false := by simp
  have hs5 : (x.interest.hopLimit != x.interest.hopLimit) = false := by simp
  have hs6 : (x.interest.lifetime != x.interest.lifetime) = false := by simp
  have hs10 : (x.data.freshUntil != x.data.freshUntil) = false := by simp
  have hs11 : (x.data.signature != x.data.signature) = false := by simp
  go_enter Tryz.func96, Tryz.ntmps96
  go_wp2_with fail
  refine (eqInterest_c _ _ x.interest _ (sInterest.ext (by exact ((Ext.refl w).alloc _).alloc _) p3) (sInterest.ext (by exact ((Ext.refl w).alloc _).alloc _) q3)).mono ?_
  rintro e w0 ⟨rfl, hx0⟩
  have f0 : w0.cell? ⟨w.heap.size, 0, none⟩ = some (.int .i64 x.dest) := hx0.cell (by simp)
  have g0 : w0.cell? ⟨w.heap.size + 1, 0, none⟩ = some (.int .i64 x.dest) := hx0.cell (by simp)
  have f1 : w0.cell? ⟨w.heap.size, 1, none⟩ = some (.int .i64 x.face) := hx0.cell (by simp)
  have g1 : w0.cell? ⟨w.heap.size + 1, 1, none⟩ = some (.int .i64 x.face) := hx0.cell (by simp)
  have f2 : w0.cell? ⟨w.heap.size, 2, none⟩ = some (.bool x.isInterest) := hx0.cell (by simp)
  have g2 : w0.cell? ⟨w.heap.size + 1, 2, none⟩ = some (.bool x.isInterest) := hx0.cell (by simp)
  have f3 : w0.cell? ⟨w.heap.size, 3, none⟩ = some (c3) := hx0.cell (by simp)
  have g3 : w0.cell? ⟨w.heap.size + 1, 3, none⟩ = some (d3) := hx0.cell (by simp)
  have f4 : w0.cell? ⟨w.heap.size, 4, none⟩ = some (.int .i64 x.interest.nonce) := hx0.cell (by simp)
  have g4 : w0.cell? ⟨w.heap.size + 1, 4, none⟩ = some (.int .i64 x.interest.nonce) := hx0.cell (by simp)
  have f5 : w0.cell? ⟨w.heap.size, 5, none⟩ = some (.int .i64 x.interest.hopLimit) := hx0.cell (by simp)
  have g5 : w0.cell? ⟨w.heap.size + 1, 5, none⟩ = some (.int .i64 x.interest.hopLimit) := hx0.cell (by simp)
  have f6 : w0.cell? ⟨w.heap.size, 6, none⟩ = some (.int .i64 x.interest.lifetime) := hx0.cell (by simp)
  have g6 : w0.cell? ⟨w.heap.size + 1, 6, none⟩ = some (.int .i64 x.interest.lifetime) := hx0.cell (by simp)
  have f7 : w0.cell? ⟨w.heap.size, 7, none⟩ = some (c7) := hx0.cell (by simp)
  have g7 : w0.cell? ⟨w.heap.size + 1, 7, none⟩ = some (d7) := hx0.cell (by simp)
  have f8 : w0.cell? ⟨w.heap.size, 8, none⟩ = some (c8) := hx0.cell (by simp)
  have g8 : w0.cell? ⟨w.heap.size + 1, 8, none⟩ = some (d8) := hx0.cell (by simp)
  have f9 : w0.cell? ⟨w.heap.size, 9, none⟩ = some (c9) := hx0.cell (by simp)
  have g9 : w0.cell? ⟨w.heap.size + 1, 9, none⟩ = some (d9) := hx0.cell (by simp)
  have f10 : w0.cell? ⟨w.heap.size, 10, none⟩ = some (.int .i64 x.data.freshUntil) := hx0.cell (by simp)
  have g10 : w0.cell? ⟨w.heap.size + 1, 10, none⟩ = some (.int .i64 x.data.freshUntil) := hx0.cell (by simp)
  have f11 : w0.cell? ⟨w.heap.size, 11, none⟩ = some (.int .i64 x.data.signature) := hx0.cell (by simp)
  have g11 : w0.cell? ⟨w.heap.size + 1, 11, none⟩ = some (.int .i64 x.data.signature) := hx0.cell (by simp)
  have E0 : Ext w w0 := Ext.trans (by exact ((Ext.refl w).alloc _).alloc _) hx0
  go_wp2_with fail
  refine (eqData_c _ _ x.data _ (sData.ext (by exact E0) p4) (sData.ext (by exact E0) q4)).mono ?_
  rintro e w1 ⟨rfl, hx1⟩
  have f0 : w1.cell? ⟨w.heap.size, 0, none⟩ = some (.int .i64 x.dest) := hx1.cell f0
  have g0 : w1.cell? ⟨w.heap.size + 1, 0, none⟩ = some (.int .i64 x.dest) := hx1.cell g0
  have f1 : w1.cell? ⟨w.heap.size, 1, none⟩ = some (.int .i64 x.face) := hx1.cell f1
  have g1 : w1.cell? ⟨w.heap.size + 1, 1, none⟩ = some (.int .i64 x.face) := hx1.cell g1
  have f2 : w1.cell? ⟨w.heap.size, 2, none⟩ = some (.bool x.isInterest) := hx1.cell f2
  have g2 : w1.cell? ⟨w.heap.size + 1, 2, none⟩ = some (.bool x.isInterest) := hx1.cell g2
  have f3 : w1.cell? ⟨w.heap.size, 3, none⟩ = some (c3) := hx1.cell f3
  have g3 : w1.cell? ⟨w.heap.size + 1, 3, none⟩ = some (d3) := hx1.cell g3
  have f4 : w1.cell? ⟨w.heap.size, 4, none⟩ = some (.int .i64 x.interest.nonce) := hx1.cell f4
  have g4 : w1.cell? ⟨w.heap.size + 1, 4, none⟩ = some (.int .i64 x.interest.nonce) := hx1.cell g4
  have f5 : w1.cell? ⟨w.heap.size, 5, none⟩ = some (.int .i64 x.interest.hopLimit) := hx1.cell f5
  have g5 : w1.cell? ⟨w.heap.size + 1, 5, none⟩ = some (.int .i64 x.interest.hopLimit) := hx1.cell g5
  have f6 : w1.cell? ⟨w.heap.size, 6, none⟩ = some (.int .i64 x.interest.lifetime) := hx1.cell f6
  have g6 : w1.cell? ⟨w.heap.size + 1, 6, none⟩ = some (.int .i64 x.interest.lifetime) := hx1.cell g6
  have f7 : w1.cell? ⟨w.heap.size, 7, none⟩ = some (c7) := hx1.cell f7
  have g7 : w1.cell? ⟨w.heap.size + 1, 7, none⟩ = some (d7) := hx1.cell g7
  have f8 : w1.cell? ⟨w.heap.size, 8, none⟩ = some (c8) := hx1.cell f8
  have g8 : w1.cell? ⟨w.heap.size + 1, 8, none⟩ = some (d8) := hx1.cell g8
  have f9 : w1.cell? ⟨w.heap.size, 9, none⟩ = some (c9) := hx1.cell f9
  have g9 : w1.cell? ⟨w.heap.size + 1, 9, none⟩ = some (d9) := hx1.cell g9
  have f10 : w1.cell? ⟨w.heap.size, 10, none⟩ = some (.int .i64 x.data.freshUntil) := hx1.cell f10
  have g10 : w1.cell? ⟨w.heap.size + 1, 10, none⟩ = some (.int .i64 x.data.freshUntil) := hx1.cell g10
  have f11 : w1.cell? ⟨w.heap.size, 11, none⟩ = some (.int .i64 x.data.signature) := hx1.cell f11
  have g11 : w1.cell? ⟨w.heap.size + 1, 11, none⟩ = some (.int .i64 x.data.signature) := hx1.cell g11
  have E1 : Ext w w1 := Ext.trans (by exact E0) hx1
  go_wp2
  go_ret
  exact ⟨rfl, E1⟩

set_option maxHeartbeats 400000 in
theorem eqPacketInFlightS_c (va vb : Value) (l : (List DPacketInFlight)) (w : World) (ha : sPacketInFlightL.rd w [va] l) (hb : sPacketInFlightL.rd w [vb] l) :
    Calls Tryz.prog 50 #[va, vb] w fun e w' => e = .returned (.bool true) ∧ Ext w w' := by
  obtain ⟨A, c, rfl, hl, hm⟩ := Shape.sl_form ha
  obtain ⟨B, d, rfl, hl', hm'⟩ := Shape.sl_form hb
  unfold maxLen at hm hm'
  have Ha := Lib.hid ha
  have Hb := Lib.hid hb
  clear ha hb
  have hn' : ((l.length : Int) != l.length) = false := by simp
  go_enter Tryz.func50, Tryz.ntmps50
  go_wp2
  go_loopw [5] (fun i wr => ∃ k : Nat, k ≤ l.length ∧ i = .int .i64 k ∧ Ext w wr) (fun i _ => l.length - (intOf i).toNat)
  case atStart => exact ⟨0, Nat.zero_le _, rfl, Ext.refl _⟩
  case round =>
    obtain ⟨k, hk, rfl, hx⟩ := hrel
    by_cases hlt : k < l.length
    · obtain ⟨b1, o1, es1, rfl, hc1, hr1⟩ := Shape.sl_at (sPacketInFlightL.ext hx Ha.out) hlt
      obtain ⟨b2, o2, es2, rfl, hc2, hr2⟩ := Shape.sl_at (sPacketInFlightL.ext hx Hb.out) hlt
      have hr1' := hr1
      have hr2' := hr2
      obtain ⟨c3, c7, c8, c9, rfl, p0, p1, p3, p4⟩ := sPacketInFlight_rd hr1
      obtain ⟨d3, d7, d8, d9, rfl, q0, q1, q3, q4⟩ := sPacketInFlight_rd hr2
      have f0 := Ext.cellOf (hc1 0 _ rfl)
      have f1 := Ext.cellOf (hc1 1 _ rfl)
      have f2 := Ext.cellOf (hc1 2 _ rfl)
      have f3 := Ext.cellOf (hc1 3 _ rfl)
      have f4 := Ext.cellOf (hc1 4 _ rfl)
      have f5 := Ext.cellOf (hc1 5 _ rfl)
      have f6 := Ext.cellOf (hc1 6 _ rfl)
      have f7 := Ext.cellOf (hc1 7 _ rfl)
      have f8 := Ext.cellOf (hc1 8 _ rfl)
      have f9 := Ext.cellOf (hc1 9 _ rfl)
      have f10 := Ext.cellOf (hc1 10 _ rfl)
      have f11 := Ext.cellOf (hc1 11 _ rfl)
      have g0 := Ext.cellOf (hc2 0 _ rfl)
      have g1 := Ext.cellOf (hc2 1 _ rfl)
      have g2 := Ext.cellOf (hc2 2 _ rfl)
      have g3 := Ext.cellOf (hc2 3 _ rfl)
      have g4 := Ext.cellOf (hc2 4 _ rfl)
      have g5 := Ext.cellOf (hc2 5 _ rfl)
      have g6 := Ext.cellOf (hc2 6 _ rfl)
      have g7 := Ext.cellOf (hc2 7 _ rfl)
      have g8 := Ext.cellOf (hc2 8 _ rfl)
      have g9 := Ext.cellOf (hc2 9 _ rfl)
      have g10 := Ext.cellOf (hc2 10 _ rfl)
      have g11 := Ext.cellOf (hc2 11 _ rfl)
      simp only [Nat.add_zero, show sPacketInFlight.k = 12 from rfl, Nat.mul_one] at f0 g0 f1 g1 f2 g2 f3 g3 f4 g4 f5 g5 f6 g6 f7 g7 f8 g8 f9 g9 f10 g10 f11 g11
      clear hc1 hc2
      go_wp2
      refine wp_region_ext (by kernel_rfl) (by kernel_rfl) ?_
      repeat (go_big_quiet_step (((go_at_call 96; refine Calls.ext_of (eqPacketInFlight_c _ _ l[k] _ ?_ ?_); (exact sPacketInFlight.ext (ExtOf.ok _) hr1'); (exact sPacketInFlight.ext (ExtOf.ok _) hr2')))))
      refine wpQuiet_nil ?_
      rintro _ ⟨⟨w1, hx1⟩, rfl⟩
      clear f0 g0 f1 g1 f2 g2 f3 g3 f4 g4 f5 g5 f6 g6 f7 g7 f8 g8 f9 g9 f10 g10 f11 g11
      go_wp2
      go_roundw
      case rel => exact ⟨k + 1, by omega, by go_num, hx.trans hx1⟩
      case measure => simp [intOf]; omega
    · have : k = l.length := by omega
      subst this
      go_wp2
      go_ret
      exact ⟨rfl, hx⟩

set_option maxHeartbeats 400000 in
theorem eqConsumer_c (ca cb : List Value) (x : DConsumer) (w : World) (ha : sConsumer.rd w ca x) (hb : sConsumer.rd w cb x) :
    Calls Tryz.prog 97 #[.agg ca.toArray, .agg cb.toArray] w fun e w' => e = .returned (.bool true) ∧ Ext w w' := by
  obtain ⟨c2, c6, c7, c8, rfl, p0, p1, p2, p3, p4, p6⟩ := sConsumer_rd ha
  obtain ⟨d2, d6, d7, d8, rfl, q0, q1, q2, q3, q4, q6⟩ := sConsumer_rd hb
  have hs0 : (x.node != x.node) = false := by simp
  have hs1 : (x.index != x.index) = false := by simp
  have hs3 : (x.attempts != x.attempts) = false := by simp
  have hs4 : (x.wait != x.wait) = false := by simp
  have hs5 : (x.satisfied != x.satisfied) = false := by simp
  have hs9 : (x.data.freshUntil != x.data.freshUntil) = false := by simp
  have hs10 : (x.data.signature != x.data.signature) = false := by simp
  go_enter Tryz.func97, Tryz.ntmps97
  go_wp2_with fail
  refine (eqName_c _ _ x.name _ (strs.ext (by exact ((Ext.refl w).alloc _).alloc _) p2) (strs.ext (by exact ((Ext.refl w).alloc _).alloc _) q2)).mono ?_
  rintro e w0 ⟨rfl, hx0⟩
  have f0 : w0.cell? ⟨w.heap.size, 0, none⟩ = some (.int .i64 x.node) := hx0.cell (by simp)
  have g0 : w0.cell? ⟨w.heap.size + 1, 0, none⟩ = some (.int .i64 x.node) := hx0.cell (by simp)
  have f1 : w0.cell? ⟨w.heap.size, 1, none⟩ = some (.int .i64 x.index) := hx0.cell (by simp)
  have g1 : w0.cell? ⟨w.heap.size + 1, 1, none⟩ = some (.int .i64 x.index) := hx0.cell (by simp)
  have f2 : w0.cell? ⟨w.heap.size, 2, none⟩ = some (c2) := hx0.cell (by simp)
  have g2 : w0.cell? ⟨w.heap.size + 1, 2, none⟩ = some (d2) := hx0.cell (by simp)
  have f3 : w0.cell? ⟨w.heap.size, 3, none⟩ = some (.int .i64 x.attempts) := hx0.cell (by simp)
  have g3 : w0.cell? ⟨w.heap.size + 1, 3, none⟩ = some (.int .i64 x.attempts) := hx0.cell (by simp)
  have f4 : w0.cell? ⟨w.heap.size, 4, none⟩ = some (.int .i64 x.wait) := hx0.cell (by simp)
  have g4 : w0.cell? ⟨w.heap.size + 1, 4, none⟩ = some (.int .i64 x.wait) := hx0.cell (by simp)
  have f5 : w0.cell? ⟨w.heap.size, 5, none⟩ = some (.bool x.satisfied) := hx0.cell (by simp)
  have g5 : w0.cell? ⟨w.heap.size + 1, 5, none⟩ = some (.bool x.satisfied) := hx0.cell (by simp)
  have f6 : w0.cell? ⟨w.heap.size, 6, none⟩ = some (c6) := hx0.cell (by simp)
  have g6 : w0.cell? ⟨w.heap.size + 1, 6, none⟩ = some (d6) := hx0.cell (by simp)
  have f7 : w0.cell? ⟨w.heap.size, 7, none⟩ = some (c7) := hx0.cell (by simp)
  have g7 : w0.cell? ⟨w.heap.size + 1, 7, none⟩ = some (d7) := hx0.cell (by simp)
  have f8 : w0.cell? ⟨w.heap.size, 8, none⟩ = some (c8) := hx0.cell (by simp)
  have g8 : w0.cell? ⟨w.heap.size + 1, 8, none⟩ = some (d8) := hx0.cell (by simp)
  have f9 : w0.cell? ⟨w.heap.size, 9, none⟩ = some (.int .i64 x.data.freshUntil) := hx0.cell (by simp)
  have g9 : w0.cell? ⟨w.heap.size + 1, 9, none⟩ = some (.int .i64 x.data.freshUntil) := hx0.cell (by simp)
  have f10 : w0.cell? ⟨w.heap.size, 10, none⟩ = some (.int .i64 x.data.signature) := hx0.cell (by simp)
  have g10 : w0.cell? ⟨w.heap.size + 1, 10, none⟩ = some (.int .i64 x.data.signature) := hx0.cell (by simp)
  have E0 : Ext w w0 := Ext.trans (by exact ((Ext.refl w).alloc _).alloc _) hx0
  go_wp2_with fail
  refine (eqData_c _ _ x.data _ (sData.ext (by exact E0) p6) (sData.ext (by exact E0) q6)).mono ?_
  rintro e w1 ⟨rfl, hx1⟩
  have f0 : w1.cell? ⟨w.heap.size, 0, none⟩ = some (.int .i64 x.node) := hx1.cell f0
  have g0 : w1.cell? ⟨w.heap.size + 1, 0, none⟩ = some (.int .i64 x.node) := hx1.cell g0
  have f1 : w1.cell? ⟨w.heap.size, 1, none⟩ = some (.int .i64 x.index) := hx1.cell f1
  have g1 : w1.cell? ⟨w.heap.size + 1, 1, none⟩ = some (.int .i64 x.index) := hx1.cell g1
  have f2 : w1.cell? ⟨w.heap.size, 2, none⟩ = some (c2) := hx1.cell f2
  have g2 : w1.cell? ⟨w.heap.size + 1, 2, none⟩ = some (d2) := hx1.cell g2
  have f3 : w1.cell? ⟨w.heap.size, 3, none⟩ = some (.int .i64 x.attempts) := hx1.cell f3
  have g3 : w1.cell? ⟨w.heap.size + 1, 3, none⟩ = some (.int .i64 x.attempts) := hx1.cell g3
  have f4 : w1.cell? ⟨w.heap.size, 4, none⟩ = some (.int .i64 x.wait) := hx1.cell f4
  have g4 : w1.cell? ⟨w.heap.size + 1, 4, none⟩ = some (.int .i64 x.wait) := hx1.cell g4
  have f5 : w1.cell? ⟨w.heap.size, 5, none⟩ = some (.bool x.satisfied) := hx1.cell f5
  have g5 : w1.cell? ⟨w.heap.size + 1, 5, none⟩ = some (.bool x.satisfied) := hx1.cell g5
  have f6 : w1.cell? ⟨w.heap.size, 6, none⟩ = some (c6) := hx1.cell f6
  have g6 : w1.cell? ⟨w.heap.size + 1, 6, none⟩ = some (d6) := hx1.cell g6
  have f7 : w1.cell? ⟨w.heap.size, 7, none⟩ = some (c7) := hx1.cell f7
  have g7 : w1.cell? ⟨w.heap.size + 1, 7, none⟩ = some (d7) := hx1.cell g7
  have f8 : w1.cell? ⟨w.heap.size, 8, none⟩ = some (c8) := hx1.cell f8
  have g8 : w1.cell? ⟨w.heap.size + 1, 8, none⟩ = some (d8) := hx1.cell g8
  have f9 : w1.cell? ⟨w.heap.size, 9, none⟩ = some (.int .i64 x.data.freshUntil) := hx1.cell f9
  have g9 : w1.cell? ⟨w.heap.size + 1, 9, none⟩ = some (.int .i64 x.data.freshUntil) := hx1.cell g9
  have f10 : w1.cell? ⟨w.heap.size, 10, none⟩ = some (.int .i64 x.data.signature) := hx1.cell f10
  have g10 : w1.cell? ⟨w.heap.size + 1, 10, none⟩ = some (.int .i64 x.data.signature) := hx1.cell g10
  have E1 : Ext w w1 := Ext.trans (by exact E0) hx1
  go_wp2
  go_ret
  exact ⟨rfl, E1⟩

set_option maxHeartbeats 400000 in
theorem eqConsumerS_c (va vb : Value) (l : (List DConsumer)) (w : World) (ha : sConsumerL.rd w [va] l) (hb : sConsumerL.rd w [vb] l) :
    Calls Tryz.prog 51 #[va, vb] w fun e w' => e = .returned (.bool true) ∧ Ext w w' := by
  obtain ⟨A, c, rfl, hl, hm⟩ := Shape.sl_form ha
  obtain ⟨B, d, rfl, hl', hm'⟩ := Shape.sl_form hb
  unfold maxLen at hm hm'
  have Ha := Lib.hid ha
  have Hb := Lib.hid hb
  clear ha hb
  have hn' : ((l.length : Int) != l.length) = false := by simp
  go_enter Tryz.func51, Tryz.ntmps51
  go_wp2
  go_loopw [5] (fun i wr => ∃ k : Nat, k ≤ l.length ∧ i = .int .i64 k ∧ Ext w wr) (fun i _ => l.length - (intOf i).toNat)
  case atStart => exact ⟨0, Nat.zero_le _, rfl, Ext.refl _⟩
  case round =>
    obtain ⟨k, hk, rfl, hx⟩ := hrel
    by_cases hlt : k < l.length
    · obtain ⟨b1, o1, es1, rfl, hc1, hr1⟩ := Shape.sl_at (sConsumerL.ext hx Ha.out) hlt
      obtain ⟨b2, o2, es2, rfl, hc2, hr2⟩ := Shape.sl_at (sConsumerL.ext hx Hb.out) hlt
      have hr1' := hr1
      have hr2' := hr2
      obtain ⟨c2, c6, c7, c8, rfl, p0, p1, p2, p3, p4, p6⟩ := sConsumer_rd hr1
      obtain ⟨d2, d6, d7, d8, rfl, q0, q1, q2, q3, q4, q6⟩ := sConsumer_rd hr2
      have f0 := Ext.cellOf (hc1 0 _ rfl)
      have f1 := Ext.cellOf (hc1 1 _ rfl)
      have f2 := Ext.cellOf (hc1 2 _ rfl)
      have f3 := Ext.cellOf (hc1 3 _ rfl)
      have f4 := Ext.cellOf (hc1 4 _ rfl)
      have f5 := Ext.cellOf (hc1 5 _ rfl)
      have f6 := Ext.cellOf (hc1 6 _ rfl)
      have f7 := Ext.cellOf (hc1 7 _ rfl)
      have f8 := Ext.cellOf (hc1 8 _ rfl)
      have f9 := Ext.cellOf (hc1 9 _ rfl)
      have f10 := Ext.cellOf (hc1 10 _ rfl)
      have g0 := Ext.cellOf (hc2 0 _ rfl)
      have g1 := Ext.cellOf (hc2 1 _ rfl)
      have g2 := Ext.cellOf (hc2 2 _ rfl)
      have g3 := Ext.cellOf (hc2 3 _ rfl)
      have g4 := Ext.cellOf (hc2 4 _ rfl)
      have g5 := Ext.cellOf (hc2 5 _ rfl)
      have g6 := Ext.cellOf (hc2 6 _ rfl)
      have g7 := Ext.cellOf (hc2 7 _ rfl)
      have g8 := Ext.cellOf (hc2 8 _ rfl)
      have g9 := Ext.cellOf (hc2 9 _ rfl)
      have g10 := Ext.cellOf (hc2 10 _ rfl)
      simp only [Nat.add_zero, show sConsumer.k = 11 from rfl, Nat.mul_one] at f0 g0 f1 g1 f2 g2 f3 g3 f4 g4 f5 g5 f6 g6 f7 g7 f8 g8 f9 g9 f10 g10
      clear hc1 hc2
      go_wp2
      refine wp_region_ext (by kernel_rfl) (by kernel_rfl) ?_
      repeat (go_big_quiet_step (((go_at_call 97; refine Calls.ext_of (eqConsumer_c _ _ l[k] _ ?_ ?_); (exact sConsumer.ext (ExtOf.ok _) hr1'); (exact sConsumer.ext (ExtOf.ok _) hr2')))))
      refine wpQuiet_nil ?_
      rintro _ ⟨⟨w1, hx1⟩, rfl⟩
      clear f0 g0 f1 g1 f2 g2 f3 g3 f4 g4 f5 g5 f6 g6 f7 g7 f8 g8 f9 g9 f10 g10
      go_wp2
      go_roundw
      case rel => exact ⟨k + 1, by omega, by go_num, hx.trans hx1⟩
      case measure => simp [intOf]; omega
    · have : k = l.length := by omega
      subst this
      go_wp2
      go_ret
      exact ⟨rfl, hx⟩

set_option maxHeartbeats 400000 in
theorem eqNetwork_c (ca cb : List Value) (x : DNetwork) (w : World) (ha : sNetwork.rd w ca x) (hb : sNetwork.rd w cb x) :
    Calls Tryz.prog 13 #[.agg ca.toArray, .agg cb.toArray] w fun e w' => e = .returned (.bool true) ∧ Ext w w' := by
  obtain ⟨c1, c2, c3, c4, c5, c6, c7, c9, c10, c11, rfl, p0, p1, p2, p3, p4, p5, p6, p7, p8, p9⟩ := sNetwork_rd ha
  obtain ⟨d1, d2, d3, d4, d5, d6, d7, d9, d10, d11, rfl, q0, q1, q2, q3, q4, q5, q6, q7, q8, q9⟩ := sNetwork_rd hb
  have hs0 : (x.topology.size != x.topology.size) = false := by simp
  have hs8 : (x.downNodes != x.downNodes) = false := by simp
  have hs12 : (x.now != x.now) = false := by simp
  have hs13 : (x.dropped != x.dropped) = false := by simp
  go_enter Tryz.func13, Tryz.ntmps13
  go_wp2_with fail
  refine (eqTopology_c _ _ x.topology _ (sTopology.ext (by exact ((Ext.refl w).alloc _).alloc _) p0) (sTopology.ext (by exact ((Ext.refl w).alloc _).alloc _) q0)).mono ?_
  rintro e w0 ⟨rfl, hx0⟩
  have f0 : w0.cell? ⟨w.heap.size, 0, none⟩ = some (.int .i64 x.topology.size) := hx0.cell (by simp)
  have g0 : w0.cell? ⟨w.heap.size + 1, 0, none⟩ = some (.int .i64 x.topology.size) := hx0.cell (by simp)
  have f1 : w0.cell? ⟨w.heap.size, 1, none⟩ = some (c1) := hx0.cell (by simp)
  have g1 : w0.cell? ⟨w.heap.size + 1, 1, none⟩ = some (d1) := hx0.cell (by simp)
  have f2 : w0.cell? ⟨w.heap.size, 2, none⟩ = some (c2) := hx0.cell (by simp)
  have g2 : w0.cell? ⟨w.heap.size + 1, 2, none⟩ = some (d2) := hx0.cell (by simp)
  have f3 : w0.cell? ⟨w.heap.size, 3, none⟩ = some (c3) := hx0.cell (by simp)
  have g3 : w0.cell? ⟨w.heap.size + 1, 3, none⟩ = some (d3) := hx0.cell (by simp)
  have f4 : w0.cell? ⟨w.heap.size, 4, none⟩ = some (c4) := hx0.cell (by simp)
  have g4 : w0.cell? ⟨w.heap.size + 1, 4, none⟩ = some (d4) := hx0.cell (by simp)
  have f5 : w0.cell? ⟨w.heap.size, 5, none⟩ = some (c5) := hx0.cell (by simp)
  have g5 : w0.cell? ⟨w.heap.size + 1, 5, none⟩ = some (d5) := hx0.cell (by simp)
  have f6 : w0.cell? ⟨w.heap.size, 6, none⟩ = some (c6) := hx0.cell (by simp)
  have g6 : w0.cell? ⟨w.heap.size + 1, 6, none⟩ = some (d6) := hx0.cell (by simp)
  have f7 : w0.cell? ⟨w.heap.size, 7, none⟩ = some (c7) := hx0.cell (by simp)
  have g7 : w0.cell? ⟨w.heap.size + 1, 7, none⟩ = some (d7) := hx0.cell (by simp)
  have f8 : w0.cell? ⟨w.heap.size, 8, none⟩ = some (.int .i64 x.downNodes) := hx0.cell (by simp)
  have g8 : w0.cell? ⟨w.heap.size + 1, 8, none⟩ = some (.int .i64 x.downNodes) := hx0.cell (by simp)
  have f9 : w0.cell? ⟨w.heap.size, 9, none⟩ = some (c9) := hx0.cell (by simp)
  have g9 : w0.cell? ⟨w.heap.size + 1, 9, none⟩ = some (d9) := hx0.cell (by simp)
  have f10 : w0.cell? ⟨w.heap.size, 10, none⟩ = some (c10) := hx0.cell (by simp)
  have g10 : w0.cell? ⟨w.heap.size + 1, 10, none⟩ = some (d10) := hx0.cell (by simp)
  have f11 : w0.cell? ⟨w.heap.size, 11, none⟩ = some (c11) := hx0.cell (by simp)
  have g11 : w0.cell? ⟨w.heap.size + 1, 11, none⟩ = some (d11) := hx0.cell (by simp)
  have f12 : w0.cell? ⟨w.heap.size, 12, none⟩ = some (.int .i64 x.now) := hx0.cell (by simp)
  have g12 : w0.cell? ⟨w.heap.size + 1, 12, none⟩ = some (.int .i64 x.now) := hx0.cell (by simp)
  have f13 : w0.cell? ⟨w.heap.size, 13, none⟩ = some (.int .i64 x.dropped) := hx0.cell (by simp)
  have g13 : w0.cell? ⟨w.heap.size + 1, 13, none⟩ = some (.int .i64 x.dropped) := hx0.cell (by simp)
  have E0 : Ext w w0 := Ext.trans (by exact ((Ext.refl w).alloc _).alloc _) hx0
  go_wp2_with fail
  refine (eqTrustPolicy_c _ _ x.trust _ (sTrustPolicy.ext (by exact E0) p1) (sTrustPolicy.ext (by exact E0) q1)).mono ?_
  rintro e w1 ⟨rfl, hx1⟩
  have f0 : w1.cell? ⟨w.heap.size, 0, none⟩ = some (.int .i64 x.topology.size) := hx1.cell f0
  have g0 : w1.cell? ⟨w.heap.size + 1, 0, none⟩ = some (.int .i64 x.topology.size) := hx1.cell g0
  have f1 : w1.cell? ⟨w.heap.size, 1, none⟩ = some (c1) := hx1.cell f1
  have g1 : w1.cell? ⟨w.heap.size + 1, 1, none⟩ = some (d1) := hx1.cell g1
  have f2 : w1.cell? ⟨w.heap.size, 2, none⟩ = some (c2) := hx1.cell f2
  have g2 : w1.cell? ⟨w.heap.size + 1, 2, none⟩ = some (d2) := hx1.cell g2
  have f3 : w1.cell? ⟨w.heap.size, 3, none⟩ = some (c3) := hx1.cell f3
  have g3 : w1.cell? ⟨w.heap.size + 1, 3, none⟩ = some (d3) := hx1.cell g3
  have f4 : w1.cell? ⟨w.heap.size, 4, none⟩ = some (c4) := hx1.cell f4
  have g4 : w1.cell? ⟨w.heap.size + 1, 4, none⟩ = some (d4) := hx1.cell g4
  have f5 : w1.cell? ⟨w.heap.size, 5, none⟩ = some (c5) := hx1.cell f5
  have g5 : w1.cell? ⟨w.heap.size + 1, 5, none⟩ = some (d5) := hx1.cell g5
  have f6 : w1.cell? ⟨w.heap.size, 6, none⟩ = some (c6) := hx1.cell f6
  have g6 : w1.cell? ⟨w.heap.size + 1, 6, none⟩ = some (d6) := hx1.cell g6
  have f7 : w1.cell? ⟨w.heap.size, 7, none⟩ = some (c7) := hx1.cell f7
  have g7 : w1.cell? ⟨w.heap.size + 1, 7, none⟩ = some (d7) := hx1.cell g7
  have f8 : w1.cell? ⟨w.heap.size, 8, none⟩ = some (.int .i64 x.downNodes) := hx1.cell f8
  have g8 : w1.cell? ⟨w.heap.size + 1, 8, none⟩ = some (.int .i64 x.downNodes) := hx1.cell g8
  have f9 : w1.cell? ⟨w.heap.size, 9, none⟩ = some (c9) := hx1.cell f9
  have g9 : w1.cell? ⟨w.heap.size + 1, 9, none⟩ = some (d9) := hx1.cell g9
  have f10 : w1.cell? ⟨w.heap.size, 10, none⟩ = some (c10) := hx1.cell f10
  have g10 : w1.cell? ⟨w.heap.size + 1, 10, none⟩ = some (d10) := hx1.cell g10
  have f11 : w1.cell? ⟨w.heap.size, 11, none⟩ = some (c11) := hx1.cell f11
  have g11 : w1.cell? ⟨w.heap.size + 1, 11, none⟩ = some (d11) := hx1.cell g11
  have f12 : w1.cell? ⟨w.heap.size, 12, none⟩ = some (.int .i64 x.now) := hx1.cell f12
  have g12 : w1.cell? ⟨w.heap.size + 1, 12, none⟩ = some (.int .i64 x.now) := hx1.cell g12
  have f13 : w1.cell? ⟨w.heap.size, 13, none⟩ = some (.int .i64 x.dropped) := hx1.cell f13
  have g13 : w1.cell? ⟨w.heap.size + 1, 13, none⟩ = some (.int .i64 x.dropped) := hx1.cell g13
  have E1 : Ext w w1 := Ext.trans (by exact E0) hx1
  go_wp2_with fail
  refine (eqTableEntryS_c _ _ x.producers _ (sTableEntryL.ext (by exact E1) p2) (sTableEntryL.ext (by exact E1) q2)).mono ?_
  rintro e w2 ⟨rfl, hx2⟩
  have f0 : w2.cell? ⟨w.heap.size, 0, none⟩ = some (.int .i64 x.topology.size) := hx2.cell f0
  have g0 : w2.cell? ⟨w.heap.size + 1, 0, none⟩ = some (.int .i64 x.topology.size) := hx2.cell g0
  have f1 : w2.cell? ⟨w.heap.size, 1, none⟩ = some (c1) := hx2.cell f1
  have g1 : w2.cell? ⟨w.heap.size + 1, 1, none⟩ = some (d1) := hx2.cell g1
  have f2 : w2.cell? ⟨w.heap.size, 2, none⟩ = some (c2) := hx2.cell f2
  have g2 : w2.cell? ⟨w.heap.size + 1, 2, none⟩ = some (d2) := hx2.cell g2
  have f3 : w2.cell? ⟨w.heap.size, 3, none⟩ = some (c3) := hx2.cell f3
  have g3 : w2.cell? ⟨w.heap.size + 1, 3, none⟩ = some (d3) := hx2.cell g3
  have f4 : w2.cell? ⟨w.heap.size, 4, none⟩ = some (c4) := hx2.cell f4
  have g4 : w2.cell? ⟨w.heap.size + 1, 4, none⟩ = some (d4) := hx2.cell g4
  have f5 : w2.cell? ⟨w.heap.size, 5, none⟩ = some (c5) := hx2.cell f5
  have g5 : w2.cell? ⟨w.heap.size + 1, 5, none⟩ = some (d5) := hx2.cell g5
  have f6 : w2.cell? ⟨w.heap.size, 6, none⟩ = some (c6) := hx2.cell f6
  have g6 : w2.cell? ⟨w.heap.size + 1, 6, none⟩ = some (d6) := hx2.cell g6
  have f7 : w2.cell? ⟨w.heap.size, 7, none⟩ = some (c7) := hx2.cell f7
  have g7 : w2.cell? ⟨w.heap.size + 1, 7, none⟩ = some (d7) := hx2.cell g7
  have f8 : w2.cell? ⟨w.heap.size, 8, none⟩ = some (.int .i64 x.downNodes) := hx2.cell f8
  have g8 : w2.cell? ⟨w.heap.size + 1, 8, none⟩ = some (.int .i64 x.downNodes) := hx2.cell g8
  have f9 : w2.cell? ⟨w.heap.size, 9, none⟩ = some (c9) := hx2.cell f9
  have g9 : w2.cell? ⟨w.heap.size + 1, 9, none⟩ = some (d9) := hx2.cell g9
  have f10 : w2.cell? ⟨w.heap.size, 10, none⟩ = some (c10) := hx2.cell f10
  have g10 : w2.cell? ⟨w.heap.size + 1, 10, none⟩ = some (d10) := hx2.cell g10
  have f11 : w2.cell? ⟨w.heap.size, 11, none⟩ = some (c11) := hx2.cell f11
  have g11 : w2.cell? ⟨w.heap.size + 1, 11, none⟩ = some (d11) := hx2.cell g11
  have f12 : w2.cell? ⟨w.heap.size, 12, none⟩ = some (.int .i64 x.now) := hx2.cell f12
  have g12 : w2.cell? ⟨w.heap.size + 1, 12, none⟩ = some (.int .i64 x.now) := hx2.cell g12
  have f13 : w2.cell? ⟨w.heap.size, 13, none⟩ = some (.int .i64 x.dropped) := hx2.cell f13
  have g13 : w2.cell? ⟨w.heap.size + 1, 13, none⟩ = some (.int .i64 x.dropped) := hx2.cell g13
  have E2 : Ext w w2 := Ext.trans (by exact E1) hx2
  go_wp2_with fail
  refine (eqNodeS_c _ _ x.nodes _ (sNodeL.ext (by exact E2) p3) (sNodeL.ext (by exact E2) q3)).mono ?_
  rintro e w3 ⟨rfl, hx3⟩
  have f0 : w3.cell? ⟨w.heap.size, 0, none⟩ = some (.int .i64 x.topology.size) := hx3.cell f0
  have g0 : w3.cell? ⟨w.heap.size + 1, 0, none⟩ = some (.int .i64 x.topology.size) := hx3.cell g0
  have f1 : w3.cell? ⟨w.heap.size, 1, none⟩ = some (c1) := hx3.cell f1
  have g1 : w3.cell? ⟨w.heap.size + 1, 1, none⟩ = some (d1) := hx3.cell g1
  have f2 : w3.cell? ⟨w.heap.size, 2, none⟩ = some (c2) := hx3.cell f2
  have g2 : w3.cell? ⟨w.heap.size + 1, 2, none⟩ = some (d2) := hx3.cell g2
  have f3 : w3.cell? ⟨w.heap.size, 3, none⟩ = some (c3) := hx3.cell f3
  have g3 : w3.cell? ⟨w.heap.size + 1, 3, none⟩ = some (d3) := hx3.cell g3
  have f4 : w3.cell? ⟨w.heap.size, 4, none⟩ = some (c4) := hx3.cell f4
  have g4 : w3.cell? ⟨w.heap.size + 1, 4, none⟩ = some (d4) := hx3.cell g4
  have f5 : w3.cell? ⟨w.heap.size, 5, none⟩ = some (c5) := hx3.cell f5
  have g5 : w3.cell? ⟨w.heap.size + 1, 5, none⟩ = some (d5) := hx3.cell g5
  have f6 : w3.cell? ⟨w.heap.size, 6, none⟩ = some (c6) := hx3.cell f6
  have g6 : w3.cell? ⟨w.heap.size + 1, 6, none⟩ = some (d6) := hx3.cell g6
  have f7 : w3.cell? ⟨w.heap.size, 7, none⟩ = some (c7) := hx3.cell f7
  have g7 : w3.cell? ⟨w.heap.size + 1, 7, none⟩ = some (d7) := hx3.cell g7
  have f8 : w3.cell? ⟨w.heap.size, 8, none⟩ = some (.int .i64 x.downNodes) := hx3.cell f8
  have g8 : w3.cell? ⟨w.heap.size + 1, 8, none⟩ = some (.int .i64 x.downNodes) := hx3.cell g8
  have f9 : w3.cell? ⟨w.heap.size, 9, none⟩ = some (c9) := hx3.cell f9
  have g9 : w3.cell? ⟨w.heap.size + 1, 9, none⟩ = some (d9) := hx3.cell g9
  have f10 : w3.cell? ⟨w.heap.size, 10, none⟩ = some (c10) := hx3.cell f10
  have g10 : w3.cell? ⟨w.heap.size + 1, 10, none⟩ = some (d10) := hx3.cell g10
  have f11 : w3.cell? ⟨w.heap.size, 11, none⟩ = some (c11) := hx3.cell f11
  have g11 : w3.cell? ⟨w.heap.size + 1, 11, none⟩ = some (d11) := hx3.cell g11
  have f12 : w3.cell? ⟨w.heap.size, 12, none⟩ = some (.int .i64 x.now) := hx3.cell f12
  have g12 : w3.cell? ⟨w.heap.size + 1, 12, none⟩ = some (.int .i64 x.now) := hx3.cell g12
  have f13 : w3.cell? ⟨w.heap.size, 13, none⟩ = some (.int .i64 x.dropped) := hx3.cell f13
  have g13 : w3.cell? ⟨w.heap.size + 1, 13, none⟩ = some (.int .i64 x.dropped) := hx3.cell g13
  have E3 : Ext w w3 := Ext.trans (by exact E2) hx3
  go_wp2_with fail
  refine (eqIntS_c _ _ x.failedLinks _ (sInts.ext (by exact E3) p5) (sInts.ext (by exact E3) q5)).mono ?_
  rintro e w4 ⟨rfl, hx4⟩
  have f0 : w4.cell? ⟨w.heap.size, 0, none⟩ = some (.int .i64 x.topology.size) := hx4.cell f0
  have g0 : w4.cell? ⟨w.heap.size + 1, 0, none⟩ = some (.int .i64 x.topology.size) := hx4.cell g0
  have f1 : w4.cell? ⟨w.heap.size, 1, none⟩ = some (c1) := hx4.cell f1
  have g1 : w4.cell? ⟨w.heap.size + 1, 1, none⟩ = some (d1) := hx4.cell g1
  have f2 : w4.cell? ⟨w.heap.size, 2, none⟩ = some (c2) := hx4.cell f2
  have g2 : w4.cell? ⟨w.heap.size + 1, 2, none⟩ = some (d2) := hx4.cell g2
  have f3 : w4.cell? ⟨w.heap.size, 3, none⟩ = some (c3) := hx4.cell f3
  have g3 : w4.cell? ⟨w.heap.size + 1, 3, none⟩ = some (d3) := hx4.cell g3
  have f4 : w4.cell? ⟨w.heap.size, 4, none⟩ = some (c4) := hx4.cell f4
  have g4 : w4.cell? ⟨w.heap.size + 1, 4, none⟩ = some (d4) := hx4.cell g4
  have f5 : w4.cell? ⟨w.heap.size, 5, none⟩ = some (c5) := hx4.cell f5
  have g5 : w4.cell? ⟨w.heap.size + 1, 5, none⟩ = some (d5) := hx4.cell g5
  have f6 : w4.cell? ⟨w.heap.size, 6, none⟩ = some (c6) := hx4.cell f6
  have g6 : w4.cell? ⟨w.heap.size + 1, 6, none⟩ = some (d6) := hx4.cell g6
  have f7 : w4.cell? ⟨w.heap.size, 7, none⟩ = some (c7) := hx4.cell f7
  have g7 : w4.cell? ⟨w.heap.size + 1, 7, none⟩ = some (d7) := hx4.cell g7
  have f8 : w4.cell? ⟨w.heap.size, 8, none⟩ = some (.int .i64 x.downNodes) := hx4.cell f8
  have g8 : w4.cell? ⟨w.heap.size + 1, 8, none⟩ = some (.int .i64 x.downNodes) := hx4.cell g8
  have f9 : w4.cell? ⟨w.heap.size, 9, none⟩ = some (c9) := hx4.cell f9
  have g9 : w4.cell? ⟨w.heap.size + 1, 9, none⟩ = some (d9) := hx4.cell g9
  have f10 : w4.cell? ⟨w.heap.size, 10, none⟩ = some (c10) := hx4.cell f10
  have g10 : w4.cell? ⟨w.heap.size + 1, 10, none⟩ = some (d10) := hx4.cell g10
  have f11 : w4.cell? ⟨w.heap.size, 11, none⟩ = some (c11) := hx4.cell f11
  have g11 : w4.cell? ⟨w.heap.size + 1, 11, none⟩ = some (d11) := hx4.cell g11
  have f12 : w4.cell? ⟨w.heap.size, 12, none⟩ = some (.int .i64 x.now) := hx4.cell f12
  have g12 : w4.cell? ⟨w.heap.size + 1, 12, none⟩ = some (.int .i64 x.now) := hx4.cell g12
  have f13 : w4.cell? ⟨w.heap.size, 13, none⟩ = some (.int .i64 x.dropped) := hx4.cell f13
  have g13 : w4.cell? ⟨w.heap.size + 1, 13, none⟩ = some (.int .i64 x.dropped) := hx4.cell g13
  have E4 : Ext w w4 := Ext.trans (by exact E3) hx4
  go_wp2_with fail
  refine (eqPacketInFlightS_c _ _ x.inFlight _ (sPacketInFlightL.ext (by exact E4) p6) (sPacketInFlightL.ext (by exact E4) q6)).mono ?_
  rintro e w5 ⟨rfl, hx5⟩
  have f0 : w5.cell? ⟨w.heap.size, 0, none⟩ = some (.int .i64 x.topology.size) := hx5.cell f0
  have g0 : w5.cell? ⟨w.heap.size + 1, 0, none⟩ = some (.int .i64 x.topology.size) := hx5.cell g0
  have f1 : w5.cell? ⟨w.heap.size, 1, none⟩ = some (c1) := hx5.cell f1
  have g1 : w5.cell? ⟨w.heap.size + 1, 1, none⟩ = some (d1) := hx5.cell g1
  have f2 : w5.cell? ⟨w.heap.size, 2, none⟩ = some (c2) := hx5.cell f2
  have g2 : w5.cell? ⟨w.heap.size + 1, 2, none⟩ = some (d2) := hx5.cell g2
  have f3 : w5.cell? ⟨w.heap.size, 3, none⟩ = some (c3) := hx5.cell f3
  have g3 : w5.cell? ⟨w.heap.size + 1, 3, none⟩ = some (d3) := hx5.cell g3
  have f4 : w5.cell? ⟨w.heap.size, 4, none⟩ = some (c4) := hx5.cell f4
  have g4 : w5.cell? ⟨w.heap.size + 1, 4, none⟩ = some (d4) := hx5.cell g4
  have f5 : w5.cell? ⟨w.heap.size, 5, none⟩ = some (c5) := hx5.cell f5
  have g5 : w5.cell? ⟨w.heap.size + 1, 5, none⟩ = some (d5) := hx5.cell g5
  have f6 : w5.cell? ⟨w.heap.size, 6, none⟩ = some (c6) := hx5.cell f6
  have g6 : w5.cell? ⟨w.heap.size + 1, 6, none⟩ = some (d6) := hx5.cell g6
  have f7 : w5.cell? ⟨w.heap.size, 7, none⟩ = some (c7) := hx5.cell f7
  have g7 : w5.cell? ⟨w.heap.size + 1, 7, none⟩ = some (d7) := hx5.cell g7
  have f8 : w5.cell? ⟨w.heap.size, 8, none⟩ = some (.int .i64 x.downNodes) := hx5.cell f8
  have g8 : w5.cell? ⟨w.heap.size + 1, 8, none⟩ = some (.int .i64 x.downNodes) := hx5.cell g8
  have f9 : w5.cell? ⟨w.heap.size, 9, none⟩ = some (c9) := hx5.cell f9
  have g9 : w5.cell? ⟨w.heap.size + 1, 9, none⟩ = some (d9) := hx5.cell g9
  have f10 : w5.cell? ⟨w.heap.size, 10, none⟩ = some (c10) := hx5.cell f10
  have g10 : w5.cell? ⟨w.heap.size + 1, 10, none⟩ = some (d10) := hx5.cell g10
  have f11 : w5.cell? ⟨w.heap.size, 11, none⟩ = some (c11) := hx5.cell f11
  have g11 : w5.cell? ⟨w.heap.size + 1, 11, none⟩ = some (d11) := hx5.cell g11
  have f12 : w5.cell? ⟨w.heap.size, 12, none⟩ = some (.int .i64 x.now) := hx5.cell f12
  have g12 : w5.cell? ⟨w.heap.size + 1, 12, none⟩ = some (.int .i64 x.now) := hx5.cell g12
  have f13 : w5.cell? ⟨w.heap.size, 13, none⟩ = some (.int .i64 x.dropped) := hx5.cell f13
  have g13 : w5.cell? ⟨w.heap.size + 1, 13, none⟩ = some (.int .i64 x.dropped) := hx5.cell g13
  have E5 : Ext w w5 := Ext.trans (by exact E4) hx5
  go_wp2_with fail
  refine (eqConsumerS_c _ _ x.consumers _ (sConsumerL.ext (by exact E5) p7) (sConsumerL.ext (by exact E5) q7)).mono ?_
  rintro e w6 ⟨rfl, hx6⟩
  have f0 : w6.cell? ⟨w.heap.size, 0, none⟩ = some (.int .i64 x.topology.size) := hx6.cell f0
  have g0 : w6.cell? ⟨w.heap.size + 1, 0, none⟩ = some (.int .i64 x.topology.size) := hx6.cell g0
  have f1 : w6.cell? ⟨w.heap.size, 1, none⟩ = some (c1) := hx6.cell f1
  have g1 : w6.cell? ⟨w.heap.size + 1, 1, none⟩ = some (d1) := hx6.cell g1
  have f2 : w6.cell? ⟨w.heap.size, 2, none⟩ = some (c2) := hx6.cell f2
  have g2 : w6.cell? ⟨w.heap.size + 1, 2, none⟩ = some (d2) := hx6.cell g2
  have f3 : w6.cell? ⟨w.heap.size, 3, none⟩ = some (c3) := hx6.cell f3
  have g3 : w6.cell? ⟨w.heap.size + 1, 3, none⟩ = some (d3) := hx6.cell g3
  have f4 : w6.cell? ⟨w.heap.size, 4, none⟩ = some (c4) := hx6.cell f4
  have g4 : w6.cell? ⟨w.heap.size + 1, 4, none⟩ = some (d4) := hx6.cell g4
  have f5 : w6.cell? ⟨w.heap.size, 5, none⟩ = some (c5) := hx6.cell f5
  have g5 : w6.cell? ⟨w.heap.size + 1, 5, none⟩ = some (d5) := hx6.cell g5
  have f6 : w6.cell? ⟨w.heap.size, 6, none⟩ = some (c6) := hx6.cell f6
  have g6 : w6.cell? ⟨w.heap.size + 1, 6, none⟩ = some (d6) := hx6.cell g6
  have f7 : w6.cell? ⟨w.heap.size, 7, none⟩ = some (c7) := hx6.cell f7
  have g7 : w6.cell? ⟨w.heap.size + 1, 7, none⟩ = some (d7) := hx6.cell g7
  have f8 : w6.cell? ⟨w.heap.size, 8, none⟩ = some (.int .i64 x.downNodes) := hx6.cell f8
  have g8 : w6.cell? ⟨w.heap.size + 1, 8, none⟩ = some (.int .i64 x.downNodes) := hx6.cell g8
  have f9 : w6.cell? ⟨w.heap.size, 9, none⟩ = some (c9) := hx6.cell f9
  have g9 : w6.cell? ⟨w.heap.size + 1, 9, none⟩ = some (d9) := hx6.cell g9
  have f10 : w6.cell? ⟨w.heap.size, 10, none⟩ = some (c10) := hx6.cell f10
  have g10 : w6.cell? ⟨w.heap.size + 1, 10, none⟩ = some (d10) := hx6.cell g10
  have f11 : w6.cell? ⟨w.heap.size, 11, none⟩ = some (c11) := hx6.cell f11
  have g11 : w6.cell? ⟨w.heap.size + 1, 11, none⟩ = some (d11) := hx6.cell g11
  have f12 : w6.cell? ⟨w.heap.size, 12, none⟩ = some (.int .i64 x.now) := hx6.cell f12
  have g12 : w6.cell? ⟨w.heap.size + 1, 12, none⟩ = some (.int .i64 x.now) := hx6.cell g12
  have f13 : w6.cell? ⟨w.heap.size, 13, none⟩ = some (.int .i64 x.dropped) := hx6.cell f13
  have g13 : w6.cell? ⟨w.heap.size + 1, 13, none⟩ = some (.int .i64 x.dropped) := hx6.cell g13
  have E6 : Ext w w6 := Ext.trans (by exact E5) hx6
  go_wp2
  go_ret
  exact ⟨rfl, E6⟩

end Go.Proofs.YtjdhggkbdognnaaGreat
