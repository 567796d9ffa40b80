/- What the families laws.eq.. answer: true, where both read alike. Printed by gen.py. -/
import Derived.Test.YtofieohogenojaaProg
import Derived.Test.YtofieohogenojaaTypes
namespace Go.Proofs.Ytofieohogenojaa
open Go.RowKit
set_option linter.unusedVariables false
set_option linter.unusedSimpArgs false
set_option linter.unusedSectionVars false

set_option maxHeartbeats 400000 in
theorem eqLink_c (ca cb : List Value) (x : DLink) (w : World) (ha : sLink.rd w ca x) (hb : sLink.rd w cb x) :
    Calls Try.prog 118 #[.agg ca.toArray, .agg cb.toArray] w fun e w' => e = .returned (.bool true) ∧ Ext w w' := by
  obtain ⟨rfl, p0, p1⟩ := sLink_rd ha
  obtain ⟨rfl, q0, q1⟩ := sLink_rd hb
  have hs0 : (x.a != x.a) = false := by simp
  have hs1 : (x.b != x.b) = false := by simp
  go_enter Try.func118, Try.ntmps118
  go_wp2
  go_ret
  exact ⟨rfl, ((Ext.refl w).alloc _).alloc _⟩

set_option maxHeartbeats 400000 in
theorem eqLinkS_c (va vb : Value) (l : (List DLink)) (w : World) (ha : sLinkL.rd w [va] l) (hb : sLinkL.rd w [vb] l) :
    Calls Try.prog 93 #[va, vb] w fun e w' => e = .returned (.bool true) ∧ Ext w w' := by
  obtain ⟨A, c, rfl, hl, hm⟩ := Shape.sl_form ha
  obtain ⟨B, d, rfl, hl', hm'⟩ := Shape.sl_form hb
  unfold maxLen at hm hm'
  have Ha := Lib.hid ha
  have Hb := Lib.hid hb
  clear ha hb
  have hn' : ((l.length : Int) != l.length) = false := by simp
  go_enter Try.func93, Try.ntmps93
  go_wp2
  go_loopw [5] (fun i wr => ∃ k : Nat, k ≤ l.length ∧ i = .int .i64 k ∧ Ext w wr) (fun i _ => l.length - (intOf i).toNat)
  case atStart => exact ⟨0, Nat.zero_le _, rfl, Ext.refl _⟩
  case round =>
    obtain ⟨k, hk, rfl, hx⟩ := hrel
    by_cases hlt : k < l.length
    · obtain ⟨b1, o1, es1, rfl, hc1, hr1⟩ := Shape.sl_at (sLinkL.ext hx Ha.out) hlt
      obtain ⟨b2, o2, es2, rfl, hc2, hr2⟩ := Shape.sl_at (sLinkL.ext hx Hb.out) hlt
      have hr1' := hr1
      have hr2' := hr2
      obtain ⟨rfl, p0, p1⟩ := sLink_rd hr1
      obtain ⟨rfl, q0, q1⟩ := sLink_rd hr2
      have f0 := Ext.cellOf (hc1 0 _ rfl)
      have f1 := Ext.cellOf (hc1 1 _ rfl)
      have g0 := Ext.cellOf (hc2 0 _ rfl)
      have g1 := Ext.cellOf (hc2 1 _ rfl)
      simp only [Nat.add_zero, show sLink.k = 2 from rfl, Nat.mul_one] at f0 g0 f1 g1
      clear hc1 hc2
      go_wp2
      refine wp_region_ext (by kernel_rfl) (by kernel_rfl) ?_
      repeat (go_big_quiet_step (((go_at_call 118; refine Calls.ext_of (eqLink_c _ _ l[k] _ ?_ ?_); (exact sLink.ext (ExtOf.ok _) hr1'); (exact sLink.ext (ExtOf.ok _) hr2')))))
      refine wpQuiet_nil ?_
      rintro _ ⟨⟨w1, hx1⟩, rfl⟩
      clear f0 g0 f1 g1
      go_wp2
      go_roundw
      case rel => exact ⟨k + 1, by omega, by go_num, hx.trans hx1⟩
      case measure => simp [intOf]; omega
    · have : k = l.length := by omega
      subst this
      go_wp2
      go_ret
      exact ⟨rfl, hx⟩

set_option maxHeartbeats 400000 in
theorem eqTopology_c (ca cb : List Value) (x : DTopology) (w : World) (ha : sTopology.rd w ca x) (hb : sTopology.rd w cb x) :
    Calls Try.prog 56 #[.agg ca.toArray, .agg cb.toArray] w fun e w' => e = .returned (.bool true) ∧ Ext w w' := by
  obtain ⟨c1, rfl, p0, p1⟩ := sTopology_rd ha
  obtain ⟨d1, rfl, q0, q1⟩ := sTopology_rd hb
  have hs0 : (x.size != x.size) = false := by simp
  go_enter Try.func56, Try.ntmps56
  go_wp2_with fail
  refine (eqLinkS_c _ _ x.links _ (sLinkL.ext (by exact ((Ext.refl w).alloc _).alloc _) p1) (sLinkL.ext (by exact ((Ext.refl w).alloc _).alloc _) q1)).mono ?_
  rintro e w0 ⟨rfl, hx0⟩
  have f0 : w0.cell? ⟨w.heap.size, 0, none⟩ = some (.int .i64 x.size) := hx0.cell (by simp)
  have g0 : w0.cell? ⟨w.heap.size + 1, 0, none⟩ = some (.int .i64 x.size) := hx0.cell (by simp)
  have f1 : w0.cell? ⟨w.heap.size, 1, none⟩ = some (c1) := hx0.cell (by simp)
  have g1 : w0.cell? ⟨w.heap.size + 1, 1, none⟩ = some (d1) := hx0.cell (by simp)
  have E0 : Ext w w0 := Ext.trans (by exact ((Ext.refl w).alloc _).alloc _) hx0
  go_wp2
  go_ret
  exact ⟨rfl, E0⟩

set_option maxHeartbeats 400000 in
theorem eqStringS_c (va vb : Value) (l : (List ByteArray)) (w : World) (ha : strs.rd w [va] l) (hb : strs.rd w [vb] l) :
    Calls Try.prog 40 #[va, vb] w fun e w' => e = .returned (.bool true) ∧ Ext w w' := by
  obtain ⟨A, c, rfl, hl, hm⟩ := Shape.sl_form ha
  obtain ⟨B, d, rfl, hl', hm'⟩ := Shape.sl_form hb
  unfold maxLen at hm hm'
  have Ha := Lib.hid ha
  have Hb := Lib.hid hb
  clear ha hb
  have hn' : ((l.length : Int) != l.length) = false := by simp
  go_enter Try.func40, Try.ntmps40
  go_wp2
  go_loopw [5] (fun i wr => ∃ k : Nat, k ≤ l.length ∧ i = .int .i64 k ∧ Ext w wr) (fun i _ => l.length - (intOf i).toNat)
  case atStart => exact ⟨0, Nat.zero_le _, rfl, Ext.refl _⟩
  case round =>
    obtain ⟨k, hk, rfl, hx⟩ := hrel
    by_cases hlt : k < l.length
    · obtain ⟨b1, o1, rfl, hc1, _⟩ := Shape.str_at (strs.ext hx Ha.out) hlt
      obtain ⟨b2, o2, rfl, hc2, _⟩ := Shape.str_at (strs.ext hx Hb.out) hlt
      have hsame : (!l[k].toList == l[k].toList) = false := by simp
      go_wp2
      go_quiet (fail)
      go_wp2
      go_roundw
      case rel => exact ⟨k + 1, by omega, by go_num, hx.drewN _⟩
      case measure => simp [intOf]; omega
    · have : k = l.length := by omega
      subst this
      go_wp2
      go_ret
      exact ⟨rfl, hx⟩

set_option maxHeartbeats 400000 in
theorem eqName_c (ca cb : List Value) (x : (List ByteArray)) (w : World) (ha : strs.rd w ca x) (hb : strs.rd w cb x) :
    Calls Try.prog 12 #[.agg ca.toArray, .agg cb.toArray] w fun e w' => e = .returned (.bool true) ∧ Ext w w' := by
  have p0 := ha; obtain ⟨c0, rfl⟩ := one_cell (strs.len ha)
  have q0 := hb; obtain ⟨d0, rfl⟩ := one_cell (strs.len hb)
  go_enter Try.func12, Try.ntmps12
  go_wp2_with fail
  refine (eqStringS_c _ _ x _ (strs.ext (by exact ((Ext.refl w).alloc _).alloc _) p0) (strs.ext (by exact ((Ext.refl w).alloc _).alloc _) q0)).mono ?_
  rintro e w0 ⟨rfl, hx0⟩
  have f0 : w0.cell? ⟨w.heap.size, 0, none⟩ = some (c0) := hx0.cell (by simp)
  have g0 : w0.cell? ⟨w.heap.size + 1, 0, none⟩ = some (d0) := hx0.cell (by simp)
  have E0 : Ext w w0 := Ext.trans (by exact ((Ext.refl w).alloc _).alloc _) hx0
  go_wp2
  go_ret
  exact ⟨rfl, E0⟩

set_option maxHeartbeats 400000 in
theorem eqTableEntry_c (ca cb : List Value) (x : DTableEntry) (w : World) (ha : sTableEntry.rd w ca x) (hb : sTableEntry.rd w cb x) :
    Calls Try.prog 147 #[.agg ca.toArray, .agg cb.toArray] w fun e w' => e = .returned (.bool true) ∧ Ext w w' := by
  obtain ⟨c0, rfl, p0, p1⟩ := sTableEntry_rd ha
  obtain ⟨d0, rfl, q0, q1⟩ := sTableEntry_rd hb
  have hs1 : (x.value != x.value) = false := by simp
  go_enter Try.func147, Try.ntmps147
  go_wp2_with fail
  refine (eqName_c _ _ x.name _ (strs.ext (by exact ((Ext.refl w).alloc _).alloc _) p0) (strs.ext (by exact ((Ext.refl w).alloc _).alloc _) q0)).mono ?_
  rintro e w0 ⟨rfl, hx0⟩
  have f0 : w0.cell? ⟨w.heap.size, 0, none⟩ = some (c0) := hx0.cell (by simp)
  have g0 : w0.cell? ⟨w.heap.size + 1, 0, none⟩ = some (d0) := hx0.cell (by simp)
  have f1 : w0.cell? ⟨w.heap.size, 1, none⟩ = some (.int .i64 x.value) := hx0.cell (by simp)
  have g1 : w0.cell? ⟨w.heap.size + 1, 1, none⟩ = some (.int .i64 x.value) := hx0.cell (by simp)
  have E0 : Ext w w0 := Ext.trans (by exact ((Ext.refl w).alloc _).alloc _) hx0
  go_wp2
  go_ret
  exact ⟨rfl, E0⟩

set_option maxHeartbeats 400000 in
theorem eqTableEntryS_c (va vb : Value) (l : (List DTableEntry)) (w : World) (ha : sTableEntryL.rd w [va] l) (hb : sTableEntryL.rd w [vb] l) :
    Calls Try.prog 137 #[va, vb] w fun e w' => e = .returned (.bool true) ∧ Ext w w' := by
  obtain ⟨A, c, rfl, hl, hm⟩ := Shape.sl_form ha
  obtain ⟨B, d, rfl, hl', hm'⟩ := Shape.sl_form hb
  unfold maxLen at hm hm'
  have Ha := Lib.hid ha
  have Hb := Lib.hid hb
  clear ha hb
  have hn' : ((l.length : Int) != l.length) = false := by simp
  go_enter Try.func137, Try.ntmps137
  go_wp2
  go_loopw [5] (fun i wr => ∃ k : Nat, k ≤ l.length ∧ i = .int .i64 k ∧ Ext w wr) (fun i _ => l.length - (intOf i).toNat)
  case atStart => exact ⟨0, Nat.zero_le _, rfl, Ext.refl _⟩
  case round =>
    obtain ⟨k, hk, rfl, hx⟩ := hrel
    by_cases hlt : k < l.length
    · obtain ⟨b1, o1, es1, rfl, hc1, hr1⟩ := Shape.sl_at (sTableEntryL.ext hx Ha.out) hlt
      obtain ⟨b2, o2, es2, rfl, hc2, hr2⟩ := Shape.sl_at (sTableEntryL.ext hx Hb.out) hlt
      have hr1' := hr1
      have hr2' := hr2
      obtain ⟨c0, rfl, p0, p1⟩ := sTableEntry_rd hr1
      obtain ⟨d0, rfl, q0, q1⟩ := sTableEntry_rd hr2
      have f0 := Ext.cellOf (hc1 0 _ rfl)
      have f1 := Ext.cellOf (hc1 1 _ rfl)
      have g0 := Ext.cellOf (hc2 0 _ rfl)
      have g1 := Ext.cellOf (hc2 1 _ rfl)
      simp only [Nat.add_zero, show sTableEntry.k = 2 from rfl, Nat.mul_one] at f0 g0 f1 g1
      clear hc1 hc2
      go_wp2
      refine wp_region_ext (by kernel_rfl) (by kernel_rfl) ?_
      repeat (go_big_quiet_step (((go_at_call 147; refine Calls.ext_of (eqTableEntry_c _ _ l[k] _ ?_ ?_); (exact sTableEntry.ext (ExtOf.ok _) hr1'); (exact sTableEntry.ext (ExtOf.ok _) hr2')))))
      refine wpQuiet_nil ?_
      rintro _ ⟨⟨w1, hx1⟩, rfl⟩
      clear f0 g0 f1 g1
      go_wp2
      go_roundw
      case rel => exact ⟨k + 1, by omega, by go_num, hx.trans hx1⟩
      case measure => simp [intOf]; omega
    · have : k = l.length := by omega
      subst this
      go_wp2
      go_ret
      exact ⟨rfl, hx⟩

set_option maxHeartbeats 400000 in
theorem eqStateVector_c (ca cb : List Value) (x : (List DTableEntry)) (w : World) (ha : sTableEntryL.rd w ca x) (hb : sTableEntryL.rd w cb x) :
    Calls Try.prog 119 #[.agg ca.toArray, .agg cb.toArray] w fun e w' => e = .returned (.bool true) ∧ Ext w w' := by
  have p0 := ha; obtain ⟨c0, rfl⟩ := one_cell (sTableEntryL.len ha)
  have q0 := hb; obtain ⟨d0, rfl⟩ := one_cell (sTableEntryL.len hb)
  go_enter Try.func119, Try.ntmps119
  go_wp2_with fail
  refine (eqTableEntryS_c _ _ x _ (sTableEntryL.ext (by exact ((Ext.refl w).alloc _).alloc _) p0) (sTableEntryL.ext (by exact ((Ext.refl w).alloc _).alloc _) q0)).mono ?_
  rintro e w0 ⟨rfl, hx0⟩
  have f0 : w0.cell? ⟨w.heap.size, 0, none⟩ = some (c0) := hx0.cell (by simp)
  have g0 : w0.cell? ⟨w.heap.size + 1, 0, none⟩ = some (d0) := hx0.cell (by simp)
  have E0 : Ext w w0 := Ext.trans (by exact ((Ext.refl w).alloc _).alloc _) hx0
  go_wp2
  go_ret
  exact ⟨rfl, E0⟩

set_option maxHeartbeats 400000 in
theorem eqByteS_c (va vb : Value) (l : (List UInt8)) (w : World) (ha : sBytes.rd w [va] l) (hb : sBytes.rd w [vb] l) :
    Calls Try.prog 148 #[va, vb] w fun e w' => e = .returned (.bool true) ∧ Ext w w' := by
  obtain ⟨A, c, rfl, hl, hm⟩ := Shape.sl_form ha
  obtain ⟨B, d, rfl, hl', hm'⟩ := Shape.sl_form hb
  unfold maxLen at hm hm'
  have Ha := Lib.hid ha
  have Hb := Lib.hid hb
  clear ha hb
  have hn' : ((l.length : Int) != l.length) = false := by simp
  go_enter Try.func148, Try.ntmps148
  go_wp2
  go_loopw [5] (fun i wr => ∃ k : Nat, k ≤ l.length ∧ i = .int .i64 k ∧ Ext w wr) (fun i _ => l.length - (intOf i).toNat)
  case atStart => exact ⟨0, Nat.zero_le _, rfl, Ext.refl _⟩
  case round =>
    obtain ⟨k, hk, rfl, hx⟩ := hrel
    by_cases hlt : k < l.length
    · obtain ⟨b1, o1, rfl, hc1⟩ := Shape.byte_at (sBytes.ext hx Ha.out) hlt
      obtain ⟨b2, o2, rfl, hc2⟩ := Shape.byte_at (sBytes.ext hx Hb.out) hlt
      have hsame : ((l[k].toNat : Int) != (l[k].toNat : Int)) = false := by simp
      go_wp2
      go_quiet (fail)
      go_wp2
      go_roundw
      case rel => exact ⟨k + 1, by omega, by go_num, hx.drewN _⟩
      case measure => simp [intOf]; omega
    · have : k = l.length := by omega
      subst this
      go_wp2
      go_ret
      exact ⟨rfl, hx⟩

set_option maxHeartbeats 400000 in
theorem eqPublication_c (ca cb : List Value) (x : DPublication) (w : World) (ha : sPublication.rd w ca x) (hb : sPublication.rd w cb x) :
    Calls Try.prog 138 #[.agg ca.toArray, .agg cb.toArray] w fun e w' => e = .returned (.bool true) ∧ Ext w w' := by
  obtain ⟨c0, c2, rfl, p0, p1, p2⟩ := sPublication_rd ha
  obtain ⟨d0, d2, rfl, q0, q1, q2⟩ := sPublication_rd hb
  have hs1 : (x.seq != x.seq) = false := by simp
  go_enter Try.func138, Try.ntmps138
  go_wp2_with fail
  refine (eqName_c _ _ x.publisher _ (strs.ext (by exact ((Ext.refl w).alloc _).alloc _) p0) (strs.ext (by exact ((Ext.refl w).alloc _).alloc _) q0)).mono ?_
  rintro e w0 ⟨rfl, hx0⟩
  have f0 : w0.cell? ⟨w.heap.size, 0, none⟩ = some (c0) := hx0.cell (by simp)
  have g0 : w0.cell? ⟨w.heap.size + 1, 0, none⟩ = some (d0) := hx0.cell (by simp)
  have f1 : w0.cell? ⟨w.heap.size, 1, none⟩ = some (.int .i64 x.seq) := hx0.cell (by simp)
  have g1 : w0.cell? ⟨w.heap.size + 1, 1, none⟩ = some (.int .i64 x.seq) := hx0.cell (by simp)
  have f2 : w0.cell? ⟨w.heap.size, 2, none⟩ = some (c2) := hx0.cell (by simp)
  have g2 : w0.cell? ⟨w.heap.size + 1, 2, none⟩ = some (d2) := hx0.cell (by simp)
  have E0 : Ext w w0 := Ext.trans (by exact ((Ext.refl w).alloc _).alloc _) hx0
  go_wp2_with fail
  refine (eqByteS_c _ _ x.content _ (sBytes.ext (by exact E0) p2) (sBytes.ext (by exact E0) q2)).mono ?_
  rintro e w1 ⟨rfl, hx1⟩
  have f0 : w1.cell? ⟨w.heap.size, 0, none⟩ = some (c0) := hx1.cell f0
  have g0 : w1.cell? ⟨w.heap.size + 1, 0, none⟩ = some (d0) := hx1.cell g0
  have f1 : w1.cell? ⟨w.heap.size, 1, none⟩ = some (.int .i64 x.seq) := hx1.cell f1
  have g1 : w1.cell? ⟨w.heap.size + 1, 1, none⟩ = some (.int .i64 x.seq) := hx1.cell g1
  have f2 : w1.cell? ⟨w.heap.size, 2, none⟩ = some (c2) := hx1.cell f2
  have g2 : w1.cell? ⟨w.heap.size + 1, 2, none⟩ = some (d2) := hx1.cell g2
  have E1 : Ext w w1 := Ext.trans (by exact E0) hx1
  go_wp2
  go_ret
  exact ⟨rfl, E1⟩

set_option maxHeartbeats 400000 in
theorem eqPublicationS_c (va vb : Value) (l : (List DPublication)) (w : World) (ha : sPublicationL.rd w [va] l) (hb : sPublicationL.rd w [vb] l) :
    Calls Try.prog 120 #[va, vb] w fun e w' => e = .returned (.bool true) ∧ Ext w w' := by
  obtain ⟨A, c, rfl, hl, hm⟩ := Shape.sl_form ha
  obtain ⟨B, d, rfl, hl', hm'⟩ := Shape.sl_form hb
  unfold maxLen at hm hm'
  have Ha := Lib.hid ha
  have Hb := Lib.hid hb
  clear ha hb
  have hn' : ((l.length : Int) != l.length) = false := by simp
  go_enter Try.func120, Try.ntmps120
  go_wp2
  go_loopw [5] (fun i wr => ∃ k : Nat, k ≤ l.length ∧ i = .int .i64 k ∧ Ext w wr) (fun i _ => l.length - (intOf i).toNat)
  case atStart => exact ⟨0, Nat.zero_le _, rfl, Ext.refl _⟩
  case round =>
    obtain ⟨k, hk, rfl, hx⟩ := hrel
    by_cases hlt : k < l.length
    · obtain ⟨b1, o1, es1, rfl, hc1, hr1⟩ := Shape.sl_at (sPublicationL.ext hx Ha.out) hlt
      obtain ⟨b2, o2, es2, rfl, hc2, hr2⟩ := Shape.sl_at (sPublicationL.ext hx Hb.out) hlt
      have hr1' := hr1
      have hr2' := hr2
      obtain ⟨c0, c2, rfl, p0, p1, p2⟩ := sPublication_rd hr1
      obtain ⟨d0, d2, rfl, q0, q1, q2⟩ := sPublication_rd hr2
      have f0 := Ext.cellOf (hc1 0 _ rfl)
      have f1 := Ext.cellOf (hc1 1 _ rfl)
      have f2 := Ext.cellOf (hc1 2 _ rfl)
      have g0 := Ext.cellOf (hc2 0 _ rfl)
      have g1 := Ext.cellOf (hc2 1 _ rfl)
      have g2 := Ext.cellOf (hc2 2 _ rfl)
      simp only [Nat.add_zero, show sPublication.k = 3 from rfl, Nat.mul_one] at f0 g0 f1 g1 f2 g2
      clear hc1 hc2
      go_wp2
      refine wp_region_ext (by kernel_rfl) (by kernel_rfl) ?_
      repeat (go_big_quiet_step (((go_at_call 138; refine Calls.ext_of (eqPublication_c _ _ l[k] _ ?_ ?_); (exact sPublication.ext (ExtOf.ok _) hr1'); (exact sPublication.ext (ExtOf.ok _) hr2')))))
      refine wpQuiet_nil ?_
      rintro _ ⟨⟨w1, hx1⟩, rfl⟩
      clear f0 g0 f1 g1 f2 g2
      go_wp2
      go_roundw
      case rel => exact ⟨k + 1, by omega, by go_num, hx.trans hx1⟩
      case measure => simp [intOf]; omega
    · have : k = l.length := by omega
      subst this
      go_wp2
      go_ret
      exact ⟨rfl, hx⟩

set_option maxHeartbeats 400000 in
theorem eqMember_c (ca cb : List Value) (x : DMember) (w : World) (ha : sMember.rd w ca x) (hb : sMember.rd w cb x) :
    Calls Try.prog 94 #[.agg ca.toArray, .agg cb.toArray] w fun e w' => e = .returned (.bool true) ∧ Ext w w' := by
  obtain ⟨c0, c1, c2, rfl, p0, p1, p2⟩ := sMember_rd ha
  obtain ⟨d0, d1, d2, rfl, q0, q1, q2⟩ := sMember_rd hb
  go_enter Try.func94, Try.ntmps94
  go_wp2_with fail
  refine (eqName_c _ _ x.name _ (strs.ext (by exact ((Ext.refl w).alloc _).alloc _) p0) (strs.ext (by exact ((Ext.refl w).alloc _).alloc _) q0)).mono ?_
  rintro e w0 ⟨rfl, hx0⟩
  have f0 : w0.cell? ⟨w.heap.size, 0, none⟩ = some (c0) := hx0.cell (by simp)
  have g0 : w0.cell? ⟨w.heap.size + 1, 0, none⟩ = some (d0) := hx0.cell (by simp)
  have f1 : w0.cell? ⟨w.heap.size, 1, none⟩ = some (c1) := hx0.cell (by simp)
  have g1 : w0.cell? ⟨w.heap.size + 1, 1, none⟩ = some (d1) := hx0.cell (by simp)
  have f2 : w0.cell? ⟨w.heap.size, 2, none⟩ = some (c2) := hx0.cell (by simp)
  have g2 : w0.cell? ⟨w.heap.size + 1, 2, none⟩ = some (d2) := hx0.cell (by simp)
  have E0 : Ext w w0 := Ext.trans (by exact ((Ext.refl w).alloc _).alloc _) hx0
  go_wp2_with fail
  refine (eqStateVector_c _ _ x.vector _ (sTableEntryL.ext (by exact E0) p1) (sTableEntryL.ext (by exact E0) q1)).mono ?_
  rintro e w1 ⟨rfl, hx1⟩
  have f0 : w1.cell? ⟨w.heap.size, 0, none⟩ = some (c0) := hx1.cell f0
  have g0 : w1.cell? ⟨w.heap.size + 1, 0, none⟩ = some (d0) := hx1.cell g0
  have f1 : w1.cell? ⟨w.heap.size, 1, none⟩ = some (c1) := hx1.cell f1
  have g1 : w1.cell? ⟨w.heap.size + 1, 1, none⟩ = some (d1) := hx1.cell g1
  have f2 : w1.cell? ⟨w.heap.size, 2, none⟩ = some (c2) := hx1.cell f2
  have g2 : w1.cell? ⟨w.heap.size + 1, 2, none⟩ = some (d2) := hx1.cell g2
  have E1 : Ext w w1 := Ext.trans (by exact E0) hx1
  go_wp2_with fail
  refine (eqPublicationS_c _ _ x.publications _ (sPublicationL.ext (by exact E1) p2) (sPublicationL.ext (by exact E1) q2)).mono ?_
  rintro e w2 ⟨rfl, hx2⟩
  have f0 : w2.cell? ⟨w.heap.size, 0, none⟩ = some (c0) := hx2.cell f0
  have g0 : w2.cell? ⟨w.heap.size + 1, 0, none⟩ = some (d0) := hx2.cell g0
  have f1 : w2.cell? ⟨w.heap.size, 1, none⟩ = some (c1) := hx2.cell f1
  have g1 : w2.cell? ⟨w.heap.size + 1, 1, none⟩ = some (d1) := hx2.cell g1
  have f2 : w2.cell? ⟨w.heap.size, 2, none⟩ = some (c2) := hx2.cell f2
  have g2 : w2.cell? ⟨w.heap.size + 1, 2, none⟩ = some (d2) := hx2.cell g2
  have E2 : Ext w w2 := Ext.trans (by exact E1) hx2
  go_wp2
  go_ret
  exact ⟨rfl, E2⟩

set_option maxHeartbeats 400000 in
theorem eqMemberS_c (va vb : Value) (l : (List DMember)) (w : World) (ha : sMemberL.rd w [va] l) (hb : sMemberL.rd w [vb] l) :
    Calls Try.prog 57 #[va, vb] w fun e w' => e = .returned (.bool true) ∧ Ext w w' := by
  obtain ⟨A, c, rfl, hl, hm⟩ := Shape.sl_form ha
  obtain ⟨B, d, rfl, hl', hm'⟩ := Shape.sl_form hb
  unfold maxLen at hm hm'
  have Ha := Lib.hid ha
  have Hb := Lib.hid hb
  clear ha hb
  have hn' : ((l.length : Int) != l.length) = false := by simp
  go_enter Try.func57, Try.ntmps57
  go_wp2
  go_loopw [5] (fun i wr => ∃ k : Nat, k ≤ l.length ∧ i = .int .i64 k ∧ Ext w wr) (fun i _ => l.length - (intOf i).toNat)
  case atStart => exact ⟨0, Nat.zero_le _, rfl, Ext.refl _⟩
  case round =>
    obtain ⟨k, hk, rfl, hx⟩ := hrel
    by_cases hlt : k < l.length
    · obtain ⟨b1, o1, es1, rfl, hc1, hr1⟩ := Shape.sl_at (sMemberL.ext hx Ha.out) hlt
      obtain ⟨b2, o2, es2, rfl, hc2, hr2⟩ := Shape.sl_at (sMemberL.ext hx Hb.out) hlt
      have hr1' := hr1
      have hr2' := hr2
      obtain ⟨c0, c1, c2, rfl, p0, p1, p2⟩ := sMember_rd hr1
      obtain ⟨d0, d1, d2, rfl, q0, q1, q2⟩ := sMember_rd hr2
      have f0 := Ext.cellOf (hc1 0 _ rfl)
      have f1 := Ext.cellOf (hc1 1 _ rfl)
      have f2 := Ext.cellOf (hc1 2 _ rfl)
      have g0 := Ext.cellOf (hc2 0 _ rfl)
      have g1 := Ext.cellOf (hc2 1 _ rfl)
      have g2 := Ext.cellOf (hc2 2 _ rfl)
      simp only [Nat.add_zero, show sMember.k = 3 from rfl, Nat.mul_one] at f0 g0 f1 g1 f2 g2
      clear hc1 hc2
      go_wp2
      refine wp_region_ext (by kernel_rfl) (by kernel_rfl) ?_
      repeat (go_big_quiet_step (((go_at_call 94; refine Calls.ext_of (eqMember_c _ _ l[k] _ ?_ ?_); (exact sMember.ext (ExtOf.ok _) hr1'); (exact sMember.ext (ExtOf.ok _) hr2')))))
      refine wpQuiet_nil ?_
      rintro _ ⟨⟨w1, hx1⟩, rfl⟩
      clear f0 g0 f1 g1 f2 g2
      go_wp2
      go_roundw
      case rel => exact ⟨k + 1, by omega, by go_num, hx.trans hx1⟩
      case measure => simp [intOf]; omega
    · have : k = l.length := by omega
      subst this
      go_wp2
      go_ret
      exact ⟨rfl, hx⟩

set_option maxHeartbeats 400000 in
theorem eqSyncGroup_c (ca cb : List Value) (x : DSyncGroup) (w : World) (ha : sSyncGroup.rd w ca x) (hb : sSyncGroup.rd w cb x) :
    Calls Try.prog 22 #[.agg ca.toArray, .agg cb.toArray] w fun e w' => e = .returned (.bool true) ∧ Ext w w' := by
  obtain ⟨c1, c2, rfl, p0, p1⟩ := sSyncGroup_rd ha
  obtain ⟨d1, d2, rfl, q0, q1⟩ := sSyncGroup_rd hb
  have hs0 : (x.topology.size != x.topology.size) = false := by simp
  go_enter Try.func22, Try.ntmps22
  go_wp2_with fail
  refine (eqTopology_c _ _ x.topology _ (sTopology.ext (by exact ((Ext.refl w).alloc _).alloc _) p0) (sTopology.ext (by exact ((Ext.refl w).alloc _).alloc _) q0)).mono ?_
  rintro e w0 ⟨rfl, hx0⟩
  have f0 : w0.cell? ⟨w.heap.size, 0, none⟩ = some (.int .i64 x.topology.size) := hx0.cell (by simp)
  have g0 : w0.cell? ⟨w.heap.size + 1, 0, none⟩ = some (.int .i64 x.topology.size) := hx0.cell (by simp)
  have f1 : w0.cell? ⟨w.heap.size, 1, none⟩ = some (c1) := hx0.cell (by simp)
  have g1 : w0.cell? ⟨w.heap.size + 1, 1, none⟩ = some (d1) := hx0.cell (by simp)
  have f2 : w0.cell? ⟨w.heap.size, 2, none⟩ = some (c2) := hx0.cell (by simp)
  have g2 : w0.cell? ⟨w.heap.size + 1, 2, none⟩ = some (d2) := hx0.cell (by simp)
  have E0 : Ext w w0 := Ext.trans (by exact ((Ext.refl w).alloc _).alloc _) hx0
  go_wp2_with fail
  refine (eqMemberS_c _ _ x.members _ (sMemberL.ext (by exact E0) p1) (sMemberL.ext (by exact E0) q1)).mono ?_
  rintro e w1 ⟨rfl, hx1⟩
  have f0 : w1.cell? ⟨w.heap.size, 0, none⟩ = some (.int .i64 x.topology.size) := hx1.cell f0
  have g0 : w1.cell? ⟨w.heap.size + 1, 0, none⟩ = some (.int .i64 x.topology.size) := hx1.cell g0
  have f1 : w1.cell? ⟨w.heap.size, 1, none⟩ = some (c1) := hx1.cell f1
  have g1 : w1.cell? ⟨w.heap.size + 1, 1, none⟩ = some (d1) := hx1.cell g1
  have f2 : w1.cell? ⟨w.heap.size, 2, none⟩ = some (c2) := hx1.cell f2
  have g2 : w1.cell? ⟨w.heap.size + 1, 2, none⟩ = some (d2) := hx1.cell g2
  have E1 : Ext w w1 := Ext.trans (by exact E0) hx1
  go_wp2
  go_ret
  exact ⟨rfl, E1⟩

set_option maxHeartbeats 400000 in
theorem eqIntS_c (va vb : Value) (l : (List Int)) (w : World) (ha : sInts.rd w [va] l) (hb : sInts.rd w [vb] l) :
    Calls Try.prog 21 #[va, vb] w fun e w' => e = .returned (.bool true) ∧ Ext w w' := by
  obtain ⟨A, c, rfl, hl, hm⟩ := Shape.sl_form ha
  obtain ⟨B, d, rfl, hl', hm'⟩ := Shape.sl_form hb
  unfold maxLen at hm hm'
  have Ha := Lib.hid ha
  have Hb := Lib.hid hb
  clear ha hb
  have hn' : ((l.length : Int) != l.length) = false := by simp
  go_enter Try.func21, Try.ntmps21
  go_wp2
  go_loopw [5] (fun i wr => ∃ k : Nat, k ≤ l.length ∧ i = .int .i64 k ∧ Ext w wr) (fun i _ => l.length - (intOf i).toNat)
  case atStart => exact ⟨0, Nat.zero_le _, rfl, Ext.refl _⟩
  case round =>
    obtain ⟨k, hk, rfl, hx⟩ := hrel
    by_cases hlt : k < l.length
    · obtain ⟨b1, o1, rfl, hc1, _⟩ := Shape.int_at (sInts.ext hx Ha.out) hlt
      obtain ⟨b2, o2, rfl, hc2, _⟩ := Shape.int_at (sInts.ext hx Hb.out) hlt
      have hsame : (l[k] != l[k]) = false := by simp
      go_wp2
      go_quiet (fail)
      go_wp2
      go_roundw
      case rel => exact ⟨k + 1, by omega, by go_num, hx.drewN _⟩
      case measure => simp [intOf]; omega
    · have : k = l.length := by omega
      subst this
      go_wp2
      go_ret
      exact ⟨rfl, hx⟩

end Go.Proofs.Ytofieohogenojaa
