/- The walk of laws.FnExactProducerOf: it answers true. Printed by genexact.py. -/
import Derived.Test.YtjdhggkbdognnaaGreatFamSz
import Derived.Test.YtjdhggkbdognnaaGreatFamTo
import Derived.Test.YtjdhggkbdognnaaGreatFamEq
import Derived.Test.YtjdhggkbdognnaaGreatWkProd
import Derived.Deep.RegionHeld3
import Derived.Deep.DrawnRows
namespace Go.Proofs.YtjdhggkbdognnaaGreat
open Go.RowKit
set_option linter.unusedVariables false
set_option linter.unusedSimpArgs false
set_option linter.unusedSectionVars false
attribute [local go_sem ↓] Go.wp_at_zero Go.wp_at_succ

set_option maxHeartbeats 4000000 in
theorem lawFnExactProducerOf (cs0 : List Value) (x0 : DNetwork) (cs1 : List Value) (x1 : (List ByteArray)) (w : World) (h0 : sNetwork.rd w cs0 x0) (h1 : strs.rd w cs1 x1) :
    Calls Tryz.prog 3 #[.agg cs0.toArray, .agg cs1.toArray] w fun e w' => e = .returned (.bool true) ∧ Ext w w' := by
  have k0 := h0
  obtain ⟨c0_1, c0_2, c0_3, c0_4, c0_5, c0_6, c0_7, c0_9, c0_10, c0_11, rfl, _⟩ := sNetwork_rd k0
  clear k0
  have k1 := h1
  obtain ⟨c1_0, rfl⟩ := one_cell (strs.len k1)
  clear k1
  go_enter Tryz.func3, Tryz.ntmps3
  go_wp2_with fail
  refine (szNetwork_c _ x0 _ _ (sNetwork.ext (((Ext.refl w).alloc _).alloc _) h0) (by omega) (by omega)).mono ?_
  rintro e w0 ⟨rfl, hx0⟩
  have E0 : Ext w w0 := Ext.trans (((Ext.refl w).alloc _).alloc _) hx0
  have b0 : Blk w0 (w.heap.size) 37 #[.int .i64 x0.topology.size, c0_1, c0_2, c0_3, c0_4, c0_5, c0_6, c0_7, .int .i64 x0.downNodes, c0_9, c0_10, c0_11, .int .i64 x0.now, .int .i64 x0.dropped] := Blk.ext hx0 ((Blk.new_at (by simp)).alloc _)
  have b1 : Blk w0 (w.heap.size + 1) 40 #[c1_0] := Blk.ext hx0 (Blk.new_at (by simp))
  clear hx0
  by_cases hq0 : remain (1048576) (szNetwork x0) < 0
  · go_wp2
    go_ret
    exact ⟨rfl, E0⟩
  obtain ⟨hp0, hv0⟩ := remain_pos (Int.not_lt.1 hq0)
  rw [hv0] at hq0 ⊢
  clear hv0
  have hs0 : szNetwork x0 ≤ 1048576 := by omega
  have q_b0 := b0
  have b0_0 : w0.cell? ⟨w.heap.size, 0, none⟩ = some (.int .i64 x0.topology.size) := b0.cell 0
  have b0_1 : w0.cell? ⟨w.heap.size, 1, none⟩ = some (c0_1) := b0.cell 1
  have b0_2 : w0.cell? ⟨w.heap.size, 2, none⟩ = some (c0_2) := b0.cell 2
  have b0_3 : w0.cell? ⟨w.heap.size, 3, none⟩ = some (c0_3) := b0.cell 3
  have b0_4 : w0.cell? ⟨w.heap.size, 4, none⟩ = some (c0_4) := b0.cell 4
  have b0_5 : w0.cell? ⟨w.heap.size, 5, none⟩ = some (c0_5) := b0.cell 5
  have b0_6 : w0.cell? ⟨w.heap.size, 6, none⟩ = some (c0_6) := b0.cell 6
  have b0_7 : w0.cell? ⟨w.heap.size, 7, none⟩ = some (c0_7) := b0.cell 7
  have b0_8 : w0.cell? ⟨w.heap.size, 8, none⟩ = some (.int .i64 x0.downNodes) := b0.cell 8
  have b0_9 : w0.cell? ⟨w.heap.size, 9, none⟩ = some (c0_9) := b0.cell 9
  have b0_10 : w0.cell? ⟨w.heap.size, 10, none⟩ = some (c0_10) := b0.cell 10
  have b0_11 : w0.cell? ⟨w.heap.size, 11, none⟩ = some (c0_11) := b0.cell 11
  have b0_12 : w0.cell? ⟨w.heap.size, 12, none⟩ = some (.int .i64 x0.now) := b0.cell 12
  have b0_13 : w0.cell? ⟨w.heap.size, 13, none⟩ = some (.int .i64 x0.dropped) := b0.cell 13
  clear q_b0
  have q_b1 := b1
  have b1_0 : w0.cell? ⟨w.heap.size + 1, 0, none⟩ = some (c1_0) := b1.cell 0
  clear q_b1
  go_wp2_with fail
  refine (szName_c _ x1 _ _ (strs.ext (E0) h1) (by omega) (by omega)).mono ?_
  rintro e w1 ⟨rfl, hx1⟩
  have E1 : Ext w w1 := Ext.trans (E0) hx1
  clear b0_0 b0_1 b0_2 b0_3 b0_4 b0_5 b0_6 b0_7 b0_8 b0_9 b0_10 b0_11 b0_12 b0_13 b1_0
  replace b0 := Blk.ext hx1 b0
  replace b1 := Blk.ext hx1 b1
  clear hx1
  by_cases hq1 : remain (1048576 - (szNetwork x0 : Nat)) ((szL ByteArray.size) x1) < 0
  · go_wp2
    go_ret
    exact ⟨rfl, E1⟩
  obtain ⟨hp1, hv1⟩ := remain_pos (Int.not_lt.1 hq1)
  rw [hv1] at hq1 ⊢
  clear hv1
  have hs1 : (szL ByteArray.size) x1 ≤ 1048576 := by omega
  have q_b0 := b0
  have b0_0 : w1.cell? ⟨w.heap.size, 0, none⟩ = some (.int .i64 x0.topology.size) := b0.cell 0
  have b0_1 : w1.cell? ⟨w.heap.size, 1, none⟩ = some (c0_1) := b0.cell 1
  have b0_2 : w1.cell? ⟨w.heap.size, 2, none⟩ = some (c0_2) := b0.cell 2
  have b0_3 : w1.cell? ⟨w.heap.size, 3, none⟩ = some (c0_3) := b0.cell 3
  have b0_4 : w1.cell? ⟨w.heap.size, 4, none⟩ = some (c0_4) := b0.cell 4
  have b0_5 : w1.cell? ⟨w.heap.size, 5, none⟩ = some (c0_5) := b0.cell 5
  have b0_6 : w1.cell? ⟨w.heap.size, 6, none⟩ = some (c0_6) := b0.cell 6
  have b0_7 : w1.cell? ⟨w.heap.size, 7, none⟩ = some (c0_7) := b0.cell 7
  have b0_8 : w1.cell? ⟨w.heap.size, 8, none⟩ = some (.int .i64 x0.downNodes) := b0.cell 8
  have b0_9 : w1.cell? ⟨w.heap.size, 9, none⟩ = some (c0_9) := b0.cell 9
  have b0_10 : w1.cell? ⟨w.heap.size, 10, none⟩ = some (c0_10) := b0.cell 10
  have b0_11 : w1.cell? ⟨w.heap.size, 11, none⟩ = some (c0_11) := b0.cell 11
  have b0_12 : w1.cell? ⟨w.heap.size, 12, none⟩ = some (.int .i64 x0.now) := b0.cell 12
  have b0_13 : w1.cell? ⟨w.heap.size, 13, none⟩ = some (.int .i64 x0.dropped) := b0.cell 13
  clear q_b0
  have q_b1 := b1
  have b1_0 : w1.cell? ⟨w.heap.size + 1, 0, none⟩ = some (c1_0) := b1.cell 0
  clear q_b1
  go_wp2
  go_region_held3 (fun w' => w'.cell? ⟨w.heap.size, 0, none⟩ = some (.int .i64 x0.topology.size) ∧ w'.cell? ⟨w.heap.size, 1, none⟩ = some (c0_1) ∧ w'.cell? ⟨w.heap.size, 2, none⟩ = some (c0_2) ∧ w'.cell? ⟨w.heap.size, 3, none⟩ = some (c0_3) ∧ w'.cell? ⟨w.heap.size, 4, none⟩ = some (c0_4) ∧ w'.cell? ⟨w.heap.size, 5, none⟩ = some (c0_5) ∧ w'.cell? ⟨w.heap.size, 6, none⟩ = some (c0_6) ∧ w'.cell? ⟨w.heap.size, 7, none⟩ = some (c0_7) ∧ w'.cell? ⟨w.heap.size, 8, none⟩ = some (.int .i64 x0.downNodes) ∧ w'.cell? ⟨w.heap.size, 9, none⟩ = some (c0_9) ∧ w'.cell? ⟨w.heap.size, 10, none⟩ = some (c0_10) ∧ w'.cell? ⟨w.heap.size, 11, none⟩ = some (c0_11) ∧ w'.cell? ⟨w.heap.size, 12, none⟩ = some (.int .i64 x0.now) ∧ w'.cell? ⟨w.heap.size, 13, none⟩ = some (.int .i64 x0.dropped) ∧ w'.cell? ⟨w.heap.size + 1, 0, none⟩ = some (c1_0)) (((repeat' apply And.intro) <;> (first | assumption | exact hx4.cell (hx3.cell (hx2.cell (by assumption))) | exact hx3.cell (hx2.cell (by assumption)) | exact hx2.cell (by assumption))))
    (first | (go_at_call 10; refine (toNetwork_c _ x0 _ (sNetwork.ext ((E1).drew) h0) (by omega)).mono ?_; rintro e w2 ⟨⟨r2_0, rfl, O2⟩, hx2⟩) | (go_at_call 11; refine (toName_c _ x1 _ (strs.ext (((E1).drew).trans hx2) h1) (by omega)).mono ?_; rintro e w3 ⟨⟨r2_1, rfl, O3⟩, hx3⟩) | (go_at_call 9; refine (specProducerOf_c _ x0 _ x1 _ (sNetwork.ext hx3 O2.rd) O3.rd hs0 hs1).mono ?_; rintro e w4 ⟨rfl, hx4⟩))
  have E4 : Ext w w4 := ((((E1).drew).trans hx2).trans hx3).trans hx4
  have Z4 : Ext w1 w4 := ((((Ext.refl w1).drew).trans hx2).trans hx3).trans hx4
  clear b0_0 b0_1 b0_2 b0_3 b0_4 b0_5 b0_6 b0_7 b0_8 b0_9 b0_10 b0_11 b0_12 b0_13 b1_0
  replace b0 := Blk.ext Z4 b0
  replace b1 := Blk.ext Z4 b1
  clear Z4 hx2 hx3 hx4 O2 O3
  have q_b0 := b0
  have b0_0 : w4.cell? ⟨w.heap.size, 0, none⟩ = some (.int .i64 x0.topology.size) := b0.cell 0
  have b0_1 : w4.cell? ⟨w.heap.size, 1, none⟩ = some (c0_1) := b0.cell 1
  have b0_2 : w4.cell? ⟨w.heap.size, 2, none⟩ = some (c0_2) := b0.cell 2
  have b0_3 : w4.cell? ⟨w.heap.size, 3, none⟩ = some (c0_3) := b0.cell 3
  have b0_4 : w4.cell? ⟨w.heap.size, 4, none⟩ = some (c0_4) := b0.cell 4
  have b0_5 : w4.cell? ⟨w.heap.size, 5, none⟩ = some (c0_5) := b0.cell 5
  have b0_6 : w4.cell? ⟨w.heap.size, 6, none⟩ = some (c0_6) := b0.cell 6
  have b0_7 : w4.cell? ⟨w.heap.size, 7, none⟩ = some (c0_7) := b0.cell 7
  have b0_8 : w4.cell? ⟨w.heap.size, 8, none⟩ = some (.int .i64 x0.downNodes) := b0.cell 8
  have b0_9 : w4.cell? ⟨w.heap.size, 9, none⟩ = some (c0_9) := b0.cell 9
  have b0_10 : w4.cell? ⟨w.heap.size, 10, none⟩ = some (c0_10) := b0.cell 10
  have b0_11 : w4.cell? ⟨w.heap.size, 11, none⟩ = some (c0_11) := b0.cell 11
  have b0_12 : w4.cell? ⟨w.heap.size, 12, none⟩ = some (.int .i64 x0.now) := b0.cell 12
  have b0_13 : w4.cell? ⟨w.heap.size, 13, none⟩ = some (.int .i64 x0.dropped) := b0.cell 13
  clear q_b0
  have q_b1 := b1
  have b1_0 : w4.cell? ⟨w.heap.size + 1, 0, none⟩ = some (c1_0) := b1.cell 0
  clear q_b1
  go_wp2_with fail
  refine (toNetwork_c _ x0 _ (sNetwork.ext (E4) h0) (by omega)).mono ?_
  rintro e w5 ⟨⟨r5, rfl, O5⟩, hx5⟩
  have E5 : Ext w w5 := (E4).trans hx5
  clear b0_0 b0_1 b0_2 b0_3 b0_4 b0_5 b0_6 b0_7 b0_8 b0_9 b0_10 b0_11 b0_12 b0_13 b1_0
  replace b0 := Blk.ext hx5 b0
  replace b1 := Blk.ext hx5 b1
  have rr0 := O5.rd
  obtain ⟨e5_1, e5_2, e5_3, e5_4, e5_5, e5_6, e5_7, e5_9, e5_10, e5_11, rfl, _⟩ := sNetwork_rd rr0
  obtain ⟨A5_1, k5_1, rfl, _, _⟩ := Shape.sl_form (sTopology_f1 (sNetwork_f0 rr0))
  obtain ⟨A5_2, k5_2, rfl, _, _⟩ := Shape.sl_form (sTrustPolicy_f0 (sNetwork_f1 rr0))
  obtain ⟨A5_3, k5_3, rfl, _, _⟩ := Shape.sl_form (sTrustPolicy_f1 (sNetwork_f1 rr0))
  obtain ⟨A5_4, k5_4, rfl, _, _⟩ := Shape.sl_form (sTrustPolicy_f2 (sNetwork_f1 rr0))
  obtain ⟨A5_5, k5_5, rfl, _, _⟩ := Shape.sl_form (sTrustPolicy_f3 (sNetwork_f1 rr0))
  obtain ⟨A5_6, k5_6, rfl, _, _⟩ := Shape.sl_form (sNetwork_f2 rr0)
  obtain ⟨A5_7, k5_7, rfl, _, _⟩ := Shape.sl_form (sNetwork_f3 rr0)
  obtain ⟨A5_9, k5_9, rfl, _, _⟩ := Shape.sl_form (sNetwork_f5 rr0)
  obtain ⟨A5_10, k5_10, rfl, _, _⟩ := Shape.sl_form (sNetwork_f6 rr0)
  obtain ⟨A5_11, k5_11, rfl, _, _⟩ := Shape.sl_form (sNetwork_f7 rr0)
  clear hx5 O5
  have lt_b0 := b0.lt
  have lt_b1 := b1.lt
  have q_b0 := b0
  have b0_0 : w5.cell? ⟨w.heap.size, 0, none⟩ = some (.int .i64 x0.topology.size) := b0.cell 0
  have b0_1 : w5.cell? ⟨w.heap.size, 1, none⟩ = some (c0_1) := b0.cell 1
  have b0_2 : w5.cell? ⟨w.heap.size, 2, none⟩ = some (c0_2) := b0.cell 2
  have b0_3 : w5.cell? ⟨w.heap.size, 3, none⟩ = some (c0_3) := b0.cell 3
  have b0_4 : w5.cell? ⟨w.heap.size, 4, none⟩ = some (c0_4) := b0.cell 4
  have b0_5 : w5.cell? ⟨w.heap.size, 5, none⟩ = some (c0_5) := b0.cell 5
  have b0_6 : w5.cell? ⟨w.heap.size, 6, none⟩ = some (c0_6) := b0.cell 6
  have b0_7 : w5.cell? ⟨w.heap.size, 7, none⟩ = some (c0_7) := b0.cell 7
  have b0_8 : w5.cell? ⟨w.heap.size, 8, none⟩ = some (.int .i64 x0.downNodes) := b0.cell 8
  have b0_9 : w5.cell? ⟨w.heap.size, 9, none⟩ = some (c0_9) := b0.cell 9
  have b0_10 : w5.cell? ⟨w.heap.size, 10, none⟩ = some (c0_10) := b0.cell 10
  have b0_11 : w5.cell? ⟨w.heap.size, 11, none⟩ = some (c0_11) := b0.cell 11
  have b0_12 : w5.cell? ⟨w.heap.size, 12, none⟩ = some (.int .i64 x0.now) := b0.cell 12
  have b0_13 : w5.cell? ⟨w.heap.size, 13, none⟩ = some (.int .i64 x0.dropped) := b0.cell 13
  clear q_b0
  have q_b1 := b1
  have b1_0 : w5.cell? ⟨w.heap.size + 1, 0, none⟩ = some (c1_0) := b1.cell 0
  clear q_b1
  go_wp2_with fail
  refine (toName_c _ x1 _ (strs.ext ((E5).alloc _) h1) (by omega)).mono ?_
  rintro e w6 ⟨⟨r6, rfl, O6⟩, hx6⟩
  have E6 : Ext w w6 := ((E5).alloc _).trans hx6
  clear b0_0 b0_1 b0_2 b0_3 b0_4 b0_5 b0_6 b0_7 b0_8 b0_9 b0_10 b0_11 b0_12 b0_13 b1_0
  have Z6 : Ext w5 w6 := ((Ext.refl _).alloc _).trans hx6
  replace b0 := Blk.ext Z6 b0
  replace b1 := Blk.ext Z6 b1
  have bx0 : Blk w6 (w5.heap.size) 58 #[.int .i64 x0.topology.size, .slice A5_1 x0.topology.links.length k5_1, .slice A5_2 x0.trust.keys.length k5_2, .slice A5_3 x0.trust.rules.length k5_3, .slice A5_4 x0.trust.anchors.length k5_4, .slice A5_5 x0.trust.certificates.length k5_5, .slice A5_6 x0.producers.length k5_6, .slice A5_7 x0.nodes.length k5_7, .int .i64 x0.downNodes, .slice A5_9 x0.failedLinks.length k5_9, .slice A5_10 x0.inFlight.length k5_10, .slice A5_11 x0.consumers.length k5_11, .int .i64 x0.now, .int .i64 x0.dropped] := Blk.ext hx6 (Blk.new _ _ _)
  replace rr0 := sNetwork.ext Z6 rr0
  have rr1 := O6.rd
  obtain ⟨e6_0, rfl⟩ := one_cell (strs.len rr1)
  obtain ⟨A6_0, k6_0, rfl, _, _⟩ := Shape.sl_form rr1
  clear hx6 O6 Z6
  have lt_b0 := b0.lt
  have lt_b1 := b1.lt
  have lt_bx0 := bx0.lt
  have q_b0 := b0
  have b0_0 : w6.cell? ⟨w.heap.size, 0, none⟩ = some (.int .i64 x0.topology.size) := b0.cell 0
  have b0_1 : w6.cell? ⟨w.heap.size, 1, none⟩ = some (c0_1) := b0.cell 1
  have b0_2 : w6.cell? ⟨w.heap.size, 2, none⟩ = some (c0_2) := b0.cell 2
  have b0_3 : w6.cell? ⟨w.heap.size, 3, none⟩ = some (c0_3) := b0.cell 3
  have b0_4 : w6.cell? ⟨w.heap.size, 4, none⟩ = some (c0_4) := b0.cell 4
  have b0_5 : w6.cell? ⟨w.heap.size, 5, none⟩ = some (c0_5) := b0.cell 5
  have b0_6 : w6.cell? ⟨w.heap.size, 6, none⟩ = some (c0_6) := b0.cell 6
  have b0_7 : w6.cell? ⟨w.heap.size, 7, none⟩ = some (c0_7) := b0.cell 7
  have b0_8 : w6.cell? ⟨w.heap.size, 8, none⟩ = some (.int .i64 x0.downNodes) := b0.cell 8
  have b0_9 : w6.cell? ⟨w.heap.size, 9, none⟩ = some (c0_9) := b0.cell 9
  have b0_10 : w6.cell? ⟨w.heap.size, 10, none⟩ = some (c0_10) := b0.cell 10
  have b0_11 : w6.cell? ⟨w.heap.size, 11, none⟩ = some (c0_11) := b0.cell 11
  have b0_12 : w6.cell? ⟨w.heap.size, 12, none⟩ = some (.int .i64 x0.now) := b0.cell 12
  have b0_13 : w6.cell? ⟨w.heap.size, 13, none⟩ = some (.int .i64 x0.dropped) := b0.cell 13
  clear q_b0
  have q_b1 := b1
  have b1_0 : w6.cell? ⟨w.heap.size + 1, 0, none⟩ = some (c1_0) := b1.cell 0
  clear q_b1
  have q_bx0 := bx0
  have bx0_0 : w6.cell? ⟨w5.heap.size, 0, none⟩ = some (.int .i64 x0.topology.size) := bx0.cell 0
  have bx0_1 : w6.cell? ⟨w5.heap.size, 1, none⟩ = some (.slice A5_1 x0.topology.links.length k5_1) := bx0.cell 1
  have bx0_2 : w6.cell? ⟨w5.heap.size, 2, none⟩ = some (.slice A5_2 x0.trust.keys.length k5_2) := bx0.cell 2
  have bx0_3 : w6.cell? ⟨w5.heap.size, 3, none⟩ = some (.slice A5_3 x0.trust.rules.length k5_3) := bx0.cell 3
  have bx0_4 : w6.cell? ⟨w5.heap.size, 4, none⟩ = some (.slice A5_4 x0.trust.anchors.length k5_4) := bx0.cell 4
  have bx0_5 : w6.cell? ⟨w5.heap.size, 5, none⟩ = some (.slice A5_5 x0.trust.certificates.length k5_5) := bx0.cell 5
  have bx0_6 : w6.cell? ⟨w5.heap.size, 6, none⟩ = some (.slice A5_6 x0.producers.length k5_6) := bx0.cell 6
  have bx0_7 : w6.cell? ⟨w5.heap.size, 7, none⟩ = some (.slice A5_7 x0.nodes.length k5_7) := bx0.cell 7
  have bx0_8 : w6.cell? ⟨w5.heap.size, 8, none⟩ = some (.int .i64 x0.downNodes) := bx0.cell 8
  have bx0_9 : w6.cell? ⟨w5.heap.size, 9, none⟩ = some (.slice A5_9 x0.failedLinks.length k5_9) := bx0.cell 9
  have bx0_10 : w6.cell? ⟨w5.heap.size, 10, none⟩ = some (.slice A5_10 x0.inFlight.length k5_10) := bx0.cell 10
  have bx0_11 : w6.cell? ⟨w5.heap.size, 11, none⟩ = some (.slice A5_11 x0.consumers.length k5_11) := bx0.cell 11
  have bx0_12 : w6.cell? ⟨w5.heap.size, 12, none⟩ = some (.int .i64 x0.now) := bx0.cell 12
  have bx0_13 : w6.cell? ⟨w5.heap.size, 13, none⟩ = some (.int .i64 x0.dropped) := bx0.cell 13
  clear q_bx0
  go_wp2_with fail
  refine (implProducerOf_c _ x0 _ x1 _ (sNetwork.ext ((Ext.refl _).alloc _) rr0) (strs.ext ((Ext.refl _).alloc _) rr1) hs0 hs1).mono ?_
  rintro e w7 ⟨rfl, hx7⟩
  have E7 : Ext w w7 := ((E6).alloc _).trans hx7
  have Z7 : Ext w6 w7 := ((Ext.refl _).alloc _).trans hx7
  clear b0_0 b0_1 b0_2 b0_3 b0_4 b0_5 b0_6 b0_7 b0_8 b0_9 b0_10 b0_11 b0_12 b0_13 b1_0 bx0_0 bx0_1 bx0_2 bx0_3 bx0_4 bx0_5 bx0_6 bx0_7 bx0_8 bx0_9 bx0_10 bx0_11 bx0_12 bx0_13
  replace b0 := Blk.ext Z7 b0
  replace b1 := Blk.ext Z7 b1
  replace bx0 := Blk.ext Z7 bx0
  have bx1 : Blk w7 (w6.heap.size) 60 #[.slice A6_0 x1.length k6_0] := Blk.ext hx7 (Blk.new _ _ _)
  replace rr0 := sNetwork.ext Z7 rr0
  replace rr1 := strs.ext Z7 rr1
  clear Z7 hx7
  have ltt_b0 := b0.lt
  have ltt_b1 := b1.lt
  have ltt_bx0 := bx0.lt
  have ltt_bx1 := bx1.lt
  have q_b0 := b0
  have b0_0 : w7.cell? ⟨w.heap.size, 0, none⟩ = some (.int .i64 x0.topology.size) := b0.cell 0
  have b0_1 : w7.cell? ⟨w.heap.size, 1, none⟩ = some (c0_1) := b0.cell 1
  have b0_2 : w7.cell? ⟨w.heap.size, 2, none⟩ = some (c0_2) := b0.cell 2
  have b0_3 : w7.cell? ⟨w.heap.size, 3, none⟩ = some (c0_3) := b0.cell 3
  have b0_4 : w7.cell? ⟨w.heap.size, 4, none⟩ = some (c0_4) := b0.cell 4
  have b0_5 : w7.cell? ⟨w.heap.size, 5, none⟩ = some (c0_5) := b0.cell 5
  have b0_6 : w7.cell? ⟨w.heap.size, 6, none⟩ = some (c0_6) := b0.cell 6
  have b0_7 : w7.cell? ⟨w.heap.size, 7, none⟩ = some (c0_7) := b0.cell 7
  have b0_8 : w7.cell? ⟨w.heap.size, 8, none⟩ = some (.int .i64 x0.downNodes) := b0.cell 8
  have b0_9 : w7.cell? ⟨w.heap.size, 9, none⟩ = some (c0_9) := b0.cell 9
  have b0_10 : w7.cell? ⟨w.heap.size, 10, none⟩ = some (c0_10) := b0.cell 10
  have b0_11 : w7.cell? ⟨w.heap.size, 11, none⟩ = some (c0_11) := b0.cell 11
  have b0_12 : w7.cell? ⟨w.heap.size, 12, none⟩ = some (.int .i64 x0.now) := b0.cell 12
  have b0_13 : w7.cell? ⟨w.heap.size, 13, none⟩ = some (.int .i64 x0.dropped) := b0.cell 13
  clear q_b0
  have q_b1 := b1
  have b1_0 : w7.cell? ⟨w.heap.size + 1, 0, none⟩ = some (c1_0) := b1.cell 0
  clear q_b1
  have q_bx0 := bx0
  have bx0_0 : w7.cell? ⟨w5.heap.size, 0, none⟩ = some (.int .i64 x0.topology.size) := bx0.cell 0
  have bx0_1 : w7.cell? ⟨w5.heap.size, 1, none⟩ = some (.slice A5_1 x0.topology.links.length k5_1) := bx0.cell 1
  have bx0_2 : w7.cell? ⟨w5.heap.size, 2, none⟩ = some (.slice A5_2 x0.trust.keys.length k5_2) := bx0.cell 2
  have bx0_3 : w7.cell? ⟨w5.heap.size, 3, none⟩ = some (.slice A5_3 x0.trust.rules.length k5_3) := bx0.cell 3
  have bx0_4 : w7.cell? ⟨w5.heap.size, 4, none⟩ = some (.slice A5_4 x0.trust.anchors.length k5_4) := bx0.cell 4
  have bx0_5 : w7.cell? ⟨w5.heap.size, 5, none⟩ = some (.slice A5_5 x0.trust.certificates.length k5_5) := bx0.cell 5
  have bx0_6 : w7.cell? ⟨w5.heap.size, 6, none⟩ = some (.slice A5_6 x0.producers.length k5_6) := bx0.cell 6
  have bx0_7 : w7.cell? ⟨w5.heap.size, 7, none⟩ = some (.slice A5_7 x0.nodes.length k5_7) := bx0.cell 7
  have bx0_8 : w7.cell? ⟨w5.heap.size, 8, none⟩ = some (.int .i64 x0.downNodes) := bx0.cell 8
  have bx0_9 : w7.cell? ⟨w5.heap.size, 9, none⟩ = some (.slice A5_9 x0.failedLinks.length k5_9) := bx0.cell 9
  have bx0_10 : w7.cell? ⟨w5.heap.size, 10, none⟩ = some (.slice A5_10 x0.inFlight.length k5_10) := bx0.cell 10
  have bx0_11 : w7.cell? ⟨w5.heap.size, 11, none⟩ = some (.slice A5_11 x0.consumers.length k5_11) := bx0.cell 11
  have bx0_12 : w7.cell? ⟨w5.heap.size, 12, none⟩ = some (.int .i64 x0.now) := bx0.cell 12
  have bx0_13 : w7.cell? ⟨w5.heap.size, 13, none⟩ = some (.int .i64 x0.dropped) := bx0.cell 13
  clear q_bx0
  have q_bx1 := bx1
  have bx1_0 : w7.cell? ⟨w6.heap.size, 0, none⟩ = some (.slice A6_0 x1.length k6_0) := bx1.cell 0
  clear q_bx1
  have hsame : (producerOf x0.producers x1 != producerOf x0.producers x1) = false := by simp
  go_wp2
  go_region_held3 (fun w' => w'.cell? ⟨w.heap.size, 0, none⟩ = some (.int .i64 x0.topology.size) ∧ w'.cell? ⟨w.heap.size, 1, none⟩ = some (c0_1) ∧ w'.cell? ⟨w.heap.size, 2, none⟩ = some (c0_2) ∧ w'.cell? ⟨w.heap.size, 3, none⟩ = some (c0_3) ∧ w'.cell? ⟨w.heap.size, 4, none⟩ = some (c0_4) ∧ w'.cell? ⟨w.heap.size, 5, none⟩ = some (c0_5) ∧ w'.cell? ⟨w.heap.size, 6, none⟩ = some (c0_6) ∧ w'.cell? ⟨w.heap.size, 7, none⟩ = some (c0_7) ∧ w'.cell? ⟨w.heap.size, 8, none⟩ = some (.int .i64 x0.downNodes) ∧ w'.cell? ⟨w.heap.size, 9, none⟩ = some (c0_9) ∧ w'.cell? ⟨w.heap.size, 10, none⟩ = some (c0_10) ∧ w'.cell? ⟨w.heap.size, 11, none⟩ = some (c0_11) ∧ w'.cell? ⟨w.heap.size, 12, none⟩ = some (.int .i64 x0.now) ∧ w'.cell? ⟨w.heap.size, 13, none⟩ = some (.int .i64 x0.dropped) ∧ w'.cell? ⟨w5.heap.size, 0, none⟩ = some (.int .i64 x0.topology.size) ∧ w'.cell? ⟨w5.heap.size, 1, none⟩ = some (.slice A5_1 x0.topology.links.length k5_1) ∧ w'.cell? ⟨w5.heap.size, 2, none⟩ = some (.slice A5_2 x0.trust.keys.length k5_2) ∧ w'.cell? ⟨w5.heap.size, 3, none⟩ = some (.slice A5_3 x0.trust.rules.length k5_3) ∧ w'.cell? ⟨w5.heap.size, 4, none⟩ = some (.slice A5_4 x0.trust.anchors.length k5_4) ∧ w'.cell? ⟨w5.heap.size, 5, none⟩ = some (.slice A5_5 x0.trust.certificates.length k5_5) ∧ w'.cell? ⟨w5.heap.size, 6, none⟩ = some (.slice A5_6 x0.producers.length k5_6) ∧ w'.cell? ⟨w5.heap.size, 7, none⟩ = some (.slice A5_7 x0.nodes.length k5_7) ∧ w'.cell? ⟨w5.heap.size, 8, none⟩ = some (.int .i64 x0.downNodes) ∧ w'.cell? ⟨w5.heap.size, 9, none⟩ = some (.slice A5_9 x0.failedLinks.length k5_9) ∧ w'.cell? ⟨w5.heap.size, 10, none⟩ = some (.slice A5_10 x0.inFlight.length k5_10) ∧ w'.cell? ⟨w5.heap.size, 11, none⟩ = some (.slice A5_11 x0.consumers.length k5_11) ∧ w'.cell? ⟨w5.heap.size, 12, none⟩ = some (.int .i64 x0.now) ∧ w'.cell? ⟨w5.heap.size, 13, none⟩ = some (.int .i64 x0.dropped)) (((repeat' apply And.intro) <;> (first | assumption | exact hx9.cell (hx8.cell (by assumption)) | exact hx8.cell (by assumption))))
    (first | (go_at_call 10; refine (toNetwork_c _ x0 _ (sNetwork.ext ((E7).drew) h0) (by omega)).mono ?_; rintro e w8 ⟨⟨r8, rfl, O8⟩, hx8⟩) | (go_at_call 13; refine (eqNetwork_c _ _ x0 _ (sNetwork.ext ((Ext.refl w7).drew.trans hx8) rr0) O8.rd).mono ?_; rintro e w9 ⟨rfl, hx9⟩))
  have E9 : Ext w w9 := (((E7).drew).trans hx8).trans hx9
  have Z9 : Ext w7 w9 := (((Ext.refl w7).drew).trans hx8).trans hx9
  clear b0_0 b0_1 b0_2 b0_3 b0_4 b0_5 b0_6 b0_7 b0_8 b0_9 b0_10 b0_11 b0_12 b0_13 b1_0 bx0_0 bx0_1 bx0_2 bx0_3 bx0_4 bx0_5 bx0_6 bx0_7 bx0_8 bx0_9 bx0_10 bx0_11 bx0_12 bx0_13 bx1_0
  replace b0 := Blk.ext Z9 b0
  replace b1 := Blk.ext Z9 b1
  replace bx0 := Blk.ext Z9 bx0
  replace bx1 := Blk.ext Z9 bx1
  replace rr0 := sNetwork.ext Z9 rr0
  replace rr1 := strs.ext Z9 rr1
  clear Z9 hx8 hx9 O8
  have q_b0 := b0
  have b0_0 : w9.cell? ⟨w.heap.size, 0, none⟩ = some (.int .i64 x0.topology.size) := b0.cell 0
  have b0_1 : w9.cell? ⟨w.heap.size, 1, none⟩ = some (c0_1) := b0.cell 1
  have b0_2 : w9.cell? ⟨w.heap.size, 2, none⟩ = some (c0_2) := b0.cell 2
  have b0_3 : w9.cell? ⟨w.heap.size, 3, none⟩ = some (c0_3) := b0.cell 3
  have b0_4 : w9.cell? ⟨w.heap.size, 4, none⟩ = some (c0_4) := b0.cell 4
  have b0_5 : w9.cell? ⟨w.heap.size, 5, none⟩ = some (c0_5) := b0.cell 5
  have b0_6 : w9.cell? ⟨w.heap.size, 6, none⟩ = some (c0_6) := b0.cell 6
  have b0_7 : w9.cell? ⟨w.heap.size, 7, none⟩ = some (c0_7) := b0.cell 7
  have b0_8 : w9.cell? ⟨w.heap.size, 8, none⟩ = some (.int .i64 x0.downNodes) := b0.cell 8
  have b0_9 : w9.cell? ⟨w.heap.size, 9, none⟩ = some (c0_9) := b0.cell 9
  have b0_10 : w9.cell? ⟨w.heap.size, 10, none⟩ = some (c0_10) := b0.cell 10
  have b0_11 : w9.cell? ⟨w.heap.size, 11, none⟩ = some (c0_11) := b0.cell 11
  have b0_12 : w9.cell? ⟨w.heap.size, 12, none⟩ = some (.int .i64 x0.now) := b0.cell 12
  have b0_13 : w9.cell? ⟨w.heap.size, 13, none⟩ = some (.int .i64 x0.dropped) := b0.cell 13
  clear q_b0
  have q_b1 := b1
  have b1_0 : w9.cell? ⟨w.heap.size + 1, 0, none⟩ = some (c1_0) := b1.cell 0
  clear q_b1
  have q_bx0 := bx0
  have bx0_0 : w9.cell? ⟨w5.heap.size, 0, none⟩ = some (.int .i64 x0.topology.size) := bx0.cell 0
  have bx0_1 : w9.cell? ⟨w5.heap.size, 1, none⟩ = some (.slice A5_1 x0.topology.links.length k5_1) := bx0.cell 1
  have bx0_2 : w9.cell? ⟨w5.heap.size, 2, none⟩ = some (.slice A5_2 x0.trust.keys.length k5_2) := bx0.cell 2
  have bx0_3 : w9.cell? ⟨w5.heap.size, 3, none⟩ = some (.slice A5_3 x0.trust.rules.length k5_3) := bx0.cell 3
  have bx0_4 : w9.cell? ⟨w5.heap.size, 4, none⟩ = some (.slice A5_4 x0.trust.anchors.length k5_4) := bx0.cell 4
  have bx0_5 : w9.cell? ⟨w5.heap.size, 5, none⟩ = some (.slice A5_5 x0.trust.certificates.length k5_5) := bx0.cell 5
  have bx0_6 : w9.cell? ⟨w5.heap.size, 6, none⟩ = some (.slice A5_6 x0.producers.length k5_6) := bx0.cell 6
  have bx0_7 : w9.cell? ⟨w5.heap.size, 7, none⟩ = some (.slice A5_7 x0.nodes.length k5_7) := bx0.cell 7
  have bx0_8 : w9.cell? ⟨w5.heap.size, 8, none⟩ = some (.int .i64 x0.downNodes) := bx0.cell 8
  have bx0_9 : w9.cell? ⟨w5.heap.size, 9, none⟩ = some (.slice A5_9 x0.failedLinks.length k5_9) := bx0.cell 9
  have bx0_10 : w9.cell? ⟨w5.heap.size, 10, none⟩ = some (.slice A5_10 x0.inFlight.length k5_10) := bx0.cell 10
  have bx0_11 : w9.cell? ⟨w5.heap.size, 11, none⟩ = some (.slice A5_11 x0.consumers.length k5_11) := bx0.cell 11
  have bx0_12 : w9.cell? ⟨w5.heap.size, 12, none⟩ = some (.int .i64 x0.now) := bx0.cell 12
  have bx0_13 : w9.cell? ⟨w5.heap.size, 13, none⟩ = some (.int .i64 x0.dropped) := bx0.cell 13
  clear q_bx0
  have q_bx1 := bx1
  have bx1_0 : w9.cell? ⟨w6.heap.size, 0, none⟩ = some (.slice A6_0 x1.length k6_0) := bx1.cell 0
  clear q_bx1
  go_wp2
  go_region_held3 (fun w' => w'.cell? ⟨w.heap.size + 1, 0, none⟩ = some (c1_0) ∧ w'.cell? ⟨w6.heap.size, 0, none⟩ = some (.slice A6_0 x1.length k6_0)) (((repeat' apply And.intro) <;> (first | assumption | exact hx11.cell (hx10.cell (by assumption)) | exact hx10.cell (by assumption))))
    (first | (go_at_call 11; refine (toName_c _ x1 _ (strs.ext ((E9).drew) h1) (by omega)).mono ?_; rintro e w10 ⟨⟨r10, rfl, O10⟩, hx10⟩) | (go_at_call 14; refine (eqName_c _ _ x1 _ (strs.ext ((Ext.refl w9).drew.trans hx10) rr1) O10.rd).mono ?_; rintro e w11 ⟨rfl, hx11⟩))
  have E11 : Ext w w11 := (((E9).drew).trans hx10).trans hx11
  have Z11 : Ext w9 w11 := (((Ext.refl w9).drew).trans hx10).trans hx11
  clear b0_0 b0_1 b0_2 b0_3 b0_4 b0_5 b0_6 b0_7 b0_8 b0_9 b0_10 b0_11 b0_12 b0_13 b1_0 bx0_0 bx0_1 bx0_2 bx0_3 bx0_4 bx0_5 bx0_6 bx0_7 bx0_8 bx0_9 bx0_10 bx0_11 bx0_12 bx0_13 bx1_0
  replace b0 := Blk.ext Z11 b0
  replace b1 := Blk.ext Z11 b1
  replace bx0 := Blk.ext Z11 bx0
  replace bx1 := Blk.ext Z11 bx1
  replace rr0 := sNetwork.ext Z11 rr0
  replace rr1 := strs.ext Z11 rr1
  clear Z11 hx10 hx11 O10
  have q_b0 := b0
  have b0_0 : w11.cell? ⟨w.heap.size, 0, none⟩ = some (.int .i64 x0.topology.size) := b0.cell 0
  have b0_1 : w11.cell? ⟨w.heap.size, 1, none⟩ = some (c0_1) := b0.cell 1
  have b0_2 : w11.cell? ⟨w.heap.size, 2, none⟩ = some (c0_2) := b0.cell 2
  have b0_3 : w11.cell? ⟨w.heap.size, 3, none⟩ = some (c0_3) := b0.cell 3
  have b0_4 : w11.cell? ⟨w.heap.size, 4, none⟩ = some (c0_4) := b0.cell 4
  have b0_5 : w11.cell? ⟨w.heap.size, 5, none⟩ = some (c0_5) := b0.cell 5
  have b0_6 : w11.cell? ⟨w.heap.size, 6, none⟩ = some (c0_6) := b0.cell 6
  have b0_7 : w11.cell? ⟨w.heap.size, 7, none⟩ = some (c0_7) := b0.cell 7
  have b0_8 : w11.cell? ⟨w.heap.size, 8, none⟩ = some (.int .i64 x0.downNodes) := b0.cell 8
  have b0_9 : w11.cell? ⟨w.heap.size, 9, none⟩ = some (c0_9) := b0.cell 9
  have b0_10 : w11.cell? ⟨w.heap.size, 10, none⟩ = some (c0_10) := b0.cell 10
  have b0_11 : w11.cell? ⟨w.heap.size, 11, none⟩ = some (c0_11) := b0.cell 11
  have b0_12 : w11.cell? ⟨w.heap.size, 12, none⟩ = some (.int .i64 x0.now) := b0.cell 12
  have b0_13 : w11.cell? ⟨w.heap.size, 13, none⟩ = some (.int .i64 x0.dropped) := b0.cell 13
  clear q_b0
  have q_b1 := b1
  have b1_0 : w11.cell? ⟨w.heap.size + 1, 0, none⟩ = some (c1_0) := b1.cell 0
  clear q_b1
  have q_bx0 := bx0
  have bx0_0 : w11.cell? ⟨w5.heap.size, 0, none⟩ = some (.int .i64 x0.topology.size) := bx0.cell 0
  have bx0_1 : w11.cell? ⟨w5.heap.size, 1, none⟩ = some (.slice A5_1 x0.topology.links.length k5_1) := bx0.cell 1
  have bx0_2 : w11.cell? ⟨w5.heap.size, 2, none⟩ = some (.slice A5_2 x0.trust.keys.length k5_2) := bx0.cell 2
  have bx0_3 : w11.cell? ⟨w5.heap.size, 3, none⟩ = some (.slice A5_3 x0.trust.rules.length k5_3) := bx0.cell 3
  have bx0_4 : w11.cell? ⟨w5.heap.size, 4, none⟩ = some (.slice A5_4 x0.trust.anchors.length k5_4) := bx0.cell 4
  have bx0_5 : w11.cell? ⟨w5.heap.size, 5, none⟩ = some (.slice A5_5 x0.trust.certificates.length k5_5) := bx0.cell 5
  have bx0_6 : w11.cell? ⟨w5.heap.size, 6, none⟩ = some (.slice A5_6 x0.producers.length k5_6) := bx0.cell 6
  have bx0_7 : w11.cell? ⟨w5.heap.size, 7, none⟩ = some (.slice A5_7 x0.nodes.length k5_7) := bx0.cell 7
  have bx0_8 : w11.cell? ⟨w5.heap.size, 8, none⟩ = some (.int .i64 x0.downNodes) := bx0.cell 8
  have bx0_9 : w11.cell? ⟨w5.heap.size, 9, none⟩ = some (.slice A5_9 x0.failedLinks.length k5_9) := bx0.cell 9
  have bx0_10 : w11.cell? ⟨w5.heap.size, 10, none⟩ = some (.slice A5_10 x0.inFlight.length k5_10) := bx0.cell 10
  have bx0_11 : w11.cell? ⟨w5.heap.size, 11, none⟩ = some (.slice A5_11 x0.consumers.length k5_11) := bx0.cell 11
  have bx0_12 : w11.cell? ⟨w5.heap.size, 12, none⟩ = some (.int .i64 x0.now) := bx0.cell 12
  have bx0_13 : w11.cell? ⟨w5.heap.size, 13, none⟩ = some (.int .i64 x0.dropped) := bx0.cell 13
  clear q_bx0
  have q_bx1 := bx1
  have bx1_0 : w11.cell? ⟨w6.heap.size, 0, none⟩ = some (.slice A6_0 x1.length k6_0) := bx1.cell 0
  clear q_bx1
  go_wp2
  go_ret
  exact ⟨rfl, E11⟩

end Go.Proofs.YtjdhggkbdognnaaGreat
