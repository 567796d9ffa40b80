/- The walk of laws.FnExactLargestNode: it answers true. Printed by genexact.py. -/
import Derived.Test.YtogjaminmgiofaaGreatFamSz
import Derived.Test.YtogjaminmgiofaaGreatFamTo
import Derived.Test.YtogjaminmgiofaaGreatFamEq
import Derived.Test.YtogjaminmgiofaaGreatWkLargest
import Derived.Deep.RegionHeld3
import Derived.Deep.DrawnRows
namespace Go.Proofs.YtogjaminmgiofaaGreat
open Go.RowKit
set_option linter.unusedVariables false
attribute [local go_sem ↓] Go.wp_at_zero Go.wp_at_succ

set_option maxHeartbeats 4000000 in
theorem lawFnExactLargestNode (cs0 : List Value) (x0 : DNetwork) (w : World) (h0 : sNetwork.rd w cs0 x0) :
    Calls Tryz.prog 7 #[.agg cs0.toArray] w fun e w' => e = .returned (.bool true) ∧ Ext w w' := by
  have k0 := h0
  obtain ⟨c0_1, c0_2, c0_3, c0_4, c0_5, c0_6, c0_7, c0_9, c0_10, c0_11, rfl, _⟩ := sNetwork_rd k0
  clear k0
  go_enter Tryz.func7, Tryz.ntmps7
  go_wp2_with fail
  refine (szNetwork_c _ x0 _ _ (sNetwork.ext ((Ext.refl w).alloc _) h0) (by omega) (by omega)).mono ?_
  rintro e w0 ⟨rfl, hx0⟩
  have E0 : Ext w w0 := Ext.trans ((Ext.refl w).alloc _) hx0
  have b0 : Blk w0 (w.heap.size) 37 #[.int .i64 x0.topology.size, c0_1, c0_2, c0_3, c0_4, c0_5, c0_6, c0_7, .int .i64 x0.downNodes, c0_9, c0_10, c0_11, .int .i64 x0.now, .int .i64 x0.dropped] := Blk.ext hx0 (Blk.new_at (by simp))
  clear hx0
  by_cases hq0 : remain (1048576) (szNetwork x0) < 0
  · go_wp2
    go_ret
    exact ⟨rfl, E0⟩
  obtain ⟨hp0, hv0⟩ := remain_pos (Int.not_lt.1 hq0)
  rw [hv0] at hq0 ⊢
  clear hv0
  have hs0 : szNetwork x0 ≤ 1048576 := by omega
  have q_b0 := b0
  have b0_0 : w0.cell? ⟨w.heap.size, 0, none⟩ = some (.int .i64 x0.topology.size) := b0.cell 0
  have b0_1 : w0.cell? ⟨w.heap.size, 1, none⟩ = some (c0_1) := b0.cell 1
  have b0_2 : w0.cell? ⟨w.heap.size, 2, none⟩ = some (c0_2) := b0.cell 2
  have b0_3 : w0.cell? ⟨w.heap.size, 3, none⟩ = some (c0_3) := b0.cell 3
  have b0_4 : w0.cell? ⟨w.heap.size, 4, none⟩ = some (c0_4) := b0.cell 4
  have b0_5 : w0.cell? ⟨w.heap.size, 5, none⟩ = some (c0_5) := b0.cell 5
  have b0_6 : w0.cell? ⟨w.heap.size, 6, none⟩ = some (c0_6) := b0.cell 6
  have b0_7 : w0.cell? ⟨w.heap.size, 7, none⟩ = some (c0_7) := b0.cell 7
  have b0_8 : w0.cell? ⟨w.heap.size, 8, none⟩ = some (.int .i64 x0.downNodes) := b0.cell 8
  have b0_9 : w0.cell? ⟨w.heap.size, 9, none⟩ = some (c0_9) := b0.cell 9
  have b0_10 : w0.cell? ⟨w.heap.size, 10, none⟩ = some (c0_10) := b0.cell 10
  have b0_11 : w0.cell? ⟨w.heap.size, 11, none⟩ = some (c0_11) := b0.cell 11
  have b0_12 : w0.cell? ⟨w.heap.size, 12, none⟩ = some (.int .i64 x0.now) := b0.cell 12
  have b0_13 : w0.cell? ⟨w.heap.size, 13, none⟩ = some (.int .i64 x0.dropped) := b0.cell 13
  clear q_b0
  go_wp2_with fail
  refine (toNetwork_c _ x0 _ (sNetwork.ext E0 h0) (by omega)).mono ?_
  rintro e w1 ⟨⟨r1, rfl, O1⟩, hx1⟩
  obtain ⟨e1_1, e1_2, e1_3, e1_4, e1_5, e1_6, e1_7, e1_9, e1_10, e1_11, rfl, _⟩ := sNetwork_rd O1.rd
  go_wp2_with fail
  refine (specLargestNode_c _ x0 _ O1.rd).mono ?_
  rintro e w2 ⟨rfl, hx2⟩
  have E2 : Ext w w2 := ((E0).trans hx1).trans hx2
  clear b0_0 b0_1 b0_2 b0_3 b0_4 b0_5 b0_6 b0_7 b0_8 b0_9 b0_10 b0_11 b0_12 b0_13
  replace b0 := Blk.ext hx2 (Blk.ext hx1 b0)
  clear hx1 hx2 O1
  have q_b0 := b0
  have b0_0 : w2.cell? ⟨w.heap.size, 0, none⟩ = some (.int .i64 x0.topology.size) := b0.cell 0
  have b0_1 : w2.cell? ⟨w.heap.size, 1, none⟩ = some (c0_1) := b0.cell 1
  have b0_2 : w2.cell? ⟨w.heap.size, 2, none⟩ = some (c0_2) := b0.cell 2
  have b0_3 : w2.cell? ⟨w.heap.size, 3, none⟩ = some (c0_3) := b0.cell 3
  have b0_4 : w2.cell? ⟨w.heap.size, 4, none⟩ = some (c0_4) := b0.cell 4
  have b0_5 : w2.cell? ⟨w.heap.size, 5, none⟩ = some (c0_5) := b0.cell 5
  have b0_6 : w2.cell? ⟨w.heap.size, 6, none⟩ = some (c0_6) := b0.cell 6
  have b0_7 : w2.cell? ⟨w.heap.size, 7, none⟩ = some (c0_7) := b0.cell 7
  have b0_8 : w2.cell? ⟨w.heap.size, 8, none⟩ = some (.int .i64 x0.downNodes) := b0.cell 8
  have b0_9 : w2.cell? ⟨w.heap.size, 9, none⟩ = some (c0_9) := b0.cell 9
  have b0_10 : w2.cell? ⟨w.heap.size, 10, none⟩ = some (c0_10) := b0.cell 10
  have b0_11 : w2.cell? ⟨w.heap.size, 11, none⟩ = some (c0_11) := b0.cell 11
  have b0_12 : w2.cell? ⟨w.heap.size, 12, none⟩ = some (.int .i64 x0.now) := b0.cell 12
  have b0_13 : w2.cell? ⟨w.heap.size, 13, none⟩ = some (.int .i64 x0.dropped) := b0.cell 13
  clear q_b0
  go_wp2_with fail
  refine (toNetwork_c _ x0 _ (sNetwork.ext (E2) h0) (by omega)).mono ?_
  rintro e w3 ⟨⟨r3, rfl, O3⟩, hx3⟩
  have E3 : Ext w w3 := (E2).trans hx3
  clear b0_0 b0_1 b0_2 b0_3 b0_4 b0_5 b0_6 b0_7 b0_8 b0_9 b0_10 b0_11 b0_12 b0_13
  replace b0 := Blk.ext hx3 b0
  have rr0 := O3.rd
  obtain ⟨e3_1, e3_2, e3_3, e3_4, e3_5, e3_6, e3_7, e3_9, e3_10, e3_11, rfl, _⟩ := sNetwork_rd rr0
  obtain ⟨A3_1, k3_1, rfl, _, _⟩ := Shape.sl_form (sTopology_f1 (sNetwork_f0 rr0))
  obtain ⟨A3_2, k3_2, rfl, _, _⟩ := Shape.sl_form (sTrustPolicy_f0 (sNetwork_f1 rr0))
  obtain ⟨A3_3, k3_3, rfl, _, _⟩ := Shape.sl_form (sTrustPolicy_f1 (sNetwork_f1 rr0))
  obtain ⟨A3_4, k3_4, rfl, _, _⟩ := Shape.sl_form (sTrustPolicy_f2 (sNetwork_f1 rr0))
  obtain ⟨A3_5, k3_5, rfl, _, _⟩ := Shape.sl_form (sTrustPolicy_f3 (sNetwork_f1 rr0))
  obtain ⟨A3_6, k3_6, rfl, _, _⟩ := Shape.sl_form (sNetwork_f2 rr0)
  obtain ⟨A3_7, k3_7, rfl, _, _⟩ := Shape.sl_form (sNetwork_f3 rr0)
  obtain ⟨A3_9, k3_9, rfl, _, _⟩ := Shape.sl_form (sNetwork_f5 rr0)
  obtain ⟨A3_10, k3_10, rfl, _, _⟩ := Shape.sl_form (sNetwork_f6 rr0)
  obtain ⟨A3_11, k3_11, rfl, _, _⟩ := Shape.sl_form (sNetwork_f7 rr0)
  clear hx3 O3
  have lt_b0 := b0.lt
  have q_b0 := b0
  have b0_0 : w3.cell? ⟨w.heap.size, 0, none⟩ = some (.int .i64 x0.topology.size) := b0.cell 0
  have b0_1 : w3.cell? ⟨w.heap.size, 1, none⟩ = some (c0_1) := b0.cell 1
  have b0_2 : w3.cell? ⟨w.heap.size, 2, none⟩ = some (c0_2) := b0.cell 2
  have b0_3 : w3.cell? ⟨w.heap.size, 3, none⟩ = some (c0_3) := b0.cell 3
  have b0_4 : w3.cell? ⟨w.heap.size, 4, none⟩ = some (c0_4) := b0.cell 4
  have b0_5 : w3.cell? ⟨w.heap.size, 5, none⟩ = some (c0_5) := b0.cell 5
  have b0_6 : w3.cell? ⟨w.heap.size, 6, none⟩ = some (c0_6) := b0.cell 6
  have b0_7 : w3.cell? ⟨w.heap.size, 7, none⟩ = some (c0_7) := b0.cell 7
  have b0_8 : w3.cell? ⟨w.heap.size, 8, none⟩ = some (.int .i64 x0.downNodes) := b0.cell 8
  have b0_9 : w3.cell? ⟨w.heap.size, 9, none⟩ = some (c0_9) := b0.cell 9
  have b0_10 : w3.cell? ⟨w.heap.size, 10, none⟩ = some (c0_10) := b0.cell 10
  have b0_11 : w3.cell? ⟨w.heap.size, 11, none⟩ = some (c0_11) := b0.cell 11
  have b0_12 : w3.cell? ⟨w.heap.size, 12, none⟩ = some (.int .i64 x0.now) := b0.cell 12
  have b0_13 : w3.cell? ⟨w.heap.size, 13, none⟩ = some (.int .i64 x0.dropped) := b0.cell 13
  clear q_b0
  go_wp2_with fail
  refine (implLargestNode_c _ x0 _ (sNetwork.ext ((Ext.refl _).alloc _) rr0)).mono ?_
  rintro e w4 ⟨rfl, hx4⟩
  have E4 : Ext w w4 := ((E3).alloc _).trans hx4
  have Z4 : Ext w3 w4 := ((Ext.refl _).alloc _).trans hx4
  clear b0_0 b0_1 b0_2 b0_3 b0_4 b0_5 b0_6 b0_7 b0_8 b0_9 b0_10 b0_11 b0_12 b0_13
  replace b0 := Blk.ext Z4 b0
  have bx0 : Blk w4 (w3.heap.size) 54 #[.int .i64 x0.topology.size, .slice A3_1 x0.topology.links.length k3_1, .slice A3_2 x0.trust.keys.length k3_2, .slice A3_3 x0.trust.rules.length k3_3, .slice A3_4 x0.trust.anchors.length k3_4, .slice A3_5 x0.trust.certificates.length k3_5, .slice A3_6 x0.producers.length k3_6, .slice A3_7 x0.nodes.length k3_7, .int .i64 x0.downNodes, .slice A3_9 x0.failedLinks.length k3_9, .slice A3_10 x0.inFlight.length k3_10, .slice A3_11 x0.consumers.length k3_11, .int .i64 x0.now, .int .i64 x0.dropped] := Blk.ext hx4 (Blk.new _ _ _)
  replace rr0 := sNetwork.ext Z4 rr0
  clear Z4 hx4
  have ltt_b0 := b0.lt
  have ltt_bx0 := bx0.lt
  have q_b0 := b0
  have b0_0 : w4.cell? ⟨w.heap.size, 0, none⟩ = some (.int .i64 x0.topology.size) := b0.cell 0
  have b0_1 : w4.cell? ⟨w.heap.size, 1, none⟩ = some (c0_1) := b0.cell 1
  have b0_2 : w4.cell? ⟨w.heap.size, 2, none⟩ = some (c0_2) := b0.cell 2
  have b0_3 : w4.cell? ⟨w.heap.size, 3, none⟩ = some (c0_3) := b0.cell 3
  have b0_4 : w4.cell? ⟨w.heap.size, 4, none⟩ = some (c0_4) := b0.cell 4
  have b0_5 : w4.cell? ⟨w.heap.size, 5, none⟩ = some (c0_5) := b0.cell 5
  have b0_6 : w4.cell? ⟨w.heap.size, 6, none⟩ = some (c0_6) := b0.cell 6
  have b0_7 : w4.cell? ⟨w.heap.size, 7, none⟩ = some (c0_7) := b0.cell 7
  have b0_8 : w4.cell? ⟨w.heap.size, 8, none⟩ = some (.int .i64 x0.downNodes) := b0.cell 8
  have b0_9 : w4.cell? ⟨w.heap.size, 9, none⟩ = some (c0_9) := b0.cell 9
  have b0_10 : w4.cell? ⟨w.heap.size, 10, none⟩ = some (c0_10) := b0.cell 10
  have b0_11 : w4.cell? ⟨w.heap.size, 11, none⟩ = some (c0_11) := b0.cell 11
  have b0_12 : w4.cell? ⟨w.heap.size, 12, none⟩ = some (.int .i64 x0.now) := b0.cell 12
  have b0_13 : w4.cell? ⟨w.heap.size, 13, none⟩ = some (.int .i64 x0.dropped) := b0.cell 13
  clear q_b0
  have q_bx0 := bx0
  have bx0_0 : w4.cell? ⟨w3.heap.size, 0, none⟩ = some (.int .i64 x0.topology.size) := bx0.cell 0
  have bx0_1 : w4.cell? ⟨w3.heap.size, 1, none⟩ = some (.slice A3_1 x0.topology.links.length k3_1) := bx0.cell 1
  have bx0_2 : w4.cell? ⟨w3.heap.size, 2, none⟩ = some (.slice A3_2 x0.trust.keys.length k3_2) := bx0.cell 2
  have bx0_3 : w4.cell? ⟨w3.heap.size, 3, none⟩ = some (.slice A3_3 x0.trust.rules.length k3_3) := bx0.cell 3
  have bx0_4 : w4.cell? ⟨w3.heap.size, 4, none⟩ = some (.slice A3_4 x0.trust.anchors.length k3_4) := bx0.cell 4
  have bx0_5 : w4.cell? ⟨w3.heap.size, 5, none⟩ = some (.slice A3_5 x0.trust.certificates.length k3_5) := bx0.cell 5
  have bx0_6 : w4.cell? ⟨w3.heap.size, 6, none⟩ = some (.slice A3_6 x0.producers.length k3_6) := bx0.cell 6
  have bx0_7 : w4.cell? ⟨w3.heap.size, 7, none⟩ = some (.slice A3_7 x0.nodes.length k3_7) := bx0.cell 7
  have bx0_8 : w4.cell? ⟨w3.heap.size, 8, none⟩ = some (.int .i64 x0.downNodes) := bx0.cell 8
  have bx0_9 : w4.cell? ⟨w3.heap.size, 9, none⟩ = some (.slice A3_9 x0.failedLinks.length k3_9) := bx0.cell 9
  have bx0_10 : w4.cell? ⟨w3.heap.size, 10, none⟩ = some (.slice A3_10 x0.inFlight.length k3_10) := bx0.cell 10
  have bx0_11 : w4.cell? ⟨w3.heap.size, 11, none⟩ = some (.slice A3_11 x0.consumers.length k3_11) := bx0.cell 11
  have bx0_12 : w4.cell? ⟨w3.heap.size, 12, none⟩ = some (.int .i64 x0.now) := bx0.cell 12
  have bx0_13 : w4.cell? ⟨w3.heap.size, 13, none⟩ = some (.int .i64 x0.dropped) := bx0.cell 13
  clear q_bx0
  have hsame : (largest x0.nodes != largest x0.nodes) = false := by simp
  go_wp2
  go_region_held3 (fun w' => w'.cell? ⟨w.heap.size, 0, none⟩ = some (.int .i64 x0.topology.size) ∧ w'.cell? ⟨w.heap.size, 1, none⟩ = some (c0_1) ∧ w'.cell? ⟨w.heap.size, 2, none⟩ = some (c0_2) ∧ w'.cell? ⟨w.heap.size, 3, none⟩ = some (c0_3) ∧ w'.cell? ⟨w.heap.size, 4, none⟩ = some (c0_4) ∧ w'.cell? ⟨w.heap.size, 5, none⟩ = some (c0_5) ∧ w'.cell? ⟨w.heap.size, 6, none⟩ = some (c0_6) ∧ w'.cell? ⟨w.heap.size, 7, none⟩ = some (c0_7) ∧ w'.cell? ⟨w.heap.size, 8, none⟩ = some (.int .i64 x0.downNodes) ∧ w'.cell? ⟨w.heap.size, 9, none⟩ = some (c0_9) ∧ w'.cell? ⟨w.heap.size, 10, none⟩ = some (c0_10) ∧ w'.cell? ⟨w.heap.size, 11, none⟩ = some (c0_11) ∧ w'.cell? ⟨w.heap.size, 12, none⟩ = some (.int .i64 x0.now) ∧ w'.cell? ⟨w.heap.size, 13, none⟩ = some (.int .i64 x0.dropped) ∧ w'.cell? ⟨w3.heap.size, 0, none⟩ = some (.int .i64 x0.topology.size) ∧ w'.cell? ⟨w3.heap.size, 1, none⟩ = some (.slice A3_1 x0.topology.links.length k3_1) ∧ w'.cell? ⟨w3.heap.size, 2, none⟩ = some (.slice A3_2 x0.trust.keys.length k3_2) ∧ w'.cell? ⟨w3.heap.size, 3, none⟩ = some (.slice A3_3 x0.trust.rules.length k3_3) ∧ w'.cell? ⟨w3.heap.size, 4, none⟩ = some (.slice A3_4 x0.trust.anchors.length k3_4) ∧ w'.cell? ⟨w3.heap.size, 5, none⟩ = some (.slice A3_5 x0.trust.certificates.length k3_5) ∧ w'.cell? ⟨w3.heap.size, 6, none⟩ = some (.slice A3_6 x0.producers.length k3_6) ∧ w'.cell? ⟨w3.heap.size, 7, none⟩ = some (.slice A3_7 x0.nodes.length k3_7) ∧ w'.cell? ⟨w3.heap.size, 8, none⟩ = some (.int .i64 x0.downNodes) ∧ w'.cell? ⟨w3.heap.size, 9, none⟩ = some (.slice A3_9 x0.failedLinks.length k3_9) ∧ w'.cell? ⟨w3.heap.size, 10, none⟩ = some (.slice A3_10 x0.inFlight.length k3_10) ∧ w'.cell? ⟨w3.heap.size, 11, none⟩ = some (.slice A3_11 x0.consumers.length k3_11) ∧ w'.cell? ⟨w3.heap.size, 12, none⟩ = some (.int .i64 x0.now) ∧ w'.cell? ⟨w3.heap.size, 13, none⟩ = some (.int .i64 x0.dropped)) (((repeat' apply And.intro) <;> (first | assumption | exact hx6.cell (hx5.cell (by assumption)) | exact hx5.cell (by assumption))))
    (first | (go_at_call 14; refine (toNetwork_c _ x0 _ (sNetwork.ext ((E4).drew) h0) (by omega)).mono ?_; rintro e w5 ⟨⟨r5, rfl, O5⟩, hx5⟩) | (go_at_call 16; refine (eqNetwork_c _ _ x0 _ (sNetwork.ext ((Ext.refl w4).drew.trans hx5) rr0) O5.rd).mono ?_; rintro e w6 ⟨rfl, hx6⟩))
  have E6 : Ext w w6 := (((E4).drew).trans hx5).trans hx6
  have Z6 : Ext w4 w6 := (((Ext.refl w4).drew).trans hx5).trans hx6
  clear b0_0 b0_1 b0_2 b0_3 b0_4 b0_5 b0_6 b0_7 b0_8 b0_9 b0_10 b0_11 b0_12 b0_13 bx0_0 bx0_1 bx0_2 bx0_3 bx0_4 bx0_5 bx0_6 bx0_7 bx0_8 bx0_9 bx0_10 bx0_11 bx0_12 bx0_13
  replace b0 := Blk.ext Z6 b0
  replace bx0 := Blk.ext Z6 bx0
  replace rr0 := sNetwork.ext Z6 rr0
  clear Z6 hx5 hx6 O5
  have q_b0 := b0
  have b0_0 : w6.cell? ⟨w.heap.size, 0, none⟩ = some (.int .i64 x0.topology.size) := b0.cell 0
  have b0_1 : w6.cell? ⟨w.heap.size, 1, none⟩ = some (c0_1) := b0.cell 1
  have b0_2 : w6.cell? ⟨w.heap.size, 2, none⟩ = some (c0_2) := b0.cell 2
  have b0_3 : w6.cell? ⟨w.heap.size, 3, none⟩ = some (c0_3) := b0.cell 3
  have b0_4 : w6.cell? ⟨w.heap.size, 4, none⟩ = some (c0_4) := b0.cell 4
  have b0_5 : w6.cell? ⟨w.heap.size, 5, none⟩ = some (c0_5) := b0.cell 5
  have b0_6 : w6.cell? ⟨w.heap.size, 6, none⟩ = some (c0_6) := b0.cell 6
  have b0_7 : w6.cell? ⟨w.heap.size, 7, none⟩ = some (c0_7) := b0.cell 7
  have b0_8 : w6.cell? ⟨w.heap.size, 8, none⟩ = some (.int .i64 x0.downNodes) := b0.cell 8
  have b0_9 : w6.cell? ⟨w.heap.size, 9, none⟩ = some (c0_9) := b0.cell 9
  have b0_10 : w6.cell? ⟨w.heap.size, 10, none⟩ = some (c0_10) := b0.cell 10
  have b0_11 : w6.cell? ⟨w.heap.size, 11, none⟩ = some (c0_11) := b0.cell 11
  have b0_12 : w6.cell? ⟨w.heap.size, 12, none⟩ = some (.int .i64 x0.now) := b0.cell 12
  have b0_13 : w6.cell? ⟨w.heap.size, 13, none⟩ = some (.int .i64 x0.dropped) := b0.cell 13
  clear q_b0
  have q_bx0 := bx0
  have bx0_0 : w6.cell? ⟨w3.heap.size, 0, none⟩ = some (.int .i64 x0.topology.size) := bx0.cell 0
  have bx0_1 : w6.cell? ⟨w3.heap.size, 1, none⟩ = some (.slice A3_1 x0.topology.links.length k3_1) := bx0.cell 1
  have bx0_2 : w6.cell? ⟨w3.heap.size, 2, none⟩ = some (.slice A3_2 x0.trust.keys.length k3_2) := bx0.cell 2
  have bx0_3 : w6.cell? ⟨w3.heap.size, 3, none⟩ = some (.slice A3_3 x0.trust.rules.length k3_3) := bx0.cell 3
  have bx0_4 : w6.cell? ⟨w3.heap.size, 4, none⟩ = some (.slice A3_4 x0.trust.anchors.length k3_4) := bx0.cell 4
  have bx0_5 : w6.cell? ⟨w3.heap.size, 5, none⟩ = some (.slice A3_5 x0.trust.certificates.length k3_5) := bx0.cell 5
  have bx0_6 : w6.cell? ⟨w3.heap.size, 6, none⟩ = some (.slice A3_6 x0.producers.length k3_6) := bx0.cell 6
  have bx0_7 : w6.cell? ⟨w3.heap.size, 7, none⟩ = some (.slice A3_7 x0.nodes.length k3_7) := bx0.cell 7
  have bx0_8 : w6.cell? ⟨w3.heap.size, 8, none⟩ = some (.int .i64 x0.downNodes) := bx0.cell 8
  have bx0_9 : w6.cell? ⟨w3.heap.size, 9, none⟩ = some (.slice A3_9 x0.failedLinks.length k3_9) := bx0.cell 9
  have bx0_10 : w6.cell? ⟨w3.heap.size, 10, none⟩ = some (.slice A3_10 x0.inFlight.length k3_10) := bx0.cell 10
  have bx0_11 : w6.cell? ⟨w3.heap.size, 11, none⟩ = some (.slice A3_11 x0.consumers.length k3_11) := bx0.cell 11
  have bx0_12 : w6.cell? ⟨w3.heap.size, 12, none⟩ = some (.int .i64 x0.now) := bx0.cell 12
  have bx0_13 : w6.cell? ⟨w3.heap.size, 13, none⟩ = some (.int .i64 x0.dropped) := bx0.cell 13
  clear q_bx0
  go_wp2
  go_ret
  exact ⟨rfl, E6⟩

end Go.Proofs.YtogjaminmgiofaaGreat
