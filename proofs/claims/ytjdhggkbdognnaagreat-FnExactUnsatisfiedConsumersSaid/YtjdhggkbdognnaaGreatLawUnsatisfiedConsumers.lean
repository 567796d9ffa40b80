/- The walk of laws.FnExactUnsatisfiedConsumers: it answers true. Printed by genexact.py. -/
import Derived.Test.YtjdhggkbdognnaaGreatFamSz
import Derived.Test.YtjdhggkbdognnaaGreatFamTo
import Derived.Test.YtjdhggkbdognnaaGreatFamEq
import Derived.Test.YtjdhggkbdognnaaGreatUn
import Derived.Test.YtjdhggkbdognnaaGreatInts
import Derived.Test.YtjdhggkbdognnaaGreatMkNet
import Derived.Deep.RegionHeld3
import Derived.Deep.DrawnRows
namespace Go.Proofs.YtjdhggkbdognnaaGreat
open Go.RowKit
set_option linter.unusedVariables false
set_option linter.unusedSimpArgs false
set_option linter.unusedSectionVars false
attribute [local go_sem ↓] Go.wp_at_zero Go.wp_at_succ

set_option maxHeartbeats 4000000 in
theorem lawFnExactUnsatisfiedConsumers (cs0 : List Value) (x0 : DNetwork) (w : World) (h0 : sNetwork.rd w cs0 x0) :
    Calls Tryz.prog 5 #[.agg cs0.toArray] w fun e w' => e = .returned (.bool true) ∧ Ext w w' := by
  have k0 := h0
  obtain ⟨c0_1, c0_2, c0_3, c0_4, c0_5, c0_6, c0_7, c0_9, c0_10, c0_11, rfl, _⟩ := sNetwork_rd k0
  clear k0
  go_enter Tryz.func5, Tryz.ntmps5
  go_wp2_with fail
  refine (szNetwork_c _ x0 _ _ (sNetwork.ext ((Ext.refl w).alloc _) h0) (by omega) (by omega)).mono ?_
  rintro e w0 ⟨rfl, hx0⟩
  have E0 : Ext w w0 := Ext.trans ((Ext.refl w).alloc _) hx0
  have b0 : Blk w0 (w.heap.size) 37 #[.int .i64 x0.topology.size, c0_1, c0_2, c0_3, c0_4, c0_5, c0_6, c0_7, .int .i64 x0.downNodes, c0_9, c0_10, c0_11, .int .i64 x0.now, .int .i64 x0.dropped] := Blk.ext hx0 (Blk.new_at (by simp))
  clear hx0
  by_cases hq0 : remain (1048576) (szNetwork x0) < 0
  · go_wp2
    go_ret
    exact ⟨rfl, E0⟩
  obtain ⟨hp0, hv0⟩ := remain_pos (Int.not_lt.1 hq0)
  rw [hv0] at hq0 ⊢
  clear hv0
  have hs0 : szNetwork x0 ≤ 1048576 := by omega
  have q_b0 := b0
  have b0_0 : w0.cell? ⟨w.heap.size, 0, none⟩ = some (.int .i64 x0.topology.size) := b0.cell 0
  have b0_1 : w0.cell? ⟨w.heap.size, 1, none⟩ = some (c0_1) := b0.cell 1
  have b0_2 : w0.cell? ⟨w.heap.size, 2, none⟩ = some (c0_2) := b0.cell 2
  have b0_3 : w0.cell? ⟨w.heap.size, 3, none⟩ = some (c0_3) := b0.cell 3
  have b0_4 : w0.cell? ⟨w.heap.size, 4, none⟩ = some (c0_4) := b0.cell 4
  have b0_5 : w0.cell? ⟨w.heap.size, 5, none⟩ = some (c0_5) := b0.cell 5
  have b0_6 : w0.cell? ⟨w.heap.size, 6, none⟩ = some (c0_6) := b0.cell 6
  have b0_7 : w0.cell? ⟨w.heap.size, 7, none⟩ = some (c0_7) := b0.cell 7
  have b0_8 : w0.cell? ⟨w.heap.size, 8, none⟩ = some (.int .i64 x0.downNodes) := b0.cell 8
  have b0_9 : w0.cell? ⟨w.heap.size, 9, none⟩ = some (c0_9) := b0.cell 9
  have b0_10 : w0.cell? ⟨w.heap.size, 10, none⟩ = some (c0_10) := b0.cell 10
  have b0_11 : w0.cell? ⟨w.heap.size, 11, none⟩ = some (c0_11) := b0.cell 11
  have b0_12 : w0.cell? ⟨w.heap.size, 12, none⟩ = some (.int .i64 x0.now) := b0.cell 12
  have b0_13 : w0.cell? ⟨w.heap.size, 13, none⟩ = some (.int .i64 x0.dropped) := b0.cell 13
  clear q_b0
  go_wp2_with fail
  refine (toNetwork_c _ x0 _ (sNetwork.ext E0 h0) (by omega)).mono ?_
  rintro e w1 ⟨⟨r1, rfl, O1⟩, hx1⟩
  obtain ⟨e1_1, e1_2, e1_3, e1_4, e1_5, e1_6, e1_7, e1_9, e1_10, e1_11, rfl, _⟩ := sNetwork_rd O1.rd
  have lt1_b0 := b0.lt
  go_wp2_with fail
  refine (specUnsatisfiedConsumers_c _ x0 _ O1.rd hs0).mono ?_
  rintro e w2 ⟨⟨gw, rfl, OW⟩, hx2⟩
  obtain ⟨lW, hW, KW, bW⟩ : ∃ lo hi, Owned sInts lo hi w2 [gw] (unsatisfied x0.consumers) ∧ w0.heap.size ≤ lo := ⟨_, _, ⟨OW, Nat.le_refl _, hx2.size⟩, hx1.size⟩
  have cW : lW ≤ hW := KW.2.2
  clear OW
  have E2 : Ext w w2 := ((E0).trans hx1).trans hx2
  clear b0_0 b0_1 b0_2 b0_3 b0_4 b0_5 b0_6 b0_7 b0_8 b0_9 b0_10 b0_11 b0_12 b0_13
  replace b0 := Blk.ext hx2 (Blk.ext hx1 b0)
  clear hx1 hx2 O1
  have q_b0 := b0
  have b0_0 : w2.cell? ⟨w.heap.size, 0, none⟩ = some (.int .i64 x0.topology.size) := b0.cell 0
  have b0_1 : w2.cell? ⟨w.heap.size, 1, none⟩ = some (c0_1) := b0.cell 1
  have b0_2 : w2.cell? ⟨w.heap.size, 2, none⟩ = some (c0_2) := b0.cell 2
  have b0_3 : w2.cell? ⟨w.heap.size, 3, none⟩ = some (c0_3) := b0.cell 3
  have b0_4 : w2.cell? ⟨w.heap.size, 4, none⟩ = some (c0_4) := b0.cell 4
  have b0_5 : w2.cell? ⟨w.heap.size, 5, none⟩ = some (c0_5) := b0.cell 5
  have b0_6 : w2.cell? ⟨w.heap.size, 6, none⟩ = some (c0_6) := b0.cell 6
  have b0_7 : w2.cell? ⟨w.heap.size, 7, none⟩ = some (c0_7) := b0.cell 7
  have b0_8 : w2.cell? ⟨w.heap.size, 8, none⟩ = some (.int .i64 x0.downNodes) := b0.cell 8
  have b0_9 : w2.cell? ⟨w.heap.size, 9, none⟩ = some (c0_9) := b0.cell 9
  have b0_10 : w2.cell? ⟨w.heap.size, 10, none⟩ = some (c0_10) := b0.cell 10
  have b0_11 : w2.cell? ⟨w.heap.size, 11, none⟩ = some (c0_11) := b0.cell 11
  have b0_12 : w2.cell? ⟨w.heap.size, 12, none⟩ = some (.int .i64 x0.now) := b0.cell 12
  have b0_13 : w2.cell? ⟨w.heap.size, 13, none⟩ = some (.int .i64 x0.dropped) := b0.cell 13
  clear q_b0
  go_wp2_with fail
  refine (toNetwork_c _ x0 _ (sNetwork.ext (E2) h0) (by omega)).mono ?_
  rintro e w3 ⟨⟨r3, rfl, O3⟩, hx3⟩
  have E3 : Ext w w3 := (E2).trans hx3
  clear b0_0 b0_1 b0_2 b0_3 b0_4 b0_5 b0_6 b0_7 b0_8 b0_9 b0_10 b0_11 b0_12 b0_13
  replace b0 := Blk.ext hx3 b0
  obtain ⟨lX0, hX0, KX0, bX0⟩ : ∃ lo hi, Owned sNetwork lo hi w3 _ x0 ∧ hW ≤ lo := ⟨_, _, ⟨O3, Nat.le_refl _, hx3.size⟩, KW.2.1⟩
  replace KW := KW.ext hx3
  have cX0 : lX0 ≤ hX0 := KX0.2.2
  have nX0 : hX0 ≤ w3.heap.size := KX0.2.1
  have rr0 := O3.rd
  obtain ⟨e3_1, e3_2, e3_3, e3_4, e3_5, e3_6, e3_7, e3_9, e3_10, e3_11, rfl, _⟩ := sNetwork_rd rr0
  obtain ⟨A3_1, k3_1, rfl, _, _⟩ := Shape.sl_form (sTopology_f1 (sNetwork_f0 rr0))
  obtain ⟨A3_2, k3_2, rfl, _, _⟩ := Shape.sl_form (sTrustPolicy_f0 (sNetwork_f1 rr0))
  obtain ⟨A3_3, k3_3, rfl, _, _⟩ := Shape.sl_form (sTrustPolicy_f1 (sNetwork_f1 rr0))
  obtain ⟨A3_4, k3_4, rfl, _, _⟩ := Shape.sl_form (sTrustPolicy_f2 (sNetwork_f1 rr0))
  obtain ⟨A3_5, k3_5, rfl, _, _⟩ := Shape.sl_form (sTrustPolicy_f3 (sNetwork_f1 rr0))
  obtain ⟨A3_6, k3_6, rfl, _, _⟩ := Shape.sl_form (sNetwork_f2 rr0)
  obtain ⟨A3_7, k3_7, rfl, _, _⟩ := Shape.sl_form (sNetwork_f3 rr0)
  obtain ⟨A3_9, k3_9, rfl, _, _⟩ := Shape.sl_form (sNetwork_f5 rr0)
  obtain ⟨A3_10, k3_10, rfl, _, _⟩ := Shape.sl_form (sNetwork_f6 rr0)
  obtain ⟨A3_11, k3_11, rfl, _, _⟩ := Shape.sl_form (sNetwork_f7 rr0)
  clear hx3 O3
  have lt_b0 := b0.lt
  have q_b0 := b0
  have b0_0 : w3.cell? ⟨w.heap.size, 0, none⟩ = some (.int .i64 x0.topology.size) := b0.cell 0
  have b0_1 : w3.cell? ⟨w.heap.size, 1, none⟩ = some (c0_1) := b0.cell 1
  have b0_2 : w3.cell? ⟨w.heap.size, 2, none⟩ = some (c0_2) := b0.cell 2
  have b0_3 : w3.cell? ⟨w.heap.size, 3, none⟩ = some (c0_3) := b0.cell 3
  have b0_4 : w3.cell? ⟨w.heap.size, 4, none⟩ = some (c0_4) := b0.cell 4
  have b0_5 : w3.cell? ⟨w.heap.size, 5, none⟩ = some (c0_5) := b0.cell 5
  have b0_6 : w3.cell? ⟨w.heap.size, 6, none⟩ = some (c0_6) := b0.cell 6
  have b0_7 : w3.cell? ⟨w.heap.size, 7, none⟩ = some (c0_7) := b0.cell 7
  have b0_8 : w3.cell? ⟨w.heap.size, 8, none⟩ = some (.int .i64 x0.downNodes) := b0.cell 8
  have b0_9 : w3.cell? ⟨w.heap.size, 9, none⟩ = some (c0_9) := b0.cell 9
  have b0_10 : w3.cell? ⟨w.heap.size, 10, none⟩ = some (c0_10) := b0.cell 10
  have b0_11 : w3.cell? ⟨w.heap.size, 11, none⟩ = some (c0_11) := b0.cell 11
  have b0_12 : w3.cell? ⟨w.heap.size, 12, none⟩ = some (.int .i64 x0.now) := b0.cell 12
  have b0_13 : w3.cell? ⟨w.heap.size, 13, none⟩ = some (.int .i64 x0.dropped) := b0.cell 13
  clear q_b0
  go_wp2_with fail
  refine (implUnsatisfiedConsumers_c _ x0 _ (sNetwork.ext ((Ext.refl _).alloc _) rr0) hs0).mono ?_
  rintro e w4 ⟨⟨gg, rfl, OG⟩, hx4⟩
  have E4 : Ext w w4 := ((E3).alloc _).trans hx4
  have Z4 : Ext w3 w4 := ((Ext.refl _).alloc _).trans hx4
  clear b0_0 b0_1 b0_2 b0_3 b0_4 b0_5 b0_6 b0_7 b0_8 b0_9 b0_10 b0_11 b0_12 b0_13
  obtain ⟨lG, hG, KG, bG⟩ : ∃ lo hi, Owned sInts lo hi w4 [gg] (unsatisfied x0.consumers) ∧ w3.heap.size + 1 ≤ lo := ⟨_, _, ⟨OG, Nat.le_refl _, hx4.size⟩, by simp⟩
  have cG : lG ≤ hG := KG.2.2
  replace KW := KW.ext Z4
  replace KX0 := KX0.ext Z4
  replace b0 := Blk.ext Z4 b0
  have bx0 : Blk w4 (w3.heap.size) 58 #[.int .i64 x0.topology.size, .slice A3_1 x0.topology.links.length k3_1, .slice A3_2 x0.trust.keys.length k3_2, .slice A3_3 x0.trust.rules.length k3_3, .slice A3_4 x0.trust.anchors.length k3_4, .slice A3_5 x0.trust.certificates.length k3_5, .slice A3_6 x0.producers.length k3_6, .slice A3_7 x0.nodes.length k3_7, .int .i64 x0.downNodes, .slice A3_9 x0.failedLinks.length k3_9, .slice A3_10 x0.inFlight.length k3_10, .slice A3_11 x0.consumers.length k3_11, .int .i64 x0.now, .int .i64 x0.dropped] := Blk.ext hx4 (Blk.new _ _ _)
  replace rr0 := sNetwork.ext Z4 rr0
  clear Z4 hx4 OG
  have ltt_b0 := b0.lt
  have ltt_bx0 := bx0.lt
  have q_b0 := b0
  have b0_0 : w4.cell? ⟨w.heap.size, 0, none⟩ = some (.int .i64 x0.topology.size) := b0.cell 0
  have b0_1 : w4.cell? ⟨w.heap.size, 1, none⟩ = some (c0_1) := b0.cell 1
  have b0_2 : w4.cell? ⟨w.heap.size, 2, none⟩ = some (c0_2) := b0.cell 2
  have b0_3 : w4.cell? ⟨w.heap.size, 3, none⟩ = some (c0_3) := b0.cell 3
  have b0_4 : w4.cell? ⟨w.heap.size, 4, none⟩ = some (c0_4) := b0.cell 4
  have b0_5 : w4.cell? ⟨w.heap.size, 5, none⟩ = some (c0_5) := b0.cell 5
  have b0_6 : w4.cell? ⟨w.heap.size, 6, none⟩ = some (c0_6) := b0.cell 6
  have b0_7 : w4.cell? ⟨w.heap.size, 7, none⟩ = some (c0_7) := b0.cell 7
  have b0_8 : w4.cell? ⟨w.heap.size, 8, none⟩ = some (.int .i64 x0.downNodes) := b0.cell 8
  have b0_9 : w4.cell? ⟨w.heap.size, 9, none⟩ = some (c0_9) := b0.cell 9
  have b0_10 : w4.cell? ⟨w.heap.size, 10, none⟩ = some (c0_10) := b0.cell 10
  have b0_11 : w4.cell? ⟨w.heap.size, 11, none⟩ = some (c0_11) := b0.cell 11
  have b0_12 : w4.cell? ⟨w.heap.size, 12, none⟩ = some (.int .i64 x0.now) := b0.cell 12
  have b0_13 : w4.cell? ⟨w.heap.size, 13, none⟩ = some (.int .i64 x0.dropped) := b0.cell 13
  clear q_b0
  have q_bx0 := bx0
  have bx0_0 : w4.cell? ⟨w3.heap.size, 0, none⟩ = some (.int .i64 x0.topology.size) := bx0.cell 0
  have bx0_1 : w4.cell? ⟨w3.heap.size, 1, none⟩ = some (.slice A3_1 x0.topology.links.length k3_1) := bx0.cell 1
  have bx0_2 : w4.cell? ⟨w3.heap.size, 2, none⟩ = some (.slice A3_2 x0.trust.keys.length k3_2) := bx0.cell 2
  have bx0_3 : w4.cell? ⟨w3.heap.size, 3, none⟩ = some (.slice A3_3 x0.trust.rules.length k3_3) := bx0.cell 3
  have bx0_4 : w4.cell? ⟨w3.heap.size, 4, none⟩ = some (.slice A3_4 x0.trust.anchors.length k3_4) := bx0.cell 4
  have bx0_5 : w4.cell? ⟨w3.heap.size, 5, none⟩ = some (.slice A3_5 x0.trust.certificates.length k3_5) := bx0.cell 5
  have bx0_6 : w4.cell? ⟨w3.heap.size, 6, none⟩ = some (.slice A3_6 x0.producers.length k3_6) := bx0.cell 6
  have bx0_7 : w4.cell? ⟨w3.heap.size, 7, none⟩ = some (.slice A3_7 x0.nodes.length k3_7) := bx0.cell 7
  have bx0_8 : w4.cell? ⟨w3.heap.size, 8, none⟩ = some (.int .i64 x0.downNodes) := bx0.cell 8
  have bx0_9 : w4.cell? ⟨w3.heap.size, 9, none⟩ = some (.slice A3_9 x0.failedLinks.length k3_9) := bx0.cell 9
  have bx0_10 : w4.cell? ⟨w3.heap.size, 10, none⟩ = some (.slice A3_10 x0.inFlight.length k3_10) := bx0.cell 10
  have bx0_11 : w4.cell? ⟨w3.heap.size, 11, none⟩ = some (.slice A3_11 x0.consumers.length k3_11) := bx0.cell 11
  have bx0_12 : w4.cell? ⟨w3.heap.size, 12, none⟩ = some (.int .i64 x0.now) := bx0.cell 12
  have bx0_13 : w4.cell? ⟨w3.heap.size, 13, none⟩ = some (.int .i64 x0.dropped) := bx0.cell 13
  clear q_bx0
  go_wp2_with fail
  refine (eqIntS_c _ _ (unsatisfied x0.consumers) _ KG.rd KW.rd).mono ?_
  rintro e w5 ⟨rfl, hx5⟩
  have E5 : Ext w w5 := (E4).trans hx5
  clear b0_0 b0_1 b0_2 b0_3 b0_4 b0_5 b0_6 b0_7 b0_8 b0_9 b0_10 b0_11 b0_12 b0_13 bx0_0 bx0_1 bx0_2 bx0_3 bx0_4 bx0_5 bx0_6 bx0_7 bx0_8 bx0_9 bx0_10 bx0_11 bx0_12 bx0_13
  replace b0 := Blk.ext hx5 b0
  replace bx0 := Blk.ext hx5 bx0
  replace rr0 := sNetwork.ext hx5 rr0
  replace KW := KW.ext hx5
  replace KX0 := KX0.ext hx5
  replace KG := KG.ext hx5
  clear hx5
  have q_b0 := b0
  have b0_0 : w5.cell? ⟨w.heap.size, 0, none⟩ = some (.int .i64 x0.topology.size) := b0.cell 0
  have b0_1 : w5.cell? ⟨w.heap.size, 1, none⟩ = some (c0_1) := b0.cell 1
  have b0_2 : w5.cell? ⟨w.heap.size, 2, none⟩ = some (c0_2) := b0.cell 2
  have b0_3 : w5.cell? ⟨w.heap.size, 3, none⟩ = some (c0_3) := b0.cell 3
  have b0_4 : w5.cell? ⟨w.heap.size, 4, none⟩ = some (c0_4) := b0.cell 4
  have b0_5 : w5.cell? ⟨w.heap.size, 5, none⟩ = some (c0_5) := b0.cell 5
  have b0_6 : w5.cell? ⟨w.heap.size, 6, none⟩ = some (c0_6) := b0.cell 6
  have b0_7 : w5.cell? ⟨w.heap.size, 7, none⟩ = some (c0_7) := b0.cell 7
  have b0_8 : w5.cell? ⟨w.heap.size, 8, none⟩ = some (.int .i64 x0.downNodes) := b0.cell 8
  have b0_9 : w5.cell? ⟨w.heap.size, 9, none⟩ = some (c0_9) := b0.cell 9
  have b0_10 : w5.cell? ⟨w.heap.size, 10, none⟩ = some (c0_10) := b0.cell 10
  have b0_11 : w5.cell? ⟨w.heap.size, 11, none⟩ = some (c0_11) := b0.cell 11
  have b0_12 : w5.cell? ⟨w.heap.size, 12, none⟩ = some (.int .i64 x0.now) := b0.cell 12
  have b0_13 : w5.cell? ⟨w.heap.size, 13, none⟩ = some (.int .i64 x0.dropped) := b0.cell 13
  clear q_b0
  have q_bx0 := bx0
  have bx0_0 : w5.cell? ⟨w3.heap.size, 0, none⟩ = some (.int .i64 x0.topology.size) := bx0.cell 0
  have bx0_1 : w5.cell? ⟨w3.heap.size, 1, none⟩ = some (.slice A3_1 x0.topology.links.length k3_1) := bx0.cell 1
  have bx0_2 : w5.cell? ⟨w3.heap.size, 2, none⟩ = some (.slice A3_2 x0.trust.keys.length k3_2) := bx0.cell 2
  have bx0_3 : w5.cell? ⟨w3.heap.size, 3, none⟩ = some (.slice A3_3 x0.trust.rules.length k3_3) := bx0.cell 3
  have bx0_4 : w5.cell? ⟨w3.heap.size, 4, none⟩ = some (.slice A3_4 x0.trust.anchors.length k3_4) := bx0.cell 4
  have bx0_5 : w5.cell? ⟨w3.heap.size, 5, none⟩ = some (.slice A3_5 x0.trust.certificates.length k3_5) := bx0.cell 5
  have bx0_6 : w5.cell? ⟨w3.heap.size, 6, none⟩ = some (.slice A3_6 x0.producers.length k3_6) := bx0.cell 6
  have bx0_7 : w5.cell? ⟨w3.heap.size, 7, none⟩ = some (.slice A3_7 x0.nodes.length k3_7) := bx0.cell 7
  have bx0_8 : w5.cell? ⟨w3.heap.size, 8, none⟩ = some (.int .i64 x0.downNodes) := bx0.cell 8
  have bx0_9 : w5.cell? ⟨w3.heap.size, 9, none⟩ = some (.slice A3_9 x0.failedLinks.length k3_9) := bx0.cell 9
  have bx0_10 : w5.cell? ⟨w3.heap.size, 10, none⟩ = some (.slice A3_10 x0.inFlight.length k3_10) := bx0.cell 10
  have bx0_11 : w5.cell? ⟨w3.heap.size, 11, none⟩ = some (.slice A3_11 x0.consumers.length k3_11) := bx0.cell 11
  have bx0_12 : w5.cell? ⟨w3.heap.size, 12, none⟩ = some (.int .i64 x0.now) := bx0.cell 12
  have bx0_13 : w5.cell? ⟨w3.heap.size, 13, none⟩ = some (.int .i64 x0.dropped) := bx0.cell 13
  clear q_bx0
  go_wp2
  go_region_held3 (fun w' => w'.cell? ⟨w.heap.size, 0, none⟩ = some (.int .i64 x0.topology.size) ∧ w'.cell? ⟨w.heap.size, 1, none⟩ = some (c0_1) ∧ w'.cell? ⟨w.heap.size, 2, none⟩ = some (c0_2) ∧ w'.cell? ⟨w.heap.size, 3, none⟩ = some (c0_3) ∧ w'.cell? ⟨w.heap.size, 4, none⟩ = some (c0_4) ∧ w'.cell? ⟨w.heap.size, 5, none⟩ = some (c0_5) ∧ w'.cell? ⟨w.heap.size, 6, none⟩ = some (c0_6) ∧ w'.cell? ⟨w.heap.size, 7, none⟩ = some (c0_7) ∧ w'.cell? ⟨w.heap.size, 8, none⟩ = some (.int .i64 x0.downNodes) ∧ w'.cell? ⟨w.heap.size, 9, none⟩ = some (c0_9) ∧ w'.cell? ⟨w.heap.size, 10, none⟩ = some (c0_10) ∧ w'.cell? ⟨w.heap.size, 11, none⟩ = some (c0_11) ∧ w'.cell? ⟨w.heap.size, 12, none⟩ = some (.int .i64 x0.now) ∧ w'.cell? ⟨w.heap.size, 13, none⟩ = some (.int .i64 x0.dropped) ∧ w'.cell? ⟨w3.heap.size, 0, none⟩ = some (.int .i64 x0.topology.size) ∧ w'.cell? ⟨w3.heap.size, 1, none⟩ = some (.slice A3_1 x0.topology.links.length k3_1) ∧ w'.cell? ⟨w3.heap.size, 2, none⟩ = some (.slice A3_2 x0.trust.keys.length k3_2) ∧ w'.cell? ⟨w3.heap.size, 3, none⟩ = some (.slice A3_3 x0.trust.rules.length k3_3) ∧ w'.cell? ⟨w3.heap.size, 4, none⟩ = some (.slice A3_4 x0.trust.anchors.length k3_4) ∧ w'.cell? ⟨w3.heap.size, 5, none⟩ = some (.slice A3_5 x0.trust.certificates.length k3_5) ∧ w'.cell? ⟨w3.heap.size, 6, none⟩ = some (.slice A3_6 x0.producers.length k3_6) ∧ w'.cell? ⟨w3.heap.size, 7, none⟩ = some (.slice A3_7 x0.nodes.length k3_7) ∧ w'.cell? ⟨w3.heap.size, 8, none⟩ = some (.int .i64 x0.downNodes) ∧ w'.cell? ⟨w3.heap.size, 9, none⟩ = some (.slice A3_9 x0.failedLinks.length k3_9) ∧ w'.cell? ⟨w3.heap.size, 10, none⟩ = some (.slice A3_10 x0.inFlight.length k3_10) ∧ w'.cell? ⟨w3.heap.size, 11, none⟩ = some (.slice A3_11 x0.consumers.length k3_11) ∧ w'.cell? ⟨w3.heap.size, 12, none⟩ = some (.int .i64 x0.now) ∧ w'.cell? ⟨w3.heap.size, 13, none⟩ = some (.int .i64 x0.dropped)) (((repeat' apply And.intro) <;> (first | assumption | exact hx7.cell (hx6.cell (by assumption)) | exact hx6.cell (by assumption))))
    (first | (go_at_call 10; refine (toNetwork_c _ x0 _ (sNetwork.ext ((E5).drew) h0) (by omega)).mono ?_; rintro e w6 ⟨⟨r6, rfl, O6⟩, hx6⟩) | (go_at_call 13; refine (eqNetwork_c _ _ x0 _ (sNetwork.ext ((Ext.refl w5).drew.trans hx6) rr0) O6.rd).mono ?_; rintro e w7 ⟨rfl, hx7⟩))
  have E7 : Ext w w7 := (((E5).drew).trans hx6).trans hx7
  have Z7 : Ext w5 w7 := (((Ext.refl w5).drew).trans hx6).trans hx7
  clear b0_0 b0_1 b0_2 b0_3 b0_4 b0_5 b0_6 b0_7 b0_8 b0_9 b0_10 b0_11 b0_12 b0_13 bx0_0 bx0_1 bx0_2 bx0_3 bx0_4 bx0_5 bx0_6 bx0_7 bx0_8 bx0_9 bx0_10 bx0_11 bx0_12 bx0_13
  replace b0 := Blk.ext Z7 b0
  replace bx0 := Blk.ext Z7 bx0
  replace rr0 := sNetwork.ext Z7 rr0
  replace KW := KW.ext Z7
  replace KX0 := KX0.ext Z7
  replace KG := KG.ext Z7
  clear Z7 hx6 hx7 O6
  have q_b0 := b0
  have b0_0 : w7.cell? ⟨w.heap.size, 0, none⟩ = some (.int .i64 x0.topology.size) := b0.cell 0
  have b0_1 : w7.cell? ⟨w.heap.size, 1, none⟩ = some (c0_1) := b0.cell 1
  have b0_2 : w7.cell? ⟨w.heap.size, 2, none⟩ = some (c0_2) := b0.cell 2
  have b0_3 : w7.cell? ⟨w.heap.size, 3, none⟩ = some (c0_3) := b0.cell 3
  have b0_4 : w7.cell? ⟨w.heap.size, 4, none⟩ = some (c0_4) := b0.cell 4
  have b0_5 : w7.cell? ⟨w.heap.size, 5, none⟩ = some (c0_5) := b0.cell 5
  have b0_6 : w7.cell? ⟨w.heap.size, 6, none⟩ = some (c0_6) := b0.cell 6
  have b0_7 : w7.cell? ⟨w.heap.size, 7, none⟩ = some (c0_7) := b0.cell 7
  have b0_8 : w7.cell? ⟨w.heap.size, 8, none⟩ = some (.int .i64 x0.downNodes) := b0.cell 8
  have b0_9 : w7.cell? ⟨w.heap.size, 9, none⟩ = some (c0_9) := b0.cell 9
  have b0_10 : w7.cell? ⟨w.heap.size, 10, none⟩ = some (c0_10) := b0.cell 10
  have b0_11 : w7.cell? ⟨w.heap.size, 11, none⟩ = some (c0_11) := b0.cell 11
  have b0_12 : w7.cell? ⟨w.heap.size, 12, none⟩ = some (.int .i64 x0.now) := b0.cell 12
  have b0_13 : w7.cell? ⟨w.heap.size, 13, none⟩ = some (.int .i64 x0.dropped) := b0.cell 13
  clear q_b0
  have q_bx0 := bx0
  have bx0_0 : w7.cell? ⟨w3.heap.size, 0, none⟩ = some (.int .i64 x0.topology.size) := bx0.cell 0
  have bx0_1 : w7.cell? ⟨w3.heap.size, 1, none⟩ = some (.slice A3_1 x0.topology.links.length k3_1) := bx0.cell 1
  have bx0_2 : w7.cell? ⟨w3.heap.size, 2, none⟩ = some (.slice A3_2 x0.trust.keys.length k3_2) := bx0.cell 2
  have bx0_3 : w7.cell? ⟨w3.heap.size, 3, none⟩ = some (.slice A3_3 x0.trust.rules.length k3_3) := bx0.cell 3
  have bx0_4 : w7.cell? ⟨w3.heap.size, 4, none⟩ = some (.slice A3_4 x0.trust.anchors.length k3_4) := bx0.cell 4
  have bx0_5 : w7.cell? ⟨w3.heap.size, 5, none⟩ = some (.slice A3_5 x0.trust.certificates.length k3_5) := bx0.cell 5
  have bx0_6 : w7.cell? ⟨w3.heap.size, 6, none⟩ = some (.slice A3_6 x0.producers.length k3_6) := bx0.cell 6
  have bx0_7 : w7.cell? ⟨w3.heap.size, 7, none⟩ = some (.slice A3_7 x0.nodes.length k3_7) := bx0.cell 7
  have bx0_8 : w7.cell? ⟨w3.heap.size, 8, none⟩ = some (.int .i64 x0.downNodes) := bx0.cell 8
  have bx0_9 : w7.cell? ⟨w3.heap.size, 9, none⟩ = some (.slice A3_9 x0.failedLinks.length k3_9) := bx0.cell 9
  have bx0_10 : w7.cell? ⟨w3.heap.size, 10, none⟩ = some (.slice A3_10 x0.inFlight.length k3_10) := bx0.cell 10
  have bx0_11 : w7.cell? ⟨w3.heap.size, 11, none⟩ = some (.slice A3_11 x0.consumers.length k3_11) := bx0.cell 11
  have bx0_12 : w7.cell? ⟨w3.heap.size, 12, none⟩ = some (.int .i64 x0.now) := bx0.cell 12
  have bx0_13 : w7.cell? ⟨w3.heap.size, 13, none⟩ = some (.int .i64 x0.dropped) := bx0.cell 13
  clear q_bx0
  clear rr0
  obtain ⟨fX0, aX0, rX0⟩ := KX0.1
  go_wp2_with fail
  refine (markNetwork_w _ x0 fX0 _ _ aX0 (by omega) (by have := mNetwork_le x0; omega)).mono ?_
  rintro e w8 ⟨rfl, on8⟩
  have E8 : Ext w w8 := (E7).only on8 (fun b hm => by have := rX0 _ hm; omega)
  clear KX0 aX0
  clear b0_0 b0_1 b0_2 b0_3 b0_4 b0_5 b0_6 b0_7 b0_8 b0_9 b0_10 b0_11 b0_12 b0_13 bx0_0 bx0_1 bx0_2 bx0_3 bx0_4 bx0_5 bx0_6 bx0_7 bx0_8 bx0_9 bx0_10 bx0_11 bx0_12 bx0_13
  replace b0 := b0.only on8 (fun hm => by have := rX0 _ hm; omega)
  replace bx0 := bx0.only on8 (fun hm => by have := rX0 _ hm; omega)
  replace KW := KW.only on8 (fun b hm => by have := rX0 _ hm; omega)
  replace KG := KG.only on8 (fun b hm => by have := rX0 _ hm; omega)
  clear on8 rX0
  have q_b0 := b0
  have b0_0 : w8.cell? ⟨w.heap.size, 0, none⟩ = some (.int .i64 x0.topology.size) := b0.cell 0
  have b0_1 : w8.cell? ⟨w.heap.size, 1, none⟩ = some (c0_1) := b0.cell 1
  have b0_2 : w8.cell? ⟨w.heap.size, 2, none⟩ = some (c0_2) := b0.cell 2
  have b0_3 : w8.cell? ⟨w.heap.size, 3, none⟩ = some (c0_3) := b0.cell 3
  have b0_4 : w8.cell? ⟨w.heap.size, 4, none⟩ = some (c0_4) := b0.cell 4
  have b0_5 : w8.cell? ⟨w.heap.size, 5, none⟩ = some (c0_5) := b0.cell 5
  have b0_6 : w8.cell? ⟨w.heap.size, 6, none⟩ = some (c0_6) := b0.cell 6
  have b0_7 : w8.cell? ⟨w.heap.size, 7, none⟩ = some (c0_7) := b0.cell 7
  have b0_8 : w8.cell? ⟨w.heap.size, 8, none⟩ = some (.int .i64 x0.downNodes) := b0.cell 8
  have b0_9 : w8.cell? ⟨w.heap.size, 9, none⟩ = some (c0_9) := b0.cell 9
  have b0_10 : w8.cell? ⟨w.heap.size, 10, none⟩ = some (c0_10) := b0.cell 10
  have b0_11 : w8.cell? ⟨w.heap.size, 11, none⟩ = some (c0_11) := b0.cell 11
  have b0_12 : w8.cell? ⟨w.heap.size, 12, none⟩ = some (.int .i64 x0.now) := b0.cell 12
  have b0_13 : w8.cell? ⟨w.heap.size, 13, none⟩ = some (.int .i64 x0.dropped) := b0.cell 13
  clear q_b0
  have q_bx0 := bx0
  have bx0_0 : w8.cell? ⟨w3.heap.size, 0, none⟩ = some (.int .i64 x0.topology.size) := bx0.cell 0
  have bx0_1 : w8.cell? ⟨w3.heap.size, 1, none⟩ = some (.slice A3_1 x0.topology.links.length k3_1) := bx0.cell 1
  have bx0_2 : w8.cell? ⟨w3.heap.size, 2, none⟩ = some (.slice A3_2 x0.trust.keys.length k3_2) := bx0.cell 2
  have bx0_3 : w8.cell? ⟨w3.heap.size, 3, none⟩ = some (.slice A3_3 x0.trust.rules.length k3_3) := bx0.cell 3
  have bx0_4 : w8.cell? ⟨w3.heap.size, 4, none⟩ = some (.slice A3_4 x0.trust.anchors.length k3_4) := bx0.cell 4
  have bx0_5 : w8.cell? ⟨w3.heap.size, 5, none⟩ = some (.slice A3_5 x0.trust.certificates.length k3_5) := bx0.cell 5
  have bx0_6 : w8.cell? ⟨w3.heap.size, 6, none⟩ = some (.slice A3_6 x0.producers.length k3_6) := bx0.cell 6
  have bx0_7 : w8.cell? ⟨w3.heap.size, 7, none⟩ = some (.slice A3_7 x0.nodes.length k3_7) := bx0.cell 7
  have bx0_8 : w8.cell? ⟨w3.heap.size, 8, none⟩ = some (.int .i64 x0.downNodes) := bx0.cell 8
  have bx0_9 : w8.cell? ⟨w3.heap.size, 9, none⟩ = some (.slice A3_9 x0.failedLinks.length k3_9) := bx0.cell 9
  have bx0_10 : w8.cell? ⟨w3.heap.size, 10, none⟩ = some (.slice A3_10 x0.inFlight.length k3_10) := bx0.cell 10
  have bx0_11 : w8.cell? ⟨w3.heap.size, 11, none⟩ = some (.slice A3_11 x0.consumers.length k3_11) := bx0.cell 11
  have bx0_12 : w8.cell? ⟨w3.heap.size, 12, none⟩ = some (.int .i64 x0.now) := bx0.cell 12
  have bx0_13 : w8.cell? ⟨w3.heap.size, 13, none⟩ = some (.int .i64 x0.dropped) := bx0.cell 13
  clear q_bx0
  have hkk : decide ((1 : Int) + (cntL cLink x0.topology.links + cntL cKey x0.trust.keys + cntL cRule x0.trust.rules + cntL cName x0.trust.anchors + cntL cData x0.trust.certificates + cntL cTableEntry x0.producers + cntL cNode x0.nodes + x0.failedLinks.length + cntL cPacketInFlight x0.inFlight + cntL cConsumer x0.consumers : Nat) < 0) = false := by simp; omega
  go_wp2_with fail
  refine (eqIntS_c _ _ (unsatisfied x0.consumers) _ KG.rd KW.rd).mono ?_
  rintro e w9 ⟨rfl, hx9⟩
  have E9 : Ext w w9 := (E8).trans hx9
  clear b0_0 b0_1 b0_2 b0_3 b0_4 b0_5 b0_6 b0_7 b0_8 b0_9 b0_10 b0_11 b0_12 b0_13 bx0_0 bx0_1 bx0_2 bx0_3 bx0_4 bx0_5 bx0_6 bx0_7 bx0_8 bx0_9 bx0_10 bx0_11 bx0_12 bx0_13
  replace b0 := Blk.ext hx9 b0
  replace bx0 := Blk.ext hx9 bx0
  replace KW := KW.ext hx9
  replace KG := KG.ext hx9
  clear hx9
  have q_b0 := b0
  have b0_0 : w9.cell? ⟨w.heap.size, 0, none⟩ = some (.int .i64 x0.topology.size) := b0.cell 0
  have b0_1 : w9.cell? ⟨w.heap.size, 1, none⟩ = some (c0_1) := b0.cell 1
  have b0_2 : w9.cell? ⟨w.heap.size, 2, none⟩ = some (c0_2) := b0.cell 2
  have b0_3 : w9.cell? ⟨w.heap.size, 3, none⟩ = some (c0_3) := b0.cell 3
  have b0_4 : w9.cell? ⟨w.heap.size, 4, none⟩ = some (c0_4) := b0.cell 4
  have b0_5 : w9.cell? ⟨w.heap.size, 5, none⟩ = some (c0_5) := b0.cell 5
  have b0_6 : w9.cell? ⟨w.heap.size, 6, none⟩ = some (c0_6) := b0.cell 6
  have b0_7 : w9.cell? ⟨w.heap.size, 7, none⟩ = some (c0_7) := b0.cell 7
  have b0_8 : w9.cell? ⟨w.heap.size, 8, none⟩ = some (.int .i64 x0.downNodes) := b0.cell 8
  have b0_9 : w9.cell? ⟨w.heap.size, 9, none⟩ = some (c0_9) := b0.cell 9
  have b0_10 : w9.cell? ⟨w.heap.size, 10, none⟩ = some (c0_10) := b0.cell 10
  have b0_11 : w9.cell? ⟨w.heap.size, 11, none⟩ = some (c0_11) := b0.cell 11
  have b0_12 : w9.cell? ⟨w.heap.size, 12, none⟩ = some (.int .i64 x0.now) := b0.cell 12
  have b0_13 : w9.cell? ⟨w.heap.size, 13, none⟩ = some (.int .i64 x0.dropped) := b0.cell 13
  clear q_b0
  have q_bx0 := bx0
  have bx0_0 : w9.cell? ⟨w3.heap.size, 0, none⟩ = some (.int .i64 x0.topology.size) := bx0.cell 0
  have bx0_1 : w9.cell? ⟨w3.heap.size, 1, none⟩ = some (.slice A3_1 x0.topology.links.length k3_1) := bx0.cell 1
  have bx0_2 : w9.cell? ⟨w3.heap.size, 2, none⟩ = some (.slice A3_2 x0.trust.keys.length k3_2) := bx0.cell 2
  have bx0_3 : w9.cell? ⟨w3.heap.size, 3, none⟩ = some (.slice A3_3 x0.trust.rules.length k3_3) := bx0.cell 3
  have bx0_4 : w9.cell? ⟨w3.heap.size, 4, none⟩ = some (.slice A3_4 x0.trust.anchors.length k3_4) := bx0.cell 4
  have bx0_5 : w9.cell? ⟨w3.heap.size, 5, none⟩ = some (.slice A3_5 x0.trust.certificates.length k3_5) := bx0.cell 5
  have bx0_6 : w9.cell? ⟨w3.heap.size, 6, none⟩ = some (.slice A3_6 x0.producers.length k3_6) := bx0.cell 6
  have bx0_7 : w9.cell? ⟨w3.heap.size, 7, none⟩ = some (.slice A3_7 x0.nodes.length k3_7) := bx0.cell 7
  have bx0_8 : w9.cell? ⟨w3.heap.size, 8, none⟩ = some (.int .i64 x0.downNodes) := bx0.cell 8
  have bx0_9 : w9.cell? ⟨w3.heap.size, 9, none⟩ = some (.slice A3_9 x0.failedLinks.length k3_9) := bx0.cell 9
  have bx0_10 : w9.cell? ⟨w3.heap.size, 10, none⟩ = some (.slice A3_10 x0.inFlight.length k3_10) := bx0.cell 10
  have bx0_11 : w9.cell? ⟨w3.heap.size, 11, none⟩ = some (.slice A3_11 x0.consumers.length k3_11) := bx0.cell 11
  have bx0_12 : w9.cell? ⟨w3.heap.size, 12, none⟩ = some (.int .i64 x0.now) := bx0.cell 12
  have bx0_13 : w9.cell? ⟨w3.heap.size, 13, none⟩ = some (.int .i64 x0.dropped) := bx0.cell 13
  clear q_bx0
  obtain ⟨fG, aG, rG⟩ := KG.1
  go_wp2_with fail
  refine (markIntS_c _ (unsatisfied x0.consumers) fG _ _ aG (by omega) (by have := unsatisfied_len x0.consumers; have := szL_len szConsumer x0.consumers; have := hs0; unfold szNetwork at this; omega)).mono ?_
  rintro e w10 ⟨rfl, aG10, on10⟩
  have E10 : Ext w w10 := (E9).only on10 (fun b hm => by have := rG _ hm; omega)
  have gG := KG.2
  clear KG aG
  clear b0_0 b0_1 b0_2 b0_3 b0_4 b0_5 b0_6 b0_7 b0_8 b0_9 b0_10 b0_11 b0_12 b0_13 bx0_0 bx0_1 bx0_2 bx0_3 bx0_4 bx0_5 bx0_6 bx0_7 bx0_8 bx0_9 bx0_10 bx0_11 bx0_12 bx0_13
  replace b0 := b0.only on10 (fun hm => by have := rG _ hm; omega)
  replace bx0 := bx0.only on10 (fun hm => by have := rG _ hm; omega)
  replace KW := KW.only on10 (fun b hm => by have := rG _ hm; omega)
  have KG : Owned sInts lG hG w10 [gg] (ramp 1 (unsatisfied x0.consumers).length) := ⟨⟨fG, aG10, rG⟩, Nat.le_trans gG.1 on10.size, gG.2⟩
  clear on10 rG gG aG10
  have q_b0 := b0
  have b0_0 : w10.cell? ⟨w.heap.size, 0, none⟩ = some (.int .i64 x0.topology.size) := b0.cell 0
  have b0_1 : w10.cell? ⟨w.heap.size, 1, none⟩ = some (c0_1) := b0.cell 1
  have b0_2 : w10.cell? ⟨w.heap.size, 2, none⟩ = some (c0_2) := b0.cell 2
  have b0_3 : w10.cell? ⟨w.heap.size, 3, none⟩ = some (c0_3) := b0.cell 3
  have b0_4 : w10.cell? ⟨w.heap.size, 4, none⟩ = some (c0_4) := b0.cell 4
  have b0_5 : w10.cell? ⟨w.heap.size, 5, none⟩ = some (c0_5) := b0.cell 5
  have b0_6 : w10.cell? ⟨w.heap.size, 6, none⟩ = some (c0_6) := b0.cell 6
  have b0_7 : w10.cell? ⟨w.heap.size, 7, none⟩ = some (c0_7) := b0.cell 7
  have b0_8 : w10.cell? ⟨w.heap.size, 8, none⟩ = some (.int .i64 x0.downNodes) := b0.cell 8
  have b0_9 : w10.cell? ⟨w.heap.size, 9, none⟩ = some (c0_9) := b0.cell 9
  have b0_10 : w10.cell? ⟨w.heap.size, 10, none⟩ = some (c0_10) := b0.cell 10
  have b0_11 : w10.cell? ⟨w.heap.size, 11, none⟩ = some (c0_11) := b0.cell 11
  have b0_12 : w10.cell? ⟨w.heap.size, 12, none⟩ = some (.int .i64 x0.now) := b0.cell 12
  have b0_13 : w10.cell? ⟨w.heap.size, 13, none⟩ = some (.int .i64 x0.dropped) := b0.cell 13
  clear q_b0
  have q_bx0 := bx0
  have bx0_0 : w10.cell? ⟨w3.heap.size, 0, none⟩ = some (.int .i64 x0.topology.size) := bx0.cell 0
  have bx0_1 : w10.cell? ⟨w3.heap.size, 1, none⟩ = some (.slice A3_1 x0.topology.links.length k3_1) := bx0.cell 1
  have bx0_2 : w10.cell? ⟨w3.heap.size, 2, none⟩ = some (.slice A3_2 x0.trust.keys.length k3_2) := bx0.cell 2
  have bx0_3 : w10.cell? ⟨w3.heap.size, 3, none⟩ = some (.slice A3_3 x0.trust.rules.length k3_3) := bx0.cell 3
  have bx0_4 : w10.cell? ⟨w3.heap.size, 4, none⟩ = some (.slice A3_4 x0.trust.anchors.length k3_4) := bx0.cell 4
  have bx0_5 : w10.cell? ⟨w3.heap.size, 5, none⟩ = some (.slice A3_5 x0.trust.certificates.length k3_5) := bx0.cell 5
  have bx0_6 : w10.cell? ⟨w3.heap.size, 6, none⟩ = some (.slice A3_6 x0.producers.length k3_6) := bx0.cell 6
  have bx0_7 : w10.cell? ⟨w3.heap.size, 7, none⟩ = some (.slice A3_7 x0.nodes.length k3_7) := bx0.cell 7
  have bx0_8 : w10.cell? ⟨w3.heap.size, 8, none⟩ = some (.int .i64 x0.downNodes) := bx0.cell 8
  have bx0_9 : w10.cell? ⟨w3.heap.size, 9, none⟩ = some (.slice A3_9 x0.failedLinks.length k3_9) := bx0.cell 9
  have bx0_10 : w10.cell? ⟨w3.heap.size, 10, none⟩ = some (.slice A3_10 x0.inFlight.length k3_10) := bx0.cell 10
  have bx0_11 : w10.cell? ⟨w3.heap.size, 11, none⟩ = some (.slice A3_11 x0.consumers.length k3_11) := bx0.cell 11
  have bx0_12 : w10.cell? ⟨w3.heap.size, 12, none⟩ = some (.int .i64 x0.now) := bx0.cell 12
  have bx0_13 : w10.cell? ⟨w3.heap.size, 13, none⟩ = some (.int .i64 x0.dropped) := bx0.cell 13
  clear q_bx0
  go_wp2_with fail
  refine (heldIntS_c _ _ KG.rd (by have := unsatisfied_len x0.consumers; have := szL_len szConsumer x0.consumers; have := hs0; unfold szNetwork at this; omega)).mono ?_
  rintro e w11 ⟨rfl, hx11⟩
  have E11 : Ext w w11 := (E10).trans hx11
  clear b0_0 b0_1 b0_2 b0_3 b0_4 b0_5 b0_6 b0_7 b0_8 b0_9 b0_10 b0_11 b0_12 b0_13 bx0_0 bx0_1 bx0_2 bx0_3 bx0_4 bx0_5 bx0_6 bx0_7 bx0_8 bx0_9 bx0_10 bx0_11 bx0_12 bx0_13
  replace b0 := Blk.ext hx11 b0
  replace bx0 := Blk.ext hx11 bx0
  replace KW := KW.ext hx11
  replace KG := KG.ext hx11
  clear hx11
  have q_b0 := b0
  have b0_0 : w11.cell? ⟨w.heap.size, 0, none⟩ = some (.int .i64 x0.topology.size) := b0.cell 0
  have b0_1 : w11.cell? ⟨w.heap.size, 1, none⟩ = some (c0_1) := b0.cell 1
  have b0_2 : w11.cell? ⟨w.heap.size, 2, none⟩ = some (c0_2) := b0.cell 2
  have b0_3 : w11.cell? ⟨w.heap.size, 3, none⟩ = some (c0_3) := b0.cell 3
  have b0_4 : w11.cell? ⟨w.heap.size, 4, none⟩ = some (c0_4) := b0.cell 4
  have b0_5 : w11.cell? ⟨w.heap.size, 5, none⟩ = some (c0_5) := b0.cell 5
  have b0_6 : w11.cell? ⟨w.heap.size, 6, none⟩ = some (c0_6) := b0.cell 6
  have b0_7 : w11.cell? ⟨w.heap.size, 7, none⟩ = some (c0_7) := b0.cell 7
  have b0_8 : w11.cell? ⟨w.heap.size, 8, none⟩ = some (.int .i64 x0.downNodes) := b0.cell 8
  have b0_9 : w11.cell? ⟨w.heap.size, 9, none⟩ = some (c0_9) := b0.cell 9
  have b0_10 : w11.cell? ⟨w.heap.size, 10, none⟩ = some (c0_10) := b0.cell 10
  have b0_11 : w11.cell? ⟨w.heap.size, 11, none⟩ = some (c0_11) := b0.cell 11
  have b0_12 : w11.cell? ⟨w.heap.size, 12, none⟩ = some (.int .i64 x0.now) := b0.cell 12
  have b0_13 : w11.cell? ⟨w.heap.size, 13, none⟩ = some (.int .i64 x0.dropped) := b0.cell 13
  clear q_b0
  have q_bx0 := bx0
  have bx0_0 : w11.cell? ⟨w3.heap.size, 0, none⟩ = some (.int .i64 x0.topology.size) := bx0.cell 0
  have bx0_1 : w11.cell? ⟨w3.heap.size, 1, none⟩ = some (.slice A3_1 x0.topology.links.length k3_1) := bx0.cell 1
  have bx0_2 : w11.cell? ⟨w3.heap.size, 2, none⟩ = some (.slice A3_2 x0.trust.keys.length k3_2) := bx0.cell 2
  have bx0_3 : w11.cell? ⟨w3.heap.size, 3, none⟩ = some (.slice A3_3 x0.trust.rules.length k3_3) := bx0.cell 3
  have bx0_4 : w11.cell? ⟨w3.heap.size, 4, none⟩ = some (.slice A3_4 x0.trust.anchors.length k3_4) := bx0.cell 4
  have bx0_5 : w11.cell? ⟨w3.heap.size, 5, none⟩ = some (.slice A3_5 x0.trust.certificates.length k3_5) := bx0.cell 5
  have bx0_6 : w11.cell? ⟨w3.heap.size, 6, none⟩ = some (.slice A3_6 x0.producers.length k3_6) := bx0.cell 6
  have bx0_7 : w11.cell? ⟨w3.heap.size, 7, none⟩ = some (.slice A3_7 x0.nodes.length k3_7) := bx0.cell 7
  have bx0_8 : w11.cell? ⟨w3.heap.size, 8, none⟩ = some (.int .i64 x0.downNodes) := bx0.cell 8
  have bx0_9 : w11.cell? ⟨w3.heap.size, 9, none⟩ = some (.slice A3_9 x0.failedLinks.length k3_9) := bx0.cell 9
  have bx0_10 : w11.cell? ⟨w3.heap.size, 10, none⟩ = some (.slice A3_10 x0.inFlight.length k3_10) := bx0.cell 10
  have bx0_11 : w11.cell? ⟨w3.heap.size, 11, none⟩ = some (.slice A3_11 x0.consumers.length k3_11) := bx0.cell 11
  have bx0_12 : w11.cell? ⟨w3.heap.size, 12, none⟩ = some (.int .i64 x0.now) := bx0.cell 12
  have bx0_13 : w11.cell? ⟨w3.heap.size, 13, none⟩ = some (.int .i64 x0.dropped) := bx0.cell 13
  clear q_bx0
  have hq1 : decide ((1 : Int) + ((unsatisfied x0.consumers).length : Nat) < 0) = false := by simp; omega
  have hq2 : ((1 : Int) + ((unsatisfied x0.consumers).length : Nat) != (1 : Int) + ((unsatisfied x0.consumers).length : Nat)) = false := by simp
  go_wp2_with fail
  refine (toNetwork_c _ x0 _ (sNetwork.ext E11 h0) (by omega)).mono ?_
  rintro e w12 ⟨⟨r12, rfl, O12⟩, hx12⟩
  obtain ⟨e12_1, e12_2, e12_3, e12_4, e12_5, e12_6, e12_7, e12_9, e12_10, e12_11, rfl, _⟩ := sNetwork_rd O12.rd
  go_wp2_with fail
  refine (implUnsatisfiedConsumers_c _ x0 _ O12.rd hs0).mono ?_
  rintro e w13 ⟨⟨gh, rfl, OH⟩, hx13⟩
  have E13 : Ext w w13 := ((E11).trans hx12).trans hx13
  have Z13 : Ext w11 w13 := hx12.trans hx13
  clear b0_0 b0_1 b0_2 b0_3 b0_4 b0_5 b0_6 b0_7 b0_8 b0_9 b0_10 b0_11 b0_12 b0_13 bx0_0 bx0_1 bx0_2 bx0_3 bx0_4 bx0_5 bx0_6 bx0_7 bx0_8 bx0_9 bx0_10 bx0_11 bx0_12 bx0_13
  replace b0 := Blk.ext Z13 b0
  replace bx0 := Blk.ext Z13 bx0
  replace KW := KW.ext Z13
  replace KG := KG.ext Z13
  have rdH := OH.rd
  clear hx12 hx13 O12 OH Z13
  have q_b0 := b0
  have b0_0 : w13.cell? ⟨w.heap.size, 0, none⟩ = some (.int .i64 x0.topology.size) := b0.cell 0
  have b0_1 : w13.cell? ⟨w.heap.size, 1, none⟩ = some (c0_1) := b0.cell 1
  have b0_2 : w13.cell? ⟨w.heap.size, 2, none⟩ = some (c0_2) := b0.cell 2
  have b0_3 : w13.cell? ⟨w.heap.size, 3, none⟩ = some (c0_3) := b0.cell 3
  have b0_4 : w13.cell? ⟨w.heap.size, 4, none⟩ = some (c0_4) := b0.cell 4
  have b0_5 : w13.cell? ⟨w.heap.size, 5, none⟩ = some (c0_5) := b0.cell 5
  have b0_6 : w13.cell? ⟨w.heap.size, 6, none⟩ = some (c0_6) := b0.cell 6
  have b0_7 : w13.cell? ⟨w.heap.size, 7, none⟩ = some (c0_7) := b0.cell 7
  have b0_8 : w13.cell? ⟨w.heap.size, 8, none⟩ = some (.int .i64 x0.downNodes) := b0.cell 8
  have b0_9 : w13.cell? ⟨w.heap.size, 9, none⟩ = some (c0_9) := b0.cell 9
  have b0_10 : w13.cell? ⟨w.heap.size, 10, none⟩ = some (c0_10) := b0.cell 10
  have b0_11 : w13.cell? ⟨w.heap.size, 11, none⟩ = some (c0_11) := b0.cell 11
  have b0_12 : w13.cell? ⟨w.heap.size, 12, none⟩ = some (.int .i64 x0.now) := b0.cell 12
  have b0_13 : w13.cell? ⟨w.heap.size, 13, none⟩ = some (.int .i64 x0.dropped) := b0.cell 13
  clear q_b0
  have q_bx0 := bx0
  have bx0_0 : w13.cell? ⟨w3.heap.size, 0, none⟩ = some (.int .i64 x0.topology.size) := bx0.cell 0
  have bx0_1 : w13.cell? ⟨w3.heap.size, 1, none⟩ = some (.slice A3_1 x0.topology.links.length k3_1) := bx0.cell 1
  have bx0_2 : w13.cell? ⟨w3.heap.size, 2, none⟩ = some (.slice A3_2 x0.trust.keys.length k3_2) := bx0.cell 2
  have bx0_3 : w13.cell? ⟨w3.heap.size, 3, none⟩ = some (.slice A3_3 x0.trust.rules.length k3_3) := bx0.cell 3
  have bx0_4 : w13.cell? ⟨w3.heap.size, 4, none⟩ = some (.slice A3_4 x0.trust.anchors.length k3_4) := bx0.cell 4
  have bx0_5 : w13.cell? ⟨w3.heap.size, 5, none⟩ = some (.slice A3_5 x0.trust.certificates.length k3_5) := bx0.cell 5
  have bx0_6 : w13.cell? ⟨w3.heap.size, 6, none⟩ = some (.slice A3_6 x0.producers.length k3_6) := bx0.cell 6
  have bx0_7 : w13.cell? ⟨w3.heap.size, 7, none⟩ = some (.slice A3_7 x0.nodes.length k3_7) := bx0.cell 7
  have bx0_8 : w13.cell? ⟨w3.heap.size, 8, none⟩ = some (.int .i64 x0.downNodes) := bx0.cell 8
  have bx0_9 : w13.cell? ⟨w3.heap.size, 9, none⟩ = some (.slice A3_9 x0.failedLinks.length k3_9) := bx0.cell 9
  have bx0_10 : w13.cell? ⟨w3.heap.size, 10, none⟩ = some (.slice A3_10 x0.inFlight.length k3_10) := bx0.cell 10
  have bx0_11 : w13.cell? ⟨w3.heap.size, 11, none⟩ = some (.slice A3_11 x0.consumers.length k3_11) := bx0.cell 11
  have bx0_12 : w13.cell? ⟨w3.heap.size, 12, none⟩ = some (.int .i64 x0.now) := bx0.cell 12
  have bx0_13 : w13.cell? ⟨w3.heap.size, 13, none⟩ = some (.int .i64 x0.dropped) := bx0.cell 13
  clear q_bx0
  go_wp2_with fail
  refine (eqIntS_c _ _ (unsatisfied x0.consumers) _ rdH KW.rd).mono ?_
  rintro e w14 ⟨rfl, hx14⟩
  have E14 : Ext w w14 := (E13).trans hx14
  clear b0_0 b0_1 b0_2 b0_3 b0_4 b0_5 b0_6 b0_7 b0_8 b0_9 b0_10 b0_11 b0_12 b0_13 bx0_0 bx0_1 bx0_2 bx0_3 bx0_4 bx0_5 bx0_6 bx0_7 bx0_8 bx0_9 bx0_10 bx0_11 bx0_12 bx0_13
  replace b0 := Blk.ext hx14 b0
  replace bx0 := Blk.ext hx14 bx0
  replace KW := KW.ext hx14
  replace KG := KG.ext hx14
  clear hx14
  have q_b0 := b0
  have b0_0 : w14.cell? ⟨w.heap.size, 0, none⟩ = some (.int .i64 x0.topology.size) := b0.cell 0
  have b0_1 : w14.cell? ⟨w.heap.size, 1, none⟩ = some (c0_1) := b0.cell 1
  have b0_2 : w14.cell? ⟨w.heap.size, 2, none⟩ = some (c0_2) := b0.cell 2
  have b0_3 : w14.cell? ⟨w.heap.size, 3, none⟩ = some (c0_3) := b0.cell 3
  have b0_4 : w14.cell? ⟨w.heap.size, 4, none⟩ = some (c0_4) := b0.cell 4
  have b0_5 : w14.cell? ⟨w.heap.size, 5, none⟩ = some (c0_5) := b0.cell 5
  have b0_6 : w14.cell? ⟨w.heap.size, 6, none⟩ = some (c0_6) := b0.cell 6
  have b0_7 : w14.cell? ⟨w.heap.size, 7, none⟩ = some (c0_7) := b0.cell 7
  have b0_8 : w14.cell? ⟨w.heap.size, 8, none⟩ = some (.int .i64 x0.downNodes) := b0.cell 8
  have b0_9 : w14.cell? ⟨w.heap.size, 9, none⟩ = some (c0_9) := b0.cell 9
  have b0_10 : w14.cell? ⟨w.heap.size, 10, none⟩ = some (c0_10) := b0.cell 10
  have b0_11 : w14.cell? ⟨w.heap.size, 11, none⟩ = some (c0_11) := b0.cell 11
  have b0_12 : w14.cell? ⟨w.heap.size, 12, none⟩ = some (.int .i64 x0.now) := b0.cell 12
  have b0_13 : w14.cell? ⟨w.heap.size, 13, none⟩ = some (.int .i64 x0.dropped) := b0.cell 13
  clear q_b0
  have q_bx0 := bx0
  have bx0_0 : w14.cell? ⟨w3.heap.size, 0, none⟩ = some (.int .i64 x0.topology.size) := bx0.cell 0
  have bx0_1 : w14.cell? ⟨w3.heap.size, 1, none⟩ = some (.slice A3_1 x0.topology.links.length k3_1) := bx0.cell 1
  have bx0_2 : w14.cell? ⟨w3.heap.size, 2, none⟩ = some (.slice A3_2 x0.trust.keys.length k3_2) := bx0.cell 2
  have bx0_3 : w14.cell? ⟨w3.heap.size, 3, none⟩ = some (.slice A3_3 x0.trust.rules.length k3_3) := bx0.cell 3
  have bx0_4 : w14.cell? ⟨w3.heap.size, 4, none⟩ = some (.slice A3_4 x0.trust.anchors.length k3_4) := bx0.cell 4
  have bx0_5 : w14.cell? ⟨w3.heap.size, 5, none⟩ = some (.slice A3_5 x0.trust.certificates.length k3_5) := bx0.cell 5
  have bx0_6 : w14.cell? ⟨w3.heap.size, 6, none⟩ = some (.slice A3_6 x0.producers.length k3_6) := bx0.cell 6
  have bx0_7 : w14.cell? ⟨w3.heap.size, 7, none⟩ = some (.slice A3_7 x0.nodes.length k3_7) := bx0.cell 7
  have bx0_8 : w14.cell? ⟨w3.heap.size, 8, none⟩ = some (.int .i64 x0.downNodes) := bx0.cell 8
  have bx0_9 : w14.cell? ⟨w3.heap.size, 9, none⟩ = some (.slice A3_9 x0.failedLinks.length k3_9) := bx0.cell 9
  have bx0_10 : w14.cell? ⟨w3.heap.size, 10, none⟩ = some (.slice A3_10 x0.inFlight.length k3_10) := bx0.cell 10
  have bx0_11 : w14.cell? ⟨w3.heap.size, 11, none⟩ = some (.slice A3_11 x0.consumers.length k3_11) := bx0.cell 11
  have bx0_12 : w14.cell? ⟨w3.heap.size, 12, none⟩ = some (.int .i64 x0.now) := bx0.cell 12
  have bx0_13 : w14.cell? ⟨w3.heap.size, 13, none⟩ = some (.int .i64 x0.dropped) := bx0.cell 13
  clear q_bx0
  clear rdH
  go_wp2_with fail
  refine (heldIntS_c _ _ KG.rd (by have := unsatisfied_len x0.consumers; have := szL_len szConsumer x0.consumers; have := hs0; unfold szNetwork at this; omega)).mono ?_
  rintro e w15 ⟨rfl, hx15⟩
  have E15 : Ext w w15 := (E14).trans hx15
  clear b0_0 b0_1 b0_2 b0_3 b0_4 b0_5 b0_6 b0_7 b0_8 b0_9 b0_10 b0_11 b0_12 b0_13 bx0_0 bx0_1 bx0_2 bx0_3 bx0_4 bx0_5 bx0_6 bx0_7 bx0_8 bx0_9 bx0_10 bx0_11 bx0_12 bx0_13
  replace b0 := Blk.ext hx15 b0
  replace bx0 := Blk.ext hx15 bx0
  replace KW := KW.ext hx15
  replace KG := KG.ext hx15
  clear hx15
  have q_b0 := b0
  have b0_0 : w15.cell? ⟨w.heap.size, 0, none⟩ = some (.int .i64 x0.topology.size) := b0.cell 0
  have b0_1 : w15.cell? ⟨w.heap.size, 1, none⟩ = some (c0_1) := b0.cell 1
  have b0_2 : w15.cell? ⟨w.heap.size, 2, none⟩ = some (c0_2) := b0.cell 2
  have b0_3 : w15.cell? ⟨w.heap.size, 3, none⟩ = some (c0_3) := b0.cell 3
  have b0_4 : w15.cell? ⟨w.heap.size, 4, none⟩ = some (c0_4) := b0.cell 4
  have b0_5 : w15.cell? ⟨w.heap.size, 5, none⟩ = some (c0_5) := b0.cell 5
  have b0_6 : w15.cell? ⟨w.heap.size, 6, none⟩ = some (c0_6) := b0.cell 6
  have b0_7 : w15.cell? ⟨w.heap.size, 7, none⟩ = some (c0_7) := b0.cell 7
  have b0_8 : w15.cell? ⟨w.heap.size, 8, none⟩ = some (.int .i64 x0.downNodes) := b0.cell 8
  have b0_9 : w15.cell? ⟨w.heap.size, 9, none⟩ = some (c0_9) := b0.cell 9
  have b0_10 : w15.cell? ⟨w.heap.size, 10, none⟩ = some (c0_10) := b0.cell 10
  have b0_11 : w15.cell? ⟨w.heap.size, 11, none⟩ = some (c0_11) := b0.cell 11
  have b0_12 : w15.cell? ⟨w.heap.size, 12, none⟩ = some (.int .i64 x0.now) := b0.cell 12
  have b0_13 : w15.cell? ⟨w.heap.size, 13, none⟩ = some (.int .i64 x0.dropped) := b0.cell 13
  clear q_b0
  have q_bx0 := bx0
  have bx0_0 : w15.cell? ⟨w3.heap.size, 0, none⟩ = some (.int .i64 x0.topology.size) := bx0.cell 0
  have bx0_1 : w15.cell? ⟨w3.heap.size, 1, none⟩ = some (.slice A3_1 x0.topology.links.length k3_1) := bx0.cell 1
  have bx0_2 : w15.cell? ⟨w3.heap.size, 2, none⟩ = some (.slice A3_2 x0.trust.keys.length k3_2) := bx0.cell 2
  have bx0_3 : w15.cell? ⟨w3.heap.size, 3, none⟩ = some (.slice A3_3 x0.trust.rules.length k3_3) := bx0.cell 3
  have bx0_4 : w15.cell? ⟨w3.heap.size, 4, none⟩ = some (.slice A3_4 x0.trust.anchors.length k3_4) := bx0.cell 4
  have bx0_5 : w15.cell? ⟨w3.heap.size, 5, none⟩ = some (.slice A3_5 x0.trust.certificates.length k3_5) := bx0.cell 5
  have bx0_6 : w15.cell? ⟨w3.heap.size, 6, none⟩ = some (.slice A3_6 x0.producers.length k3_6) := bx0.cell 6
  have bx0_7 : w15.cell? ⟨w3.heap.size, 7, none⟩ = some (.slice A3_7 x0.nodes.length k3_7) := bx0.cell 7
  have bx0_8 : w15.cell? ⟨w3.heap.size, 8, none⟩ = some (.int .i64 x0.downNodes) := bx0.cell 8
  have bx0_9 : w15.cell? ⟨w3.heap.size, 9, none⟩ = some (.slice A3_9 x0.failedLinks.length k3_9) := bx0.cell 9
  have bx0_10 : w15.cell? ⟨w3.heap.size, 10, none⟩ = some (.slice A3_10 x0.inFlight.length k3_10) := bx0.cell 10
  have bx0_11 : w15.cell? ⟨w3.heap.size, 11, none⟩ = some (.slice A3_11 x0.consumers.length k3_11) := bx0.cell 11
  have bx0_12 : w15.cell? ⟨w3.heap.size, 12, none⟩ = some (.int .i64 x0.now) := bx0.cell 12
  have bx0_13 : w15.cell? ⟨w3.heap.size, 13, none⟩ = some (.int .i64 x0.dropped) := bx0.cell 13
  clear q_bx0
  go_wp2
  go_ret
  exact ⟨rfl, E15⟩

end Go.Proofs.YtjdhggkbdognnaaGreat
