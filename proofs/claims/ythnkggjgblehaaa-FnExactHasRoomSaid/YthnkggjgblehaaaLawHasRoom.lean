/- The walk of laws.FnExactHasRoom: it answers true. Printed by genexact.py. -/
import Derived.Test.YthnkggjgblehaaaFamSz
import Derived.Test.YthnkggjgblehaaaFamTo
import Derived.Test.YthnkggjgblehaaaFamEq
import Derived.Test.YthnkggjgblehaaaWkRoom
import Derived.Deep.RegionHeld3
import Derived.Deep.DrawnRows
namespace Go.Proofs.Ythnkggjgblehaaa
open Go.RowKit
set_option linter.unusedVariables false
attribute [local go_sem ↓] Go.wp_at_zero Go.wp_at_succ

set_option maxHeartbeats 4000000 in
theorem lawFnExactHasRoom (cs0 : List Value) (x0 : DNode) (cs1 : List Value) (x1 : DInterest) (w : World) (h0 : sNode.rd w cs0 x0) (h1 : sInterest.rd w cs1 x1) :
    Calls Try.prog 7 #[.agg cs0.toArray, .agg cs1.toArray] w fun e w' => e = .returned (.bool true) ∧ Ext w w' := by
  have k0 := h0
  obtain ⟨c0_0, c0_2, c0_3, c0_4, c0_5, c0_6, rfl, _⟩ := sNode_rd k0
  clear k0
  have k1 := h1
  obtain ⟨c1_0, rfl, _⟩ := sInterest_rd k1
  clear k1
  go_enter Try.func7, Try.ntmps7
  go_wp2_with fail
  refine (szNode_c _ x0 _ _ (sNode.ext (((Ext.refl w).alloc _).alloc _) h0) (by omega) (by omega)).mono ?_
  rintro e w0 ⟨rfl, hx0⟩
  have E0 : Ext w w0 := Ext.trans (((Ext.refl w).alloc _).alloc _) hx0
  have b0 : Blk w0 (w.heap.size) 60 #[c0_0, .int .i64 x0.cache.capacity, c0_2, c0_3, c0_4, c0_5, c0_6, .int .i64 x0.dropped] := Blk.ext hx0 ((Blk.new_at (by simp)).alloc _)
  have b1 : Blk w0 (w.heap.size + 1) 77 #[c1_0, .int .i64 x1.nonce, .int .i64 x1.hopLimit, .int .i64 x1.lifetime] := Blk.ext hx0 (Blk.new_at (by simp))
  clear hx0
  by_cases hq0 : remain (1048576) (szNode x0) < 0
  · go_wp2
    go_ret
    exact ⟨rfl, E0⟩
  obtain ⟨hp0, hv0⟩ := remain_pos (Int.not_lt.1 hq0)
  rw [hv0] at hq0 ⊢
  clear hv0
  have hs0 : szNode x0 ≤ 1048576 := by omega
  have q_b0 := b0
  have b0_0 : w0.cell? ⟨w.heap.size, 0, none⟩ = some (c0_0) := b0.cell 0
  have b0_1 : w0.cell? ⟨w.heap.size, 1, none⟩ = some (.int .i64 x0.cache.capacity) := b0.cell 1
  have b0_2 : w0.cell? ⟨w.heap.size, 2, none⟩ = some (c0_2) := b0.cell 2
  have b0_3 : w0.cell? ⟨w.heap.size, 3, none⟩ = some (c0_3) := b0.cell 3
  have b0_4 : w0.cell? ⟨w.heap.size, 4, none⟩ = some (c0_4) := b0.cell 4
  have b0_5 : w0.cell? ⟨w.heap.size, 5, none⟩ = some (c0_5) := b0.cell 5
  have b0_6 : w0.cell? ⟨w.heap.size, 6, none⟩ = some (c0_6) := b0.cell 6
  have b0_7 : w0.cell? ⟨w.heap.size, 7, none⟩ = some (.int .i64 x0.dropped) := b0.cell 7
  clear q_b0
  have q_b1 := b1
  have b1_0 : w0.cell? ⟨w.heap.size + 1, 0, none⟩ = some (c1_0) := b1.cell 0
  have b1_1 : w0.cell? ⟨w.heap.size + 1, 1, none⟩ = some (.int .i64 x1.nonce) := b1.cell 1
  have b1_2 : w0.cell? ⟨w.heap.size + 1, 2, none⟩ = some (.int .i64 x1.hopLimit) := b1.cell 2
  have b1_3 : w0.cell? ⟨w.heap.size + 1, 3, none⟩ = some (.int .i64 x1.lifetime) := b1.cell 3
  clear q_b1
  go_wp2_with fail
  refine (szInterest_c _ x1 _ _ (sInterest.ext (E0) h1) (by omega) (by omega)).mono ?_
  rintro e w1 ⟨rfl, hx1⟩
  have E1 : Ext w w1 := Ext.trans (E0) hx1
  clear b0_0 b0_1 b0_2 b0_3 b0_4 b0_5 b0_6 b0_7 b1_0 b1_1 b1_2 b1_3
  replace b0 := Blk.ext hx1 b0
  replace b1 := Blk.ext hx1 b1
  clear hx1
  by_cases hq1 : remain (1048576 - (szNode x0 : Nat)) (szInterest x1) < 0
  · go_wp2
    go_ret
    exact ⟨rfl, E1⟩
  obtain ⟨hp1, hv1⟩ := remain_pos (Int.not_lt.1 hq1)
  rw [hv1] at hq1 ⊢
  clear hv1
  have hs1 : szInterest x1 ≤ 1048576 := by omega
  have q_b0 := b0
  have b0_0 : w1.cell? ⟨w.heap.size, 0, none⟩ = some (c0_0) := b0.cell 0
  have b0_1 : w1.cell? ⟨w.heap.size, 1, none⟩ = some (.int .i64 x0.cache.capacity) := b0.cell 1
  have b0_2 : w1.cell? ⟨w.heap.size, 2, none⟩ = some (c0_2) := b0.cell 2
  have b0_3 : w1.cell? ⟨w.heap.size, 3, none⟩ = some (c0_3) := b0.cell 3
  have b0_4 : w1.cell? ⟨w.heap.size, 4, none⟩ = some (c0_4) := b0.cell 4
  have b0_5 : w1.cell? ⟨w.heap.size, 5, none⟩ = some (c0_5) := b0.cell 5
  have b0_6 : w1.cell? ⟨w.heap.size, 6, none⟩ = some (c0_6) := b0.cell 6
  have b0_7 : w1.cell? ⟨w.heap.size, 7, none⟩ = some (.int .i64 x0.dropped) := b0.cell 7
  clear q_b0
  have q_b1 := b1
  have b1_0 : w1.cell? ⟨w.heap.size + 1, 0, none⟩ = some (c1_0) := b1.cell 0
  have b1_1 : w1.cell? ⟨w.heap.size + 1, 1, none⟩ = some (.int .i64 x1.nonce) := b1.cell 1
  have b1_2 : w1.cell? ⟨w.heap.size + 1, 2, none⟩ = some (.int .i64 x1.hopLimit) := b1.cell 2
  have b1_3 : w1.cell? ⟨w.heap.size + 1, 3, none⟩ = some (.int .i64 x1.lifetime) := b1.cell 3
  clear q_b1
  go_wp2
  go_region_held3 (fun w' => w'.cell? ⟨w.heap.size, 0, none⟩ = some (c0_0) ∧ w'.cell? ⟨w.heap.size, 1, none⟩ = some (.int .i64 x0.cache.capacity) ∧ w'.cell? ⟨w.heap.size, 2, none⟩ = some (c0_2) ∧ w'.cell? ⟨w.heap.size, 3, none⟩ = some (c0_3) ∧ w'.cell? ⟨w.heap.size, 4, none⟩ = some (c0_4) ∧ w'.cell? ⟨w.heap.size, 5, none⟩ = some (c0_5) ∧ w'.cell? ⟨w.heap.size, 6, none⟩ = some (c0_6) ∧ w'.cell? ⟨w.heap.size, 7, none⟩ = some (.int .i64 x0.dropped) ∧ w'.cell? ⟨w.heap.size + 1, 0, none⟩ = some (c1_0) ∧ w'.cell? ⟨w.heap.size + 1, 1, none⟩ = some (.int .i64 x1.nonce) ∧ w'.cell? ⟨w.heap.size + 1, 2, none⟩ = some (.int .i64 x1.hopLimit) ∧ w'.cell? ⟨w.heap.size + 1, 3, none⟩ = some (.int .i64 x1.lifetime)) (((repeat' apply And.intro) <;> (first | assumption | exact hx4.cell (hx3.cell (hx2.cell (by assumption))) | exact hx3.cell (hx2.cell (by assumption)) | exact hx2.cell (by assumption))))
    (first | (go_at_call 28; refine (toNode_c _ x0 _ (sNode.ext ((E1).drew) h0) (by omega)).mono ?_; rintro e w2 ⟨⟨r2_0, rfl, O2⟩, hx2⟩) | (go_at_call 33; refine (toInterest_c _ x1 _ (sInterest.ext (((E1).drew).trans hx2) h1) (by omega)).mono ?_; rintro e w3 ⟨⟨r2_1, rfl, O3⟩, hx3⟩) | (go_at_call 32; refine (specHasRoom_c _ x0 _ x1 _ (sNode.ext hx3 O2.rd) O3.rd).mono ?_; rintro e w4 ⟨rfl, hx4⟩))
  have E4 : Ext w w4 := ((((E1).drew).trans hx2).trans hx3).trans hx4
  have Z4 : Ext w1 w4 := ((((Ext.refl w1).drew).trans hx2).trans hx3).trans hx4
  clear b0_0 b0_1 b0_2 b0_3 b0_4 b0_5 b0_6 b0_7 b1_0 b1_1 b1_2 b1_3
  replace b0 := Blk.ext Z4 b0
  replace b1 := Blk.ext Z4 b1
  clear Z4 hx2 hx3 hx4 O2 O3
  have q_b0 := b0
  have b0_0 : w4.cell? ⟨w.heap.size, 0, none⟩ = some (c0_0) := b0.cell 0
  have b0_1 : w4.cell? ⟨w.heap.size, 1, none⟩ = some (.int .i64 x0.cache.capacity) := b0.cell 1
  have b0_2 : w4.cell? ⟨w.heap.size, 2, none⟩ = some (c0_2) := b0.cell 2
  have b0_3 : w4.cell? ⟨w.heap.size, 3, none⟩ = some (c0_3) := b0.cell 3
  have b0_4 : w4.cell? ⟨w.heap.size, 4, none⟩ = some (c0_4) := b0.cell 4
  have b0_5 : w4.cell? ⟨w.heap.size, 5, none⟩ = some (c0_5) := b0.cell 5
  have b0_6 : w4.cell? ⟨w.heap.size, 6, none⟩ = some (c0_6) := b0.cell 6
  have b0_7 : w4.cell? ⟨w.heap.size, 7, none⟩ = some (.int .i64 x0.dropped) := b0.cell 7
  clear q_b0
  have q_b1 := b1
  have b1_0 : w4.cell? ⟨w.heap.size + 1, 0, none⟩ = some (c1_0) := b1.cell 0
  have b1_1 : w4.cell? ⟨w.heap.size + 1, 1, none⟩ = some (.int .i64 x1.nonce) := b1.cell 1
  have b1_2 : w4.cell? ⟨w.heap.size + 1, 2, none⟩ = some (.int .i64 x1.hopLimit) := b1.cell 2
  have b1_3 : w4.cell? ⟨w.heap.size + 1, 3, none⟩ = some (.int .i64 x1.lifetime) := b1.cell 3
  clear q_b1
  go_wp2_with fail
  refine (toNode_c _ x0 _ (sNode.ext (E4) h0) (by omega)).mono ?_
  rintro e w5 ⟨⟨r5, rfl, O5⟩, hx5⟩
  have E5 : Ext w w5 := (E4).trans hx5
  clear b0_0 b0_1 b0_2 b0_3 b0_4 b0_5 b0_6 b0_7 b1_0 b1_1 b1_2 b1_3
  replace b0 := Blk.ext hx5 b0
  replace b1 := Blk.ext hx5 b1
  have rr0 := O5.rd
  obtain ⟨e5_0, e5_2, e5_3, e5_4, e5_5, e5_6, rfl, _⟩ := sNode_rd rr0
  obtain ⟨A5_0, k5_0, rfl, _, _⟩ := Shape.sl_form (sNode_f0 rr0)
  obtain ⟨A5_2, k5_2, rfl, _, _⟩ := Shape.sl_form (sContentStore_f1 (sNode_f1 rr0))
  obtain ⟨A5_3, k5_3, rfl, _, _⟩ := Shape.sl_form (sNode_f2 rr0)
  obtain ⟨A5_4, k5_4, rfl, _, _⟩ := Shape.sl_form (sNode_f3 rr0)
  obtain ⟨A5_5, k5_5, rfl, _, _⟩ := Shape.sl_form (sNode_f4 rr0)
  obtain ⟨A5_6, k5_6, rfl, _, _⟩ := Shape.sl_form (sNode_f5 rr0)
  clear hx5 O5
  have lt_b0 := b0.lt
  have lt_b1 := b1.lt
  have q_b0 := b0
  have b0_0 : w5.cell? ⟨w.heap.size, 0, none⟩ = some (c0_0) := b0.cell 0
  have b0_1 : w5.cell? ⟨w.heap.size, 1, none⟩ = some (.int .i64 x0.cache.capacity) := b0.cell 1
  have b0_2 : w5.cell? ⟨w.heap.size, 2, none⟩ = some (c0_2) := b0.cell 2
  have b0_3 : w5.cell? ⟨w.heap.size, 3, none⟩ = some (c0_3) := b0.cell 3
  have b0_4 : w5.cell? ⟨w.heap.size, 4, none⟩ = some (c0_4) := b0.cell 4
  have b0_5 : w5.cell? ⟨w.heap.size, 5, none⟩ = some (c0_5) := b0.cell 5
  have b0_6 : w5.cell? ⟨w.heap.size, 6, none⟩ = some (c0_6) := b0.cell 6
  have b0_7 : w5.cell? ⟨w.heap.size, 7, none⟩ = some (.int .i64 x0.dropped) := b0.cell 7
  clear q_b0
  have q_b1 := b1
  have b1_0 : w5.cell? ⟨w.heap.size + 1, 0, none⟩ = some (c1_0) := b1.cell 0
  have b1_1 : w5.cell? ⟨w.heap.size + 1, 1, none⟩ = some (.int .i64 x1.nonce) := b1.cell 1
  have b1_2 : w5.cell? ⟨w.heap.size + 1, 2, none⟩ = some (.int .i64 x1.hopLimit) := b1.cell 2
  have b1_3 : w5.cell? ⟨w.heap.size + 1, 3, none⟩ = some (.int .i64 x1.lifetime) := b1.cell 3
  clear q_b1
  go_wp2_with fail
  refine (toInterest_c _ x1 _ (sInterest.ext ((E5).alloc _) h1) (by omega)).mono ?_
  rintro e w6 ⟨⟨r6, rfl, O6⟩, hx6⟩
  have E6 : Ext w w6 := ((E5).alloc _).trans hx6
  clear b0_0 b0_1 b0_2 b0_3 b0_4 b0_5 b0_6 b0_7 b1_0 b1_1 b1_2 b1_3
  have Z6 : Ext w5 w6 := ((Ext.refl _).alloc _).trans hx6
  replace b0 := Blk.ext Z6 b0
  replace b1 := Blk.ext Z6 b1
  have bx0 : Blk w6 (w5.heap.size) 72 #[.slice A5_0 x0.locals.length k5_0, .int .i64 x0.cache.capacity, .slice A5_2 x0.cache.entries.length k5_2, .slice A5_3 x0.pending.length k5_3, .slice A5_4 x0.seen.length k5_4, .slice A5_5 x0.routes.length k5_5, .slice A5_6 x0.measurements.length k5_6, .int .i64 x0.dropped] := Blk.ext hx6 (Blk.new _ _ _)
  replace rr0 := sNode.ext Z6 rr0
  have rr1 := O6.rd
  obtain ⟨e6_0, rfl, _⟩ := sInterest_rd rr1
  obtain ⟨A6_0, k6_0, rfl, _, _⟩ := Shape.sl_form (sInterest_f0 rr1)
  clear hx6 O6 Z6
  have lt_b0 := b0.lt
  have lt_b1 := b1.lt
  have lt_bx0 := bx0.lt
  have q_b0 := b0
  have b0_0 : w6.cell? ⟨w.heap.size, 0, none⟩ = some (c0_0) := b0.cell 0
  have b0_1 : w6.cell? ⟨w.heap.size, 1, none⟩ = some (.int .i64 x0.cache.capacity) := b0.cell 1
  have b0_2 : w6.cell? ⟨w.heap.size, 2, none⟩ = some (c0_2) := b0.cell 2
  have b0_3 : w6.cell? ⟨w.heap.size, 3, none⟩ = some (c0_3) := b0.cell 3
  have b0_4 : w6.cell? ⟨w.heap.size, 4, none⟩ = some (c0_4) := b0.cell 4
  have b0_5 : w6.cell? ⟨w.heap.size, 5, none⟩ = some (c0_5) := b0.cell 5
  have b0_6 : w6.cell? ⟨w.heap.size, 6, none⟩ = some (c0_6) := b0.cell 6
  have b0_7 : w6.cell? ⟨w.heap.size, 7, none⟩ = some (.int .i64 x0.dropped) := b0.cell 7
  clear q_b0
  have q_b1 := b1
  have b1_0 : w6.cell? ⟨w.heap.size + 1, 0, none⟩ = some (c1_0) := b1.cell 0
  have b1_1 : w6.cell? ⟨w.heap.size + 1, 1, none⟩ = some (.int .i64 x1.nonce) := b1.cell 1
  have b1_2 : w6.cell? ⟨w.heap.size + 1, 2, none⟩ = some (.int .i64 x1.hopLimit) := b1.cell 2
  have b1_3 : w6.cell? ⟨w.heap.size + 1, 3, none⟩ = some (.int .i64 x1.lifetime) := b1.cell 3
  clear q_b1
  have q_bx0 := bx0
  have bx0_0 : w6.cell? ⟨w5.heap.size, 0, none⟩ = some (.slice A5_0 x0.locals.length k5_0) := bx0.cell 0
  have bx0_1 : w6.cell? ⟨w5.heap.size, 1, none⟩ = some (.int .i64 x0.cache.capacity) := bx0.cell 1
  have bx0_2 : w6.cell? ⟨w5.heap.size, 2, none⟩ = some (.slice A5_2 x0.cache.entries.length k5_2) := bx0.cell 2
  have bx0_3 : w6.cell? ⟨w5.heap.size, 3, none⟩ = some (.slice A5_3 x0.pending.length k5_3) := bx0.cell 3
  have bx0_4 : w6.cell? ⟨w5.heap.size, 4, none⟩ = some (.slice A5_4 x0.seen.length k5_4) := bx0.cell 4
  have bx0_5 : w6.cell? ⟨w5.heap.size, 5, none⟩ = some (.slice A5_5 x0.routes.length k5_5) := bx0.cell 5
  have bx0_6 : w6.cell? ⟨w5.heap.size, 6, none⟩ = some (.slice A5_6 x0.measurements.length k5_6) := bx0.cell 6
  have bx0_7 : w6.cell? ⟨w5.heap.size, 7, none⟩ = some (.int .i64 x0.dropped) := bx0.cell 7
  clear q_bx0
  go_wp2_with fail
  refine (implHasRoom_c _ x0 _ x1 _ (sNode.ext ((Ext.refl _).alloc _) rr0) (sInterest.ext ((Ext.refl _).alloc _) rr1)).mono ?_
  rintro e w7 ⟨rfl, hx7⟩
  have E7 : Ext w w7 := ((E6).alloc _).trans hx7
  have Z7 : Ext w6 w7 := ((Ext.refl _).alloc _).trans hx7
  clear b0_0 b0_1 b0_2 b0_3 b0_4 b0_5 b0_6 b0_7 b1_0 b1_1 b1_2 b1_3 bx0_0 bx0_1 bx0_2 bx0_3 bx0_4 bx0_5 bx0_6 bx0_7
  replace b0 := Blk.ext Z7 b0
  replace b1 := Blk.ext Z7 b1
  replace bx0 := Blk.ext Z7 bx0
  have bx1 : Blk w7 (w6.heap.size) 81 #[.slice A6_0 x1.name.length k6_0, .int .i64 x1.nonce, .int .i64 x1.hopLimit, .int .i64 x1.lifetime] := Blk.ext hx7 (Blk.new _ _ _)
  replace rr0 := sNode.ext Z7 rr0
  replace rr1 := sInterest.ext Z7 rr1
  clear Z7 hx7
  have ltt_b0 := b0.lt
  have ltt_b1 := b1.lt
  have ltt_bx0 := bx0.lt
  have ltt_bx1 := bx1.lt
  have q_b0 := b0
  have b0_0 : w7.cell? ⟨w.heap.size, 0, none⟩ = some (c0_0) := b0.cell 0
  have b0_1 : w7.cell? ⟨w.heap.size, 1, none⟩ = some (.int .i64 x0.cache.capacity) := b0.cell 1
  have b0_2 : w7.cell? ⟨w.heap.size, 2, none⟩ = some (c0_2) := b0.cell 2
  have b0_3 : w7.cell? ⟨w.heap.size, 3, none⟩ = some (c0_3) := b0.cell 3
  have b0_4 : w7.cell? ⟨w.heap.size, 4, none⟩ = some (c0_4) := b0.cell 4
  have b0_5 : w7.cell? ⟨w.heap.size, 5, none⟩ = some (c0_5) := b0.cell 5
  have b0_6 : w7.cell? ⟨w.heap.size, 6, none⟩ = some (c0_6) := b0.cell 6
  have b0_7 : w7.cell? ⟨w.heap.size, 7, none⟩ = some (.int .i64 x0.dropped) := b0.cell 7
  clear q_b0
  have q_b1 := b1
  have b1_0 : w7.cell? ⟨w.heap.size + 1, 0, none⟩ = some (c1_0) := b1.cell 0
  have b1_1 : w7.cell? ⟨w.heap.size + 1, 1, none⟩ = some (.int .i64 x1.nonce) := b1.cell 1
  have b1_2 : w7.cell? ⟨w.heap.size + 1, 2, none⟩ = some (.int .i64 x1.hopLimit) := b1.cell 2
  have b1_3 : w7.cell? ⟨w.heap.size + 1, 3, none⟩ = some (.int .i64 x1.lifetime) := b1.cell 3
  clear q_b1
  have q_bx0 := bx0
  have bx0_0 : w7.cell? ⟨w5.heap.size, 0, none⟩ = some (.slice A5_0 x0.locals.length k5_0) := bx0.cell 0
  have bx0_1 : w7.cell? ⟨w5.heap.size, 1, none⟩ = some (.int .i64 x0.cache.capacity) := bx0.cell 1
  have bx0_2 : w7.cell? ⟨w5.heap.size, 2, none⟩ = some (.slice A5_2 x0.cache.entries.length k5_2) := bx0.cell 2
  have bx0_3 : w7.cell? ⟨w5.heap.size, 3, none⟩ = some (.slice A5_3 x0.pending.length k5_3) := bx0.cell 3
  have bx0_4 : w7.cell? ⟨w5.heap.size, 4, none⟩ = some (.slice A5_4 x0.seen.length k5_4) := bx0.cell 4
  have bx0_5 : w7.cell? ⟨w5.heap.size, 5, none⟩ = some (.slice A5_5 x0.routes.length k5_5) := bx0.cell 5
  have bx0_6 : w7.cell? ⟨w5.heap.size, 6, none⟩ = some (.slice A5_6 x0.measurements.length k5_6) := bx0.cell 6
  have bx0_7 : w7.cell? ⟨w5.heap.size, 7, none⟩ = some (.int .i64 x0.dropped) := bx0.cell 7
  clear q_bx0
  have q_bx1 := bx1
  have bx1_0 : w7.cell? ⟨w6.heap.size, 0, none⟩ = some (.slice A6_0 x1.name.length k6_0) := bx1.cell 0
  have bx1_1 : w7.cell? ⟨w6.heap.size, 1, none⟩ = some (.int .i64 x1.nonce) := bx1.cell 1
  have bx1_2 : w7.cell? ⟨w6.heap.size, 2, none⟩ = some (.int .i64 x1.hopLimit) := bx1.cell 2
  have bx1_3 : w7.cell? ⟨w6.heap.size, 3, none⟩ = some (.int .i64 x1.lifetime) := bx1.cell 3
  clear q_bx1
  have hsame : (hasRoom x0 x1 != hasRoom x0 x1) = false := by simp
  go_wp2
  go_region_held3 (fun w' => w'.cell? ⟨w.heap.size, 0, none⟩ = some (c0_0) ∧ w'.cell? ⟨w.heap.size, 1, none⟩ = some (.int .i64 x0.cache.capacity) ∧ w'.cell? ⟨w.heap.size, 2, none⟩ = some (c0_2) ∧ w'.cell? ⟨w.heap.size, 3, none⟩ = some (c0_3) ∧ w'.cell? ⟨w.heap.size, 4, none⟩ = some (c0_4) ∧ w'.cell? ⟨w.heap.size, 5, none⟩ = some (c0_5) ∧ w'.cell? ⟨w.heap.size, 6, none⟩ = some (c0_6) ∧ w'.cell? ⟨w.heap.size, 7, none⟩ = some (.int .i64 x0.dropped) ∧ w'.cell? ⟨w5.heap.size, 0, none⟩ = some (.slice A5_0 x0.locals.length k5_0) ∧ w'.cell? ⟨w5.heap.size, 1, none⟩ = some (.int .i64 x0.cache.capacity) ∧ w'.cell? ⟨w5.heap.size, 2, none⟩ = some (.slice A5_2 x0.cache.entries.length k5_2) ∧ w'.cell? ⟨w5.heap.size, 3, none⟩ = some (.slice A5_3 x0.pending.length k5_3) ∧ w'.cell? ⟨w5.heap.size, 4, none⟩ = some (.slice A5_4 x0.seen.length k5_4) ∧ w'.cell? ⟨w5.heap.size, 5, none⟩ = some (.slice A5_5 x0.routes.length k5_5) ∧ w'.cell? ⟨w5.heap.size, 6, none⟩ = some (.slice A5_6 x0.measurements.length k5_6) ∧ w'.cell? ⟨w5.heap.size, 7, none⟩ = some (.int .i64 x0.dropped)) (((repeat' apply And.intro) <;> (first | assumption | exact hx9.cell (hx8.cell (by assumption)) | exact hx8.cell (by assumption))))
    (first | (go_at_call 28; refine (toNode_c _ x0 _ (sNode.ext ((E7).drew) h0) (by omega)).mono ?_; rintro e w8 ⟨⟨r8, rfl, O8⟩, hx8⟩) | (go_at_call 30; refine (eqNode_c _ _ x0 _ (sNode.ext ((Ext.refl w7).drew.trans hx8) rr0) O8.rd).mono ?_; rintro e w9 ⟨rfl, hx9⟩))
  have E9 : Ext w w9 := (((E7).drew).trans hx8).trans hx9
  have Z9 : Ext w7 w9 := (((Ext.refl w7).drew).trans hx8).trans hx9
  clear b0_0 b0_1 b0_2 b0_3 b0_4 b0_5 b0_6 b0_7 b1_0 b1_1 b1_2 b1_3 bx0_0 bx0_1 bx0_2 bx0_3 bx0_4 bx0_5 bx0_6 bx0_7 bx1_0 bx1_1 bx1_2 bx1_3
  replace b0 := Blk.ext Z9 b0
  replace b1 := Blk.ext Z9 b1
  replace bx0 := Blk.ext Z9 bx0
  replace bx1 := Blk.ext Z9 bx1
  replace rr0 := sNode.ext Z9 rr0
  replace rr1 := sInterest.ext Z9 rr1
  clear Z9 hx8 hx9 O8
  have q_b0 := b0
  have b0_0 : w9.cell? ⟨w.heap.size, 0, none⟩ = some (c0_0) := b0.cell 0
  have b0_1 : w9.cell? ⟨w.heap.size, 1, none⟩ = some (.int .i64 x0.cache.capacity) := b0.cell 1
  have b0_2 : w9.cell? ⟨w.heap.size, 2, none⟩ = some (c0_2) := b0.cell 2
  have b0_3 : w9.cell? ⟨w.heap.size, 3, none⟩ = some (c0_3) := b0.cell 3
  have b0_4 : w9.cell? ⟨w.heap.size, 4, none⟩ = some (c0_4) := b0.cell 4
  have b0_5 : w9.cell? ⟨w.heap.size, 5, none⟩ = some (c0_5) := b0.cell 5
  have b0_6 : w9.cell? ⟨w.heap.size, 6, none⟩ = some (c0_6) := b0.cell 6
  have b0_7 : w9.cell? ⟨w.heap.size, 7, none⟩ = some (.int .i64 x0.dropped) := b0.cell 7
  clear q_b0
  have q_b1 := b1
  have b1_0 : w9.cell? ⟨w.heap.size + 1, 0, none⟩ = some (c1_0) := b1.cell 0
  have b1_1 : w9.cell? ⟨w.heap.size + 1, 1, none⟩ = some (.int .i64 x1.nonce) := b1.cell 1
  have b1_2 : w9.cell? ⟨w.heap.size + 1, 2, none⟩ = some (.int .i64 x1.hopLimit) := b1.cell 2
  have b1_3 : w9.cell? ⟨w.heap.size + 1, 3, none⟩ = some (.int .i64 x1.lifetime) := b1.cell 3
  clear q_b1
  have q_bx0 := bx0
  have bx0_0 : w9.cell? ⟨w5.heap.size, 0, none⟩ = some (.slice A5_0 x0.locals.length k5_0) := bx0.cell 0
  have bx0_1 : w9.cell? ⟨w5.heap.size, 1, none⟩ = some (.int .i64 x0.cache.capacity) := bx0.cell 1
  have bx0_2 : w9.cell? ⟨w5.heap.size, 2, none⟩ = some (.slice A5_2 x0.cache.entries.length k5_2) := bx0.cell 2
  have bx0_3 : w9.cell? ⟨w5.heap.size, 3, none⟩ = some (.slice A5_3 x0.pending.length k5_3) := bx0.cell 3
  have bx0_4 : w9.cell? ⟨w5.heap.size, 4, none⟩ = some (.slice A5_4 x0.seen.length k5_4) := bx0.cell 4
  have bx0_5 : w9.cell? ⟨w5.heap.size, 5, none⟩ = some (.slice A5_5 x0.routes.length k5_5) := bx0.cell 5
  have bx0_6 : w9.cell? ⟨w5.heap.size, 6, none⟩ = some (.slice A5_6 x0.measurements.length k5_6) := bx0.cell 6
  have bx0_7 : w9.cell? ⟨w5.heap.size, 7, none⟩ = some (.int .i64 x0.dropped) := bx0.cell 7
  clear q_bx0
  have q_bx1 := bx1
  have bx1_0 : w9.cell? ⟨w6.heap.size, 0, none⟩ = some (.slice A6_0 x1.name.length k6_0) := bx1.cell 0
  have bx1_1 : w9.cell? ⟨w6.heap.size, 1, none⟩ = some (.int .i64 x1.nonce) := bx1.cell 1
  have bx1_2 : w9.cell? ⟨w6.heap.size, 2, none⟩ = some (.int .i64 x1.hopLimit) := bx1.cell 2
  have bx1_3 : w9.cell? ⟨w6.heap.size, 3, none⟩ = some (.int .i64 x1.lifetime) := bx1.cell 3
  clear q_bx1
  go_wp2
  go_region_held3 (fun w' => w'.cell? ⟨w.heap.size + 1, 0, none⟩ = some (c1_0) ∧ w'.cell? ⟨w.heap.size + 1, 1, none⟩ = some (.int .i64 x1.nonce) ∧ w'.cell? ⟨w.heap.size + 1, 2, none⟩ = some (.int .i64 x1.hopLimit) ∧ w'.cell? ⟨w.heap.size + 1, 3, none⟩ = some (.int .i64 x1.lifetime) ∧ w'.cell? ⟨w6.heap.size, 0, none⟩ = some (.slice A6_0 x1.name.length k6_0) ∧ w'.cell? ⟨w6.heap.size, 1, none⟩ = some (.int .i64 x1.nonce) ∧ w'.cell? ⟨w6.heap.size, 2, none⟩ = some (.int .i64 x1.hopLimit) ∧ w'.cell? ⟨w6.heap.size, 3, none⟩ = some (.int .i64 x1.lifetime)) (((repeat' apply And.intro) <;> (first | assumption | exact hx11.cell (hx10.cell (by assumption)) | exact hx10.cell (by assumption))))
    (first | (go_at_call 33; refine (toInterest_c _ x1 _ (sInterest.ext ((E9).drew) h1) (by omega)).mono ?_; rintro e w10 ⟨⟨r10, rfl, O10⟩, hx10⟩) | (go_at_call 35; refine (eqInterest_c _ _ x1 _ (sInterest.ext ((Ext.refl w9).drew.trans hx10) rr1) O10.rd).mono ?_; rintro e w11 ⟨rfl, hx11⟩))
  have E11 : Ext w w11 := (((E9).drew).trans hx10).trans hx11
  have Z11 : Ext w9 w11 := (((Ext.refl w9).drew).trans hx10).trans hx11
  clear b0_0 b0_1 b0_2 b0_3 b0_4 b0_5 b0_6 b0_7 b1_0 b1_1 b1_2 b1_3 bx0_0 bx0_1 bx0_2 bx0_3 bx0_4 bx0_5 bx0_6 bx0_7 bx1_0 bx1_1 bx1_2 bx1_3
  replace b0 := Blk.ext Z11 b0
  replace b1 := Blk.ext Z11 b1
  replace bx0 := Blk.ext Z11 bx0
  replace bx1 := Blk.ext Z11 bx1
  replace rr0 := sNode.ext Z11 rr0
  replace rr1 := sInterest.ext Z11 rr1
  clear Z11 hx10 hx11 O10
  have q_b0 := b0
  have b0_0 : w11.cell? ⟨w.heap.size, 0, none⟩ = some (c0_0) := b0.cell 0
  have b0_1 : w11.cell? ⟨w.heap.size, 1, none⟩ = some (.int .i64 x0.cache.capacity) := b0.cell 1
  have b0_2 : w11.cell? ⟨w.heap.size, 2, none⟩ = some (c0_2) := b0.cell 2
  have b0_3 : w11.cell? ⟨w.heap.size, 3, none⟩ = some (c0_3) := b0.cell 3
  have b0_4 : w11.cell? ⟨w.heap.size, 4, none⟩ = some (c0_4) := b0.cell 4
  have b0_5 : w11.cell? ⟨w.heap.size, 5, none⟩ = some (c0_5) := b0.cell 5
  have b0_6 : w11.cell? ⟨w.heap.size, 6, none⟩ = some (c0_6) := b0.cell 6
  have b0_7 : w11.cell? ⟨w.heap.size, 7, none⟩ = some (.int .i64 x0.dropped) := b0.cell 7
  clear q_b0
  have q_b1 := b1
  have b1_0 : w11.cell? ⟨w.heap.size + 1, 0, none⟩ = some (c1_0) := b1.cell 0
  have b1_1 : w11.cell? ⟨w.heap.size + 1, 1, none⟩ = some (.int .i64 x1.nonce) := b1.cell 1
  have b1_2 : w11.cell? ⟨w.heap.size + 1, 2, none⟩ = some (.int .i64 x1.hopLimit) := b1.cell 2
  have b1_3 : w11.cell? ⟨w.heap.size + 1, 3, none⟩ = some (.int .i64 x1.lifetime) := b1.cell 3
  clear q_b1
  have q_bx0 := bx0
  have bx0_0 : w11.cell? ⟨w5.heap.size, 0, none⟩ = some (.slice A5_0 x0.locals.length k5_0) := bx0.cell 0
  have bx0_1 : w11.cell? ⟨w5.heap.size, 1, none⟩ = some (.int .i64 x0.cache.capacity) := bx0.cell 1
  have bx0_2 : w11.cell? ⟨w5.heap.size, 2, none⟩ = some (.slice A5_2 x0.cache.entries.length k5_2) := bx0.cell 2
  have bx0_3 : w11.cell? ⟨w5.heap.size, 3, none⟩ = some (.slice A5_3 x0.pending.length k5_3) := bx0.cell 3
  have bx0_4 : w11.cell? ⟨w5.heap.size, 4, none⟩ = some (.slice A5_4 x0.seen.length k5_4) := bx0.cell 4
  have bx0_5 : w11.cell? ⟨w5.heap.size, 5, none⟩ = some (.slice A5_5 x0.routes.length k5_5) := bx0.cell 5
  have bx0_6 : w11.cell? ⟨w5.heap.size, 6, none⟩ = some (.slice A5_6 x0.measurements.length k5_6) := bx0.cell 6
  have bx0_7 : w11.cell? ⟨w5.heap.size, 7, none⟩ = some (.int .i64 x0.dropped) := bx0.cell 7
  clear q_bx0
  have q_bx1 := bx1
  have bx1_0 : w11.cell? ⟨w6.heap.size, 0, none⟩ = some (.slice A6_0 x1.name.length k6_0) := bx1.cell 0
  have bx1_1 : w11.cell? ⟨w6.heap.size, 1, none⟩ = some (.int .i64 x1.nonce) := bx1.cell 1
  have bx1_2 : w11.cell? ⟨w6.heap.size, 2, none⟩ = some (.int .i64 x1.hopLimit) := bx1.cell 2
  have bx1_3 : w11.cell? ⟨w6.heap.size, 3, none⟩ = some (.int .i64 x1.lifetime) := bx1.cell 3
  clear q_bx1
  go_wp2
  go_ret
  exact ⟨rfl, E11⟩

end Go.Proofs.Ythnkggjgblehaaa
