/- The walk of laws.FnExactValidController: it answers true. Printed by genexact.py. -/
import Derived.Test.YthnkggjgblehaaaFamSz
import Derived.Test.YthnkggjgblehaaaFamTo
import Derived.Test.YthnkggjgblehaaaFamEq
import Derived.Test.YthnkggjgblehaaaWkCtl
import Derived.Deep.RegionHeld3
import Derived.Deep.DrawnRows
namespace Go.Proofs.Ythnkggjgblehaaa
open Go.RowKit
set_option linter.unusedVariables false
attribute [local go_sem ↓] Go.wp_at_zero Go.wp_at_succ

set_option maxHeartbeats 4000000 in
theorem lawFnExactValidController (cs0 : List Value) (x0 : DAccessController) (w : World) (h0 : sAccessController.rd w cs0 x0) :
    Calls Try.prog 3 #[.agg cs0.toArray] w fun e w' => e = .returned (.bool true) ∧ Ext w w' := by
  have k0 := h0
  obtain ⟨c0_0, c0_3, rfl, _⟩ := sAccessController_rd k0
  clear k0
  go_enter Try.func3, Try.ntmps3
  go_wp2_with fail
  refine (szAccessController_c _ x0 _ _ (sAccessController.ext ((Ext.refl w).alloc _) h0) (by omega) (by omega)).mono ?_
  rintro e w0 ⟨rfl, hx0⟩
  have E0 : Ext w w0 := Ext.trans ((Ext.refl w).alloc _) hx0
  have b0 : Blk w0 (w.heap.size) 25 #[c0_0, .int .i64 x0.master, .int .i64 x0.epoch, c0_3] := Blk.ext hx0 (Blk.new_at (by simp))
  clear hx0
  by_cases hq0 : remain (1048576) (szAccessController x0) < 0
  · go_wp2
    go_ret
    exact ⟨rfl, E0⟩
  obtain ⟨hp0, hv0⟩ := remain_pos (Int.not_lt.1 hq0)
  rw [hv0] at hq0 ⊢
  clear hv0
  have hs0 : szAccessController x0 ≤ 1048576 := by omega
  have q_b0 := b0
  have b0_0 : w0.cell? ⟨w.heap.size, 0, none⟩ = some (c0_0) := b0.cell 0
  have b0_1 : w0.cell? ⟨w.heap.size, 1, none⟩ = some (.int .i64 x0.master) := b0.cell 1
  have b0_2 : w0.cell? ⟨w.heap.size, 2, none⟩ = some (.int .i64 x0.epoch) := b0.cell 2
  have b0_3 : w0.cell? ⟨w.heap.size, 3, none⟩ = some (c0_3) := b0.cell 3
  clear q_b0
  go_wp2_with fail
  refine (toAccessController_c _ x0 _ (sAccessController.ext E0 h0) (by omega)).mono ?_
  rintro e w1 ⟨⟨r1, rfl, O1⟩, hx1⟩
  obtain ⟨e1_0, e1_3, rfl, _⟩ := sAccessController_rd O1.rd
  go_wp2_with fail
  refine (specValidController_c _ x0 _ O1.rd).mono ?_
  rintro e w2 ⟨rfl, hx2⟩
  have E2 : Ext w w2 := ((E0).trans hx1).trans hx2
  clear b0_0 b0_1 b0_2 b0_3
  replace b0 := Blk.ext hx2 (Blk.ext hx1 b0)
  clear hx1 hx2 O1
  have q_b0 := b0
  have b0_0 : w2.cell? ⟨w.heap.size, 0, none⟩ = some (c0_0) := b0.cell 0
  have b0_1 : w2.cell? ⟨w.heap.size, 1, none⟩ = some (.int .i64 x0.master) := b0.cell 1
  have b0_2 : w2.cell? ⟨w.heap.size, 2, none⟩ = some (.int .i64 x0.epoch) := b0.cell 2
  have b0_3 : w2.cell? ⟨w.heap.size, 3, none⟩ = some (c0_3) := b0.cell 3
  clear q_b0
  go_wp2_with fail
  refine (toAccessController_c _ x0 _ (sAccessController.ext (E2) h0) (by omega)).mono ?_
  rintro e w3 ⟨⟨r3, rfl, O3⟩, hx3⟩
  have E3 : Ext w w3 := (E2).trans hx3
  clear b0_0 b0_1 b0_2 b0_3
  replace b0 := Blk.ext hx3 b0
  have rr0 := O3.rd
  obtain ⟨e3_0, e3_3, rfl, _⟩ := sAccessController_rd rr0
  obtain ⟨A3_0, k3_0, rfl, _, _⟩ := Shape.sl_form (sAccessController_f0 rr0)
  obtain ⟨A3_3, k3_3, rfl, _, _⟩ := Shape.sl_form (sAccessController_f3 rr0)
  clear hx3 O3
  have lt_b0 := b0.lt
  have q_b0 := b0
  have b0_0 : w3.cell? ⟨w.heap.size, 0, none⟩ = some (c0_0) := b0.cell 0
  have b0_1 : w3.cell? ⟨w.heap.size, 1, none⟩ = some (.int .i64 x0.master) := b0.cell 1
  have b0_2 : w3.cell? ⟨w.heap.size, 2, none⟩ = some (.int .i64 x0.epoch) := b0.cell 2
  have b0_3 : w3.cell? ⟨w.heap.size, 3, none⟩ = some (c0_3) := b0.cell 3
  clear q_b0
  go_wp2_with fail
  refine (implValidController_c _ x0 _ (sAccessController.ext ((Ext.refl _).alloc _) rr0)).mono ?_
  rintro e w4 ⟨rfl, hx4⟩
  have E4 : Ext w w4 := ((E3).alloc _).trans hx4
  have Z4 : Ext w3 w4 := ((Ext.refl _).alloc _).trans hx4
  clear b0_0 b0_1 b0_2 b0_3
  replace b0 := Blk.ext Z4 b0
  have bx0 : Blk w4 (w3.heap.size) 31 #[.slice A3_0 x0.keys.length k3_0, .int .i64 x0.master, .int .i64 x0.epoch, .slice A3_3 x0.readers.length k3_3] := Blk.ext hx4 (Blk.new _ _ _)
  replace rr0 := sAccessController.ext Z4 rr0
  clear Z4 hx4
  have ltt_b0 := b0.lt
  have ltt_bx0 := bx0.lt
  have q_b0 := b0
  have b0_0 : w4.cell? ⟨w.heap.size, 0, none⟩ = some (c0_0) := b0.cell 0
  have b0_1 : w4.cell? ⟨w.heap.size, 1, none⟩ = some (.int .i64 x0.master) := b0.cell 1
  have b0_2 : w4.cell? ⟨w.heap.size, 2, none⟩ = some (.int .i64 x0.epoch) := b0.cell 2
  have b0_3 : w4.cell? ⟨w.heap.size, 3, none⟩ = some (c0_3) := b0.cell 3
  clear q_b0
  have q_bx0 := bx0
  have bx0_0 : w4.cell? ⟨w3.heap.size, 0, none⟩ = some (.slice A3_0 x0.keys.length k3_0) := bx0.cell 0
  have bx0_1 : w4.cell? ⟨w3.heap.size, 1, none⟩ = some (.int .i64 x0.master) := bx0.cell 1
  have bx0_2 : w4.cell? ⟨w3.heap.size, 2, none⟩ = some (.int .i64 x0.epoch) := bx0.cell 2
  have bx0_3 : w4.cell? ⟨w3.heap.size, 3, none⟩ = some (.slice A3_3 x0.readers.length k3_3) := bx0.cell 3
  clear q_bx0
  have hsame : (validController x0 != validController x0) = false := by simp
  go_wp2
  go_region_held3 (fun w' => w'.cell? ⟨w.heap.size, 0, none⟩ = some (c0_0) ∧ w'.cell? ⟨w.heap.size, 1, none⟩ = some (.int .i64 x0.master) ∧ w'.cell? ⟨w.heap.size, 2, none⟩ = some (.int .i64 x0.epoch) ∧ w'.cell? ⟨w.heap.size, 3, none⟩ = some (c0_3) ∧ w'.cell? ⟨w3.heap.size, 0, none⟩ = some (.slice A3_0 x0.keys.length k3_0) ∧ w'.cell? ⟨w3.heap.size, 1, none⟩ = some (.int .i64 x0.master) ∧ w'.cell? ⟨w3.heap.size, 2, none⟩ = some (.int .i64 x0.epoch) ∧ w'.cell? ⟨w3.heap.size, 3, none⟩ = some (.slice A3_3 x0.readers.length k3_3)) (((repeat' apply And.intro) <;> (first | assumption | exact hx6.cell (hx5.cell (by assumption)) | exact hx5.cell (by assumption))))
    (first | (go_at_call 10; refine (toAccessController_c _ x0 _ (sAccessController.ext ((E4).drew) h0) (by omega)).mono ?_; rintro e w5 ⟨⟨r5, rfl, O5⟩, hx5⟩) | (go_at_call 12; refine (eqAccessController_c _ _ x0 _ (sAccessController.ext ((Ext.refl w4).drew.trans hx5) rr0) O5.rd).mono ?_; rintro e w6 ⟨rfl, hx6⟩))
  have E6 : Ext w w6 := (((E4).drew).trans hx5).trans hx6
  have Z6 : Ext w4 w6 := (((Ext.refl w4).drew).trans hx5).trans hx6
  clear b0_0 b0_1 b0_2 b0_3 bx0_0 bx0_1 bx0_2 bx0_3
  replace b0 := Blk.ext Z6 b0
  replace bx0 := Blk.ext Z6 bx0
  replace rr0 := sAccessController.ext Z6 rr0
  clear Z6 hx5 hx6 O5
  have q_b0 := b0
  have b0_0 : w6.cell? ⟨w.heap.size, 0, none⟩ = some (c0_0) := b0.cell 0
  have b0_1 : w6.cell? ⟨w.heap.size, 1, none⟩ = some (.int .i64 x0.master) := b0.cell 1
  have b0_2 : w6.cell? ⟨w.heap.size, 2, none⟩ = some (.int .i64 x0.epoch) := b0.cell 2
  have b0_3 : w6.cell? ⟨w.heap.size, 3, none⟩ = some (c0_3) := b0.cell 3
  clear q_b0
  have q_bx0 := bx0
  have bx0_0 : w6.cell? ⟨w3.heap.size, 0, none⟩ = some (.slice A3_0 x0.keys.length k3_0) := bx0.cell 0
  have bx0_1 : w6.cell? ⟨w3.heap.size, 1, none⟩ = some (.int .i64 x0.master) := bx0.cell 1
  have bx0_2 : w6.cell? ⟨w3.heap.size, 2, none⟩ = some (.int .i64 x0.epoch) := bx0.cell 2
  have bx0_3 : w6.cell? ⟨w3.heap.size, 3, none⟩ = some (.slice A3_3 x0.readers.length k3_3) := bx0.cell 3
  clear q_bx0
  go_wp2
  go_ret
  exact ⟨rfl, E6⟩

end Go.Proofs.Ythnkggjgblehaaa
