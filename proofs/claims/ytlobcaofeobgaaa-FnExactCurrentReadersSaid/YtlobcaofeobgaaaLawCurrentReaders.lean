/- The walk of laws.FnExactCurrentReaders: it answers true. Printed by genexact.py. -/
import Derived.Test.YtlobcaofeobgaaaFamSz
import Derived.Test.YtlobcaofeobgaaaFamTo
import Derived.Test.YtlobcaofeobgaaaFamEq
import Derived.Test.YtlobcaofeobgaaaWkCr
import Derived.Test.YtlobcaofeobgaaaMk3
import Derived.Deep.RegionHeld3
import Derived.Deep.DrawnRows
namespace Go.Proofs.Ytlobcaofeobgaaa
open Go.RowKit
set_option linter.unusedVariables false
set_option linter.unusedSimpArgs false
set_option linter.unusedSectionVars false
attribute [local go_sem ↓] Go.wp_at_zero Go.wp_at_succ

set_option maxHeartbeats 4000000 in
theorem lawFnExactCurrentReaders (cs0 : List Value) (x0 : DAccessController) (cs1 : List Value) (x1 : (List ByteArray)) (w : World) (h0 : sAccessController.rd w cs0 x0) (h1 : strs.rd w cs1 x1) :
    Calls Try.prog 3 #[.agg cs0.toArray, .agg cs1.toArray] w fun e w' => e = .returned (.bool true) ∧ Ext w w' := by
  have k0 := h0
  obtain ⟨c0_0, c0_3, rfl, _⟩ := sAccessController_rd k0
  clear k0
  have k1 := h1
  obtain ⟨c1_0, rfl⟩ := one_cell (strs.len k1)
  clear k1
  go_enter Try.func3, Try.ntmps3
  go_wp2_with fail
  refine (szAccessController_c _ x0 _ _ (sAccessController.ext (((Ext.refl w).alloc _).alloc _) h0) (by omega) (by omega)).mono ?_
  rintro e w0 ⟨rfl, hx0⟩
  have E0 : Ext w w0 := Ext.trans (((Ext.refl w).alloc _).alloc _) hx0
  have b0 : Blk w0 (w.heap.size) 25 #[c0_0, .int .i64 x0.master, .int .i64 x0.epoch, c0_3] := Blk.ext hx0 ((Blk.new_at (by simp)).alloc _)
  have b1 : Blk w0 (w.heap.size + 1) 28 #[c1_0] := Blk.ext hx0 (Blk.new_at (by simp))
  clear hx0
  by_cases hq0 : remain (1048576) (szAccessController x0) < 0
  · go_wp2
    go_ret
    exact ⟨rfl, E0⟩
  obtain ⟨hp0, hv0⟩ := remain_pos (Int.not_lt.1 hq0)
  rw [hv0] at hq0 ⊢
  clear hv0
  have hs0 : szAccessController x0 ≤ 1048576 := by omega
  have q_b0 := b0
  have b0_0 : w0.cell? ⟨w.heap.size, 0, none⟩ = some (c0_0) := b0.cell 0
  have b0_1 : w0.cell? ⟨w.heap.size, 1, none⟩ = some (.int .i64 x0.master) := b0.cell 1
  have b0_2 : w0.cell? ⟨w.heap.size, 2, none⟩ = some (.int .i64 x0.epoch) := b0.cell 2
  have b0_3 : w0.cell? ⟨w.heap.size, 3, none⟩ = some (c0_3) := b0.cell 3
  clear q_b0
  have q_b1 := b1
  have b1_0 : w0.cell? ⟨w.heap.size + 1, 0, none⟩ = some (c1_0) := b1.cell 0
  clear q_b1
  go_wp2_with fail
  refine (szName_c _ x1 _ _ (strs.ext (E0) h1) (by omega) (by omega)).mono ?_
  rintro e w1 ⟨rfl, hx1⟩
  have E1 : Ext w w1 := Ext.trans (E0) hx1
  clear b0_0 b0_1 b0_2 b0_3 b1_0
  replace b0 := Blk.ext hx1 b0
  replace b1 := Blk.ext hx1 b1
  clear hx1
  by_cases hq1 : remain (1048576 - (szAccessController x0 : Nat)) ((szL ByteArray.size) x1) < 0
  · go_wp2
    go_ret
    exact ⟨rfl, E1⟩
  obtain ⟨hp1, hv1⟩ := remain_pos (Int.not_lt.1 hq1)
  rw [hv1] at hq1 ⊢
  clear hv1
  have hs1 : (szL ByteArray.size) x1 ≤ 1048576 := by omega
  have q_b0 := b0
  have b0_0 : w1.cell? ⟨w.heap.size, 0, none⟩ = some (c0_0) := b0.cell 0
  have b0_1 : w1.cell? ⟨w.heap.size, 1, none⟩ = some (.int .i64 x0.master) := b0.cell 1
  have b0_2 : w1.cell? ⟨w.heap.size, 2, none⟩ = some (.int .i64 x0.epoch) := b0.cell 2
  have b0_3 : w1.cell? ⟨w.heap.size, 3, none⟩ = some (c0_3) := b0.cell 3
  clear q_b0
  have q_b1 := b1
  have b1_0 : w1.cell? ⟨w.heap.size + 1, 0, none⟩ = some (c1_0) := b1.cell 0
  clear q_b1
  go_wp2
  go_region_held3 (fun w' => w'.cell? ⟨w.heap.size, 0, none⟩ = some (c0_0) ∧ w'.cell? ⟨w.heap.size, 1, none⟩ = some (.int .i64 x0.master) ∧ w'.cell? ⟨w.heap.size, 2, none⟩ = some (.int .i64 x0.epoch) ∧ w'.cell? ⟨w.heap.size, 3, none⟩ = some (c0_3) ∧ w'.cell? ⟨w.heap.size + 1, 0, none⟩ = some (c1_0)) (((repeat' apply And.intro) <;> (first | assumption | exact hx4.cell (hx3.cell (hx2.cell (by assumption))) | exact hx3.cell (hx2.cell (by assumption)) | exact hx2.cell (by assumption))))
    (first | (go_at_call 9; refine (toAccessController_c _ x0 _ (sAccessController.ext ((E1).drew) h0) (by omega)).mono ?_; rintro e w2 ⟨⟨r2_0, rfl, O2⟩, hx2⟩) | (go_at_call 10; refine (toName_c _ x1 _ (strs.ext (((E1).drew).trans hx2) h1) (by omega)).mono ?_; rintro e w3 ⟨⟨r2_1, rfl, O3⟩, hx3⟩) | (go_at_call 8; refine (specCurrentReaders_c _ x0 _ x1 _ (sAccessController.ext hx3 O2.rd) O3.rd hs0 hs1).mono ?_; rintro e w4 ⟨⟨gw, rfl, OW⟩, hx4⟩))
  have E4 : Ext w w4 := ((((E1).drew).trans hx2).trans hx3).trans hx4
  have Z4 : Ext w1 w4 := ((((Ext.refl w1).drew).trans hx2).trans hx3).trans hx4
  have lt1_b0 := b0.lt
  have lt1_b1 := b1.lt
  obtain ⟨lW, hW, KW, bW⟩ : ∃ lo hi, Owned sInts lo hi w4 [gw] (readersOf x0.readers x1) ∧ w1.heap.size ≤ lo := ⟨_, _, ⟨OW, Nat.le_refl _, hx4.size⟩, ((((Ext.refl w1).drew).trans hx2).trans hx3).size⟩
  have cW : lW ≤ hW := KW.2.2
  clear OW
  clear b0_0 b0_1 b0_2 b0_3 b1_0
  replace b0 := Blk.ext Z4 b0
  replace b1 := Blk.ext Z4 b1
  clear Z4 hx2 hx3 hx4 O2 O3
  have q_b0 := b0
  have b0_0 : w4.cell? ⟨w.heap.size, 0, none⟩ = some (c0_0) := b0.cell 0
  have b0_1 : w4.cell? ⟨w.heap.size, 1, none⟩ = some (.int .i64 x0.master) := b0.cell 1
  have b0_2 : w4.cell? ⟨w.heap.size, 2, none⟩ = some (.int .i64 x0.epoch) := b0.cell 2
  have b0_3 : w4.cell? ⟨w.heap.size, 3, none⟩ = some (c0_3) := b0.cell 3
  clear q_b0
  have q_b1 := b1
  have b1_0 : w4.cell? ⟨w.heap.size + 1, 0, none⟩ = some (c1_0) := b1.cell 0
  clear q_b1
  go_wp2_with fail
  refine (toAccessController_c _ x0 _ (sAccessController.ext (E4) h0) (by omega)).mono ?_
  rintro e w5 ⟨⟨r5, rfl, O5⟩, hx5⟩
  have E5 : Ext w w5 := (E4).trans hx5
  clear b0_0 b0_1 b0_2 b0_3 b1_0
  replace b0 := Blk.ext hx5 b0
  replace b1 := Blk.ext hx5 b1
  obtain ⟨lX0, hX0, KX0, bX0⟩ : ∃ lo hi, Owned sAccessController lo hi w5 _ x0 ∧ hW ≤ lo := ⟨_, _, ⟨O5, Nat.le_refl _, hx5.size⟩, KW.2.1⟩
  replace KW := KW.ext hx5
  have cX0 : lX0 ≤ hX0 := KX0.2.2
  have nX0 : hX0 ≤ w5.heap.size := KX0.2.1
  have rr0 := O5.rd
  obtain ⟨e5_0, e5_3, rfl, _⟩ := sAccessController_rd rr0
  obtain ⟨A5_0, k5_0, rfl, _, _⟩ := Shape.sl_form (sAccessController_f0 rr0)
  obtain ⟨A5_3, k5_3, rfl, _, _⟩ := Shape.sl_form (sAccessController_f3 rr0)
  clear hx5 O5
  have lt_b0 := b0.lt
  have lt_b1 := b1.lt
  have q_b0 := b0
  have b0_0 : w5.cell? ⟨w.heap.size, 0, none⟩ = some (c0_0) := b0.cell 0
  have b0_1 : w5.cell? ⟨w.heap.size, 1, none⟩ = some (.int .i64 x0.master) := b0.cell 1
  have b0_2 : w5.cell? ⟨w.heap.size, 2, none⟩ = some (.int .i64 x0.epoch) := b0.cell 2
  have b0_3 : w5.cell? ⟨w.heap.size, 3, none⟩ = some (c0_3) := b0.cell 3
  clear q_b0
  have q_b1 := b1
  have b1_0 : w5.cell? ⟨w.heap.size + 1, 0, none⟩ = some (c1_0) := b1.cell 0
  clear q_b1
  go_wp2_with fail
  refine (toName_c _ x1 _ (strs.ext ((E5).alloc _) h1) (by omega)).mono ?_
  rintro e w6 ⟨⟨r6, rfl, O6⟩, hx6⟩
  have E6 : Ext w w6 := ((E5).alloc _).trans hx6
  clear b0_0 b0_1 b0_2 b0_3 b1_0
  have Z6 : Ext w5 w6 := ((Ext.refl _).alloc _).trans hx6
  replace b0 := Blk.ext Z6 b0
  replace b1 := Blk.ext Z6 b1
  have bx0 : Blk w6 (w5.heap.size) 36 #[.slice A5_0 x0.keys.length k5_0, .int .i64 x0.master, .int .i64 x0.epoch, .slice A5_3 x0.readers.length k5_3] := Blk.ext hx6 (Blk.new _ _ _)
  replace rr0 := sAccessController.ext Z6 rr0
  obtain ⟨lX1, hX1, KX1, bX1⟩ : ∃ lo hi, Owned strs lo hi w6 _ x1 ∧ w5.heap.size + 1 ≤ lo := ⟨_, _, ⟨O6, Nat.le_refl _, hx6.size⟩, by simp⟩
  replace KW := KW.ext Z6
  replace KX0 := KX0.ext Z6
  have cX1 : lX1 ≤ hX1 := KX1.2.2
  have nX1 : hX1 ≤ w6.heap.size := KX1.2.1
  have rr1 := O6.rd
  obtain ⟨e6_0, rfl⟩ := one_cell (strs.len rr1)
  obtain ⟨A6_0, k6_0, rfl, _, _⟩ := Shape.sl_form rr1
  clear hx6 O6 Z6
  have lt_b0 := b0.lt
  have lt_b1 := b1.lt
  have lt_bx0 := bx0.lt
  have q_b0 := b0
  have b0_0 : w6.cell? ⟨w.heap.size, 0, none⟩ = some (c0_0) := b0.cell 0
  have b0_1 : w6.cell? ⟨w.heap.size, 1, none⟩ = some (.int .i64 x0.master) := b0.cell 1
  have b0_2 : w6.cell? ⟨w.heap.size, 2, none⟩ = some (.int .i64 x0.epoch) := b0.cell 2
  have b0_3 : w6.cell? ⟨w.heap.size, 3, none⟩ = some (c0_3) := b0.cell 3
  clear q_b0
  have q_b1 := b1
  have b1_0 : w6.cell? ⟨w.heap.size + 1, 0, none⟩ = some (c1_0) := b1.cell 0
  clear q_b1
  have q_bx0 := bx0
  have bx0_0 : w6.cell? ⟨w5.heap.size, 0, none⟩ = some (.slice A5_0 x0.keys.length k5_0) := bx0.cell 0
  have bx0_1 : w6.cell? ⟨w5.heap.size, 1, none⟩ = some (.int .i64 x0.master) := bx0.cell 1
  have bx0_2 : w6.cell? ⟨w5.heap.size, 2, none⟩ = some (.int .i64 x0.epoch) := bx0.cell 2
  have bx0_3 : w6.cell? ⟨w5.heap.size, 3, none⟩ = some (.slice A5_3 x0.readers.length k5_3) := bx0.cell 3
  clear q_bx0
  go_wp2_with fail
  refine (implCurrentReaders_c _ x0 _ x1 _ (sAccessController.ext ((Ext.refl _).alloc _) rr0) (strs.ext ((Ext.refl _).alloc _) rr1) hs0 hs1).mono ?_
  rintro e w7 ⟨⟨gg, rfl, OG⟩, hx7⟩
  have E7 : Ext w w7 := ((E6).alloc _).trans hx7
  have Z7 : Ext w6 w7 := ((Ext.refl _).alloc _).trans hx7
  clear b0_0 b0_1 b0_2 b0_3 b1_0 bx0_0 bx0_1 bx0_2 bx0_3
  obtain ⟨lG, hG, KG, bG⟩ : ∃ lo hi, Owned sInts lo hi w7 [gg] (readersOf x0.readers x1) ∧ w6.heap.size + 1 ≤ lo := ⟨_, _, ⟨OG, Nat.le_refl _, hx7.size⟩, by simp⟩
  have cG : lG ≤ hG := KG.2.2
  replace KW := KW.ext Z7
  replace KX0 := KX0.ext Z7
  replace KX1 := KX1.ext Z7
  replace b0 := Blk.ext Z7 b0
  replace b1 := Blk.ext Z7 b1
  replace bx0 := Blk.ext Z7 bx0
  have bx1 : Blk w7 (w6.heap.size) 38 #[.slice A6_0 x1.length k6_0] := Blk.ext hx7 (Blk.new _ _ _)
  replace rr0 := sAccessController.ext Z7 rr0
  replace rr1 := strs.ext Z7 rr1
  clear Z7 hx7 OG
  have ltt_b0 := b0.lt
  have ltt_b1 := b1.lt
  have ltt_bx0 := bx0.lt
  have ltt_bx1 := bx1.lt
  have q_b0 := b0
  have b0_0 : w7.cell? ⟨w.heap.size, 0, none⟩ = some (c0_0) := b0.cell 0
  have b0_1 : w7.cell? ⟨w.heap.size, 1, none⟩ = some (.int .i64 x0.master) := b0.cell 1
  have b0_2 : w7.cell? ⟨w.heap.size, 2, none⟩ = some (.int .i64 x0.epoch) := b0.cell 2
  have b0_3 : w7.cell? ⟨w.heap.size, 3, none⟩ = some (c0_3) := b0.cell 3
  clear q_b0
  have q_b1 := b1
  have b1_0 : w7.cell? ⟨w.heap.size + 1, 0, none⟩ = some (c1_0) := b1.cell 0
  clear q_b1
  have q_bx0 := bx0
  have bx0_0 : w7.cell? ⟨w5.heap.size, 0, none⟩ = some (.slice A5_0 x0.keys.length k5_0) := bx0.cell 0
  have bx0_1 : w7.cell? ⟨w5.heap.size, 1, none⟩ = some (.int .i64 x0.master) := bx0.cell 1
  have bx0_2 : w7.cell? ⟨w5.heap.size, 2, none⟩ = some (.int .i64 x0.epoch) := bx0.cell 2
  have bx0_3 : w7.cell? ⟨w5.heap.size, 3, none⟩ = some (.slice A5_3 x0.readers.length k5_3) := bx0.cell 3
  clear q_bx0
  have q_bx1 := bx1
  have bx1_0 : w7.cell? ⟨w6.heap.size, 0, none⟩ = some (.slice A6_0 x1.length k6_0) := bx1.cell 0
  clear q_bx1
  go_wp2_with fail
  refine (eqIntS_c _ _ (readersOf x0.readers x1) _ KG.rd KW.rd).mono ?_
  rintro e w8 ⟨rfl, hx8⟩
  have E8 : Ext w w8 := (E7).trans hx8
  clear b0_0 b0_1 b0_2 b0_3 b1_0 bx0_0 bx0_1 bx0_2 bx0_3 bx1_0
  replace b0 := Blk.ext hx8 b0
  replace b1 := Blk.ext hx8 b1
  replace bx0 := Blk.ext hx8 bx0
  replace bx1 := Blk.ext hx8 bx1
  replace rr0 := sAccessController.ext hx8 rr0
  replace rr1 := strs.ext hx8 rr1
  replace KW := KW.ext hx8
  replace KX0 := KX0.ext hx8
  replace KX1 := KX1.ext hx8
  replace KG := KG.ext hx8
  clear hx8
  have q_b0 := b0
  have b0_0 : w8.cell? ⟨w.heap.size, 0, none⟩ = some (c0_0) := b0.cell 0
  have b0_1 : w8.cell? ⟨w.heap.size, 1, none⟩ = some (.int .i64 x0.master) := b0.cell 1
  have b0_2 : w8.cell? ⟨w.heap.size, 2, none⟩ = some (.int .i64 x0.epoch) := b0.cell 2
  have b0_3 : w8.cell? ⟨w.heap.size, 3, none⟩ = some (c0_3) := b0.cell 3
  clear q_b0
  have q_b1 := b1
  have b1_0 : w8.cell? ⟨w.heap.size + 1, 0, none⟩ = some (c1_0) := b1.cell 0
  clear q_b1
  have q_bx0 := bx0
  have bx0_0 : w8.cell? ⟨w5.heap.size, 0, none⟩ = some (.slice A5_0 x0.keys.length k5_0) := bx0.cell 0
  have bx0_1 : w8.cell? ⟨w5.heap.size, 1, none⟩ = some (.int .i64 x0.master) := bx0.cell 1
  have bx0_2 : w8.cell? ⟨w5.heap.size, 2, none⟩ = some (.int .i64 x0.epoch) := bx0.cell 2
  have bx0_3 : w8.cell? ⟨w5.heap.size, 3, none⟩ = some (.slice A5_3 x0.readers.length k5_3) := bx0.cell 3
  clear q_bx0
  have q_bx1 := bx1
  have bx1_0 : w8.cell? ⟨w6.heap.size, 0, none⟩ = some (.slice A6_0 x1.length k6_0) := bx1.cell 0
  clear q_bx1
  go_wp2
  go_region_held3 (fun w' => w'.cell? ⟨w.heap.size, 0, none⟩ = some (c0_0) ∧ w'.cell? ⟨w.heap.size, 1, none⟩ = some (.int .i64 x0.master) ∧ w'.cell? ⟨w.heap.size, 2, none⟩ = some (.int .i64 x0.epoch) ∧ w'.cell? ⟨w.heap.size, 3, none⟩ = some (c0_3) ∧ w'.cell? ⟨w5.heap.size, 0, none⟩ = some (.slice A5_0 x0.keys.length k5_0) ∧ w'.cell? ⟨w5.heap.size, 1, none⟩ = some (.int .i64 x0.master) ∧ w'.cell? ⟨w5.heap.size, 2, none⟩ = some (.int .i64 x0.epoch) ∧ w'.cell? ⟨w5.heap.size, 3, none⟩ = some (.slice A5_3 x0.readers.length k5_3)) (((repeat' apply And.intro) <;> (first | assumption | exact hx10.cell (hx9.cell (by assumption)) | exact hx9.cell (by assumption))))
    (first | (go_at_call 9; refine (toAccessController_c _ x0 _ (sAccessController.ext ((E8).drew) h0) (by omega)).mono ?_; rintro e w9 ⟨⟨r9, rfl, O9⟩, hx9⟩) | (go_at_call 13; refine (eqAccessController_c _ _ x0 _ (sAccessController.ext ((Ext.refl w8).drew.trans hx9) rr0) O9.rd).mono ?_; rintro e w10 ⟨rfl, hx10⟩))
  have E10 : Ext w w10 := (((E8).drew).trans hx9).trans hx10
  have Z10 : Ext w8 w10 := (((Ext.refl w8).drew).trans hx9).trans hx10
  clear b0_0 b0_1 b0_2 b0_3 b1_0 bx0_0 bx0_1 bx0_2 bx0_3 bx1_0
  replace b0 := Blk.ext Z10 b0
  replace b1 := Blk.ext Z10 b1
  replace bx0 := Blk.ext Z10 bx0
  replace bx1 := Blk.ext Z10 bx1
  replace rr0 := sAccessController.ext Z10 rr0
  replace rr1 := strs.ext Z10 rr1
  replace KW := KW.ext Z10
  replace KX0 := KX0.ext Z10
  replace KX1 := KX1.ext Z10
  replace KG := KG.ext Z10
  clear Z10 hx9 hx10 O9
  have q_b0 := b0
  have b0_0 : w10.cell? ⟨w.heap.size, 0, none⟩ = some (c0_0) := b0.cell 0
  have b0_1 : w10.cell? ⟨w.heap.size, 1, none⟩ = some (.int .i64 x0.master) := b0.cell 1
  have b0_2 : w10.cell? ⟨w.heap.size, 2, none⟩ = some (.int .i64 x0.epoch) := b0.cell 2
  have b0_3 : w10.cell? ⟨w.heap.size, 3, none⟩ = some (c0_3) := b0.cell 3
  clear q_b0
  have q_b1 := b1
  have b1_0 : w10.cell? ⟨w.heap.size + 1, 0, none⟩ = some (c1_0) := b1.cell 0
  clear q_b1
  have q_bx0 := bx0
  have bx0_0 : w10.cell? ⟨w5.heap.size, 0, none⟩ = some (.slice A5_0 x0.keys.length k5_0) := bx0.cell 0
  have bx0_1 : w10.cell? ⟨w5.heap.size, 1, none⟩ = some (.int .i64 x0.master) := bx0.cell 1
  have bx0_2 : w10.cell? ⟨w5.heap.size, 2, none⟩ = some (.int .i64 x0.epoch) := bx0.cell 2
  have bx0_3 : w10.cell? ⟨w5.heap.size, 3, none⟩ = some (.slice A5_3 x0.readers.length k5_3) := bx0.cell 3
  clear q_bx0
  have q_bx1 := bx1
  have bx1_0 : w10.cell? ⟨w6.heap.size, 0, none⟩ = some (.slice A6_0 x1.length k6_0) := bx1.cell 0
  clear q_bx1
  go_wp2
  go_region_held3 (fun w' => w'.cell? ⟨w.heap.size + 1, 0, none⟩ = some (c1_0) ∧ w'.cell? ⟨w6.heap.size, 0, none⟩ = some (.slice A6_0 x1.length k6_0)) (((repeat' apply And.intro) <;> (first | assumption | exact hx12.cell (hx11.cell (by assumption)) | exact hx11.cell (by assumption))))
    (first | (go_at_call 10; refine (toName_c _ x1 _ (strs.ext ((E10).drew) h1) (by omega)).mono ?_; rintro e w11 ⟨⟨r11, rfl, O11⟩, hx11⟩) | (go_at_call 14; refine (eqName_c _ _ x1 _ (strs.ext ((Ext.refl w10).drew.trans hx11) rr1) O11.rd).mono ?_; rintro e w12 ⟨rfl, hx12⟩))
  have E12 : Ext w w12 := (((E10).drew).trans hx11).trans hx12
  have Z12 : Ext w10 w12 := (((Ext.refl w10).drew).trans hx11).trans hx12
  clear b0_0 b0_1 b0_2 b0_3 b1_0 bx0_0 bx0_1 bx0_2 bx0_3 bx1_0
  replace b0 := Blk.ext Z12 b0
  replace b1 := Blk.ext Z12 b1
  replace bx0 := Blk.ext Z12 bx0
  replace bx1 := Blk.ext Z12 bx1
  replace rr0 := sAccessController.ext Z12 rr0
  replace rr1 := strs.ext Z12 rr1
  replace KW := KW.ext Z12
  replace KX0 := KX0.ext Z12
  replace KX1 := KX1.ext Z12
  replace KG := KG.ext Z12
  clear Z12 hx11 hx12 O11
  have q_b0 := b0
  have b0_0 : w12.cell? ⟨w.heap.size, 0, none⟩ = some (c0_0) := b0.cell 0
  have b0_1 : w12.cell? ⟨w.heap.size, 1, none⟩ = some (.int .i64 x0.master) := b0.cell 1
  have b0_2 : w12.cell? ⟨w.heap.size, 2, none⟩ = some (.int .i64 x0.epoch) := b0.cell 2
  have b0_3 : w12.cell? ⟨w.heap.size, 3, none⟩ = some (c0_3) := b0.cell 3
  clear q_b0
  have q_b1 := b1
  have b1_0 : w12.cell? ⟨w.heap.size + 1, 0, none⟩ = some (c1_0) := b1.cell 0
  clear q_b1
  have q_bx0 := bx0
  have bx0_0 : w12.cell? ⟨w5.heap.size, 0, none⟩ = some (.slice A5_0 x0.keys.length k5_0) := bx0.cell 0
  have bx0_1 : w12.cell? ⟨w5.heap.size, 1, none⟩ = some (.int .i64 x0.master) := bx0.cell 1
  have bx0_2 : w12.cell? ⟨w5.heap.size, 2, none⟩ = some (.int .i64 x0.epoch) := bx0.cell 2
  have bx0_3 : w12.cell? ⟨w5.heap.size, 3, none⟩ = some (.slice A5_3 x0.readers.length k5_3) := bx0.cell 3
  clear q_bx0
  have q_bx1 := bx1
  have bx1_0 : w12.cell? ⟨w6.heap.size, 0, none⟩ = some (.slice A6_0 x1.length k6_0) := bx1.cell 0
  clear q_bx1
  clear rr0 rr1
  obtain ⟨fX0, aX0, rX0⟩ := KX0.1
  go_wp2_with fail
  refine (markAccessController_w _ x0 fX0 _ _ aX0 (by omega) (by have := cController_le x0; omega)).mono ?_
  rintro e w13 ⟨rfl, on13⟩
  have E13 : Ext w w13 := (E12).only on13 (fun b hm => by have := rX0 _ hm; omega)
  clear KX0 aX0
  clear b0_0 b0_1 b0_2 b0_3 b1_0 bx0_0 bx0_1 bx0_2 bx0_3 bx1_0
  replace b0 := b0.only on13 (fun hm => by have := rX0 _ hm; omega)
  replace b1 := b1.only on13 (fun hm => by have := rX0 _ hm; omega)
  replace bx0 := bx0.only on13 (fun hm => by have := rX0 _ hm; omega)
  replace bx1 := bx1.only on13 (fun hm => by have := rX0 _ hm; omega)
  replace KW := KW.only on13 (fun b hm => by have := rX0 _ hm; omega)
  replace KX1 := KX1.only on13 (fun b hm => by have := rX0 _ hm; omega)
  replace KG := KG.only on13 (fun b hm => by have := rX0 _ hm; omega)
  clear on13 rX0
  have q_b0 := b0
  have b0_0 : w13.cell? ⟨w.heap.size, 0, none⟩ = some (c0_0) := b0.cell 0
  have b0_1 : w13.cell? ⟨w.heap.size, 1, none⟩ = some (.int .i64 x0.master) := b0.cell 1
  have b0_2 : w13.cell? ⟨w.heap.size, 2, none⟩ = some (.int .i64 x0.epoch) := b0.cell 2
  have b0_3 : w13.cell? ⟨w.heap.size, 3, none⟩ = some (c0_3) := b0.cell 3
  clear q_b0
  have q_b1 := b1
  have b1_0 : w13.cell? ⟨w.heap.size + 1, 0, none⟩ = some (c1_0) := b1.cell 0
  clear q_b1
  have q_bx0 := bx0
  have bx0_0 : w13.cell? ⟨w5.heap.size, 0, none⟩ = some (.slice A5_0 x0.keys.length k5_0) := bx0.cell 0
  have bx0_1 : w13.cell? ⟨w5.heap.size, 1, none⟩ = some (.int .i64 x0.master) := bx0.cell 1
  have bx0_2 : w13.cell? ⟨w5.heap.size, 2, none⟩ = some (.int .i64 x0.epoch) := bx0.cell 2
  have bx0_3 : w13.cell? ⟨w5.heap.size, 3, none⟩ = some (.slice A5_3 x0.readers.length k5_3) := bx0.cell 3
  clear q_bx0
  have q_bx1 := bx1
  have bx1_0 : w13.cell? ⟨w6.heap.size, 0, none⟩ = some (.slice A6_0 x1.length k6_0) := bx1.cell 0
  clear q_bx1
  obtain ⟨fX1, aX1, rX1⟩ := KX1.1
  go_wp2_with fail
  refine (markName_w _ x1 fX1 _ _ aX1 (by omega) (by have := cController_le x0; have := szL_len ByteArray.size x1; omega)).mono ?_
  rintro e w14 ⟨rfl, on14⟩
  have E14 : Ext w w14 := (E13).only on14 (fun b hm => by have := rX1 _ hm; omega)
  clear KX1 aX1
  clear b0_0 b0_1 b0_2 b0_3 b1_0 bx0_0 bx0_1 bx0_2 bx0_3 bx1_0
  replace b0 := b0.only on14 (fun hm => by have := rX1 _ hm; omega)
  replace b1 := b1.only on14 (fun hm => by have := rX1 _ hm; omega)
  replace bx0 := bx0.only on14 (fun hm => by have := rX1 _ hm; omega)
  replace bx1 := bx1.only on14 (fun hm => by have := rX1 _ hm; omega)
  replace KW := KW.only on14 (fun b hm => by have := rX1 _ hm; omega)
  replace KG := KG.only on14 (fun b hm => by have := rX1 _ hm; omega)
  clear on14 rX1
  have q_b0 := b0
  have b0_0 : w14.cell? ⟨w.heap.size, 0, none⟩ = some (c0_0) := b0.cell 0
  have b0_1 : w14.cell? ⟨w.heap.size, 1, none⟩ = some (.int .i64 x0.master) := b0.cell 1
  have b0_2 : w14.cell? ⟨w.heap.size, 2, none⟩ = some (.int .i64 x0.epoch) := b0.cell 2
  have b0_3 : w14.cell? ⟨w.heap.size, 3, none⟩ = some (c0_3) := b0.cell 3
  clear q_b0
  have q_b1 := b1
  have b1_0 : w14.cell? ⟨w.heap.size + 1, 0, none⟩ = some (c1_0) := b1.cell 0
  clear q_b1
  have q_bx0 := bx0
  have bx0_0 : w14.cell? ⟨w5.heap.size, 0, none⟩ = some (.slice A5_0 x0.keys.length k5_0) := bx0.cell 0
  have bx0_1 : w14.cell? ⟨w5.heap.size, 1, none⟩ = some (.int .i64 x0.master) := bx0.cell 1
  have bx0_2 : w14.cell? ⟨w5.heap.size, 2, none⟩ = some (.int .i64 x0.epoch) := bx0.cell 2
  have bx0_3 : w14.cell? ⟨w5.heap.size, 3, none⟩ = some (.slice A5_3 x0.readers.length k5_3) := bx0.cell 3
  clear q_bx0
  have q_bx1 := bx1
  have bx1_0 : w14.cell? ⟨w6.heap.size, 0, none⟩ = some (.slice A6_0 x1.length k6_0) := bx1.cell 0
  clear q_bx1
  have hkk : decide ((1 : Int) + (cController x0 : Nat) + (x1.length : Nat) < 0) = false := by simp; omega
  go_wp2_with fail
  refine (eqIntS_c _ _ (readersOf x0.readers x1) _ KG.rd KW.rd).mono ?_
  rintro e w15 ⟨rfl, hx15⟩
  have E15 : Ext w w15 := (E14).trans hx15
  clear b0_0 b0_1 b0_2 b0_3 b1_0 bx0_0 bx0_1 bx0_2 bx0_3 bx1_0
  replace b0 := Blk.ext hx15 b0
  replace b1 := Blk.ext hx15 b1
  replace bx0 := Blk.ext hx15 bx0
  replace bx1 := Blk.ext hx15 bx1
  replace KW := KW.ext hx15
  replace KG := KG.ext hx15
  clear hx15
  have q_b0 := b0
  have b0_0 : w15.cell? ⟨w.heap.size, 0, none⟩ = some (c0_0) := b0.cell 0
  have b0_1 : w15.cell? ⟨w.heap.size, 1, none⟩ = some (.int .i64 x0.master) := b0.cell 1
  have b0_2 : w15.cell? ⟨w.heap.size, 2, none⟩ = some (.int .i64 x0.epoch) := b0.cell 2
  have b0_3 : w15.cell? ⟨w.heap.size, 3, none⟩ = some (c0_3) := b0.cell 3
  clear q_b0
  have q_b1 := b1
  have b1_0 : w15.cell? ⟨w.heap.size + 1, 0, none⟩ = some (c1_0) := b1.cell 0
  clear q_b1
  have q_bx0 := bx0
  have bx0_0 : w15.cell? ⟨w5.heap.size, 0, none⟩ = some (.slice A5_0 x0.keys.length k5_0) := bx0.cell 0
  have bx0_1 : w15.cell? ⟨w5.heap.size, 1, none⟩ = some (.int .i64 x0.master) := bx0.cell 1
  have bx0_2 : w15.cell? ⟨w5.heap.size, 2, none⟩ = some (.int .i64 x0.epoch) := bx0.cell 2
  have bx0_3 : w15.cell? ⟨w5.heap.size, 3, none⟩ = some (.slice A5_3 x0.readers.length k5_3) := bx0.cell 3
  clear q_bx0
  have q_bx1 := bx1
  have bx1_0 : w15.cell? ⟨w6.heap.size, 0, none⟩ = some (.slice A6_0 x1.length k6_0) := bx1.cell 0
  clear q_bx1
  obtain ⟨fG, aG, rG⟩ := KG.1
  go_wp2_with fail
  refine (markIntS_c _ (readersOf x0.readers x1) fG _ _ aG (by omega) (by have := readersOf_len x0.readers x1; omega)).mono ?_
  rintro e w16 ⟨rfl, aG16, on16⟩
  have E16 : Ext w w16 := (E15).only on16 (fun b hm => by have := rG _ hm; omega)
  have gG := KG.2
  clear KG aG
  clear b0_0 b0_1 b0_2 b0_3 b1_0 bx0_0 bx0_1 bx0_2 bx0_3 bx1_0
  replace b0 := b0.only on16 (fun hm => by have := rG _ hm; omega)
  replace b1 := b1.only on16 (fun hm => by have := rG _ hm; omega)
  replace bx0 := bx0.only on16 (fun hm => by have := rG _ hm; omega)
  replace bx1 := bx1.only on16 (fun hm => by have := rG _ hm; omega)
  replace KW := KW.only on16 (fun b hm => by have := rG _ hm; omega)
  have KG : Owned sInts lG hG w16 [gg] (ramp 1 (readersOf x0.readers x1).length) := ⟨⟨fG, aG16, rG⟩, Nat.le_trans gG.1 on16.size, gG.2⟩
  clear on16 rG gG aG16
  have q_b0 := b0
  have b0_0 : w16.cell? ⟨w.heap.size, 0, none⟩ = some (c0_0) := b0.cell 0
  have b0_1 : w16.cell? ⟨w.heap.size, 1, none⟩ = some (.int .i64 x0.master) := b0.cell 1
  have b0_2 : w16.cell? ⟨w.heap.size, 2, none⟩ = some (.int .i64 x0.epoch) := b0.cell 2
  have b0_3 : w16.cell? ⟨w.heap.size, 3, none⟩ = some (c0_3) := b0.cell 3
  clear q_b0
  have q_b1 := b1
  have b1_0 : w16.cell? ⟨w.heap.size + 1, 0, none⟩ = some (c1_0) := b1.cell 0
  clear q_b1
  have q_bx0 := bx0
  have bx0_0 : w16.cell? ⟨w5.heap.size, 0, none⟩ = some (.slice A5_0 x0.keys.length k5_0) := bx0.cell 0
  have bx0_1 : w16.cell? ⟨w5.heap.size, 1, none⟩ = some (.int .i64 x0.master) := bx0.cell 1
  have bx0_2 : w16.cell? ⟨w5.heap.size, 2, none⟩ = some (.int .i64 x0.epoch) := bx0.cell 2
  have bx0_3 : w16.cell? ⟨w5.heap.size, 3, none⟩ = some (.slice A5_3 x0.readers.length k5_3) := bx0.cell 3
  clear q_bx0
  have q_bx1 := bx1
  have bx1_0 : w16.cell? ⟨w6.heap.size, 0, none⟩ = some (.slice A6_0 x1.length k6_0) := bx1.cell 0
  clear q_bx1
  go_wp2_with fail
  refine (heldIntS_c _ _ KG.rd (by have := readersOf_len x0.readers x1; omega)).mono ?_
  rintro e w17 ⟨rfl, hx17⟩
  have E17 : Ext w w17 := (E16).trans hx17
  clear b0_0 b0_1 b0_2 b0_3 b1_0 bx0_0 bx0_1 bx0_2 bx0_3 bx1_0
  replace b0 := Blk.ext hx17 b0
  replace b1 := Blk.ext hx17 b1
  replace bx0 := Blk.ext hx17 bx0
  replace bx1 := Blk.ext hx17 bx1
  replace KW := KW.ext hx17
  replace KG := KG.ext hx17
  clear hx17
  have q_b0 := b0
  have b0_0 : w17.cell? ⟨w.heap.size, 0, none⟩ = some (c0_0) := b0.cell 0
  have b0_1 : w17.cell? ⟨w.heap.size, 1, none⟩ = some (.int .i64 x0.master) := b0.cell 1
  have b0_2 : w17.cell? ⟨w.heap.size, 2, none⟩ = some (.int .i64 x0.epoch) := b0.cell 2
  have b0_3 : w17.cell? ⟨w.heap.size, 3, none⟩ = some (c0_3) := b0.cell 3
  clear q_b0
  have q_b1 := b1
  have b1_0 : w17.cell? ⟨w.heap.size + 1, 0, none⟩ = some (c1_0) := b1.cell 0
  clear q_b1
  have q_bx0 := bx0
  have bx0_0 : w17.cell? ⟨w5.heap.size, 0, none⟩ = some (.slice A5_0 x0.keys.length k5_0) := bx0.cell 0
  have bx0_1 : w17.cell? ⟨w5.heap.size, 1, none⟩ = some (.int .i64 x0.master) := bx0.cell 1
  have bx0_2 : w17.cell? ⟨w5.heap.size, 2, none⟩ = some (.int .i64 x0.epoch) := bx0.cell 2
  have bx0_3 : w17.cell? ⟨w5.heap.size, 3, none⟩ = some (.slice A5_3 x0.readers.length k5_3) := bx0.cell 3
  clear q_bx0
  have q_bx1 := bx1
  have bx1_0 : w17.cell? ⟨w6.heap.size, 0, none⟩ = some (.slice A6_0 x1.length k6_0) := bx1.cell 0
  clear q_bx1
  have hq1 : decide ((1 : Int) + ((readersOf x0.readers x1).length : Nat) < 0) = false := by simp; omega
  have hq2 : ((1 : Int) + ((readersOf x0.readers x1).length : Nat) != (1 : Int) + ((readersOf x0.readers x1).length : Nat)) = false := by simp
  go_wp2
  go_region_held3 (fun w' => w'.cell? ⟨w.heap.size, 0, none⟩ = some (c0_0) ∧ w'.cell? ⟨w.heap.size, 1, none⟩ = some (.int .i64 x0.master) ∧ w'.cell? ⟨w.heap.size, 2, none⟩ = some (.int .i64 x0.epoch) ∧ w'.cell? ⟨w.heap.size, 3, none⟩ = some (c0_3) ∧ w'.cell? ⟨w.heap.size + 1, 0, none⟩ = some (c1_0)) (((repeat' apply And.intro) <;> (first | assumption | exact hx20.cell (hx19.cell (hx18.cell (by assumption))) | exact hx19.cell (hx18.cell (by assumption)) | exact hx18.cell (by assumption))))
    (first | (go_at_call 9; refine (toAccessController_c _ x0 _ (sAccessController.ext ((E17).drew) h0) (by omega)).mono ?_; rintro e w18 ⟨⟨r18_0, rfl, O18⟩, hx18⟩) | (go_at_call 10; refine (toName_c _ x1 _ (strs.ext (((E17).drew).trans hx18) h1) (by omega)).mono ?_; rintro e w19 ⟨⟨r18_1, rfl, O19⟩, hx19⟩) | (go_at_call 11; refine (implCurrentReaders_c _ x0 _ x1 _ (sAccessController.ext hx19 O18.rd) O19.rd hs0 hs1).mono ?_; rintro e w20 ⟨⟨gh, rfl, OH⟩, hx20⟩))
  have E20 : Ext w w20 := ((((E17).drew).trans hx18).trans hx19).trans hx20
  have Z20 : Ext w17 w20 := ((((Ext.refl w17).drew).trans hx18).trans hx19).trans hx20
  clear b0_0 b0_1 b0_2 b0_3 b1_0 bx0_0 bx0_1 bx0_2 bx0_3 bx1_0
  replace b0 := Blk.ext Z20 b0
  replace b1 := Blk.ext Z20 b1
  replace bx0 := Blk.ext Z20 bx0
  replace bx1 := Blk.ext Z20 bx1
  replace KW := KW.ext Z20
  replace KG := KG.ext Z20
  have rdH := OH.rd
  clear Z20 hx18 hx19 hx20 O18 O19 OH
  have q_b0 := b0
  have b0_0 : w20.cell? ⟨w.heap.size, 0, none⟩ = some (c0_0) := b0.cell 0
  have b0_1 : w20.cell? ⟨w.heap.size, 1, none⟩ = some (.int .i64 x0.master) := b0.cell 1
  have b0_2 : w20.cell? ⟨w.heap.size, 2, none⟩ = some (.int .i64 x0.epoch) := b0.cell 2
  have b0_3 : w20.cell? ⟨w.heap.size, 3, none⟩ = some (c0_3) := b0.cell 3
  clear q_b0
  have q_b1 := b1
  have b1_0 : w20.cell? ⟨w.heap.size + 1, 0, none⟩ = some (c1_0) := b1.cell 0
  clear q_b1
  have q_bx0 := bx0
  have bx0_0 : w20.cell? ⟨w5.heap.size, 0, none⟩ = some (.slice A5_0 x0.keys.length k5_0) := bx0.cell 0
  have bx0_1 : w20.cell? ⟨w5.heap.size, 1, none⟩ = some (.int .i64 x0.master) := bx0.cell 1
  have bx0_2 : w20.cell? ⟨w5.heap.size, 2, none⟩ = some (.int .i64 x0.epoch) := bx0.cell 2
  have bx0_3 : w20.cell? ⟨w5.heap.size, 3, none⟩ = some (.slice A5_3 x0.readers.length k5_3) := bx0.cell 3
  clear q_bx0
  have q_bx1 := bx1
  have bx1_0 : w20.cell? ⟨w6.heap.size, 0, none⟩ = some (.slice A6_0 x1.length k6_0) := bx1.cell 0
  clear q_bx1
  go_wp2_with fail
  refine (eqIntS_c _ _ (readersOf x0.readers x1) _ rdH KW.rd).mono ?_
  rintro e w21 ⟨rfl, hx21⟩
  have E21 : Ext w w21 := (E20).trans hx21
  clear b0_0 b0_1 b0_2 b0_3 b1_0 bx0_0 bx0_1 bx0_2 bx0_3 bx1_0
  replace b0 := Blk.ext hx21 b0
  replace b1 := Blk.ext hx21 b1
  replace bx0 := Blk.ext hx21 bx0
  replace bx1 := Blk.ext hx21 bx1
  replace KW := KW.ext hx21
  replace KG := KG.ext hx21
  clear hx21
  have q_b0 := b0
  have b0_0 : w21.cell? ⟨w.heap.size, 0, none⟩ = some (c0_0) := b0.cell 0
  have b0_1 : w21.cell? ⟨w.heap.size, 1, none⟩ = some (.int .i64 x0.master) := b0.cell 1
  have b0_2 : w21.cell? ⟨w.heap.size, 2, none⟩ = some (.int .i64 x0.epoch) := b0.cell 2
  have b0_3 : w21.cell? ⟨w.heap.size, 3, none⟩ = some (c0_3) := b0.cell 3
  clear q_b0
  have q_b1 := b1
  have b1_0 : w21.cell? ⟨w.heap.size + 1, 0, none⟩ = some (c1_0) := b1.cell 0
  clear q_b1
  have q_bx0 := bx0
  have bx0_0 : w21.cell? ⟨w5.heap.size, 0, none⟩ = some (.slice A5_0 x0.keys.length k5_0) := bx0.cell 0
  have bx0_1 : w21.cell? ⟨w5.heap.size, 1, none⟩ = some (.int .i64 x0.master) := bx0.cell 1
  have bx0_2 : w21.cell? ⟨w5.heap.size, 2, none⟩ = some (.int .i64 x0.epoch) := bx0.cell 2
  have bx0_3 : w21.cell? ⟨w5.heap.size, 3, none⟩ = some (.slice A5_3 x0.readers.length k5_3) := bx0.cell 3
  clear q_bx0
  have q_bx1 := bx1
  have bx1_0 : w21.cell? ⟨w6.heap.size, 0, none⟩ = some (.slice A6_0 x1.length k6_0) := bx1.cell 0
  clear q_bx1
  clear rdH
  go_wp2_with fail
  refine (heldIntS_c _ _ KG.rd (by have := readersOf_len x0.readers x1; omega)).mono ?_
  rintro e w22 ⟨rfl, hx22⟩
  have E22 : Ext w w22 := (E21).trans hx22
  clear b0_0 b0_1 b0_2 b0_3 b1_0 bx0_0 bx0_1 bx0_2 bx0_3 bx1_0
  replace b0 := Blk.ext hx22 b0
  replace b1 := Blk.ext hx22 b1
  replace bx0 := Blk.ext hx22 bx0
  replace bx1 := Blk.ext hx22 bx1
  replace KW := KW.ext hx22
  replace KG := KG.ext hx22
  clear hx22
  have q_b0 := b0
  have b0_0 : w22.cell? ⟨w.heap.size, 0, none⟩ = some (c0_0) := b0.cell 0
  have b0_1 : w22.cell? ⟨w.heap.size, 1, none⟩ = some (.int .i64 x0.master) := b0.cell 1
  have b0_2 : w22.cell? ⟨w.heap.size, 2, none⟩ = some (.int .i64 x0.epoch) := b0.cell 2
  have b0_3 : w22.cell? ⟨w.heap.size, 3, none⟩ = some (c0_3) := b0.cell 3
  clear q_b0
  have q_b1 := b1
  have b1_0 : w22.cell? ⟨w.heap.size + 1, 0, none⟩ = some (c1_0) := b1.cell 0
  clear q_b1
  have q_bx0 := bx0
  have bx0_0 : w22.cell? ⟨w5.heap.size, 0, none⟩ = some (.slice A5_0 x0.keys.length k5_0) := bx0.cell 0
  have bx0_1 : w22.cell? ⟨w5.heap.size, 1, none⟩ = some (.int .i64 x0.master) := bx0.cell 1
  have bx0_2 : w22.cell? ⟨w5.heap.size, 2, none⟩ = some (.int .i64 x0.epoch) := bx0.cell 2
  have bx0_3 : w22.cell? ⟨w5.heap.size, 3, none⟩ = some (.slice A5_3 x0.readers.length k5_3) := bx0.cell 3
  clear q_bx0
  have q_bx1 := bx1
  have bx1_0 : w22.cell? ⟨w6.heap.size, 0, none⟩ = some (.slice A6_0 x1.length k6_0) := bx1.cell 0
  clear q_bx1
  go_wp2
  go_ret
  exact ⟨rfl, E22⟩

end Go.Proofs.Ytlobcaofeobgaaa
