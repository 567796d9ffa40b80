/- The walk of laws.FnExactAllInSync: it answers true. Printed by genexact.py. -/
import Derived.Test.YtofieohogenojaaGreatFamSz
import Derived.Test.YtofieohogenojaaGreatFamTo
import Derived.Test.YtofieohogenojaaGreatFamEq
import Derived.Test.YtofieohogenojaaGreatCn
import Derived.Deep.RegionHeld3
import Derived.Deep.DrawnRows
namespace Go.Proofs.YtofieohogenojaaGreat
open Go.RowKit
set_option linter.unusedVariables false
set_option linter.unusedSimpArgs false
set_option linter.unusedSectionVars false
attribute [local go_sem ↓] Go.wp_at_zero Go.wp_at_succ

set_option maxHeartbeats 4000000 in
set_option maxRecDepth 20000 in
theorem lawFnExactAllInSync (cs0 : List Value) (x0 : DSyncGroup) (v1 : Value) (x1 : (List Int)) (x2 : Int) (w : World) (h0 : sSyncGroup.rd w cs0 x0) (h1 : sInts.rd w [v1] x1) (h2 : I64 x2) :
    Calls Tryz.prog 3 #[.agg cs0.toArray, v1, .int .i64 x2] w fun e w' => e = .returned (.bool true) ∧ Ext w w' := by
  have k0 := h0
  obtain ⟨c0_1, c0_2, rfl, _⟩ := sSyncGroup_rd k0
  clear k0
  go_enter Tryz.func3, Tryz.ntmps3
  obtain ⟨A1, k1, rfl, hl1, hz1⟩ := Shape.sl_form h1
  unfold maxLen at hz1
  by_cases hlen1 : x1.length ≤ 1048576
  rotate_left
  · have hd : (1048576 : Int) < x1.length := by omega
    go_wp2
    go_ret
    exact ⟨rfl, (Ext.refl w).alloc _⟩
  have hsl1 : (szL (fun _ => 0)) x1 ≤ 1048576 := by rw [szL_zero]; exact hlen1
  go_wp2_with fail
  refine (szSyncGroup_c _ x0 _ _ (sSyncGroup.ext ((Ext.refl w).alloc _) h0) (by omega) (by omega)).mono ?_
  rintro e w0 ⟨rfl, hx0⟩
  have E0 : Ext w w0 := Ext.trans ((Ext.refl w).alloc _) hx0
  have b0 : Blk w0 (w.heap.size) 27 #[.int .i64 x0.topology.size, c0_1, c0_2] := Blk.ext hx0 (Blk.new_at (by simp))
  clear hx0
  by_cases hq0 : remain (1048576) (szSyncGroup x0) < 0
  · go_wp2
    go_ret
    exact ⟨rfl, E0⟩
  obtain ⟨hp0, hv0⟩ := remain_pos (Int.not_lt.1 hq0)
  rw [hv0] at hq0 ⊢
  clear hv0
  have hs0 : szSyncGroup x0 ≤ 1048576 := by omega
  have q_b0 := b0
  have b0_0 : w0.cell? ⟨w.heap.size, 0, none⟩ = some (.int .i64 x0.topology.size) := b0.cell 0
  have b0_1 : w0.cell? ⟨w.heap.size, 1, none⟩ = some (c0_1) := b0.cell 1
  have b0_2 : w0.cell? ⟨w.heap.size, 2, none⟩ = some (c0_2) := b0.cell 2
  clear q_b0
  go_wp2_with fail
  refine (toSyncGroup_c _ x0 _ (sSyncGroup.ext (E0) h0) (by omega)).mono ?_
  rintro e w1 ⟨⟨r1, rfl, O1⟩, hx1⟩
  obtain ⟨e1_1, e1_2, rfl, _⟩ := sSyncGroup_rd O1.rd
  go_wp2_with fail
  refine (toIntS_c _ x1 _ (sInts.ext ((E0).trans hx1) h1) (by omega)).mono ?_
  rintro e w2 ⟨⟨r2, rfl, O2⟩, hx2⟩
  go_wp2_with fail
  refine (specAllInSync_c _ x0 _ x1 x2 _ (sSyncGroup.ext hx2 O1.rd) O2.rd h2 hs0 hlen1).mono ?_
  rintro e w3 ⟨rfl, hx3⟩
  have E3 : Ext w w3 := (((E0).trans hx1).trans hx2).trans hx3
  have Z3 : Ext w0 w3 := (((Ext.refl w0).trans hx1).trans hx2).trans hx3
  clear b0_0 b0_1 b0_2
  replace b0 := Blk.ext Z3 b0
  clear Z3 hx1 hx2 hx3 O1 O2
  have q_b0 := b0
  have b0_0 : w3.cell? ⟨w.heap.size, 0, none⟩ = some (.int .i64 x0.topology.size) := b0.cell 0
  have b0_1 : w3.cell? ⟨w.heap.size, 1, none⟩ = some (c0_1) := b0.cell 1
  have b0_2 : w3.cell? ⟨w.heap.size, 2, none⟩ = some (c0_2) := b0.cell 2
  clear q_b0
  go_wp2_with fail
  refine (toSyncGroup_c _ x0 _ (sSyncGroup.ext (E3) h0) (by omega)).mono ?_
  rintro e w4 ⟨⟨r4, rfl, O4⟩, hx4⟩
  have E4 : Ext w w4 := (E3).trans hx4
  clear b0_0 b0_1 b0_2
  replace b0 := Blk.ext hx4 b0
  have rr0 := O4.rd
  obtain ⟨e4_1, e4_2, rfl, _⟩ := sSyncGroup_rd rr0
  obtain ⟨A4_1, k4_1, rfl, _, _⟩ := Shape.sl_form (sTopology_f1 (sSyncGroup_f0 rr0))
  obtain ⟨A4_2, k4_2, rfl, _, _⟩ := Shape.sl_form (sSyncGroup_f1 rr0)
  clear hx4 O4
  have lt_b0 := b0.lt
  have q_b0 := b0
  have b0_0 : w4.cell? ⟨w.heap.size, 0, none⟩ = some (.int .i64 x0.topology.size) := b0.cell 0
  have b0_1 : w4.cell? ⟨w.heap.size, 1, none⟩ = some (c0_1) := b0.cell 1
  have b0_2 : w4.cell? ⟨w.heap.size, 2, none⟩ = some (c0_2) := b0.cell 2
  clear q_b0
  go_wp2_with fail
  refine (toIntS_c _ x1 _ (sInts.ext ((E4).alloc _) h1) (by omega)).mono ?_
  rintro e w5 ⟨⟨r5, rfl, O5⟩, hx5⟩
  have E5 : Ext w w5 := ((E4).alloc _).trans hx5
  clear b0_0 b0_1 b0_2
  have Z5 : Ext w4 w5 := ((Ext.refl _).alloc _).trans hx5
  replace b0 := Blk.ext Z5 b0
  have bx0 : Blk w5 (w4.heap.size) 36 #[.int .i64 x0.topology.size, .slice A4_1 x0.topology.links.length k4_1, .slice A4_2 x0.members.length k4_2] := Blk.ext hx5 (Blk.new _ _ _)
  replace rr0 := sSyncGroup.ext Z5 rr0
  have rr1 := O5.rd
  obtain ⟨A5_0, k5_0, rfl, _, _⟩ := Shape.sl_form rr1
  clear hx5 O5 Z5
  have lt_b0 := b0.lt
  have lt_bx0 := bx0.lt
  have q_b0 := b0
  have b0_0 : w5.cell? ⟨w.heap.size, 0, none⟩ = some (.int .i64 x0.topology.size) := b0.cell 0
  have b0_1 : w5.cell? ⟨w.heap.size, 1, none⟩ = some (c0_1) := b0.cell 1
  have b0_2 : w5.cell? ⟨w.heap.size, 2, none⟩ = some (c0_2) := b0.cell 2
  clear q_b0
  have q_bx0 := bx0
  have bx0_0 : w5.cell? ⟨w4.heap.size, 0, none⟩ = some (.int .i64 x0.topology.size) := bx0.cell 0
  have bx0_1 : w5.cell? ⟨w4.heap.size, 1, none⟩ = some (.slice A4_1 x0.topology.links.length k4_1) := bx0.cell 1
  have bx0_2 : w5.cell? ⟨w4.heap.size, 2, none⟩ = some (.slice A4_2 x0.members.length k4_2) := bx0.cell 2
  clear q_bx0
  go_wp2_with fail
  refine (implAllInSync_c _ x0 _ x1 x2 _ rr0 rr1 h2 hs0 hlen1).mono ?_
  rintro e w6 ⟨rfl, hx6⟩
  have E6 : Ext w w6 := (E5).trans hx6
  have Z6 : Ext w5 w6 := hx6
  clear b0_0 b0_1 b0_2 bx0_0 bx0_1 bx0_2
  replace b0 := Blk.ext Z6 b0
  replace bx0 := Blk.ext Z6 bx0
  replace rr0 := sSyncGroup.ext Z6 rr0
  replace rr1 := sInts.ext Z6 rr1
  clear Z6 hx6
  have ltt_b0 := b0.lt
  have ltt_bx0 := bx0.lt
  have q_b0 := b0
  have b0_0 : w6.cell? ⟨w.heap.size, 0, none⟩ = some (.int .i64 x0.topology.size) := b0.cell 0
  have b0_1 : w6.cell? ⟨w.heap.size, 1, none⟩ = some (c0_1) := b0.cell 1
  have b0_2 : w6.cell? ⟨w.heap.size, 2, none⟩ = some (c0_2) := b0.cell 2
  clear q_b0
  have q_bx0 := bx0
  have bx0_0 : w6.cell? ⟨w4.heap.size, 0, none⟩ = some (.int .i64 x0.topology.size) := bx0.cell 0
  have bx0_1 : w6.cell? ⟨w4.heap.size, 1, none⟩ = some (.slice A4_1 x0.topology.links.length k4_1) := bx0.cell 1
  have bx0_2 : w6.cell? ⟨w4.heap.size, 2, none⟩ = some (.slice A4_2 x0.members.length k4_2) := bx0.cell 2
  clear q_bx0
  have hsame : (allS x0 x1 x2 != allS x0 x1 x2) = false := by simp
  go_wp2
  go_region_held3 (fun w' => w'.cell? ⟨w.heap.size, 0, none⟩ = some (.int .i64 x0.topology.size) ∧ w'.cell? ⟨w.heap.size, 1, none⟩ = some (c0_1) ∧ w'.cell? ⟨w.heap.size, 2, none⟩ = some (c0_2) ∧ w'.cell? ⟨w4.heap.size, 0, none⟩ = some (.int .i64 x0.topology.size) ∧ w'.cell? ⟨w4.heap.size, 1, none⟩ = some (.slice A4_1 x0.topology.links.length k4_1) ∧ w'.cell? ⟨w4.heap.size, 2, none⟩ = some (.slice A4_2 x0.members.length k4_2)) (((repeat' apply And.intro) <;> (first | trivial | assumption | exact hx8.cell (hx7.cell (by assumption)) | exact hx7.cell (by assumption))))
    (first | (go_at_call 8; refine (toSyncGroup_c _ x0 _ (sSyncGroup.ext ((E6).drew) h0) (by omega)).mono ?_; rintro e w7 ⟨⟨r7, rfl, O7⟩, hx7⟩) | (go_at_call 11; refine (eqSyncGroup_c _ _ x0 _ (sSyncGroup.ext ((Ext.refl w6).drew.trans hx7) rr0) O7.rd).mono ?_; rintro e w8 ⟨rfl, hx8⟩))
  have E8 : Ext w w8 := (((E6).drew).trans hx7).trans hx8
  have Z8 : Ext w6 w8 := (((Ext.refl w6).drew).trans hx7).trans hx8
  clear b0_0 b0_1 b0_2 bx0_0 bx0_1 bx0_2
  replace b0 := Blk.ext Z8 b0
  replace bx0 := Blk.ext Z8 bx0
  replace rr0 := sSyncGroup.ext Z8 rr0
  replace rr1 := sInts.ext Z8 rr1
  clear Z8 hx7 hx8 O7
  have q_b0 := b0
  have b0_0 : w8.cell? ⟨w.heap.size, 0, none⟩ = some (.int .i64 x0.topology.size) := b0.cell 0
  have b0_1 : w8.cell? ⟨w.heap.size, 1, none⟩ = some (c0_1) := b0.cell 1
  have b0_2 : w8.cell? ⟨w.heap.size, 2, none⟩ = some (c0_2) := b0.cell 2
  clear q_b0
  have q_bx0 := bx0
  have bx0_0 : w8.cell? ⟨w4.heap.size, 0, none⟩ = some (.int .i64 x0.topology.size) := bx0.cell 0
  have bx0_1 : w8.cell? ⟨w4.heap.size, 1, none⟩ = some (.slice A4_1 x0.topology.links.length k4_1) := bx0.cell 1
  have bx0_2 : w8.cell? ⟨w4.heap.size, 2, none⟩ = some (.slice A4_2 x0.members.length k4_2) := bx0.cell 2
  clear q_bx0
  go_wp2_with fail
  refine (toIntS_c _ x1 _ (sInts.ext (E8) h1) (by omega)).mono ?_
  rintro e w9 ⟨⟨r9, rfl, O9⟩, hx9⟩
  go_wp2_with fail
  refine (eqIntS_c _ _ x1 _ (sInts.ext hx9 rr1) O9.rd).mono ?_
  rintro e w10 ⟨rfl, hx10⟩
  have E10 : Ext w w10 := ((E8).trans hx9).trans hx10
  have Z10 : Ext w8 w10 := hx9.trans hx10
  clear b0_0 b0_1 b0_2 bx0_0 bx0_1 bx0_2
  replace b0 := Blk.ext Z10 b0
  replace bx0 := Blk.ext Z10 bx0
  replace rr0 := sSyncGroup.ext Z10 rr0
  replace rr1 := sInts.ext Z10 rr1
  clear Z10 hx9 hx10 O9
  have q_b0 := b0
  have b0_0 : w10.cell? ⟨w.heap.size, 0, none⟩ = some (.int .i64 x0.topology.size) := b0.cell 0
  have b0_1 : w10.cell? ⟨w.heap.size, 1, none⟩ = some (c0_1) := b0.cell 1
  have b0_2 : w10.cell? ⟨w.heap.size, 2, none⟩ = some (c0_2) := b0.cell 2
  clear q_b0
  have q_bx0 := bx0
  have bx0_0 : w10.cell? ⟨w4.heap.size, 0, none⟩ = some (.int .i64 x0.topology.size) := bx0.cell 0
  have bx0_1 : w10.cell? ⟨w4.heap.size, 1, none⟩ = some (.slice A4_1 x0.topology.links.length k4_1) := bx0.cell 1
  have bx0_2 : w10.cell? ⟨w4.heap.size, 2, none⟩ = some (.slice A4_2 x0.members.length k4_2) := bx0.cell 2
  clear q_bx0
  go_wp2
  go_ret
  exact ⟨rfl, E10⟩

end Go.Proofs.YtofieohogenojaaGreat
