/- The walk of laws.FnExactConnectedTo: it answers true. Printed by genexact.py. -/
import Derived.Test.YtofieohogenojaaFamSz
import Derived.Test.YtofieohogenojaaFamTo
import Derived.Test.YtofieohogenojaaFamEq
import Derived.Test.YtofieohogenojaaCn
import Derived.Test.YtofieohogenojaaFamMark
import Derived.Test.YtofieohogenojaaBd
import Derived.Deep.RegionHeld3
import Derived.Deep.DrawnRows
namespace Go.Proofs.Ytofieohogenojaa
open Go.RowKit
set_option linter.unusedVariables false
set_option linter.unusedSimpArgs false
set_option linter.unusedSectionVars false
attribute [local go_sem ↓] Go.wp_at_zero Go.wp_at_succ

set_option maxHeartbeats 4000000 in
set_option maxRecDepth 20000 in
theorem lawFnExactConnectedTo (cs0 : List Value) (x0 : DSyncGroup) (v1 : Value) (x1 : (List Int)) (x2 : Int) (w : World) (h0 : sSyncGroup.rd w cs0 x0) (h1 : sInts.rd w [v1] x1) (h2 : I64 x2) :
    Calls Try.prog 4 #[.agg cs0.toArray, v1, .int .i64 x2] w fun e w' => e = .returned (.bool true) ∧ Ext w w' := by
  have k0 := h0
  obtain ⟨c0_1, c0_2, rfl, _⟩ := sSyncGroup_rd k0
  clear k0
  go_enter Try.func4, Try.ntmps4
  obtain ⟨A1, k1, rfl, hl1, hz1⟩ := Shape.sl_form h1
  unfold maxLen at hz1
  by_cases hlen1 : x1.length ≤ 1048576
  rotate_left
  · have hd : (1048576 : Int) < x1.length := by omega
    go_wp2
    go_ret
    exact ⟨rfl, (Ext.refl w).alloc _⟩
  have hsl1 : (szL (fun _ => 0)) x1 ≤ 1048576 := by rw [szL_zero]; exact hlen1
  go_wp2_with fail
  refine (szSyncGroup_c _ x0 _ _ (sSyncGroup.ext ((Ext.refl w).alloc _) h0) (by omega) (by omega)).mono ?_
  rintro e w0 ⟨rfl, hx0⟩
  have E0 : Ext w w0 := Ext.trans ((Ext.refl w).alloc _) hx0
  have b0 : Blk w0 (w.heap.size) 49 #[.int .i64 x0.topology.size, c0_1, c0_2] := Blk.ext hx0 (Blk.new_at (by simp))
  clear hx0
  by_cases hq0 : remain (1048576) (szSyncGroup x0) < 0
  · go_wp2
    go_ret
    exact ⟨rfl, E0⟩
  obtain ⟨hp0, hv0⟩ := remain_pos (Int.not_lt.1 hq0)
  rw [hv0] at hq0 ⊢
  clear hv0
  have hs0 : szSyncGroup x0 ≤ 1048576 := by omega
  have q_b0 := b0
  have b0_0 : w0.cell? ⟨w.heap.size, 0, none⟩ = some (.int .i64 x0.topology.size) := b0.cell 0
  have b0_1 : w0.cell? ⟨w.heap.size, 1, none⟩ = some (c0_1) := b0.cell 1
  have b0_2 : w0.cell? ⟨w.heap.size, 2, none⟩ = some (c0_2) := b0.cell 2
  clear q_b0
  go_wp2_with fail
  refine (toSyncGroup_c _ x0 _ (sSyncGroup.ext (E0) h0) (by omega)).mono ?_
  rintro e w1 ⟨⟨r1, rfl, O1⟩, hx1⟩
  obtain ⟨e1_1, e1_2, rfl, _⟩ := sSyncGroup_rd O1.rd
  go_wp2_with fail
  refine (toIntS_c _ x1 _ (sInts.ext ((E0).trans hx1) h1) (by omega)).mono ?_
  rintro e w2 ⟨⟨r2, rfl, O2⟩, hx2⟩
  have lt1_b0 := b0.lt
  go_wp2_with fail
  refine (specConnectedTo_c _ x0 _ x1 x2 _ (sSyncGroup.ext hx2 O1.rd) O2.rd h2 hs0 hlen1).mono ?_
  rintro e w3 ⟨⟨gw, rfl, OW⟩, hx3⟩
  have E3 : Ext w w3 := (((E0).trans hx1).trans hx2).trans hx3
  have Z3 : Ext w0 w3 := (((Ext.refl w0).trans hx1).trans hx2).trans hx3
  obtain ⟨lW, hW, KW, bW⟩ : ∃ lo hi, Owned sInts lo hi w3 [gw] (connS x0 x1 x2) ∧ w0.heap.size ≤ lo := ⟨_, _, ⟨OW, Nat.le_refl _, hx3.size⟩, (((Ext.refl w0).trans hx1).trans hx2).size⟩
  have cW : lW ≤ hW := KW.2.2
  clear OW
  clear b0_0 b0_1 b0_2
  replace b0 := Blk.ext Z3 b0
  clear Z3 hx1 hx2 hx3 O1 O2
  have q_b0 := b0
  have b0_0 : w3.cell? ⟨w.heap.size, 0, none⟩ = some (.int .i64 x0.topology.size) := b0.cell 0
  have b0_1 : w3.cell? ⟨w.heap.size, 1, none⟩ = some (c0_1) := b0.cell 1
  have b0_2 : w3.cell? ⟨w.heap.size, 2, none⟩ = some (c0_2) := b0.cell 2
  clear q_b0
  go_wp2_with fail
  refine (toSyncGroup_c _ x0 _ (sSyncGroup.ext (E3) h0) (by omega)).mono ?_
  rintro e w4 ⟨⟨r4, rfl, O4⟩, hx4⟩
  have E4 : Ext w w4 := (E3).trans hx4
  clear b0_0 b0_1 b0_2
  replace b0 := Blk.ext hx4 b0
  obtain ⟨lX0, hX0, KX0, bX0⟩ : ∃ lo hi, Owned sSyncGroup lo hi w4 _ x0 ∧ hW ≤ lo := ⟨_, _, ⟨O4, Nat.le_refl _, hx4.size⟩, KW.2.1⟩
  replace KW := KW.ext hx4
  have cX0 : lX0 ≤ hX0 := KX0.2.2
  have nX0 : hX0 ≤ w4.heap.size := KX0.2.1
  have rr0 := O4.rd
  obtain ⟨e4_1, e4_2, rfl, _⟩ := sSyncGroup_rd rr0
  obtain ⟨A4_1, k4_1, rfl, _, _⟩ := Shape.sl_form (sTopology_f1 (sSyncGroup_f0 rr0))
  obtain ⟨A4_2, k4_2, rfl, _, _⟩ := Shape.sl_form (sSyncGroup_f1 rr0)
  clear hx4 O4
  have lt_b0 := b0.lt
  have q_b0 := b0
  have b0_0 : w4.cell? ⟨w.heap.size, 0, none⟩ = some (.int .i64 x0.topology.size) := b0.cell 0
  have b0_1 : w4.cell? ⟨w.heap.size, 1, none⟩ = some (c0_1) := b0.cell 1
  have b0_2 : w4.cell? ⟨w.heap.size, 2, none⟩ = some (c0_2) := b0.cell 2
  clear q_b0
  go_wp2_with fail
  refine (toIntS_c _ x1 _ (sInts.ext ((E4).alloc _) h1) (by omega)).mono ?_
  rintro e w5 ⟨⟨r5, rfl, O5⟩, hx5⟩
  have E5 : Ext w w5 := ((E4).alloc _).trans hx5
  clear b0_0 b0_1 b0_2
  have Z5 : Ext w4 w5 := ((Ext.refl _).alloc _).trans hx5
  replace b0 := Blk.ext Z5 b0
  have bx0 : Blk w5 (w4.heap.size) 58 #[.int .i64 x0.topology.size, .slice A4_1 x0.topology.links.length k4_1, .slice A4_2 x0.members.length k4_2] := Blk.ext hx5 (Blk.new _ _ _)
  replace rr0 := sSyncGroup.ext Z5 rr0
  obtain ⟨lX1, hX1, KX1, bX1⟩ : ∃ lo hi, Owned sInts lo hi w5 _ x1 ∧ w4.heap.size + 1 ≤ lo := ⟨_, _, ⟨O5, Nat.le_refl _, hx5.size⟩, by simp⟩
  replace KW := KW.ext Z5
  replace KX0 := KX0.ext Z5
  have cX1 : lX1 ≤ hX1 := KX1.2.2
  have nX1 : hX1 ≤ w5.heap.size := KX1.2.1
  have rr1 := O5.rd
  obtain ⟨A5_0, k5_0, rfl, _, _⟩ := Shape.sl_form rr1
  clear hx5 O5 Z5
  have lt_b0 := b0.lt
  have lt_bx0 := bx0.lt
  have q_b0 := b0
  have b0_0 : w5.cell? ⟨w.heap.size, 0, none⟩ = some (.int .i64 x0.topology.size) := b0.cell 0
  have b0_1 : w5.cell? ⟨w.heap.size, 1, none⟩ = some (c0_1) := b0.cell 1
  have b0_2 : w5.cell? ⟨w.heap.size, 2, none⟩ = some (c0_2) := b0.cell 2
  clear q_b0
  have q_bx0 := bx0
  have bx0_0 : w5.cell? ⟨w4.heap.size, 0, none⟩ = some (.int .i64 x0.topology.size) := bx0.cell 0
  have bx0_1 : w5.cell? ⟨w4.heap.size, 1, none⟩ = some (.slice A4_1 x0.topology.links.length k4_1) := bx0.cell 1
  have bx0_2 : w5.cell? ⟨w4.heap.size, 2, none⟩ = some (.slice A4_2 x0.members.length k4_2) := bx0.cell 2
  clear q_bx0
  go_wp2_with fail
  refine (implConnectedTo_c _ x0 _ x1 x2 _ rr0 rr1 h2 hs0 hlen1).mono ?_
  rintro e w6 ⟨⟨gg, rfl, OG⟩, hx6⟩
  have E6 : Ext w w6 := (E5).trans hx6
  have Z6 : Ext w5 w6 := hx6
  clear b0_0 b0_1 b0_2 bx0_0 bx0_1 bx0_2
  obtain ⟨lG, hG, KG, bG⟩ : ∃ lo hi, Owned sInts lo hi w6 [gg] (connS x0 x1 x2) ∧ hX1 ≤ lo := ⟨_, _, ⟨OG, Nat.le_refl _, hx6.size⟩, KX1.2.1⟩
  have cG : lG ≤ hG := KG.2.2
  replace KW := KW.ext Z6
  replace KX0 := KX0.ext Z6
  replace KX1 := KX1.ext Z6
  replace b0 := Blk.ext Z6 b0
  replace bx0 := Blk.ext Z6 bx0
  replace rr0 := sSyncGroup.ext Z6 rr0
  replace rr1 := sInts.ext Z6 rr1
  clear Z6 hx6 OG
  have ltt_b0 := b0.lt
  have ltt_bx0 := bx0.lt
  have q_b0 := b0
  have b0_0 : w6.cell? ⟨w.heap.size, 0, none⟩ = some (.int .i64 x0.topology.size) := b0.cell 0
  have b0_1 : w6.cell? ⟨w.heap.size, 1, none⟩ = some (c0_1) := b0.cell 1
  have b0_2 : w6.cell? ⟨w.heap.size, 2, none⟩ = some (c0_2) := b0.cell 2
  clear q_b0
  have q_bx0 := bx0
  have bx0_0 : w6.cell? ⟨w4.heap.size, 0, none⟩ = some (.int .i64 x0.topology.size) := bx0.cell 0
  have bx0_1 : w6.cell? ⟨w4.heap.size, 1, none⟩ = some (.slice A4_1 x0.topology.links.length k4_1) := bx0.cell 1
  have bx0_2 : w6.cell? ⟨w4.heap.size, 2, none⟩ = some (.slice A4_2 x0.members.length k4_2) := bx0.cell 2
  clear q_bx0
  go_wp2_with fail
  refine (eqIntS_c _ _ (connS x0 x1 x2) _ KG.rd KW.rd).mono ?_
  rintro e w7 ⟨rfl, hx7⟩
  have E7 : Ext w w7 := (E6).trans hx7
  clear b0_0 b0_1 b0_2 bx0_0 bx0_1 bx0_2
  replace b0 := Blk.ext hx7 b0
  replace bx0 := Blk.ext hx7 bx0
  replace rr0 := sSyncGroup.ext hx7 rr0
  replace rr1 := sInts.ext hx7 rr1
  replace KW := KW.ext hx7
  replace KX0 := KX0.ext hx7
  replace KX1 := KX1.ext hx7
  replace KG := KG.ext hx7
  clear hx7
  have q_b0 := b0
  have b0_0 : w7.cell? ⟨w.heap.size, 0, none⟩ = some (.int .i64 x0.topology.size) := b0.cell 0
  have b0_1 : w7.cell? ⟨w.heap.size, 1, none⟩ = some (c0_1) := b0.cell 1
  have b0_2 : w7.cell? ⟨w.heap.size, 2, none⟩ = some (c0_2) := b0.cell 2
  clear q_b0
  have q_bx0 := bx0
  have bx0_0 : w7.cell? ⟨w4.heap.size, 0, none⟩ = some (.int .i64 x0.topology.size) := bx0.cell 0
  have bx0_1 : w7.cell? ⟨w4.heap.size, 1, none⟩ = some (.slice A4_1 x0.topology.links.length k4_1) := bx0.cell 1
  have bx0_2 : w7.cell? ⟨w4.heap.size, 2, none⟩ = some (.slice A4_2 x0.members.length k4_2) := bx0.cell 2
  clear q_bx0
  go_wp2
  go_region_held3 (fun w' => w'.cell? ⟨w.heap.size, 0, none⟩ = some (.int .i64 x0.topology.size) ∧ w'.cell? ⟨w.heap.size, 1, none⟩ = some (c0_1) ∧ w'.cell? ⟨w.heap.size, 2, none⟩ = some (c0_2) ∧ w'.cell? ⟨w4.heap.size, 0, none⟩ = some (.int .i64 x0.topology.size) ∧ w'.cell? ⟨w4.heap.size, 1, none⟩ = some (.slice A4_1 x0.topology.links.length k4_1) ∧ w'.cell? ⟨w4.heap.size, 2, none⟩ = some (.slice A4_2 x0.members.length k4_2)) (((repeat' apply And.intro) <;> (first | assumption | exact hx9.cell (hx8.cell (by assumption)) | exact hx8.cell (by assumption))))
    (first | (go_at_call 18; refine (toSyncGroup_c _ x0 _ (sSyncGroup.ext ((E7).drew) h0) (by omega)).mono ?_; rintro e w8 ⟨⟨r8, rfl, O8⟩, hx8⟩) | (go_at_call 22; refine (eqSyncGroup_c _ _ x0 _ (sSyncGroup.ext ((Ext.refl w7).drew.trans hx8) rr0) O8.rd).mono ?_; rintro e w9 ⟨rfl, hx9⟩))
  have E9 : Ext w w9 := (((E7).drew).trans hx8).trans hx9
  have Z9 : Ext w7 w9 := (((Ext.refl w7).drew).trans hx8).trans hx9
  clear b0_0 b0_1 b0_2 bx0_0 bx0_1 bx0_2
  replace b0 := Blk.ext Z9 b0
  replace bx0 := Blk.ext Z9 bx0
  replace rr0 := sSyncGroup.ext Z9 rr0
  replace rr1 := sInts.ext Z9 rr1
  replace KW := KW.ext Z9
  replace KX0 := KX0.ext Z9
  replace KX1 := KX1.ext Z9
  replace KG := KG.ext Z9
  clear Z9 hx8 hx9 O8
  have q_b0 := b0
  have b0_0 : w9.cell? ⟨w.heap.size, 0, none⟩ = some (.int .i64 x0.topology.size) := b0.cell 0
  have b0_1 : w9.cell? ⟨w.heap.size, 1, none⟩ = some (c0_1) := b0.cell 1
  have b0_2 : w9.cell? ⟨w.heap.size, 2, none⟩ = some (c0_2) := b0.cell 2
  clear q_b0
  have q_bx0 := bx0
  have bx0_0 : w9.cell? ⟨w4.heap.size, 0, none⟩ = some (.int .i64 x0.topology.size) := bx0.cell 0
  have bx0_1 : w9.cell? ⟨w4.heap.size, 1, none⟩ = some (.slice A4_1 x0.topology.links.length k4_1) := bx0.cell 1
  have bx0_2 : w9.cell? ⟨w4.heap.size, 2, none⟩ = some (.slice A4_2 x0.members.length k4_2) := bx0.cell 2
  clear q_bx0
  go_wp2_with fail
  refine (toIntS_c _ x1 _ (sInts.ext (E9) h1) (by omega)).mono ?_
  rintro e w10 ⟨⟨r10, rfl, O10⟩, hx10⟩
  go_wp2_with fail
  refine (eqIntS_c _ _ x1 _ (sInts.ext hx10 rr1) O10.rd).mono ?_
  rintro e w11 ⟨rfl, hx11⟩
  have E11 : Ext w w11 := ((E9).trans hx10).trans hx11
  have Z11 : Ext w9 w11 := hx10.trans hx11
  clear b0_0 b0_1 b0_2 bx0_0 bx0_1 bx0_2
  replace b0 := Blk.ext Z11 b0
  replace bx0 := Blk.ext Z11 bx0
  replace rr0 := sSyncGroup.ext Z11 rr0
  replace rr1 := sInts.ext Z11 rr1
  replace KW := KW.ext Z11
  replace KX0 := KX0.ext Z11
  replace KX1 := KX1.ext Z11
  replace KG := KG.ext Z11
  clear Z11 hx10 hx11 O10
  have q_b0 := b0
  have b0_0 : w11.cell? ⟨w.heap.size, 0, none⟩ = some (.int .i64 x0.topology.size) := b0.cell 0
  have b0_1 : w11.cell? ⟨w.heap.size, 1, none⟩ = some (c0_1) := b0.cell 1
  have b0_2 : w11.cell? ⟨w.heap.size, 2, none⟩ = some (c0_2) := b0.cell 2
  clear q_b0
  have q_bx0 := bx0
  have bx0_0 : w11.cell? ⟨w4.heap.size, 0, none⟩ = some (.int .i64 x0.topology.size) := bx0.cell 0
  have bx0_1 : w11.cell? ⟨w4.heap.size, 1, none⟩ = some (.slice A4_1 x0.topology.links.length k4_1) := bx0.cell 1
  have bx0_2 : w11.cell? ⟨w4.heap.size, 2, none⟩ = some (.slice A4_2 x0.members.length k4_2) := bx0.cell 2
  clear q_bx0
  clear rr0 rr1
  obtain ⟨fX0, aX0, rX0⟩ := KX0.1
  go_wp2_with fail
  refine (markSyncGroup_w _ x0 fX0 _ _ aX0 (by omega) (by have := mSyncGroup_le x0; omega)).mono ?_
  rintro e w12 ⟨rfl, on12⟩
  have E12 : Ext w w12 := (E11).only on12 (fun b hm => by have := rX0 _ hm; omega)
  clear KX0 aX0
  clear b0_0 b0_1 b0_2 bx0_0 bx0_1 bx0_2
  replace b0 := b0.only on12 (fun hm => by have := rX0 _ hm; omega)
  replace bx0 := bx0.only on12 (fun hm => by have := rX0 _ hm; omega)
  replace KW := KW.only on12 (fun b hm => by have := rX0 _ hm; omega)
  replace KX1 := KX1.only on12 (fun b hm => by have := rX0 _ hm; omega)
  replace KG := KG.only on12 (fun b hm => by have := rX0 _ hm; omega)
  clear on12 rX0
  have q_b0 := b0
  have b0_0 : w12.cell? ⟨w.heap.size, 0, none⟩ = some (.int .i64 x0.topology.size) := b0.cell 0
  have b0_1 : w12.cell? ⟨w.heap.size, 1, none⟩ = some (c0_1) := b0.cell 1
  have b0_2 : w12.cell? ⟨w.heap.size, 2, none⟩ = some (c0_2) := b0.cell 2
  clear q_b0
  have q_bx0 := bx0
  have bx0_0 : w12.cell? ⟨w4.heap.size, 0, none⟩ = some (.int .i64 x0.topology.size) := bx0.cell 0
  have bx0_1 : w12.cell? ⟨w4.heap.size, 1, none⟩ = some (.slice A4_1 x0.topology.links.length k4_1) := bx0.cell 1
  have bx0_2 : w12.cell? ⟨w4.heap.size, 2, none⟩ = some (.slice A4_2 x0.members.length k4_2) := bx0.cell 2
  clear q_bx0
  obtain ⟨fX1, aX1, rX1⟩ := KX1.1
  go_wp2_with fail
  refine (markIntS_w _ x1 fX1 _ _ aX1 (by omega) (by have := mSyncGroup_le x0; omega)).mono ?_
  rintro e w13 ⟨rfl, _, on13⟩
  have E13 : Ext w w13 := (E12).only on13 (fun b hm => by have := rX1 _ hm; omega)
  clear KX1 aX1
  clear b0_0 b0_1 b0_2 bx0_0 bx0_1 bx0_2
  replace b0 := b0.only on13 (fun hm => by have := rX1 _ hm; omega)
  replace bx0 := bx0.only on13 (fun hm => by have := rX1 _ hm; omega)
  replace KW := KW.only on13 (fun b hm => by have := rX1 _ hm; omega)
  replace KG := KG.only on13 (fun b hm => by have := rX1 _ hm; omega)
  clear on13 rX1
  have q_b0 := b0
  have b0_0 : w13.cell? ⟨w.heap.size, 0, none⟩ = some (.int .i64 x0.topology.size) := b0.cell 0
  have b0_1 : w13.cell? ⟨w.heap.size, 1, none⟩ = some (c0_1) := b0.cell 1
  have b0_2 : w13.cell? ⟨w.heap.size, 2, none⟩ = some (c0_2) := b0.cell 2
  clear q_b0
  have q_bx0 := bx0
  have bx0_0 : w13.cell? ⟨w4.heap.size, 0, none⟩ = some (.int .i64 x0.topology.size) := bx0.cell 0
  have bx0_1 : w13.cell? ⟨w4.heap.size, 1, none⟩ = some (.slice A4_1 x0.topology.links.length k4_1) := bx0.cell 1
  have bx0_2 : w13.cell? ⟨w4.heap.size, 2, none⟩ = some (.slice A4_2 x0.members.length k4_2) := bx0.cell 2
  clear q_bx0
  have hkk : decide ((1 : Int) + (cntL cLink x0.topology.links + cntL cMember x0.members : Nat) + (x1.length : Nat) < 0) = false := by simp; omega
  go_wp2_with fail
  refine (eqIntS_c _ _ (connS x0 x1 x2) _ KG.rd KW.rd).mono ?_
  rintro e w14 ⟨rfl, hx14⟩
  have E14 : Ext w w14 := (E13).trans hx14
  clear b0_0 b0_1 b0_2 bx0_0 bx0_1 bx0_2
  replace b0 := Blk.ext hx14 b0
  replace bx0 := Blk.ext hx14 bx0
  replace KW := KW.ext hx14
  replace KG := KG.ext hx14
  clear hx14
  have q_b0 := b0
  have b0_0 : w14.cell? ⟨w.heap.size, 0, none⟩ = some (.int .i64 x0.topology.size) := b0.cell 0
  have b0_1 : w14.cell? ⟨w.heap.size, 1, none⟩ = some (c0_1) := b0.cell 1
  have b0_2 : w14.cell? ⟨w.heap.size, 2, none⟩ = some (c0_2) := b0.cell 2
  clear q_b0
  have q_bx0 := bx0
  have bx0_0 : w14.cell? ⟨w4.heap.size, 0, none⟩ = some (.int .i64 x0.topology.size) := bx0.cell 0
  have bx0_1 : w14.cell? ⟨w4.heap.size, 1, none⟩ = some (.slice A4_1 x0.topology.links.length k4_1) := bx0.cell 1
  have bx0_2 : w14.cell? ⟨w4.heap.size, 2, none⟩ = some (.slice A4_2 x0.members.length k4_2) := bx0.cell 2
  clear q_bx0
  obtain ⟨fG, aG, rG⟩ := KG.1
  go_wp2_with fail
  refine (markIntS_c _ (connS x0 x1 x2) fG _ _ aG (by omega) (by have := conn_len x0 x1 x2 hs0 hlen1; omega)).mono ?_
  rintro e w15 ⟨rfl, aG15, on15⟩
  have E15 : Ext w w15 := (E14).only on15 (fun b hm => by have := rG _ hm; omega)
  have gG := KG.2
  clear KG aG
  clear b0_0 b0_1 b0_2 bx0_0 bx0_1 bx0_2
  replace b0 := b0.only on15 (fun hm => by have := rG _ hm; omega)
  replace bx0 := bx0.only on15 (fun hm => by have := rG _ hm; omega)
  replace KW := KW.only on15 (fun b hm => by have := rG _ hm; omega)
  have KG : Owned sInts lG hG w15 [gg] (ramp 1 (connS x0 x1 x2).length) := ⟨⟨fG, aG15, rG⟩, Nat.le_trans gG.1 on15.size, gG.2⟩
  clear on15 rG gG aG15
  have q_b0 := b0
  have b0_0 : w15.cell? ⟨w.heap.size, 0, none⟩ = some (.int .i64 x0.topology.size) := b0.cell 0
  have b0_1 : w15.cell? ⟨w.heap.size, 1, none⟩ = some (c0_1) := b0.cell 1
  have b0_2 : w15.cell? ⟨w.heap.size, 2, none⟩ = some (c0_2) := b0.cell 2
  clear q_b0
  have q_bx0 := bx0
  have bx0_0 : w15.cell? ⟨w4.heap.size, 0, none⟩ = some (.int .i64 x0.topology.size) := bx0.cell 0
  have bx0_1 : w15.cell? ⟨w4.heap.size, 1, none⟩ = some (.slice A4_1 x0.topology.links.length k4_1) := bx0.cell 1
  have bx0_2 : w15.cell? ⟨w4.heap.size, 2, none⟩ = some (.slice A4_2 x0.members.length k4_2) := bx0.cell 2
  clear q_bx0
  go_wp2_with fail
  refine (heldIntS_c _ _ KG.rd (by have := conn_len x0 x1 x2 hs0 hlen1; omega)).mono ?_
  rintro e w16 ⟨rfl, hx16⟩
  have E16 : Ext w w16 := (E15).trans hx16
  clear b0_0 b0_1 b0_2 bx0_0 bx0_1 bx0_2
  replace b0 := Blk.ext hx16 b0
  replace bx0 := Blk.ext hx16 bx0
  replace KW := KW.ext hx16
  replace KG := KG.ext hx16
  clear hx16
  have q_b0 := b0
  have b0_0 : w16.cell? ⟨w.heap.size, 0, none⟩ = some (.int .i64 x0.topology.size) := b0.cell 0
  have b0_1 : w16.cell? ⟨w.heap.size, 1, none⟩ = some (c0_1) := b0.cell 1
  have b0_2 : w16.cell? ⟨w.heap.size, 2, none⟩ = some (c0_2) := b0.cell 2
  clear q_b0
  have q_bx0 := bx0
  have bx0_0 : w16.cell? ⟨w4.heap.size, 0, none⟩ = some (.int .i64 x0.topology.size) := bx0.cell 0
  have bx0_1 : w16.cell? ⟨w4.heap.size, 1, none⟩ = some (.slice A4_1 x0.topology.links.length k4_1) := bx0.cell 1
  have bx0_2 : w16.cell? ⟨w4.heap.size, 2, none⟩ = some (.slice A4_2 x0.members.length k4_2) := bx0.cell 2
  clear q_bx0
  have hq1 : decide ((1 : Int) + ((connS x0 x1 x2).length : Nat) < 0) = false := by simp; omega
  have hq2 : ((1 : Int) + ((connS x0 x1 x2).length : Nat) != (1 : Int) + ((connS x0 x1 x2).length : Nat)) = false := by simp
  go_wp2_with fail
  refine (toSyncGroup_c _ x0 _ (sSyncGroup.ext (E16) h0) (by omega)).mono ?_
  rintro e w17 ⟨⟨r17, rfl, O17⟩, hx17⟩
  obtain ⟨e17_1, e17_2, rfl, _⟩ := sSyncGroup_rd O17.rd
  go_wp2_with fail
  refine (toIntS_c _ x1 _ (sInts.ext ((E16).trans hx17) h1) (by omega)).mono ?_
  rintro e w18 ⟨⟨r18, rfl, O18⟩, hx18⟩
  go_wp2_with fail
  refine (implConnectedTo_c _ x0 _ x1 x2 _ (sSyncGroup.ext hx18 O17.rd) O18.rd h2 hs0 hlen1).mono ?_
  rintro e w19 ⟨⟨gh, rfl, OH⟩, hx19⟩
  have E19 : Ext w w19 := (((E16).trans hx17).trans hx18).trans hx19
  have Z19 : Ext w16 w19 := (((Ext.refl w16).trans hx17).trans hx18).trans hx19
  clear b0_0 b0_1 b0_2 bx0_0 bx0_1 bx0_2
  replace b0 := Blk.ext Z19 b0
  replace bx0 := Blk.ext Z19 bx0
  replace KW := KW.ext Z19
  replace KG := KG.ext Z19
  have rdH := OH.rd
  clear Z19 hx17 hx18 hx19 O17 O18 OH
  have q_b0 := b0
  have b0_0 : w19.cell? ⟨w.heap.size, 0, none⟩ = some (.int .i64 x0.topology.size) := b0.cell 0
  have b0_1 : w19.cell? ⟨w.heap.size, 1, none⟩ = some (c0_1) := b0.cell 1
  have b0_2 : w19.cell? ⟨w.heap.size, 2, none⟩ = some (c0_2) := b0.cell 2
  clear q_b0
  have q_bx0 := bx0
  have bx0_0 : w19.cell? ⟨w4.heap.size, 0, none⟩ = some (.int .i64 x0.topology.size) := bx0.cell 0
  have bx0_1 : w19.cell? ⟨w4.heap.size, 1, none⟩ = some (.slice A4_1 x0.topology.links.length k4_1) := bx0.cell 1
  have bx0_2 : w19.cell? ⟨w4.heap.size, 2, none⟩ = some (.slice A4_2 x0.members.length k4_2) := bx0.cell 2
  clear q_bx0
  go_wp2_with fail
  refine (eqIntS_c _ _ (connS x0 x1 x2) _ rdH KW.rd).mono ?_
  rintro e w20 ⟨rfl, hx20⟩
  have E20 : Ext w w20 := (E19).trans hx20
  clear b0_0 b0_1 b0_2 bx0_0 bx0_1 bx0_2
  replace b0 := Blk.ext hx20 b0
  replace bx0 := Blk.ext hx20 bx0
  replace KW := KW.ext hx20
  replace KG := KG.ext hx20
  clear hx20
  have q_b0 := b0
  have b0_0 : w20.cell? ⟨w.heap.size, 0, none⟩ = some (.int .i64 x0.topology.size) := b0.cell 0
  have b0_1 : w20.cell? ⟨w.heap.size, 1, none⟩ = some (c0_1) := b0.cell 1
  have b0_2 : w20.cell? ⟨w.heap.size, 2, none⟩ = some (c0_2) := b0.cell 2
  clear q_b0
  have q_bx0 := bx0
  have bx0_0 : w20.cell? ⟨w4.heap.size, 0, none⟩ = some (.int .i64 x0.topology.size) := bx0.cell 0
  have bx0_1 : w20.cell? ⟨w4.heap.size, 1, none⟩ = some (.slice A4_1 x0.topology.links.length k4_1) := bx0.cell 1
  have bx0_2 : w20.cell? ⟨w4.heap.size, 2, none⟩ = some (.slice A4_2 x0.members.length k4_2) := bx0.cell 2
  clear q_bx0
  clear rdH
  go_wp2_with fail
  refine (heldIntS_c _ _ KG.rd (by have := conn_len x0 x1 x2 hs0 hlen1; omega)).mono ?_
  rintro e w21 ⟨rfl, hx21⟩
  have E21 : Ext w w21 := (E20).trans hx21
  clear b0_0 b0_1 b0_2 bx0_0 bx0_1 bx0_2
  replace b0 := Blk.ext hx21 b0
  replace bx0 := Blk.ext hx21 bx0
  replace KW := KW.ext hx21
  replace KG := KG.ext hx21
  clear hx21
  have q_b0 := b0
  have b0_0 : w21.cell? ⟨w.heap.size, 0, none⟩ = some (.int .i64 x0.topology.size) := b0.cell 0
  have b0_1 : w21.cell? ⟨w.heap.size, 1, none⟩ = some (c0_1) := b0.cell 1
  have b0_2 : w21.cell? ⟨w.heap.size, 2, none⟩ = some (c0_2) := b0.cell 2
  clear q_b0
  have q_bx0 := bx0
  have bx0_0 : w21.cell? ⟨w4.heap.size, 0, none⟩ = some (.int .i64 x0.topology.size) := bx0.cell 0
  have bx0_1 : w21.cell? ⟨w4.heap.size, 1, none⟩ = some (.slice A4_1 x0.topology.links.length k4_1) := bx0.cell 1
  have bx0_2 : w21.cell? ⟨w4.heap.size, 2, none⟩ = some (.slice A4_2 x0.members.length k4_2) := bx0.cell 2
  clear q_bx0
  go_wp2
  go_ret
  exact ⟨rfl, E21⟩

end Go.Proofs.Ytofieohogenojaa
