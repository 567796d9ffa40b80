import Derived.Test.YthnkggjgblehaaaFamSz
import Derived.Test.YthnkggjgblehaaaFamTo
import Derived.Test.YthnkggjgblehaaaFamEq
import Derived.Deep.RegionHeld3
import Derived.Deep.DrawnRows
namespace Go.Proofs.Ythnkggjgblehaaa
open Go.RowKit
set_option linter.unusedVariables false
attribute [local go_sem ↓] Go.wp_at_zero Go.wp_at_succ

def nodeSizeLimit (x : DNode) : Int := wrap64 (wrap64 (wrap64 (wrap64 (wrap64 (8 + x.cache.capacity) + 12) + 24) + 24) + 24)

set_option maxHeartbeats 400000 in
theorem specNodeSizeLimit_c (cs : List Value) (x : DNode) (w : World) (h : sNode.rd w cs x) :
    Calls Try.prog 27 #[.agg cs.toArray] w fun e w' => e = .returned (.int .i64 (nodeSizeLimit x)) ∧ Ext w w' := by
  obtain ⟨c0, c2, c3, c4, c5, c6, rfl, r⟩ := sNode_rd h
  clear h r
  go_enter Try.func27, Try.ntmps27
  go_wp2
  go_ret
  exact ⟨ret_int rfl, (Ext.refl w).alloc _⟩
set_option maxHeartbeats 400000 in
theorem implNodeSizeLimit_c (cs : List Value) (x : DNode) (w : World) (h : sNode.rd w cs x) :
    Calls Try.prog 29 #[.agg cs.toArray] w fun e w' => e = .returned (.int .i64 (nodeSizeLimit x)) ∧ Ext w w' := by
  obtain ⟨c0, c2, c3, c4, c5, c6, rfl, r⟩ := sNode_rd h
  clear h r
  go_enter Try.func29, Try.ntmps29
  go_wp2
  go_ret
  exact ⟨ret_int rfl, (Ext.refl w).alloc _⟩

set_option maxHeartbeats 1000000 in
theorem lawFnExactNodeSizeLimit (cs : List Value) (x : DNode) (w : World) (h : sNode.rd w cs x) :
    Calls Try.prog 6 #[.agg cs.toArray] w fun e w' => e = .returned (.bool true) ∧ Ext w w' := by
  have h' := h
  obtain ⟨c0, c2, c3, c4, c5, c6, rfl, r⟩ := sNode_rd h'
  clear r h'
  go_enter Try.func6, Try.ntmps6
  go_wp2_with fail
  refine (szNode_c _ x _ _ (sNode.ext ((Ext.refl w).alloc _) h) (by omega) (by omega)).mono ?_
  rintro e w0 ⟨rfl, hx0⟩
  have E0 : Ext w w0 := Ext.trans ((Ext.refl w).alloc _) hx0
  have b0 : Blk w0 w.heap.size 60 #[c0, .int .i64 x.cache.capacity, c2, c3, c4, c5, c6, .int .i64 x.dropped] := Blk.ext hx0 (Blk.new w _ _)
  clear hx0
  by_cases hq : remain 1048576 (szNode x) < 0
  · go_wp2
    go_ret
    exact ⟨rfl, E0⟩
  obtain ⟨hp, hv⟩ := remain_pos (Int.not_lt.1 hq)
  rw [hv] at hq ⊢
  clear hv
  have hs : szNode x ≤ 1048576 := by omega
  have f0 := b0.cell 0
  have f1 := b0.cell 1
  have f2 := b0.cell 2
  have f3 := b0.cell 3
  have f4 := b0.cell 4
  have f5 := b0.cell 5
  have f6 := b0.cell 6
  have f7 := b0.cell 7
  simp only [List.getElem?_toArray, List.getElem?_cons_zero, List.getElem?_cons_succ] at f0 f1 f2 f3 f4 f5 f6 f7
  go_wp2_with fail
  refine (toNode_c _ x _ (sNode.ext E0 h) hs).mono ?_
  rintro e w1 ⟨⟨r1, rfl, O1⟩, hx1⟩
  have E1 := E0.trans hx1
  have rr1 := O1.rd
  obtain ⟨d0, d2, d3, d4, d5, d6, rfl, _⟩ := sNode_rd rr1
  go_wp2_with fail
  refine (specNodeSizeLimit_c _ x _ rr1).mono ?_
  rintro e w2 ⟨rfl, hx2⟩
  have E2 := E1.trans hx2
  have b2 := (b0.ext hx1).ext hx2
  clear O1 rr1 hx1 hx2 f0 f1 f2 f3 f4 f5 f6 f7 b0
  have f0 := b2.cell 0
  have f1 := b2.cell 1
  have f2 := b2.cell 2
  have f3 := b2.cell 3
  have f4 := b2.cell 4
  have f5 := b2.cell 5
  have f6 := b2.cell 6
  have f7 := b2.cell 7
  simp only [List.getElem?_toArray, List.getElem?_cons_zero, List.getElem?_cons_succ] at f0 f1 f2 f3 f4 f5 f6 f7
  go_wp2_with fail
  refine (toNode_c _ x _ (sNode.ext E2 h) hs).mono ?_
  rintro e w3 ⟨⟨r3, rfl, O3⟩, hx3⟩
  have E3 := E2.trans hx3
  have rr3 := O3.rd
  obtain ⟨e0, e2, e3, e4, e5, e6, rfl, _⟩ := sNode_rd rr3
  obtain ⟨A_0, k_0, rfl, _, _⟩ := Shape.sl_form (sNode_f0 rr3)
  obtain ⟨A_2, k_2, rfl, _, _⟩ := Shape.sl_form (sContentStore_f1 (sNode_f1 rr3))
  obtain ⟨A_3, k_3, rfl, _, _⟩ := Shape.sl_form (sNode_f2 rr3)
  obtain ⟨A_4, k_4, rfl, _, _⟩ := Shape.sl_form (sNode_f3 rr3)
  obtain ⟨A_5, k_5, rfl, _, _⟩ := Shape.sl_form (sNode_f4 rr3)
  obtain ⟨A_6, k_6, rfl, _, _⟩ := Shape.sl_form (sNode_f5 rr3)
  have b3 := b2.ext hx3
  have hn3 := b3.lt
  clear f0 f1 f2 f3 f4 f5 f6 f7 b2 hx3
  go_wp2_with fail
  refine (implNodeSizeLimit_c _ x _ (sNode.ext ((Ext.refl _).alloc _) rr3)).mono ?_
  rintro e w4 ⟨rfl, hx4⟩
  have E4 := (E3.alloc _).trans hx4
  have b4 := (b3.alloc _).ext hx4
  have bx := (Blk.new w3 _ _).ext hx4
  have rr4 := sNode.ext (((Ext.refl _).alloc _).trans hx4) rr3
  have hn4 := bx.lt
  clear b3 rr3 O3 hx4
  have f0 := b4.cell 0
  have f1 := b4.cell 1
  have f2 := b4.cell 2
  have f3 := b4.cell 3
  have f4 := b4.cell 4
  have f5 := b4.cell 5
  have f6 := b4.cell 6
  have f7 := b4.cell 7
  have g0 := bx.cell 0
  have g1 := bx.cell 1
  have g2 := bx.cell 2
  have g3 := bx.cell 3
  have g4 := bx.cell 4
  have g5 := bx.cell 5
  have g6 := bx.cell 6
  have g7 := bx.cell 7
  simp only [List.getElem?_toArray, List.getElem?_cons_zero, List.getElem?_cons_succ] at f0 f1 f2 f3 f4 f5 f6 f7 g0 g1 g2 g3 g4 g5 g6 g7
  have hsame : (nodeSizeLimit x != nodeSizeLimit x) = false := by simp
  go_wp2
  go_region_held3 (fun w' => w'.cell? ⟨w3.heap.size, 0, none⟩ = some (.slice A_0 x.locals.length k_0) ∧ w'.cell? ⟨w3.heap.size, 1, none⟩ = some (.int .i64 x.cache.capacity) ∧ w'.cell? ⟨w3.heap.size, 2, none⟩ = some (.slice A_2 x.cache.entries.length k_2) ∧ w'.cell? ⟨w3.heap.size, 3, none⟩ = some (.slice A_3 x.pending.length k_3) ∧ w'.cell? ⟨w3.heap.size, 4, none⟩ = some (.slice A_4 x.seen.length k_4) ∧ w'.cell? ⟨w3.heap.size, 5, none⟩ = some (.slice A_5 x.routes.length k_5) ∧ w'.cell? ⟨w3.heap.size, 6, none⟩ = some (.slice A_6 x.measurements.length k_6) ∧ w'.cell? ⟨w3.heap.size, 7, none⟩ = some (.int .i64 x.dropped) ∧ w'.cell? ⟨w.heap.size, 0, none⟩ = some (c0) ∧ w'.cell? ⟨w.heap.size, 1, none⟩ = some (.int .i64 x.cache.capacity) ∧ w'.cell? ⟨w.heap.size, 2, none⟩ = some (c2) ∧ w'.cell? ⟨w.heap.size, 3, none⟩ = some (c3) ∧ w'.cell? ⟨w.heap.size, 4, none⟩ = some (c4) ∧ w'.cell? ⟨w.heap.size, 5, none⟩ = some (c5) ∧ w'.cell? ⟨w.heap.size, 6, none⟩ = some (c6) ∧ w'.cell? ⟨w.heap.size, 7, none⟩ = some (.int .i64 x.dropped)) (((repeat' apply And.intro) <;> (first | assumption | exact hx6.cell (hx5.cell (by assumption)) | exact hx5.cell (by assumption))))
    (first
      | (go_at_call 28; refine (toNode_c _ x _ (sNode.ext (E4.drew) h) hs).mono ?_; rintro e w5 ⟨⟨r5, rfl, O5⟩, hx5⟩)
      | (go_at_call 30; refine (eqNode_c _ _ x _ (sNode.ext ((Ext.refl w4).drew.trans hx5) rr4) O5.rd).mono ?_; rintro e w6 ⟨rfl, hx6⟩))
  all_goals go_wp2
  all_goals go_ret
  all_goals exact ⟨rfl, (E4.drew.trans hx5).trans hx6⟩
end Go.Proofs.Ythnkggjgblehaaa
