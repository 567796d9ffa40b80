/- What LargestNode computes. Printed by wk_net2.py. -/
import Derived.Test.YtogjaminmgiofaaGreatWkMax
import Derived.Deep.RegionHeld3
import Derived.Deep.DrawnRows
import Derived.Deep.Cut
namespace Go.Proofs.YtogjaminmgiofaaGreat
open Go.RowKit
set_option linter.unusedVariables false

def nodeSize (x : DNode) : Int := wrap64 (wrap64 (wrap64 (wrap64 (wrap64 ((x.locals.length : Int) + (x.cache.entries.length : Int)) + (x.pending.length : Int)) + (x.seen.length : Int)) + (x.routes.length : Int)) + (x.measurements.length : Int))
def largest (l : List DNode) : Int := l.foldl (fun n x => mx n (nodeSize x)) 0
theorem largest_snoc (l : List DNode) (k : Nat) (h : k < l.length) : largest (l.take (k + 1)) = mx (largest (l.take k)) (nodeSize l[k]) := by
  unfold largest; rw [List.take_succ_eq_append_getElem h, List.foldl_append, List.foldl_cons, List.foldl_nil]

set_option maxHeartbeats 2000000 in
theorem specNodeSize_c (cs : List Value) (x : DNode) (w : World) (h : sNode.rd w cs x) :
    Calls Tryz.prog 66 #[.agg cs.toArray] w fun e w' => e = .returned (.int .i64 (nodeSize x)) ∧ Ext w w' := by
  obtain ⟨d0, d2, d3, d4, d5, d6, rfl, n0, n1, n2, n3, n4, n5, n6⟩ := sNode_rd h
  obtain ⟨q2, he2, s0, s1⟩ := sContentStore_rd n1
  simp only [List.cons.injEq, and_true, true_and] at he2
  subst he2
  clear h
  obtain ⟨A0, e0, rfl, hl0, hm0⟩ := Shape.sl_form n0
  obtain ⟨A2, e2, rfl, hl2, hm2⟩ := Shape.sl_form s1
  obtain ⟨A3, e3, rfl, hl3, hm3⟩ := Shape.sl_form n2
  obtain ⟨A4, e4, rfl, hl4, hm4⟩ := Shape.sl_form n3
  obtain ⟨A5, e5, rfl, hl5, hm5⟩ := Shape.sl_form n4
  obtain ⟨A6, e6, rfl, hl6, hm6⟩ := Shape.sl_form n5
  clear n0 n1 n2 n3 n4 n5 n6 s0 s1
  go_enter Tryz.func66, Tryz.ntmps66
  go_wp2
  go_ret
  exact ⟨rfl, (Ext.refl w).alloc _⟩

set_option maxHeartbeats 2000000 in
theorem implNodeSize_c (cs : List Value) (x : DNode) (w : World) (h : sNode.rd w cs x) :
    Calls Tryz.prog 67 #[.agg cs.toArray] w fun e w' => e = .returned (.int .i64 (nodeSize x)) ∧ Ext w w' := by
  obtain ⟨d0, d2, d3, d4, d5, d6, rfl, n0, n1, n2, n3, n4, n5, n6⟩ := sNode_rd h
  obtain ⟨q2, he2, s0, s1⟩ := sContentStore_rd n1
  simp only [List.cons.injEq, and_true, true_and] at he2
  subst he2
  clear h
  obtain ⟨A0, e0, rfl, hl0, hm0⟩ := Shape.sl_form n0
  obtain ⟨A2, e2, rfl, hl2, hm2⟩ := Shape.sl_form s1
  obtain ⟨A3, e3, rfl, hl3, hm3⟩ := Shape.sl_form n2
  obtain ⟨A4, e4, rfl, hl4, hm4⟩ := Shape.sl_form n3
  obtain ⟨A5, e5, rfl, hl5, hm5⟩ := Shape.sl_form n4
  obtain ⟨A6, e6, rfl, hl6, hm6⟩ := Shape.sl_form n5
  clear n0 n1 n2 n3 n4 n5 n6 s0 s1
  go_enter Tryz.func67, Tryz.ntmps67
  go_wp2
  go_ret
  exact ⟨rfl, (Ext.refl w).alloc _⟩

set_option maxHeartbeats 2000000 in
theorem implLargestNode_c (cs : List Value) (x : DNetwork) (w : World) (h : sNetwork.rd w cs x) :
    Calls Tryz.prog 24 #[.agg cs.toArray] w fun e w' => e = .returned (.int .i64 (largest x.nodes)) ∧ Ext w w' := by
  obtain ⟨c1, c2, c3, c4, c5, c6, c7, c9, c10, c11, rfl, r0, r1, r2, r3, r4, r5, r6, r7, r8, r9⟩ := sNetwork_rd h
  obtain ⟨A, c, rfl, hl, hm⟩ := Shape.sl_form r3
  unfold maxLen at hm
  have H := Lib.hid r3
  clear h r0 r1 r2 r3 r4 r5 r6 r7 r8 r9
  go_enter Tryz.func24, Tryz.ntmps24
  go_wp2
  go_loopw [3, 9] (fun n i wr => ∃ k : Nat, k ≤ x.nodes.length ∧ i = .int .i64 k ∧ n = .int .i64 (largest (x.nodes.take k)) ∧ Ext (w.alloc (.cells #[.int .i64 x.topology.size, c1, c2, c3, c4, c5, c6, .slice A x.nodes.length c, .int .i64 x.downNodes, c9, c10, c11, .int .i64 x.now, .int .i64 x.dropped] 54)) wr) (fun _ i _ => x.nodes.length - (intOf i).toNat)
  case atStart => exact ⟨0, Nat.zero_le _, rfl, rfl, Ext.refl _⟩
  case round =>
    obtain ⟨k, hk, rfl, rfl, hx⟩ := hrel
    have hX : Ext w wr := Ext.trans ((Ext.refl w).alloc _) hx
    have fb : wr.cell? ⟨w.heap.size, 7, none⟩ = some (.slice A x.nodes.length c) := hx.cell (by simp)
    have hsz : w.heap.size < wr.heap.size := by have := hx.size; simp at this; omega
    by_cases hlt : k < x.nodes.length
    · obtain ⟨b, off, es, rfl, hc, hr⟩ := Shape.sl_at (sNodeL.ext hX H.out) hlt
      have hr0 := hr
      obtain ⟨d0, d2, d3, d4, d5, d6, rfl, n0, n1, n2, n3, n4, n5, n6⟩ := sNode_rd hr
      have f0 := hc 0 _ rfl
      have f1 := hc 1 _ rfl
      have f2 := hc 2 _ rfl
      have f3 := hc 3 _ rfl
      have f4 := hc 4 _ rfl
      have f5 := hc 5 _ rfl
      have f6 := hc 6 _ rfl
      have f7 := hc 7 _ rfl
      simp only [Nat.add_zero, show sNode.k = 8 from rfl] at f0 f1 f2 f3 f4 f5 f6 f7
      obtain ⟨q2, he2, s0, s1⟩ := sContentStore_rd n1
      simp only [List.cons.injEq, and_true, true_and] at he2
      subst he2
      obtain ⟨A0, e0, rfl, hl0, hm0⟩ := Shape.sl_form n0
      obtain ⟨A2, e2, rfl, hl2, hm2⟩ := Shape.sl_form s1
      obtain ⟨A3, e3, rfl, hl3, hm3⟩ := Shape.sl_form n2
      obtain ⟨A4, e4, rfl, hl4, hm4⟩ := Shape.sl_form n3
      obtain ⟨A5, e5, rfl, hl5, hm5⟩ := Shape.sl_form n4
      obtain ⟨A6, e6, rfl, hl6, hm6⟩ := Shape.sl_form n5
      clear n0 n1 n2 n3 n4 n5 n6 s0 s1
      have HS := Lib.hid (largest_snoc x.nodes k hlt)
      clear hc hr
      go_wp2_with fail
      refine (implNodeSize_c _ x.nodes[k] _ (sNode.ext ((Ext.refl wr).alloc _) hr0)).mono ?_
      rintro e w1 ⟨rfl, hx1⟩
      clear hr0
      go_wp2
      go_roundw
      case rel => exact ⟨k + 1, by omega, by go_num, by first | (rw [HS.out]; done) | (rw [HS.out]; unfold mx; rfl), (hx.alloc _).trans hx1⟩
      case measure => simp [intOf]; omega
    · have : k = x.nodes.length := by omega
      subst this
      go_wp2
      go_ret
      exact ⟨ret_int (by rw [List.take_length]), hX⟩

set_option maxHeartbeats 2000000 in
theorem specLargestNode_c (cs : List Value) (x : DNetwork) (w : World) (h : sNetwork.rd w cs x) :
    Calls Tryz.prog 23 #[.agg cs.toArray] w fun e w' => e = .returned (.int .i64 (largest x.nodes)) ∧ Ext w w' := by
  obtain ⟨c1, c2, c3, c4, c5, c6, c7, c9, c10, c11, rfl, r0, r1, r2, r3, r4, r5, r6, r7, r8, r9⟩ := sNetwork_rd h
  obtain ⟨A, c, rfl, hl, hm⟩ := Shape.sl_form r3
  unfold maxLen at hm
  have H := Lib.hid r3
  clear h r0 r1 r2 r3 r4 r5 r6 r7 r8 r9
  go_enter Tryz.func23, Tryz.ntmps23
  go_wp2
  go_loopw [3, 4] (fun n i wr => ∃ k : Nat, k ≤ x.nodes.length ∧ i = .int .i64 k ∧ n = .int .i64 (largest (x.nodes.take k)) ∧ Ext (w.alloc (.cells #[.int .i64 x.topology.size, c1, c2, c3, c4, c5, c6, .slice A x.nodes.length c, .int .i64 x.downNodes, c9, c10, c11, .int .i64 x.now, .int .i64 x.dropped] 54)) wr) (fun _ i _ => x.nodes.length - (intOf i).toNat)
  case atStart => exact ⟨0, Nat.zero_le _, rfl, rfl, Ext.refl _⟩
  case round =>
    obtain ⟨k, hk, rfl, rfl, hx⟩ := hrel
    have hX : Ext w wr := Ext.trans ((Ext.refl w).alloc _) hx
    have fb : wr.cell? ⟨w.heap.size, 7, none⟩ = some (.slice A x.nodes.length c) := hx.cell (by simp)
    have hsz : w.heap.size < wr.heap.size := by have := hx.size; simp at this; omega
    by_cases hlt : k < x.nodes.length
    · obtain ⟨b, off, es, rfl, hc, hr⟩ := Shape.sl_at (sNodeL.ext hX H.out) hlt
      have hr0 := hr
      obtain ⟨d0, d2, d3, d4, d5, d6, rfl, n0, n1, n2, n3, n4, n5, n6⟩ := sNode_rd hr
      have f0 := hc 0 _ rfl
      have f1 := hc 1 _ rfl
      have f2 := hc 2 _ rfl
      have f3 := hc 3 _ rfl
      have f4 := hc 4 _ rfl
      have f5 := hc 5 _ rfl
      have f6 := hc 6 _ rfl
      have f7 := hc 7 _ rfl
      simp only [Nat.add_zero, show sNode.k = 8 from rfl] at f0 f1 f2 f3 f4 f5 f6 f7
      obtain ⟨q2, he2, s0, s1⟩ := sContentStore_rd n1
      simp only [List.cons.injEq, and_true, true_and] at he2
      subst he2
      obtain ⟨A0, e0, rfl, hl0, hm0⟩ := Shape.sl_form n0
      obtain ⟨A2, e2, rfl, hl2, hm2⟩ := Shape.sl_form s1
      obtain ⟨A3, e3, rfl, hl3, hm3⟩ := Shape.sl_form n2
      obtain ⟨A4, e4, rfl, hl4, hm4⟩ := Shape.sl_form n3
      obtain ⟨A5, e5, rfl, hl5, hm5⟩ := Shape.sl_form n4
      obtain ⟨A6, e6, rfl, hl6, hm6⟩ := Shape.sl_form n5
      clear n0 n1 n2 n3 n4 n5 n6 s0 s1
      have HS := Lib.hid (largest_snoc x.nodes k hlt)
      clear hc hr
      go_wp2_with fail
      refine (specNodeSize_c _ x.nodes[k] _ (sNode.ext (Ext.refl wr) hr0)).mono ?_
      rintro e w1 ⟨rfl, hx1⟩
      clear hr0
      go_wp2_with fail
      refine (specMax_c _ _ _).mono ?_
      rintro e w2 ⟨rfl, hx2⟩
      go_wp2
      go_roundw
      case rel => exact ⟨k + 1, by omega, by go_num, by first | (rw [HS.out]; done) | (rw [HS.out]; unfold mx; rfl), (hx.trans hx1).trans hx2⟩
      case measure => simp [intOf]; omega
    · have : k = x.nodes.length := by omega
      subst this
      go_wp2
      go_ret
      exact ⟨ret_int (by rw [List.take_length]), hX⟩

end Go.Proofs.YtogjaminmgiofaaGreat
