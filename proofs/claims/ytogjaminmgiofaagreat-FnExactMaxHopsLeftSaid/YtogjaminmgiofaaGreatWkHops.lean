/- What MaxHopsLeft computes. Printed by wk_net2.py. -/
import Derived.Test.YtogjaminmgiofaaGreatWkMax
import Derived.Deep.RegionHeld3
import Derived.Deep.DrawnRows
import Derived.Deep.Cut
namespace Go.Proofs.YtogjaminmgiofaaGreat
open Go.RowKit
set_option linter.unusedVariables false

def maxHops (l : List DPacketInFlight) : Int := l.foldl (fun n p => if p.isInterest then mx n p.interest.hopLimit else n) 0
theorem maxHops_snoc (l : List DPacketInFlight) (k : Nat) (h : k < l.length) : maxHops (l.take (k + 1)) = if l[k].isInterest then mx (maxHops (l.take k)) l[k].interest.hopLimit else maxHops (l.take k) := by
  unfold maxHops; rw [List.take_succ_eq_append_getElem h, List.foldl_append]; rfl

set_option maxHeartbeats 2000000 in
theorem implMaxHopsLeft_c (cs : List Value) (x : DNetwork) (w : World) (h : sNetwork.rd w cs x) :
    Calls Tryz.prog 22 #[.agg cs.toArray] w fun e w' => e = .returned (.int .i64 (maxHops x.inFlight)) ∧ Ext w w' := by
  obtain ⟨c1, c2, c3, c4, c5, c6, c7, c9, c10, c11, rfl, r0, r1, r2, r3, r4, r5, r6, r7, r8, r9⟩ := sNetwork_rd h
  obtain ⟨A, c, rfl, hl, hm⟩ := Shape.sl_form r6
  unfold maxLen at hm
  have H := Lib.hid r6
  clear h r0 r1 r2 r3 r4 r5 r6 r7 r8 r9
  go_enter Tryz.func22, Tryz.ntmps22
  go_wp2
  go_loopw [3, 9] (fun n i wr => ∃ k : Nat, k ≤ x.inFlight.length ∧ i = .int .i64 k ∧ n = .int .i64 (maxHops (x.inFlight.take k)) ∧ Ext (w.alloc (.cells #[.int .i64 x.topology.size, c1, c2, c3, c4, c5, c6, c7, .int .i64 x.downNodes, c9, .slice A x.inFlight.length c, c11, .int .i64 x.now, .int .i64 x.dropped] 54)) wr) (fun _ i _ => x.inFlight.length - (intOf i).toNat)
  case atStart => exact ⟨0, Nat.zero_le _, rfl, rfl, Ext.refl _⟩
  case round =>
    obtain ⟨k, hk, rfl, rfl, hx⟩ := hrel
    have hX : Ext w wr := Ext.trans ((Ext.refl w).alloc _) hx
    have fb : wr.cell? ⟨w.heap.size, 10, none⟩ = some (.slice A x.inFlight.length c) := hx.cell (by simp)
    have hsz : w.heap.size < wr.heap.size := by have := hx.size; simp at this; omega
    by_cases hlt : k < x.inFlight.length
    · obtain ⟨b, off, es, rfl, hc, hr⟩ := Shape.sl_at (sPacketInFlightL.ext hX H.out) hlt
      obtain ⟨d3, d7, d8, d9, rfl, n0, n1, n3, n4⟩ := sPacketInFlight_rd hr
      have f0 := hc 0 _ rfl
      have f1 := hc 1 _ rfl
      have f2 := hc 2 _ rfl
      have f3 := hc 3 _ rfl
      have f4 := hc 4 _ rfl
      have f5 := hc 5 _ rfl
      have f6 := hc 6 _ rfl
      have f7 := hc 7 _ rfl
      have f8 := hc 8 _ rfl
      have f9 := hc 9 _ rfl
      have f10 := hc 10 _ rfl
      have f11 := hc 11 _ rfl
      simp only [Nat.add_zero, show sPacketInFlight.k = 12 from rfl] at f0 f1 f2 f3 f4 f5 f6 f7 f8 f9 f10 f11
      obtain ⟨q3, he3, s0, s1, s2, s3⟩ := sInterest_rd n3
      simp only [List.cons.injEq, and_true, true_and] at he3
      subst he3
      obtain ⟨q7, q8, q9, he7, t0, t1, t2, t3, t4⟩ := sData_rd n4
      simp only [List.cons.injEq, and_true, true_and] at he7
      obtain ⟨rfl, rfl, rfl⟩ := he7
      obtain ⟨A3, e3, rfl, hl3, hm3⟩ := Shape.sl_form s0
      obtain ⟨A7, e7, rfl, hl7, hm7⟩ := Shape.sl_form t0
      obtain ⟨A8, e8, rfl, hl8, hm8⟩ := Shape.sl_form t1
      obtain ⟨A9, e9, rfl, hl9, hm9⟩ := Shape.sl_form t2
      clear n0 n1 n3 n4 s0 s1 s2 s3 t0 t1 t2 t3 t4
      have HS := Lib.hid (maxHops_snoc x.inFlight k hlt)
      clear hc hr
      cases hb : x.inFlight[k].isInterest with
      | true =>
        rw [hb] at f2
        go_wp2
        go_roundw
        case rel => exact ⟨k + 1, by omega, by go_num, by have := HS.out; rw [hb, if_pos rfl] at this; first | (rw [this]; done) | (rw [this]; rfl), hx.alloc _⟩
        case measure => simp [intOf]; omega
      | false =>
        rw [hb] at f2
        go_wp2
        go_roundw
        case rel => exact ⟨k + 1, by omega, by go_num, by have := HS.out; rw [hb, if_neg (by simp)] at this; rw [this], hx.alloc _⟩
        case measure => simp [intOf]; omega
    · have : k = x.inFlight.length := by omega
      subst this
      go_wp2
      go_ret
      exact ⟨ret_int (by rw [List.take_length]), hX⟩

set_option maxHeartbeats 2000000 in
theorem specMaxHopsLeft_c (cs : List Value) (x : DNetwork) (w : World) (h : sNetwork.rd w cs x) :
    Calls Tryz.prog 21 #[.agg cs.toArray] w fun e w' => e = .returned (.int .i64 (maxHops x.inFlight)) ∧ Ext w w' := by
  obtain ⟨c1, c2, c3, c4, c5, c6, c7, c9, c10, c11, rfl, r0, r1, r2, r3, r4, r5, r6, r7, r8, r9⟩ := sNetwork_rd h
  obtain ⟨A, c, rfl, hl, hm⟩ := Shape.sl_form r6
  unfold maxLen at hm
  have H := Lib.hid r6
  clear h r0 r1 r2 r3 r4 r5 r6 r7 r8 r9
  go_enter Tryz.func21, Tryz.ntmps21
  go_wp2
  go_loopw [3, 4] (fun n i wr => ∃ k : Nat, k ≤ x.inFlight.length ∧ i = .int .i64 k ∧ n = .int .i64 (maxHops (x.inFlight.take k)) ∧ Ext (w.alloc (.cells #[.int .i64 x.topology.size, c1, c2, c3, c4, c5, c6, c7, .int .i64 x.downNodes, c9, .slice A x.inFlight.length c, c11, .int .i64 x.now, .int .i64 x.dropped] 54)) wr) (fun _ i _ => x.inFlight.length - (intOf i).toNat)
  case atStart => exact ⟨0, Nat.zero_le _, rfl, rfl, Ext.refl _⟩
  case round =>
    obtain ⟨k, hk, rfl, rfl, hx⟩ := hrel
    have hX : Ext w wr := Ext.trans ((Ext.refl w).alloc _) hx
    have fb : wr.cell? ⟨w.heap.size, 10, none⟩ = some (.slice A x.inFlight.length c) := hx.cell (by simp)
    have hsz : w.heap.size < wr.heap.size := by have := hx.size; simp at this; omega
    by_cases hlt : k < x.inFlight.length
    · obtain ⟨b, off, es, rfl, hc, hr⟩ := Shape.sl_at (sPacketInFlightL.ext hX H.out) hlt
      obtain ⟨d3, d7, d8, d9, rfl, n0, n1, n3, n4⟩ := sPacketInFlight_rd hr
      have f0 := hc 0 _ rfl
      have f1 := hc 1 _ rfl
      have f2 := hc 2 _ rfl
      have f3 := hc 3 _ rfl
      have f4 := hc 4 _ rfl
      have f5 := hc 5 _ rfl
      have f6 := hc 6 _ rfl
      have f7 := hc 7 _ rfl
      have f8 := hc 8 _ rfl
      have f9 := hc 9 _ rfl
      have f10 := hc 10 _ rfl
      have f11 := hc 11 _ rfl
      simp only [Nat.add_zero, show sPacketInFlight.k = 12 from rfl] at f0 f1 f2 f3 f4 f5 f6 f7 f8 f9 f10 f11
      obtain ⟨q3, he3, s0, s1, s2, s3⟩ := sInterest_rd n3
      simp only [List.cons.injEq, and_true, true_and] at he3
      subst he3
      obtain ⟨q7, q8, q9, he7, t0, t1, t2, t3, t4⟩ := sData_rd n4
      simp only [List.cons.injEq, and_true, true_and] at he7
      obtain ⟨rfl, rfl, rfl⟩ := he7
      obtain ⟨A3, e3, rfl, hl3, hm3⟩ := Shape.sl_form s0
      obtain ⟨A7, e7, rfl, hl7, hm7⟩ := Shape.sl_form t0
      obtain ⟨A8, e8, rfl, hl8, hm8⟩ := Shape.sl_form t1
      obtain ⟨A9, e9, rfl, hl9, hm9⟩ := Shape.sl_form t2
      clear n0 n1 n3 n4 s0 s1 s2 s3 t0 t1 t2 t3 t4
      have HS := Lib.hid (maxHops_snoc x.inFlight k hlt)
      clear hc hr
      cases hb : x.inFlight[k].isInterest with
      | true =>
        rw [hb] at f2
        go_wp2_with fail
        refine (specMax_c _ _ _).mono ?_
        rintro e w1 ⟨rfl, hx1⟩
        go_wp2
        go_roundw
        case rel => exact ⟨k + 1, by omega, by go_num, by have := HS.out; rw [hb, if_pos rfl] at this; first | (rw [this]; done) | (rw [this]; rfl), hx.trans hx1⟩
        case measure => simp [intOf]; omega
      | false =>
        rw [hb] at f2
        go_wp2
        go_roundw
        case rel => exact ⟨k + 1, by omega, by go_num, by have := HS.out; rw [hb, if_neg (by simp)] at this; rw [this], hx⟩
        case measure => simp [intOf]; omega
    · have : k = x.inFlight.length := by omega
      subst this
      go_wp2
      go_ret
      exact ⟨ret_int (by rw [List.take_length]), hX⟩

end Go.Proofs.YtogjaminmgiofaaGreat
