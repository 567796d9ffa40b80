/- What IsSatisfied computes. Printed by wk_net2.py. -/
import Derived.Test.YtogjaminmgiofaaGreatWkRange
import Derived.Deep.RegionHeld3
import Derived.Deep.DrawnRows
import Derived.Deep.Cut
namespace Go.Proofs.YtogjaminmgiofaaGreat
open Go.RowKit
set_option linter.unusedVariables false

def isSatisfied (l : List DConsumer) (i : Int) : Bool := inRange i 0 ((l.length : Int) - 1) && ((l[i.toNat]?).map (·.satisfied)).getD false

set_option maxHeartbeats 2000000 in
theorem specIsSatisfied_c (cs : List Value) (x : DNetwork) (i : Int) (w : World) (h : sNetwork.rd w cs x) (hi : I64 i) :
    Calls Tryz.prog 17 #[.agg cs.toArray, .int .i64 i] w fun e w' => e = .returned (.bool (isSatisfied x.consumers i)) ∧ Ext w w' := by
  obtain ⟨c1, c2, c3, c4, c5, c6, c7, c9, c10, c11, rfl, r0, r1, r2, r3, r4, r5, r6, r7, r8, r9⟩ := sNetwork_rd h
  obtain ⟨A, c, rfl, hl, hm⟩ := Shape.sl_form r7
  unfold maxLen at hm
  have H := Lib.hid r7
  clear h r0 r1 r2 r3 r4 r5 r6 r7 r8 r9
  by_cases hin : inRange i 0 ((x.consumers.length : Int) - 1) = true
  · have hin2 := hin
    simp [inRange] at hin2
    obtain ⟨k, rfl⟩ : ∃ k : Nat, i = k := ⟨i.toNat, by omega⟩
    have hlt : k < x.consumers.length := by omega
    clear hin2
    obtain ⟨b, off, es, rfl, hc, hr⟩ := Shape.sl_at H.out hlt
    have HV := Lib.hid (show isSatisfied x.consumers (k : Int) = x.consumers[k].satisfied by simp [isSatisfied, hin, hlt])
    obtain ⟨d2, d6, d7, d8, rfl, n0, n1, n2, n3, n4, n6⟩ := sConsumer_rd hr
    have f5 := hc 5 _ rfl
    simp only [show sConsumer.k = 11 from rfl] at f5
    have hb : b < w.heap.size := World.block_lt_of_cell? _ _ f5
    clear hc hr n0 n1 n2 n3 n4 n6
    go_enter Tryz.func17, Tryz.ntmps17
    go_wp2_with fail
    refine (specl1In_c _ _ _ _).mono ?_
    rintro e w1 ⟨rfl, hx1⟩
    rw [hin]
    have g5 := (Ext.trans ((Ext.refl w).alloc _) hx1).cell f5
    have g7 : w1.cell? ⟨w.heap.size, 11, none⟩ = some (.slice (some ⟨b, off, none⟩) x.consumers.length c) := hx1.cell (by simp)
    go_wp2
    go_ret
    exact ⟨ret_bool HV.out.symm, Ext.trans ((Ext.refl w).alloc _) hx1⟩
  · have hin' : inRange i 0 ((x.consumers.length : Int) - 1) = false := by simpa using hin
    clear hin
    have HV := Lib.hid (show isSatisfied x.consumers i = false by simp [isSatisfied, hin'])
    go_enter Tryz.func17, Tryz.ntmps17
    go_wp2_with fail
    refine (specl1In_c _ _ _ _).mono ?_
    rintro e w1 ⟨rfl, hx1⟩
    rw [hin']
    go_wp2
    go_ret
    exact ⟨ret_bool HV.out.symm, Ext.trans ((Ext.refl w).alloc _) hx1⟩

set_option maxHeartbeats 2000000 in
theorem implIsSatisfied_c (cs : List Value) (x : DNetwork) (i : Int) (w : World) (h : sNetwork.rd w cs x) (hi : I64 i) :
    Calls Tryz.prog 18 #[.agg cs.toArray, .int .i64 i] w fun e w' => e = .returned (.bool (isSatisfied x.consumers i)) ∧ Ext w w' := by
  obtain ⟨c1, c2, c3, c4, c5, c6, c7, c9, c10, c11, rfl, r0, r1, r2, r3, r4, r5, r6, r7, r8, r9⟩ := sNetwork_rd h
  obtain ⟨A, c, rfl, hl, hm⟩ := Shape.sl_form r7
  unfold maxLen at hm
  have H := Lib.hid r7
  clear h r0 r1 r2 r3 r4 r5 r6 r7 r8 r9
  by_cases hin : inRange i 0 ((x.consumers.length : Int) - 1) = true
  · have hin2 := hin
    simp [inRange] at hin2
    obtain ⟨k, rfl⟩ : ∃ k : Nat, i = k := ⟨i.toNat, by omega⟩
    have hlt : k < x.consumers.length := by omega
    clear hin2
    obtain ⟨b, off, es, rfl, hc, hr⟩ := Shape.sl_at H.out hlt
    have HV := Lib.hid (show isSatisfied x.consumers (k : Int) = x.consumers[k].satisfied by simp [isSatisfied, hin, hlt])
    obtain ⟨d2, d6, d7, d8, rfl, n0, n1, n2, n3, n4, n6⟩ := sConsumer_rd hr
    have f5 := hc 5 _ rfl
    simp only [show sConsumer.k = 11 from rfl] at f5
    have hb : b < w.heap.size := World.block_lt_of_cell? _ _ f5
    clear hc hr n0 n1 n2 n3 n4 n6
    go_enter Tryz.func18, Tryz.ntmps18
    go_wp2_with fail
    refine (implInRange_c _ _ _ _).mono ?_
    rintro e w1 ⟨rfl, hx1⟩
    rw [hin]
    have g5 := (Ext.trans ((Ext.refl w).alloc _) hx1).cell f5
    have g7 : w1.cell? ⟨w.heap.size, 11, none⟩ = some (.slice (some ⟨b, off, none⟩) x.consumers.length c) := hx1.cell (by simp)
    go_wp2
    go_ret
    exact ⟨ret_bool HV.out.symm, Ext.trans ((Ext.refl w).alloc _) hx1⟩
  · have hin' : inRange i 0 ((x.consumers.length : Int) - 1) = false := by simpa using hin
    clear hin
    have HV := Lib.hid (show isSatisfied x.consumers i = false by simp [isSatisfied, hin'])
    go_enter Tryz.func18, Tryz.ntmps18
    go_wp2_with fail
    refine (implInRange_c _ _ _ _).mono ?_
    rintro e w1 ⟨rfl, hx1⟩
    rw [hin']
    go_wp2
    go_ret
    exact ⟨ret_bool HV.out.symm, Ext.trans ((Ext.refl w).alloc _) hx1⟩

end Go.Proofs.YtogjaminmgiofaaGreat
