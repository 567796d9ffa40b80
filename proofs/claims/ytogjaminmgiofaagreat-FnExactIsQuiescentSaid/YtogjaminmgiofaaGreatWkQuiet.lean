/- What IsQuiescent computes. Printed by wk_net.py. -/
import Derived.Test.YtogjaminmgiofaaGreatReads
import Derived.Deep.RegionHeld3
import Derived.Deep.DrawnRows
import Derived.Deep.Cut
namespace Go.Proofs.YtogjaminmgiofaaGreat
open Go.RowKit
set_option linter.unusedVariables false

def isQuiescent (x : DNetwork) : Bool := ((x.inFlight.length : Int) == 0)
set_option maxHeartbeats 400000 in
theorem specIsQuiescent_c (cs : List Value) (x : DNetwork) (w : World) (h : sNetwork.rd w cs x) :
    Calls Tryz.prog 13 #[.agg cs.toArray] w fun e w' => e = .returned (.bool (isQuiescent x)) ∧ Ext w w' := by
  obtain ⟨c1, c2, c3, c4, c5, c6, c7, c9, c10, c11, rfl, r0, r1, r2, r3, r4, r5, r6, r7, r8, r9⟩ := sNetwork_rd h
  obtain ⟨A, c, rfl, hl, hm⟩ := Shape.sl_form r6
  unfold maxLen at hm
  go_enter Tryz.func13, Tryz.ntmps13
  go_wp2
  go_ret
  exact ⟨ret_bool rfl, (Ext.refl w).alloc _⟩

set_option maxHeartbeats 400000 in
theorem implIsQuiescent_c (cs : List Value) (x : DNetwork) (w : World) (h : sNetwork.rd w cs x) :
    Calls Tryz.prog 15 #[.agg cs.toArray] w fun e w' => e = .returned (.bool (isQuiescent x)) ∧ Ext w w' := by
  obtain ⟨c1, c2, c3, c4, c5, c6, c7, c9, c10, c11, rfl, r0, r1, r2, r3, r4, r5, r6, r7, r8, r9⟩ := sNetwork_rd h
  obtain ⟨A, c, rfl, hl, hm⟩ := Shape.sl_form r6
  unfold maxLen at hm
  go_enter Tryz.func15, Tryz.ntmps15
  go_wp2
  go_ret
  exact ⟨ret_bool rfl, (Ext.refl w).alloc _⟩

end Go.Proofs.YtogjaminmgiofaaGreat
