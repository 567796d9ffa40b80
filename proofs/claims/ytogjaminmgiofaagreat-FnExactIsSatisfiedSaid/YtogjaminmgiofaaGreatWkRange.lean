/- What InRange computes. Printed by wk_net2.py. -/
import Derived.Test.YtogjaminmgiofaaGreatReads
import Derived.Deep.RegionHeld3
import Derived.Deep.DrawnRows
import Derived.Deep.Cut
namespace Go.Proofs.YtogjaminmgiofaaGreat
open Go.RowKit
set_option linter.unusedVariables false

def inRange (n a b : Int) : Bool := decide (a ≤ n) && decide (n ≤ b)
set_option maxHeartbeats 400000 in
theorem implInRange_c (n a b : Int) (w : World) :
    Calls Tryz.prog 64 #[.int .i64 n, .int .i64 a, .int .i64 b] w fun e w' => e = .returned (.bool (inRange n a b)) ∧ Ext w w' := by
  by_cases h1 : a ≤ n
  · by_cases h2 : n ≤ b
    · go_enter Tryz.func64, Tryz.ntmps64
      go_wp2
      go_ret
      exact ⟨ret_bool (by simp [inRange, h1, h2]), Ext.refl _⟩
    · have h2' : decide (n ≤ b) = false := by simp; omega
      go_enter Tryz.func64, Tryz.ntmps64
      go_wp2
      go_ret
      exact ⟨ret_bool (by simp [inRange, h1, h2]), Ext.refl _⟩
  · have h1' : decide (a ≤ n) = false := by simp; omega
    go_enter Tryz.func64, Tryz.ntmps64
    go_wp2
    go_ret
    exact ⟨ret_bool (by rw [inRange, h1']; rfl), Ext.refl _⟩

set_option maxHeartbeats 400000 in
theorem specl1In_c (n a b : Int) (w : World) :
    Calls Tryz.prog 63 #[.int .i64 n, .int .i64 a, .int .i64 b] w fun e w' => e = .returned (.bool (inRange n a b)) ∧ Ext w w' := by
  by_cases h1 : a ≤ n
  · by_cases h2 : n ≤ b
    · go_enter Tryz.func63, Tryz.ntmps63
      go_wp2
      go_ret
      exact ⟨ret_bool (by simp [inRange, h1, h2]), Ext.refl _⟩
    · have h2' : decide (n ≤ b) = false := by simp; omega
      go_enter Tryz.func63, Tryz.ntmps63
      go_wp2
      go_ret
      exact ⟨ret_bool (by simp [inRange, h1, h2]), Ext.refl _⟩
  · have h1' : decide (a ≤ n) = false := by simp; omega
    go_enter Tryz.func63, Tryz.ntmps63
    go_wp2
    go_ret
    exact ⟨ret_bool (by rw [inRange, h1']; rfl), Ext.refl _⟩

end Go.Proofs.YtogjaminmgiofaaGreat
