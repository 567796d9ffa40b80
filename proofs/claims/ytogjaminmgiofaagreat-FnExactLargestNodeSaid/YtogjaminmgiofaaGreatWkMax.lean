/- What the reference's Max computes. Printed by wk_net2.py. -/
import Derived.Test.YtogjaminmgiofaaGreatReads
import Derived.Deep.RegionHeld3
import Derived.Deep.DrawnRows
import Derived.Deep.Cut
namespace Go.Proofs.YtogjaminmgiofaaGreat
open Go.RowKit
set_option linter.unusedVariables false

def mx (a b : Int) : Int := if a < b then b else a
theorem specMax_c (a b : Int) (w : World) :
    Calls Tryz.prog 65 #[.int .i64 a, .int .i64 b] w fun e w' => e = .returned (.int .i64 (mx a b)) ∧ Ext w w' := by
  by_cases h : a < b
  · go_enter Tryz.func65, Tryz.ntmps65
    go_wp2
    go_ret
    exact ⟨ret_int (by unfold mx; split <;> omega), Ext.refl _⟩
  · go_enter Tryz.func65, Tryz.ntmps65
    go_wp2
    go_ret
    exact ⟨ret_int (by unfold mx; split <;> omega), Ext.refl _⟩

end Go.Proofs.YtogjaminmgiofaaGreat
