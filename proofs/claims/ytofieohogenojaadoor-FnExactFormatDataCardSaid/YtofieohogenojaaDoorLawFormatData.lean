/- laws.FnExactFormatData returns true: out of its plain function. Printed by genlw.py. -/
import Derived.Test.YtofieohogenojaaDoorLw
import Derived.Test.YtofieohogenojaaDoorFp
import Derived.Test.YtofieohogenojaaDoorPh
namespace Go.Proofs.YtofieohogenojaaDoor
open Go.RowKit
set_option linter.unusedVariables false
set_option linter.unusedSimpArgs false
set_option maxRecDepth 100000

theorem p_lawFnExactFormatData (x0 : DData) (k0 : okData x0) : s_laws_FnExactFormatData x0 = some true := by
  unfold s_laws_FnExactFormatData
  rw [p_szData x0 1048576 k0 (by decide) (by decide), Option.bind_some, pl_lss]
  by_cases hs : (((szData x0) : Nat) : Int) ≤ 1048576
  · rw [not_lt_remain hs, cond_false]
    have hs' : (szData x0) ≤ 1048576 := by omega

    simp only [p_toData x0 hs', p_spec_FormatData x0 (by omega), p_impl_FormatData x0 (by omega), p_eqData x0 hs', Option.bind_some, eq_self_s, cond_false, pl_bnot, Bool.not_true]
  · rw [lt_remain hs]; rfl
theorem lawFnExactFormatData (cs0 : List Value) (x0 : DData) (w : World) (h0 : sData.rd w cs0 x0) (htab : TabW w) :
    Calls Tryd.prog 3 #[.agg cs0.toArray] w fun e w' => e = .returned (.bool true) ∧ Ext w w' := by
  have hh := h_s_laws_FnExactFormatData 0 x0
  rw [p_lawFnExactFormatData x0 (okSData w cs0 x0 h0)] at hh
  exact (((FT_ok w (XT_ok w htab) _ _ _ _ hh).1 (by decide)).2 w [.agg cs0.toArray] (Ext.refl w) ⟨argRd_agg (encData w cs0 x0 h0), trivial⟩).mono fun e w' he => gave_at he
end Go.Proofs.YtofieohogenojaaDoor
