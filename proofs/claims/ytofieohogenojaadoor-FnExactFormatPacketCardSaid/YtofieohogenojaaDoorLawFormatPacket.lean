/- laws.FnExactFormatPacket returns true: out of its plain function. Printed by genlw.py. -/
import Derived.Test.YtofieohogenojaaDoorLw
import Derived.Test.YtofieohogenojaaDoorFp
import Derived.Test.YtofieohogenojaaDoorPh
namespace Go.Proofs.YtofieohogenojaaDoor
open Go.RowKit
set_option linter.unusedVariables false
set_option linter.unusedSimpArgs false
set_option maxRecDepth 100000

theorem p_lawFnExactFormatPacket (x0 : DPacketInFlight) (k0 : okPacketInFlight x0) : s_laws_FnExactFormatPacket x0 = some true := by
  unfold s_laws_FnExactFormatPacket
  rw [p_szPacketInFlight x0 1048576 k0 (by decide) (by decide), Option.bind_some, pl_lss]
  by_cases hs : (((szPacketInFlight x0) : Nat) : Int) ≤ 1048576
  · rw [not_lt_remain hs, cond_false]
    have hs' : (szPacketInFlight x0) ≤ 1048576 := by omega

    simp only [p_toPacketInFlight x0 hs', p_spec_FormatPacket x0 (by omega) k0.1 k0.2.1 k0.2.2.2.1.2.1, p_impl_FormatPacket x0 (by omega) k0.1 k0.2.1 k0.2.2.2.1.2.1, p_eqPacketInFlight x0 hs', Option.bind_some, eq_self_s, cond_false, pl_bnot, Bool.not_true]
  · rw [lt_remain hs]; rfl
theorem lawFnExactFormatPacket (cs0 : List Value) (x0 : DPacketInFlight) (w : World) (h0 : sPacketInFlight.rd w cs0 x0) (htab : TabW w) :
    Calls Tryd.prog 5 #[.agg cs0.toArray] w fun e w' => e = .returned (.bool true) ∧ Ext w w' := by
  have hh := h_s_laws_FnExactFormatPacket 0 x0
  rw [p_lawFnExactFormatPacket x0 (okSPacketInFlight w cs0 x0 h0)] at hh
  exact (((FT_ok w (XT_ok w htab) _ _ _ _ hh).1 (by decide)).2 w [.agg cs0.toArray] (Ext.refl w) ⟨argRd_agg (encPacketInFlight w cs0 x0 h0), trivial⟩).mono fun e w' he => gave_at he
end Go.Proofs.YtofieohogenojaaDoor
