/- laws.FnExactFormatCounters returns true: out of its plain function. Printed by genlw.py. -/
import Derived.Test.YtfianjolmcoadaaGreatDoorLw
import Derived.Test.YtfianjolmcoadaaGreatDoorFp
import Derived.Test.YtfianjolmcoadaaGreatDoorPk
namespace Go.Proofs.YtfianjolmcoadaaGreatDoor
open Go.RowKit
set_option linter.unusedVariables false
set_option linter.unusedSimpArgs false
set_option maxRecDepth 100000

theorem szNetwork_parts (x : DNetwork) (h : szNetwork x ≤ 1048576) : szL szPacketInFlight x.inFlight ≤ 1048576 ∧ szL szConsumer x.consumers ≤ 1048576 ∧ x.inFlight.length ≤ 1048576 ∧ x.consumers.length ≤ 1048576 := by
  have e : szNetwork x = szTopology x.topology + szTrustPolicy x.trust + (szL szTableEntry) x.producers + (szL szNode) x.nodes + (szL (fun _ => 0)) x.failedLinks + (szL szPacketInFlight) x.inFlight + (szL szConsumer) x.consumers := rfl
  have h1 := szL_len szPacketInFlight x.inFlight
  have h2 := szL_len szConsumer x.consumers
  omega
theorem p_lawFnExactFormatCounters (x0 : DNetwork) (k0 : okNetwork x0) : s_laws_FnExactFormatCounters x0 = some true := by
  unfold s_laws_FnExactFormatCounters
  rw [p_szNetwork x0 1048576 k0 (by decide) (by decide), Option.bind_some, pl_lss]
  by_cases hs : (((szNetwork x0) : Nat) : Int) ≤ 1048576
  · rw [not_lt_remain hs, cond_false]
    have hs' : (szNetwork x0) ≤ 1048576 := by omega
    have hL := szNetwork_parts x0 hs'

    simp only [p_toNetwork x0 hs', p_spec_FormatCounters x0 hL.2.2.1 hL.2.2.2 k0.2.2.2.2.2.2.2.2.1 k0.2.2.2.2.2.2.2.2.2, p_impl_FormatCounters x0 hL.2.2.1 hL.2.2.2 k0.2.2.2.2.2.2.2.2.1 k0.2.2.2.2.2.2.2.2.2, p_eqNetwork x0 (by omega), Option.bind_some, eq_self_s, cond_false, pl_bnot, Bool.not_true]
  · rw [lt_remain hs]; rfl
theorem lawFnExactFormatCounters (cs0 : List Value) (x0 : DNetwork) (w : World) (h0 : sNetwork.rd w cs0 x0) (htab : TabW w) :
    Calls Tryz.prog 4 #[.agg cs0.toArray] w fun e w' => e = .returned (.bool true) ∧ Ext w w' := by
  have hh := h_s_laws_FnExactFormatCounters 0 x0
  rw [p_lawFnExactFormatCounters x0 (okSNetwork w cs0 x0 h0)] at hh
  exact (((FT_ok w (XT_ok w htab) _ _ _ _ hh).1 (by decide)).2 w [.agg cs0.toArray] (Ext.refl w) ⟨argRd_agg (encNetwork w cs0 x0 h0), trivial⟩).mono fun e w' he => gave_at he
end Go.Proofs.YtfianjolmcoadaaGreatDoor
