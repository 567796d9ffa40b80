/- Joined: Lw, LawReadBy. -/
import Derived.Test.YtlbmlgnckclenaaGreatDoorRun
import Derived.Test.YtlbmlgnckclenaaGreatDoorPo
namespace Go.Proofs.YtlbmlgnckclenaaGreatDoor
open Go.RowKit
theorem gave_at {u : Value} {w w' : World} {e : Ending} (h : Gave [.v (.at u)] w e w') : e = .returned u ∧ Ext w w' := by
  obtain ⟨vs, ω, rfl, hx, ho⟩ := h
  match vs, ho with
  | [v], ⟨⟨n, hv⟩, _⟩ =>
    have : v = u := by
      cases n <;> (unfold OwN at hv; exact hv)
    subst this
    exact ⟨rfl, hx⟩
  | _ :: _ :: _, ⟨_, h2⟩ => exact h2.elim
end Go.Proofs.YtlbmlgnckclenaaGreatDoor

namespace Go.Proofs.YtlbmlgnckclenaaGreatDoor
open Go.RowKit
set_option linter.unusedVariables false
set_option linter.unusedSimpArgs false
set_option maxRecDepth 100000


theorem lawFnExactReadBy (cs0 : List Value) (x0 : DAccessController) (x1 : Int) (x2 : Int) (cs3 : List Value) (x3 : DData) (w : World) (h0 : sAccessController.rd w cs0 x0) (h1 : I64 x1) (h2 : I64 x2) (h3 : sData.rd w cs3 x3) (htab : TabW w) :
    Calls Tryz.prog 3 #[.agg cs0.toArray, .int .i64 x1, .int .i64 x2, .agg cs3.toArray] w fun e w' => e = .returned (.bool true) ∧ Ext w w' := by
  have hh := h_s_laws_FnExactReadBy 0 x0 x1 x2 x3
  rw [p_lawFnExactReadBy x0 x1 x2 x3 (okSAccessController w cs0 x0 h0) h1 h2 (okSData w cs3 x3 h3)] at hh
  exact (((FT_ok w (XT_ok w htab) _ _ _ _ hh).1 (by decide)).2 w [.agg cs0.toArray, .int .i64 x1, .int .i64 x2, .agg cs3.toArray] (Ext.refl w) ⟨argRd_agg (encAccessController w cs0 x0 h0), argRd_at, argRd_at, argRd_agg (encData w cs3 x3 h3), trivial⟩).mono fun e w' he => gave_at he
end Go.Proofs.YtlbmlgnckclenaaGreatDoor
