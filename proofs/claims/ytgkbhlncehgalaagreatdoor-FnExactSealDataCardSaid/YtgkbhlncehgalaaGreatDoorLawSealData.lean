/- Joined: Lw, LawSealData. -/
import Derived.Test.YtgkbhlncehgalaaGreatDoorRun
import Derived.Test.YtgkbhlncehgalaaGreatDoorPr
namespace Go.Proofs.YtgkbhlncehgalaaGreatDoor
open Go.RowKit
theorem gave_at {u : Value} {w w' : World} {e : Ending} (h : Gave [.v (.at u)] w e w') : e = .returned u ∧ Ext w w' := by
  obtain ⟨vs, ω, rfl, hx, ho⟩ := h
  match vs, ho with
  | [v], ⟨⟨n, hv⟩, _⟩ =>
    have : v = u := by
      cases n <;> (unfold OwN at hv; exact hv)
    subst this
    exact ⟨rfl, hx⟩
  | _ :: _ :: _, ⟨_, h2⟩ => exact h2.elim
end Go.Proofs.YtgkbhlncehgalaaGreatDoor

namespace Go.Proofs.YtgkbhlncehgalaaGreatDoor
open Go.RowKit
set_option linter.unusedVariables false
set_option linter.unusedSimpArgs false
set_option maxRecDepth 100000


theorem lawFnExactSealData (cs0 : List Value) (x0 : DAccessController) (cs1 : List Value) (x1 : (List ByteArray)) (cs2 : List Value) (x2 : (List ByteArray)) (v3 : Value) (x3 : (List UInt8)) (x4 : Int) (w : World) (h0 : sAccessController.rd w cs0 x0) (h1 : strs.rd w cs1 x1) (h2 : strs.rd w cs2 x2) (h3 : sBytes.rd w [v3] x3) (h4 : I64 x4) (htab : TabW w) :
    Calls Tryz.prog 3 #[.agg cs0.toArray, .agg cs1.toArray, .agg cs2.toArray, v3, .int .i64 x4] w fun e w' => e = .returned (.bool true) ∧ Ext w w' := by
  have hh := h_s_laws_FnExactSealData 0 x0 x1 x2 x3 x4
  rw [p_lawFnExactSealData x0 x1 x2 x3 x4 (okSAccessController w cs0 x0 h0) ((OkS.sl _ OkS.str) w cs1 x1 h1) ((OkS.sl _ OkS.str) w cs2 x2 h2) ((OkS.sl _ OkS.byte) w [v3] x3 h3) h4] at hh
  exact (((FT_ok w (XT_ok w htab) _ _ _ _ hh).1 (by decide)).2 w [.agg cs0.toArray, .agg cs1.toArray, .agg cs2.toArray, v3, .int .i64 x4] (Ext.refl w) ⟨argRd_agg (encAccessController w cs0 x0 h0), argRd_agg ((Enc.sl 9 Enc.str (by decide)) w cs1 x1 h1), argRd_agg ((Enc.sl 9 Enc.str (by decide)) w cs2 x2 h2), argRd_one ((Enc.sl 5 Enc.byte (by decide)) w [v3] x3 h3), argRd_at, trivial⟩).mono fun e w' he => gave_at he
end Go.Proofs.YtgkbhlncehgalaaGreatDoor
