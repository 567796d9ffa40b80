/- Joined: Lw, LawRevokeReader. -/
import Derived.Test.YteebeeoimghmhaaRun
import Derived.Test.YteebeeoimghmhaaPo
namespace Go.Proofs.Yteebeeoimghmhaa
open Go.RowKit
theorem gave_at {u : Value} {w w' : World} {e : Ending} (h : Gave [.v (.at u)] w e w') : e = .returned u ∧ Ext w w' := by
  obtain ⟨vs, ω, rfl, hx, ho⟩ := h
  match vs, ho with
  | [v], ⟨⟨n, hv⟩, _⟩ =>
    have : v = u := by
      cases n <;> (unfold OwN at hv; exact hv)
    subst this
    exact ⟨rfl, hx⟩
  | _ :: _ :: _, ⟨_, h2⟩ => exact h2.elim
end Go.Proofs.Yteebeeoimghmhaa

namespace Go.Proofs.Yteebeeoimghmhaa
open Go.RowKit
set_option linter.unusedVariables false
set_option linter.unusedSimpArgs false
set_option maxRecDepth 100000


theorem lawFnExactRevokeReader (cs0 : List Value) (x0 : DAccessController) (x1 : Int) (cs2 : List Value) (x2 : (List ByteArray)) (w : World) (h0 : sAccessController.rd w cs0 x0) (h1 : I64 x1) (h2 : strs.rd w cs2 x2) :
    Calls Try.prog 3 #[.agg cs0.toArray, .int .i64 x1, .agg cs2.toArray] w fun e w' => e = .returned (.bool true) ∧ Ext w w' := by
  have hh := h_s_laws_FnExactRevokeReader 0 x0 x1 x2
  rw [p_lawFnExactRevokeReader x0 x1 x2 (okSAccessController w cs0 x0 h0) h1 ((OkS.sl _ OkS.str) w cs2 x2 h2)] at hh
  exact (((FT_ok w (XT_ok w) _ _ _ _ hh).1 (by decide)).2 w [.agg cs0.toArray, .int .i64 x1, .agg cs2.toArray] (Ext.refl w) ⟨argRd_agg (encAccessController w cs0 x0 h0), argRd_at, argRd_agg ((Enc.sl 9 Enc.str (by decide)) w cs2 x2 h2), trivial⟩).mono fun e w' he => gave_at he
end Go.Proofs.Yteebeeoimghmhaa
