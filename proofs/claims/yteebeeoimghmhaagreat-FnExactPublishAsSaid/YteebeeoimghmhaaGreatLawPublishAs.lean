/- Joined: Lw, LawPublishAs. -/
import Derived.Test.YteebeeoimghmhaaGreatRun
import Derived.Test.YteebeeoimghmhaaGreatPo
namespace Go.Proofs.YteebeeoimghmhaaGreat
open Go.RowKit
theorem gave_at {u : Value} {w w' : World} {e : Ending} (h : Gave [.v (.at u)] w e w') : e = .returned u ∧ Ext w w' := by
  obtain ⟨vs, ω, rfl, hx, ho⟩ := h
  match vs, ho with
  | [v], ⟨⟨n, hv⟩, _⟩ =>
    have : v = u := by
      cases n <;> (unfold OwN at hv; exact hv)
    subst this
    exact ⟨rfl, hx⟩
  | _ :: _ :: _, ⟨_, h2⟩ => exact h2.elim
end Go.Proofs.YteebeeoimghmhaaGreat

namespace Go.Proofs.YteebeeoimghmhaaGreat
open Go.RowKit
set_option linter.unusedVariables false
set_option linter.unusedSimpArgs false
set_option maxRecDepth 100000


theorem lawFnExactPublishAs (cs0 : List Value) (x0 : DSyncGroup) (x1 : Int) (v2 : Value) (x2 : (List UInt8)) (w : World) (h0 : sSyncGroup.rd w cs0 x0) (h1 : I64 x1) (h2 : sBytes.rd w [v2] x2) :
    Calls Tryz.prog 4 #[.agg cs0.toArray, .int .i64 x1, v2] w fun e w' => e = .returned (.bool true) ∧ Ext w w' := by
  have hh := h_s_laws_FnExactPublishAs 0 x0 x1 x2
  rw [p_lawFnExactPublishAs x0 x1 x2 (okSSyncGroup w cs0 x0 h0) h1 ((OkS.sl _ OkS.byte) w [v2] x2 h2)] at hh
  exact (((FT_ok w (XT_ok w) _ _ _ _ hh).1 (by decide)).2 w [.agg cs0.toArray, .int .i64 x1, v2] (Ext.refl w) ⟨argRd_agg (encSyncGroup w cs0 x0 h0), argRd_at, argRd_one ((Enc.sl 5 Enc.byte (by decide)) w [v2] x2 h2), trivial⟩).mono fun e w' he => gave_at he
end Go.Proofs.YteebeeoimghmhaaGreat
