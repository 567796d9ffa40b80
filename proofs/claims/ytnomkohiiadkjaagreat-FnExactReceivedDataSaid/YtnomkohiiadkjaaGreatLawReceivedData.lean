import Derived.Test.YtnomkohiiadkjaaGreatRun
import Derived.Test.YtnomkohiiadkjaaGreatPo
namespace Go.Proofs.YtnomkohiiadkjaaGreat
open Go.RowKit
theorem gave_at {u : Value} {w w' : World} {e : Ending} (h : Gave [.v (.at u)] w e w') : e = .returned u ∧ Ext w w' := by
 obtain ⟨vs, ω, rfl, hx, ho⟩ := h
 match vs, ho with
 | [v], ⟨⟨n, hv⟩, _⟩ =>
  have : v = u := by
   cases n <;> (unfold OwN at hv; exact hv)
  subst this
  exact ⟨rfl, hx⟩
 | _ :: _ :: _, ⟨_, h2⟩ => exact h2.elim
end Go.Proofs.YtnomkohiiadkjaaGreat
namespace Go.Proofs.YtnomkohiiadkjaaGreat
open Go.RowKit
set_option linter.unusedVariables false
set_option linter.unusedSimpArgs false
set_option maxRecDepth 100000
theorem lawFnExactReceivedData (cs0 : List Value) (x0 : DNetwork) (w : World) (h0 : sNetwork.rd w cs0 x0) :
  Calls Tryz.prog 3 #[.agg cs0.toArray] w fun e w' => e = .returned (.bool true) ∧ Ext w w' := by
 have hh := hLFnExactReceivedData 0 x0
 rw [p_lawFnExactReceivedData x0 (okSNetwork w cs0 x0 h0)] at hh
 exact (((FT_ok w (XT_ok w) _ _ _ _ hh).1 (by decide)).2 w [.agg cs0.toArray] (Ext.refl w) ⟨argRd_agg (encNetwork w cs0 x0 h0), trivial⟩).mono fun e w' he => gave_at he
end Go.Proofs.YtnomkohiiadkjaaGreat
