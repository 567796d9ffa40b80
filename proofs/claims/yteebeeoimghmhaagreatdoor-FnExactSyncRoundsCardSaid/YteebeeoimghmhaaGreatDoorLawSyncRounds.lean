import Derived.Test.YteebeeoimghmhaaGreatDoorRun
import Derived.Test.YteebeeoimghmhaaGreatDoorPo
namespace Go.Proofs.YteebeeoimghmhaaGreatDoor
open Go.RowKit
theorem gave_at {u : Value} {w w' : World} {e : Ending} (h : Gave [.v (.at u)] w e w') : e = .returned u ∧ Ext w w' := by
 obtain ⟨vs, ω, rfl, hx, ho⟩ := h
 match vs, ho with
 | [v], ⟨⟨n, hv⟩, _⟩ =>
  have : v = u := by
   cases n <;> (unfold OwN at hv; exact hv)
  subst this
  exact ⟨rfl, hx⟩
 | _ :: _ :: _, ⟨_, h2⟩ => exact h2.elim
end Go.Proofs.YteebeeoimghmhaaGreatDoor
namespace Go.Proofs.YteebeeoimghmhaaGreatDoor
open Go.RowKit
set_option linter.unusedVariables false
set_option linter.unusedSimpArgs false
set_option maxRecDepth 100000
theorem lawFnExactSyncRounds (cs0 : List Value) (x0 : DSyncGroup) (v1 : Value) (x1 : (List Int)) (x2 : Int) (w : World) (h0 : sSyncGroup.rd w cs0 x0) (h1 : sInts.rd w [v1] x1) (h2 : I64 x2) (htab : TabW w) :
  Calls Tryz.prog 4 #[.agg cs0.toArray, v1, .int .i64 x2] w fun e w' => e = .returned (.bool true) ∧ Ext w w' := by
 have hh := hLFnExactSyncRounds 0 x0 x1 x2
 rw [p_lawFnExactSyncRounds x0 x1 x2 (okSSyncGroup w cs0 x0 h0) ((OkS.sl _ OkS.int) w [v1] x1 h1) h2] at hh
 exact (((FT_ok w (XT_ok w htab) _ _ _ _ hh).1 (by decide)).2 w [.agg cs0.toArray, v1, .int .i64 x2] (Ext.refl w) ⟨argRd_agg (encSyncGroup w cs0 x0 h0), argRd_one ((Enc.sl 3 Enc.int (by decide)) w [v1] x1 h1), argRd_at, trivial⟩).mono fun e w' he => gave_at he
end Go.Proofs.YteebeeoimghmhaaGreatDoor
