import Derived.Test.YtgfmmfpafcfjpaaGreatRun
import Derived.Test.YtgfmmfpafcfjpaaGreatFp
import Derived.Test.YtgfmmfpafcfjpaaGreatPj
namespace Go.Proofs.YtgfmmfpafcfjpaaGreat
open Go.RowKit
theorem gave_at {u : Value} {w w' : World} {e : Ending} (h : Gave [.v (.at u)] w e w') : e = .returned u ∧ Ext w w' := by
 obtain ⟨vs, ω, rfl, hx, ho⟩ := h
 match vs, ho with
 | [v], ⟨⟨n, hv⟩, _⟩ =>
  have : v = u := by
   cases n <;> (unfold OwN at hv; exact hv)
  subst this
  exact ⟨rfl, hx⟩
 | _ :: _ :: _, ⟨_, h2⟩ => exact h2.elim
end Go.Proofs.YtgfmmfpafcfjpaaGreat
namespace Go.Proofs.YtgfmmfpafcfjpaaGreat
open Go.RowKit
set_option linter.unusedVariables false
set_option linter.unusedSimpArgs false
set_option maxRecDepth 100000
theorem p_lawFnExactAllServed (x0 : DNetwork) (k0 : okNetwork x0) : sLFnExactAllServed x0 = some true := by
 unfold sLFnExactAllServed
 rw [p_szNetwork x0 1048576 k0 (by decide) (by decide), Option.bind_some, pl_lss]
 by_cases hs : (((szNetwork x0) : Nat) : Int) ≤ 1048576
 ·rw [not_lt_remain hs, cond_false]
  have hs' : (szNetwork x0) ≤ 1048576 := by omega
  have ok := netS_sz x0 hs'
  have oc := cons_sz x0 hs'
  simp only [p_toNetwork x0 hs', p_spec_AllServed x0 ok oc, p_impl_AllServed x0 ok oc, p_eqNetwork x0 (by omega), Option.bind_some, eq_self_b2, cond_false, pl_bnot, Bool.not_true]
 ·rw [lt_remain hs]; rfl
theorem lawFnExactAllServed (cs0 : List Value) (x0 : DNetwork) (w : World) (h0 : sNetwork.rd w cs0 x0) :
  Calls Tryz.prog 5 #[.agg cs0.toArray] w fun e w' => e = .returned (.bool true) ∧ Ext w w' := by
 have hh : FT 18 5 [.a (eNetwork x0)] = (sLFnExactAllServed x0).bind fun r => some [.v (.at (.bool r))] := (h_G30 18 (Nat.le_refl _)).a5 x0
 rw [p_lawFnExactAllServed x0 (okSNetwork w cs0 x0 h0)] at hh
 exact (((FT_ok w (XT_ok w) _ _ _ _ hh).1 (by decide)).2 w [.agg cs0.toArray] (Ext.refl w) ⟨argRd_agg (encNetwork w cs0 x0 h0), trivial⟩).mono fun e w' he => gave_at he
end Go.Proofs.YtgfmmfpafcfjpaaGreat
