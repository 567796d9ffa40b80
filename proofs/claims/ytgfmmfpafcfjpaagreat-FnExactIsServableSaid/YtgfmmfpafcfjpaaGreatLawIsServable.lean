import Derived.Test.YtgfmmfpafcfjpaaGreatRun
import Derived.Test.YtgfmmfpafcfjpaaGreatFp
import Derived.Test.YtgfmmfpafcfjpaaGreatPj
namespace Go.Proofs.YtgfmmfpafcfjpaaGreat
open Go.RowKit
theorem gave_at {u : Value} {w w' : World} {e : Ending} (h : Gave [.v (.at u)] w e w') : e = .returned u ∧ Ext w w' := by
 obtain ⟨vs, ω, rfl, hx, ho⟩ := h
 match vs, ho with
 | [v], ⟨⟨n, hv⟩, _⟩ =>
  have : v = u := by
   cases n <;> (unfold OwN at hv; exact hv)
  subst this
  exact ⟨rfl, hx⟩
 | _ :: _ :: _, ⟨_, h2⟩ => exact h2.elim
end Go.Proofs.YtgfmmfpafcfjpaaGreat
namespace Go.Proofs.YtgfmmfpafcfjpaaGreat
open Go.RowKit
set_option linter.unusedVariables false
set_option linter.unusedSimpArgs false
set_option maxRecDepth 100000
theorem p_lawFnExactIsServable (x0 : DNetwork) (x1 : DConsumer) (x2 : Int) (k0 : okNetwork x0) (k1 : okConsumer x1) (k2 : I64 x2) : sLFnExactIsServable x0 x1 x2 = some true := by
 unfold sLFnExactIsServable
 rw [p_szNetwork x0 1048576 k0 (by decide) (by decide), Option.bind_some, pl_lss]
 by_cases hs : (((szNetwork x0) : Nat) : Int) ≤ 1048576
 ·rw [not_lt_remain hs, cond_false, remain, if_pos hs]
  have hs' : (szNetwork x0) ≤ 1048576 := by omega
  rw [p_szConsumer x1 _ k1 (by omega) (by omega), Option.bind_some, pl_lss]
  by_cases hc : (((szConsumer x1) : Nat) : Int) ≤ 1048576 - ((szNetwork x0 : Nat) : Int)
  ·rw [not_lt_remain hc, cond_false]
   have hc' : (szConsumer x1) ≤ 1048576 := by omega
   have ok := netS_sz x0 hs'
   have hn : x1.name.length ≤ 2 ^ 30 := by
    have e : szConsumer x1 = szL ByteArray.size x1.name + szData x1.data := rfl
    have := szL_len ByteArray.size x1.name
    omega
   simp only [p_toNetwork x0 hs', p_toConsumer x1 hc', p_spec_IsServable x0 x1 x2 ok hn, p_impl_IsServable x0 x1 x2 ok hn, p_eqNetwork x0 (by omega), p_eqConsumer x1 (by omega), Option.bind_some, eq_self_b2, cond_false, pl_bnot, Bool.not_true]
  ·rw [lt_remain hc]; rfl
 ·rw [lt_remain hs]; rfl
theorem lawFnExactIsServable (cs0 : List Value) (x0 : DNetwork) (cs1 : List Value) (x1 : DConsumer) (x2 : Int) (w : World) (h0 : sNetwork.rd w cs0 x0) (h1 : sConsumer.rd w cs1 x1) (h2 : I64 x2) :
  Calls Tryz.prog 4 #[.agg cs0.toArray, .agg cs1.toArray, .int .i64 x2] w fun e w' => e = .returned (.bool true) ∧ Ext w w' := by
 have hh : FT 17 4 [.a (eNetwork x0), .a (eConsumer x1), .v (.at (.int .i64 x2))] = (sLFnExactIsServable x0 x1 x2).bind fun r => some [.v (.at (.bool r))] := (h_G29 17 (Nat.le_refl _)).a4 x0 x1 x2
 rw [p_lawFnExactIsServable x0 x1 x2 (okSNetwork w cs0 x0 h0) (okSConsumer w cs1 x1 h1) h2] at hh
 exact (((FT_ok w (XT_ok w) _ _ _ _ hh).1 (by decide)).2 w [.agg cs0.toArray, .agg cs1.toArray, .int .i64 x2] (Ext.refl w) ⟨argRd_agg (encNetwork w cs0 x0 h0), argRd_agg (encConsumer w cs1 x1 h1), argRd_at, trivial⟩).mono fun e w' he => gave_at he
end Go.Proofs.YtgfmmfpafcfjpaaGreat
