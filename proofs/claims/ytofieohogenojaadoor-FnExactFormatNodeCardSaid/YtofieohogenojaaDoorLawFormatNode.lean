/- laws.FnExactFormatNode returns true: out of its plain function. Printed by genlw.py. -/
import Derived.Test.YtofieohogenojaaDoorLw
import Derived.Test.YtofieohogenojaaDoorFp
import Derived.Test.YtofieohogenojaaDoorPh
namespace Go.Proofs.YtofieohogenojaaDoor
open Go.RowKit
set_option linter.unusedVariables false
set_option linter.unusedSimpArgs false
set_option maxRecDepth 100000

theorem node_len {a b c d : Nat} {e : Int} (h : a ≤ 1048576 ∧ b ≤ 1048576 ∧ c ≤ 1048576 ∧ d ≤ 1048576) (he : I64 e) : ∀ x ∈ [(a : Int), (b : Int), (c : Int), (d : Int), e], I64 x := by
  intro x hx
  simp only [List.mem_cons, List.not_mem_nil, or_false] at hx
  rcases hx with rfl | rfl | rfl | rfl | rfl
  · exact i64_small (by omega)
  · exact i64_small (by omega)
  · exact i64_small (by omega)
  · exact i64_small (by omega)
  · exact he
theorem szNode_parts (x : DNode) (h : szNode x ≤ 1048576) : x.locals.length ≤ 1048576 ∧ x.cache.entries.length ≤ 1048576 ∧ x.pending.length ≤ 1048576 ∧ x.routes.length ≤ 1048576 := by
  have e : szNode x = szL szData x.locals + szContentStore x.cache + szL szPendingInterest x.pending + szL szSeenNonce x.seen + szL szRoute x.routes + szL szMeasurement x.measurements := rfl
  have e2 : szContentStore x.cache = szL szCacheEntry x.cache.entries := rfl
  have h1 := szL_len szData x.locals
  have h2 := szL_len szCacheEntry x.cache.entries
  have h3 := szL_len szPendingInterest x.pending
  have h4 := szL_len szRoute x.routes
  omega
theorem p_spec_FormatNode (x : DNode) (h : szNode x ≤ 1048576) (he : I64 x.dropped) : s_spec_FormatNode x = some (bs (Go.Lib.join (wordsI [(x.locals.length : Int), (x.cache.entries.length : Int), (x.pending.length : Int), (x.routes.length : Int), x.dropped]) [32])) := by
  unfold s_spec_FormatNode
  simp only [pl_int, pl_len, p_spec_l39Ints _ (node_len (szNode_parts x h) he) (by simp), Option.bind_some]
theorem p_impl_FormatNode (x : DNode) (h : szNode x ≤ 1048576) (he : I64 x.dropped) : s_impl_FormatNode x = some (bs (Go.Lib.join (wordsI [(x.locals.length : Int), (x.cache.entries.length : Int), (x.pending.length : Int), (x.routes.length : Int), x.dropped]) [32])) := by
  unfold s_impl_FormatNode
  simp only [pl_int, pl_len, p_impl_spaced _ (node_len (szNode_parts x h) he) (by simp), Option.bind_some]
theorem p_lawFnExactFormatNode (x0 : DNode) (k0 : okNode x0) : s_laws_FnExactFormatNode x0 = some true := by
  unfold s_laws_FnExactFormatNode
  rw [p_szNode x0 1048576 k0 (by decide) (by decide), Option.bind_some, pl_lss]
  by_cases hs : (((szNode x0) : Nat) : Int) ≤ 1048576
  · rw [not_lt_remain hs, cond_false]
    have hs' : (szNode x0) ≤ 1048576 := by omega

    simp only [p_toNode x0 hs', p_spec_FormatNode x0 hs' k0.2.2.2.2.2.2, p_impl_FormatNode x0 hs' k0.2.2.2.2.2.2, p_eqNode x0 hs', Option.bind_some, eq_self_s, cond_false, pl_bnot, Bool.not_true]
  · rw [lt_remain hs]; rfl
theorem lawFnExactFormatNode (cs0 : List Value) (x0 : DNode) (w : World) (h0 : sNode.rd w cs0 x0) (htab : TabW w) :
    Calls Tryd.prog 7 #[.agg cs0.toArray] w fun e w' => e = .returned (.bool true) ∧ Ext w w' := by
  have hh := h_s_laws_FnExactFormatNode 0 x0
  rw [p_lawFnExactFormatNode x0 (okSNode w cs0 x0 h0)] at hh
  exact (((FT_ok w (XT_ok w htab) _ _ _ _ hh).1 (by decide)).2 w [.agg cs0.toArray] (Ext.refl w) ⟨argRd_agg (encNode w cs0 x0 h0), trivial⟩).mono fun e w' he => gave_at he
end Go.Proofs.YtofieohogenojaaDoor
