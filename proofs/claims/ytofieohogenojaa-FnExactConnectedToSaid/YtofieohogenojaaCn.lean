/- Contracts out of the table: ConnectedTo. -/
import Derived.Test.YtofieohogenojaaIn
import Derived.Test.YtofieohogenojaaPd
import Derived.Test.YtofieohogenojaaEnc
namespace Go.Proofs.Ytofieohogenojaa
open Go.RowKit
set_option linter.unusedVariables false
set_option linter.unusedSimpArgs false
noncomputable def connS (x0 : DSyncGroup) (x1 : List Int) (x2 : Int) : List Int := (s_spec_ConnectedTo x0 x1 x2).getD []
theorem conn_small (x0 : DSyncGroup) (x1 : List Int) (x2 : Int) (hs0 : szSyncGroup x0 ≤ 1048576) (hs1 : x1.length ≤ 1048576) : s_spec_ConnectedTo x0 x1 x2 = some (connS x0 x1 x2) ∧ s_impl_ConnectedTo x0 x1 x2 = some (connS x0 x1 x2) ∧ Rising (connS x0 x1 x2) := by
  unfold szSyncGroup at hs0
  have h1 : x0.topology.links.length ≤ 1048576 := by
    have := szL_len (fun _ => 0) x0.topology.links
    have h2 : szTopology x0.topology = szL (fun _ => 0) x0.topology.links := rfl
    omega
  obtain ⟨b, hb1, hb2, hb3⟩ := connected_both x0 x1 x2 (by omega) (by omega)
  unfold connS
  rw [hb1, hb2]
  exact ⟨rfl, rfl, hb3⟩
theorem conn_i64 (x0 : DSyncGroup) (x1 : List Int) (x2 : Int) (hs0 : szSyncGroup x0 ≤ 1048576) (hs1 : x1.length ≤ 1048576) : ∀ y ∈ connS x0 x1 x2, I64 y := fun y hy => by
  have := (conn_small x0 x1 x2 hs0 hs1).2.2.2.2 y hy
  unfold I64
  omega
theorem conn_len (x0 : DSyncGroup) (x1 : List Int) (x2 : Int) (hs0 : szSyncGroup x0 ≤ 1048576) (hs1 : x1.length ≤ 1048576) : (connS x0 x1 x2).length ≤ 6 := (conn_small x0 x1 x2 hs0 hs1).2.2.1
theorem specConnectedTo_c (cs0 : List Value) (x0 : DSyncGroup) (v1 : Value) (x1 : List Int) (x2 : Int) (w : World) (h0 : sSyncGroup.rd w cs0 x0) (h1 : sInts.rd w [v1] x1) (h2 : I64 x2) (hs0 : szSyncGroup x0 ≤ 1048576) (hs1 : x1.length ≤ 1048576) :
    Calls Try.prog 17 #[.agg cs0.toArray, v1, .int .i64 x2] w (Gives sInts w (connS x0 x1 x2)) := by
  have hh := h_s_spec_ConnectedTo 0 x0 x1 x2
  rw [(conn_small x0 x1 x2 hs0 hs1).1] at hh
  exact ((FT_ok _ _ _ _ hh).2 w [.agg cs0.toArray, v1, .int .i64 x2] ⟨argRd_agg (encSyncGroup w cs0 x0 h0), argRd_one ((Enc.sl 3 Enc.int (by decide)) w [v1] x1 h1), argRd_at, trivial⟩).mono fun e w' he => gave_ints (conn_i64 x0 x1 x2 hs0 hs1) he
theorem implConnectedTo_c (cs0 : List Value) (x0 : DSyncGroup) (v1 : Value) (x1 : List Int) (x2 : Int) (w : World) (h0 : sSyncGroup.rd w cs0 x0) (h1 : sInts.rd w [v1] x1) (h2 : I64 x2) (hs0 : szSyncGroup x0 ≤ 1048576) (hs1 : x1.length ≤ 1048576) :
    Calls Try.prog 20 #[.agg cs0.toArray, v1, .int .i64 x2] w (Gives sInts w (connS x0 x1 x2)) := by
  have hh := h_s_impl_ConnectedTo 0 x0 x1 x2
  rw [(conn_small x0 x1 x2 hs0 hs1).2.1] at hh
  exact ((FT_ok _ _ _ _ hh).2 w [.agg cs0.toArray, v1, .int .i64 x2] ⟨argRd_agg (encSyncGroup w cs0 x0 h0), argRd_one ((Enc.sl 3 Enc.int (by decide)) w [v1] x1 h1), argRd_at, trivial⟩).mono fun e w' he => gave_ints (conn_i64 x0 x1 x2 hs0 hs1) he
end Go.Proofs.Ytofieohogenojaa
