/- laws.FnExactValidSyncGroup returns true: out of its plain function. Printed by genlw.py. -/
import Derived.Test.YtofieohogenojaaGreatDoorLw
import Derived.Test.YtofieohogenojaaGreatDoorFp
import Derived.Test.YtofieohogenojaaGreatDoorPm
namespace Go.Proofs.YtofieohogenojaaGreatDoor
open Go.RowKit
set_option linter.unusedVariables false
set_option linter.unusedSimpArgs false
set_option maxRecDepth 100000

theorem nameOk_of (l : List ByteArray) (h : szL ByteArray.size l ≤ 1048576) : NameOk l := ⟨by have := szL_len ByteArray.size l; omega, fun s hs => by have := szL_mem ByteArray.size hs; omega⟩
theorem tabOk_of (l : List DTableEntry) (h : szL szTableEntry l ≤ 1048576) : TabOk l := ⟨by have := szL_len szTableEntry l; omega, fun x hx => nameOk_of _ (by have := szL_mem szTableEntry hx; have e : szTableEntry x = szL ByteArray.size x.name := rfl; omega)⟩
theorem pubOk_of (l : List DPublication) (h : szL szPublication l ≤ 1048576) : PubOk l := ⟨by have := szL_len szPublication l; omega, fun x hx => by
  have h1 := szL_mem szPublication hx
  have e : szPublication x = szL ByteArray.size x.publisher + szL (fun _ => 0) x.content := rfl
  have h2 := szL_len ByteArray.size x.publisher
  have h3 := szL_len (fun _ => 0) x.content
  exact ⟨by omega, by omega⟩⟩
theorem grpOk_of (x : DSyncGroup) (h : szSyncGroup x ≤ 1048576) : GrpOk x := by
  have e : szSyncGroup x = szL (fun _ => 0) x.topology.links + szL szMember x.members := rfl
  have h1 := szL_len (fun _ => 0) x.topology.links
  have h2 := szL_len szMember x.members
  refine ⟨by omega, by omega, fun m hm => ?_⟩
  have h3 := szL_mem szMember hm
  have e2 : szMember m = szL ByteArray.size m.name + szL szTableEntry m.vector + szL szPublication m.publications := rfl
  exact ⟨nameOk_of _ (by omega), tabOk_of _ (by omega), pubOk_of _ (by omega)⟩
theorem p_lawFnExactValidSyncGroup (x0 : DSyncGroup) (k0 : okSyncGroup x0) : s_laws_FnExactValidSyncGroup x0 = some true := by
  unfold s_laws_FnExactValidSyncGroup
  rw [p_szSyncGroup x0 1048576 k0 (by decide) (by decide), Option.bind_some, pl_lss]
  by_cases hs : ((szSyncGroup x0 : Nat) : Int) ≤ 1048576
  · rw [not_lt_remain hs, cond_false]
    have hs' : szSyncGroup x0 ≤ 1048576 := by omega
    have hg := grpOk_of x0 hs'
    simp only [p_toSyncGroup x0 hs', p_spec_ValidSyncGroup x0 hg, p_impl_ValidSyncGroup x0 hg, p_eqSyncGroup x0 (by omega), Option.bind_some, pl_bnot, eq_self_b2, Bool.not_true, cond_false]
  · rw [lt_remain hs]; rfl

theorem lawFnExactValidSyncGroup (cs0 : List Value) (x0 : DSyncGroup) (w : World) (h0 : sSyncGroup.rd w cs0 x0) (htab : TabW w) :
    Calls Tryz.prog 3 #[.agg cs0.toArray] w fun e w' => e = .returned (.bool true) ∧ Ext w w' := by
  have hh := h_s_laws_FnExactValidSyncGroup 0 x0
  rw [p_lawFnExactValidSyncGroup x0 (okSSyncGroup w cs0 x0 h0)] at hh
  exact (((FT_ok w (XT_ok w htab) _ _ _ _ hh).1 (by decide)).2 w [.agg cs0.toArray] (Ext.refl w) ⟨argRd_agg (encSyncGroup w cs0 x0 h0), trivial⟩).mono fun e w' he => gave_at he
end Go.Proofs.YtofieohogenojaaGreatDoor
