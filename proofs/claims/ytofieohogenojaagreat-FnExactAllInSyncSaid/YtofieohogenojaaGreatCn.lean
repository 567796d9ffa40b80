/- Contracts out of the table: AllInSync. -/
import Derived.Test.YtofieohogenojaaGreatRun
import Derived.Test.YtofieohogenojaaGreatPf
import Derived.Test.YtofieohogenojaaGreatEnc
namespace Go.Proofs.YtofieohogenojaaGreat
open Go.RowKit
set_option linter.unusedVariables false
set_option linter.unusedSimpArgs false
theorem gave_at {u : Value} {w w' : World} {e : Ending} (h : Gave [.v (.at u)] w e w') : e = .returned u ∧ Ext w w' := by
  obtain ⟨vs, ω, rfl, hx, ho⟩ := h
  match vs, ho with
  | [v], ⟨⟨n, hv⟩, _⟩ =>
    have : v = u := by
      cases n <;> (unfold OwN at hv; exact hv)
    subst this
    exact ⟨rfl, hx⟩
  | _ :: _ :: _, ⟨_, h2⟩ => exact h2.elim
theorem szL_mem {α : Type} (f : α → Nat) {l : List α} {x : α} (h : x ∈ l) : f x ≤ szL f l := by
  obtain ⟨i, hi, rfl⟩ := List.getElem_of_mem h
  exact Nat.le_of_lt (szL_at f l i hi)
theorem mem_ok {m : DMember} (h : szMember m ≤ 1048576) : MemOk m := by
  unfold szMember at h
  refine ⟨⟨?_, fun x hx => ?_⟩, ?_, fun x hx => ?_⟩
  · have := szL_len szTableEntry m.vector; omega
  · have h1 : szL ByteArray.size x.name ≤ szL szTableEntry m.vector := szL_mem szTableEntry hx
    have h2 := szL_len ByteArray.size x.name
    omega
  · have := szL_len szPublication m.publications; omega
  · have h1 : szL ByteArray.size x.publisher + szL (fun _ => 0) x.content ≤ szL szPublication m.publications := szL_mem szPublication hx
    have h2 := szL_len ByteArray.size x.publisher
    have h3 := szL_len (fun _ => 0) x.content
    omega
noncomputable def allS (x0 : DSyncGroup) (x1 : List Int) (x2 : Int) : Bool := (s_spec_AllInSync x0 x1 x2).getD false
theorem all_small (x0 : DSyncGroup) (x1 : List Int) (x2 : Int) (hs0 : szSyncGroup x0 ≤ 1048576) (hs1 : x1.length ≤ 1048576) : s_spec_AllInSync x0 x1 x2 = some (allS x0 x1 x2) ∧ s_impl_AllInSync x0 x1 x2 = some (allS x0 x1 x2) := by
  unfold szSyncGroup at hs0
  have h1 : x0.topology.links.length ≤ 1048576 := by
    have := szL_len (fun _ => 0) x0.topology.links
    have h2 : szTopology x0.topology = szL (fun _ => 0) x0.topology.links := rfl
    omega
  obtain ⟨b, hb1, hb2⟩ := all_both x0 x1 x2 (by omega) (by omega) (by have := szL_len szMember x0.members; omega) (fun m hm => mem_ok (by have := szL_mem szMember hm; omega))
  unfold allS
  rw [hb1, hb2]
  exact ⟨rfl, rfl⟩
theorem specAllInSync_c (cs0 : List Value) (x0 : DSyncGroup) (v1 : Value) (x1 : List Int) (x2 : Int) (w : World) (h0 : sSyncGroup.rd w cs0 x0) (h1 : sInts.rd w [v1] x1) (h2 : I64 x2) (hs0 : szSyncGroup x0 ≤ 1048576) (hs1 : x1.length ≤ 1048576) :
    Calls Tryz.prog 7 #[.agg cs0.toArray, v1, .int .i64 x2] w fun e w' => e = .returned (.bool (allS x0 x1 x2)) ∧ Ext w w' := by
  have hh := h_s_spec_AllInSync 0 x0 x1 x2
  rw [(all_small x0 x1 x2 hs0 hs1).1] at hh
  exact ((FT_ok _ _ _ _ hh).2 w [.agg cs0.toArray, v1, .int .i64 x2] ⟨argRd_agg (encSyncGroup w cs0 x0 h0), argRd_one ((Enc.sl 3 Enc.int (by decide)) w [v1] x1 h1), argRd_at, trivial⟩).mono fun e w' he => gave_at he
theorem implAllInSync_c (cs0 : List Value) (x0 : DSyncGroup) (v1 : Value) (x1 : List Int) (x2 : Int) (w : World) (h0 : sSyncGroup.rd w cs0 x0) (h1 : sInts.rd w [v1] x1) (h2 : I64 x2) (hs0 : szSyncGroup x0 ≤ 1048576) (hs1 : x1.length ≤ 1048576) :
    Calls Tryz.prog 10 #[.agg cs0.toArray, v1, .int .i64 x2] w fun e w' => e = .returned (.bool (allS x0 x1 x2)) ∧ Ext w w' := by
  have hh := h_s_impl_AllInSync 0 x0 x1 x2
  rw [(all_small x0 x1 x2 hs0 hs1).2] at hh
  exact ((FT_ok _ _ _ _ hh).2 w [.agg cs0.toArray, v1, .int .i64 x2] ⟨argRd_agg (encSyncGroup w cs0 x0 h0), argRd_one ((Enc.sl 3 Enc.int (by decide)) w [v1] x1 h1), argRd_at, trivial⟩).mono fun e w' he => gave_at he
end Go.Proofs.YtofieohogenojaaGreat
