/- What a mark of a network uses up. Printed by genr4b.py. -/
import Derived.Test.YtofieohogenojaaFamMark
namespace Go.Proofs.Ytofieohogenojaa
open Go.RowKit
set_option linter.unusedVariables false
set_option linter.unusedSimpArgs false
theorem cnt_le {α : Type} {c f : α → Nat} (h : ∀ x, c x ≤ 16 * (f x + 1)) : ∀ l : List α, cntL c l ≤ 16 * szL f l
  | [] => by simp [cntL, szL]
  | x :: l => by
    have := cnt_le h l
    have := h x
    simp only [cntL, szL]
    omega

theorem Link_le (x : DLink) : cLink x ≤ 16 * ((fun _ => 0) x + 1) := by
  unfold cLink
  omega
theorem TableEntry_le (x : DTableEntry) : cTableEntry x ≤ 16 * (szTableEntry x + 1) := by
  have := szL_len ByteArray.size x.name
  unfold cTableEntry szTableEntry 
  omega
theorem Publication_le (x : DPublication) : cPublication x ≤ 16 * (szPublication x + 1) := by
  have := szL_len ByteArray.size x.publisher
  have := szL_len (fun _ => 0) x.content
  unfold cPublication szPublication 
  omega
theorem Member_le (x : DMember) : cMember x ≤ 16 * (szMember x + 1) := by
  have := szL_len ByteArray.size x.name
  have := cnt_le (c := cTableEntry) (f := szTableEntry) TableEntry_le x.vector
  have := cnt_le (c := cPublication) (f := szPublication) Publication_le x.publications
  unfold cMember szMember 
  omega
theorem mSyncGroup_le (x : DSyncGroup) : (cntL cLink x.topology.links + cntL cMember x.members : Nat) ≤ 16 * szSyncGroup x := by
  have := cnt_le (c := cLink) (f := (fun _ => 0)) Link_le x.topology.links
  have := cnt_le (c := cMember) (f := szMember) Member_le x.members
  unfold szSyncGroup szTopology
  omega
end Go.Proofs.Ytofieohogenojaa
