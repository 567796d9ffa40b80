/- What a mark of a network uses up. Printed by genr4b.py. -/
import Derived.Test.YtjdhggkbdognnaaGreatFamMark
namespace Go.Proofs.YtjdhggkbdognnaaGreat
open Go.RowKit
set_option linter.unusedVariables false
set_option linter.unusedSimpArgs false
theorem cnt_le {α : Type} {c f : α → Nat} (h : ∀ x, c x ≤ 16 * (f x + 1)) : ∀ l : List α, cntL c l ≤ 16 * szL f l
  | [] => by simp [cntL, szL]
  | x :: l => by
    have := cnt_le h l
    have := h x
    simp only [cntL, szL]
    omega

theorem Link_le (x : DLink) : cLink x ≤ 16 * ((fun _ => 0) x + 1) := by
  unfold cLink
  omega
theorem Name_le (x : (List ByteArray)) : cName x ≤ 16 * ((szL ByteArray.size) x + 1) := by
  have := szL_len ByteArray.size x
  unfold cName
  omega
theorem Key_le (x : DKey) : cKey x ≤ 16 * (szKey x + 1) := by
  have := szL_len ByteArray.size x.name
  unfold cKey szKey 
  omega
theorem Rule_le (x : DRule) : cRule x ≤ 16 * (szRule x + 1) := by
  have := szL_len ByteArray.size x.dataPattern
  have := szL_len ByteArray.size x.keyPattern
  unfold cRule szRule 
  omega
theorem Data_le (x : DData) : cData x ≤ 16 * (szData x + 1) := by
  have := szL_len ByteArray.size x.name
  have := szL_len (fun _ => 0) x.content
  have := szL_len ByteArray.size x.keyName
  unfold cData szData 
  omega
theorem TableEntry_le (x : DTableEntry) : cTableEntry x ≤ 16 * (szTableEntry x + 1) := by
  have := szL_len ByteArray.size x.name
  unfold cTableEntry szTableEntry 
  omega
theorem CacheEntry_le (x : DCacheEntry) : cCacheEntry x ≤ 16 * (szCacheEntry x + 1) := by
  have := szL_len ByteArray.size x.data.name
  have := szL_len (fun _ => 0) x.data.content
  have := szL_len ByteArray.size x.data.keyName
  unfold cCacheEntry szCacheEntry szData
  omega
theorem Requester_le (x : DRequester) : cRequester x ≤ 16 * ((fun _ => 0) x + 1) := by
  unfold cRequester
  omega
theorem PendingInterest_le (x : DPendingInterest) : cPendingInterest x ≤ 16 * (szPendingInterest x + 1) := by
  have := szL_len ByteArray.size x.name
  have := cnt_le (c := cRequester) (f := (fun _ => 0)) Requester_le x.requesters
  unfold cPendingInterest szPendingInterest 
  omega
theorem SeenNonce_le (x : DSeenNonce) : cSeenNonce x ≤ 16 * (szSeenNonce x + 1) := by
  have := szL_len ByteArray.size x.name
  unfold cSeenNonce szSeenNonce 
  omega
theorem Route_le (x : DRoute) : cRoute x ≤ 16 * (szRoute x + 1) := by
  have := szL_len ByteArray.size x.pfx
  unfold cRoute szRoute 
  omega
theorem Measurement_le (x : DMeasurement) : cMeasurement x ≤ 16 * (szMeasurement x + 1) := by
  have := szL_len ByteArray.size x.pfx
  unfold cMeasurement szMeasurement 
  omega
theorem Node_le (x : DNode) : cNode x ≤ 16 * (szNode x + 1) := by
  have := cnt_le (c := cData) (f := szData) Data_le x.locals
  have := cnt_le (c := cCacheEntry) (f := szCacheEntry) CacheEntry_le x.cache.entries
  have := cnt_le (c := cPendingInterest) (f := szPendingInterest) PendingInterest_le x.pending
  have := cnt_le (c := cSeenNonce) (f := szSeenNonce) SeenNonce_le x.seen
  have := cnt_le (c := cRoute) (f := szRoute) Route_le x.routes
  have := cnt_le (c := cMeasurement) (f := szMeasurement) Measurement_le x.measurements
  unfold cNode szNode szContentStore
  omega
theorem PacketInFlight_le (x : DPacketInFlight) : cPacketInFlight x ≤ 16 * (szPacketInFlight x + 1) := by
  have := szL_len ByteArray.size x.interest.name
  have := szL_len ByteArray.size x.data.name
  have := szL_len (fun _ => 0) x.data.content
  have := szL_len ByteArray.size x.data.keyName
  unfold cPacketInFlight szPacketInFlight szInterest szData
  omega
theorem Consumer_le (x : DConsumer) : cConsumer x ≤ 16 * (szConsumer x + 1) := by
  have := szL_len ByteArray.size x.name
  have := szL_len ByteArray.size x.data.name
  have := szL_len (fun _ => 0) x.data.content
  have := szL_len ByteArray.size x.data.keyName
  unfold cConsumer szConsumer szData
  omega
theorem mNetwork_le (x : DNetwork) : (cntL cLink x.topology.links + cntL cKey x.trust.keys + cntL cRule x.trust.rules + cntL cName x.trust.anchors + cntL cData x.trust.certificates + cntL cTableEntry x.producers + cntL cNode x.nodes + x.failedLinks.length + cntL cPacketInFlight x.inFlight + cntL cConsumer x.consumers : Nat) ≤ 16 * szNetwork x := by
  have := cnt_le (c := cLink) (f := (fun _ => 0)) Link_le x.topology.links
  have := cnt_le (c := cKey) (f := szKey) Key_le x.trust.keys
  have := cnt_le (c := cRule) (f := szRule) Rule_le x.trust.rules
  have := cnt_le (c := cName) (f := (szL ByteArray.size)) Name_le x.trust.anchors
  have := cnt_le (c := cData) (f := szData) Data_le x.trust.certificates
  have := cnt_le (c := cTableEntry) (f := szTableEntry) TableEntry_le x.producers
  have := cnt_le (c := cNode) (f := szNode) Node_le x.nodes
  have := szL_len (fun _ => 0) x.failedLinks
  have := cnt_le (c := cPacketInFlight) (f := szPacketInFlight) PacketInFlight_le x.inFlight
  have := cnt_le (c := cConsumer) (f := szConsumer) Consumer_le x.consumers
  unfold szNetwork szTopology szTrustPolicy
  omega
end Go.Proofs.YtjdhggkbdognnaaGreat
