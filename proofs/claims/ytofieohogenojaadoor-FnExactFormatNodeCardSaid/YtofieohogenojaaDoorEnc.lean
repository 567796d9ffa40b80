/- Data of the shapes as the interpreter's data. Printed by genenc.py. -/
import Derived.Test.YtofieohogenojaaDoorEngUse
import Derived.Test.YtofieohogenojaaDoorTypes
namespace Go.Proofs.YtofieohogenojaaDoor
open Go.RowKit
set_option linter.unusedVariables false
theorem encStrs : Enc strs (fun l => [.sl 9 1 (l.map eS)]) := Enc.sl 9 Enc.str (by decide)
def eData (x : DData) : List DT := [DT.sl 9 1 (x.name.map eS), DT.sl 5 1 (x.content.map eY), DT.sl 9 1 (x.keyName.map eS), .at (.int .i64 x.freshUntil), .at (.int .i64 x.signature)]
theorem encData : Enc sData eData := fun w cs x h => (Enc.pair (Enc.sl 9 Enc.str (by decide)) (Enc.pair (Enc.sl 5 Enc.byte (by decide)) (Enc.pair (Enc.sl 9 Enc.str (by decide)) (Enc.pair Enc.int Enc.int)))) w cs _ h
def eTableEntry (x : DTableEntry) : List DT := [DT.sl 9 1 (x.name.map eS), .at (.int .i64 x.value)]
theorem encTableEntry : Enc sTableEntry eTableEntry := fun w cs x h => (Enc.pair (Enc.sl 9 Enc.str (by decide)) Enc.int) w cs _ h
def eInterest (x : DInterest) : List DT := [DT.sl 9 1 (x.name.map eS), .at (.int .i64 x.nonce), .at (.int .i64 x.hopLimit), .at (.int .i64 x.lifetime)]
theorem encInterest : Enc sInterest eInterest := fun w cs x h => (Enc.pair (Enc.sl 9 Enc.str (by decide)) (Enc.pair Enc.int (Enc.pair Enc.int Enc.int))) w cs _ h
def ePacketInFlight (x : DPacketInFlight) : List DT := [.at (.int .i64 x.dest), .at (.int .i64 x.face), .at (.bool x.isInterest), DT.sl 9 1 (x.interest.name.map eS), .at (.int .i64 x.interest.nonce), .at (.int .i64 x.interest.hopLimit), .at (.int .i64 x.interest.lifetime), DT.sl 9 1 (x.data.name.map eS), DT.sl 5 1 (x.data.content.map eY), DT.sl 9 1 (x.data.keyName.map eS), .at (.int .i64 x.data.freshUntil), .at (.int .i64 x.data.signature)]
theorem encPacketInFlight : Enc sPacketInFlight ePacketInFlight := fun w cs x h => (Enc.pair Enc.int (Enc.pair Enc.int (Enc.pair Enc.bool (Enc.pair encInterest encData)))) w cs _ h
def eCacheEntry (x : DCacheEntry) : List DT := [DT.sl 9 1 (x.data.name.map eS), DT.sl 5 1 (x.data.content.map eY), DT.sl 9 1 (x.data.keyName.map eS), .at (.int .i64 x.data.freshUntil), .at (.int .i64 x.data.signature), .at (.int .i64 x.lastUsed)]
theorem encCacheEntry : Enc sCacheEntry eCacheEntry := fun w cs x h => (Enc.pair encData Enc.int) w cs _ h
def eContentStore (x : DContentStore) : List DT := [.at (.int .i64 x.capacity), DT.sl 226 6 (x.entries.map eCacheEntry)]
theorem encContentStore : Enc sContentStore eContentStore := fun w cs x h => (Enc.pair Enc.int (Enc.sl 226 encCacheEntry (by decide))) w cs _ h
def eRequester (x : DRequester) : List DT := [.at (.int .i64 x.face), .at (.int .i64 x.nonce), .at (.int .i64 x.expiry)]
theorem encRequester : Enc sRequester eRequester := fun w cs x h => (Enc.pair Enc.int (Enc.pair Enc.int Enc.int)) w cs _ h
def ePendingInterest (x : DPendingInterest) : List DT := [DT.sl 9 1 (x.name.map eS), DT.sl 236 3 (x.requesters.map eRequester), .at (.int .i64 x.lastSent)]
theorem encPendingInterest : Enc sPendingInterest ePendingInterest := fun w cs x h => (Enc.pair (Enc.sl 9 Enc.str (by decide)) (Enc.pair (Enc.sl 236 encRequester (by decide)) Enc.int)) w cs _ h
def eSeenNonce (x : DSeenNonce) : List DT := [DT.sl 9 1 (x.name.map eS), .at (.int .i64 x.nonce)]
theorem encSeenNonce : Enc sSeenNonce eSeenNonce := fun w cs x h => (Enc.pair (Enc.sl 9 Enc.str (by decide)) Enc.int) w cs _ h
def eRoute (x : DRoute) : List DT := [DT.sl 9 1 (x.pfx.map eS), .at (.int .i64 x.face), .at (.int .i64 x.cost)]
theorem encRoute : Enc sRoute eRoute := fun w cs x h => (Enc.pair (Enc.sl 9 Enc.str (by decide)) (Enc.pair Enc.int Enc.int)) w cs _ h
def eMeasurement (x : DMeasurement) : List DT := [DT.sl 9 1 (x.pfx.map eS), .at (.int .i64 x.face), .at (.int .i64 x.failures)]
theorem encMeasurement : Enc sMeasurement eMeasurement := fun w cs x h => (Enc.pair (Enc.sl 9 Enc.str (by decide)) (Enc.pair Enc.int Enc.int)) w cs _ h
def eNode (x : DNode) : List DT := [DT.sl 32 5 (x.locals.map eData), .at (.int .i64 x.cache.capacity), DT.sl 226 6 (x.cache.entries.map eCacheEntry), DT.sl 191 3 (x.pending.map ePendingInterest), DT.sl 194 2 (x.seen.map eSeenNonce), DT.sl 197 3 (x.routes.map eRoute), DT.sl 200 3 (x.measurements.map eMeasurement), .at (.int .i64 x.dropped)]
theorem encNode : Enc sNode eNode := fun w cs x h => (Enc.pair (Enc.sl 32 encData (by decide)) (Enc.pair encContentStore (Enc.pair (Enc.sl 191 encPendingInterest (by decide)) (Enc.pair (Enc.sl 194 encSeenNonce (by decide)) (Enc.pair (Enc.sl 197 encRoute (by decide)) (Enc.pair (Enc.sl 200 encMeasurement (by decide)) Enc.int)))))) w cs _ h
def eLink (x : DLink) : List DT := [.at (.int .i64 x.a), .at (.int .i64 x.b)]
theorem encLink : Enc sLink eLink := fun w cs x h => (Enc.pair Enc.int Enc.int) w cs _ h
def eTopology (x : DTopology) : List DT := [.at (.int .i64 x.size), DT.sl 163 2 (x.links.map eLink)]
theorem encTopology : Enc sTopology eTopology := fun w cs x h => (Enc.pair Enc.int (Enc.sl 163 encLink (by decide))) w cs _ h
def ePublication (x : DPublication) : List DT := [DT.sl 9 1 (x.publisher.map eS), .at (.int .i64 x.seq), DT.sl 5 1 (x.content.map eY)]
theorem encPublication : Enc sPublication ePublication := fun w cs x h => (Enc.pair (Enc.sl 9 Enc.str (by decide)) (Enc.pair Enc.int (Enc.sl 5 Enc.byte (by decide)))) w cs _ h
def eMember (x : DMember) : List DT := [DT.sl 9 1 (x.name.map eS), DT.sl 112 2 (x.vector.map eTableEntry), DT.sl 220 3 (x.publications.map ePublication)]
theorem encMember : Enc sMember eMember := fun w cs x h => (Enc.pair (Enc.sl 9 Enc.str (by decide)) (Enc.pair (Enc.sl 112 encTableEntry (by decide)) (Enc.sl 220 encPublication (by decide)))) w cs _ h
def eSyncGroup (x : DSyncGroup) : List DT := [.at (.int .i64 x.topology.size), DT.sl 163 2 (x.topology.links.map eLink), DT.sl 124 3 (x.members.map eMember)]
theorem encSyncGroup : Enc sSyncGroup eSyncGroup := fun w cs x h => (Enc.pair encTopology (Enc.sl 124 encMember (by decide))) w cs _ h
end Go.Proofs.YtofieohogenojaaDoor
