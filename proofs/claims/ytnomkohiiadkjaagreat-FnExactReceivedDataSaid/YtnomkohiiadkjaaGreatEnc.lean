import Derived.Test.YtnomkohiiadkjaaGreatEngUse
import Derived.Test.YtnomkohiiadkjaaGreatTypes
namespace Go.Proofs.YtnomkohiiadkjaaGreat
open Go.RowKit
set_option linter.unusedVariables false
def eLink (x : DLink) : List DT := [.at (.int .i64 x.a), .at (.int .i64 x.b)]
theorem encLink : Enc sLink eLink := fun w cs x h => (Enc.pair Enc.int Enc.int) w cs _ h
def eTopology (x : DTopology) : List DT := [.at (.int .i64 x.size), DT.sl 191 2 (x.links.map eLink)]
theorem encTopology : Enc sTopology eTopology := fun w cs x h => (Enc.pair Enc.int (Enc.sl 191 encLink (by decide))) w cs _ h
def eKey (x : DKey) : List DT := [DT.sl 9 1 (x.name.map eS), .at (.int .i64 x.secret)]
theorem encKey : Enc sKey eKey := fun w cs x h => (Enc.pair (Enc.sl 9 Enc.str (by decide)) Enc.int) w cs _ h
def eRule (x : DRule) : List DT := [DT.sl 9 1 (x.dataPattern.map eS), DT.sl 9 1 (x.keyPattern.map eS)]
theorem encRule : Enc sRule eRule := fun w cs x h => (Enc.pair (Enc.sl 9 Enc.str (by decide)) (Enc.sl 9 Enc.str (by decide))) w cs _ h
def eData (x : DData) : List DT := [DT.sl 9 1 (x.name.map eS), DT.sl 5 1 (x.content.map eY), DT.sl 9 1 (x.keyName.map eS), .at (.int .i64 x.freshUntil), .at (.int .i64 x.signature)]
theorem encData : Enc sData eData := fun w cs x h => (Enc.pair (Enc.sl 9 Enc.str (by decide)) (Enc.pair (Enc.sl 5 Enc.byte (by decide)) (Enc.pair (Enc.sl 9 Enc.str (by decide)) (Enc.pair Enc.int Enc.int)))) w cs _ h
def eTrustPolicy (x : DTrustPolicy) : List DT := [DT.sl 195 2 (x.keys.map eKey), DT.sl 199 2 (x.rules.map eRule), DT.sl 70 1 (x.anchors.map (fun l => [DT.sl 9 1 (l.map eS)])), DT.sl 73 5 (x.certificates.map eData)]
theorem encTrustPolicy : Enc sTrustPolicy eTrustPolicy := fun w cs x h => (Enc.pair (Enc.sl 195 encKey (by decide)) (Enc.pair (Enc.sl 199 encRule (by decide)) (Enc.pair (Enc.sl 70 (Enc.sl 9 Enc.str (by decide)) (by decide)) (Enc.sl 73 encData (by decide))))) w cs _ h
def eTableEntry (x : DTableEntry) : List DT := [DT.sl 9 1 (x.name.map eS), .at (.int .i64 x.value)]
theorem encTableEntry : Enc sTableEntry eTableEntry := fun w cs x h => (Enc.pair (Enc.sl 9 Enc.str (by decide)) Enc.int) w cs _ h
def eCacheEntry (x : DCacheEntry) : List DT := [DT.sl 9 1 (x.data.name.map eS), DT.sl 5 1 (x.data.content.map eY), DT.sl 9 1 (x.data.keyName.map eS), .at (.int .i64 x.data.freshUntil), .at (.int .i64 x.data.signature), .at (.int .i64 x.lastUsed)]
theorem encCacheEntry : Enc sCacheEntry eCacheEntry := fun w cs x h => (Enc.pair encData Enc.int) w cs _ h
def eContentStore (x : DContentStore) : List DT := [.at (.int .i64 x.capacity), DT.sl 221 6 (x.entries.map eCacheEntry)]
theorem encContentStore : Enc sContentStore eContentStore := fun w cs x h => (Enc.pair Enc.int (Enc.sl 221 encCacheEntry (by decide))) w cs _ h
def eRequester (x : DRequester) : List DT := [.at (.int .i64 x.face), .at (.int .i64 x.nonce), .at (.int .i64 x.expiry)]
theorem encRequester : Enc sRequester eRequester := fun w cs x h => (Enc.pair Enc.int (Enc.pair Enc.int Enc.int)) w cs _ h
def ePendingInterest (x : DPendingInterest) : List DT := [DT.sl 9 1 (x.name.map eS), DT.sl 260 3 (x.requesters.map eRequester), .at (.int .i64 x.lastSent)]
theorem encPendingInterest : Enc sPendingInterest ePendingInterest := fun w cs x h => (Enc.pair (Enc.sl 9 Enc.str (by decide)) (Enc.pair (Enc.sl 260 encRequester (by decide)) Enc.int)) w cs _ h
def eSeenNonce (x : DSeenNonce) : List DT := [DT.sl 9 1 (x.name.map eS), .at (.int .i64 x.nonce)]
theorem encSeenNonce : Enc sSeenNonce eSeenNonce := fun w cs x h => (Enc.pair (Enc.sl 9 Enc.str (by decide)) Enc.int) w cs _ h
def eRoute (x : DRoute) : List DT := [DT.sl 9 1 (x.pfx.map eS), .at (.int .i64 x.face), .at (.int .i64 x.cost)]
theorem encRoute : Enc sRoute eRoute := fun w cs x h => (Enc.pair (Enc.sl 9 Enc.str (by decide)) (Enc.pair Enc.int Enc.int)) w cs _ h
def eMeasurement (x : DMeasurement) : List DT := [DT.sl 9 1 (x.pfx.map eS), .at (.int .i64 x.face), .at (.int .i64 x.failures)]
theorem encMeasurement : Enc sMeasurement eMeasurement := fun w cs x h => (Enc.pair (Enc.sl 9 Enc.str (by decide)) (Enc.pair Enc.int Enc.int)) w cs _ h
def eNode (x : DNode) : List DT := [DT.sl 73 5 (x.locals.map eData), .at (.int .i64 x.cache.capacity), DT.sl 221 6 (x.cache.entries.map eCacheEntry), DT.sl 224 3 (x.pending.map ePendingInterest), DT.sl 227 2 (x.seen.map eSeenNonce), DT.sl 229 3 (x.routes.map eRoute), DT.sl 231 3 (x.measurements.map eMeasurement), .at (.int .i64 x.dropped)]
theorem encNode : Enc sNode eNode := fun w cs x h => (Enc.pair (Enc.sl 73 encData (by decide)) (Enc.pair encContentStore (Enc.pair (Enc.sl 224 encPendingInterest (by decide)) (Enc.pair (Enc.sl 227 encSeenNonce (by decide)) (Enc.pair (Enc.sl 229 encRoute (by decide)) (Enc.pair (Enc.sl 231 encMeasurement (by decide)) Enc.int)))))) w cs _ h
def eInterest (x : DInterest) : List DT := [DT.sl 9 1 (x.name.map eS), .at (.int .i64 x.nonce), .at (.int .i64 x.hopLimit), .at (.int .i64 x.lifetime)]
theorem encInterest : Enc sInterest eInterest := fun w cs x h => (Enc.pair (Enc.sl 9 Enc.str (by decide)) (Enc.pair Enc.int (Enc.pair Enc.int Enc.int))) w cs _ h
def ePacketInFlight (x : DPacketInFlight) : List DT := [.at (.int .i64 x.dest), .at (.int .i64 x.face), .at (.bool x.isInterest), DT.sl 9 1 (x.interest.name.map eS), .at (.int .i64 x.interest.nonce), .at (.int .i64 x.interest.hopLimit), .at (.int .i64 x.interest.lifetime), DT.sl 9 1 (x.data.name.map eS), DT.sl 5 1 (x.data.content.map eY), DT.sl 9 1 (x.data.keyName.map eS), .at (.int .i64 x.data.freshUntil), .at (.int .i64 x.data.signature)]
theorem encPacketInFlight : Enc sPacketInFlight ePacketInFlight := fun w cs x h => (Enc.pair Enc.int (Enc.pair Enc.int (Enc.pair Enc.bool (Enc.pair encInterest encData)))) w cs _ h
def eConsumer (x : DConsumer) : List DT := [.at (.int .i64 x.node), .at (.int .i64 x.index), DT.sl 9 1 (x.name.map eS), .at (.int .i64 x.attempts), .at (.int .i64 x.wait), .at (.bool x.satisfied), DT.sl 9 1 (x.data.name.map eS), DT.sl 5 1 (x.data.content.map eY), DT.sl 9 1 (x.data.keyName.map eS), .at (.int .i64 x.data.freshUntil), .at (.int .i64 x.data.signature)]
theorem encConsumer : Enc sConsumer eConsumer := fun w cs x h => (Enc.pair Enc.int (Enc.pair Enc.int (Enc.pair (Enc.sl 9 Enc.str (by decide)) (Enc.pair Enc.int (Enc.pair Enc.int (Enc.pair Enc.bool encData)))))) w cs _ h
def eNetwork (x : DNetwork) : List DT := [.at (.int .i64 x.topology.size), DT.sl 191 2 (x.topology.links.map eLink), DT.sl 195 2 (x.trust.keys.map eKey), DT.sl 199 2 (x.trust.rules.map eRule), DT.sl 70 1 (x.trust.anchors.map (fun l => [DT.sl 9 1 (l.map eS)])), DT.sl 73 5 (x.trust.certificates.map eData), DT.sl 136 2 (x.producers.map eTableEntry), DT.sl 146 8 (x.nodes.map eNode), .at (.int .i64 x.downNodes), DT.sl 3 1 (x.failedLinks.map eI), DT.sl 151 12 (x.inFlight.map ePacketInFlight), DT.sl 75 11 (x.consumers.map eConsumer), .at (.int .i64 x.now), .at (.int .i64 x.dropped)]
theorem encNetwork : Enc sNetwork eNetwork := fun w cs x h => (Enc.pair encTopology (Enc.pair encTrustPolicy (Enc.pair (Enc.sl 136 encTableEntry (by decide)) (Enc.pair (Enc.sl 146 encNode (by decide)) (Enc.pair Enc.int (Enc.pair (Enc.sl 3 Enc.int (by decide)) (Enc.pair (Enc.sl 151 encPacketInFlight (by decide)) (Enc.pair (Enc.sl 75 encConsumer (by decide)) (Enc.pair Enc.int Enc.int))))))))) w cs _ h
end Go.Proofs.YtnomkohiiadkjaaGreat
