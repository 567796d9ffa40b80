import Derived.Test.YtgfmmfpafcfjpaaGreatBase
import Derived.Test.YtgfmmfpafcfjpaaGreatProg
import Derived.Test.YtgfmmfpafcfjpaaGreatEngUse
namespace Go.Proofs.YtgfmmfpafcfjpaaGreat
open Go.RowKit
set_option linter.unusedVariables false
set_option linter.unusedSimpArgs false
set_option linter.unusedSectionVars false
structure DLink where
 a : Int
 b : Int
def sLink : Shape DLink := (Shape.int.pair Shape.int).via fun x => (x.a, x.b)
def sLinkL : Shape (List DLink) := Shape.sl 333 sLink
structure DTopology where
 size : Int
 links : (List DLink)
def sTopology : Shape DTopology := (Shape.int.pair sLinkL).via fun x => (x.size, x.links)
def szTopology (x : DTopology) : Nat := (szL (fun _ => 0)) x.links
def strs : Shape (List ByteArray) := Shape.sl 9 Shape.str
structure DKey where
 name : (List ByteArray)
 secret : Int
def sKey : Shape DKey := (strs.pair Shape.int).via fun x => (x.name, x.secret)
def szKey (x : DKey) : Nat := (szL ByteArray.size) x.name
def sKeyL : Shape (List DKey) := Shape.sl 339 sKey
structure DRule where
 dataPattern : (List ByteArray)
 keyPattern : (List ByteArray)
def sRule : Shape DRule := (strs.pair strs).via fun x => (x.dataPattern, x.keyPattern)
def szRule (x : DRule) : Nat := (szL ByteArray.size) x.dataPattern + (szL ByteArray.size) x.keyPattern
def sRuleL : Shape (List DRule) := Shape.sl 343 sRule
def sNameL : Shape (List (List ByteArray)) := Shape.sl 95 strs
def sBytes : Shape (List UInt8) := Shape.sl 5 Shape.byte
structure DData where
 name : (List ByteArray)
 content : (List UInt8)
 keyName : (List ByteArray)
 freshUntil : Int
 signature : Int
def sData : Shape DData := (strs.pair (sBytes.pair (strs.pair (Shape.int.pair Shape.int)))).via fun x => (x.name, x.content, x.keyName, x.freshUntil, x.signature)
def szData (x : DData) : Nat := (szL ByteArray.size) x.name + (szL (fun _ => 0)) x.content + (szL ByteArray.size) x.keyName
def sDataL : Shape (List DData) := Shape.sl 97 sData
structure DTrustPolicy where
 keys : (List DKey)
 rules : (List DRule)
 anchors : (List (List ByteArray))
 certificates : (List DData)
def sTrustPolicy : Shape DTrustPolicy := (sKeyL.pair (sRuleL.pair (sNameL.pair sDataL))).via fun x => (x.keys, x.rules, x.anchors, x.certificates)
def szTrustPolicy (x : DTrustPolicy) : Nat := (szL szKey) x.keys + (szL szRule) x.rules + (szL (szL ByteArray.size)) x.anchors + (szL szData) x.certificates
structure DTableEntry where
 name : (List ByteArray)
 value : Int
def sTableEntry : Shape DTableEntry := (strs.pair Shape.int).via fun x => (x.name, x.value)
def szTableEntry (x : DTableEntry) : Nat := (szL ByteArray.size) x.name
def sTableEntryL : Shape (List DTableEntry) := Shape.sl 255 sTableEntry
structure DCacheEntry where
 data : DData
 lastUsed : Int
def sCacheEntry : Shape DCacheEntry := (sData.pair Shape.int).via fun x => (x.data, x.lastUsed)
def szCacheEntry (x : DCacheEntry) : Nat := szData x.data
def sCacheEntryL : Shape (List DCacheEntry) := Shape.sl 291 sCacheEntry
structure DContentStore where
 capacity : Int
 entries : (List DCacheEntry)
def sContentStore : Shape DContentStore := (Shape.int.pair sCacheEntryL).via fun x => (x.capacity, x.entries)
def szContentStore (x : DContentStore) : Nat := (szL szCacheEntry) x.entries
structure DRequester where
 face : Int
 nonce : Int
 expiry : Int
def sRequester : Shape DRequester := (Shape.int.pair (Shape.int.pair Shape.int)).via fun x => (x.face, x.nonce, x.expiry)
def sRequesterL : Shape (List DRequester) := Shape.sl 294 sRequester
structure DPendingInterest where
 name : (List ByteArray)
 requesters : (List DRequester)
 lastSent : Int
def sPendingInterest : Shape DPendingInterest := (strs.pair (sRequesterL.pair Shape.int)).via fun x => (x.name, x.requesters, x.lastSent)
def szPendingInterest (x : DPendingInterest) : Nat := (szL ByteArray.size) x.name + (szL (fun _ => 0)) x.requesters
def sPendingInterestL : Shape (List DPendingInterest) := Shape.sl 223 sPendingInterest
structure DSeenNonce where
 name : (List ByteArray)
 nonce : Int
def sSeenNonce : Shape DSeenNonce := (strs.pair Shape.int).via fun x => (x.name, x.nonce)
def szSeenNonce (x : DSeenNonce) : Nat := (szL ByteArray.size) x.name
def sSeenNonceL : Shape (List DSeenNonce) := Shape.sl 226 sSeenNonce
structure DRoute where
 pfx : (List ByteArray)
 face : Int
 cost : Int
def sRoute : Shape DRoute := (strs.pair (Shape.int.pair Shape.int)).via fun x => (x.pfx, x.face, x.cost)
def szRoute (x : DRoute) : Nat := (szL ByteArray.size) x.pfx
def sRouteL : Shape (List DRoute) := Shape.sl 229 sRoute
structure DMeasurement where
 pfx : (List ByteArray)
 face : Int
 failures : Int
def sMeasurement : Shape DMeasurement := (strs.pair (Shape.int.pair Shape.int)).via fun x => (x.pfx, x.face, x.failures)
def szMeasurement (x : DMeasurement) : Nat := (szL ByteArray.size) x.pfx
def sMeasurementL : Shape (List DMeasurement) := Shape.sl 232 sMeasurement
structure DNode where
 locals : (List DData)
 cache : DContentStore
 pending : (List DPendingInterest)
 seen : (List DSeenNonce)
 routes : (List DRoute)
 measurements : (List DMeasurement)
 dropped : Int
def sNode : Shape DNode := (sDataL.pair (sContentStore.pair (sPendingInterestL.pair (sSeenNonceL.pair (sRouteL.pair (sMeasurementL.pair Shape.int)))))).via fun x => (x.locals, x.cache, x.pending, x.seen, x.routes, x.measurements, x.dropped)
def szNode (x : DNode) : Nat := (szL szData) x.locals + szContentStore x.cache + (szL szPendingInterest) x.pending + (szL szSeenNonce) x.seen + (szL szRoute) x.routes + (szL szMeasurement) x.measurements
def sNodeL : Shape (List DNode) := Shape.sl 44 sNode
def sInts : Shape (List Int) := Shape.sl 3 Shape.int
structure DInterest where
 name : (List ByteArray)
 nonce : Int
 hopLimit : Int
 lifetime : Int
def sInterest : Shape DInterest := (strs.pair (Shape.int.pair (Shape.int.pair Shape.int))).via fun x => (x.name, x.nonce, x.hopLimit, x.lifetime)
def szInterest (x : DInterest) : Nat := (szL ByteArray.size) x.name
structure DPacketInFlight where
 dest : Int
 face : Int
 isInterest : Bool
 interest : DInterest
 data : DData
def sPacketInFlight : Shape DPacketInFlight := (Shape.int.pair (Shape.int.pair (Shape.bool.pair (sInterest.pair sData)))).via fun x => (x.dest, x.face, x.isInterest, x.interest, x.data)
def szPacketInFlight (x : DPacketInFlight) : Nat := szInterest x.interest + szData x.data
def sPacketInFlightL : Shape (List DPacketInFlight) := Shape.sl 272 sPacketInFlight
structure DConsumer where
 node : Int
 index : Int
 name : (List ByteArray)
 attempts : Int
 wait : Int
 satisfied : Bool
 data : DData
def sConsumer : Shape DConsumer := (Shape.int.pair (Shape.int.pair (strs.pair (Shape.int.pair (Shape.int.pair (Shape.bool.pair sData)))))).via fun x => (x.node, x.index, x.name, x.attempts, x.wait, x.satisfied, x.data)
def szConsumer (x : DConsumer) : Nat := (szL ByteArray.size) x.name + szData x.data
def sConsumerL : Shape (List DConsumer) := Shape.sl 99 sConsumer
structure DNetwork where
 topology : DTopology
 trust : DTrustPolicy
 producers : (List DTableEntry)
 nodes : (List DNode)
 downNodes : Int
 failedLinks : (List Int)
 inFlight : (List DPacketInFlight)
 consumers : (List DConsumer)
 now : Int
 dropped : Int
def sNetwork : Shape DNetwork := (sTopology.pair (sTrustPolicy.pair (sTableEntryL.pair (sNodeL.pair (Shape.int.pair (sInts.pair (sPacketInFlightL.pair (sConsumerL.pair (Shape.int.pair Shape.int))))))))).via fun x => (x.topology, x.trust, x.producers, x.nodes, x.downNodes, x.failedLinks, x.inFlight, x.consumers, x.now, x.dropped)
def szNetwork (x : DNetwork) : Nat := szTopology x.topology + szTrustPolicy x.trust + (szL szTableEntry) x.producers + (szL szNode) x.nodes + (szL (fun _ => 0)) x.failedLinks + (szL szPacketInFlight) x.inFlight + (szL szConsumer) x.consumers
end Go.Proofs.YtgfmmfpafcfjpaaGreat
namespace Go.Proofs.YtgfmmfpafcfjpaaGreat
open Go.RowKit
set_option linter.unusedVariables false
def eLink (x : DLink) : List DT := [.at (.int .i64 x.a), .at (.int .i64 x.b)]
theorem encLink : Enc sLink eLink := fun w cs x h => (Enc.pair Enc.int Enc.int) w cs _ h
def eTopology (x : DTopology) : List DT := [.at (.int .i64 x.size), DT.sl 333 2 (x.links.map eLink)]
theorem encTopology : Enc sTopology eTopology := fun w cs x h => (Enc.pair Enc.int (Enc.sl 333 encLink (by decide))) w cs _ h
def eKey (x : DKey) : List DT := [DT.sl 9 1 (x.name.map eS), .at (.int .i64 x.secret)]
theorem encKey : Enc sKey eKey := fun w cs x h => (Enc.pair (Enc.sl 9 Enc.str (by decide)) Enc.int) w cs _ h
def eRule (x : DRule) : List DT := [DT.sl 9 1 (x.dataPattern.map eS), DT.sl 9 1 (x.keyPattern.map eS)]
theorem encRule : Enc sRule eRule := fun w cs x h => (Enc.pair (Enc.sl 9 Enc.str (by decide)) (Enc.sl 9 Enc.str (by decide))) w cs _ h
def eData (x : DData) : List DT := [DT.sl 9 1 (x.name.map eS), DT.sl 5 1 (x.content.map eY), DT.sl 9 1 (x.keyName.map eS), .at (.int .i64 x.freshUntil), .at (.int .i64 x.signature)]
theorem encData : Enc sData eData := fun w cs x h => (Enc.pair (Enc.sl 9 Enc.str (by decide)) (Enc.pair (Enc.sl 5 Enc.byte (by decide)) (Enc.pair (Enc.sl 9 Enc.str (by decide)) (Enc.pair Enc.int Enc.int)))) w cs _ h
def eTrustPolicy (x : DTrustPolicy) : List DT := [DT.sl 339 2 (x.keys.map eKey), DT.sl 343 2 (x.rules.map eRule), DT.sl 95 1 (x.anchors.map (fun l => [DT.sl 9 1 (l.map eS)])), DT.sl 97 5 (x.certificates.map eData)]
theorem encTrustPolicy : Enc sTrustPolicy eTrustPolicy := fun w cs x h => (Enc.pair (Enc.sl 339 encKey (by decide)) (Enc.pair (Enc.sl 343 encRule (by decide)) (Enc.pair (Enc.sl 95 (Enc.sl 9 Enc.str (by decide)) (by decide)) (Enc.sl 97 encData (by decide))))) w cs _ h
def eTableEntry (x : DTableEntry) : List DT := [DT.sl 9 1 (x.name.map eS), .at (.int .i64 x.value)]
theorem encTableEntry : Enc sTableEntry eTableEntry := fun w cs x h => (Enc.pair (Enc.sl 9 Enc.str (by decide)) Enc.int) w cs _ h
def eCacheEntry (x : DCacheEntry) : List DT := [DT.sl 9 1 (x.data.name.map eS), DT.sl 5 1 (x.data.content.map eY), DT.sl 9 1 (x.data.keyName.map eS), .at (.int .i64 x.data.freshUntil), .at (.int .i64 x.data.signature), .at (.int .i64 x.lastUsed)]
theorem encCacheEntry : Enc sCacheEntry eCacheEntry := fun w cs x h => (Enc.pair encData Enc.int) w cs _ h
def eContentStore (x : DContentStore) : List DT := [.at (.int .i64 x.capacity), DT.sl 291 6 (x.entries.map eCacheEntry)]
theorem encContentStore : Enc sContentStore eContentStore := fun w cs x h => (Enc.pair Enc.int (Enc.sl 291 encCacheEntry (by decide))) w cs _ h
def eRequester (x : DRequester) : List DT := [.at (.int .i64 x.face), .at (.int .i64 x.nonce), .at (.int .i64 x.expiry)]
theorem encRequester : Enc sRequester eRequester := fun w cs x h => (Enc.pair Enc.int (Enc.pair Enc.int Enc.int)) w cs _ h
def ePendingInterest (x : DPendingInterest) : List DT := [DT.sl 9 1 (x.name.map eS), DT.sl 294 3 (x.requesters.map eRequester), .at (.int .i64 x.lastSent)]
theorem encPendingInterest : Enc sPendingInterest ePendingInterest := fun w cs x h => (Enc.pair (Enc.sl 9 Enc.str (by decide)) (Enc.pair (Enc.sl 294 encRequester (by decide)) Enc.int)) w cs _ h
def eSeenNonce (x : DSeenNonce) : List DT := [DT.sl 9 1 (x.name.map eS), .at (.int .i64 x.nonce)]
theorem encSeenNonce : Enc sSeenNonce eSeenNonce := fun w cs x h => (Enc.pair (Enc.sl 9 Enc.str (by decide)) Enc.int) w cs _ h
def eRoute (x : DRoute) : List DT := [DT.sl 9 1 (x.pfx.map eS), .at (.int .i64 x.face), .at (.int .i64 x.cost)]
theorem encRoute : Enc sRoute eRoute := fun w cs x h => (Enc.pair (Enc.sl 9 Enc.str (by decide)) (Enc.pair Enc.int Enc.int)) w cs _ h
def eMeasurement (x : DMeasurement) : List DT := [DT.sl 9 1 (x.pfx.map eS), .at (.int .i64 x.face), .at (.int .i64 x.failures)]
theorem encMeasurement : Enc sMeasurement eMeasurement := fun w cs x h => (Enc.pair (Enc.sl 9 Enc.str (by decide)) (Enc.pair Enc.int Enc.int)) w cs _ h
def eNode (x : DNode) : List DT := [DT.sl 97 5 (x.locals.map eData), .at (.int .i64 x.cache.capacity), DT.sl 291 6 (x.cache.entries.map eCacheEntry), DT.sl 223 3 (x.pending.map ePendingInterest), DT.sl 226 2 (x.seen.map eSeenNonce), DT.sl 229 3 (x.routes.map eRoute), DT.sl 232 3 (x.measurements.map eMeasurement), .at (.int .i64 x.dropped)]
theorem encNode : Enc sNode eNode := fun w cs x h => (Enc.pair (Enc.sl 97 encData (by decide)) (Enc.pair encContentStore (Enc.pair (Enc.sl 223 encPendingInterest (by decide)) (Enc.pair (Enc.sl 226 encSeenNonce (by decide)) (Enc.pair (Enc.sl 229 encRoute (by decide)) (Enc.pair (Enc.sl 232 encMeasurement (by decide)) Enc.int)))))) w cs _ h
def eInterest (x : DInterest) : List DT := [DT.sl 9 1 (x.name.map eS), .at (.int .i64 x.nonce), .at (.int .i64 x.hopLimit), .at (.int .i64 x.lifetime)]
theorem encInterest : Enc sInterest eInterest := fun w cs x h => (Enc.pair (Enc.sl 9 Enc.str (by decide)) (Enc.pair Enc.int (Enc.pair Enc.int Enc.int))) w cs _ h
def ePacketInFlight (x : DPacketInFlight) : List DT := [.at (.int .i64 x.dest), .at (.int .i64 x.face), .at (.bool x.isInterest), DT.sl 9 1 (x.interest.name.map eS), .at (.int .i64 x.interest.nonce), .at (.int .i64 x.interest.hopLimit), .at (.int .i64 x.interest.lifetime), DT.sl 9 1 (x.data.name.map eS), DT.sl 5 1 (x.data.content.map eY), DT.sl 9 1 (x.data.keyName.map eS), .at (.int .i64 x.data.freshUntil), .at (.int .i64 x.data.signature)]
theorem encPacketInFlight : Enc sPacketInFlight ePacketInFlight := fun w cs x h => (Enc.pair Enc.int (Enc.pair Enc.int (Enc.pair Enc.bool (Enc.pair encInterest encData)))) w cs _ h
def eConsumer (x : DConsumer) : List DT := [.at (.int .i64 x.node), .at (.int .i64 x.index), DT.sl 9 1 (x.name.map eS), .at (.int .i64 x.attempts), .at (.int .i64 x.wait), .at (.bool x.satisfied), DT.sl 9 1 (x.data.name.map eS), DT.sl 5 1 (x.data.content.map eY), DT.sl 9 1 (x.data.keyName.map eS), .at (.int .i64 x.data.freshUntil), .at (.int .i64 x.data.signature)]
theorem encConsumer : Enc sConsumer eConsumer := fun w cs x h => (Enc.pair Enc.int (Enc.pair Enc.int (Enc.pair (Enc.sl 9 Enc.str (by decide)) (Enc.pair Enc.int (Enc.pair Enc.int (Enc.pair Enc.bool encData)))))) w cs _ h
def eNetwork (x : DNetwork) : List DT := [.at (.int .i64 x.topology.size), DT.sl 333 2 (x.topology.links.map eLink), DT.sl 339 2 (x.trust.keys.map eKey), DT.sl 343 2 (x.trust.rules.map eRule), DT.sl 95 1 (x.trust.anchors.map (fun l => [DT.sl 9 1 (l.map eS)])), DT.sl 97 5 (x.trust.certificates.map eData), DT.sl 255 2 (x.producers.map eTableEntry), DT.sl 44 8 (x.nodes.map eNode), .at (.int .i64 x.downNodes), DT.sl 3 1 (x.failedLinks.map eI), DT.sl 272 12 (x.inFlight.map ePacketInFlight), DT.sl 99 11 (x.consumers.map eConsumer), .at (.int .i64 x.now), .at (.int .i64 x.dropped)]
theorem encNetwork : Enc sNetwork eNetwork := fun w cs x h => (Enc.pair encTopology (Enc.pair encTrustPolicy (Enc.pair (Enc.sl 255 encTableEntry (by decide)) (Enc.pair (Enc.sl 44 encNode (by decide)) (Enc.pair Enc.int (Enc.pair (Enc.sl 3 Enc.int (by decide)) (Enc.pair (Enc.sl 272 encPacketInFlight (by decide)) (Enc.pair (Enc.sl 99 encConsumer (by decide)) (Enc.pair Enc.int Enc.int))))))))) w cs _ h
end Go.Proofs.YtgfmmfpafcfjpaaGreat
