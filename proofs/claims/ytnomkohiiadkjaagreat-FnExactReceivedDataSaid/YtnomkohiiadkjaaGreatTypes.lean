import Derived.Test.YtnomkohiiadkjaaGreatBase
import Derived.Test.YtnomkohiiadkjaaGreatProg
namespace Go.Proofs.YtnomkohiiadkjaaGreat
open Go.RowKit
set_option linter.unusedVariables false
set_option linter.unusedSimpArgs false
set_option linter.unusedSectionVars false
structure DLink where
 a : Int
 b : Int
def sLink : Shape DLink := (Shape.int.pair Shape.int).via fun x => (x.a, x.b)
def sLinkL : Shape (List DLink) := Shape.sl 191 sLink
structure DTopology where
 size : Int
 links : (List DLink)
def sTopology : Shape DTopology := (Shape.int.pair sLinkL).via fun x => (x.size, x.links)
def szTopology (x : DTopology) : Nat := (szL (fun _ => 0)) x.links
def strs : Shape (List ByteArray) := Shape.sl 9 Shape.str
structure DKey where
 name : (List ByteArray)
 secret : Int
def sKey : Shape DKey := (strs.pair Shape.int).via fun x => (x.name, x.secret)
def szKey (x : DKey) : Nat := (szL ByteArray.size) x.name
def sKeyL : Shape (List DKey) := Shape.sl 195 sKey
structure DRule where
 dataPattern : (List ByteArray)
 keyPattern : (List ByteArray)
def sRule : Shape DRule := (strs.pair strs).via fun x => (x.dataPattern, x.keyPattern)
def szRule (x : DRule) : Nat := (szL ByteArray.size) x.dataPattern + (szL ByteArray.size) x.keyPattern
def sRuleL : Shape (List DRule) := Shape.sl 199 sRule
def sNameL : Shape (List (List ByteArray)) := Shape.sl 70 strs
def sBytes : Shape (List UInt8) := Shape.sl 5 Shape.byte
structure DData where
 name : (List ByteArray)
 content : (List UInt8)
 keyName : (List ByteArray)
 freshUntil : Int
 signature : Int
def sData : Shape DData := (strs.pair (sBytes.pair (strs.pair (Shape.int.pair Shape.int)))).via fun x => (x.name, x.content, x.keyName, x.freshUntil, x.signature)
def szData (x : DData) : Nat := (szL ByteArray.size) x.name + (szL (fun _ => 0)) x.content + (szL ByteArray.size) x.keyName
def sDataL : Shape (List DData) := Shape.sl 73 sData
structure DTrustPolicy where
 keys : (List DKey)
 rules : (List DRule)
 anchors : (List (List ByteArray))
 certificates : (List DData)
def sTrustPolicy : Shape DTrustPolicy := (sKeyL.pair (sRuleL.pair (sNameL.pair sDataL))).via fun x => (x.keys, x.rules, x.anchors, x.certificates)
def szTrustPolicy (x : DTrustPolicy) : Nat := (szL szKey) x.keys + (szL szRule) x.rules + (szL (szL ByteArray.size)) x.anchors + (szL szData) x.certificates
structure DTableEntry where
 name : (List ByteArray)
 value : Int
def sTableEntry : Shape DTableEntry := (strs.pair Shape.int).via fun x => (x.name, x.value)
def szTableEntry (x : DTableEntry) : Nat := (szL ByteArray.size) x.name
def sTableEntryL : Shape (List DTableEntry) := Shape.sl 136 sTableEntry
structure DCacheEntry where
 data : DData
 lastUsed : Int
def sCacheEntry : Shape DCacheEntry := (sData.pair Shape.int).via fun x => (x.data, x.lastUsed)
def szCacheEntry (x : DCacheEntry) : Nat := szData x.data
def sCacheEntryL : Shape (List DCacheEntry) := Shape.sl 221 sCacheEntry
structure DContentStore where
 capacity : Int
 entries : (List DCacheEntry)
def sContentStore : Shape DContentStore := (Shape.int.pair sCacheEntryL).via fun x => (x.capacity, x.entries)
def szContentStore (x : DContentStore) : Nat := (szL szCacheEntry) x.entries
structure DRequester where
 face : Int
 nonce : Int
 expiry : Int
def sRequester : Shape DRequester := (Shape.int.pair (Shape.int.pair Shape.int)).via fun x => (x.face, x.nonce, x.expiry)
def sRequesterL : Shape (List DRequester) := Shape.sl 260 sRequester
structure DPendingInterest where
 name : (List ByteArray)
 requesters : (List DRequester)
 lastSent : Int
def sPendingInterest : Shape DPendingInterest := (strs.pair (sRequesterL.pair Shape.int)).via fun x => (x.name, x.requesters, x.lastSent)
def szPendingInterest (x : DPendingInterest) : Nat := (szL ByteArray.size) x.name + (szL (fun _ => 0)) x.requesters
def sPendingInterestL : Shape (List DPendingInterest) := Shape.sl 224 sPendingInterest
structure DSeenNonce where
 name : (List ByteArray)
 nonce : Int
def sSeenNonce : Shape DSeenNonce := (strs.pair Shape.int).via fun x => (x.name, x.nonce)
def szSeenNonce (x : DSeenNonce) : Nat := (szL ByteArray.size) x.name
def sSeenNonceL : Shape (List DSeenNonce) := Shape.sl 227 sSeenNonce
structure DRoute where
 pfx : (List ByteArray)
 face : Int
 cost : Int
def sRoute : Shape DRoute := (strs.pair (Shape.int.pair Shape.int)).via fun x => (x.pfx, x.face, x.cost)
def szRoute (x : DRoute) : Nat := (szL ByteArray.size) x.pfx
def sRouteL : Shape (List DRoute) := Shape.sl 229 sRoute
structure DMeasurement where
 pfx : (List ByteArray)
 face : Int
 failures : Int
def sMeasurement : Shape DMeasurement := (strs.pair (Shape.int.pair Shape.int)).via fun x => (x.pfx, x.face, x.failures)
def szMeasurement (x : DMeasurement) : Nat := (szL ByteArray.size) x.pfx
def sMeasurementL : Shape (List DMeasurement) := Shape.sl 231 sMeasurement
structure DNode where
 locals : (List DData)
 cache : DContentStore
 pending : (List DPendingInterest)
 seen : (List DSeenNonce)
 routes : (List DRoute)
 measurements : (List DMeasurement)
 dropped : Int
def sNode : Shape DNode := (sDataL.pair (sContentStore.pair (sPendingInterestL.pair (sSeenNonceL.pair (sRouteL.pair (sMeasurementL.pair Shape.int)))))).via fun x => (x.locals, x.cache, x.pending, x.seen, x.routes, x.measurements, x.dropped)
def szNode (x : DNode) : Nat := (szL szData) x.locals + szContentStore x.cache + (szL szPendingInterest) x.pending + (szL szSeenNonce) x.seen + (szL szRoute) x.routes + (szL szMeasurement) x.measurements
def sNodeL : Shape (List DNode) := Shape.sl 146 sNode
def sInts : Shape (List Int) := Shape.sl 3 Shape.int
structure DInterest where
 name : (List ByteArray)
 nonce : Int
 hopLimit : Int
 lifetime : Int
def sInterest : Shape DInterest := (strs.pair (Shape.int.pair (Shape.int.pair Shape.int))).via fun x => (x.name, x.nonce, x.hopLimit, x.lifetime)
def szInterest (x : DInterest) : Nat := (szL ByteArray.size) x.name
structure DPacketInFlight where
 dest : Int
 face : Int
 isInterest : Bool
 interest : DInterest
 data : DData
def sPacketInFlight : Shape DPacketInFlight := (Shape.int.pair (Shape.int.pair (Shape.bool.pair (sInterest.pair sData)))).via fun x => (x.dest, x.face, x.isInterest, x.interest, x.data)
def szPacketInFlight (x : DPacketInFlight) : Nat := szInterest x.interest + szData x.data
def sPacketInFlightL : Shape (List DPacketInFlight) := Shape.sl 151 sPacketInFlight
structure DConsumer where
 node : Int
 index : Int
 name : (List ByteArray)
 attempts : Int
 wait : Int
 satisfied : Bool
 data : DData
def sConsumer : Shape DConsumer := (Shape.int.pair (Shape.int.pair (strs.pair (Shape.int.pair (Shape.int.pair (Shape.bool.pair sData)))))).via fun x => (x.node, x.index, x.name, x.attempts, x.wait, x.satisfied, x.data)
def szConsumer (x : DConsumer) : Nat := (szL ByteArray.size) x.name + szData x.data
def sConsumerL : Shape (List DConsumer) := Shape.sl 75 sConsumer
structure DNetwork where
 topology : DTopology
 trust : DTrustPolicy
 producers : (List DTableEntry)
 nodes : (List DNode)
 downNodes : Int
 failedLinks : (List Int)
 inFlight : (List DPacketInFlight)
 consumers : (List DConsumer)
 now : Int
 dropped : Int
def sNetwork : Shape DNetwork := (sTopology.pair (sTrustPolicy.pair (sTableEntryL.pair (sNodeL.pair (Shape.int.pair (sInts.pair (sPacketInFlightL.pair (sConsumerL.pair (Shape.int.pair Shape.int))))))))).via fun x => (x.topology, x.trust, x.producers, x.nodes, x.downNodes, x.failedLinks, x.inFlight, x.consumers, x.now, x.dropped)
def szNetwork (x : DNetwork) : Nat := szTopology x.topology + szTrustPolicy x.trust + (szL szTableEntry) x.producers + (szL szNode) x.nodes + (szL (fun _ => 0)) x.failedLinks + (szL szPacketInFlight) x.inFlight + (szL szConsumer) x.consumers
end Go.Proofs.YtnomkohiiadkjaaGreat
