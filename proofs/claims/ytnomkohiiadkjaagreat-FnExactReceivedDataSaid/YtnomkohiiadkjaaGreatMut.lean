import Derived.Test.YtnomkohiiadkjaaGreatExG
import Derived.Test.YtnomkohiiadkjaaGreatFamRaw
import Derived.Test.YtnomkohiiadkjaaGreatEnc
import Derived.Test.YtnomkohiiadkjaaGreatSd
namespace Go.Proofs.YtnomkohiiadkjaaGreat
open Go.RowKit
set_option linter.unusedVariables false
set_option linter.unusedSimpArgs false
set_option maxRecDepth 100000
noncomputable section
theorem encowLink : EncOw rLink eLink := EncOw.via (EncOw.pair (EncOw.one (fun n : Int => .int .i64 n)) (EncOw.one (fun n : Int => .int .i64 n))) (fun x : DLink => (x.a, x.b))
theorem encowTopology : EncOw rTopology eTopology := EncOw.via (EncOw.pair (EncOw.one (fun n : Int => .int .i64 n)) (EncOw.sl 191 encowLink (by decide))) (fun x : DTopology => (x.size, x.links))
theorem encowKey : EncOw rKey eKey := EncOw.via (EncOw.pair (EncOw.sl 9 (EncOw.one (fun s : ByteArray => .string s)) (by decide)) (EncOw.one (fun n : Int => .int .i64 n))) (fun x : DKey => (x.name, x.secret))
theorem encowRule : EncOw rRule eRule := EncOw.via (EncOw.pair (EncOw.sl 9 (EncOw.one (fun s : ByteArray => .string s)) (by decide)) (EncOw.sl 9 (EncOw.one (fun s : ByteArray => .string s)) (by decide))) (fun x : DRule => (x.dataPattern, x.keyPattern))
theorem encowData : EncOw rData eData := EncOw.via (EncOw.pair (EncOw.sl 9 (EncOw.one (fun s : ByteArray => .string s)) (by decide)) (EncOw.pair (EncOw.sl 5 (EncOw.one (fun b : UInt8 => .int .u8 b.toNat)) (by decide)) (EncOw.pair (EncOw.sl 9 (EncOw.one (fun s : ByteArray => .string s)) (by decide)) (EncOw.pair (EncOw.one (fun n : Int => .int .i64 n)) (EncOw.one (fun n : Int => .int .i64 n)))))) (fun x : DData => (x.name, x.content, x.keyName, x.freshUntil, x.signature))
theorem encowTrustPolicy : EncOw rTrustPolicy eTrustPolicy := EncOw.via (EncOw.pair (EncOw.sl 195 encowKey (by decide)) (EncOw.pair (EncOw.sl 199 encowRule (by decide)) (EncOw.pair (EncOw.sl 70 (EncOw.sl 9 (EncOw.one (fun s : ByteArray => .string s)) (by decide)) (by decide)) (EncOw.sl 73 encowData (by decide))))) (fun x : DTrustPolicy => (x.keys, x.rules, x.anchors, x.certificates))
theorem encowTableEntry : EncOw rTableEntry eTableEntry := EncOw.via (EncOw.pair (EncOw.sl 9 (EncOw.one (fun s : ByteArray => .string s)) (by decide)) (EncOw.one (fun n : Int => .int .i64 n))) (fun x : DTableEntry => (x.name, x.value))
theorem encowCacheEntry : EncOw rCacheEntry eCacheEntry := EncOw.via (EncOw.pair encowData (EncOw.one (fun n : Int => .int .i64 n))) (fun x : DCacheEntry => (x.data, x.lastUsed))
theorem encowContentStore : EncOw rContentStore eContentStore := EncOw.via (EncOw.pair (EncOw.one (fun n : Int => .int .i64 n)) (EncOw.sl 221 encowCacheEntry (by decide))) (fun x : DContentStore => (x.capacity, x.entries))
theorem encowRequester : EncOw rRequester eRequester := EncOw.via (EncOw.pair (EncOw.one (fun n : Int => .int .i64 n)) (EncOw.pair (EncOw.one (fun n : Int => .int .i64 n)) (EncOw.one (fun n : Int => .int .i64 n)))) (fun x : DRequester => (x.face, x.nonce, x.expiry))
theorem encowPendingInterest : EncOw rPendingInterest ePendingInterest := EncOw.via (EncOw.pair (EncOw.sl 9 (EncOw.one (fun s : ByteArray => .string s)) (by decide)) (EncOw.pair (EncOw.sl 260 encowRequester (by decide)) (EncOw.one (fun n : Int => .int .i64 n)))) (fun x : DPendingInterest => (x.name, x.requesters, x.lastSent))
theorem encowSeenNonce : EncOw rSeenNonce eSeenNonce := EncOw.via (EncOw.pair (EncOw.sl 9 (EncOw.one (fun s : ByteArray => .string s)) (by decide)) (EncOw.one (fun n : Int => .int .i64 n))) (fun x : DSeenNonce => (x.name, x.nonce))
theorem encowRoute : EncOw rRoute eRoute := EncOw.via (EncOw.pair (EncOw.sl 9 (EncOw.one (fun s : ByteArray => .string s)) (by decide)) (EncOw.pair (EncOw.one (fun n : Int => .int .i64 n)) (EncOw.one (fun n : Int => .int .i64 n)))) (fun x : DRoute => (x.pfx, x.face, x.cost))
theorem encowMeasurement : EncOw rMeasurement eMeasurement := EncOw.via (EncOw.pair (EncOw.sl 9 (EncOw.one (fun s : ByteArray => .string s)) (by decide)) (EncOw.pair (EncOw.one (fun n : Int => .int .i64 n)) (EncOw.one (fun n : Int => .int .i64 n)))) (fun x : DMeasurement => (x.pfx, x.face, x.failures))
theorem encowNode : EncOw rNode eNode := EncOw.via (EncOw.pair (EncOw.sl 73 encowData (by decide)) (EncOw.pair encowContentStore (EncOw.pair (EncOw.sl 224 encowPendingInterest (by decide)) (EncOw.pair (EncOw.sl 227 encowSeenNonce (by decide)) (EncOw.pair (EncOw.sl 229 encowRoute (by decide)) (EncOw.pair (EncOw.sl 231 encowMeasurement (by decide)) (EncOw.one (fun n : Int => .int .i64 n)))))))) (fun x : DNode => (x.locals, x.cache, x.pending, x.seen, x.routes, x.measurements, x.dropped))
theorem encowInterest : EncOw rInterest eInterest := EncOw.via (EncOw.pair (EncOw.sl 9 (EncOw.one (fun s : ByteArray => .string s)) (by decide)) (EncOw.pair (EncOw.one (fun n : Int => .int .i64 n)) (EncOw.pair (EncOw.one (fun n : Int => .int .i64 n)) (EncOw.one (fun n : Int => .int .i64 n))))) (fun x : DInterest => (x.name, x.nonce, x.hopLimit, x.lifetime))
theorem encowPacketInFlight : EncOw rPacketInFlight ePacketInFlight := EncOw.via (EncOw.pair (EncOw.one (fun n : Int => .int .i64 n)) (EncOw.pair (EncOw.one (fun n : Int => .int .i64 n)) (EncOw.pair (EncOw.one (fun b : Bool => .bool b)) (EncOw.pair encowInterest encowData)))) (fun x : DPacketInFlight => (x.dest, x.face, x.isInterest, x.interest, x.data))
theorem encowConsumer : EncOw rConsumer eConsumer := EncOw.via (EncOw.pair (EncOw.one (fun n : Int => .int .i64 n)) (EncOw.pair (EncOw.one (fun n : Int => .int .i64 n)) (EncOw.pair (EncOw.sl 9 (EncOw.one (fun s : ByteArray => .string s)) (by decide)) (EncOw.pair (EncOw.one (fun n : Int => .int .i64 n)) (EncOw.pair (EncOw.one (fun n : Int => .int .i64 n)) (EncOw.pair (EncOw.one (fun b : Bool => .bool b)) encowData)))))) (fun x : DConsumer => (x.node, x.index, x.name, x.attempts, x.wait, x.satisfied, x.data))
theorem encowNetwork : EncOw rNetwork eNetwork := EncOw.via (EncOw.pair encowTopology (EncOw.pair encowTrustPolicy (EncOw.pair (EncOw.sl 136 encowTableEntry (by decide)) (EncOw.pair (EncOw.sl 146 encowNode (by decide)) (EncOw.pair (EncOw.one (fun n : Int => .int .i64 n)) (EncOw.pair (EncOw.sl 3 (EncOw.one (fun n : Int => .int .i64 n)) (by decide)) (EncOw.pair (EncOw.sl 151 encowPacketInFlight (by decide)) (EncOw.pair (EncOw.sl 75 encowConsumer (by decide)) (EncOw.pair (EncOw.one (fun n : Int => .int .i64 n)) (EncOw.one (fun n : Int => .int .i64 n))))))))))) (fun x : DNetwork => (x.topology, x.trust, x.producers, x.nodes, x.downNodes, x.failedLinks, x.inFlight, x.consumers, x.now, x.dropped))
theorem eLink_inj (x y : DLink) (h : eLink x = eLink y) : x = y := by
 obtain ⟨x0, x1⟩ := x
 obtain ⟨y0, y1⟩ := y
 simp only [eLink, List.cons.injEq, DT.at.injEq, DT.sl.injEq, Value.int.injEq, Value.bool.injEq, Value.string.injEq, true_and, and_true] at h
 obtain ⟨h0, h1⟩ := h
 obtain rfl := h0
 obtain rfl := h1
 rfl
theorem eKey_inj (x y : DKey) (h : eKey x = eKey y) : x = y := by
 obtain ⟨x0, x1⟩ := x
 obtain ⟨y0, y1⟩ := y
 simp only [eKey, List.cons.injEq, DT.at.injEq, DT.sl.injEq, Value.int.injEq, Value.bool.injEq, Value.string.injEq, true_and, and_true] at h
 obtain ⟨h0, h1⟩ := h
 obtain rfl := map_inj eS_inj h0
 obtain rfl := h1
 rfl
theorem eRule_inj (x y : DRule) (h : eRule x = eRule y) : x = y := by
 obtain ⟨x0, x1⟩ := x
 obtain ⟨y0, y1⟩ := y
 simp only [eRule, List.cons.injEq, DT.at.injEq, DT.sl.injEq, Value.int.injEq, Value.bool.injEq, Value.string.injEq, true_and, and_true] at h
 obtain ⟨h0, h1⟩ := h
 obtain rfl := map_inj eS_inj h0
 obtain rfl := map_inj eS_inj h1
 rfl
theorem eData_inj (x y : DData) (h : eData x = eData y) : x = y := by
 obtain ⟨x0, x1, x2, x3, x4⟩ := x
 obtain ⟨y0, y1, y2, y3, y4⟩ := y
 simp only [eData, List.cons.injEq, DT.at.injEq, DT.sl.injEq, Value.int.injEq, Value.bool.injEq, Value.string.injEq, true_and, and_true] at h
 obtain ⟨h0, h1, h2, h3, h4⟩ := h
 obtain rfl := map_inj eS_inj h0
 obtain rfl := map_inj eY_inj h1
 obtain rfl := map_inj eS_inj h2
 obtain rfl := h3
 obtain rfl := h4
 rfl
theorem eTableEntry_inj (x y : DTableEntry) (h : eTableEntry x = eTableEntry y) : x = y := by
 obtain ⟨x0, x1⟩ := x
 obtain ⟨y0, y1⟩ := y
 simp only [eTableEntry, List.cons.injEq, DT.at.injEq, DT.sl.injEq, Value.int.injEq, Value.bool.injEq, Value.string.injEq, true_and, and_true] at h
 obtain ⟨h0, h1⟩ := h
 obtain rfl := map_inj eS_inj h0
 obtain rfl := h1
 rfl
theorem eCacheEntry_inj (x y : DCacheEntry) (h : eCacheEntry x = eCacheEntry y) : x = y := by
 obtain ⟨⟨x0, x1, x2, x3, x4⟩, x5⟩ := x
 obtain ⟨⟨y0, y1, y2, y3, y4⟩, y5⟩ := y
 simp only [eCacheEntry, List.cons.injEq, DT.at.injEq, DT.sl.injEq, Value.int.injEq, Value.bool.injEq, Value.string.injEq, true_and, and_true] at h
 obtain ⟨h0, h1, h2, h3, h4, h5⟩ := h
 obtain rfl := map_inj eS_inj h0
 obtain rfl := map_inj eY_inj h1
 obtain rfl := map_inj eS_inj h2
 obtain rfl := h3
 obtain rfl := h4
 obtain rfl := h5
 rfl
theorem eRequester_inj (x y : DRequester) (h : eRequester x = eRequester y) : x = y := by
 obtain ⟨x0, x1, x2⟩ := x
 obtain ⟨y0, y1, y2⟩ := y
 simp only [eRequester, List.cons.injEq, DT.at.injEq, DT.sl.injEq, Value.int.injEq, Value.bool.injEq, Value.string.injEq, true_and, and_true] at h
 obtain ⟨h0, h1, h2⟩ := h
 obtain rfl := h0
 obtain rfl := h1
 obtain rfl := h2
 rfl
theorem ePendingInterest_inj (x y : DPendingInterest) (h : ePendingInterest x = ePendingInterest y) : x = y := by
 obtain ⟨x0, x1, x2⟩ := x
 obtain ⟨y0, y1, y2⟩ := y
 simp only [ePendingInterest, List.cons.injEq, DT.at.injEq, DT.sl.injEq, Value.int.injEq, Value.bool.injEq, Value.string.injEq, true_and, and_true] at h
 obtain ⟨h0, h1, h2⟩ := h
 obtain rfl := map_inj eS_inj h0
 obtain rfl := map_inj eRequester_inj h1
 obtain rfl := h2
 rfl
theorem eSeenNonce_inj (x y : DSeenNonce) (h : eSeenNonce x = eSeenNonce y) : x = y := by
 obtain ⟨x0, x1⟩ := x
 obtain ⟨y0, y1⟩ := y
 simp only [eSeenNonce, List.cons.injEq, DT.at.injEq, DT.sl.injEq, Value.int.injEq, Value.bool.injEq, Value.string.injEq, true_and, and_true] at h
 obtain ⟨h0, h1⟩ := h
 obtain rfl := map_inj eS_inj h0
 obtain rfl := h1
 rfl
theorem eRoute_inj (x y : DRoute) (h : eRoute x = eRoute y) : x = y := by
 obtain ⟨x0, x1, x2⟩ := x
 obtain ⟨y0, y1, y2⟩ := y
 simp only [eRoute, List.cons.injEq, DT.at.injEq, DT.sl.injEq, Value.int.injEq, Value.bool.injEq, Value.string.injEq, true_and, and_true] at h
 obtain ⟨h0, h1, h2⟩ := h
 obtain rfl := map_inj eS_inj h0
 obtain rfl := h1
 obtain rfl := h2
 rfl
theorem eMeasurement_inj (x y : DMeasurement) (h : eMeasurement x = eMeasurement y) : x = y := by
 obtain ⟨x0, x1, x2⟩ := x
 obtain ⟨y0, y1, y2⟩ := y
 simp only [eMeasurement, List.cons.injEq, DT.at.injEq, DT.sl.injEq, Value.int.injEq, Value.bool.injEq, Value.string.injEq, true_and, and_true] at h
 obtain ⟨h0, h1, h2⟩ := h
 obtain rfl := map_inj eS_inj h0
 obtain rfl := h1
 obtain rfl := h2
 rfl
theorem eNode_inj (x y : DNode) (h : eNode x = eNode y) : x = y := by
 obtain ⟨x0, ⟨x1, x2⟩, x3, x4, x5, x6, x7⟩ := x
 obtain ⟨y0, ⟨y1, y2⟩, y3, y4, y5, y6, y7⟩ := y
 simp only [eNode, List.cons.injEq, DT.at.injEq, DT.sl.injEq, Value.int.injEq, Value.bool.injEq, Value.string.injEq, true_and, and_true] at h
 obtain ⟨h0, h1, h2, h3, h4, h5, h6, h7⟩ := h
 obtain rfl := map_inj eData_inj h0
 obtain rfl := h1
 obtain rfl := map_inj eCacheEntry_inj h2
 obtain rfl := map_inj ePendingInterest_inj h3
 obtain rfl := map_inj eSeenNonce_inj h4
 obtain rfl := map_inj eRoute_inj h5
 obtain rfl := map_inj eMeasurement_inj h6
 obtain rfl := h7
 rfl
theorem ePacketInFlight_inj (x y : DPacketInFlight) (h : ePacketInFlight x = ePacketInFlight y) : x = y := by
 obtain ⟨x0, x1, x2, ⟨x3, x4, x5, x6⟩, ⟨x7, x8, x9, x10, x11⟩⟩ := x
 obtain ⟨y0, y1, y2, ⟨y3, y4, y5, y6⟩, ⟨y7, y8, y9, y10, y11⟩⟩ := y
 simp only [ePacketInFlight, List.cons.injEq, DT.at.injEq, DT.sl.injEq, Value.int.injEq, Value.bool.injEq, Value.string.injEq, true_and, and_true] at h
 obtain ⟨h0, h1, h2, h3, h4, h5, h6, h7, h8, h9, h10, h11⟩ := h
 obtain rfl := h0
 obtain rfl := h1
 obtain rfl := h2
 obtain rfl := map_inj eS_inj h3
 obtain rfl := h4
 obtain rfl := h5
 obtain rfl := h6
 obtain rfl := map_inj eS_inj h7
 obtain rfl := map_inj eY_inj h8
 obtain rfl := map_inj eS_inj h9
 obtain rfl := h10
 obtain rfl := h11
 rfl
theorem eConsumer_inj (x y : DConsumer) (h : eConsumer x = eConsumer y) : x = y := by
 obtain ⟨x0, x1, x2, x3, x4, x5, ⟨x6, x7, x8, x9, x10⟩⟩ := x
 obtain ⟨y0, y1, y2, y3, y4, y5, ⟨y6, y7, y8, y9, y10⟩⟩ := y
 simp only [eConsumer, List.cons.injEq, DT.at.injEq, DT.sl.injEq, Value.int.injEq, Value.bool.injEq, Value.string.injEq, true_and, and_true] at h
 obtain ⟨h0, h1, h2, h3, h4, h5, h6, h7, h8, h9, h10⟩ := h
 obtain rfl := h0
 obtain rfl := h1
 obtain rfl := map_inj eS_inj h2
 obtain rfl := h3
 obtain rfl := h4
 obtain rfl := h5
 obtain rfl := map_inj eS_inj h6
 obtain rfl := map_inj eY_inj h7
 obtain rfl := map_inj eS_inj h8
 obtain rfl := h9
 obtain rfl := h10
 rfl
theorem eNetwork_inj (x y : DNetwork) (h : eNetwork x = eNetwork y) : x = y := by
 obtain ⟨⟨x0, x1⟩, ⟨x2, x3, x4, x5⟩, x6, x7, x8, x9, x10, x11, x12, x13⟩ := x
 obtain ⟨⟨y0, y1⟩, ⟨y2, y3, y4, y5⟩, y6, y7, y8, y9, y10, y11, y12, y13⟩ := y
 simp only [eNetwork, List.cons.injEq, DT.at.injEq, DT.sl.injEq, Value.int.injEq, Value.bool.injEq, Value.string.injEq, true_and, and_true] at h
 obtain ⟨h0, h1, h2, h3, h4, h5, h6, h7, h8, h9, h10, h11, h12, h13⟩ := h
 obtain rfl := h0
 obtain rfl := map_inj eLink_inj h1
 obtain rfl := map_inj eKey_inj h2
 obtain rfl := map_inj eRule_inj h3
 obtain rfl := map_inj (fun x y h => map_inj eS_inj (by simpa using h)) h4
 obtain rfl := map_inj eData_inj h5
 obtain rfl := map_inj eTableEntry_inj h6
 obtain rfl := map_inj eNode_inj h7
 obtain rfl := h8
 obtain rfl := map_inj eI_inj h9
 obtain rfl := map_inj ePacketInFlight_inj h10
 obtain rfl := map_inj eConsumer_inj h11
 obtain rfl := h12
 obtain rfl := h13
 rfl
def aMNetwork (i : DNetwork × Int) : List Arg := [.a (eNetwork i.1), .v (.at (.int .i64 i.2))]
def rMNetwork (i : DNetwork × Int) : Option (List Arg) := (sLmarkNetwork i.1 i.2).bind fun r => some [.v (.at (.int .i64 r.2)), .a (eNetwork r.1), .v (.at (.int .i64 i.2))]
theorem aMNetwork_inj (i j : DNetwork × Int) (h : aMNetwork i = aMNetwork j) : i = j := by
 simp only [aMNetwork, List.cons.injEq, Arg.a.injEq, Arg.v.injEq, DT.at.injEq, Value.int.injEq, true_and, and_true] at h
 exact Prod.ext (eNetwork_inj _ _ h.1) h.2
theorem MNetwork_ok (w0 : World) (xs ys : List Arg) (h : xOf aMNetwork rMNetwork xs = some ys) : MutOk Tryz.prog w0 10 xs ys := by
 obtain ⟨⟨x, k⟩, rfl, hr⟩ := xOf_some h
 unfold rMNetwork sLmarkNetwork at hr
 dsimp only at hr
 split at hr
 ·rename_i hc
  simp only [Option.bind_some, Option.some.injEq] at hr
  subst hr
  exact mut_agg encowNetwork (fun _ _ => by kernel_rfl) (fun w cs fp ho => markNetwork_c cs x fp k w ho hc.1 hc.2)
 ·cases hr
def aMDataS (i : (List DData) × Int) : List Arg := [.v (DT.sl 73 5 (i.1.map eData)), .v (.at (.int .i64 i.2))]
def rMDataS (i : (List DData) × Int) : Option (List Arg) := (sLmarkDataS i.1 i.2).bind fun r => some [.v (.at (.int .i64 r.2)), .v (DT.sl 73 5 (r.1.map eData)), .v (.at (.int .i64 i.2))]
theorem aMDataS_inj (i j : (List DData) × Int) (h : aMDataS i = aMDataS j) : i = j := by
 simp only [aMDataS, List.cons.injEq, Arg.a.injEq, Arg.v.injEq, DT.at.injEq, DT.sl.injEq, Value.int.injEq, true_and, and_true] at h
 exact Prod.ext (map_inj eData_inj h.1) h.2
theorem MDataS_ok (w0 : World) (xs ys : List Arg) (h : xOf aMDataS rMDataS xs = some ys) : MutOk Tryz.prog w0 11 xs ys := by
 obtain ⟨⟨x, k⟩, rfl, hr⟩ := xOf_some h
 unfold rMDataS sLmarkDataS at hr
 dsimp only at hr
 split at hr
 ·rename_i hc
  simp only [Option.bind_some, Option.some.injEq] at hr
  subst hr
  exact mut_one (e := fun l => DT.sl 73 5 (l.map eData)) (EncOw.sl 73 encowData (by decide)) (fun _ _ => by kernel_rfl) (fun w v fp ho => markDataS_c v x fp k w ho hc.1 hc.2)
 ·cases hr
def XT : Fns := fun f xs => if f = (10 + 2 ^ 40) then (xOf aMNetwork rMNetwork) xs else (fun f xs => if f = (11 + 2 ^ 40) then (xOf aMDataS rMDataS) xs else (fun _ _ => none) f xs) f xs
theorem XT_ok (w0 : World) : Sound Tryz.prog XT w0 := (sound_mut (g := 10) rfl (MNetwork_ok w0) (sound_mut (g := 11) rfl (MDataS_ok w0) (sound_none _ w0)))
theorem xLmarkNetwork (a0 : DNetwork) (a1 : Int) : XT (10 + 2 ^ 40) (aMNetwork (a0, a1)) = rMNetwork (a0, a1) := by
 unfold XT
 exact (if_pos rfl).trans (xOf_at aMNetwork_inj (a0, a1))
theorem xLmarkDataS (a0 : (List DData)) (a1 : Int) : XT (11 + 2 ^ 40) (aMDataS (a0, a1)) = rMDataS (a0, a1) := by
 unfold XT
 exact (if_neg (by decide)).trans ((if_pos rfl).trans (xOf_at aMDataS_inj (a0, a1)))
end
end Go.Proofs.YtnomkohiiadkjaaGreat
