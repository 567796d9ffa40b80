import Derived.Test.YtgfmmfpafcfjpaaGreatKb
import Derived.Test.YtgfmmfpafcfjpaaGreatSd
namespace Go.Proofs.YtgfmmfpafcfjpaaGreat
open Go.RowKit
set_option linter.unusedVariables false
set_option linter.unusedSimpArgs false
set_option maxRecDepth 100000
noncomputable section
theorem pk (k : Pk) : prims = k.p ∧ (∀ {α : Type} (l : List α) (j : Nat), l[j]? = k.g l j) ∧ (∀ {α : Type} (l : List α) (i : Int), nthI l i = k.gn l i) ∧ (∀ {α : Type} (l : List α) (a b : Option Int), subI l a b = k.gs l a b) ∧ (∀ {α : Type} (l : List α) (a b : Nat), partI l a b = k.gp l a b) ∧ (∀ {α : Type} (l : List α) (j : Nat) (x : α), l.set j x = k.gt l j x) ∧ (∀ {α : Type} (a b : List α), a ++ b = k.ga a b) ∧ (∀ l, List.map eAdvertisement l = k.m .Advertisement l) ∧ (∀ l, List.map eBinding l = k.m .Binding l) ∧ (∀ l, List.map eCacheEntry l = k.m .CacheEntry l) ∧ (∀ l, List.map eConsumer l = k.m .Consumer l) ∧ (∀ l, List.map eContentStore l = k.m .ContentStore l) ∧ (∀ l, List.map eData l = k.m .Data l) ∧ (∀ l, List.map eInterest l = k.m .Interest l) ∧ (∀ l, List.map eKey l = k.m .Key l) ∧ (∀ l, List.map eLink l = k.m .Link l) ∧ (∀ l, List.map eMeasurement l = k.m .Measurement l) ∧ (∀ l, List.map eName l = k.m .Name l) ∧ (∀ l, List.map eNetwork l = k.m .Network l) ∧ (∀ l, List.map eNode l = k.m .Node l) ∧ (∀ l, List.map ePacketInFlight l = k.m .PacketInFlight l) ∧ (∀ l, List.map ePattern l = k.m .Name l) ∧ (∀ l, List.map ePendingInterest l = k.m .PendingInterest l) ∧ (∀ l, List.map eRequester l = k.m .Requester l) ∧ (∀ l, List.map eRoute l = k.m .Route l) ∧ (∀ l, List.map eRule l = k.m .Rule l) ∧ (∀ l, List.map eSeenNonce l = k.m .SeenNonce l) ∧ (∀ l, List.map eTableEntry l = k.m .TableEntry l) ∧ (∀ l, List.map eTopology l = k.m .Topology l) ∧ (∀ l, List.map eTrustPolicy l = k.m .TrustPolicy l) ∧ (∀ l, List.map eLint l = k.m .Lint l) ∧ (∀ l, List.map eB l = k.m .bool l) ∧ (∀ l, List.map eY l = k.m .byt l) ∧ (∀ l, List.map eI l = k.m .int l) ∧ (∀ l, List.map eS l = k.m .str l) := by
 obtain ⟨p, m, al, g, gn, gs, gp, gt, ga, rfl, rfl, rfl, rfl, rfl, rfl, rfl, rfl, rfl⟩ := k
 exact ⟨rfl, fun _ _ => rfl, fun _ _ => rfl, fun _ _ _ => rfl, fun _ _ _ => rfl, fun _ _ _ => rfl, fun _ _ => rfl, fun _ => rfl, fun _ => rfl, fun _ => rfl, fun _ => rfl, fun _ => rfl, fun _ => rfl, fun _ => rfl, fun _ => rfl, fun _ => rfl, fun _ => rfl, fun _ => rfl, fun _ => rfl, fun _ => rfl, fun _ => rfl, fun _ => rfl, fun _ => rfl, fun _ => rfl, fun _ => rfl, fun _ => rfl, fun _ => rfl, fun _ => rfl, fun _ => rfl, fun _ => rfl, fun _ => rfl, fun _ => rfl, fun _ => rfl, fun _ => rfl, fun _ => rfl⟩
theorem fl (k : Pk) : (∀ (l : List (DD .int)) (j : Nat) (z0 : Int), k.p.rset (k.p.opn (k.m .int l)) j [.at (.int .i64 z0)] = k.p.opn (k.m .int (k.gt l j z0))) ∧
 (∀ (A : List (List Cell)) (z0 : Int), k.p.rapp A [[.at (.int .i64 z0)]] = k.p.rapp A (k.p.opn (k.m .int [z0]))) ∧
 (∀ (z0 : Int), k.p.rlen [[.at (.int .i64 z0)]] = k.p.len (k.m .int [z0])) ∧
 (∀ (b : Bool) (l : List (DD .int)), k.p.lend b (k.m .int l) = some (k.p.opn (k.m .int l))) ∧
 (∀ (l : List (DD .str)) (j : Nat) (z0 : ByteArray), k.p.rset (k.p.opn (k.m .str l)) j [.at (.string z0)] = k.p.opn (k.m .str (k.gt l j z0))) ∧
 (∀ (b : Bool) (l : List (DD .str)), k.p.lend b (k.m .str l) = some (k.p.opn (k.m .str l))) ∧
 (∀ (l : List (DD .byt)) (j : Nat) (z0 : UInt8), k.p.rset (k.p.opn (k.m .byt l)) j [.at (.int .u8 (k.p.yI z0))] = k.p.opn (k.m .byt (k.gt l j z0))) ∧
 (∀ (A : List (List Cell)) (z0 : UInt8), k.p.rapp A [[.at (.int .u8 (k.p.yI z0))]] = k.p.rapp A (k.p.opn (k.m .byt [z0]))) ∧
 (∀ (z0 : UInt8), k.p.rlen [[.at (.int .u8 (k.p.yI z0))]] = k.p.len (k.m .byt [z0])) ∧
 (∀ (b : Bool) (l : List (DD .byt)), k.p.lend b (k.m .byt l) = some (k.p.opn (k.m .byt l))) ∧
 (∀ (l : List (DD .Link)) (j : Nat) (z0 : Int) (z1 : Int), k.p.rset (k.p.opn (k.m .Link l)) j [.at (.int .i64 z0), .at (.int .i64 z1)] = k.p.opn (k.m .Link (k.gt l j (⟨z0, z1⟩ : DLink)))) ∧
 (∀ (A : List (List Cell)) (z0 : Int) (z1 : Int), k.p.rapp A [[.at (.int .i64 z0), .at (.int .i64 z1)]] = k.p.rapp A (k.p.opn (k.m .Link [(⟨z0, z1⟩ : DLink)]))) ∧
 (∀ (z0 : Int) (z1 : Int), k.p.rlen [[.at (.int .i64 z0), .at (.int .i64 z1)]] = k.p.len (k.m .Link [(⟨z0, z1⟩ : DLink)])) ∧
 (∀ (l : List (DD .Name)) (j : Nat) (z0 : (List ByteArray)), k.p.rset (k.p.opn (k.m .Name l)) j [.own 9 1 (k.m .str z0)] = k.p.opn (k.m .Name (k.gt l j z0))) ∧
 (∀ (A : List (List Cell)) (z0 : (List ByteArray)), k.p.rapp A [[.own 9 1 (k.m .str z0)]] = k.p.rapp A (k.p.opn (k.m .Name [z0]))) ∧
 (∀ (z0 : (List ByteArray)), k.p.rlen [[.own 9 1 (k.m .str z0)]] = k.p.len (k.m .Name [z0])) ∧
 (∀ (l : List (DD .Key)) (j : Nat) (z0 : (List ByteArray)) (z1 : Int), k.p.rset (k.p.opn (k.m .Key l)) j [.own 9 1 (k.m .str z0), .at (.int .i64 z1)] = k.p.opn (k.m .Key (k.gt l j (⟨z0, z1⟩ : DKey)))) ∧
 (∀ (l : List (DD .Rule)) (j : Nat) (z0 : (List ByteArray)) (z1 : (List ByteArray)), k.p.rset (k.p.opn (k.m .Rule l)) j [.own 9 1 (k.m .str z0), .own 9 1 (k.m .str z1)] = k.p.opn (k.m .Rule (k.gt l j (⟨z0, z1⟩ : DRule)))) ∧
 (∀ (l : List (DD .Data)) (j : Nat) (z0 : (List ByteArray)) (z1 : (List UInt8)) (z2 : (List ByteArray)) (z3 : Int) (z4 : Int), k.p.rset (k.p.opn (k.m .Data l)) j [.own 9 1 (k.m .str z0), .own 5 1 (k.m .byt z1), .own 9 1 (k.m .str z2), .at (.int .i64 z3), .at (.int .i64 z4)] = k.p.opn (k.m .Data (k.gt l j (⟨z0, z1, z2, z3, z4⟩ : DData)))) ∧
 (∀ (l : List (DD .TableEntry)) (j : Nat) (z0 : (List ByteArray)) (z1 : Int), k.p.rset (k.p.opn (k.m .TableEntry l)) j [.own 9 1 (k.m .str z0), .at (.int .i64 z1)] = k.p.opn (k.m .TableEntry (k.gt l j (⟨z0, z1⟩ : DTableEntry)))) ∧
 (∀ (l : List (DD .CacheEntry)) (j : Nat) (z0 : (List ByteArray)) (z1 : (List UInt8)) (z2 : (List ByteArray)) (z3 : Int) (z4 : Int) (z5 : Int), k.p.rset (k.p.opn (k.m .CacheEntry l)) j [.own 9 1 (k.m .str z0), .own 5 1 (k.m .byt z1), .own 9 1 (k.m .str z2), .at (.int .i64 z3), .at (.int .i64 z4), .at (.int .i64 z5)] = k.p.opn (k.m .CacheEntry (k.gt l j (⟨(⟨z0, z1, z2, z3, z4⟩ : DData), z5⟩ : DCacheEntry)))) ∧
 (∀ (l : List (DD .Requester)) (j : Nat) (z0 : Int) (z1 : Int) (z2 : Int), k.p.rset (k.p.opn (k.m .Requester l)) j [.at (.int .i64 z0), .at (.int .i64 z1), .at (.int .i64 z2)] = k.p.opn (k.m .Requester (k.gt l j (⟨z0, z1, z2⟩ : DRequester)))) ∧
 (∀ (l : List (DD .PendingInterest)) (j : Nat) (z0 : (List ByteArray)) (z1 : (List DRequester)) (z2 : Int), k.p.rset (k.p.opn (k.m .PendingInterest l)) j [.own 9 1 (k.m .str z0), .own 294 3 (k.m .Requester z1), .at (.int .i64 z2)] = k.p.opn (k.m .PendingInterest (k.gt l j (⟨z0, z1, z2⟩ : DPendingInterest)))) ∧
 (∀ (l : List (DD .SeenNonce)) (j : Nat) (z0 : (List ByteArray)) (z1 : Int), k.p.rset (k.p.opn (k.m .SeenNonce l)) j [.own 9 1 (k.m .str z0), .at (.int .i64 z1)] = k.p.opn (k.m .SeenNonce (k.gt l j (⟨z0, z1⟩ : DSeenNonce)))) ∧
 (∀ (l : List (DD .Route)) (j : Nat) (z0 : (List ByteArray)) (z1 : Int) (z2 : Int), k.p.rset (k.p.opn (k.m .Route l)) j [.own 9 1 (k.m .str z0), .at (.int .i64 z1), .at (.int .i64 z2)] = k.p.opn (k.m .Route (k.gt l j (⟨z0, z1, z2⟩ : DRoute)))) ∧
 (∀ (l : List (DD .Measurement)) (j : Nat) (z0 : (List ByteArray)) (z1 : Int) (z2 : Int), k.p.rset (k.p.opn (k.m .Measurement l)) j [.own 9 1 (k.m .str z0), .at (.int .i64 z1), .at (.int .i64 z2)] = k.p.opn (k.m .Measurement (k.gt l j (⟨z0, z1, z2⟩ : DMeasurement)))) ∧
 (∀ (l : List (DD .Node)) (j : Nat) (z0 : (List DData)) (z1 : Int) (z2 : (List DCacheEntry)) (z3 : (List DPendingInterest)) (z4 : (List DSeenNonce)) (z5 : (List DRoute)) (z6 : (List DMeasurement)) (z7 : Int), k.p.rset (k.p.opn (k.m .Node l)) j [.own 97 5 (k.m .Data z0), .at (.int .i64 z1), .own 291 6 (k.m .CacheEntry z2), .own 223 3 (k.m .PendingInterest z3), .own 226 2 (k.m .SeenNonce z4), .own 229 3 (k.m .Route z5), .own 232 3 (k.m .Measurement z6), .at (.int .i64 z7)] = k.p.opn (k.m .Node (k.gt l j (⟨z0, (⟨z1, z2⟩ : DContentStore), z3, z4, z5, z6, z7⟩ : DNode)))) ∧
 (∀ (l : List (DD .PacketInFlight)) (j : Nat) (z0 : Int) (z1 : Int) (z2 : Bool) (z3 : (List ByteArray)) (z4 : Int) (z5 : Int) (z6 : Int) (z7 : (List ByteArray)) (z8 : (List UInt8)) (z9 : (List ByteArray)) (z10 : Int) (z11 : Int), k.p.rset (k.p.opn (k.m .PacketInFlight l)) j [.at (.int .i64 z0), .at (.int .i64 z1), .at (.bool z2), .own 9 1 (k.m .str z3), .at (.int .i64 z4), .at (.int .i64 z5), .at (.int .i64 z6), .own 9 1 (k.m .str z7), .own 5 1 (k.m .byt z8), .own 9 1 (k.m .str z9), .at (.int .i64 z10), .at (.int .i64 z11)] = k.p.opn (k.m .PacketInFlight (k.gt l j (⟨z0, z1, z2, (⟨z3, z4, z5, z6⟩ : DInterest), (⟨z7, z8, z9, z10, z11⟩ : DData)⟩ : DPacketInFlight)))) ∧
 (∀ (l : List (DD .Consumer)) (j : Nat) (z0 : Int) (z1 : Int) (z2 : (List ByteArray)) (z3 : Int) (z4 : Int) (z5 : Bool) (z6 : (List ByteArray)) (z7 : (List UInt8)) (z8 : (List ByteArray)) (z9 : Int) (z10 : Int), k.p.rset (k.p.opn (k.m .Consumer l)) j [.at (.int .i64 z0), .at (.int .i64 z1), .own 9 1 (k.m .str z2), .at (.int .i64 z3), .at (.int .i64 z4), .at (.bool z5), .own 9 1 (k.m .str z6), .own 5 1 (k.m .byt z7), .own 9 1 (k.m .str z8), .at (.int .i64 z9), .at (.int .i64 z10)] = k.p.opn (k.m .Consumer (k.gt l j (⟨z0, z1, z2, z3, z4, z5, (⟨z6, z7, z8, z9, z10⟩ : DData)⟩ : DConsumer)))) ∧
 (∀ (A : List (List Cell)) (z0 : ByteArray) (z1 : ByteArray), k.p.rapp A [[.at (.string z0), .at (.string z1)]] = k.p.rapp A (k.p.opn (k.m .Binding [(⟨z0, z1⟩ : DBinding)]))) ∧
 (∀ (z0 : ByteArray) (z1 : ByteArray), k.p.rlen [[.at (.string z0), .at (.string z1)]] = k.p.len (k.m .Binding [(⟨z0, z1⟩ : DBinding)])) ∧
 (∀ (b : Bool) (l : List (DD .Binding)), k.p.lend b (k.m .Binding l) = some (k.p.opn (k.m .Binding l))) ∧
 (∀ (A : List (List Cell)) (z0 : Int) (z1 : Int) (z2 : (List Int)) (z3 : (List (List ByteArray))), k.p.rapp A [[.at (.int .i64 z0), .at (.int .i64 z1), .own 3 1 (k.m .int z2), .own 95 1 (k.m .Name z3)]] = k.p.rapp A (k.p.opn (k.m .Advertisement [(⟨z0, z1, z2, z3⟩ : DAdvertisement)]))) ∧
 (∀ (z0 : Int) (z1 : Int) (z2 : (List Int)) (z3 : (List (List ByteArray))), k.p.rlen [[.at (.int .i64 z0), .at (.int .i64 z1), .own 3 1 (k.m .int z2), .own 95 1 (k.m .Name z3)]] = k.p.len (k.m .Advertisement [(⟨z0, z1, z2, z3⟩ : DAdvertisement)])) :=
 ⟨fun l j z0 => k_rset k .int l j z0,
 fun A z0 => k_rappL k .int A z0,
 fun z0 => k_rlenL k .int z0,
 (by obtain ⟨p, m, al, g, gn, gs, gp, gt, ga, rfl, rfl, rfl, rfl, rfl, rfl, rfl, rfl, rfl⟩ := k; exact fun b l => lend_gen (eD .int) (fun _ _ => rfl) b l),
 fun l j z0 => k_rset k .str l j z0,
 (by obtain ⟨p, m, al, g, gn, gs, gp, gt, ga, rfl, rfl, rfl, rfl, rfl, rfl, rfl, rfl, rfl⟩ := k; exact fun b l => lend_gen (eD .str) (fun _ _ => rfl) b l),
 fun l j z0 => k_rset k .byt l j z0,
 fun A z0 => k_rappL k .byt A z0,
 fun z0 => k_rlenL k .byt z0,
 (by obtain ⟨p, m, al, g, gn, gs, gp, gt, ga, rfl, rfl, rfl, rfl, rfl, rfl, rfl, rfl, rfl⟩ := k; exact fun b l => lend_gen (eD .byt) (fun _ _ => rfl) b l),
 fun l j z0 z1 => k_rset k .Link l j (⟨z0, z1⟩ : DLink),
 fun A z0 z1 => k_rappL k .Link A (⟨z0, z1⟩ : DLink),
 fun z0 z1 => k_rlenL k .Link (⟨z0, z1⟩ : DLink),
 fun l j z0 => k_rset k .Name l j z0,
 fun A z0 => k_rappL k .Name A z0,
 fun z0 => k_rlenL k .Name z0,
 fun l j z0 z1 => k_rset k .Key l j (⟨z0, z1⟩ : DKey),
 fun l j z0 z1 => k_rset k .Rule l j (⟨z0, z1⟩ : DRule),
 fun l j z0 z1 z2 z3 z4 => k_rset k .Data l j (⟨z0, z1, z2, z3, z4⟩ : DData),
 fun l j z0 z1 => k_rset k .TableEntry l j (⟨z0, z1⟩ : DTableEntry),
 fun l j z0 z1 z2 z3 z4 z5 => k_rset k .CacheEntry l j (⟨(⟨z0, z1, z2, z3, z4⟩ : DData), z5⟩ : DCacheEntry),
 fun l j z0 z1 z2 => k_rset k .Requester l j (⟨z0, z1, z2⟩ : DRequester),
 fun l j z0 z1 z2 => k_rset k .PendingInterest l j (⟨z0, z1, z2⟩ : DPendingInterest),
 fun l j z0 z1 => k_rset k .SeenNonce l j (⟨z0, z1⟩ : DSeenNonce),
 fun l j z0 z1 z2 => k_rset k .Route l j (⟨z0, z1, z2⟩ : DRoute),
 fun l j z0 z1 z2 => k_rset k .Measurement l j (⟨z0, z1, z2⟩ : DMeasurement),
 fun l j z0 z1 z2 z3 z4 z5 z6 z7 => k_rset k .Node l j (⟨z0, (⟨z1, z2⟩ : DContentStore), z3, z4, z5, z6, z7⟩ : DNode),
 fun l j z0 z1 z2 z3 z4 z5 z6 z7 z8 z9 z10 z11 => k_rset k .PacketInFlight l j (⟨z0, z1, z2, (⟨z3, z4, z5, z6⟩ : DInterest), (⟨z7, z8, z9, z10, z11⟩ : DData)⟩ : DPacketInFlight),
 fun l j z0 z1 z2 z3 z4 z5 z6 z7 z8 z9 z10 => k_rset k .Consumer l j (⟨z0, z1, z2, z3, z4, z5, (⟨z6, z7, z8, z9, z10⟩ : DData)⟩ : DConsumer),
 fun A z0 z1 => k_rappL k .Binding A (⟨z0, z1⟩ : DBinding),
 fun z0 z1 => k_rlenL k .Binding (⟨z0, z1⟩ : DBinding),
 (by obtain ⟨p, m, al, g, gn, gs, gp, gt, ga, rfl, rfl, rfl, rfl, rfl, rfl, rfl, rfl, rfl⟩ := k; exact fun b l => lend_gen (eD .Binding) (fun _ _ => rfl) b l),
 fun A z0 z1 z2 z3 => k_rappL k .Advertisement A (⟨z0, z1, z2, z3⟩ : DAdvertisement),
 fun z0 z1 z2 z3 => k_rlenL k .Advertisement (⟨z0, z1, z2, z3⟩ : DAdvertisement)⟩
noncomputable def GL : List (Nat × FE) := [(171, gF Tryz.f171 []),
 (65, gF Tryz.f65 []),
 (177, gF Tryz.f177 [(5, [0, 1, 5]), (1048576, [0, 1])]),
 (72, gF Tryz.f72 []),
 (254, gF Tryz.f254 []),
 (172, gF Tryz.f172 [(5, [0, 1, 5]), (1048576, [0, 1])]),
 (312, gF Tryz.f312 []),
 (255, gF Tryz.f255 []),
 (173, gF Tryz.f173 [(5, [0, 1, 5]), (1048576, [0, 1])]),
 (174, gF Tryz.f174 [(5, [0, 1, 5]), (1048576, [0, 1])]),
 (178, gF Tryz.f178 []),
 (73, gF Tryz.f73 []),
 (27, gF Tryz.f27 [(5, [0, 1, 5]), (1048576, [0, 1])]),
 (66, gF Tryz.f66 []),
 (175, gF Tryz.f175 []),
 (67, gF Tryz.f67 [(5, [0, 1, 5]), (1048576, [0, 1])]),
 (217, gF Tryz.f217 []),
 (107, gF Tryz.f107 [(5, [0, 1, 5]), (1048576, [0, 1])]),
 (28, gF Tryz.f28 []),
 (218, gF Tryz.f218 []),
 (108, gF Tryz.f108 []),
 (29, gF Tryz.f29 [(5, [0, 1, 5]), (1048576, [0, 1])]),
 (109, gF Tryz.f109 []),
 (30, gF Tryz.f30 [(5, [0, 1, 5]), (1048576, [0, 1])]),
 (110, gF Tryz.f110 []),
 (31, gF Tryz.f31 [(5, [0, 1, 5]), (1048576, [0, 1])]),
 (111, gF Tryz.f111 []),
 (32, gF Tryz.f32 [(5, [0, 1, 5]), (1048576, [0, 1])]),
 (6, gF Tryz.f6 []),
 (68, gF Tryz.f68 [(5, [0, 1, 5]), (1048576, [0, 1])]),
 (69, gF Tryz.f69 []),
 (33, gF Tryz.f33 []),
 (176, gF Tryz.f176 []),
 (70, gF Tryz.f70 [(5, [0, 1, 5]), (1048576, [0, 1])]),
 (18, gF Tryz.f18 []),
 (71, gF Tryz.f71 [(5, [0, 1, 5]), (1048576, [0, 1])]),
 (17, gF Tryz.f17 []),
 (266, gF Tryz.f266 []),
 (189, gF Tryz.f189 [(3, [0, 3, 4]), (1048576, [0, 3])]),
 (82, gF Tryz.f82 []),
 (195, gF Tryz.f195 [(3, [0, 3, 4]), (1048576, [0, 3])]),
 (89, gF Tryz.f89 []),
 (267, gF Tryz.f267 []),
 (190, gF Tryz.f190 [(3, [0, 3, 4]), (1048576, [0, 3])]),
 (321, gF Tryz.f321 []),
 (268, gF Tryz.f268 []),
 (191, gF Tryz.f191 [(3, [0, 3, 4]), (1048576, [0, 3])]),
 (192, gF Tryz.f192 [(3, [0, 3, 4]), (1048576, [0, 3])]),
 (196, gF Tryz.f196 [(3, [0, 3, 4]), (1048576, [0, 3])]),
 (90, gF Tryz.f90 []),
 (36, gF Tryz.f36 [(3, [0, 3, 4]), (1048576, [0, 3])]),
 (83, gF Tryz.f83 []),
 (193, gF Tryz.f193 []),
 (84, gF Tryz.f84 [(3, [0, 3, 4]), (1048576, [0, 3])]),
 (228, gF Tryz.f228 []),
 (133, gF Tryz.f133 [(3, [0, 3, 4]), (1048576, [0, 3])]),
 (37, gF Tryz.f37 []),
 (289, gF Tryz.f289 []),
 (229, gF Tryz.f229 [(3, [0, 3, 4]), (1048576, [0, 3])]),
 (134, gF Tryz.f134 []),
 (38, gF Tryz.f38 [(3, [0, 3, 4]), (1048576, [0, 3])]),
 (135, gF Tryz.f135 []),
 (39, gF Tryz.f39 [(3, [0, 3, 4]), (1048576, [0, 3])]),
 (136, gF Tryz.f136 []),
 (40, gF Tryz.f40 [(3, [0, 3, 4]), (1048576, [0, 3])]),
 (137, gF Tryz.f137 []),
 (41, gF Tryz.f41 [(3, [0, 3, 4]), (1048576, [0, 3])]),
 (9, gF Tryz.f9 []),
 (85, gF Tryz.f85 [(3, [0, 3, 4]), (1048576, [0, 3])]),
 (86, gF Tryz.f86 [(3, [0, 3, 4]), (1048576, [0, 3])]),
 (42, gF Tryz.f42 []),
 (194, gF Tryz.f194 []),
 (87, gF Tryz.f87 [(3, [0, 3, 4]), (1048576, [0, 3])]),
 (21, gF Tryz.f21 []),
 (88, gF Tryz.f88 [(3, [0, 3, 4]), (1048576, [0, 3])]),
 (20, gF Tryz.f20 []),
 (346, gF Tryz.f346 []),
 (345, gF Tryz.f345 []),
 (313, gF Tryz.f313 []),
 (314, gF Tryz.f314 []),
 (257, gF Tryz.f257 [(2, [2, 3, 5]), (1048576, [0, 2, 3])]),
 (181, gF Tryz.f181 []),
 (256, gF Tryz.f256 []),
 (179, gF Tryz.f179 [(3, [0, 3, 5, 6]), (1048576, [0, 5])]),
 (74, gF Tryz.f74 []),
 (119, gF Tryz.f119 []),
 (180, gF Tryz.f180 []),
 (75, gF Tryz.f75 []),
 (76, gF Tryz.f76 [(2, [0, 3, 5]), (1048576, [0])]),
 (350, gF Tryz.f350 [(2, [0, 3, 5]), (1048576, [0])]),
 (316, gF Tryz.f316 []),
 (347, gF Tryz.f347 []),
 (285, gF Tryz.f285 [(4, [0, 3]), (1048576, [0])]),
 (220, gF Tryz.f220 [(2, [1, 3]), (1048576, [0, 1])]),
 (352, gF Tryz.f352 [(4, [1, 5]), (1048576, [0, 1, 5])]),
 (385, gF Tryz.f385 []),
 (373, gF Tryz.f373 [(6, [3, 5, 6]), (1048576, [0, 5])]),
 (372, gF Tryz.f372 [(3, [0, 3, 4]), (1048576, [0, 3])]),
 (349, gF Tryz.f349 []),
 (376, gF Tryz.f376 []),
 (353, gF Tryz.f353 [(3, [0, 3, 4]), (1048576, [0, 3])]),
 (348, gF Tryz.f348 []),
 (315, gF Tryz.f315 []),
 (258, gF Tryz.f258 []),
 (387, gF Tryz.f387 []),
 (386, gF Tryz.f386 [(2, [1, 3]), (1048576, [0, 1])]),
 (388, gF Tryz.f388 [(2, [0, 1, 5]), (1048576, [0])]),
 (374, gF Tryz.f374 [(6, [3, 4, 8, 9, 10]), (1048576, [0, 3, 4, 8, 9])]),
 (389, gF Tryz.f389 [(2, [1, 2, 5]), (1048576, [0])]),
 (375, gF Tryz.f375 [(4, [1, 3]), (1048576, [0])]),
 (351, gF Tryz.f351 []),
 (317, gF Tryz.f317 [(2, [0, 4, 5, 7]), (1048576, [0])]),
 (259, gF Tryz.f259 []),
 (187, gF Tryz.f187 []),
 (260, gF Tryz.f260 [(2, [2, 3, 5]), (1048576, [0])]),
 (286, gF Tryz.f286 []),
 (319, gF Tryz.f319 []),
 (318, gF Tryz.f318 []),
 (261, gF Tryz.f261 [(4, [2, 3, 4, 7]), (1048576, [0])]),
 (182, gF Tryz.f182 [(2, [2, 3, 4, 8]), (1048576, [0])]),
 (183, gF Tryz.f183 []),
 (77, gF Tryz.f77 []),
 (78, gF Tryz.f78 [(2, [0, 1, 5]), (1048576, [0])]),
 (188, gF Tryz.f188 [(3, [1, 2, 3, 6, 7, 8]), (1048576, [0, 6, 7])]),
 (81, gF Tryz.f81 []),
 (264, gF Tryz.f264 []),
 (185, gF Tryz.f185 [(2, [1, 3]), (1048576, [0, 1])]),
 (265, gF Tryz.f265 [(2, [1, 2, 3, 7]), (1048576, [0])]),
 (186, gF Tryz.f186 [(3, [1, 2, 5, 6]), (1048576, [0, 5])]),
 (80, gF Tryz.f80 [(9, [1, 2, 3, 7, 8, 9, 10]), (5, [1, 2, 3, 7, 8]), (1048578, [0, 1, 2, 3, 7, 8, 9]), (1048576, [0, 7])]),
 (262, gF Tryz.f262 [(2, [0, 1, 5]), (1048576, [0])]),
 (320, gF Tryz.f320 []),
 (263, gF Tryz.f263 []),
 (184, gF Tryz.f184 [(16, [0, 5, 8, 9, 10]), (13, [0, 5, 8, 9]), (10, [0, 5, 8]), (3, [0, 1, 5, 6]), (1048582, [0, 0, 5, 8, 9]), (1048580, [0, 0, 5, 8]), (1048578, [0, 5]), (1048576, [0, 0, 5])]),
 (79, gF Tryz.f79 [(4, [5, 6, 7]), (1048576, [0, 5])]),
 (19, gF Tryz.f19 []),
 (270, gF Tryz.f270 [(4, [0, 1, 12, 13]), (1048576, [0])]),
 (269, gF Tryz.f269 []),
 (197, gF Tryz.f197 [(3, [0, 3, 5, 8, 9, 10]), (1048576, [0, 5])]),
 (91, gF Tryz.f91 []),
 (145, gF Tryz.f145 []),
 (198, gF Tryz.f198 []),
 (92, gF Tryz.f92 []),
 (201, gF Tryz.f201 []),
 (200, gF Tryz.f200 []),
 (199, gF Tryz.f199 [(2, [0, 1, 7, 8]), (1048576, [0])]),
 (93, gF Tryz.f93 []),
 (323, gF Tryz.f323 [(2, [3, 7, 8, 9]), (1048576, [0])]),
 (354, gF Tryz.f354 []),
 (293, gF Tryz.f293 [(2, [0, 6, 7]), (1048576, [0, 0])]),
 (292, gF Tryz.f292 []),
 (338, gF Tryz.f338 [(2, [0, 1, 7, 8]), (1048576, [0])]),
 (291, gF Tryz.f291 []),
 (234, gF Tryz.f234 []),
 (290, gF Tryz.f290 []),
 (361, gF Tryz.f361 [(4, [1, 5]), (1048576, [0, 1, 5])]),
 (391, gF Tryz.f391 []),
 (379, gF Tryz.f379 [(5, [5, 19, 20, 21]), (1048576, [0, 5])]),
 (378, gF Tryz.f378 [(3, [3, 9, 10, 11]), (1048576, [0, 3])]),
 (377, gF Tryz.f377 [(11, [6, 25, 26, 27]), (3, [0, 3, 9, 10, 11]), (1048578, [0, 6]), (1048576, [0, 0, 3])]),
 (356, gF Tryz.f356 []),
 (382, gF Tryz.f382 []),
 (362, gF Tryz.f362 [(3, [3, 6, 7, 8]), (1048576, [0, 3])]),
 (355, gF Tryz.f355 []),
 (322, gF Tryz.f322 []),
 (271, gF Tryz.f271 []),
 (392, gF Tryz.f392 []),
 (396, gF Tryz.f396 []),
 (393, gF Tryz.f393 [(2, [1, 6, 7, 8]), (1048576, [0, 1])]),
 (395, gF Tryz.f395 []),
 (394, gF Tryz.f394 [(2, [0, 1, 7, 8]), (1048576, [0])]),
 (380, gF Tryz.f380 [(5, [2, 3, 4, 8, 25, 26, 27]), (1048576, [0, 2, 3, 4, 8])]),
 (400, gF Tryz.f400 [(2, [0, 1, 7, 8]), (1048576, [0])]),
 (397, gF Tryz.f397 []),
 (381, gF Tryz.f381 [(4, [1, 17, 18, 19]), (1048576, [0])]),
 (359, gF Tryz.f359 []),
 (358, gF Tryz.f358 []),
 (357, gF Tryz.f357 [(2, [0, 1, 7, 8]), (1048576, [0])]),
 (324, gF Tryz.f324 []),
 (272, gF Tryz.f272 []),
 (280, gF Tryz.f280 []),
 (207, gF Tryz.f207 []),
 (326, gF Tryz.f326 []),
 (360, gF Tryz.f360 [(2, [0, 1, 7, 8]), (1048576, [0])]),
 (325, gF Tryz.f325 []),
 (273, gF Tryz.f273 []),
 (295, gF Tryz.f295 []),
 (329, gF Tryz.f329 []),
 (328, gF Tryz.f328 [(4, [0, 1, 12, 13]), (1048576, [0])]),
 (327, gF Tryz.f327 []),
 (274, gF Tryz.f274 []),
 (202, gF Tryz.f202 [(2, [2, 3, 4, 8])]),
 (203, gF Tryz.f203 []),
 (94, gF Tryz.f94 []),
 (335, gF Tryz.f335 [(2, [0, 1, 7, 8]), (1048576, [0])]),
 (281, gF Tryz.f281 []),
 (208, gF Tryz.f208 [(3, [1, 2, 6, 7, 14, 15, 16]), (1048576, [0, 6, 7])]),
 (97, gF Tryz.f97 []),
 (342, gF Tryz.f342 []),
 (306, gF Tryz.f306 []),
 (305, gF Tryz.f305 [(3, [3, 6, 7, 8]), (1048576, [0, 3])]),
 (278, gF Tryz.f278 []),
 (205, gF Tryz.f205 [(2, [1, 6, 7, 8]), (1048576, [0, 1])]),
 (334, gF Tryz.f334 []),
 (333, gF Tryz.f333 [(2, [0, 1, 7, 8]), (1048576, [0])]),
 (279, gF Tryz.f279 []),
 (206, gF Tryz.f206 [(3, [1, 2, 5, 11, 12]), (1048576, [0, 5])]),
 (96, gF Tryz.f96 [(9, [1, 2, 3, 7, 8, 9, 22, 23, 32, 33, 34]), (5, [1, 2, 3, 7, 22, 23]), (1048578, [0, 1, 2, 3, 7, 9, 22, 23]), (1048576, [0, 7])]),
 (364, gF Tryz.f364 []),
 (330, gF Tryz.f330 []),
 (275, gF Tryz.f275 [(8, [7, 8]), (1048576, [0, 7])]),
 (332, gF Tryz.f332 []),
 (331, gF Tryz.f331 [(2, [0, 1, 7, 8]), (1048576, [0])]),
 (276, gF Tryz.f276 []),
 (277, gF Tryz.f277 []),
 (204, gF Tryz.f204 [(10, [0, 5, 6, 7, 32]), (7, [0, 5, 6, 7]), (1048578, [0, 0, 5, 6, 7]), (1048576, [0, 5])]),
 (95, gF Tryz.f95 []),
 (22, gF Tryz.f22 []),
 (282, gF Tryz.f282 []),
 (209, gF Tryz.f209 [(4, [0, 1, 5]), (1048576, [0])]),
 (98, gF Tryz.f98 []),
 (215, gF Tryz.f215 [(4, [0, 1, 5]), (1048576, [0])]),
 (105, gF Tryz.f105 []),
 (283, gF Tryz.f283 []),
 (210, gF Tryz.f210 [(4, [0, 1, 5]), (1048576, [0])]),
 (336, gF Tryz.f336 []),
 (284, gF Tryz.f284 []),
 (211, gF Tryz.f211 [(4, [0, 1, 5]), (1048576, [0])]),
 (212, gF Tryz.f212 [(4, [0, 1, 5]), (1048576, [0])]),
 (216, gF Tryz.f216 [(4, [0, 1, 5]), (1048576, [0])]),
 (106, gF Tryz.f106 []),
 (45, gF Tryz.f45 [(4, [0, 1, 5]), (1048576, [0])]),
 (99, gF Tryz.f99 []),
 (213, gF Tryz.f213 []),
 (100, gF Tryz.f100 [(4, [0, 1, 5]), (1048576, [0])]),
 (252, gF Tryz.f252 []),
 (158, gF Tryz.f158 [(4, [0, 1, 5]), (1048576, [0])]),
 (46, gF Tryz.f46 []),
 (311, gF Tryz.f311 []),
 (253, gF Tryz.f253 [(4, [0, 1, 5]), (1048576, [0])]),
 (159, gF Tryz.f159 []),
 (47, gF Tryz.f47 [(4, [0, 1, 5]), (1048576, [0])]),
 (160, gF Tryz.f160 []),
 (48, gF Tryz.f48 [(4, [0, 1, 5]), (1048576, [0])]),
 (161, gF Tryz.f161 []),
 (49, gF Tryz.f49 [(4, [0, 1, 5]), (1048576, [0])]),
 (162, gF Tryz.f162 []),
 (50, gF Tryz.f50 [(4, [0, 1, 5]), (1048576, [0])]),
 (12, gF Tryz.f12 []),
 (101, gF Tryz.f101 [(4, [0, 1, 5]), (1048576, [0])]),
 (102, gF Tryz.f102 [(4, [0, 1, 5]), (1048576, [0])]),
 (51, gF Tryz.f51 []),
 (214, gF Tryz.f214 []),
 (103, gF Tryz.f103 [(4, [0, 1, 5]), (1048576, [0])]),
 (24, gF Tryz.f24 []),
 (104, gF Tryz.f104 [(4, [0, 1, 5]), (1048576, [0])]),
 (23, gF Tryz.f23 []),
 (4, gF Tryz.f4 []),
 (25, gF Tryz.f25 [(2, [1, 3]), (1048576, [0])]),
 (26, gF Tryz.f26 [(2, [1, 6, 7, 8]), (1048576, [0])]),
 (5, gF Tryz.f5 [])]
noncomputable def GT (f : FuncId) : Option FE := (GL.find? fun x => Nat.beq x.1 f).map (·.2)
end
end Go.Proofs.YtgfmmfpafcfjpaaGreat
namespace Go.Proofs.YtgfmmfpafcfjpaaGreat
open Go.RowKit
set_option linter.unusedVariables false
set_option linter.unusedSimpArgs false
set_option maxRecDepth 100000
noncomputable section
structure A7 (k : Pk) (F : Fns) : Prop where
 a390 : ∀ (a1 : Int), F 390 [.v (.at (.slice none 0 0)), .v (.at (.int .i64 a1))] = (sCGrow_int a1).bind fun r => some [vl k .int r]
structure G1 (k : Pk) (F : Fns) : Prop where
 a171 : ∀ (a0 : (List DLink)) (a1 : Int), F 171 [vl k .Link a0, vi a1] = (sLszLinkS a0 a1).bind fun r => some [vi r]
 a177 : ∀ (a0 : (List ByteArray)) (a1 : Int), F 177 [vl k .str a0, vi a1] = (sLszStringS a0 a1).bind fun r => some [vi r]
 a178 : ∀ (a0 : (List UInt8)) (a1 : Int), F 178 [vl k .byt a0, vi a1] = (sLszByteS a0 a1).bind fun r => some [vi r]
 a218 : ∀ (a0 : (List DRequester)) (a1 : Int), F 218 [vl k .Requester a0, vi a1] = (sLszRequesterS a0 a1).bind fun r => some [vi r]
 a69 : ∀ (a0 : (List Int)) (a1 : Int), F 69 [vl k .int a0, vi a1] = (sLszIntS a0 a1).bind fun r => some [vi r]
 a266 : ∀ (a0 : DLink), F 266 [va k .Link a0] = (sLtoLink a0).bind fun r => some [va k .Link r]
 a195 : ∀ (a0 : (List ByteArray)), F 195 [vl k .str a0] = (sLtoStringS a0).bind fun r => some [vl k .str r]
 a196 : ∀ (a0 : (List UInt8)), F 196 [vl k .byt a0] = (sLtoByteS a0).bind fun r => some [vl k .byt r]
 a289 : ∀ (a0 : DRequester), F 289 [va k .Requester a0] = (sLtoRequester a0).bind fun r => some [va k .Requester r]
 a86 : ∀ (a0 : (List Int)), F 86 [vl k .int a0] = (sLtoIntS a0).bind fun r => some [vl k .int r]
 a346 : ∀ (a0 : Int) (a1 : Int), F 346 [vi a0, vi a1] = (sSMin a0 a1).bind fun r => some [vi r]
 a345 : ∀ (a0 : Int) (a1 : Int), F 345 [vi a0, vi a1] = (sSMax a0 a1).bind fun r => some [vi r]
 a314 : ∀ (a0 : ByteArray) (a1 : ByteArray), F 314 [vs a0, vs a1] = (sSl4Cmp a0 a1).bind fun r => some [vi r]
 a119 : ∀ (a0 : Int) (a1 : Int) (a2 : Int), F 119 [vi a0, vi a1, vi a2] = (sSl1In a0 a1 a2).bind fun r => some [vb r]
structure G2 (k : Pk) (F : Fns) : Prop where
 a372 : ∀ (a0 : (List UInt8)), F 372 [vl k .byt a0] = (sSBytesToInts a0).bind fun r => some [vl k .int r]
 a388 : ∀ (a0 : (List DBinding)) (a1 : ByteArray), F 388 [vl k .Binding a0, vs a1] = (sSl5Find a0 a1).bind fun r => some [vi r]
 a389 : ∀ (a0 : (List ByteArray)) (a1 : ByteArray), F 389 [va k .Name a0, vs a1] = (sSl10Has a0 a1).bind fun r => some [vb r]
 a187 : ∀ (a0 : (List ByteArray)), F 187 [va k .Name a0] = (sSl4Copy a0).bind fun r => some [va k .Name r]
 a286 : ∀ (a0 : DData) (a1 : Int), F 286 [va k .Data a0, vi a1] = (sSFreshAt a0 a1).bind fun r => some [vb r]
 a318 : ∀ (a0 : (List UInt8)) (a1 : (List UInt8)), F 318 [vl k .byt a0, vl k .byt a1] = (sSEqualBytes a0 a1).bind fun r => some [vb r]
 a78 : ∀ (a0 : (List Int)) (a1 : Int), F 78 [vl k .int a0, vi a1] = (sSl19Has a0 a1).bind fun r => some [vb r]
 a264 : ∀ (a0 : DLink) (a1 : DLink), F 264 [va k .Link a0, va k .Link a1] = (sSl19Pair a0 a1).bind fun r => some [vb r]
 a265 : ∀ (a0 : DTopology) (a1 : Int) (a2 : Int), F 265 [va k .Topology a0, vi a1, vi a2] = (sSLinkIndex a0 a1 a2).bind fun r => some [vi r]
 a262 : ∀ (a0 : (List DAdvertisement)) (a1 : Int), F 262 [vl k .Advertisement a0, vi a1] = (sSFindAdvertisement a0 a1).bind fun r => some [vi r]
 a270 : ∀ (a0 : (List ByteArray)) (a1 : (List ByteArray)), F 270 [vl k .str a0, vl k .str a1] = (sCEqual_string a0 a1).bind fun r => some [vb r]
 a145 : ∀ (a0 : Int) (a1 : Int) (a2 : Int), F 145 [vi a0, vi a1, vi a2] = (sIInRange a0 a1 a2).bind fun r => some [vb r]
 a378 : ∀ (a0 : (List UInt8)), F 378 [vl k .byt a0] = (sIBytesToInts a0).bind fun r => some [vl k .int r]
 a377 : ∀ (a0 : (List (List Int))), F 377 [vl k .Lint a0] = (sCConcat_int a0).bind fun r => some [vl k .int r]
structure G3 (k : Pk) (F : Fns) : Prop where
 a396 : ∀ (a0 : ByteArray), F 396 [vs a0] = (sIisVariable a0).bind fun r => some [vb r]
 a395 : ∀ (a0 : DBinding) (k0 : ByteArray), F 395 [va k .Binding a0, .v (.ptr [.at (.string k0)])] = (sIMatch_1 a0 k0).bind fun r => some [vb r]
 a400 : ∀ (a0 : (List ByteArray)) (a1 : ByteArray), F 400 [vl k .str a0, vs a1] = (sCIndex_string a0 a1).bind fun r => some [vi r]
 a295 : ∀ (a0 : DData) (a1 : Int), F 295 [va k .Data a0, vi a1] = (sIFreshAt a0 a1).bind fun r => some [vb r]
 a328 : ∀ (a0 : (List UInt8)) (a1 : (List UInt8)), F 328 [vl k .byt a0, vl k .byt a1] = (sCEqual_byte a0 a1).bind fun r => some [vb r]
 a335 : ∀ (a0 : (List Int)) (a1 : Int), F 335 [vl k .int a0, vi a1] = (sCIndex_int a0 a1).bind fun r => some [vi r]
 a342 : ∀ (a0 : Int), F 342 [vi a0] = (s_cmp_isNaN_int a0).bind fun r => some [vb r]
 a305 : ∀ (a0 : (List Int)), F 305 [vl k .int a0] = (s_cmp_Or_int a0).bind fun r => some [vi r]
 a334 : ∀ (a0 : DLink) (k0 : Int) (k1 : Int), F 334 [va k .Link a0, .v (.ptr [.at (.int .i64 k0)]), .v (.ptr [.at (.int .i64 k1)])] = (sILinkIndex_1 a0 k0 k1).bind fun r => some [vb r]
 a364 : ∀ (a0 : Int) (a1 : Int), F 364 [.v (.at (.int .u64 a0)), .v (.at (.int .u64 a1))] = (s_bits_Mul64 a0 a1).bind fun r => some [.v (.at (.int .u64 r.1)), .v (.at (.int .u64 r.2))]
 a332 : ∀ (a0 : DAdvertisement) (k0 : Int), F 332 [va k .Advertisement a0, .v (.ptr [.at (.int .i64 k0)])] = (sIFindAdvertisement_1 a0 k0).bind fun r => some [vb r]
 a282 : ∀ (a0 : DLink) (a1 : DLink), F 282 [va k .Link a0, va k .Link a1] = (sLeqLink a0 a1).bind fun r => some [vb r]
 a215 : ∀ (a0 : (List ByteArray)) (a1 : (List ByteArray)), F 215 [vl k .str a0, vl k .str a1] = (sLeqStringS a0 a1).bind fun r => some [vb r]
 a216 : ∀ (a0 : (List UInt8)) (a1 : (List UInt8)), F 216 [vl k .byt a0, vl k .byt a1] = (sLeqByteS a0 a1).bind fun r => some [vb r]
structure G4 (k : Pk) (F : Fns) : Prop where
 a311 : ∀ (a0 : DRequester) (a1 : DRequester), F 311 [va k .Requester a0, va k .Requester a1] = (sLeqRequester a0 a1).bind fun r => some [vb r]
 a102 : ∀ (a0 : (List Int)) (a1 : (List Int)), F 102 [vl k .int a0, vl k .int a1] = (sLeqIntS a0 a1).bind fun r => some [vb r]
structure A4 (k : Pk) (F : Fns) : Prop where
 a290 : ∀ (a0 : (List UInt8)), F 290 [vl k .byt a0] = (sCClone_byte a0).bind fun r => some [vl k .byt r]
structure A8 (k : Pk) (F : Fns) : Prop where
 a392 : ∀ (a0 : (List DBinding)), F 392 [vl k .Binding a0] = (sCClone_Binding a0).bind fun r => some [vl k .Binding r]
structure A9 (k : Pk) (F : Fns) : Prop where
 a280 : ∀ (a0 : (List ByteArray)), F 280 [vl k .str a0] = (sCClone_string a0).bind fun r => some [vl k .str r]
structure G5 (k : Pk) (F : Fns) : Prop where
 a65 : ∀ (a0 : DTopology) (a1 : Int), F 65 [va k .Topology a0, vi a1] = (sLszTopology a0 a1).bind fun r => some [vi r]
 a72 : ∀ (a0 : (List ByteArray)) (a1 : Int), F 72 [va k .Name a0, vi a1] = (sLszName a0 a1).bind fun r => some [vi r]
 a312 : ∀ (a0 : (List ByteArray)) (a1 : Int), F 312 [va k .Name a0, vi a1] = (sLszPattern a0 a1).bind fun r => some [vi r]
 a189 : ∀ (a0 : (List DLink)), F 189 [vl k .Link a0] = (sLtoLinkS a0).bind fun r => some [vl k .Link r]
 a89 : ∀ (a0 : (List ByteArray)), F 89 [va k .Name a0] = (sLtoName a0).bind fun r => some [va k .Name r]
 a321 : ∀ (a0 : (List ByteArray)), F 321 [va k .Name a0] = (sLtoPattern a0).bind fun r => some [va k .Name r]
 a229 : ∀ (a0 : (List DRequester)), F 229 [vl k .Requester a0] = (sLtoRequesterS a0).bind fun r => some [vl k .Requester r]
 a313 : ∀ (a0 : (List ByteArray)) (a1 : Int), F 313 [va k .Name a0, vi a1] = (sSTruncate a0 a1).bind fun r => some [va k .Name r]
 a257 : ∀ (a0 : (List ByteArray)) (a1 : (List ByteArray)), F 257 [va k .Name a0, va k .Name a1] = (sSCompareNames a0 a1).bind fun r => some [vi r]
 a180 : ∀ (a0 : Int) (a1 : Int), F 180 [vi a0, vi a1] = (sSl19In a0 a1).bind fun r => some [vb r]
 a347 : ∀ (a0 : Int), F 347 [vi a0] = (sSValidSecret a0).bind fun r => some [vb r]
 a285 : ∀ (a0 : ByteArray), F 285 [vs a0] = (sSValidPart a0).bind fun r => some [vb r]
 a352 : ∀ (a0 : (List UInt8)) (a1 : Int), F 352 [vl k .byt a0, vi a1] = (sSAppendVarint a0 a1).bind fun r => some [vl k .byt r]
 a376 : ∀ (a0 : Int) (a1 : Int), F 376 [vi a0, vi a1] = (sSMod a0 a1).bind fun r => some [vi r]
structure G6 (k : Pk) (F : Fns) : Prop where
 a387 : ∀ (a0 : ByteArray), F 387 [vs a0] = (sSl5Letter a0).bind fun r => some [vb r]
 a185 : ∀ (a0 : DTopology), F 185 [va k .Topology a0] = (sSValidTopology a0).bind fun r => some [vb r]
 a186 : ∀ (a0 : DTopology) (a1 : Int), F 186 [va k .Topology a0, vi a1] = (sSNeighborsOf a0 a1).bind fun r => some [vl k .int r]
 a320 : ∀ (a0 : (List DAdvertisement)) (a1 : Int) (a2 : Int), F 320 [vl k .Advertisement a0, vi a1, vi a2] = (sSl21Nbr a0 a1 a2).bind fun r => some [vb r]
 a269 : ∀ (a0 : (List ByteArray)) (a1 : (List ByteArray)), F 269 [va k .Name a0, va k .Name a1] = (sIHasPrefix a0 a1).bind fun r => some [vb r]
 a198 : ∀ (a0 : Int) (a1 : Int), F 198 [vi a0, vi a1] = (sIinSet a0 a1).bind fun r => some [vb r]
 a201 : ∀ (a0 : (List ByteArray)) (a1 : (List ByteArray)), F 201 [va k .Name a0, va k .Name a1] = (sIEqualNames a0 a1).bind fun r => some [vb r]
 a354 : ∀ (a0 : Int), F 354 [vi a0] = (sIValidSecret a0).bind fun r => some [vb r]
 a293 : ∀ (a0 : ByteArray), F 293 [vs a0] = (sIValidPart a0).bind fun r => some [vb r]
 a382 : ∀ (a0 : Int) (a1 : Int), F 382 [vi a0, vi a1] = (sIMod a0 a1).bind fun r => some [vi r]
 a394_395 : ∀ (a0 : (List DBinding)) (c1_0 : ByteArray), F 394 [vl k .Binding a0, .v (.fn 395 [.ptr [.at (.string c1_0)]])] = (sCIndexFunc_Binding__Match_1 a0 c1_0).bind fun r => some [vi r]
 a397 : ∀ (a0 : (List ByteArray)) (a1 : ByteArray), F 397 [vl k .str a0, vs a1] = (sCContains_string a0 a1).bind fun r => some [vb r]
 a207 : ∀ (a0 : (List ByteArray)), F 207 [va k .Name a0] = (sIcopyName a0).bind fun r => some [va k .Name r]
 a281 : ∀ (a0 : (List Int)) (a1 : Int), F 281 [vl k .int a0, vi a1] = (sCContains_int a0 a1).bind fun r => some [vb r]
structure G7 (k : Pk) (F : Fns) : Prop where
 a306 : ∀ (a0 : Int) (a1 : Int), F 306 [vi a0, vi a1] = (s_cmp_Compare_int a0 a1).bind fun r => some [vi r]
 a333_334 : ∀ (a0 : (List DLink)) (c1_0 : Int) (c1_1 : Int), F 333 [vl k .Link a0, .v (.fn 334 [.ptr [.at (.int .i64 c1_0)], .ptr [.at (.int .i64 c1_1)]])] = (sCIndexFunc_Link__LinkIndex_1 a0 c1_0 c1_1).bind fun r => some [vi r]
 a330 : ∀ (a0 : Int) (a1 : Int), F 330 [.v (.at (.int .u64 a0)), .v (.at (.int .u64 a1))] = (s_bits_Mul a0 a1).bind fun r => some [.v (.at (.int .u64 r.1)), .v (.at (.int .u64 r.2))]
 a331_332 : ∀ (a0 : (List DAdvertisement)) (c1_0 : Int), F 331 [vl k .Advertisement a0, .v (.fn 332 [.ptr [.at (.int .i64 c1_0)]])] = (sCIndexFunc_Advertisement__FindAdvertisement_1 a0 c1_0).bind fun r => some [vi r]
 a209 : ∀ (a0 : (List DLink)) (a1 : (List DLink)), F 209 [vl k .Link a0, vl k .Link a1] = (sLeqLinkS a0 a1).bind fun r => some [vb r]
 a105 : ∀ (a0 : (List ByteArray)) (a1 : (List ByteArray)), F 105 [va k .Name a0, va k .Name a1] = (sLeqName a0 a1).bind fun r => some [vb r]
 a336 : ∀ (a0 : (List ByteArray)) (a1 : (List ByteArray)), F 336 [va k .Name a0, va k .Name a1] = (sLeqPattern a0 a1).bind fun r => some [vb r]
 a253 : ∀ (a0 : (List DRequester)) (a1 : (List DRequester)), F 253 [vl k .Requester a0, vl k .Requester a1] = (sLeqRequesterS a0 a1).bind fun r => some [vb r]
structure A5 (k : Pk) (F : Fns) : Prop where
 a361 : ∀ (a0 : (List UInt8)) (a1 : Int), F 361 [vl k .byt a0, vi a1] = (sIAppendVarint a0 a1).bind fun r => some [vl k .byt r]
structure G8 (k : Pk) (F : Fns) : Prop where
 a254 : ∀ (a0 : DKey) (a1 : Int), F 254 [va k .Key a0, vi a1] = (sLszKey a0 a1).bind fun r => some [vi r]
 a255 : ∀ (a0 : DRule) (a1 : Int), F 255 [va k .Rule a0, vi a1] = (sLszRule a0 a1).bind fun r => some [vi r]
 a174 : ∀ (a0 : (List (List ByteArray))) (a1 : Int), F 174 [vl k .Name a0, vi a1] = (sLszNameS a0 a1).bind fun r => some [vi r]
 a73 : ∀ (a0 : DData) (a1 : Int), F 73 [va k .Data a0, vi a1] = (sLszData a0 a1).bind fun r => some [vi r]
 a175 : ∀ (a0 : DTableEntry) (a1 : Int), F 175 [va k .TableEntry a0, vi a1] = (sLszTableEntry a0 a1).bind fun r => some [vi r]
 a108 : ∀ (a0 : DPendingInterest) (a1 : Int), F 108 [va k .PendingInterest a0, vi a1] = (sLszPendingInterest a0 a1).bind fun r => some [vi r]
 a109 : ∀ (a0 : DSeenNonce) (a1 : Int), F 109 [va k .SeenNonce a0, vi a1] = (sLszSeenNonce a0 a1).bind fun r => some [vi r]
 a110 : ∀ (a0 : DRoute) (a1 : Int), F 110 [va k .Route a0, vi a1] = (sLszRoute a0 a1).bind fun r => some [vi r]
 a111 : ∀ (a0 : DMeasurement) (a1 : Int), F 111 [va k .Measurement a0, vi a1] = (sLszMeasurement a0 a1).bind fun r => some [vi r]
 a33 : ∀ (a0 : DInterest) (a1 : Int), F 33 [va k .Interest a0, vi a1] = (sLszInterest a0 a1).bind fun r => some [vi r]
 a82 : ∀ (a0 : DTopology), F 82 [va k .Topology a0] = (sLtoTopology a0).bind fun r => some [va k .Topology r]
 a267 : ∀ (a0 : DKey), F 267 [va k .Key a0] = (sLtoKey a0).bind fun r => some [va k .Key r]
 a268 : ∀ (a0 : DRule), F 268 [va k .Rule a0] = (sLtoRule a0).bind fun r => some [va k .Rule r]
 a192 : ∀ (a0 : (List (List ByteArray))), F 192 [vl k .Name a0] = (sLtoNameS a0).bind fun r => some [vl k .Name r]
structure G9 (k : Pk) (F : Fns) : Prop where
 a90 : ∀ (a0 : DData), F 90 [va k .Data a0] = (sLtoData a0).bind fun r => some [va k .Data r]
 a193 : ∀ (a0 : DTableEntry), F 193 [va k .TableEntry a0] = (sLtoTableEntry a0).bind fun r => some [va k .TableEntry r]
 a134 : ∀ (a0 : DPendingInterest), F 134 [va k .PendingInterest a0] = (sLtoPendingInterest a0).bind fun r => some [va k .PendingInterest r]
 a135 : ∀ (a0 : DSeenNonce), F 135 [va k .SeenNonce a0] = (sLtoSeenNonce a0).bind fun r => some [va k .SeenNonce r]
 a136 : ∀ (a0 : DRoute), F 136 [va k .Route a0] = (sLtoRoute a0).bind fun r => some [va k .Route r]
 a137 : ∀ (a0 : DMeasurement), F 137 [va k .Measurement a0] = (sLtoMeasurement a0).bind fun r => some [va k .Measurement r]
 a42 : ∀ (a0 : DInterest), F 42 [va k .Interest a0] = (sLtoInterest a0).bind fun r => some [va k .Interest r]
 a181 : ∀ (a0 : (List ByteArray)) (a1 : (List ByteArray)), F 181 [va k .Name a0, va k .Name a1] = (sSEqualNames a0 a1).bind fun r => some [vb r]
 a75 : ∀ (a0 : DNetwork) (a1 : Int), F 75 [va k .Network a0, vi a1] = (sSIsUp a0 a1).bind fun r => some [vb r]
 a220 : ∀ (a0 : (List ByteArray)), F 220 [va k .Name a0] = (sSValidName a0).bind fun r => some [vb r]
 a385 : ∀ (a0 : (List UInt8)) (a1 : (List UInt8)), F 385 [vl k .byt a0, vl k .byt a1] = (sSAppendBytes a0 a1).bind fun r => some [vl k .byt r]
 a353 : ∀ (a0 : (List Int)), F 353 [vl k .int a0] = (sSDigest a0).bind fun r => some [vi r]
 a386 : ∀ (a0 : (List ByteArray)), F 386 [va k .Name a0] = (sSValidPattern a0).bind fun r => some [vb r]
 a188 : ∀ (a0 : DTopology) (a1 : (List Int)) (a2 : Int), F 188 [va k .Topology a0, vl k .int a1, vi a2] = (sSRemoveFailed a0 a1 a2).bind fun r => some [va k .Topology r]
structure G10 (k : Pk) (F : Fns) : Prop where
 a80 : ∀ (a0 : DTopology) (a1 : (List DTableEntry)) (a2 : Int), F 80 [va k .Topology a0, vl k .TableEntry a1, vi a2] = (sSAdvertisementsOf a0 a1 a2).bind fun r => some [vl k .Advertisement r]
 a263 : ∀ (a0 : (List DAdvertisement)) (a1 : Int) (a2 : Int), F 263 [vl k .Advertisement a0, vi a1, vi a2] = (sSIsBidirectional a0 a1 a2).bind fun r => some [vb r]
 a197 : ∀ (a0 : (List DTableEntry)) (a1 : (List ByteArray)), F 197 [vl k .TableEntry a0, va k .Name a1] = (sILongestPrefix a0 a1).bind fun r => some [vi r]
 a92 : ∀ (a0 : DNetwork) (a1 : Int), F 92 [va k .Network a0, vi a1] = (sIIsUp a0 a1).bind fun r => some [vb r]
 a200 : ∀ (a0 : DData) (k0 : (List ByteArray)), F 200 [va k .Data a0, .v (.ptr [.sl 9 1 (k.m .str k0)])] = (sIlocalAt_1 a0 k0).bind fun r => some [vb r]
 a323 : ∀ (a0 : (List DKey)) (a1 : (List ByteArray)), F 323 [vl k .Key a0, va k .Name a1] = (sISecretOf a0 a1).bind fun r => some [vi r]
 a292 : ∀ (a0 : ByteArray), F 292 [vs a0] = (sIValidName_1 a0).bind fun r => some [vb r]
 a391 : ∀ (a0 : (List UInt8)) (a1 : (List UInt8)), F 391 [vl k .byt a0, vl k .byt a1] = (sIAppendBytes a0 a1).bind fun r => some [vl k .byt r]
 a362 : ∀ (a0 : (List Int)), F 362 [vl k .int a0] = (sIDigest a0).bind fun r => some [vi r]
 a393 : ∀ (a0 : (List ByteArray)), F 393 [va k .Name a0] = (sIValidPattern a0).bind fun r => some [vb r]
 a326 : ∀ (a0 : (List ByteArray)) (k0 : (List ByteArray)), F 326 [va k .Name a0, .v (.ptr [.sl 9 1 (k.m .str k0)])] = (sIIsAnchor_1 a0 k0).bind fun r => some [vb r]
 a208 : ∀ (a0 : DTopology) (a1 : (List Int)) (a2 : Int), F 208 [va k .Topology a0, vl k .int a1, vi a2] = (sIRemoveFailed a0 a1 a2).bind fun r => some [va k .Topology r]
 a278 : ∀ (a0 : DLink) (a1 : DLink), F 278 [va k .Link a0, va k .Link a1] = (sIcompareLinks a0 a1).bind fun r => some [vi r]
 a279 : ∀ (a0 : DTopology) (a1 : Int) (a2 : Int), F 279 [va k .Topology a0, vi a1, vi a2] = (sILinkIndex a0 a1 a2).bind fun r => some [vi r]
structure G11 (k : Pk) (F : Fns) : Prop where
 a276 : ∀ (a0 : (List DAdvertisement)) (a1 : Int), F 276 [vl k .Advertisement a0, vi a1] = (sIFindAdvertisement a0 a1).bind fun r => some [vi r]
 a98 : ∀ (a0 : DTopology) (a1 : DTopology), F 98 [va k .Topology a0, va k .Topology a1] = (sLeqTopology a0 a1).bind fun r => some [vb r]
 a283 : ∀ (a0 : DKey) (a1 : DKey), F 283 [va k .Key a0, va k .Key a1] = (sLeqKey a0 a1).bind fun r => some [vb r]
 a284 : ∀ (a0 : DRule) (a1 : DRule), F 284 [va k .Rule a0, va k .Rule a1] = (sLeqRule a0 a1).bind fun r => some [vb r]
 a212 : ∀ (a0 : (List (List ByteArray))) (a1 : (List (List ByteArray))), F 212 [vl k .Name a0, vl k .Name a1] = (sLeqNameS a0 a1).bind fun r => some [vb r]
 a106 : ∀ (a0 : DData) (a1 : DData), F 106 [va k .Data a0, va k .Data a1] = (sLeqData a0 a1).bind fun r => some [vb r]
 a213 : ∀ (a0 : DTableEntry) (a1 : DTableEntry), F 213 [va k .TableEntry a0, va k .TableEntry a1] = (sLeqTableEntry a0 a1).bind fun r => some [vb r]
 a159 : ∀ (a0 : DPendingInterest) (a1 : DPendingInterest), F 159 [va k .PendingInterest a0, va k .PendingInterest a1] = (sLeqPendingInterest a0 a1).bind fun r => some [vb r]
 a160 : ∀ (a0 : DSeenNonce) (a1 : DSeenNonce), F 160 [va k .SeenNonce a0, va k .SeenNonce a1] = (sLeqSeenNonce a0 a1).bind fun r => some [vb r]
 a161 : ∀ (a0 : DRoute) (a1 : DRoute), F 161 [va k .Route a0, va k .Route a1] = (sLeqRoute a0 a1).bind fun r => some [vb r]
 a162 : ∀ (a0 : DMeasurement) (a1 : DMeasurement), F 162 [va k .Measurement a0, va k .Measurement a1] = (sLeqMeasurement a0 a1).bind fun r => some [vb r]
 a51 : ∀ (a0 : DInterest) (a1 : DInterest), F 51 [va k .Interest a0, va k .Interest a1] = (sLeqInterest a0 a1).bind fun r => some [vb r]
structure A10 (k : Pk) (F : Fns) : Prop where
 a275 : ∀ (a0 : (List Int)) (a1 : Int), F 275 [vl k .int a0, vi a1] = (sCRepeat_int a0 a1).bind fun r => some [vl k .int r]
structure G12 (k : Pk) (F : Fns) : Prop where
 a172 : ∀ (a0 : (List DKey)) (a1 : Int), F 172 [vl k .Key a0, vi a1] = (sLszKeyS a0 a1).bind fun r => some [vi r]
 a173 : ∀ (a0 : (List DRule)) (a1 : Int), F 173 [vl k .Rule a0, vi a1] = (sLszRuleS a0 a1).bind fun r => some [vi r]
 a27 : ∀ (a0 : (List DData)) (a1 : Int), F 27 [vl k .Data a0, vi a1] = (sLszDataS a0 a1).bind fun r => some [vi r]
 a67 : ∀ (a0 : (List DTableEntry)) (a1 : Int), F 67 [vl k .TableEntry a0, vi a1] = (sLszTableEntryS a0 a1).bind fun r => some [vi r]
 a217 : ∀ (a0 : DCacheEntry) (a1 : Int), F 217 [va k .CacheEntry a0, vi a1] = (sLszCacheEntry a0 a1).bind fun r => some [vi r]
 a29 : ∀ (a0 : (List DPendingInterest)) (a1 : Int), F 29 [vl k .PendingInterest a0, vi a1] = (sLszPendingInterestS a0 a1).bind fun r => some [vi r]
 a30 : ∀ (a0 : (List DSeenNonce)) (a1 : Int), F 30 [vl k .SeenNonce a0, vi a1] = (sLszSeenNonceS a0 a1).bind fun r => some [vi r]
 a31 : ∀ (a0 : (List DRoute)) (a1 : Int), F 31 [vl k .Route a0, vi a1] = (sLszRouteS a0 a1).bind fun r => some [vi r]
 a32 : ∀ (a0 : (List DMeasurement)) (a1 : Int), F 32 [vl k .Measurement a0, vi a1] = (sLszMeasurementS a0 a1).bind fun r => some [vi r]
 a176 : ∀ (a0 : DPacketInFlight) (a1 : Int), F 176 [va k .PacketInFlight a0, vi a1] = (sLszPacketInFlight a0 a1).bind fun r => some [vi r]
 a18 : ∀ (a0 : DConsumer) (a1 : Int), F 18 [va k .Consumer a0, vi a1] = (sLszConsumer a0 a1).bind fun r => some [vi r]
 a190 : ∀ (a0 : (List DKey)), F 190 [vl k .Key a0] = (sLtoKeyS a0).bind fun r => some [vl k .Key r]
 a191 : ∀ (a0 : (List DRule)), F 191 [vl k .Rule a0] = (sLtoRuleS a0).bind fun r => some [vl k .Rule r]
 a36 : ∀ (a0 : (List DData)), F 36 [vl k .Data a0] = (sLtoDataS a0).bind fun r => some [vl k .Data r]
structure G13 (k : Pk) (F : Fns) : Prop where
 a84 : ∀ (a0 : (List DTableEntry)), F 84 [vl k .TableEntry a0] = (sLtoTableEntryS a0).bind fun r => some [vl k .TableEntry r]
 a228 : ∀ (a0 : DCacheEntry), F 228 [va k .CacheEntry a0] = (sLtoCacheEntry a0).bind fun r => some [va k .CacheEntry r]
 a38 : ∀ (a0 : (List DPendingInterest)), F 38 [vl k .PendingInterest a0] = (sLtoPendingInterestS a0).bind fun r => some [vl k .PendingInterest r]
 a39 : ∀ (a0 : (List DSeenNonce)), F 39 [vl k .SeenNonce a0] = (sLtoSeenNonceS a0).bind fun r => some [vl k .SeenNonce r]
 a40 : ∀ (a0 : (List DRoute)), F 40 [vl k .Route a0] = (sLtoRouteS a0).bind fun r => some [vl k .Route r]
 a41 : ∀ (a0 : (List DMeasurement)), F 41 [vl k .Measurement a0] = (sLtoMeasurementS a0).bind fun r => some [vl k .Measurement r]
 a194 : ∀ (a0 : DPacketInFlight), F 194 [va k .PacketInFlight a0] = (sLtoPacketInFlight a0).bind fun r => some [va k .PacketInFlight r]
 a21 : ∀ (a0 : DConsumer), F 21 [va k .Consumer a0] = (sLtoConsumer a0).bind fun r => some [va k .Consumer r]
 a256 : ∀ (a0 : (List ByteArray)) (a1 : (List ByteArray)), F 256 [va k .Name a0, va k .Name a1] = (sSHasPrefix a0 a1).bind fun r => some [vb r]
 a76 : ∀ (a0 : (List DData)) (a1 : (List ByteArray)), F 76 [vl k .Data a0, va k .Name a1] = (sSl16Find a0 a1).bind fun r => some [vi r]
 a350 : ∀ (a0 : (List DKey)) (a1 : (List ByteArray)), F 350 [vl k .Key a0, va k .Name a1] = (sSl9Find a0 a1).bind fun r => some [vi r]
 a374 : ∀ (a0 : (List ByteArray)) (a1 : (List ByteArray)) (a2 : (List DBinding)), F 374 [va k .Name a0, va k .Name a1, vl k .Binding a2] = (sSMatch a0 a1 a2).bind fun r => some [vl k .Binding r.1, vb r.2]
 a375 : ∀ (a0 : DRule), F 375 [va k .Rule a0] = (sSValidRule a0).bind fun r => some [vb r]
 a260 : ∀ (a0 : DTrustPolicy) (a1 : (List ByteArray)), F 260 [va k .TrustPolicy a0, va k .Name a1] = (sSIsAnchor a0 a1).bind fun r => some [vb r]
structure G14 (k : Pk) (F : Fns) : Prop where
 a183 : ∀ (a0 : DData), F 183 [va k .Data a0] = (sSValidData a0).bind fun r => some [vb r]
 a81 : ∀ (a0 : DNetwork), F 81 [va k .Network a0] = (sSLiveTopology a0).bind fun r => some [va k .Topology r]
 a184 : ∀ (a0 : (List DAdvertisement)) (a1 : Int), F 184 [vl k .Advertisement a0, vi a1] = (sSDistances a0 a1).bind fun r => some [vl k .int r]
 a91 : ∀ (a0 : DNetwork) (a1 : (List ByteArray)), F 91 [va k .Network a0, va k .Name a1] = (sIProducerOf a0 a1).bind fun r => some [vi r]
 a199_200 : ∀ (a0 : (List DData)) (c1_0 : (List ByteArray)), F 199 [vl k .Data a0, .v (.fn 200 [.ptr [.sl 9 1 (k.m .str c1_0)]])] = (sCIndexFunc_Data__localAt_1 a0 c1_0).bind fun r => some [vi r]
 a338_292 : ∀ (a0 : (List ByteArray)), F 338 [vl k .str a0, .v (.fn 292 [])] = (sCIndexFunc_string__ValidName_1 a0).bind fun r => some [vi r]
 a355 : ∀ (a0 : Int) (a1 : (List Int)), F 355 [vi a0, vl k .int a1] = (sIComputeMAC a0 a1).bind fun r => some [vi r]
 a381 : ∀ (a0 : DRule), F 381 [va k .Rule a0] = (sIValidRule a0).bind fun r => some [vb r]
 a360_326 : ∀ (a0 : (List (List ByteArray))) (c1_0 : (List ByteArray)), F 360 [vl k .Name a0, .v (.fn 326 [.ptr [.sl 9 1 (k.m .str c1_0)]])] = (sCIndexFunc_Name__IsAnchor_1 a0 c1_0).bind fun r => some [vi r]
 a329 : ∀ (a0 : (List DKey)) (a1 : (List ByteArray)), F 329 [vl k .Key a0, va k .Name a1] = (sIKeyDigest a0 a1).bind fun r => some [vl k .byt r]
 a97 : ∀ (a0 : DNetwork), F 97 [va k .Network a0] = (sILiveTopology a0).bind fun r => some [va k .Topology r]
 a205 : ∀ (a0 : DTopology), F 205 [va k .Topology a0] = (sIValidTopology a0).bind fun r => some [vb r]
 a206 : ∀ (a0 : DTopology) (a1 : Int), F 206 [va k .Topology a0, vi a1] = (sINeighborsOf a0 a1).bind fun r => some [vl k .int r]
 a277 : ∀ (a0 : (List DAdvertisement)) (a1 : Int) (a2 : Int), F 277 [vl k .Advertisement a0, vi a1, vi a2] = (sIIsBidirectional a0 a1 a2).bind fun r => some [vb r]
structure G15 (k : Pk) (F : Fns) : Prop where
 a210 : ∀ (a0 : (List DKey)) (a1 : (List DKey)), F 210 [vl k .Key a0, vl k .Key a1] = (sLeqKeyS a0 a1).bind fun r => some [vb r]
 a211 : ∀ (a0 : (List DRule)) (a1 : (List DRule)), F 211 [vl k .Rule a0, vl k .Rule a1] = (sLeqRuleS a0 a1).bind fun r => some [vb r]
 a45 : ∀ (a0 : (List DData)) (a1 : (List DData)), F 45 [vl k .Data a0, vl k .Data a1] = (sLeqDataS a0 a1).bind fun r => some [vb r]
 a100 : ∀ (a0 : (List DTableEntry)) (a1 : (List DTableEntry)), F 100 [vl k .TableEntry a0, vl k .TableEntry a1] = (sLeqTableEntryS a0 a1).bind fun r => some [vb r]
 a252 : ∀ (a0 : DCacheEntry) (a1 : DCacheEntry), F 252 [va k .CacheEntry a0, va k .CacheEntry a1] = (sLeqCacheEntry a0 a1).bind fun r => some [vb r]
 a47 : ∀ (a0 : (List DPendingInterest)) (a1 : (List DPendingInterest)), F 47 [vl k .PendingInterest a0, vl k .PendingInterest a1] = (sLeqPendingInterestS a0 a1).bind fun r => some [vb r]
 a48 : ∀ (a0 : (List DSeenNonce)) (a1 : (List DSeenNonce)), F 48 [vl k .SeenNonce a0, vl k .SeenNonce a1] = (sLeqSeenNonceS a0 a1).bind fun r => some [vb r]
 a49 : ∀ (a0 : (List DRoute)) (a1 : (List DRoute)), F 49 [vl k .Route a0, vl k .Route a1] = (sLeqRouteS a0 a1).bind fun r => some [vb r]
 a50 : ∀ (a0 : (List DMeasurement)) (a1 : (List DMeasurement)), F 50 [vl k .Measurement a0, vl k .Measurement a1] = (sLeqMeasurementS a0 a1).bind fun r => some [vb r]
 a214 : ∀ (a0 : DPacketInFlight) (a1 : DPacketInFlight), F 214 [va k .PacketInFlight a0, va k .PacketInFlight a1] = (sLeqPacketInFlight a0 a1).bind fun r => some [vb r]
 a24 : ∀ (a0 : DConsumer) (a1 : DConsumer), F 24 [va k .Consumer a0, va k .Consumer a1] = (sLeqConsumer a0 a1).bind fun r => some [vb r]
structure A1 (k : Pk) (F : Fns) : Prop where
 a373 : ∀ (a0 : (List UInt8)) (a1 : (List ByteArray)), F 373 [vl k .byt a0, va k .Name a1] = (sSAppendName a0 a1).bind fun r => some [vl k .byt r]
structure A3 (k : Pk) (F : Fns) : Prop where
 a348 : ∀ (a0 : Int) (a1 : (List Int)), F 348 [vi a0, vl k .int a1] = (sSComputeMAC a0 a1).bind fun r => some [vi r]
structure G16 (k : Pk) (F : Fns) : Prop where
 a66 : ∀ (a0 : DTrustPolicy) (a1 : Int), F 66 [va k .TrustPolicy a0, vi a1] = (sLszTrustPolicy a0 a1).bind fun r => some [vi r]
 a107 : ∀ (a0 : (List DCacheEntry)) (a1 : Int), F 107 [vl k .CacheEntry a0, vi a1] = (sLszCacheEntryS a0 a1).bind fun r => some [vi r]
 a70 : ∀ (a0 : (List DPacketInFlight)) (a1 : Int), F 70 [vl k .PacketInFlight a0, vi a1] = (sLszPacketInFlightS a0 a1).bind fun r => some [vi r]
 a71 : ∀ (a0 : (List DConsumer)) (a1 : Int), F 71 [vl k .Consumer a0, vi a1] = (sLszConsumerS a0 a1).bind fun r => some [vi r]
 a83 : ∀ (a0 : DTrustPolicy), F 83 [va k .TrustPolicy a0] = (sLtoTrustPolicy a0).bind fun r => some [va k .TrustPolicy r]
 a133 : ∀ (a0 : (List DCacheEntry)), F 133 [vl k .CacheEntry a0] = (sLtoCacheEntryS a0).bind fun r => some [vl k .CacheEntry r]
 a87 : ∀ (a0 : (List DPacketInFlight)), F 87 [vl k .PacketInFlight a0] = (sLtoPacketInFlightS a0).bind fun r => some [vl k .PacketInFlight r]
 a88 : ∀ (a0 : (List DConsumer)), F 88 [vl k .Consumer a0] = (sLtoConsumerS a0).bind fun r => some [vl k .Consumer r]
 a179 : ∀ (a0 : (List DTableEntry)) (a1 : (List ByteArray)), F 179 [vl k .TableEntry a0, va k .Name a1] = (sSLongestPrefix a0 a1).bind fun r => some [vi r]
 a316 : ∀ (a0 : (List DKey)) (a1 : (List ByteArray)), F 316 [vl k .Key a0, va k .Name a1] = (sSSecretOf a0 a1).bind fun r => some [vi r]
 a351 : ∀ (a0 : DRule) (a1 : (List ByteArray)) (a2 : (List ByteArray)), F 351 [va k .Rule a0, va k .Name a1, va k .Name a2] = (sSRuleAllows a0 a1 a2).bind fun r => some [vb r]
 a79 : ∀ (a0 : (List DAdvertisement)) (a1 : Int), F 79 [vl k .Advertisement a0, vi a1] = (sSReachableFrom a0 a1).bind fun r => some [vl k .int r]
 a93 : ∀ (a0 : (List DData)) (a1 : (List ByteArray)), F 93 [vl k .Data a0, va k .Name a1] = (sIlocalAt a0 a1).bind fun r => some [vi r]
 a291_292 : ∀ (a0 : (List ByteArray)), F 291 [vl k .str a0, .v (.fn 292 [])] = (sCContainsFunc_string__ValidName_1 a0).bind fun r => some [vb r]
structure G17 (k : Pk) (F : Fns) : Prop where
 a325_326 : ∀ (a0 : (List (List ByteArray))) (c1_0 : (List ByteArray)), F 325 [vl k .Name a0, .v (.fn 326 [.ptr [.sl 9 1 (k.m .str c1_0)]])] = (sCContainsFunc_Name__IsAnchor_1 a0 c1_0).bind fun r => some [vb r]
 a96 : ∀ (a0 : DTopology) (a1 : (List DTableEntry)) (a2 : Int), F 96 [va k .Topology a0, vl k .TableEntry a1, vi a2] = (sIAdvertisementsOf a0 a1 a2).bind fun r => some [vl k .Advertisement r]
 a204 : ∀ (a0 : (List DAdvertisement)) (a1 : Int), F 204 [vl k .Advertisement a0, vi a1] = (sIDistances a0 a1).bind fun r => some [vl k .int r]
 a99 : ∀ (a0 : DTrustPolicy) (a1 : DTrustPolicy), F 99 [va k .TrustPolicy a0, va k .TrustPolicy a1] = (sLeqTrustPolicy a0 a1).bind fun r => some [vb r]
 a158 : ∀ (a0 : (List DCacheEntry)) (a1 : (List DCacheEntry)), F 158 [vl k .CacheEntry a0, vl k .CacheEntry a1] = (sLeqCacheEntryS a0 a1).bind fun r => some [vb r]
 a103 : ∀ (a0 : (List DPacketInFlight)) (a1 : (List DPacketInFlight)), F 103 [vl k .PacketInFlight a0, vl k .PacketInFlight a1] = (sLeqPacketInFlightS a0 a1).bind fun r => some [vb r]
 a104 : ∀ (a0 : (List DConsumer)) (a1 : (List DConsumer)), F 104 [vl k .Consumer a0, vl k .Consumer a1] = (sLeqConsumerS a0 a1).bind fun r => some [vb r]
structure A2 (k : Pk) (F : Fns) : Prop where
 a349 : ∀ (a0 : DData), F 349 [va k .Data a0] = (sSSignedPortion a0).bind fun r => some [vl k .int r]
structure G18 (k : Pk) (F : Fns) : Prop where
 a28 : ∀ (a0 : DContentStore) (a1 : Int), F 28 [va k .ContentStore a0, vi a1] = (sLszContentStore a0 a1).bind fun r => some [vi r]
 a37 : ∀ (a0 : DContentStore), F 37 [va k .ContentStore a0] = (sLtoContentStore a0).bind fun r => some [va k .ContentStore r]
 a74 : ∀ (a0 : DNetwork) (a1 : (List ByteArray)), F 74 [va k .Network a0, va k .Name a1] = (sSProducerOf a0 a1).bind fun r => some [vi r]
 a315 : ∀ (a0 : Int) (a1 : DData), F 315 [vi a0, va k .Data a1] = (sSVerifyData a0 a1).bind fun r => some [vb r]
 a317 : ∀ (a0 : (List DRule)) (a1 : (List ByteArray)) (a2 : (List ByteArray)), F 317 [vl k .Rule a0, va k .Name a1, va k .Name a2] = (sSFirstAllowingRule a0 a1 a2).bind fun r => some [vi r]
 a319 : ∀ (a0 : (List DKey)) (a1 : (List ByteArray)), F 319 [vl k .Key a0, va k .Name a1] = (sSKeyDigest a0 a1).bind fun r => some [vl k .byt r]
 a234 : ∀ (a0 : (List ByteArray)), F 234 [va k .Name a0] = (sIValidName a0).bind fun r => some [vb r]
 a273 : ∀ (a0 : DTrustPolicy) (a1 : (List ByteArray)), F 273 [va k .TrustPolicy a0, va k .Name a1] = (sIIsAnchor a0 a1).bind fun r => some [vb r]
 a95 : ∀ (a0 : (List DAdvertisement)) (a1 : Int) (a2 : Int), F 95 [vl k .Advertisement a0, vi a1, vi a2] = (sIDistance a0 a1 a2).bind fun r => some [vi r]
 a46 : ∀ (a0 : DContentStore) (a1 : DContentStore), F 46 [va k .ContentStore a0, va k .ContentStore a1] = (sLeqContentStore a0 a1).bind fun r => some [vb r]
structure G19 (k : Pk) (F : Fns) : Prop where
 a6 : ∀ (a0 : DNode) (a1 : Int), F 6 [va k .Node a0, vi a1] = (sLszNode a0 a1).bind fun r => some [vi r]
 a9 : ∀ (a0 : DNode), F 9 [va k .Node a0] = (sLtoNode a0).bind fun r => some [va k .Node r]
 a258 : ∀ (a0 : (List DKey)) (a1 : DData), F 258 [vl k .Key a0, va k .Data a1] = (sSVerifySignature a0 a1).bind fun r => some [vb r]
 a259 : ∀ (a0 : (List DRule)) (a1 : (List ByteArray)) (a2 : (List ByteArray)), F 259 [vl k .Rule a0, va k .Name a1, va k .Name a2] = (sSAllowed a0 a1 a2).bind fun r => some [vb r]
 a380 : ∀ (a0 : (List ByteArray)) (a1 : (List ByteArray)) (a2 : (List DBinding)), F 380 [va k .Name a0, va k .Name a1, vl k .Binding a2] = (sIMatch a0 a1 a2).bind fun r => some [vl k .Binding r.1, vb r.2]
 a203 : ∀ (a0 : DData), F 203 [va k .Data a0] = (sIValidData a0).bind fun r => some [vb r]
 a12 : ∀ (a0 : DNode) (a1 : DNode), F 12 [va k .Node a0, va k .Node a1] = (sLeqNode a0 a1).bind fun r => some [vb r]
structure A6 (k : Pk) (F : Fns) : Prop where
 a379 : ∀ (a0 : (List UInt8)) (a1 : (List ByteArray)), F 379 [vl k .byt a0, va k .Name a1] = (sIAppendName a0 a1).bind fun r => some [vl k .byt r]
structure G20 (k : Pk) (F : Fns) : Prop where
 a68 : ∀ (a0 : (List DNode)) (a1 : Int), F 68 [vl k .Node a0, vi a1] = (sLszNodeS a0 a1).bind fun r => some [vi r]
 a85 : ∀ (a0 : (List DNode)), F 85 [vl k .Node a0] = (sLtoNodeS a0).bind fun r => some [vl k .Node r]
 a261 : ∀ (a0 : DTrustPolicy) (a1 : (List ByteArray)) (a2 : Int), F 261 [va k .TrustPolicy a0, va k .Name a1, vi a2] = (sSFindCertificate a0 a1 a2).bind fun r => some [vi r]
 a356 : ∀ (a0 : DData), F 356 [va k .Data a0] = (sISignedPortion a0).bind fun r => some [vl k .int r]
 a359 : ∀ (a0 : DRule) (a1 : (List ByteArray)) (a2 : (List ByteArray)), F 359 [va k .Rule a0, va k .Name a1, va k .Name a2] = (sIRuleAllows a0 a1 a2).bind fun r => some [vb r]
 a101 : ∀ (a0 : (List DNode)) (a1 : (List DNode)), F 101 [vl k .Node a0, vl k .Node a1] = (sLeqNodeS a0 a1).bind fun r => some [vb r]
structure G21 (k : Pk) (F : Fns) : Prop where
 a17 : ∀ (a0 : DNetwork) (a1 : Int), F 17 [va k .Network a0, vi a1] = (sLszNetwork a0 a1).bind fun r => some [vi r]
 a20 : ∀ (a0 : DNetwork), F 20 [va k .Network a0] = (sLtoNetwork a0).bind fun r => some [va k .Network r]
 a182 : ∀ (a0 : DTrustPolicy) (a1 : DData) (a2 : Int), F 182 [va k .TrustPolicy a0, va k .Data a1, vi a2] = (sSTrustChain a0 a1 a2).bind fun r => some [vl k .Name r.1, vb r.2]
 a322 : ∀ (a0 : Int) (a1 : DData), F 322 [vi a0, va k .Data a1] = (sIVerifyData a0 a1).bind fun r => some [vb r]
 a358 : ∀ (a0 : DRule) (k0 : (List ByteArray)) (k1 : (List ByteArray)), F 358 [va k .Rule a0, .v (.ptr [.sl 9 1 (k.m .str k0)]), .v (.ptr [.sl 9 1 (k.m .str k1)])] = (sIFirstAllowingRule_1 a0 k0 k1).bind fun r => some [vb r]
 a23 : ∀ (a0 : DNetwork) (a1 : DNetwork), F 23 [va k .Network a0, va k .Network a1] = (sLeqNetwork a0 a1).bind fun r => some [vb r]
structure G22 (k : Pk) (F : Fns) : Prop where
 a77 : ∀ (a0 : DTrustPolicy) (a1 : DData) (a2 : Int), F 77 [va k .TrustPolicy a0, va k .Data a1, vi a2] = (sSIsTrusted a0 a1 a2).bind fun r => some [vb r]
 a271 : ∀ (a0 : (List DKey)) (a1 : DData), F 271 [vl k .Key a0, va k .Data a1] = (sIVerifySignature a0 a1).bind fun r => some [vb r]
 a357_358 : ∀ (a0 : (List DRule)) (c1_0 : (List ByteArray)) (c1_1 : (List ByteArray)), F 357 [vl k .Rule a0, .v (.fn 358 [.ptr [.sl 9 1 (k.m .str c1_0)], .ptr [.sl 9 1 (k.m .str c1_1)]])] = (sCIndexFunc_Rule__FirstAllowingRule_1 a0 c1_0 c1_1).bind fun r => some [vi r]
structure G23 (k : Pk) (F : Fns) : Prop where
 a19 : ∀ (a0 : DNetwork) (a1 : DConsumer) (a2 : Int), F 19 [va k .Network a0, va k .Consumer a1, vi a2] = (sSIsServable a0 a1 a2).bind fun r => some [vb r]
 a324 : ∀ (a0 : (List DRule)) (a1 : (List ByteArray)) (a2 : (List ByteArray)), F 324 [vl k .Rule a0, va k .Name a1, va k .Name a2] = (sIFirstAllowingRule a0 a1 a2).bind fun r => some [vi r]
 a327 : ∀ (a0 : DData) (k0 : (List ByteArray)) (k1 : Int) (k2 : DTrustPolicy), F 327 [va k .Data a0, .v (.ptr [.sl 9 1 (k.m .str k0)]), .v (.ptr [.at (.int .i64 k1)]), .v (.ptr [.sl 339 2 (k.m .Key k2.keys), .sl 343 2 (k.m .Rule k2.rules), .sl 95 1 (k.m .Name k2.anchors), .sl 97 5 (k.m .Data k2.certificates)])] = (sIFindCertificate_1 a0 k0 k1 k2).bind fun r => some [vb r]
structure G24 (k : Pk) (F : Fns) : Prop where
 a272 : ∀ (a0 : (List DRule)) (a1 : (List ByteArray)) (a2 : (List ByteArray)), F 272 [vl k .Rule a0, va k .Name a1, va k .Name a2] = (sIAllowed a0 a1 a2).bind fun r => some [vb r]
 a199_327 : ∀ (a0 : (List DData)) (c1_0 : (List ByteArray)) (c1_1 : Int) (c1_2 : DTrustPolicy), F 199 [vl k .Data a0, .v (.fn 327 [.ptr [.sl 9 1 (k.m .str c1_0)], .ptr [.at (.int .i64 c1_1)], .ptr [.sl 339 2 (k.m .Key c1_2.keys), .sl 343 2 (k.m .Rule c1_2.rules), .sl 95 1 (k.m .Name c1_2.anchors), .sl 97 5 (k.m .Data c1_2.certificates)]])] = (sCIndexFunc_Data__FindCertificate_1 a0 c1_0 c1_1 c1_2).bind fun r => some [vi r]
 a25 : ∀ (a0 : DNetwork), F 25 [va k .Network a0] = (sSAllServed a0).bind fun r => some [vb r]
structure G25 (k : Pk) (F : Fns) : Prop where
 a274 : ∀ (a0 : DTrustPolicy) (a1 : (List ByteArray)) (a2 : Int), F 274 [va k .TrustPolicy a0, va k .Name a1, vi a2] = (sIFindCertificate a0 a1 a2).bind fun r => some [vi r]
structure G26 (k : Pk) (F : Fns) : Prop where
 a202 : ∀ (a0 : DTrustPolicy) (a1 : DData) (a2 : Int), F 202 [va k .TrustPolicy a0, va k .Data a1, vi a2] = (sITrustChain a0 a1 a2).bind fun r => some [vl k .Name r.1, vb r.2]
structure G27 (k : Pk) (F : Fns) : Prop where
 a94 : ∀ (a0 : DTrustPolicy) (a1 : DData) (a2 : Int), F 94 [va k .TrustPolicy a0, va k .Data a1, vi a2] = (sIIsTrusted a0 a1 a2).bind fun r => some [vb r]
structure G28 (k : Pk) (F : Fns) : Prop where
 a22 : ∀ (a0 : DNetwork) (a1 : DConsumer) (a2 : Int), F 22 [va k .Network a0, va k .Consumer a1, vi a2] = (sIIsServable a0 a1 a2).bind fun r => some [vb r]
structure G29 (k : Pk) (F : Fns) : Prop where
 a4 : ∀ (a0 : DNetwork) (a1 : DConsumer) (a2 : Int), F 4 [va k .Network a0, va k .Consumer a1, vi a2] = (sLFnExactIsServable a0 a1 a2).bind fun r => some [vb r]
 a26 : ∀ (a0 : DNetwork), F 26 [va k .Network a0] = (sIAllServed a0).bind fun r => some [vb r]
structure G30 (k : Pk) (F : Fns) : Prop where
 a5 : ∀ (a0 : DNetwork), F 5 [va k .Network a0] = (sLFnExactAllServed a0).bind fun r => some [vb r]
end
end Go.Proofs.YtgfmmfpafcfjpaaGreat
