import Derived.Test.YtgfmmfpafcfjpaaGreatSt
namespace Go.Proofs.YtgfmmfpafcfjpaaGreat
open Go.RowKit
set_option linter.unusedVariables false
set_option linter.unusedSimpArgs false
set_option maxRecDepth 100000
noncomputable section
inductive TC where
 | int
 | str
 | byt
 | bool
 | Link
 | Topology
 | Name
 | Key
 | Rule
 | Data
 | TrustPolicy
 | TableEntry
 | CacheEntry
 | ContentStore
 | Requester
 | PendingInterest
 | SeenNonce
 | Route
 | Measurement
 | Node
 | Interest
 | PacketInFlight
 | Consumer
 | Network
 | Binding
 | Advertisement
 | Lint
@[reducible] def DD : TC → Type
 | .int => Int
 | .str => ByteArray
 | .byt => UInt8
 | .bool => Bool
 | .Link => DLink
 | .Topology => DTopology
 | .Name => (List ByteArray)
 | .Key => DKey
 | .Rule => DRule
 | .Data => DData
 | .TrustPolicy => DTrustPolicy
 | .TableEntry => DTableEntry
 | .CacheEntry => DCacheEntry
 | .ContentStore => DContentStore
 | .Requester => DRequester
 | .PendingInterest => DPendingInterest
 | .SeenNonce => DSeenNonce
 | .Route => DRoute
 | .Measurement => DMeasurement
 | .Node => DNode
 | .Interest => DInterest
 | .PacketInFlight => DPacketInFlight
 | .Consumer => DConsumer
 | .Network => DNetwork
 | .Binding => DBinding
 | .Advertisement => DAdvertisement
 | .Lint => (List Int)
def eD : (t : TC) → DD t → List DT
 | .int, x => eI x
 | .str, x => eS x
 | .byt, x => eY x
 | .bool, x => eB x
 | .Link, x => eLink x
 | .Topology, x => eTopology x
 | .Name, x => eName x
 | .Key, x => eKey x
 | .Rule, x => eRule x
 | .Data, x => eData x
 | .TrustPolicy, x => eTrustPolicy x
 | .TableEntry, x => eTableEntry x
 | .CacheEntry, x => eCacheEntry x
 | .ContentStore, x => eContentStore x
 | .Requester, x => eRequester x
 | .PendingInterest, x => ePendingInterest x
 | .SeenNonce, x => eSeenNonce x
 | .Route, x => eRoute x
 | .Measurement, x => eMeasurement x
 | .Node, x => eNode x
 | .Interest, x => eInterest x
 | .PacketInFlight, x => ePacketInFlight x
 | .Consumer, x => eConsumer x
 | .Network, x => eNetwork x
 | .Binding, x => eBinding x
 | .Advertisement, x => eAdvertisement x
 | .Lint, x => eLint x
def eK (yI : UInt8 → Int) (m : (t : TC) → List (DD t) → List (List DT)) : (t : TC) → DD t → List DT
 | .int, x => [.at (.int .i64 x)]
 | .str, x => [.at (.string x)]
 | .byt, x => [.at (.int .u8 (yI x))]
 | .bool, x => [.at (.bool x)]
 | .Link, x => [.at (.int .i64 x.a), .at (.int .i64 x.b)]
 | .Topology, x => [.at (.int .i64 x.size), .sl 333 2 (m .Link x.links)]
 | .Name, x => [.sl 9 1 (m .str x)]
 | .Key, x => [.sl 9 1 (m .str x.name), .at (.int .i64 x.secret)]
 | .Rule, x => [.sl 9 1 (m .str x.dataPattern), .sl 9 1 (m .str x.keyPattern)]
 | .Data, x => [.sl 9 1 (m .str x.name), .sl 5 1 (m .byt x.content), .sl 9 1 (m .str x.keyName), .at (.int .i64 x.freshUntil), .at (.int .i64 x.signature)]
 | .TrustPolicy, x => [.sl 339 2 (m .Key x.keys), .sl 343 2 (m .Rule x.rules), .sl 95 1 (m .Name x.anchors), .sl 97 5 (m .Data x.certificates)]
 | .TableEntry, x => [.sl 9 1 (m .str x.name), .at (.int .i64 x.value)]
 | .CacheEntry, x => [.sl 9 1 (m .str x.data.name), .sl 5 1 (m .byt x.data.content), .sl 9 1 (m .str x.data.keyName), .at (.int .i64 x.data.freshUntil), .at (.int .i64 x.data.signature), .at (.int .i64 x.lastUsed)]
 | .ContentStore, x => [.at (.int .i64 x.capacity), .sl 291 6 (m .CacheEntry x.entries)]
 | .Requester, x => [.at (.int .i64 x.face), .at (.int .i64 x.nonce), .at (.int .i64 x.expiry)]
 | .PendingInterest, x => [.sl 9 1 (m .str x.name), .sl 294 3 (m .Requester x.requesters), .at (.int .i64 x.lastSent)]
 | .SeenNonce, x => [.sl 9 1 (m .str x.name), .at (.int .i64 x.nonce)]
 | .Route, x => [.sl 9 1 (m .str x.pfx), .at (.int .i64 x.face), .at (.int .i64 x.cost)]
 | .Measurement, x => [.sl 9 1 (m .str x.pfx), .at (.int .i64 x.face), .at (.int .i64 x.failures)]
 | .Node, x => [.sl 97 5 (m .Data x.locals), .at (.int .i64 x.cache.capacity), .sl 291 6 (m .CacheEntry x.cache.entries), .sl 223 3 (m .PendingInterest x.pending), .sl 226 2 (m .SeenNonce x.seen), .sl 229 3 (m .Route x.routes), .sl 232 3 (m .Measurement x.measurements), .at (.int .i64 x.dropped)]
 | .Interest, x => [.sl 9 1 (m .str x.name), .at (.int .i64 x.nonce), .at (.int .i64 x.hopLimit), .at (.int .i64 x.lifetime)]
 | .PacketInFlight, x => [.at (.int .i64 x.dest), .at (.int .i64 x.face), .at (.bool x.isInterest), .sl 9 1 (m .str x.interest.name), .at (.int .i64 x.interest.nonce), .at (.int .i64 x.interest.hopLimit), .at (.int .i64 x.interest.lifetime), .sl 9 1 (m .str x.data.name), .sl 5 1 (m .byt x.data.content), .sl 9 1 (m .str x.data.keyName), .at (.int .i64 x.data.freshUntil), .at (.int .i64 x.data.signature)]
 | .Consumer, x => [.at (.int .i64 x.node), .at (.int .i64 x.index), .sl 9 1 (m .str x.name), .at (.int .i64 x.attempts), .at (.int .i64 x.wait), .at (.bool x.satisfied), .sl 9 1 (m .str x.data.name), .sl 5 1 (m .byt x.data.content), .sl 9 1 (m .str x.data.keyName), .at (.int .i64 x.data.freshUntil), .at (.int .i64 x.data.signature)]
 | .Network, x => [.at (.int .i64 x.topology.size), .sl 333 2 (m .Link x.topology.links), .sl 339 2 (m .Key x.trust.keys), .sl 343 2 (m .Rule x.trust.rules), .sl 95 1 (m .Name x.trust.anchors), .sl 97 5 (m .Data x.trust.certificates), .sl 255 2 (m .TableEntry x.producers), .sl 44 8 (m .Node x.nodes), .at (.int .i64 x.downNodes), .sl 3 1 (m .int x.failedLinks), .sl 272 12 (m .PacketInFlight x.inFlight), .sl 99 11 (m .Consumer x.consumers), .at (.int .i64 x.now), .at (.int .i64 x.dropped)]
 | .Binding, x => [.at (.string x.letter), .at (.string x.value)]
 | .Advertisement, x => [.at (.int .i64 x.origin), .at (.int .i64 x.version), .sl 3 1 (m .int x.neighbors), .sl 95 1 (m .Name x.prefixes)]
 | .Lint, x => [.sl 3 1 (m .int x)]
def te : TC → Nat
 | .int => 3
 | .str => 9
 | .byt => 5
 | .bool => 4
 | .Link => 333
 | .Topology => 82
 | .Name => 95
 | .Key => 339
 | .Rule => 343
 | .Data => 97
 | .TrustPolicy => 87
 | .TableEntry => 255
 | .CacheEntry => 291
 | .ContentStore => 38
 | .Requester => 294
 | .PendingInterest => 223
 | .SeenNonce => 226
 | .Route => 229
 | .Measurement => 232
 | .Node => 44
 | .Interest => 121
 | .PacketInFlight => 272
 | .Consumer => 99
 | .Network => 93
 | .Binding => 421
 | .Advertisement => 263
 | .Lint => 64
def tk : TC → Nat
 | .int => 1
 | .str => 1
 | .byt => 1
 | .bool => 1
 | .Link => 2
 | .Topology => 2
 | .Name => 1
 | .Key => 2
 | .Rule => 2
 | .Data => 5
 | .TrustPolicy => 4
 | .TableEntry => 2
 | .CacheEntry => 6
 | .ContentStore => 2
 | .Requester => 3
 | .PendingInterest => 3
 | .SeenNonce => 2
 | .Route => 3
 | .Measurement => 3
 | .Node => 8
 | .Interest => 4
 | .PacketInFlight => 12
 | .Consumer => 11
 | .Network => 14
 | .Binding => 2
 | .Advertisement => 4
 | .Lint => 1
end
end Go.Proofs.YtgfmmfpafcfjpaaGreat
namespace Go.Proofs.YtgfmmfpafcfjpaaGreat
open Go.RowKit
set_option linter.unusedVariables false
set_option linter.unusedSimpArgs false
set_option linter.unusedSectionVars false
noncomputable section
def mp (t : TC) (l : List (DD t)) : List (List DT) := l.map (eD t)
structure Pk where
 p : Prims
 m : (t : TC) → List (DD t) → List (List DT)
 al : Looper (List Arg)
 g : {α : Type} → List α → Nat → Option α
 gn : {α : Type} → List α → Int → Option α
 gs : {α : Type} → List α → Option Int → Option Int → Option (List α)
 gp : {α : Type} → List α → Nat → Nat → Option (List α)
 gt : {α : Type} → List α → Nat → α → List α
 ga : {α : Type} → List α → List α → List α
 hp : p = prims
 hm : m = mp
 hal : (fun F lv => aloop F lv fuel) = al
 hg : @g = fun {α} (l : List α) (j : Nat) => l[j]?
 hgn : @gn = fun {α} (l : List α) (i : Int) => nthI l i
 hgs : @gs = fun {α} (l : List α) (a b : Option Int) => subI l a b
 hgp : @gp = fun {α} (l : List α) (a b : Nat) => partI l a b
 hgt : @gt = fun {α} (l : List α) (j : Nat) (x : α) => l.set j x
 hga : @ga = fun {α} (a b : List α) => a ++ b
def pk0 : Pk := ⟨prims, mp, alp, fun l j => l[j]?, fun l i => nthI l i, fun l a b => subI l a b, fun l a b => partI l a b, fun l j x => l.set j x, fun a b => a ++ b, rfl, rfl, rfl, rfl, rfl, rfl, rfl, rfl, rfl⟩
def lf (l : List (Nat × List Nat)) (i : Nat) : List Nat := match l with
 | [] => []
 | (j, x) :: l => if i = j then x else lf l i
def gF (f : Func) (l : List (Nat × List Nat)) : FE := ⟨f, f.body.getD .skip, lf l⟩
def vl (k : Pk) (t : TC) (l : List (DD t)) : Arg := .v (.sl (te t) (tk t) (k.m t l))
def va (k : Pk) (t : TC) (x : DD t) : Arg := .a (eK k.p.yI k.m t x)
def vi (n : Int) : Arg := .v (.at (.int .i64 n))
def vb (b : Bool) : Arg := .v (.at (.bool b))
def vs (s : ByteArray) : Arg := .v (.at (.string s))
def setT : List PV → List (Nat × PV) → List PV
 | l, [] => l
 | l, (i, x) :: r => setT (l.set i x) r
def up (c : St) (l : List (Nat × PV)) (hp : List (Nm × Bk)) : St := ⟨setT c.tm l, hp, 1⟩
def sp (n : Nat) (l : List (Nat × PV)) (hp : List (Nm × Bk)) : St := ⟨setT (List.replicate n dd) l, hp, 1⟩
def tq (c : St) (i : Nat) : PV := c.tm.getD i dd
def cellOf (p : PV) : Cell := match p with
 | .c x => x
 | _ => .dead
def td (c : St) (i j : Nat) : DT := match tq c i with
 | .c (.bp _ l _) => l.getD j (.ptr [])
 | _ => .ptr []
def bq (c : St) (n : Nat) : Bk := (look c.hp (0, 0, n)).getD ⟨false, false, 0, 0, []⟩
def bc (c : St) (n j : Nat) : Cell := ((bq c n).el.getD 0 []).getD j .dead
def rn (x : Cell) (n : Nat) : Cell := match x with
 | .row _ e k off m => .row (0, 0, n) e k off m
 | .ptr _ k i off => .ptr (0, 0, n) k i off
 | x => x
def ci (n : Int) : PV := .c (.at (.int .i64 n))
def rw0 (ln : List (List DT) → Nat) (m : (t : TC) → List (DD t) → List (List DT)) (n : Nat) (t : TC) (l : List (DD t)) : Cell := .row (0, 0, n) (te t) (tk t) 0 (ln (m t l))
def rb (op : List (List DT) → List (List Cell)) (m : (t : TC) → List (DD t) → List (List DT)) (n : Nat) (t : TC) (l : List (DD t)) : Nm × Bk := ((0, 0, n), ⟨true, false, te t, tk t, op (m t l)⟩)
theorem eK_eD : ∀ (t : TC) (x : DD t), eK prims.yI mp t x = eD t x := by intro t x; cases t <;> rfl
theorem own_he : ∀ (t : TC) (x : DD t), mapO own0 ((eD t x).map openD) = some (eD t x) := by intro t x; cases t <;> rfl
theorem mov_he : ∀ (t : TC) (x : DD t), mapO moveC ((eD t x).map openD) = some ((eD t x).map openD) := by intro t x; cases t <;> rfl
theorem frz_he : ∀ (t : TC) (x : DD t), mapO frz0 ((eD t x).map openD) = some (eD t x) := by intro t x; cases t <;> rfl
section
variable (k : Pk)
theorem k_nth (t : TC) (l : List (DD t)) (i : Int) : k.p.nth (k.m t l) i = match k.gn l i with | none => none | some x => some (eK k.p.yI k.m t x) := by
 obtain ⟨p, m, al, g, gn, gs, gp, gt, ga, rfl, rfl, rfl, rfl, rfl, rfl, rfl, rfl, rfl⟩ := k
 refine (nth_gen (eD t) l i).trans ?_
 dsimp only
 cases nthI l i with
 | none => rfl
 | some x => exact congrArg some (eK_eD t x).symm
theorem k_rnth (t : TC) (l : List (DD t)) (j : Nat) : k.p.rnth (k.p.opn (k.m t l)) j = match k.g l j with | none => none | some x => some ((eK k.p.yI k.m t x).map openD) := by
 obtain ⟨p, m, al, g, gn, gs, gp, gt, ga, rfl, rfl, rfl, rfl, rfl, rfl, rfl, rfl, rfl⟩ := k
 refine (rnth_gen (eD t) l j).trans ?_
 dsimp only
 cases l[j]? with
 | none => rfl
 | some x => show some _ = some _; rw [eK_eD t x]
theorem k_own (t : TC) (l : List (DD t)) : k.p.own (k.p.opn (k.m t l)) = some (k.m t l) := by
 obtain ⟨p, m, al, g, gn, gs, gp, gt, ga, rfl, rfl, rfl, rfl, rfl, rfl, rfl, rfl, rfl⟩ := k
 exact own_gen (eD t) (own_he t) l
theorem k_len (t : TC) (l : List (DD t)) : k.p.len (k.m t l) = l.length := by
 obtain ⟨p, m, al, g, gn, gs, gp, gt, ga, rfl, rfl, rfl, rfl, rfl, rfl, rfl, rfl, rfl⟩ := k
 exact len_gen (eD t) l
theorem k_full (t : TC) (n : Nat) (l : List (DD t)) : k.p.full 0 n (k.p.opn (k.m t l)) = decide (n = k.p.len (k.m t l)) := by
 rw [k_len]
 obtain ⟨p, m, al, g, gn, gs, gp, gt, ga, rfl, rfl, rfl, rfl, rfl, rfl, rfl, rfl, rfl⟩ := k
 have h : (prims.opn (l.map (eD t))).length = l.length := opn_len (eD t) l
 show decide (0 = 0 ∧ n = (prims.opn (l.map (eD t))).length) = decide (n = l.length)
 simp only [h, true_and]
theorem k_rapp (t : TC) (a b : List (DD t)) : k.p.rapp (k.p.opn (k.m t a)) (k.p.opn (k.m t b)) = k.p.opn (k.m t (k.ga a b)) := by
 obtain ⟨p, m, al, g, gn, gs, gp, gt, ga, rfl, rfl, rfl, rfl, rfl, rfl, rfl, rfl, rfl⟩ := k
 exact rapp_gen (eD t) a b
theorem k_rapp0 (t : TC) (a : List (DD t)) : k.p.rapp [] (k.p.opn (k.m t a)) = k.p.opn (k.m t a) := by
 obtain ⟨p, m, al, g, gn, gs, gp, gt, ga, rfl, rfl, rfl, rfl, rfl, rfl, rfl, rfl, rfl⟩ := k
 rfl
theorem k_rlen (t : TC) (l : List (DD t)) : k.p.rlen (k.p.opn (k.m t l)) = k.p.len (k.m t l) := by
 obtain ⟨p, m, al, g, gn, gs, gp, gt, ga, rfl, rfl, rfl, rfl, rfl, rfl, rfl, rfl, rfl⟩ := k
 exact rlen_gen (eD t) l
theorem k_addn (t : TC) (a b : List (DD t)) : k.p.addN (k.p.len (k.m t a)) (k.p.len (k.m t b)) = k.p.len (k.m t (k.ga a b)) := by
 have h := addn_gen (eD t) a b
 rw [rlen_gen] at h
 obtain ⟨p, m, al, g, gn, gs, gp, gt, ga, rfl, rfl, rfl, rfl, rfl, rfl, rfl, rfl, rfl⟩ := k
 exact h
theorem k_addn0 (t : TC) (a : List (DD t)) : k.p.addN 0 (k.p.len (k.m t a)) = k.p.len (k.m t a) := by
 obtain ⟨p, m, al, g, gn, gs, gp, gt, ga, rfl, rfl, rfl, rfl, rfl, rfl, rfl, rfl, rfl⟩ := k
 exact Nat.zero_add _
theorem k_frz (t : TC) (l : List (DD t)) : k.p.frz (k.p.opn (k.m t l)) 0 (k.p.len (k.m t l)) = some (k.m t l) := by
 obtain ⟨p, m, al, g, gn, gs, gp, gt, ga, rfl, rfl, rfl, rfl, rfl, rfl, rfl, rfl, rfl⟩ := k
 exact frz_gen (eD t) (frz_he t) l
theorem k_frzs (t : TC) (l : List (DD t)) (i n : Nat) : k.p.frz (k.p.opn (k.m t l)) i n = match k.gp l i n with | none => none | some y => some (k.m t y) := by
 obtain ⟨p, m, al, g, gn, gs, gp, gt, ga, rfl, rfl, rfl, rfl, rfl, rfl, rfl, rfl, rfl⟩ := k
 refine (frzs_gen (eD t) (frz_he t) l i n).trans ?_
 dsimp only
 cases partI l i n <;> rfl
theorem k_rmov (t : TC) (l : List (DD t)) : k.p.rmov (k.p.opn (k.m t l)) 0 (k.p.len (k.m t l)) = some (k.p.opn (k.m t l)) := by
 obtain ⟨p, m, al, g, gn, gs, gp, gt, ga, rfl, rfl, rfl, rfl, rfl, rfl, rfl, rfl, rfl⟩ := k
 exact rmov_gen (eD t) (mov_he t) l
theorem k_rmovs (t : TC) (l : List (DD t)) (i n : Nat) : k.p.rmov (k.p.opn (k.m t l)) i n = match k.gp l i n with | none => none | some y => some (k.p.opn (k.m t y)) := by
 obtain ⟨p, m, al, g, gn, gs, gp, gt, ga, rfl, rfl, rfl, rfl, rfl, rfl, rfl, rfl, rfl⟩ := k
 refine (rmovs_gen (eD t) (mov_he t) l i n).trans ?_
 dsimp only
 cases partI l i n <;> rfl
theorem k_rset (t : TC) (l : List (DD t)) (j : Nat) (x : DD t) : k.p.rset (k.p.opn (k.m t l)) j ((eK k.p.yI k.m t x).map openD) = k.p.opn (k.m t (k.gt l j x)) := by
 obtain ⟨p, m, al, g, gn, gs, gp, gt, ga, rfl, rfl, rfl, rfl, rfl, rfl, rfl, rfl, rfl⟩ := k
 rw [eK_eD t x]
 exact rset_gen (eD t) l j x
theorem k_lset (t : TC) (l : List (DD t)) (j : Nat) (x : DD t) : k.p.len (k.m t (k.gt l j x)) = k.p.len (k.m t l) := by
 obtain ⟨p, m, al, g, gn, gs, gp, gt, ga, rfl, rfl, rfl, rfl, rfl, rfl, rfl, rfl, rfl⟩ := k
 exact lset_gen (eD t) l j x
theorem k_sub (t : TC) (l : List (DD t)) (lo hi : Option Int) : k.p.sub (k.m t l) lo hi = match k.gs l lo hi with | none => none | some y => some (k.m t y) := by
 obtain ⟨p, m, al, g, gn, gs, gp, gt, ga, rfl, rfl, rfl, rfl, rfl, rfl, rfl, rfl, rfl⟩ := k
 refine (sub_gen (eD t) l lo hi).trans ?_
 dsimp only
 cases subI l lo hi <;> rfl
theorem k_lit (t : TC) (x : DD t) : k.p.opn (k.m t [x]) = [(eK k.p.yI k.m t x).map openD] := by
 obtain ⟨p, m, al, g, gn, gs, gp, gt, ga, rfl, rfl, rfl, rfl, rfl, rfl, rfl, rfl, rfl⟩ := k
 rw [eK_eD t x]
 rfl
theorem k_rappL (t : TC) (A : List (List Cell)) (x : DD t) : k.p.rapp A [(eK k.p.yI k.m t x).map openD] = k.p.rapp A (k.p.opn (k.m t [x])) := by rw [k_lit]
theorem k_rlenL (t : TC) (x : DD t) : k.p.rlen [(eK k.p.yI k.m t x).map openD] = k.p.len (k.m t [x]) := by rw [← k_lit, k_rlen]
theorem mc : (∀ (t : TC) (x : DD t) (l : List (DD t)), k.m t (x :: l) = eK k.p.yI k.m t x :: k.m t l) ∧ (∀ t : TC, k.m t [] = []) ∧ k.p.yI 0 = 0 ∧ k.p.opn [] = [] ∧ k.p.len [] = 0 := by
 obtain ⟨p, m, al, g, gn, gs, gp, gt, ga, rfl, rfl, rfl, rfl, rfl, rfl, rfl, rfl, rfl⟩ := k
 exact ⟨fun t x l => by rw [eK_eD t x]; rfl, fun t => rfl, rfl, rfl, rfl⟩
theorem e1 : (∀ t : TC, k.p.opn (k.m t []) = []) ∧ (∀ t : TC, k.p.len (k.m t []) = 0) ∧ (∀ (t : TC) (x : DD t) (l : List (DD t)), k.p.opn (k.m t (x :: l)) = (eK k.p.yI k.m t x).map openD :: k.p.opn (k.m t l)) ∧ ∀ (t : TC) (x : DD t) (l : List (DD t)), k.p.len (k.m t (x :: l)) = k.p.len (k.m t l) + 1 := by
 obtain ⟨p, m, al, g, gn, gs, gp, gt, ga, rfl, rfl, rfl, rfl, rfl, rfl, rfl, rfl, rfl⟩ := k
 exact ⟨fun t => rfl, fun t => rfl, fun t x l => by rw [eK_eD t x]; rfl, fun t x l => rfl⟩
theorem k_str (l : List UInt8) : k.p.str (k.m .byt l) = some (k.p.ofB l) := by
 obtain ⟨p, m, al, g, gn, gs, gp, gt, ga, rfl, rfl, rfl, rfl, rfl, rfl, rfl, rfl, rfl⟩ := k
 exact str_gen l
theorem k_wy (x : Int) : k.p.wrap .u8 x = k.p.yI (k.p.byW x) := by
 obtain ⟨p, m, al, g, gn, gs, gp, gt, ga, rfl, rfl, rfl, rfl, rfl, rfl, rfl, rfl, rfl⟩ := k
 exact wy_gen x
end
theorem kb (k : Pk) : (∀ (t : TC) (l : List (DD t)) (i : Int), k.p.nth (k.m t l) i = match k.gn l i with | none => none | some x => some (eK k.p.yI k.m t x)) ∧
 (∀ (t : TC) (l : List (DD t)) (j : Nat), k.p.rnth (k.p.opn (k.m t l)) j = match k.g l j with | none => none | some x => some ((eK k.p.yI k.m t x).map openD)) ∧
 (∀ (t : TC) (l : List (DD t)), k.p.own (k.p.opn (k.m t l)) = some (k.m t l)) ∧
 (∀ (t : TC) (n : Nat) (l : List (DD t)), k.p.full 0 n (k.p.opn (k.m t l)) = decide (n = k.p.len (k.m t l))) ∧
 (∀ (t : TC) (a b : List (DD t)), k.p.rapp (k.p.opn (k.m t a)) (k.p.opn (k.m t b)) = k.p.opn (k.m t (k.ga a b))) ∧
 (∀ (t : TC) (a : List (DD t)), k.p.rapp [] (k.p.opn (k.m t a)) = k.p.opn (k.m t a)) ∧
 (∀ (t : TC) (l : List (DD t)), k.p.rlen (k.p.opn (k.m t l)) = k.p.len (k.m t l)) ∧
 (∀ (t : TC) (a b : List (DD t)), k.p.addN (k.p.len (k.m t a)) (k.p.len (k.m t b)) = k.p.len (k.m t (k.ga a b))) ∧
 (∀ (t : TC) (a : List (DD t)), k.p.addN 0 (k.p.len (k.m t a)) = k.p.len (k.m t a)) ∧
 (∀ (t : TC) (l : List (DD t)), k.p.frz (k.p.opn (k.m t l)) 0 (k.p.len (k.m t l)) = some (k.m t l)) ∧
 (∀ (t : TC) (l : List (DD t)), k.p.rmov (k.p.opn (k.m t l)) 0 (k.p.len (k.m t l)) = some (k.p.opn (k.m t l))) ∧
 (∀ (t : TC) (l : List (DD t)) (j : Nat) (x : DD t), k.p.len (k.m t (k.gt l j x)) = k.p.len (k.m t l)) ∧
 (∀ (t : TC) (l : List (DD t)) (lo hi : Option Int), k.p.sub (k.m t l) lo hi = match k.gs l lo hi with | none => none | some y => some (k.m t y)) ∧
 (∀ (l : List UInt8), k.p.str (k.m .byt l) = some (k.p.ofB l)) ∧
 (∀ (x : Int), k.p.wrap .u8 x = k.p.yI (k.p.byW x)) :=
 ⟨k_nth k, k_rnth k, k_own k, k_full k, k_rapp k, k_rapp0 k, k_rlen k, k_addn k, k_addn0 k, k_frz k, k_rmov k, k_lset k, k_sub k, k_str k, k_wy k⟩
theorem cS {α β : Type} {x : α} {f : α → Option β} {L : Option β} (h : L = f x) : L = (some x).bind f := h
theorem cZ {α β : Type} {f : α → Option β} {L : Option β} (h : L = none) : L = (none : Option α).bind f := h
theorem cG {α α' β : Type} {C : Option (List Arg)} {o : Option α'} {enc : α' → List Arg} {f : α' → Option α} {q : α → Option β} {L : Option β} (hc : C = o.bind fun r => some (enc r)) (h0 : C = none → L = none) (h1 : ∀ x, C = some (enc x) → L = (f x).bind q) : L = (o.bind f).bind q := by
 cases o with
 | none => exact h0 hc
 | some x => exact h1 x hc
theorem cO2 {α α' α'' β : Type} {o : Option (α' × α'')} {f : α' × α'' → Option α} {k : α → Option β} {L : Option β} (h0 : o = none → L = none) (h1 : ∀ x y, o = some (x, y) → L = (f (x, y)).bind k) : L = (o.bind f).bind k := cO h0 fun ⟨x, y⟩ h => h1 x y h
theorem cG2 {α α' α'' β : Type} {C : Option (List Arg)} {o : Option (α' × α'')} {enc : α' × α'' → List Arg} {f : α' × α'' → Option α} {q : α → Option β} {L : Option β} (hc : C = o.bind fun r => some (enc r)) (h0 : C = none → L = none) (h1 : ∀ x y, C = some (enc (x, y)) → L = (f (x, y)).bind q) : L = (o.bind f).bind q := cG hc h0 fun ⟨x, y⟩ h => h1 x y h
theorem cM (k : Pk) : ∀ (t : TC) (α β : Type) (z : DD t) (a b : Int) (c : Nat) (f : List (DD t) → Option α) (q : α → Option β) (L : Option β), (k.p.mkN a b c = none → L = none) → (∀ l : List (DD t), k.p.mkN a b c = some (k.p.len (k.m t l)) → k.p.rep (k.p.len (k.m t l)) ((eK k.p.yI k.m t z).map openD) = k.p.opn (k.m t l) → L = (f l).bind q) → L = ((mkSl z a b c).bind f).bind q := by
 obtain ⟨p, m, al, g, gn, gs, gp, gt, ga, rfl, rfl, rfl, rfl, rfl, rfl, rfl, rfl, rfl⟩ := k
 intro t α β z a b c f q L h0 h1
 have h := mkn_gen (eD t) z a b c
 cases hm : mkSl z a b c with
 | none => exact h0 (by rw [hm] at h; exact h)
 | some l => exact h1 l (by rw [hm] at h; exact h) (by rw [eK_eD t z]; exact rep_gen (eD t) z a b c l hm)
theorem lp {ι γ α : Type} {al : Looper (List Arg)} (hal : (fun F lv => aloop F lv fuel) = al) {F : St → (Ex → St → Option (List Arg)) → Option (List Arg)} {lv : List Nat} {K0 : Ex → St → Option (List Arg)} {σ : St} {step : ι → Option (ι ⊕ γ)} {x : ι} {f : γ → Option α} {q : α → Option (List Arg)} (u : St → ι → St) (kont : (Ex → St → Option (List Arg)) → St → γ → Option (List Arg))
  (h : ∀ K : Ex → St → Option (List Arg), (∀ σ, K .ret σ = K0 .ret σ) → ∀ x (R : St → Option (List Arg)), F (u (canon lv σ) x) (fun e σ' => match e with | .normal => R (canon lv σ') | .exit j => K (.exit j) σ' | .ret => K .ret σ') = (step x).bind fun s => match s with | .inl y => R (u (canon lv σ) y) | .inr g => kont K (canon lv σ) g)
  (hσ : canon lv σ = u (canon lv σ) x) (rest : ∀ g, kont K0 (canon lv σ) g = (f g).bind q) : al F lv σ K0 = ((whileO step fuel x).bind f).bind q :=
 (loop_al hal (u (canon lv σ)) step (fun K => kont K (canon lv σ)) h x σ hσ).trans (cL rest)
def Nx (T : FuncId → Option FE) (k : Pk) (F F' : Fns) : Prop := ∀ f fe, T f = some fe → ∀ xs, F' f xs = evBody k.p k.al TY F fe xs
end
end Go.Proofs.YtgfmmfpafcfjpaaGreat
