/- The data types of the program as structures, how they lie in cells, and their sizes. Printed by gen.py. -/
import Derived.Test.YtofieohogenojaaDoorBase
import Derived.Test.YtofieohogenojaaDoorProg
namespace Go.Proofs.YtofieohogenojaaDoor
open Go.RowKit
set_option linter.unusedVariables false
set_option linter.unusedSimpArgs false
set_option linter.unusedSectionVars false

def strs : Shape (List ByteArray) := Shape.sl 9 Shape.str
theorem info_string : (Tryd.prog.info? 9).map (fun i => (i.zero, i.size, i.bytes)) = some (some (.string (ByteArray.mk #[])), 1, 16) := by kernel_rfl
def sBytes : Shape (List UInt8) := Shape.sl 5 Shape.byte
theorem info_byte : (Tryd.prog.info? 5).map (fun i => (i.zero, i.size, i.bytes)) = some (some (.int .u8 0), 1, 1) := by kernel_rfl
structure DData where
  name : (List ByteArray)
  content : (List UInt8)
  keyName : (List ByteArray)
  freshUntil : Int
  signature : Int
def sData : Shape DData := (strs.pair (sBytes.pair (strs.pair (Shape.int.pair Shape.int)))).via fun x => (x.name, x.content, x.keyName, x.freshUntil, x.signature)
theorem sData_rd {w : World} {cs : List Value} {x : DData} (h : sData.rd w cs x) : ∃ c0 c1 c2, cs = [c0, c1, c2, .int .i64 x.freshUntil, .int .i64 x.signature] ∧ strs.rd w [c0] x.name ∧ sBytes.rd w [c1] x.content ∧ strs.rd w [c2] x.keyName ∧ I64 x.freshUntil ∧ I64 x.signature := by
  obtain ⟨_, _, rfl, h0, _, _, rfl, h1, _, _, rfl, h2, _, _, rfl, ⟨rfl, h3⟩, ⟨rfl, h4⟩⟩ := h
  obtain ⟨v0, rfl⟩ := one_cell (strs.len h0)
  obtain ⟨v1, rfl⟩ := one_cell (sBytes.len h1)
  obtain ⟨v2, rfl⟩ := one_cell (strs.len h2)
  exact ⟨v0, v1, v2, rfl, h0, h1, h2, h3, h4⟩
theorem sData_f0 {w : World} {a0 a1 a2 a3 a4 : Value} {x : DData} (h : sData.rd w [a0, a1, a2, a3, a4] x) : strs.rd w [a0] x.name := by
  obtain ⟨c0, c1, c2, he, r0, r1, r2, r3, r4⟩ := sData_rd h
  simp only [List.cons.injEq, and_true] at he
  obtain ⟨rfl, rfl, rfl, rfl, rfl⟩ := he
  exact r0
theorem sData_f1 {w : World} {a0 a1 a2 a3 a4 : Value} {x : DData} (h : sData.rd w [a0, a1, a2, a3, a4] x) : sBytes.rd w [a1] x.content := by
  obtain ⟨c0, c1, c2, he, r0, r1, r2, r3, r4⟩ := sData_rd h
  simp only [List.cons.injEq, and_true] at he
  obtain ⟨rfl, rfl, rfl, rfl, rfl⟩ := he
  exact r1
theorem sData_f2 {w : World} {a0 a1 a2 a3 a4 : Value} {x : DData} (h : sData.rd w [a0, a1, a2, a3, a4] x) : strs.rd w [a2] x.keyName := by
  obtain ⟨c0, c1, c2, he, r0, r1, r2, r3, r4⟩ := sData_rd h
  simp only [List.cons.injEq, and_true] at he
  obtain ⟨rfl, rfl, rfl, rfl, rfl⟩ := he
  exact r2
theorem sData_mk {w : World} {c0 c1 c2 : Value} {x : DData} (h0 : strs.rd w [c0] x.name) (h1 : sBytes.rd w [c1] x.content) (h2 : strs.rd w [c2] x.keyName) (h3 : I64 x.freshUntil) (h4 : I64 x.signature) : sData.rd w [c0, c1, c2, .int .i64 x.freshUntil, .int .i64 x.signature] x := ⟨[c0], _, rfl, h0, ⟨[c1], _, rfl, h1, ⟨[c2], _, rfl, h2, ⟨[.int .i64 x.freshUntil], _, rfl, ⟨rfl, h3⟩, ⟨rfl, h4⟩⟩⟩⟩⟩
def szData (x : DData) : Nat := (szL ByteArray.size) x.name + (szL (fun _ => 0)) x.content + (szL ByteArray.size) x.keyName

structure DTableEntry where
  name : (List ByteArray)
  value : Int
def sTableEntry : Shape DTableEntry := (strs.pair Shape.int).via fun x => (x.name, x.value)
theorem sTableEntry_rd {w : World} {cs : List Value} {x : DTableEntry} (h : sTableEntry.rd w cs x) : ∃ c0, cs = [c0, .int .i64 x.value] ∧ strs.rd w [c0] x.name ∧ I64 x.value := by
  obtain ⟨_, _, rfl, h0, ⟨rfl, h1⟩⟩ := h
  obtain ⟨v0, rfl⟩ := one_cell (strs.len h0)
  exact ⟨v0, rfl, h0, h1⟩
theorem sTableEntry_f0 {w : World} {a0 a1 : Value} {x : DTableEntry} (h : sTableEntry.rd w [a0, a1] x) : strs.rd w [a0] x.name := by
  obtain ⟨c0, he, r0, r1⟩ := sTableEntry_rd h
  simp only [List.cons.injEq, and_true] at he
  obtain ⟨rfl, rfl⟩ := he
  exact r0
theorem sTableEntry_mk {w : World} {c0 : Value} {x : DTableEntry} (h0 : strs.rd w [c0] x.name) (h1 : I64 x.value) : sTableEntry.rd w [c0, .int .i64 x.value] x := ⟨[c0], _, rfl, h0, ⟨rfl, h1⟩⟩
def szTableEntry (x : DTableEntry) : Nat := (szL ByteArray.size) x.name

def sTableEntryL : Shape (List DTableEntry) := Shape.sl 112 sTableEntry
theorem info_TableEntry : (Tryd.prog.info? 112).map (fun i => (i.zero, i.size, i.bytes)) = some (some (.agg #[.slice none 0 0, .int .i64 0]), 2, 32) := by kernel_rfl
structure DInterest where
  name : (List ByteArray)
  nonce : Int
  hopLimit : Int
  lifetime : Int
def sInterest : Shape DInterest := (strs.pair (Shape.int.pair (Shape.int.pair Shape.int))).via fun x => (x.name, x.nonce, x.hopLimit, x.lifetime)
theorem sInterest_rd {w : World} {cs : List Value} {x : DInterest} (h : sInterest.rd w cs x) : ∃ c0, cs = [c0, .int .i64 x.nonce, .int .i64 x.hopLimit, .int .i64 x.lifetime] ∧ strs.rd w [c0] x.name ∧ I64 x.nonce ∧ I64 x.hopLimit ∧ I64 x.lifetime := by
  obtain ⟨_, _, rfl, h0, _, _, rfl, ⟨rfl, h1⟩, _, _, rfl, ⟨rfl, h2⟩, ⟨rfl, h3⟩⟩ := h
  obtain ⟨v0, rfl⟩ := one_cell (strs.len h0)
  exact ⟨v0, rfl, h0, h1, h2, h3⟩
theorem sInterest_f0 {w : World} {a0 a1 a2 a3 : Value} {x : DInterest} (h : sInterest.rd w [a0, a1, a2, a3] x) : strs.rd w [a0] x.name := by
  obtain ⟨c0, he, r0, r1, r2, r3⟩ := sInterest_rd h
  simp only [List.cons.injEq, and_true] at he
  obtain ⟨rfl, rfl, rfl, rfl⟩ := he
  exact r0
theorem sInterest_mk {w : World} {c0 : Value} {x : DInterest} (h0 : strs.rd w [c0] x.name) (h1 : I64 x.nonce) (h2 : I64 x.hopLimit) (h3 : I64 x.lifetime) : sInterest.rd w [c0, .int .i64 x.nonce, .int .i64 x.hopLimit, .int .i64 x.lifetime] x := ⟨[c0], _, rfl, h0, ⟨[.int .i64 x.nonce], _, rfl, ⟨rfl, h1⟩, ⟨[.int .i64 x.hopLimit], _, rfl, ⟨rfl, h2⟩, ⟨rfl, h3⟩⟩⟩⟩
def szInterest (x : DInterest) : Nat := (szL ByteArray.size) x.name

structure DPacketInFlight where
  dest : Int
  face : Int
  isInterest : Bool
  interest : DInterest
  data : DData
def sPacketInFlight : Shape DPacketInFlight := (Shape.int.pair (Shape.int.pair (Shape.bool.pair (sInterest.pair sData)))).via fun x => (x.dest, x.face, x.isInterest, x.interest, x.data)
theorem sPacketInFlight_rd {w : World} {cs : List Value} {x : DPacketInFlight} (h : sPacketInFlight.rd w cs x) : ∃ c3 c7 c8 c9, cs = [.int .i64 x.dest, .int .i64 x.face, .bool x.isInterest, c3, .int .i64 x.interest.nonce, .int .i64 x.interest.hopLimit, .int .i64 x.interest.lifetime, c7, c8, c9, .int .i64 x.data.freshUntil, .int .i64 x.data.signature] ∧ I64 x.dest ∧ I64 x.face ∧ sInterest.rd w [c3, .int .i64 x.interest.nonce, .int .i64 x.interest.hopLimit, .int .i64 x.interest.lifetime] x.interest ∧ sData.rd w [c7, c8, c9, .int .i64 x.data.freshUntil, .int .i64 x.data.signature] x.data := by
  obtain ⟨_, _, rfl, ⟨rfl, h0⟩, _, _, rfl, ⟨rfl, h1⟩, _, _, rfl, ⟨rfl, _⟩, _, _, rfl, h3, h4⟩ := h
  have h3' := h3
  obtain ⟨v3, rfl, _, _, _, _⟩ := sInterest_rd h3
  have h4' := h4
  obtain ⟨v7, v8, v9, rfl, _, _, _, _, _⟩ := sData_rd h4
  exact ⟨v3, v7, v8, v9, rfl, h0, h1, h3', h4'⟩
theorem sPacketInFlight_f3 {w : World} {a0 a1 a2 a3 a4 a5 a6 a7 a8 a9 a10 a11 : Value} {x : DPacketInFlight} (h : sPacketInFlight.rd w [a0, a1, a2, a3, a4, a5, a6, a7, a8, a9, a10, a11] x) : sInterest.rd w [a3, a4, a5, a6] x.interest := by
  obtain ⟨c3, c7, c8, c9, he, r0, r1, r3, r4⟩ := sPacketInFlight_rd h
  simp only [List.cons.injEq, and_true] at he
  obtain ⟨rfl, rfl, rfl, rfl, rfl, rfl, rfl, rfl, rfl, rfl, rfl, rfl⟩ := he
  exact r3
theorem sPacketInFlight_f4 {w : World} {a0 a1 a2 a3 a4 a5 a6 a7 a8 a9 a10 a11 : Value} {x : DPacketInFlight} (h : sPacketInFlight.rd w [a0, a1, a2, a3, a4, a5, a6, a7, a8, a9, a10, a11] x) : sData.rd w [a7, a8, a9, a10, a11] x.data := by
  obtain ⟨c3, c7, c8, c9, he, r0, r1, r3, r4⟩ := sPacketInFlight_rd h
  simp only [List.cons.injEq, and_true] at he
  obtain ⟨rfl, rfl, rfl, rfl, rfl, rfl, rfl, rfl, rfl, rfl, rfl, rfl⟩ := he
  exact r4
theorem sPacketInFlight_mk {w : World} {c3 c7 c8 c9 : Value} {x : DPacketInFlight} (h0 : I64 x.dest) (h1 : I64 x.face) (h3 : sInterest.rd w [c3, .int .i64 x.interest.nonce, .int .i64 x.interest.hopLimit, .int .i64 x.interest.lifetime] x.interest) (h4 : sData.rd w [c7, c8, c9, .int .i64 x.data.freshUntil, .int .i64 x.data.signature] x.data) : sPacketInFlight.rd w [.int .i64 x.dest, .int .i64 x.face, .bool x.isInterest, c3, .int .i64 x.interest.nonce, .int .i64 x.interest.hopLimit, .int .i64 x.interest.lifetime, c7, c8, c9, .int .i64 x.data.freshUntil, .int .i64 x.data.signature] x := ⟨[.int .i64 x.dest], _, rfl, ⟨rfl, h0⟩, ⟨[.int .i64 x.face], _, rfl, ⟨rfl, h1⟩, ⟨[.bool x.isInterest], _, rfl, ⟨rfl, trivial⟩, ⟨[c3, .int .i64 x.interest.nonce, .int .i64 x.interest.hopLimit, .int .i64 x.interest.lifetime], _, rfl, h3, h4⟩⟩⟩⟩
def szPacketInFlight (x : DPacketInFlight) : Nat := szInterest x.interest + szData x.data

def sDataL : Shape (List DData) := Shape.sl 32 sData
theorem info_Data : (Tryd.prog.info? 32).map (fun i => (i.zero, i.size, i.bytes)) = some (some (.agg #[.slice none 0 0, .slice none 0 0, .slice none 0 0, .int .i64 0, .int .i64 0]), 5, 88) := by kernel_rfl
structure DCacheEntry where
  data : DData
  lastUsed : Int
def sCacheEntry : Shape DCacheEntry := (sData.pair Shape.int).via fun x => (x.data, x.lastUsed)
theorem sCacheEntry_rd {w : World} {cs : List Value} {x : DCacheEntry} (h : sCacheEntry.rd w cs x) : ∃ c0 c1 c2, cs = [c0, c1, c2, .int .i64 x.data.freshUntil, .int .i64 x.data.signature, .int .i64 x.lastUsed] ∧ sData.rd w [c0, c1, c2, .int .i64 x.data.freshUntil, .int .i64 x.data.signature] x.data ∧ I64 x.lastUsed := by
  obtain ⟨_, _, rfl, h0, ⟨rfl, h1⟩⟩ := h
  have h0' := h0
  obtain ⟨v0, v1, v2, rfl, _, _, _, _, _⟩ := sData_rd h0
  exact ⟨v0, v1, v2, rfl, h0', h1⟩
theorem sCacheEntry_f0 {w : World} {a0 a1 a2 a3 a4 a5 : Value} {x : DCacheEntry} (h : sCacheEntry.rd w [a0, a1, a2, a3, a4, a5] x) : sData.rd w [a0, a1, a2, a3, a4] x.data := by
  obtain ⟨c0, c1, c2, he, r0, r1⟩ := sCacheEntry_rd h
  simp only [List.cons.injEq, and_true] at he
  obtain ⟨rfl, rfl, rfl, rfl, rfl, rfl⟩ := he
  exact r0
theorem sCacheEntry_mk {w : World} {c0 c1 c2 : Value} {x : DCacheEntry} (h0 : sData.rd w [c0, c1, c2, .int .i64 x.data.freshUntil, .int .i64 x.data.signature] x.data) (h1 : I64 x.lastUsed) : sCacheEntry.rd w [c0, c1, c2, .int .i64 x.data.freshUntil, .int .i64 x.data.signature, .int .i64 x.lastUsed] x := ⟨[c0, c1, c2, .int .i64 x.data.freshUntil, .int .i64 x.data.signature], _, rfl, h0, ⟨rfl, h1⟩⟩
def szCacheEntry (x : DCacheEntry) : Nat := szData x.data

def sCacheEntryL : Shape (List DCacheEntry) := Shape.sl 226 sCacheEntry
theorem info_CacheEntry : (Tryd.prog.info? 226).map (fun i => (i.zero, i.size, i.bytes)) = some (some (.agg #[.slice none 0 0, .slice none 0 0, .slice none 0 0, .int .i64 0, .int .i64 0, .int .i64 0]), 6, 96) := by kernel_rfl
structure DContentStore where
  capacity : Int
  entries : (List DCacheEntry)
def sContentStore : Shape DContentStore := (Shape.int.pair sCacheEntryL).via fun x => (x.capacity, x.entries)
theorem sContentStore_rd {w : World} {cs : List Value} {x : DContentStore} (h : sContentStore.rd w cs x) : ∃ c1, cs = [.int .i64 x.capacity, c1] ∧ I64 x.capacity ∧ sCacheEntryL.rd w [c1] x.entries := by
  obtain ⟨_, _, rfl, ⟨rfl, h0⟩, h1⟩ := h
  obtain ⟨v1, rfl⟩ := one_cell (sCacheEntryL.len h1)
  exact ⟨v1, rfl, h0, h1⟩
theorem sContentStore_f1 {w : World} {a0 a1 : Value} {x : DContentStore} (h : sContentStore.rd w [a0, a1] x) : sCacheEntryL.rd w [a1] x.entries := by
  obtain ⟨c1, he, r0, r1⟩ := sContentStore_rd h
  simp only [List.cons.injEq, and_true] at he
  obtain ⟨rfl, rfl⟩ := he
  exact r1
theorem sContentStore_mk {w : World} {c1 : Value} {x : DContentStore} (h0 : I64 x.capacity) (h1 : sCacheEntryL.rd w [c1] x.entries) : sContentStore.rd w [.int .i64 x.capacity, c1] x := ⟨[.int .i64 x.capacity], _, rfl, ⟨rfl, h0⟩, h1⟩
def szContentStore (x : DContentStore) : Nat := (szL szCacheEntry) x.entries

structure DRequester where
  face : Int
  nonce : Int
  expiry : Int
def sRequester : Shape DRequester := (Shape.int.pair (Shape.int.pair Shape.int)).via fun x => (x.face, x.nonce, x.expiry)
theorem sRequester_rd {w : World} {cs : List Value} {x : DRequester} (h : sRequester.rd w cs x) : cs = [.int .i64 x.face, .int .i64 x.nonce, .int .i64 x.expiry] ∧ I64 x.face ∧ I64 x.nonce ∧ I64 x.expiry := by
  obtain ⟨_, _, rfl, ⟨rfl, h0⟩, _, _, rfl, ⟨rfl, h1⟩, ⟨rfl, h2⟩⟩ := h
  exact ⟨rfl, h0, h1, h2⟩
theorem sRequester_mk {w : World} {x : DRequester} (h0 : I64 x.face) (h1 : I64 x.nonce) (h2 : I64 x.expiry) : sRequester.rd w [.int .i64 x.face, .int .i64 x.nonce, .int .i64 x.expiry] x := ⟨[.int .i64 x.face], _, rfl, ⟨rfl, h0⟩, ⟨[.int .i64 x.nonce], _, rfl, ⟨rfl, h1⟩, ⟨rfl, h2⟩⟩⟩

def sRequesterL : Shape (List DRequester) := Shape.sl 236 sRequester
theorem info_Requester : (Tryd.prog.info? 236).map (fun i => (i.zero, i.size, i.bytes)) = some (some (.agg #[.int .i64 0, .int .i64 0, .int .i64 0]), 3, 24) := by kernel_rfl
structure DPendingInterest where
  name : (List ByteArray)
  requesters : (List DRequester)
  lastSent : Int
def sPendingInterest : Shape DPendingInterest := (strs.pair (sRequesterL.pair Shape.int)).via fun x => (x.name, x.requesters, x.lastSent)
theorem sPendingInterest_rd {w : World} {cs : List Value} {x : DPendingInterest} (h : sPendingInterest.rd w cs x) : ∃ c0 c1, cs = [c0, c1, .int .i64 x.lastSent] ∧ strs.rd w [c0] x.name ∧ sRequesterL.rd w [c1] x.requesters ∧ I64 x.lastSent := by
  obtain ⟨_, _, rfl, h0, _, _, rfl, h1, ⟨rfl, h2⟩⟩ := h
  obtain ⟨v0, rfl⟩ := one_cell (strs.len h0)
  obtain ⟨v1, rfl⟩ := one_cell (sRequesterL.len h1)
  exact ⟨v0, v1, rfl, h0, h1, h2⟩
theorem sPendingInterest_f0 {w : World} {a0 a1 a2 : Value} {x : DPendingInterest} (h : sPendingInterest.rd w [a0, a1, a2] x) : strs.rd w [a0] x.name := by
  obtain ⟨c0, c1, he, r0, r1, r2⟩ := sPendingInterest_rd h
  simp only [List.cons.injEq, and_true] at he
  obtain ⟨rfl, rfl, rfl⟩ := he
  exact r0
theorem sPendingInterest_f1 {w : World} {a0 a1 a2 : Value} {x : DPendingInterest} (h : sPendingInterest.rd w [a0, a1, a2] x) : sRequesterL.rd w [a1] x.requesters := by
  obtain ⟨c0, c1, he, r0, r1, r2⟩ := sPendingInterest_rd h
  simp only [List.cons.injEq, and_true] at he
  obtain ⟨rfl, rfl, rfl⟩ := he
  exact r1
theorem sPendingInterest_mk {w : World} {c0 c1 : Value} {x : DPendingInterest} (h0 : strs.rd w [c0] x.name) (h1 : sRequesterL.rd w [c1] x.requesters) (h2 : I64 x.lastSent) : sPendingInterest.rd w [c0, c1, .int .i64 x.lastSent] x := ⟨[c0], _, rfl, h0, ⟨[c1], _, rfl, h1, ⟨rfl, h2⟩⟩⟩
def szPendingInterest (x : DPendingInterest) : Nat := (szL ByteArray.size) x.name + (szL (fun _ => 0)) x.requesters

def sPendingInterestL : Shape (List DPendingInterest) := Shape.sl 191 sPendingInterest
theorem info_PendingInterest : (Tryd.prog.info? 191).map (fun i => (i.zero, i.size, i.bytes)) = some (some (.agg #[.slice none 0 0, .slice none 0 0, .int .i64 0]), 3, 56) := by kernel_rfl
structure DSeenNonce where
  name : (List ByteArray)
  nonce : Int
def sSeenNonce : Shape DSeenNonce := (strs.pair Shape.int).via fun x => (x.name, x.nonce)
theorem sSeenNonce_rd {w : World} {cs : List Value} {x : DSeenNonce} (h : sSeenNonce.rd w cs x) : ∃ c0, cs = [c0, .int .i64 x.nonce] ∧ strs.rd w [c0] x.name ∧ I64 x.nonce := by
  obtain ⟨_, _, rfl, h0, ⟨rfl, h1⟩⟩ := h
  obtain ⟨v0, rfl⟩ := one_cell (strs.len h0)
  exact ⟨v0, rfl, h0, h1⟩
theorem sSeenNonce_f0 {w : World} {a0 a1 : Value} {x : DSeenNonce} (h : sSeenNonce.rd w [a0, a1] x) : strs.rd w [a0] x.name := by
  obtain ⟨c0, he, r0, r1⟩ := sSeenNonce_rd h
  simp only [List.cons.injEq, and_true] at he
  obtain ⟨rfl, rfl⟩ := he
  exact r0
theorem sSeenNonce_mk {w : World} {c0 : Value} {x : DSeenNonce} (h0 : strs.rd w [c0] x.name) (h1 : I64 x.nonce) : sSeenNonce.rd w [c0, .int .i64 x.nonce] x := ⟨[c0], _, rfl, h0, ⟨rfl, h1⟩⟩
def szSeenNonce (x : DSeenNonce) : Nat := (szL ByteArray.size) x.name

def sSeenNonceL : Shape (List DSeenNonce) := Shape.sl 194 sSeenNonce
theorem info_SeenNonce : (Tryd.prog.info? 194).map (fun i => (i.zero, i.size, i.bytes)) = some (some (.agg #[.slice none 0 0, .int .i64 0]), 2, 32) := by kernel_rfl
structure DRoute where
  pfx : (List ByteArray)
  face : Int
  cost : Int
def sRoute : Shape DRoute := (strs.pair (Shape.int.pair Shape.int)).via fun x => (x.pfx, x.face, x.cost)
theorem sRoute_rd {w : World} {cs : List Value} {x : DRoute} (h : sRoute.rd w cs x) : ∃ c0, cs = [c0, .int .i64 x.face, .int .i64 x.cost] ∧ strs.rd w [c0] x.pfx ∧ I64 x.face ∧ I64 x.cost := by
  obtain ⟨_, _, rfl, h0, _, _, rfl, ⟨rfl, h1⟩, ⟨rfl, h2⟩⟩ := h
  obtain ⟨v0, rfl⟩ := one_cell (strs.len h0)
  exact ⟨v0, rfl, h0, h1, h2⟩
theorem sRoute_f0 {w : World} {a0 a1 a2 : Value} {x : DRoute} (h : sRoute.rd w [a0, a1, a2] x) : strs.rd w [a0] x.pfx := by
  obtain ⟨c0, he, r0, r1, r2⟩ := sRoute_rd h
  simp only [List.cons.injEq, and_true] at he
  obtain ⟨rfl, rfl, rfl⟩ := he
  exact r0
theorem sRoute_mk {w : World} {c0 : Value} {x : DRoute} (h0 : strs.rd w [c0] x.pfx) (h1 : I64 x.face) (h2 : I64 x.cost) : sRoute.rd w [c0, .int .i64 x.face, .int .i64 x.cost] x := ⟨[c0], _, rfl, h0, ⟨[.int .i64 x.face], _, rfl, ⟨rfl, h1⟩, ⟨rfl, h2⟩⟩⟩
def szRoute (x : DRoute) : Nat := (szL ByteArray.size) x.pfx

def sRouteL : Shape (List DRoute) := Shape.sl 197 sRoute
theorem info_Route : (Tryd.prog.info? 197).map (fun i => (i.zero, i.size, i.bytes)) = some (some (.agg #[.slice none 0 0, .int .i64 0, .int .i64 0]), 3, 40) := by kernel_rfl
structure DMeasurement where
  pfx : (List ByteArray)
  face : Int
  failures : Int
def sMeasurement : Shape DMeasurement := (strs.pair (Shape.int.pair Shape.int)).via fun x => (x.pfx, x.face, x.failures)
theorem sMeasurement_rd {w : World} {cs : List Value} {x : DMeasurement} (h : sMeasurement.rd w cs x) : ∃ c0, cs = [c0, .int .i64 x.face, .int .i64 x.failures] ∧ strs.rd w [c0] x.pfx ∧ I64 x.face ∧ I64 x.failures := by
  obtain ⟨_, _, rfl, h0, _, _, rfl, ⟨rfl, h1⟩, ⟨rfl, h2⟩⟩ := h
  obtain ⟨v0, rfl⟩ := one_cell (strs.len h0)
  exact ⟨v0, rfl, h0, h1, h2⟩
theorem sMeasurement_f0 {w : World} {a0 a1 a2 : Value} {x : DMeasurement} (h : sMeasurement.rd w [a0, a1, a2] x) : strs.rd w [a0] x.pfx := by
  obtain ⟨c0, he, r0, r1, r2⟩ := sMeasurement_rd h
  simp only [List.cons.injEq, and_true] at he
  obtain ⟨rfl, rfl, rfl⟩ := he
  exact r0
theorem sMeasurement_mk {w : World} {c0 : Value} {x : DMeasurement} (h0 : strs.rd w [c0] x.pfx) (h1 : I64 x.face) (h2 : I64 x.failures) : sMeasurement.rd w [c0, .int .i64 x.face, .int .i64 x.failures] x := ⟨[c0], _, rfl, h0, ⟨[.int .i64 x.face], _, rfl, ⟨rfl, h1⟩, ⟨rfl, h2⟩⟩⟩
def szMeasurement (x : DMeasurement) : Nat := (szL ByteArray.size) x.pfx

def sMeasurementL : Shape (List DMeasurement) := Shape.sl 200 sMeasurement
theorem info_Measurement : (Tryd.prog.info? 200).map (fun i => (i.zero, i.size, i.bytes)) = some (some (.agg #[.slice none 0 0, .int .i64 0, .int .i64 0]), 3, 40) := by kernel_rfl
structure DNode where
  locals : (List DData)
  cache : DContentStore
  pending : (List DPendingInterest)
  seen : (List DSeenNonce)
  routes : (List DRoute)
  measurements : (List DMeasurement)
  dropped : Int
def sNode : Shape DNode := (sDataL.pair (sContentStore.pair (sPendingInterestL.pair (sSeenNonceL.pair (sRouteL.pair (sMeasurementL.pair Shape.int)))))).via fun x => (x.locals, x.cache, x.pending, x.seen, x.routes, x.measurements, x.dropped)
theorem sNode_rd {w : World} {cs : List Value} {x : DNode} (h : sNode.rd w cs x) : ∃ c0 c2 c3 c4 c5 c6, cs = [c0, .int .i64 x.cache.capacity, c2, c3, c4, c5, c6, .int .i64 x.dropped] ∧ sDataL.rd w [c0] x.locals ∧ sContentStore.rd w [.int .i64 x.cache.capacity, c2] x.cache ∧ sPendingInterestL.rd w [c3] x.pending ∧ sSeenNonceL.rd w [c4] x.seen ∧ sRouteL.rd w [c5] x.routes ∧ sMeasurementL.rd w [c6] x.measurements ∧ I64 x.dropped := by
  obtain ⟨_, _, rfl, h0, _, _, rfl, h1, _, _, rfl, h2, _, _, rfl, h3, _, _, rfl, h4, _, _, rfl, h5, ⟨rfl, h6⟩⟩ := h
  obtain ⟨v0, rfl⟩ := one_cell (sDataL.len h0)
  have h1' := h1
  obtain ⟨v2, rfl, _, _⟩ := sContentStore_rd h1
  obtain ⟨v3, rfl⟩ := one_cell (sPendingInterestL.len h2)
  obtain ⟨v4, rfl⟩ := one_cell (sSeenNonceL.len h3)
  obtain ⟨v5, rfl⟩ := one_cell (sRouteL.len h4)
  obtain ⟨v6, rfl⟩ := one_cell (sMeasurementL.len h5)
  exact ⟨v0, v2, v3, v4, v5, v6, rfl, h0, h1', h2, h3, h4, h5, h6⟩
theorem sNode_f0 {w : World} {a0 a1 a2 a3 a4 a5 a6 a7 : Value} {x : DNode} (h : sNode.rd w [a0, a1, a2, a3, a4, a5, a6, a7] x) : sDataL.rd w [a0] x.locals := by
  obtain ⟨c0, c2, c3, c4, c5, c6, he, r0, r1, r2, r3, r4, r5, r6⟩ := sNode_rd h
  simp only [List.cons.injEq, and_true] at he
  obtain ⟨rfl, rfl, rfl, rfl, rfl, rfl, rfl, rfl⟩ := he
  exact r0
theorem sNode_f1 {w : World} {a0 a1 a2 a3 a4 a5 a6 a7 : Value} {x : DNode} (h : sNode.rd w [a0, a1, a2, a3, a4, a5, a6, a7] x) : sContentStore.rd w [a1, a2] x.cache := by
  obtain ⟨c0, c2, c3, c4, c5, c6, he, r0, r1, r2, r3, r4, r5, r6⟩ := sNode_rd h
  simp only [List.cons.injEq, and_true] at he
  obtain ⟨rfl, rfl, rfl, rfl, rfl, rfl, rfl, rfl⟩ := he
  exact r1
theorem sNode_f2 {w : World} {a0 a1 a2 a3 a4 a5 a6 a7 : Value} {x : DNode} (h : sNode.rd w [a0, a1, a2, a3, a4, a5, a6, a7] x) : sPendingInterestL.rd w [a3] x.pending := by
  obtain ⟨c0, c2, c3, c4, c5, c6, he, r0, r1, r2, r3, r4, r5, r6⟩ := sNode_rd h
  simp only [List.cons.injEq, and_true] at he
  obtain ⟨rfl, rfl, rfl, rfl, rfl, rfl, rfl, rfl⟩ := he
  exact r2
theorem sNode_f3 {w : World} {a0 a1 a2 a3 a4 a5 a6 a7 : Value} {x : DNode} (h : sNode.rd w [a0, a1, a2, a3, a4, a5, a6, a7] x) : sSeenNonceL.rd w [a4] x.seen := by
  obtain ⟨c0, c2, c3, c4, c5, c6, he, r0, r1, r2, r3, r4, r5, r6⟩ := sNode_rd h
  simp only [List.cons.injEq, and_true] at he
  obtain ⟨rfl, rfl, rfl, rfl, rfl, rfl, rfl, rfl⟩ := he
  exact r3
theorem sNode_f4 {w : World} {a0 a1 a2 a3 a4 a5 a6 a7 : Value} {x : DNode} (h : sNode.rd w [a0, a1, a2, a3, a4, a5, a6, a7] x) : sRouteL.rd w [a5] x.routes := by
  obtain ⟨c0, c2, c3, c4, c5, c6, he, r0, r1, r2, r3, r4, r5, r6⟩ := sNode_rd h
  simp only [List.cons.injEq, and_true] at he
  obtain ⟨rfl, rfl, rfl, rfl, rfl, rfl, rfl, rfl⟩ := he
  exact r4
theorem sNode_f5 {w : World} {a0 a1 a2 a3 a4 a5 a6 a7 : Value} {x : DNode} (h : sNode.rd w [a0, a1, a2, a3, a4, a5, a6, a7] x) : sMeasurementL.rd w [a6] x.measurements := by
  obtain ⟨c0, c2, c3, c4, c5, c6, he, r0, r1, r2, r3, r4, r5, r6⟩ := sNode_rd h
  simp only [List.cons.injEq, and_true] at he
  obtain ⟨rfl, rfl, rfl, rfl, rfl, rfl, rfl, rfl⟩ := he
  exact r5
theorem sNode_mk {w : World} {c0 c2 c3 c4 c5 c6 : Value} {x : DNode} (h0 : sDataL.rd w [c0] x.locals) (h1 : sContentStore.rd w [.int .i64 x.cache.capacity, c2] x.cache) (h2 : sPendingInterestL.rd w [c3] x.pending) (h3 : sSeenNonceL.rd w [c4] x.seen) (h4 : sRouteL.rd w [c5] x.routes) (h5 : sMeasurementL.rd w [c6] x.measurements) (h6 : I64 x.dropped) : sNode.rd w [c0, .int .i64 x.cache.capacity, c2, c3, c4, c5, c6, .int .i64 x.dropped] x := ⟨[c0], _, rfl, h0, ⟨[.int .i64 x.cache.capacity, c2], _, rfl, h1, ⟨[c3], _, rfl, h2, ⟨[c4], _, rfl, h3, ⟨[c5], _, rfl, h4, ⟨[c6], _, rfl, h5, ⟨rfl, h6⟩⟩⟩⟩⟩⟩⟩
def szNode (x : DNode) : Nat := (szL szData) x.locals + szContentStore x.cache + (szL szPendingInterest) x.pending + (szL szSeenNonce) x.seen + (szL szRoute) x.routes + (szL szMeasurement) x.measurements

structure DLink where
  a : Int
  b : Int
def sLink : Shape DLink := (Shape.int.pair Shape.int).via fun x => (x.a, x.b)
theorem sLink_rd {w : World} {cs : List Value} {x : DLink} (h : sLink.rd w cs x) : cs = [.int .i64 x.a, .int .i64 x.b] ∧ I64 x.a ∧ I64 x.b := by
  obtain ⟨_, _, rfl, ⟨rfl, h0⟩, ⟨rfl, h1⟩⟩ := h
  exact ⟨rfl, h0, h1⟩
theorem sLink_mk {w : World} {x : DLink} (h0 : I64 x.a) (h1 : I64 x.b) : sLink.rd w [.int .i64 x.a, .int .i64 x.b] x := ⟨[.int .i64 x.a], _, rfl, ⟨rfl, h0⟩, ⟨rfl, h1⟩⟩

def sLinkL : Shape (List DLink) := Shape.sl 163 sLink
theorem info_Link : (Tryd.prog.info? 163).map (fun i => (i.zero, i.size, i.bytes)) = some (some (.agg #[.int .i64 0, .int .i64 0]), 2, 16) := by kernel_rfl
structure DTopology where
  size : Int
  links : (List DLink)
def sTopology : Shape DTopology := (Shape.int.pair sLinkL).via fun x => (x.size, x.links)
theorem sTopology_rd {w : World} {cs : List Value} {x : DTopology} (h : sTopology.rd w cs x) : ∃ c1, cs = [.int .i64 x.size, c1] ∧ I64 x.size ∧ sLinkL.rd w [c1] x.links := by
  obtain ⟨_, _, rfl, ⟨rfl, h0⟩, h1⟩ := h
  obtain ⟨v1, rfl⟩ := one_cell (sLinkL.len h1)
  exact ⟨v1, rfl, h0, h1⟩
theorem sTopology_f1 {w : World} {a0 a1 : Value} {x : DTopology} (h : sTopology.rd w [a0, a1] x) : sLinkL.rd w [a1] x.links := by
  obtain ⟨c1, he, r0, r1⟩ := sTopology_rd h
  simp only [List.cons.injEq, and_true] at he
  obtain ⟨rfl, rfl⟩ := he
  exact r1
theorem sTopology_mk {w : World} {c1 : Value} {x : DTopology} (h0 : I64 x.size) (h1 : sLinkL.rd w [c1] x.links) : sTopology.rd w [.int .i64 x.size, c1] x := ⟨[.int .i64 x.size], _, rfl, ⟨rfl, h0⟩, h1⟩
def szTopology (x : DTopology) : Nat := (szL (fun _ => 0)) x.links

structure DPublication where
  publisher : (List ByteArray)
  seq : Int
  content : (List UInt8)
def sPublication : Shape DPublication := (strs.pair (Shape.int.pair sBytes)).via fun x => (x.publisher, x.seq, x.content)
theorem sPublication_rd {w : World} {cs : List Value} {x : DPublication} (h : sPublication.rd w cs x) : ∃ c0 c2, cs = [c0, .int .i64 x.seq, c2] ∧ strs.rd w [c0] x.publisher ∧ I64 x.seq ∧ sBytes.rd w [c2] x.content := by
  obtain ⟨_, _, rfl, h0, _, _, rfl, ⟨rfl, h1⟩, h2⟩ := h
  obtain ⟨v0, rfl⟩ := one_cell (strs.len h0)
  obtain ⟨v2, rfl⟩ := one_cell (sBytes.len h2)
  exact ⟨v0, v2, rfl, h0, h1, h2⟩
theorem sPublication_f0 {w : World} {a0 a1 a2 : Value} {x : DPublication} (h : sPublication.rd w [a0, a1, a2] x) : strs.rd w [a0] x.publisher := by
  obtain ⟨c0, c2, he, r0, r1, r2⟩ := sPublication_rd h
  simp only [List.cons.injEq, and_true] at he
  obtain ⟨rfl, rfl, rfl⟩ := he
  exact r0
theorem sPublication_f2 {w : World} {a0 a1 a2 : Value} {x : DPublication} (h : sPublication.rd w [a0, a1, a2] x) : sBytes.rd w [a2] x.content := by
  obtain ⟨c0, c2, he, r0, r1, r2⟩ := sPublication_rd h
  simp only [List.cons.injEq, and_true] at he
  obtain ⟨rfl, rfl, rfl⟩ := he
  exact r2
theorem sPublication_mk {w : World} {c0 c2 : Value} {x : DPublication} (h0 : strs.rd w [c0] x.publisher) (h1 : I64 x.seq) (h2 : sBytes.rd w [c2] x.content) : sPublication.rd w [c0, .int .i64 x.seq, c2] x := ⟨[c0], _, rfl, h0, ⟨[.int .i64 x.seq], _, rfl, ⟨rfl, h1⟩, h2⟩⟩
def szPublication (x : DPublication) : Nat := (szL ByteArray.size) x.publisher + (szL (fun _ => 0)) x.content

def sPublicationL : Shape (List DPublication) := Shape.sl 220 sPublication
theorem info_Publication : (Tryd.prog.info? 220).map (fun i => (i.zero, i.size, i.bytes)) = some (some (.agg #[.slice none 0 0, .int .i64 0, .slice none 0 0]), 3, 56) := by kernel_rfl
structure DMember where
  name : (List ByteArray)
  vector : (List DTableEntry)
  publications : (List DPublication)
def sMember : Shape DMember := (strs.pair (sTableEntryL.pair sPublicationL)).via fun x => (x.name, x.vector, x.publications)
theorem sMember_rd {w : World} {cs : List Value} {x : DMember} (h : sMember.rd w cs x) : ∃ c0 c1 c2, cs = [c0, c1, c2] ∧ strs.rd w [c0] x.name ∧ sTableEntryL.rd w [c1] x.vector ∧ sPublicationL.rd w [c2] x.publications := by
  obtain ⟨_, _, rfl, h0, _, _, rfl, h1, h2⟩ := h
  obtain ⟨v0, rfl⟩ := one_cell (strs.len h0)
  obtain ⟨v1, rfl⟩ := one_cell (sTableEntryL.len h1)
  obtain ⟨v2, rfl⟩ := one_cell (sPublicationL.len h2)
  exact ⟨v0, v1, v2, rfl, h0, h1, h2⟩
theorem sMember_f0 {w : World} {a0 a1 a2 : Value} {x : DMember} (h : sMember.rd w [a0, a1, a2] x) : strs.rd w [a0] x.name := by
  obtain ⟨c0, c1, c2, he, r0, r1, r2⟩ := sMember_rd h
  simp only [List.cons.injEq, and_true] at he
  obtain ⟨rfl, rfl, rfl⟩ := he
  exact r0
theorem sMember_f1 {w : World} {a0 a1 a2 : Value} {x : DMember} (h : sMember.rd w [a0, a1, a2] x) : sTableEntryL.rd w [a1] x.vector := by
  obtain ⟨c0, c1, c2, he, r0, r1, r2⟩ := sMember_rd h
  simp only [List.cons.injEq, and_true] at he
  obtain ⟨rfl, rfl, rfl⟩ := he
  exact r1
theorem sMember_f2 {w : World} {a0 a1 a2 : Value} {x : DMember} (h : sMember.rd w [a0, a1, a2] x) : sPublicationL.rd w [a2] x.publications := by
  obtain ⟨c0, c1, c2, he, r0, r1, r2⟩ := sMember_rd h
  simp only [List.cons.injEq, and_true] at he
  obtain ⟨rfl, rfl, rfl⟩ := he
  exact r2
theorem sMember_mk {w : World} {c0 c1 c2 : Value} {x : DMember} (h0 : strs.rd w [c0] x.name) (h1 : sTableEntryL.rd w [c1] x.vector) (h2 : sPublicationL.rd w [c2] x.publications) : sMember.rd w [c0, c1, c2] x := ⟨[c0], _, rfl, h0, ⟨[c1], _, rfl, h1, h2⟩⟩
def szMember (x : DMember) : Nat := (szL ByteArray.size) x.name + (szL szTableEntry) x.vector + (szL szPublication) x.publications

def sMemberL : Shape (List DMember) := Shape.sl 124 sMember
theorem info_Member : (Tryd.prog.info? 124).map (fun i => (i.zero, i.size, i.bytes)) = some (some (.agg #[.slice none 0 0, .slice none 0 0, .slice none 0 0]), 3, 72) := by kernel_rfl
structure DSyncGroup where
  topology : DTopology
  members : (List DMember)
def sSyncGroup : Shape DSyncGroup := (sTopology.pair sMemberL).via fun x => (x.topology, x.members)
theorem sSyncGroup_rd {w : World} {cs : List Value} {x : DSyncGroup} (h : sSyncGroup.rd w cs x) : ∃ c1 c2, cs = [.int .i64 x.topology.size, c1, c2] ∧ sTopology.rd w [.int .i64 x.topology.size, c1] x.topology ∧ sMemberL.rd w [c2] x.members := by
  obtain ⟨_, _, rfl, h0, h1⟩ := h
  have h0' := h0
  obtain ⟨v1, rfl, _, _⟩ := sTopology_rd h0
  obtain ⟨v2, rfl⟩ := one_cell (sMemberL.len h1)
  exact ⟨v1, v2, rfl, h0', h1⟩
theorem sSyncGroup_f0 {w : World} {a0 a1 a2 : Value} {x : DSyncGroup} (h : sSyncGroup.rd w [a0, a1, a2] x) : sTopology.rd w [a0, a1] x.topology := by
  obtain ⟨c1, c2, he, r0, r1⟩ := sSyncGroup_rd h
  simp only [List.cons.injEq, and_true] at he
  obtain ⟨rfl, rfl, rfl⟩ := he
  exact r0
theorem sSyncGroup_f1 {w : World} {a0 a1 a2 : Value} {x : DSyncGroup} (h : sSyncGroup.rd w [a0, a1, a2] x) : sMemberL.rd w [a2] x.members := by
  obtain ⟨c1, c2, he, r0, r1⟩ := sSyncGroup_rd h
  simp only [List.cons.injEq, and_true] at he
  obtain ⟨rfl, rfl, rfl⟩ := he
  exact r1
theorem sSyncGroup_mk {w : World} {c1 c2 : Value} {x : DSyncGroup} (h0 : sTopology.rd w [.int .i64 x.topology.size, c1] x.topology) (h1 : sMemberL.rd w [c2] x.members) : sSyncGroup.rd w [.int .i64 x.topology.size, c1, c2] x := ⟨[.int .i64 x.topology.size, c1], _, rfl, h0, h1⟩
def szSyncGroup (x : DSyncGroup) : Nat := szTopology x.topology + (szL szMember) x.members

end Go.Proofs.YtofieohogenojaaDoor
