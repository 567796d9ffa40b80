/- The data types of the program as structures, how they lie in cells, and their sizes. Printed by gen.py. -/
import Derived.Test.YtjdhggkbdognnaaGreatBase
import Derived.Test.YtjdhggkbdognnaaGreatProg
namespace Go.Proofs.YtjdhggkbdognnaaGreat
open Go.RowKit
set_option linter.unusedVariables false
set_option linter.unusedSimpArgs false
set_option linter.unusedSectionVars false

structure DLink where
  a : Int
  b : Int
def sLink : Shape DLink := (Shape.int.pair Shape.int).via fun x => (x.a, x.b)
theorem sLink_rd {w : World} {cs : List Value} {x : DLink} (h : sLink.rd w cs x) : cs = [.int .i64 x.a, .int .i64 x.b] ∧ I64 x.a ∧ I64 x.b := by
  obtain ⟨_, _, rfl, ⟨rfl, h0⟩, ⟨rfl, h1⟩⟩ := h
  exact ⟨rfl, h0, h1⟩
theorem sLink_mk {w : World} {x : DLink} (h0 : I64 x.a) (h1 : I64 x.b) : sLink.rd w [.int .i64 x.a, .int .i64 x.b] x := ⟨[.int .i64 x.a], _, rfl, ⟨rfl, h0⟩, ⟨rfl, h1⟩⟩

def sLinkL : Shape (List DLink) := Shape.sl 207 sLink
theorem info_Link : (Tryz.prog.info? 207).map (fun i => (i.zero, i.size, i.bytes)) = some (some (.agg #[.int .i64 0, .int .i64 0]), 2, 16) := by kernel_rfl
structure DTopology where
  size : Int
  links : (List DLink)
def sTopology : Shape DTopology := (Shape.int.pair sLinkL).via fun x => (x.size, x.links)
theorem sTopology_rd {w : World} {cs : List Value} {x : DTopology} (h : sTopology.rd w cs x) : ∃ c1, cs = [.int .i64 x.size, c1] ∧ I64 x.size ∧ sLinkL.rd w [c1] x.links := by
  obtain ⟨_, _, rfl, ⟨rfl, h0⟩, h1⟩ := h
  obtain ⟨v1, rfl⟩ := one_cell (sLinkL.len h1)
  exact ⟨v1, rfl, h0, h1⟩
theorem sTopology_f1 {w : World} {a0 a1 : Value} {x : DTopology} (h : sTopology.rd w [a0, a1] x) : sLinkL.rd w [a1] x.links := by
  obtain ⟨c1, he, r0, r1⟩ := sTopology_rd h
  simp only [List.cons.injEq, and_true] at he
  obtain ⟨rfl, rfl⟩ := he
  exact r1
theorem sTopology_mk {w : World} {c1 : Value} {x : DTopology} (h0 : I64 x.size) (h1 : sLinkL.rd w [c1] x.links) : sTopology.rd w [.int .i64 x.size, c1] x := ⟨[.int .i64 x.size], _, rfl, ⟨rfl, h0⟩, h1⟩
def szTopology (x : DTopology) : Nat := (szL (fun _ => 0)) x.links

def strs : Shape (List ByteArray) := Shape.sl 9 Shape.str
theorem info_string : (Tryz.prog.info? 9).map (fun i => (i.zero, i.size, i.bytes)) = some (some (.string (ByteArray.mk #[])), 1, 16) := by kernel_rfl
structure DKey where
  name : (List ByteArray)
  secret : Int
def sKey : Shape DKey := (strs.pair Shape.int).via fun x => (x.name, x.secret)
theorem sKey_rd {w : World} {cs : List Value} {x : DKey} (h : sKey.rd w cs x) : ∃ c0, cs = [c0, .int .i64 x.secret] ∧ strs.rd w [c0] x.name ∧ I64 x.secret := by
  obtain ⟨_, _, rfl, h0, ⟨rfl, h1⟩⟩ := h
  obtain ⟨v0, rfl⟩ := one_cell (strs.len h0)
  exact ⟨v0, rfl, h0, h1⟩
theorem sKey_f0 {w : World} {a0 a1 : Value} {x : DKey} (h : sKey.rd w [a0, a1] x) : strs.rd w [a0] x.name := by
  obtain ⟨c0, he, r0, r1⟩ := sKey_rd h
  simp only [List.cons.injEq, and_true] at he
  obtain ⟨rfl, rfl⟩ := he
  exact r0
theorem sKey_mk {w : World} {c0 : Value} {x : DKey} (h0 : strs.rd w [c0] x.name) (h1 : I64 x.secret) : sKey.rd w [c0, .int .i64 x.secret] x := ⟨[c0], _, rfl, h0, ⟨rfl, h1⟩⟩
def szKey (x : DKey) : Nat := (szL ByteArray.size) x.name

def sKeyL : Shape (List DKey) := Shape.sl 211 sKey
theorem info_Key : (Tryz.prog.info? 211).map (fun i => (i.zero, i.size, i.bytes)) = some (some (.agg #[.slice none 0 0, .int .i64 0]), 2, 32) := by kernel_rfl
structure DRule where
  dataPattern : (List ByteArray)
  keyPattern : (List ByteArray)
def sRule : Shape DRule := (strs.pair strs).via fun x => (x.dataPattern, x.keyPattern)
theorem sRule_rd {w : World} {cs : List Value} {x : DRule} (h : sRule.rd w cs x) : ∃ c0 c1, cs = [c0, c1] ∧ strs.rd w [c0] x.dataPattern ∧ strs.rd w [c1] x.keyPattern := by
  obtain ⟨_, _, rfl, h0, h1⟩ := h
  obtain ⟨v0, rfl⟩ := one_cell (strs.len h0)
  obtain ⟨v1, rfl⟩ := one_cell (strs.len h1)
  exact ⟨v0, v1, rfl, h0, h1⟩
theorem sRule_f0 {w : World} {a0 a1 : Value} {x : DRule} (h : sRule.rd w [a0, a1] x) : strs.rd w [a0] x.dataPattern := by
  obtain ⟨c0, c1, he, r0, r1⟩ := sRule_rd h
  simp only [List.cons.injEq, and_true] at he
  obtain ⟨rfl, rfl⟩ := he
  exact r0
theorem sRule_f1 {w : World} {a0 a1 : Value} {x : DRule} (h : sRule.rd w [a0, a1] x) : strs.rd w [a1] x.keyPattern := by
  obtain ⟨c0, c1, he, r0, r1⟩ := sRule_rd h
  simp only [List.cons.injEq, and_true] at he
  obtain ⟨rfl, rfl⟩ := he
  exact r1
theorem sRule_mk {w : World} {c0 c1 : Value} {x : DRule} (h0 : strs.rd w [c0] x.dataPattern) (h1 : strs.rd w [c1] x.keyPattern) : sRule.rd w [c0, c1] x := ⟨[c0], _, rfl, h0, h1⟩
def szRule (x : DRule) : Nat := (szL ByteArray.size) x.dataPattern + (szL ByteArray.size) x.keyPattern

def sRuleL : Shape (List DRule) := Shape.sl 215 sRule
theorem info_Rule : (Tryz.prog.info? 215).map (fun i => (i.zero, i.size, i.bytes)) = some (some (.agg #[.slice none 0 0, .slice none 0 0]), 2, 48) := by kernel_rfl
def sNameL : Shape (List (List ByteArray)) := Shape.sl 60 strs
theorem info_Name : (Tryz.prog.info? 60).map (fun i => (i.zero, i.size, i.bytes)) = some (some (.agg #[.slice none 0 0]), 1, 24) := by kernel_rfl
def sBytes : Shape (List UInt8) := Shape.sl 5 Shape.byte
theorem info_byte : (Tryz.prog.info? 5).map (fun i => (i.zero, i.size, i.bytes)) = some (some (.int .u8 0), 1, 1) := by kernel_rfl
structure DData where
  name : (List ByteArray)
  content : (List UInt8)
  keyName : (List ByteArray)
  freshUntil : Int
  signature : Int
def sData : Shape DData := (strs.pair (sBytes.pair (strs.pair (Shape.int.pair Shape.int)))).via fun x => (x.name, x.content, x.keyName, x.freshUntil, x.signature)
theorem sData_rd {w : World} {cs : List Value} {x : DData} (h : sData.rd w cs x) : ∃ c0 c1 c2, cs = [c0, c1, c2, .int .i64 x.freshUntil, .int .i64 x.signature] ∧ strs.rd w [c0] x.name ∧ sBytes.rd w [c1] x.content ∧ strs.rd w [c2] x.keyName ∧ I64 x.freshUntil ∧ I64 x.signature := by
  obtain ⟨_, _, rfl, h0, _, _, rfl, h1, _, _, rfl, h2, _, _, rfl, ⟨rfl, h3⟩, ⟨rfl, h4⟩⟩ := h
  obtain ⟨v0, rfl⟩ := one_cell (strs.len h0)
  obtain ⟨v1, rfl⟩ := one_cell (sBytes.len h1)
  obtain ⟨v2, rfl⟩ := one_cell (strs.len h2)
  exact ⟨v0, v1, v2, rfl, h0, h1, h2, h3, h4⟩
theorem sData_f0 {w : World} {a0 a1 a2 a3 a4 : Value} {x : DData} (h : sData.rd w [a0, a1, a2, a3, a4] x) : strs.rd w [a0] x.name := by
  obtain ⟨c0, c1, c2, he, r0, r1, r2, r3, r4⟩ := sData_rd h
  simp only [List.cons.injEq, and_true] at he
  obtain ⟨rfl, rfl, rfl, rfl, rfl⟩ := he
  exact r0
theorem sData_f1 {w : World} {a0 a1 a2 a3 a4 : Value} {x : DData} (h : sData.rd w [a0, a1, a2, a3, a4] x) : sBytes.rd w [a1] x.content := by
  obtain ⟨c0, c1, c2, he, r0, r1, r2, r3, r4⟩ := sData_rd h
  simp only [List.cons.injEq, and_true] at he
  obtain ⟨rfl, rfl, rfl, rfl, rfl⟩ := he
  exact r1
theorem sData_f2 {w : World} {a0 a1 a2 a3 a4 : Value} {x : DData} (h : sData.rd w [a0, a1, a2, a3, a4] x) : strs.rd w [a2] x.keyName := by
  obtain ⟨c0, c1, c2, he, r0, r1, r2, r3, r4⟩ := sData_rd h
  simp only [List.cons.injEq, and_true] at he
  obtain ⟨rfl, rfl, rfl, rfl, rfl⟩ := he
  exact r2
theorem sData_mk {w : World} {c0 c1 c2 : Value} {x : DData} (h0 : strs.rd w [c0] x.name) (h1 : sBytes.rd w [c1] x.content) (h2 : strs.rd w [c2] x.keyName) (h3 : I64 x.freshUntil) (h4 : I64 x.signature) : sData.rd w [c0, c1, c2, .int .i64 x.freshUntil, .int .i64 x.signature] x := ⟨[c0], _, rfl, h0, ⟨[c1], _, rfl, h1, ⟨[c2], _, rfl, h2, ⟨[.int .i64 x.freshUntil], _, rfl, ⟨rfl, h3⟩, ⟨rfl, h4⟩⟩⟩⟩⟩
def szData (x : DData) : Nat := (szL ByteArray.size) x.name + (szL (fun _ => 0)) x.content + (szL ByteArray.size) x.keyName

def sDataL : Shape (List DData) := Shape.sl 101 sData
theorem info_Data : (Tryz.prog.info? 101).map (fun i => (i.zero, i.size, i.bytes)) = some (some (.agg #[.slice none 0 0, .slice none 0 0, .slice none 0 0, .int .i64 0, .int .i64 0]), 5, 88) := by kernel_rfl
structure DTrustPolicy where
  keys : (List DKey)
  rules : (List DRule)
  anchors : (List (List ByteArray))
  certificates : (List DData)
def sTrustPolicy : Shape DTrustPolicy := (sKeyL.pair (sRuleL.pair (sNameL.pair sDataL))).via fun x => (x.keys, x.rules, x.anchors, x.certificates)
theorem sTrustPolicy_rd {w : World} {cs : List Value} {x : DTrustPolicy} (h : sTrustPolicy.rd w cs x) : ∃ c0 c1 c2 c3, cs = [c0, c1, c2, c3] ∧ sKeyL.rd w [c0] x.keys ∧ sRuleL.rd w [c1] x.rules ∧ sNameL.rd w [c2] x.anchors ∧ sDataL.rd w [c3] x.certificates := by
  obtain ⟨_, _, rfl, h0, _, _, rfl, h1, _, _, rfl, h2, h3⟩ := h
  obtain ⟨v0, rfl⟩ := one_cell (sKeyL.len h0)
  obtain ⟨v1, rfl⟩ := one_cell (sRuleL.len h1)
  obtain ⟨v2, rfl⟩ := one_cell (sNameL.len h2)
  obtain ⟨v3, rfl⟩ := one_cell (sDataL.len h3)
  exact ⟨v0, v1, v2, v3, rfl, h0, h1, h2, h3⟩
theorem sTrustPolicy_f0 {w : World} {a0 a1 a2 a3 : Value} {x : DTrustPolicy} (h : sTrustPolicy.rd w [a0, a1, a2, a3] x) : sKeyL.rd w [a0] x.keys := by
  obtain ⟨c0, c1, c2, c3, he, r0, r1, r2, r3⟩ := sTrustPolicy_rd h
  simp only [List.cons.injEq, and_true] at he
  obtain ⟨rfl, rfl, rfl, rfl⟩ := he
  exact r0
theorem sTrustPolicy_f1 {w : World} {a0 a1 a2 a3 : Value} {x : DTrustPolicy} (h : sTrustPolicy.rd w [a0, a1, a2, a3] x) : sRuleL.rd w [a1] x.rules := by
  obtain ⟨c0, c1, c2, c3, he, r0, r1, r2, r3⟩ := sTrustPolicy_rd h
  simp only [List.cons.injEq, and_true] at he
  obtain ⟨rfl, rfl, rfl, rfl⟩ := he
  exact r1
theorem sTrustPolicy_f2 {w : World} {a0 a1 a2 a3 : Value} {x : DTrustPolicy} (h : sTrustPolicy.rd w [a0, a1, a2, a3] x) : sNameL.rd w [a2] x.anchors := by
  obtain ⟨c0, c1, c2, c3, he, r0, r1, r2, r3⟩ := sTrustPolicy_rd h
  simp only [List.cons.injEq, and_true] at he
  obtain ⟨rfl, rfl, rfl, rfl⟩ := he
  exact r2
theorem sTrustPolicy_f3 {w : World} {a0 a1 a2 a3 : Value} {x : DTrustPolicy} (h : sTrustPolicy.rd w [a0, a1, a2, a3] x) : sDataL.rd w [a3] x.certificates := by
  obtain ⟨c0, c1, c2, c3, he, r0, r1, r2, r3⟩ := sTrustPolicy_rd h
  simp only [List.cons.injEq, and_true] at he
  obtain ⟨rfl, rfl, rfl, rfl⟩ := he
  exact r3
theorem sTrustPolicy_mk {w : World} {c0 c1 c2 c3 : Value} {x : DTrustPolicy} (h0 : sKeyL.rd w [c0] x.keys) (h1 : sRuleL.rd w [c1] x.rules) (h2 : sNameL.rd w [c2] x.anchors) (h3 : sDataL.rd w [c3] x.certificates) : sTrustPolicy.rd w [c0, c1, c2, c3] x := ⟨[c0], _, rfl, h0, ⟨[c1], _, rfl, h1, ⟨[c2], _, rfl, h2, h3⟩⟩⟩
def szTrustPolicy (x : DTrustPolicy) : Nat := (szL szKey) x.keys + (szL szRule) x.rules + (szL (szL ByteArray.size)) x.anchors + (szL szData) x.certificates

structure DTableEntry where
  name : (List ByteArray)
  value : Int
def sTableEntry : Shape DTableEntry := (strs.pair Shape.int).via fun x => (x.name, x.value)
theorem sTableEntry_rd {w : World} {cs : List Value} {x : DTableEntry} (h : sTableEntry.rd w cs x) : ∃ c0, cs = [c0, .int .i64 x.value] ∧ strs.rd w [c0] x.name ∧ I64 x.value := by
  obtain ⟨_, _, rfl, h0, ⟨rfl, h1⟩⟩ := h
  obtain ⟨v0, rfl⟩ := one_cell (strs.len h0)
  exact ⟨v0, rfl, h0, h1⟩
theorem sTableEntry_f0 {w : World} {a0 a1 : Value} {x : DTableEntry} (h : sTableEntry.rd w [a0, a1] x) : strs.rd w [a0] x.name := by
  obtain ⟨c0, he, r0, r1⟩ := sTableEntry_rd h
  simp only [List.cons.injEq, and_true] at he
  obtain ⟨rfl, rfl⟩ := he
  exact r0
theorem sTableEntry_mk {w : World} {c0 : Value} {x : DTableEntry} (h0 : strs.rd w [c0] x.name) (h1 : I64 x.value) : sTableEntry.rd w [c0, .int .i64 x.value] x := ⟨[c0], _, rfl, h0, ⟨rfl, h1⟩⟩
def szTableEntry (x : DTableEntry) : Nat := (szL ByteArray.size) x.name

def sTableEntryL : Shape (List DTableEntry) := Shape.sl 83 sTableEntry
theorem info_TableEntry : (Tryz.prog.info? 83).map (fun i => (i.zero, i.size, i.bytes)) = some (some (.agg #[.slice none 0 0, .int .i64 0]), 2, 32) := by kernel_rfl
structure DCacheEntry where
  data : DData
  lastUsed : Int
def sCacheEntry : Shape DCacheEntry := (sData.pair Shape.int).via fun x => (x.data, x.lastUsed)
theorem sCacheEntry_rd {w : World} {cs : List Value} {x : DCacheEntry} (h : sCacheEntry.rd w cs x) : ∃ c0 c1 c2, cs = [c0, c1, c2, .int .i64 x.data.freshUntil, .int .i64 x.data.signature, .int .i64 x.lastUsed] ∧ sData.rd w [c0, c1, c2, .int .i64 x.data.freshUntil, .int .i64 x.data.signature] x.data ∧ I64 x.lastUsed := by
  obtain ⟨_, _, rfl, h0, ⟨rfl, h1⟩⟩ := h
  have h0' := h0
  obtain ⟨v0, v1, v2, rfl, _, _, _, _, _⟩ := sData_rd h0
  exact ⟨v0, v1, v2, rfl, h0', h1⟩
theorem sCacheEntry_f0 {w : World} {a0 a1 a2 a3 a4 a5 : Value} {x : DCacheEntry} (h : sCacheEntry.rd w [a0, a1, a2, a3, a4, a5] x) : sData.rd w [a0, a1, a2, a3, a4] x.data := by
  obtain ⟨c0, c1, c2, he, r0, r1⟩ := sCacheEntry_rd h
  simp only [List.cons.injEq, and_true] at he
  obtain ⟨rfl, rfl, rfl, rfl, rfl, rfl⟩ := he
  exact r0
theorem sCacheEntry_mk {w : World} {c0 c1 c2 : Value} {x : DCacheEntry} (h0 : sData.rd w [c0, c1, c2, .int .i64 x.data.freshUntil, .int .i64 x.data.signature] x.data) (h1 : I64 x.lastUsed) : sCacheEntry.rd w [c0, c1, c2, .int .i64 x.data.freshUntil, .int .i64 x.data.signature, .int .i64 x.lastUsed] x := ⟨[c0, c1, c2, .int .i64 x.data.freshUntil, .int .i64 x.data.signature], _, rfl, h0, ⟨rfl, h1⟩⟩
def szCacheEntry (x : DCacheEntry) : Nat := szData x.data

def sCacheEntryL : Shape (List DCacheEntry) := Shape.sl 115 sCacheEntry
theorem info_CacheEntry : (Tryz.prog.info? 115).map (fun i => (i.zero, i.size, i.bytes)) = some (some (.agg #[.slice none 0 0, .slice none 0 0, .slice none 0 0, .int .i64 0, .int .i64 0, .int .i64 0]), 6, 96) := by kernel_rfl
structure DContentStore where
  capacity : Int
  entries : (List DCacheEntry)
def sContentStore : Shape DContentStore := (Shape.int.pair sCacheEntryL).via fun x => (x.capacity, x.entries)
theorem sContentStore_rd {w : World} {cs : List Value} {x : DContentStore} (h : sContentStore.rd w cs x) : ∃ c1, cs = [.int .i64 x.capacity, c1] ∧ I64 x.capacity ∧ sCacheEntryL.rd w [c1] x.entries := by
  obtain ⟨_, _, rfl, ⟨rfl, h0⟩, h1⟩ := h
  obtain ⟨v1, rfl⟩ := one_cell (sCacheEntryL.len h1)
  exact ⟨v1, rfl, h0, h1⟩
theorem sContentStore_f1 {w : World} {a0 a1 : Value} {x : DContentStore} (h : sContentStore.rd w [a0, a1] x) : sCacheEntryL.rd w [a1] x.entries := by
  obtain ⟨c1, he, r0, r1⟩ := sContentStore_rd h
  simp only [List.cons.injEq, and_true] at he
  obtain ⟨rfl, rfl⟩ := he
  exact r1
theorem sContentStore_mk {w : World} {c1 : Value} {x : DContentStore} (h0 : I64 x.capacity) (h1 : sCacheEntryL.rd w [c1] x.entries) : sContentStore.rd w [.int .i64 x.capacity, c1] x := ⟨[.int .i64 x.capacity], _, rfl, ⟨rfl, h0⟩, h1⟩
def szContentStore (x : DContentStore) : Nat := (szL szCacheEntry) x.entries

structure DRequester where
  face : Int
  nonce : Int
  expiry : Int
def sRequester : Shape DRequester := (Shape.int.pair (Shape.int.pair Shape.int)).via fun x => (x.face, x.nonce, x.expiry)
theorem sRequester_rd {w : World} {cs : List Value} {x : DRequester} (h : sRequester.rd w cs x) : cs = [.int .i64 x.face, .int .i64 x.nonce, .int .i64 x.expiry] ∧ I64 x.face ∧ I64 x.nonce ∧ I64 x.expiry := by
  obtain ⟨_, _, rfl, ⟨rfl, h0⟩, _, _, rfl, ⟨rfl, h1⟩, ⟨rfl, h2⟩⟩ := h
  exact ⟨rfl, h0, h1, h2⟩
theorem sRequester_mk {w : World} {x : DRequester} (h0 : I64 x.face) (h1 : I64 x.nonce) (h2 : I64 x.expiry) : sRequester.rd w [.int .i64 x.face, .int .i64 x.nonce, .int .i64 x.expiry] x := ⟨[.int .i64 x.face], _, rfl, ⟨rfl, h0⟩, ⟨[.int .i64 x.nonce], _, rfl, ⟨rfl, h1⟩, ⟨rfl, h2⟩⟩⟩

def sRequesterL : Shape (List DRequester) := Shape.sl 282 sRequester
theorem info_Requester : (Tryz.prog.info? 282).map (fun i => (i.zero, i.size, i.bytes)) = some (some (.agg #[.int .i64 0, .int .i64 0, .int .i64 0]), 3, 24) := by kernel_rfl
structure DPendingInterest where
  name : (List ByteArray)
  requesters : (List DRequester)
  lastSent : Int
def sPendingInterest : Shape DPendingInterest := (strs.pair (sRequesterL.pair Shape.int)).via fun x => (x.name, x.requesters, x.lastSent)
theorem sPendingInterest_rd {w : World} {cs : List Value} {x : DPendingInterest} (h : sPendingInterest.rd w cs x) : ∃ c0 c1, cs = [c0, c1, .int .i64 x.lastSent] ∧ strs.rd w [c0] x.name ∧ sRequesterL.rd w [c1] x.requesters ∧ I64 x.lastSent := by
  obtain ⟨_, _, rfl, h0, _, _, rfl, h1, ⟨rfl, h2⟩⟩ := h
  obtain ⟨v0, rfl⟩ := one_cell (strs.len h0)
  obtain ⟨v1, rfl⟩ := one_cell (sRequesterL.len h1)
  exact ⟨v0, v1, rfl, h0, h1, h2⟩
theorem sPendingInterest_f0 {w : World} {a0 a1 a2 : Value} {x : DPendingInterest} (h : sPendingInterest.rd w [a0, a1, a2] x) : strs.rd w [a0] x.name := by
  obtain ⟨c0, c1, he, r0, r1, r2⟩ := sPendingInterest_rd h
  simp only [List.cons.injEq, and_true] at he
  obtain ⟨rfl, rfl, rfl⟩ := he
  exact r0
theorem sPendingInterest_f1 {w : World} {a0 a1 a2 : Value} {x : DPendingInterest} (h : sPendingInterest.rd w [a0, a1, a2] x) : sRequesterL.rd w [a1] x.requesters := by
  obtain ⟨c0, c1, he, r0, r1, r2⟩ := sPendingInterest_rd h
  simp only [List.cons.injEq, and_true] at he
  obtain ⟨rfl, rfl, rfl⟩ := he
  exact r1
theorem sPendingInterest_mk {w : World} {c0 c1 : Value} {x : DPendingInterest} (h0 : strs.rd w [c0] x.name) (h1 : sRequesterL.rd w [c1] x.requesters) (h2 : I64 x.lastSent) : sPendingInterest.rd w [c0, c1, .int .i64 x.lastSent] x := ⟨[c0], _, rfl, h0, ⟨[c1], _, rfl, h1, ⟨rfl, h2⟩⟩⟩
def szPendingInterest (x : DPendingInterest) : Nat := (szL ByteArray.size) x.name + (szL (fun _ => 0)) x.requesters

def sPendingInterestL : Shape (List DPendingInterest) := Shape.sl 239 sPendingInterest
theorem info_PendingInterest : (Tryz.prog.info? 239).map (fun i => (i.zero, i.size, i.bytes)) = some (some (.agg #[.slice none 0 0, .slice none 0 0, .int .i64 0]), 3, 56) := by kernel_rfl
structure DSeenNonce where
  name : (List ByteArray)
  nonce : Int
def sSeenNonce : Shape DSeenNonce := (strs.pair Shape.int).via fun x => (x.name, x.nonce)
theorem sSeenNonce_rd {w : World} {cs : List Value} {x : DSeenNonce} (h : sSeenNonce.rd w cs x) : ∃ c0, cs = [c0, .int .i64 x.nonce] ∧ strs.rd w [c0] x.name ∧ I64 x.nonce := by
  obtain ⟨_, _, rfl, h0, ⟨rfl, h1⟩⟩ := h
  obtain ⟨v0, rfl⟩ := one_cell (strs.len h0)
  exact ⟨v0, rfl, h0, h1⟩
theorem sSeenNonce_f0 {w : World} {a0 a1 : Value} {x : DSeenNonce} (h : sSeenNonce.rd w [a0, a1] x) : strs.rd w [a0] x.name := by
  obtain ⟨c0, he, r0, r1⟩ := sSeenNonce_rd h
  simp only [List.cons.injEq, and_true] at he
  obtain ⟨rfl, rfl⟩ := he
  exact r0
theorem sSeenNonce_mk {w : World} {c0 : Value} {x : DSeenNonce} (h0 : strs.rd w [c0] x.name) (h1 : I64 x.nonce) : sSeenNonce.rd w [c0, .int .i64 x.nonce] x := ⟨[c0], _, rfl, h0, ⟨rfl, h1⟩⟩
def szSeenNonce (x : DSeenNonce) : Nat := (szL ByteArray.size) x.name

def sSeenNonceL : Shape (List DSeenNonce) := Shape.sl 242 sSeenNonce
theorem info_SeenNonce : (Tryz.prog.info? 242).map (fun i => (i.zero, i.size, i.bytes)) = some (some (.agg #[.slice none 0 0, .int .i64 0]), 2, 32) := by kernel_rfl
structure DRoute where
  pfx : (List ByteArray)
  face : Int
  cost : Int
def sRoute : Shape DRoute := (strs.pair (Shape.int.pair Shape.int)).via fun x => (x.pfx, x.face, x.cost)
theorem sRoute_rd {w : World} {cs : List Value} {x : DRoute} (h : sRoute.rd w cs x) : ∃ c0, cs = [c0, .int .i64 x.face, .int .i64 x.cost] ∧ strs.rd w [c0] x.pfx ∧ I64 x.face ∧ I64 x.cost := by
  obtain ⟨_, _, rfl, h0, _, _, rfl, ⟨rfl, h1⟩, ⟨rfl, h2⟩⟩ := h
  obtain ⟨v0, rfl⟩ := one_cell (strs.len h0)
  exact ⟨v0, rfl, h0, h1, h2⟩
theorem sRoute_f0 {w : World} {a0 a1 a2 : Value} {x : DRoute} (h : sRoute.rd w [a0, a1, a2] x) : strs.rd w [a0] x.pfx := by
  obtain ⟨c0, he, r0, r1, r2⟩ := sRoute_rd h
  simp only [List.cons.injEq, and_true] at he
  obtain ⟨rfl, rfl, rfl⟩ := he
  exact r0
theorem sRoute_mk {w : World} {c0 : Value} {x : DRoute} (h0 : strs.rd w [c0] x.pfx) (h1 : I64 x.face) (h2 : I64 x.cost) : sRoute.rd w [c0, .int .i64 x.face, .int .i64 x.cost] x := ⟨[c0], _, rfl, h0, ⟨[.int .i64 x.face], _, rfl, ⟨rfl, h1⟩, ⟨rfl, h2⟩⟩⟩
def szRoute (x : DRoute) : Nat := (szL ByteArray.size) x.pfx

def sRouteL : Shape (List DRoute) := Shape.sl 244 sRoute
theorem info_Route : (Tryz.prog.info? 244).map (fun i => (i.zero, i.size, i.bytes)) = some (some (.agg #[.slice none 0 0, .int .i64 0, .int .i64 0]), 3, 40) := by kernel_rfl
structure DMeasurement where
  pfx : (List ByteArray)
  face : Int
  failures : Int
def sMeasurement : Shape DMeasurement := (strs.pair (Shape.int.pair Shape.int)).via fun x => (x.pfx, x.face, x.failures)
theorem sMeasurement_rd {w : World} {cs : List Value} {x : DMeasurement} (h : sMeasurement.rd w cs x) : ∃ c0, cs = [c0, .int .i64 x.face, .int .i64 x.failures] ∧ strs.rd w [c0] x.pfx ∧ I64 x.face ∧ I64 x.failures := by
  obtain ⟨_, _, rfl, h0, _, _, rfl, ⟨rfl, h1⟩, ⟨rfl, h2⟩⟩ := h
  obtain ⟨v0, rfl⟩ := one_cell (strs.len h0)
  exact ⟨v0, rfl, h0, h1, h2⟩
theorem sMeasurement_f0 {w : World} {a0 a1 a2 : Value} {x : DMeasurement} (h : sMeasurement.rd w [a0, a1, a2] x) : strs.rd w [a0] x.pfx := by
  obtain ⟨c0, he, r0, r1, r2⟩ := sMeasurement_rd h
  simp only [List.cons.injEq, and_true] at he
  obtain ⟨rfl, rfl, rfl⟩ := he
  exact r0
theorem sMeasurement_mk {w : World} {c0 : Value} {x : DMeasurement} (h0 : strs.rd w [c0] x.pfx) (h1 : I64 x.face) (h2 : I64 x.failures) : sMeasurement.rd w [c0, .int .i64 x.face, .int .i64 x.failures] x := ⟨[c0], _, rfl, h0, ⟨[.int .i64 x.face], _, rfl, ⟨rfl, h1⟩, ⟨rfl, h2⟩⟩⟩
def szMeasurement (x : DMeasurement) : Nat := (szL ByteArray.size) x.pfx

def sMeasurementL : Shape (List DMeasurement) := Shape.sl 246 sMeasurement
theorem info_Measurement : (Tryz.prog.info? 246).map (fun i => (i.zero, i.size, i.bytes)) = some (some (.agg #[.slice none 0 0, .int .i64 0, .int .i64 0]), 3, 40) := by kernel_rfl
structure DNode where
  locals : (List DData)
  cache : DContentStore
  pending : (List DPendingInterest)
  seen : (List DSeenNonce)
  routes : (List DRoute)
  measurements : (List DMeasurement)
  dropped : Int
def sNode : Shape DNode := (sDataL.pair (sContentStore.pair (sPendingInterestL.pair (sSeenNonceL.pair (sRouteL.pair (sMeasurementL.pair Shape.int)))))).via fun x => (x.locals, x.cache, x.pending, x.seen, x.routes, x.measurements, x.dropped)
theorem sNode_rd {w : World} {cs : List Value} {x : DNode} (h : sNode.rd w cs x) : ∃ c0 c2 c3 c4 c5 c6, cs = [c0, .int .i64 x.cache.capacity, c2, c3, c4, c5, c6, .int .i64 x.dropped] ∧ sDataL.rd w [c0] x.locals ∧ sContentStore.rd w [.int .i64 x.cache.capacity, c2] x.cache ∧ sPendingInterestL.rd w [c3] x.pending ∧ sSeenNonceL.rd w [c4] x.seen ∧ sRouteL.rd w [c5] x.routes ∧ sMeasurementL.rd w [c6] x.measurements ∧ I64 x.dropped := by
  obtain ⟨_, _, rfl, h0, _, _, rfl, h1, _, _, rfl, h2, _, _, rfl, h3, _, _, rfl, h4, _, _, rfl, h5, ⟨rfl, h6⟩⟩ := h
  obtain ⟨v0, rfl⟩ := one_cell (sDataL.len h0)
  have h1' := h1
  obtain ⟨v2, rfl, _, _⟩ := sContentStore_rd h1
  obtain ⟨v3, rfl⟩ := one_cell (sPendingInterestL.len h2)
  obtain ⟨v4, rfl⟩ := one_cell (sSeenNonceL.len h3)
  obtain ⟨v5, rfl⟩ := one_cell (sRouteL.len h4)
  obtain ⟨v6, rfl⟩ := one_cell (sMeasurementL.len h5)
  exact ⟨v0, v2, v3, v4, v5, v6, rfl, h0, h1', h2, h3, h4, h5, h6⟩
theorem sNode_f0 {w : World} {a0 a1 a2 a3 a4 a5 a6 a7 : Value} {x : DNode} (h : sNode.rd w [a0, a1, a2, a3, a4, a5, a6, a7] x) : sDataL.rd w [a0] x.locals := by
  obtain ⟨c0, c2, c3, c4, c5, c6, he, r0, r1, r2, r3, r4, r5, r6⟩ := sNode_rd h
  simp only [List.cons.injEq, and_true] at he
  obtain ⟨rfl, rfl, rfl, rfl, rfl, rfl, rfl, rfl⟩ := he
  exact r0
theorem sNode_f1 {w : World} {a0 a1 a2 a3 a4 a5 a6 a7 : Value} {x : DNode} (h : sNode.rd w [a0, a1, a2, a3, a4, a5, a6, a7] x) : sContentStore.rd w [a1, a2] x.cache := by
  obtain ⟨c0, c2, c3, c4, c5, c6, he, r0, r1, r2, r3, r4, r5, r6⟩ := sNode_rd h
  simp only [List.cons.injEq, and_true] at he
  obtain ⟨rfl, rfl, rfl, rfl, rfl, rfl, rfl, rfl⟩ := he
  exact r1
theorem sNode_f2 {w : World} {a0 a1 a2 a3 a4 a5 a6 a7 : Value} {x : DNode} (h : sNode.rd w [a0, a1, a2, a3, a4, a5, a6, a7] x) : sPendingInterestL.rd w [a3] x.pending := by
  obtain ⟨c0, c2, c3, c4, c5, c6, he, r0, r1, r2, r3, r4, r5, r6⟩ := sNode_rd h
  simp only [List.cons.injEq, and_true] at he
  obtain ⟨rfl, rfl, rfl, rfl, rfl, rfl, rfl, rfl⟩ := he
  exact r2
theorem sNode_f3 {w : World} {a0 a1 a2 a3 a4 a5 a6 a7 : Value} {x : DNode} (h : sNode.rd w [a0, a1, a2, a3, a4, a5, a6, a7] x) : sSeenNonceL.rd w [a4] x.seen := by
  obtain ⟨c0, c2, c3, c4, c5, c6, he, r0, r1, r2, r3, r4, r5, r6⟩ := sNode_rd h
  simp only [List.cons.injEq, and_true] at he
  obtain ⟨rfl, rfl, rfl, rfl, rfl, rfl, rfl, rfl⟩ := he
  exact r3
theorem sNode_f4 {w : World} {a0 a1 a2 a3 a4 a5 a6 a7 : Value} {x : DNode} (h : sNode.rd w [a0, a1, a2, a3, a4, a5, a6, a7] x) : sRouteL.rd w [a5] x.routes := by
  obtain ⟨c0, c2, c3, c4, c5, c6, he, r0, r1, r2, r3, r4, r5, r6⟩ := sNode_rd h
  simp only [List.cons.injEq, and_true] at he
  obtain ⟨rfl, rfl, rfl, rfl, rfl, rfl, rfl, rfl⟩ := he
  exact r4
theorem sNode_f5 {w : World} {a0 a1 a2 a3 a4 a5 a6 a7 : Value} {x : DNode} (h : sNode.rd w [a0, a1, a2, a3, a4, a5, a6, a7] x) : sMeasurementL.rd w [a6] x.measurements := by
  obtain ⟨c0, c2, c3, c4, c5, c6, he, r0, r1, r2, r3, r4, r5, r6⟩ := sNode_rd h
  simp only [List.cons.injEq, and_true] at he
  obtain ⟨rfl, rfl, rfl, rfl, rfl, rfl, rfl, rfl⟩ := he
  exact r5
theorem sNode_mk {w : World} {c0 c2 c3 c4 c5 c6 : Value} {x : DNode} (h0 : sDataL.rd w [c0] x.locals) (h1 : sContentStore.rd w [.int .i64 x.cache.capacity, c2] x.cache) (h2 : sPendingInterestL.rd w [c3] x.pending) (h3 : sSeenNonceL.rd w [c4] x.seen) (h4 : sRouteL.rd w [c5] x.routes) (h5 : sMeasurementL.rd w [c6] x.measurements) (h6 : I64 x.dropped) : sNode.rd w [c0, .int .i64 x.cache.capacity, c2, c3, c4, c5, c6, .int .i64 x.dropped] x := ⟨[c0], _, rfl, h0, ⟨[.int .i64 x.cache.capacity, c2], _, rfl, h1, ⟨[c3], _, rfl, h2, ⟨[c4], _, rfl, h3, ⟨[c5], _, rfl, h4, ⟨[c6], _, rfl, h5, ⟨rfl, h6⟩⟩⟩⟩⟩⟩⟩
def szNode (x : DNode) : Nat := (szL szData) x.locals + szContentStore x.cache + (szL szPendingInterest) x.pending + (szL szSeenNonce) x.seen + (szL szRoute) x.routes + (szL szMeasurement) x.measurements

def sNodeL : Shape (List DNode) := Shape.sl 113 sNode
theorem info_Node : (Tryz.prog.info? 113).map (fun i => (i.zero, i.size, i.bytes)) = some (some (.agg #[.slice none 0 0, .int .i64 0, .slice none 0 0, .slice none 0 0, .slice none 0 0, .slice none 0 0, .slice none 0 0, .int .i64 0]), 8, 160) := by kernel_rfl
def sInts : Shape (List Int) := Shape.sl 3 Shape.int
theorem info_int : (Tryz.prog.info? 3).map (fun i => (i.zero, i.size, i.bytes)) = some (some (.int .i64 0), 1, 8) := by kernel_rfl
structure DInterest where
  name : (List ByteArray)
  nonce : Int
  hopLimit : Int
  lifetime : Int
def sInterest : Shape DInterest := (strs.pair (Shape.int.pair (Shape.int.pair Shape.int))).via fun x => (x.name, x.nonce, x.hopLimit, x.lifetime)
theorem sInterest_rd {w : World} {cs : List Value} {x : DInterest} (h : sInterest.rd w cs x) : ∃ c0, cs = [c0, .int .i64 x.nonce, .int .i64 x.hopLimit, .int .i64 x.lifetime] ∧ strs.rd w [c0] x.name ∧ I64 x.nonce ∧ I64 x.hopLimit ∧ I64 x.lifetime := by
  obtain ⟨_, _, rfl, h0, _, _, rfl, ⟨rfl, h1⟩, _, _, rfl, ⟨rfl, h2⟩, ⟨rfl, h3⟩⟩ := h
  obtain ⟨v0, rfl⟩ := one_cell (strs.len h0)
  exact ⟨v0, rfl, h0, h1, h2, h3⟩
theorem sInterest_f0 {w : World} {a0 a1 a2 a3 : Value} {x : DInterest} (h : sInterest.rd w [a0, a1, a2, a3] x) : strs.rd w [a0] x.name := by
  obtain ⟨c0, he, r0, r1, r2, r3⟩ := sInterest_rd h
  simp only [List.cons.injEq, and_true] at he
  obtain ⟨rfl, rfl, rfl, rfl⟩ := he
  exact r0
theorem sInterest_mk {w : World} {c0 : Value} {x : DInterest} (h0 : strs.rd w [c0] x.name) (h1 : I64 x.nonce) (h2 : I64 x.hopLimit) (h3 : I64 x.lifetime) : sInterest.rd w [c0, .int .i64 x.nonce, .int .i64 x.hopLimit, .int .i64 x.lifetime] x := ⟨[c0], _, rfl, h0, ⟨[.int .i64 x.nonce], _, rfl, ⟨rfl, h1⟩, ⟨[.int .i64 x.hopLimit], _, rfl, ⟨rfl, h2⟩, ⟨rfl, h3⟩⟩⟩⟩
def szInterest (x : DInterest) : Nat := (szL ByteArray.size) x.name

structure DPacketInFlight where
  dest : Int
  face : Int
  isInterest : Bool
  interest : DInterest
  data : DData
def sPacketInFlight : Shape DPacketInFlight := (Shape.int.pair (Shape.int.pair (Shape.bool.pair (sInterest.pair sData)))).via fun x => (x.dest, x.face, x.isInterest, x.interest, x.data)
theorem sPacketInFlight_rd {w : World} {cs : List Value} {x : DPacketInFlight} (h : sPacketInFlight.rd w cs x) : ∃ c3 c7 c8 c9, cs = [.int .i64 x.dest, .int .i64 x.face, .bool x.isInterest, c3, .int .i64 x.interest.nonce, .int .i64 x.interest.hopLimit, .int .i64 x.interest.lifetime, c7, c8, c9, .int .i64 x.data.freshUntil, .int .i64 x.data.signature] ∧ I64 x.dest ∧ I64 x.face ∧ sInterest.rd w [c3, .int .i64 x.interest.nonce, .int .i64 x.interest.hopLimit, .int .i64 x.interest.lifetime] x.interest ∧ sData.rd w [c7, c8, c9, .int .i64 x.data.freshUntil, .int .i64 x.data.signature] x.data := by
  obtain ⟨_, _, rfl, ⟨rfl, h0⟩, _, _, rfl, ⟨rfl, h1⟩, _, _, rfl, ⟨rfl, _⟩, _, _, rfl, h3, h4⟩ := h
  have h3' := h3
  obtain ⟨v3, rfl, _, _, _, _⟩ := sInterest_rd h3
  have h4' := h4
  obtain ⟨v7, v8, v9, rfl, _, _, _, _, _⟩ := sData_rd h4
  exact ⟨v3, v7, v8, v9, rfl, h0, h1, h3', h4'⟩
theorem sPacketInFlight_f3 {w : World} {a0 a1 a2 a3 a4 a5 a6 a7 a8 a9 a10 a11 : Value} {x : DPacketInFlight} (h : sPacketInFlight.rd w [a0, a1, a2, a3, a4, a5, a6, a7, a8, a9, a10, a11] x) : sInterest.rd w [a3, a4, a5, a6] x.interest := by
  obtain ⟨c3, c7, c8, c9, he, r0, r1, r3, r4⟩ := sPacketInFlight_rd h
  simp only [List.cons.injEq, and_true] at he
  obtain ⟨rfl, rfl, rfl, rfl, rfl, rfl, rfl, rfl, rfl, rfl, rfl, rfl⟩ := he
  exact r3
theorem sPacketInFlight_f4 {w : World} {a0 a1 a2 a3 a4 a5 a6 a7 a8 a9 a10 a11 : Value} {x : DPacketInFlight} (h : sPacketInFlight.rd w [a0, a1, a2, a3, a4, a5, a6, a7, a8, a9, a10, a11] x) : sData.rd w [a7, a8, a9, a10, a11] x.data := by
  obtain ⟨c3, c7, c8, c9, he, r0, r1, r3, r4⟩ := sPacketInFlight_rd h
  simp only [List.cons.injEq, and_true] at he
  obtain ⟨rfl, rfl, rfl, rfl, rfl, rfl, rfl, rfl, rfl, rfl, rfl, rfl⟩ := he
  exact r4
theorem sPacketInFlight_mk {w : World} {c3 c7 c8 c9 : Value} {x : DPacketInFlight} (h0 : I64 x.dest) (h1 : I64 x.face) (h3 : sInterest.rd w [c3, .int .i64 x.interest.nonce, .int .i64 x.interest.hopLimit, .int .i64 x.interest.lifetime] x.interest) (h4 : sData.rd w [c7, c8, c9, .int .i64 x.data.freshUntil, .int .i64 x.data.signature] x.data) : sPacketInFlight.rd w [.int .i64 x.dest, .int .i64 x.face, .bool x.isInterest, c3, .int .i64 x.interest.nonce, .int .i64 x.interest.hopLimit, .int .i64 x.interest.lifetime, c7, c8, c9, .int .i64 x.data.freshUntil, .int .i64 x.data.signature] x := ⟨[.int .i64 x.dest], _, rfl, ⟨rfl, h0⟩, ⟨[.int .i64 x.face], _, rfl, ⟨rfl, h1⟩, ⟨[.bool x.isInterest], _, rfl, ⟨rfl, trivial⟩, ⟨[c3, .int .i64 x.interest.nonce, .int .i64 x.interest.hopLimit, .int .i64 x.interest.lifetime], _, rfl, h3, h4⟩⟩⟩⟩
def szPacketInFlight (x : DPacketInFlight) : Nat := szInterest x.interest + szData x.data

def sPacketInFlightL : Shape (List DPacketInFlight) := Shape.sl 164 sPacketInFlight
theorem info_PacketInFlight : (Tryz.prog.info? 164).map (fun i => (i.zero, i.size, i.bytes)) = some (some (.agg #[.int .i64 0, .int .i64 0, .bool false, .slice none 0 0, .int .i64 0, .int .i64 0, .int .i64 0, .slice none 0 0, .slice none 0 0, .slice none 0 0, .int .i64 0, .int .i64 0]), 12, 160) := by kernel_rfl
structure DConsumer where
  node : Int
  index : Int
  name : (List ByteArray)
  attempts : Int
  wait : Int
  satisfied : Bool
  data : DData
def sConsumer : Shape DConsumer := (Shape.int.pair (Shape.int.pair (strs.pair (Shape.int.pair (Shape.int.pair (Shape.bool.pair sData)))))).via fun x => (x.node, x.index, x.name, x.attempts, x.wait, x.satisfied, x.data)
theorem sConsumer_rd {w : World} {cs : List Value} {x : DConsumer} (h : sConsumer.rd w cs x) : ∃ c2 c6 c7 c8, cs = [.int .i64 x.node, .int .i64 x.index, c2, .int .i64 x.attempts, .int .i64 x.wait, .bool x.satisfied, c6, c7, c8, .int .i64 x.data.freshUntil, .int .i64 x.data.signature] ∧ I64 x.node ∧ I64 x.index ∧ strs.rd w [c2] x.name ∧ I64 x.attempts ∧ I64 x.wait ∧ sData.rd w [c6, c7, c8, .int .i64 x.data.freshUntil, .int .i64 x.data.signature] x.data := by
  obtain ⟨_, _, rfl, ⟨rfl, h0⟩, _, _, rfl, ⟨rfl, h1⟩, _, _, rfl, h2, _, _, rfl, ⟨rfl, h3⟩, _, _, rfl, ⟨rfl, h4⟩, _, _, rfl, ⟨rfl, _⟩, h6⟩ := h
  obtain ⟨v2, rfl⟩ := one_cell (strs.len h2)
  have h6' := h6
  obtain ⟨v6, v7, v8, rfl, _, _, _, _, _⟩ := sData_rd h6
  exact ⟨v2, v6, v7, v8, rfl, h0, h1, h2, h3, h4, h6'⟩
theorem sConsumer_f2 {w : World} {a0 a1 a2 a3 a4 a5 a6 a7 a8 a9 a10 : Value} {x : DConsumer} (h : sConsumer.rd w [a0, a1, a2, a3, a4, a5, a6, a7, a8, a9, a10] x) : strs.rd w [a2] x.name := by
  obtain ⟨c2, c6, c7, c8, he, r0, r1, r2, r3, r4, r6⟩ := sConsumer_rd h
  simp only [List.cons.injEq, and_true] at he
  obtain ⟨rfl, rfl, rfl, rfl, rfl, rfl, rfl, rfl, rfl, rfl, rfl⟩ := he
  exact r2
theorem sConsumer_f6 {w : World} {a0 a1 a2 a3 a4 a5 a6 a7 a8 a9 a10 : Value} {x : DConsumer} (h : sConsumer.rd w [a0, a1, a2, a3, a4, a5, a6, a7, a8, a9, a10] x) : sData.rd w [a6, a7, a8, a9, a10] x.data := by
  obtain ⟨c2, c6, c7, c8, he, r0, r1, r2, r3, r4, r6⟩ := sConsumer_rd h
  simp only [List.cons.injEq, and_true] at he
  obtain ⟨rfl, rfl, rfl, rfl, rfl, rfl, rfl, rfl, rfl, rfl, rfl⟩ := he
  exact r6
theorem sConsumer_mk {w : World} {c2 c6 c7 c8 : Value} {x : DConsumer} (h0 : I64 x.node) (h1 : I64 x.index) (h2 : strs.rd w [c2] x.name) (h3 : I64 x.attempts) (h4 : I64 x.wait) (h6 : sData.rd w [c6, c7, c8, .int .i64 x.data.freshUntil, .int .i64 x.data.signature] x.data) : sConsumer.rd w [.int .i64 x.node, .int .i64 x.index, c2, .int .i64 x.attempts, .int .i64 x.wait, .bool x.satisfied, c6, c7, c8, .int .i64 x.data.freshUntil, .int .i64 x.data.signature] x := ⟨[.int .i64 x.node], _, rfl, ⟨rfl, h0⟩, ⟨[.int .i64 x.index], _, rfl, ⟨rfl, h1⟩, ⟨[c2], _, rfl, h2, ⟨[.int .i64 x.attempts], _, rfl, ⟨rfl, h3⟩, ⟨[.int .i64 x.wait], _, rfl, ⟨rfl, h4⟩, ⟨[.bool x.satisfied], _, rfl, ⟨rfl, trivial⟩, h6⟩⟩⟩⟩⟩⟩
def szConsumer (x : DConsumer) : Nat := (szL ByteArray.size) x.name + szData x.data

def sConsumerL : Shape (List DConsumer) := Shape.sl 103 sConsumer
theorem info_Consumer : (Tryz.prog.info? 103).map (fun i => (i.zero, i.size, i.bytes)) = some (some (.agg #[.int .i64 0, .int .i64 0, .slice none 0 0, .int .i64 0, .int .i64 0, .bool false, .slice none 0 0, .slice none 0 0, .slice none 0 0, .int .i64 0, .int .i64 0]), 11, 152) := by kernel_rfl
structure DNetwork where
  topology : DTopology
  trust : DTrustPolicy
  producers : (List DTableEntry)
  nodes : (List DNode)
  downNodes : Int
  failedLinks : (List Int)
  inFlight : (List DPacketInFlight)
  consumers : (List DConsumer)
  now : Int
  dropped : Int
def sNetwork : Shape DNetwork := (sTopology.pair (sTrustPolicy.pair (sTableEntryL.pair (sNodeL.pair (Shape.int.pair (sInts.pair (sPacketInFlightL.pair (sConsumerL.pair (Shape.int.pair Shape.int))))))))).via fun x => (x.topology, x.trust, x.producers, x.nodes, x.downNodes, x.failedLinks, x.inFlight, x.consumers, x.now, x.dropped)
theorem sNetwork_rd {w : World} {cs : List Value} {x : DNetwork} (h : sNetwork.rd w cs x) : ∃ c1 c2 c3 c4 c5 c6 c7 c9 c10 c11, cs = [.int .i64 x.topology.size, c1, c2, c3, c4, c5, c6, c7, .int .i64 x.downNodes, c9, c10, c11, .int .i64 x.now, .int .i64 x.dropped] ∧ sTopology.rd w [.int .i64 x.topology.size, c1] x.topology ∧ sTrustPolicy.rd w [c2, c3, c4, c5] x.trust ∧ sTableEntryL.rd w [c6] x.producers ∧ sNodeL.rd w [c7] x.nodes ∧ I64 x.downNodes ∧ sInts.rd w [c9] x.failedLinks ∧ sPacketInFlightL.rd w [c10] x.inFlight ∧ sConsumerL.rd w [c11] x.consumers ∧ I64 x.now ∧ I64 x.dropped := by
  obtain ⟨_, _, rfl, h0, _, _, rfl, h1, _, _, rfl, h2, _, _, rfl, h3, _, _, rfl, ⟨rfl, h4⟩, _, _, rfl, h5, _, _, rfl, h6, _, _, rfl, h7, _, _, rfl, ⟨rfl, h8⟩, ⟨rfl, h9⟩⟩ := h
  have h0' := h0
  obtain ⟨v1, rfl, _, _⟩ := sTopology_rd h0
  have h1' := h1
  obtain ⟨v2, v3, v4, v5, rfl, _, _, _, _⟩ := sTrustPolicy_rd h1
  obtain ⟨v6, rfl⟩ := one_cell (sTableEntryL.len h2)
  obtain ⟨v7, rfl⟩ := one_cell (sNodeL.len h3)
  obtain ⟨v9, rfl⟩ := one_cell (sInts.len h5)
  obtain ⟨v10, rfl⟩ := one_cell (sPacketInFlightL.len h6)
  obtain ⟨v11, rfl⟩ := one_cell (sConsumerL.len h7)
  exact ⟨v1, v2, v3, v4, v5, v6, v7, v9, v10, v11, rfl, h0', h1', h2, h3, h4, h5, h6, h7, h8, h9⟩
theorem sNetwork_f0 {w : World} {a0 a1 a2 a3 a4 a5 a6 a7 a8 a9 a10 a11 a12 a13 : Value} {x : DNetwork} (h : sNetwork.rd w [a0, a1, a2, a3, a4, a5, a6, a7, a8, a9, a10, a11, a12, a13] x) : sTopology.rd w [a0, a1] x.topology := by
  obtain ⟨c1, c2, c3, c4, c5, c6, c7, c9, c10, c11, he, r0, r1, r2, r3, r4, r5, r6, r7, r8, r9⟩ := sNetwork_rd h
  simp only [List.cons.injEq, and_true] at he
  obtain ⟨rfl, rfl, rfl, rfl, rfl, rfl, rfl, rfl, rfl, rfl, rfl, rfl, rfl, rfl⟩ := he
  exact r0
theorem sNetwork_f1 {w : World} {a0 a1 a2 a3 a4 a5 a6 a7 a8 a9 a10 a11 a12 a13 : Value} {x : DNetwork} (h : sNetwork.rd w [a0, a1, a2, a3, a4, a5, a6, a7, a8, a9, a10, a11, a12, a13] x) : sTrustPolicy.rd w [a2, a3, a4, a5] x.trust := by
  obtain ⟨c1, c2, c3, c4, c5, c6, c7, c9, c10, c11, he, r0, r1, r2, r3, r4, r5, r6, r7, r8, r9⟩ := sNetwork_rd h
  simp only [List.cons.injEq, and_true] at he
  obtain ⟨rfl, rfl, rfl, rfl, rfl, rfl, rfl, rfl, rfl, rfl, rfl, rfl, rfl, rfl⟩ := he
  exact r1
theorem sNetwork_f2 {w : World} {a0 a1 a2 a3 a4 a5 a6 a7 a8 a9 a10 a11 a12 a13 : Value} {x : DNetwork} (h : sNetwork.rd w [a0, a1, a2, a3, a4, a5, a6, a7, a8, a9, a10, a11, a12, a13] x) : sTableEntryL.rd w [a6] x.producers := by
  obtain ⟨c1, c2, c3, c4, c5, c6, c7, c9, c10, c11, he, r0, r1, r2, r3, r4, r5, r6, r7, r8, r9⟩ := sNetwork_rd h
  simp only [List.cons.injEq, and_true] at he
  obtain ⟨rfl, rfl, rfl, rfl, rfl, rfl, rfl, rfl, rfl, rfl, rfl, rfl, rfl, rfl⟩ := he
  exact r2
theorem sNetwork_f3 {w : World} {a0 a1 a2 a3 a4 a5 a6 a7 a8 a9 a10 a11 a12 a13 : Value} {x : DNetwork} (h : sNetwork.rd w [a0, a1, a2, a3, a4, a5, a6, a7, a8, a9, a10, a11, a12, a13] x) : sNodeL.rd w [a7] x.nodes := by
  obtain ⟨c1, c2, c3, c4, c5, c6, c7, c9, c10, c11, he, r0, r1, r2, r3, r4, r5, r6, r7, r8, r9⟩ := sNetwork_rd h
  simp only [List.cons.injEq, and_true] at he
  obtain ⟨rfl, rfl, rfl, rfl, rfl, rfl, rfl, rfl, rfl, rfl, rfl, rfl, rfl, rfl⟩ := he
  exact r3
theorem sNetwork_f5 {w : World} {a0 a1 a2 a3 a4 a5 a6 a7 a8 a9 a10 a11 a12 a13 : Value} {x : DNetwork} (h : sNetwork.rd w [a0, a1, a2, a3, a4, a5, a6, a7, a8, a9, a10, a11, a12, a13] x) : sInts.rd w [a9] x.failedLinks := by
  obtain ⟨c1, c2, c3, c4, c5, c6, c7, c9, c10, c11, he, r0, r1, r2, r3, r4, r5, r6, r7, r8, r9⟩ := sNetwork_rd h
  simp only [List.cons.injEq, and_true] at he
  obtain ⟨rfl, rfl, rfl, rfl, rfl, rfl, rfl, rfl, rfl, rfl, rfl, rfl, rfl, rfl⟩ := he
  exact r5
theorem sNetwork_f6 {w : World} {a0 a1 a2 a3 a4 a5 a6 a7 a8 a9 a10 a11 a12 a13 : Value} {x : DNetwork} (h : sNetwork.rd w [a0, a1, a2, a3, a4, a5, a6, a7, a8, a9, a10, a11, a12, a13] x) : sPacketInFlightL.rd w [a10] x.inFlight := by
  obtain ⟨c1, c2, c3, c4, c5, c6, c7, c9, c10, c11, he, r0, r1, r2, r3, r4, r5, r6, r7, r8, r9⟩ := sNetwork_rd h
  simp only [List.cons.injEq, and_true] at he
  obtain ⟨rfl, rfl, rfl, rfl, rfl, rfl, rfl, rfl, rfl, rfl, rfl, rfl, rfl, rfl⟩ := he
  exact r6
theorem sNetwork_f7 {w : World} {a0 a1 a2 a3 a4 a5 a6 a7 a8 a9 a10 a11 a12 a13 : Value} {x : DNetwork} (h : sNetwork.rd w [a0, a1, a2, a3, a4, a5, a6, a7, a8, a9, a10, a11, a12, a13] x) : sConsumerL.rd w [a11] x.consumers := by
  obtain ⟨c1, c2, c3, c4, c5, c6, c7, c9, c10, c11, he, r0, r1, r2, r3, r4, r5, r6, r7, r8, r9⟩ := sNetwork_rd h
  simp only [List.cons.injEq, and_true] at he
  obtain ⟨rfl, rfl, rfl, rfl, rfl, rfl, rfl, rfl, rfl, rfl, rfl, rfl, rfl, rfl⟩ := he
  exact r7
theorem sNetwork_mk {w : World} {c1 c2 c3 c4 c5 c6 c7 c9 c10 c11 : Value} {x : DNetwork} (h0 : sTopology.rd w [.int .i64 x.topology.size, c1] x.topology) (h1 : sTrustPolicy.rd w [c2, c3, c4, c5] x.trust) (h2 : sTableEntryL.rd w [c6] x.producers) (h3 : sNodeL.rd w [c7] x.nodes) (h4 : I64 x.downNodes) (h5 : sInts.rd w [c9] x.failedLinks) (h6 : sPacketInFlightL.rd w [c10] x.inFlight) (h7 : sConsumerL.rd w [c11] x.consumers) (h8 : I64 x.now) (h9 : I64 x.dropped) : sNetwork.rd w [.int .i64 x.topology.size, c1, c2, c3, c4, c5, c6, c7, .int .i64 x.downNodes, c9, c10, c11, .int .i64 x.now, .int .i64 x.dropped] x := ⟨[.int .i64 x.topology.size, c1], _, rfl, h0, ⟨[c2, c3, c4, c5], _, rfl, h1, ⟨[c6], _, rfl, h2, ⟨[c7], _, rfl, h3, ⟨[.int .i64 x.downNodes], _, rfl, ⟨rfl, h4⟩, ⟨[c9], _, rfl, h5, ⟨[c10], _, rfl, h6, ⟨[c11], _, rfl, h7, ⟨[.int .i64 x.now], _, rfl, ⟨rfl, h8⟩, ⟨rfl, h9⟩⟩⟩⟩⟩⟩⟩⟩⟩⟩
def szNetwork (x : DNetwork) : Nat := szTopology x.topology + szTrustPolicy x.trust + (szL szTableEntry) x.producers + (szL szNode) x.nodes + (szL (fun _ => 0)) x.failedLinks + (szL szPacketInFlight) x.inFlight + (szL szConsumer) x.consumers

end Go.Proofs.YtjdhggkbdognnaaGreat
