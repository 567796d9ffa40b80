/- The data types of the program as structures, how they lie in cells, and their sizes. Printed by gen.py. -/
import Derived.Test.YtofieohogenojaaGreatDoorBase
import Derived.Test.YtofieohogenojaaGreatDoorProg
namespace Go.Proofs.YtofieohogenojaaGreatDoor
open Go.RowKit
set_option linter.unusedVariables false
set_option linter.unusedSimpArgs false
set_option linter.unusedSectionVars false

structure DLink where
  a : Int
  b : Int
def sLink : Shape DLink := (Shape.int.pair Shape.int).via fun x => (x.a, x.b)
theorem sLink_rd {w : World} {cs : List Value} {x : DLink} (h : sLink.rd w cs x) : cs = [.int .i64 x.a, .int .i64 x.b] ∧ I64 x.a ∧ I64 x.b := by
  obtain ⟨_, _, rfl, ⟨rfl, h0⟩, ⟨rfl, h1⟩⟩ := h
  exact ⟨rfl, h0, h1⟩
theorem sLink_mk {w : World} {x : DLink} (h0 : I64 x.a) (h1 : I64 x.b) : sLink.rd w [.int .i64 x.a, .int .i64 x.b] x := ⟨[.int .i64 x.a], _, rfl, ⟨rfl, h0⟩, ⟨rfl, h1⟩⟩

def sLinkL : Shape (List DLink) := Shape.sl 68 sLink
theorem info_Link : (Tryz.prog.info? 68).map (fun i => (i.zero, i.size, i.bytes)) = some (some (.agg #[.int .i64 0, .int .i64 0]), 2, 16) := by kernel_rfl
structure DTopology where
  size : Int
  links : (List DLink)
def sTopology : Shape DTopology := (Shape.int.pair sLinkL).via fun x => (x.size, x.links)
theorem sTopology_rd {w : World} {cs : List Value} {x : DTopology} (h : sTopology.rd w cs x) : ∃ c1, cs = [.int .i64 x.size, c1] ∧ I64 x.size ∧ sLinkL.rd w [c1] x.links := by
  obtain ⟨_, _, rfl, ⟨rfl, h0⟩, h1⟩ := h
  obtain ⟨v1, rfl⟩ := one_cell (sLinkL.len h1)
  exact ⟨v1, rfl, h0, h1⟩
theorem sTopology_f1 {w : World} {a0 a1 : Value} {x : DTopology} (h : sTopology.rd w [a0, a1] x) : sLinkL.rd w [a1] x.links := by
  obtain ⟨c1, he, r0, r1⟩ := sTopology_rd h
  simp only [List.cons.injEq, and_true] at he
  obtain ⟨rfl, rfl⟩ := he
  exact r1
theorem sTopology_mk {w : World} {c1 : Value} {x : DTopology} (h0 : I64 x.size) (h1 : sLinkL.rd w [c1] x.links) : sTopology.rd w [.int .i64 x.size, c1] x := ⟨[.int .i64 x.size], _, rfl, ⟨rfl, h0⟩, h1⟩
def szTopology (x : DTopology) : Nat := (szL (fun _ => 0)) x.links

def strs : Shape (List ByteArray) := Shape.sl 9 Shape.str
theorem info_string : (Tryz.prog.info? 9).map (fun i => (i.zero, i.size, i.bytes)) = some (some (.string (ByteArray.mk #[])), 1, 16) := by kernel_rfl
structure DTableEntry where
  name : (List ByteArray)
  value : Int
def sTableEntry : Shape DTableEntry := (strs.pair Shape.int).via fun x => (x.name, x.value)
theorem sTableEntry_rd {w : World} {cs : List Value} {x : DTableEntry} (h : sTableEntry.rd w cs x) : ∃ c0, cs = [c0, .int .i64 x.value] ∧ strs.rd w [c0] x.name ∧ I64 x.value := by
  obtain ⟨_, _, rfl, h0, ⟨rfl, h1⟩⟩ := h
  obtain ⟨v0, rfl⟩ := one_cell (strs.len h0)
  exact ⟨v0, rfl, h0, h1⟩
theorem sTableEntry_f0 {w : World} {a0 a1 : Value} {x : DTableEntry} (h : sTableEntry.rd w [a0, a1] x) : strs.rd w [a0] x.name := by
  obtain ⟨c0, he, r0, r1⟩ := sTableEntry_rd h
  simp only [List.cons.injEq, and_true] at he
  obtain ⟨rfl, rfl⟩ := he
  exact r0
theorem sTableEntry_mk {w : World} {c0 : Value} {x : DTableEntry} (h0 : strs.rd w [c0] x.name) (h1 : I64 x.value) : sTableEntry.rd w [c0, .int .i64 x.value] x := ⟨[c0], _, rfl, h0, ⟨rfl, h1⟩⟩
def szTableEntry (x : DTableEntry) : Nat := (szL ByteArray.size) x.name

def sTableEntryL : Shape (List DTableEntry) := Shape.sl 92 sTableEntry
theorem info_TableEntry : (Tryz.prog.info? 92).map (fun i => (i.zero, i.size, i.bytes)) = some (some (.agg #[.slice none 0 0, .int .i64 0]), 2, 32) := by kernel_rfl
def sBytes : Shape (List UInt8) := Shape.sl 5 Shape.byte
theorem info_byte : (Tryz.prog.info? 5).map (fun i => (i.zero, i.size, i.bytes)) = some (some (.int .u8 0), 1, 1) := by kernel_rfl
structure DPublication where
  publisher : (List ByteArray)
  seq : Int
  content : (List UInt8)
def sPublication : Shape DPublication := (strs.pair (Shape.int.pair sBytes)).via fun x => (x.publisher, x.seq, x.content)
theorem sPublication_rd {w : World} {cs : List Value} {x : DPublication} (h : sPublication.rd w cs x) : ∃ c0 c2, cs = [c0, .int .i64 x.seq, c2] ∧ strs.rd w [c0] x.publisher ∧ I64 x.seq ∧ sBytes.rd w [c2] x.content := by
  obtain ⟨_, _, rfl, h0, _, _, rfl, ⟨rfl, h1⟩, h2⟩ := h
  obtain ⟨v0, rfl⟩ := one_cell (strs.len h0)
  obtain ⟨v2, rfl⟩ := one_cell (sBytes.len h2)
  exact ⟨v0, v2, rfl, h0, h1, h2⟩
theorem sPublication_f0 {w : World} {a0 a1 a2 : Value} {x : DPublication} (h : sPublication.rd w [a0, a1, a2] x) : strs.rd w [a0] x.publisher := by
  obtain ⟨c0, c2, he, r0, r1, r2⟩ := sPublication_rd h
  simp only [List.cons.injEq, and_true] at he
  obtain ⟨rfl, rfl, rfl⟩ := he
  exact r0
theorem sPublication_f2 {w : World} {a0 a1 a2 : Value} {x : DPublication} (h : sPublication.rd w [a0, a1, a2] x) : sBytes.rd w [a2] x.content := by
  obtain ⟨c0, c2, he, r0, r1, r2⟩ := sPublication_rd h
  simp only [List.cons.injEq, and_true] at he
  obtain ⟨rfl, rfl, rfl⟩ := he
  exact r2
theorem sPublication_mk {w : World} {c0 c2 : Value} {x : DPublication} (h0 : strs.rd w [c0] x.publisher) (h1 : I64 x.seq) (h2 : sBytes.rd w [c2] x.content) : sPublication.rd w [c0, .int .i64 x.seq, c2] x := ⟨[c0], _, rfl, h0, ⟨[.int .i64 x.seq], _, rfl, ⟨rfl, h1⟩, h2⟩⟩
def szPublication (x : DPublication) : Nat := (szL ByteArray.size) x.publisher + (szL (fun _ => 0)) x.content

def sPublicationL : Shape (List DPublication) := Shape.sl 76 sPublication
theorem info_Publication : (Tryz.prog.info? 76).map (fun i => (i.zero, i.size, i.bytes)) = some (some (.agg #[.slice none 0 0, .int .i64 0, .slice none 0 0]), 3, 56) := by kernel_rfl
structure DMember where
  name : (List ByteArray)
  vector : (List DTableEntry)
  publications : (List DPublication)
def sMember : Shape DMember := (strs.pair (sTableEntryL.pair sPublicationL)).via fun x => (x.name, x.vector, x.publications)
theorem sMember_rd {w : World} {cs : List Value} {x : DMember} (h : sMember.rd w cs x) : ∃ c0 c1 c2, cs = [c0, c1, c2] ∧ strs.rd w [c0] x.name ∧ sTableEntryL.rd w [c1] x.vector ∧ sPublicationL.rd w [c2] x.publications := by
  obtain ⟨_, _, rfl, h0, _, _, rfl, h1, h2⟩ := h
  obtain ⟨v0, rfl⟩ := one_cell (strs.len h0)
  obtain ⟨v1, rfl⟩ := one_cell (sTableEntryL.len h1)
  obtain ⟨v2, rfl⟩ := one_cell (sPublicationL.len h2)
  exact ⟨v0, v1, v2, rfl, h0, h1, h2⟩
theorem sMember_f0 {w : World} {a0 a1 a2 : Value} {x : DMember} (h : sMember.rd w [a0, a1, a2] x) : strs.rd w [a0] x.name := by
  obtain ⟨c0, c1, c2, he, r0, r1, r2⟩ := sMember_rd h
  simp only [List.cons.injEq, and_true] at he
  obtain ⟨rfl, rfl, rfl⟩ := he
  exact r0
theorem sMember_f1 {w : World} {a0 a1 a2 : Value} {x : DMember} (h : sMember.rd w [a0, a1, a2] x) : sTableEntryL.rd w [a1] x.vector := by
  obtain ⟨c0, c1, c2, he, r0, r1, r2⟩ := sMember_rd h
  simp only [List.cons.injEq, and_true] at he
  obtain ⟨rfl, rfl, rfl⟩ := he
  exact r1
theorem sMember_f2 {w : World} {a0 a1 a2 : Value} {x : DMember} (h : sMember.rd w [a0, a1, a2] x) : sPublicationL.rd w [a2] x.publications := by
  obtain ⟨c0, c1, c2, he, r0, r1, r2⟩ := sMember_rd h
  simp only [List.cons.injEq, and_true] at he
  obtain ⟨rfl, rfl, rfl⟩ := he
  exact r2
theorem sMember_mk {w : World} {c0 c1 c2 : Value} {x : DMember} (h0 : strs.rd w [c0] x.name) (h1 : sTableEntryL.rd w [c1] x.vector) (h2 : sPublicationL.rd w [c2] x.publications) : sMember.rd w [c0, c1, c2] x := ⟨[c0], _, rfl, h0, ⟨[c1], _, rfl, h1, h2⟩⟩
def szMember (x : DMember) : Nat := (szL ByteArray.size) x.name + (szL szTableEntry) x.vector + (szL szPublication) x.publications

def sMemberL : Shape (List DMember) := Shape.sl 51 sMember
theorem info_Member : (Tryz.prog.info? 51).map (fun i => (i.zero, i.size, i.bytes)) = some (some (.agg #[.slice none 0 0, .slice none 0 0, .slice none 0 0]), 3, 72) := by kernel_rfl
structure DSyncGroup where
  topology : DTopology
  members : (List DMember)
def sSyncGroup : Shape DSyncGroup := (sTopology.pair sMemberL).via fun x => (x.topology, x.members)
theorem sSyncGroup_rd {w : World} {cs : List Value} {x : DSyncGroup} (h : sSyncGroup.rd w cs x) : ∃ c1 c2, cs = [.int .i64 x.topology.size, c1, c2] ∧ sTopology.rd w [.int .i64 x.topology.size, c1] x.topology ∧ sMemberL.rd w [c2] x.members := by
  obtain ⟨_, _, rfl, h0, h1⟩ := h
  have h0' := h0
  obtain ⟨v1, rfl, _, _⟩ := sTopology_rd h0
  obtain ⟨v2, rfl⟩ := one_cell (sMemberL.len h1)
  exact ⟨v1, v2, rfl, h0', h1⟩
theorem sSyncGroup_f0 {w : World} {a0 a1 a2 : Value} {x : DSyncGroup} (h : sSyncGroup.rd w [a0, a1, a2] x) : sTopology.rd w [a0, a1] x.topology := by
  obtain ⟨c1, c2, he, r0, r1⟩ := sSyncGroup_rd h
  simp only [List.cons.injEq, and_true] at he
  obtain ⟨rfl, rfl, rfl⟩ := he
  exact r0
theorem sSyncGroup_f1 {w : World} {a0 a1 a2 : Value} {x : DSyncGroup} (h : sSyncGroup.rd w [a0, a1, a2] x) : sMemberL.rd w [a2] x.members := by
  obtain ⟨c1, c2, he, r0, r1⟩ := sSyncGroup_rd h
  simp only [List.cons.injEq, and_true] at he
  obtain ⟨rfl, rfl, rfl⟩ := he
  exact r1
theorem sSyncGroup_mk {w : World} {c1 c2 : Value} {x : DSyncGroup} (h0 : sTopology.rd w [.int .i64 x.topology.size, c1] x.topology) (h1 : sMemberL.rd w [c2] x.members) : sSyncGroup.rd w [.int .i64 x.topology.size, c1, c2] x := ⟨[.int .i64 x.topology.size, c1], _, rfl, h0, h1⟩
def szSyncGroup (x : DSyncGroup) : Nat := szTopology x.topology + (szL szMember) x.members

end Go.Proofs.YtofieohogenojaaGreatDoor
