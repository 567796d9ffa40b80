/- The data types of the program as structures, how they lie in cells, and their sizes. Printed by gen.py. -/
import Derived.Test.YtfianjolmcoadaaDoorBase
import Derived.Test.YtfianjolmcoadaaDoorProg
namespace Go.Proofs.YtfianjolmcoadaaDoor
open Go.RowKit
set_option linter.unusedVariables false
set_option linter.unusedSimpArgs false
set_option linter.unusedSectionVars false

structure DLink where
  a : Int
  b : Int
def sLink : Shape DLink := (Shape.int.pair Shape.int).via fun x => (x.a, x.b)
def sLinkL : Shape (List DLink) := Shape.sl 92 sLink
structure DTopology where
  size : Int
  links : (List DLink)
def sTopology : Shape DTopology := (Shape.int.pair sLinkL).via fun x => (x.size, x.links)
def szTopology (x : DTopology) : Nat := (szL (fun _ => 0)) x.links
def strs : Shape (List ByteArray) := Shape.sl 9 Shape.str
structure DTableEntry where
  name : (List ByteArray)
  value : Int
def sTableEntry : Shape DTableEntry := (strs.pair Shape.int).via fun x => (x.name, x.value)
def szTableEntry (x : DTableEntry) : Nat := (szL ByteArray.size) x.name
def sTableEntryL : Shape (List DTableEntry) := Shape.sl 124 sTableEntry
def sBytes : Shape (List UInt8) := Shape.sl 5 Shape.byte
structure DPublication where
  publisher : (List ByteArray)
  seq : Int
  content : (List UInt8)
def sPublication : Shape DPublication := (strs.pair (Shape.int.pair sBytes)).via fun x => (x.publisher, x.seq, x.content)
def szPublication (x : DPublication) : Nat := (szL ByteArray.size) x.publisher + (szL (fun _ => 0)) x.content
def sPublicationL : Shape (List DPublication) := Shape.sl 126 sPublication
structure DMember where
  name : (List ByteArray)
  vector : (List DTableEntry)
  publications : (List DPublication)
def sMember : Shape DMember := (strs.pair (sTableEntryL.pair sPublicationL)).via fun x => (x.name, x.vector, x.publications)
def szMember (x : DMember) : Nat := (szL ByteArray.size) x.name + (szL szTableEntry) x.vector + (szL szPublication) x.publications
def sMemberL : Shape (List DMember) := Shape.sl 69 sMember
structure DSyncGroup where
  topology : DTopology
  members : (List DMember)
def sSyncGroup : Shape DSyncGroup := (sTopology.pair sMemberL).via fun x => (x.topology, x.members)
def szSyncGroup (x : DSyncGroup) : Nat := szTopology x.topology + (szL szMember) x.members
end Go.Proofs.YtfianjolmcoadaaDoor
