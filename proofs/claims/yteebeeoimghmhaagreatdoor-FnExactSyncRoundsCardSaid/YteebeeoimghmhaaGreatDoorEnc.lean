import Derived.Test.YteebeeoimghmhaaGreatDoorBase
import Derived.Test.YteebeeoimghmhaaGreatDoorProg
import Derived.Test.YteebeeoimghmhaaGreatDoorEngUse
namespace Go.Proofs.YteebeeoimghmhaaGreatDoor
open Go.RowKit
set_option linter.unusedVariables false
set_option linter.unusedSimpArgs false
set_option linter.unusedSectionVars false
structure DLink where
 a : Int
 b : Int
def sLink : Shape DLink := (Shape.int.pair Shape.int).via fun x => (x.a, x.b)
def sLinkL : Shape (List DLink) := Shape.sl 52 sLink
structure DTopology where
 size : Int
 links : (List DLink)
def sTopology : Shape DTopology := (Shape.int.pair sLinkL).via fun x => (x.size, x.links)
def szTopology (x : DTopology) : Nat := (szL (fun _ => 0)) x.links
def strs : Shape (List ByteArray) := Shape.sl 9 Shape.str
structure DTableEntry where
 name : (List ByteArray)
 value : Int
def sTableEntry : Shape DTableEntry := (strs.pair Shape.int).via fun x => (x.name, x.value)
def szTableEntry (x : DTableEntry) : Nat := (szL ByteArray.size) x.name
def sTableEntryL : Shape (List DTableEntry) := Shape.sl 89 sTableEntry
def sBytes : Shape (List UInt8) := Shape.sl 5 Shape.byte
structure DPublication where
 publisher : (List ByteArray)
 seq : Int
 content : (List UInt8)
def sPublication : Shape DPublication := (strs.pair (Shape.int.pair sBytes)).via fun x => (x.publisher, x.seq, x.content)
def szPublication (x : DPublication) : Nat := (szL ByteArray.size) x.publisher + (szL (fun _ => 0)) x.content
def sPublicationL : Shape (List DPublication) := Shape.sl 93 sPublication
structure DMember where
 name : (List ByteArray)
 vector : (List DTableEntry)
 publications : (List DPublication)
def sMember : Shape DMember := (strs.pair (sTableEntryL.pair sPublicationL)).via fun x => (x.name, x.vector, x.publications)
def szMember (x : DMember) : Nat := (szL ByteArray.size) x.name + (szL szTableEntry) x.vector + (szL szPublication) x.publications
def sMemberL : Shape (List DMember) := Shape.sl 61 sMember
structure DSyncGroup where
 topology : DTopology
 members : (List DMember)
def sSyncGroup : Shape DSyncGroup := (sTopology.pair sMemberL).via fun x => (x.topology, x.members)
def szSyncGroup (x : DSyncGroup) : Nat := szTopology x.topology + (szL szMember) x.members
def sInts : Shape (List Int) := Shape.sl 3 Shape.int
end Go.Proofs.YteebeeoimghmhaaGreatDoor
namespace Go.Proofs.YteebeeoimghmhaaGreatDoor
open Go.RowKit
set_option linter.unusedVariables false
def eLink (x : DLink) : List DT := [.at (.int .i64 x.a), .at (.int .i64 x.b)]
theorem encLink : Enc sLink eLink := fun w cs x h => (Enc.pair Enc.int Enc.int) w cs _ h
def eTopology (x : DTopology) : List DT := [.at (.int .i64 x.size), DT.sl 52 2 (x.links.map eLink)]
theorem encTopology : Enc sTopology eTopology := fun w cs x h => (Enc.pair Enc.int (Enc.sl 52 encLink (by decide))) w cs _ h
def eTableEntry (x : DTableEntry) : List DT := [DT.sl 9 1 (x.name.map eS), .at (.int .i64 x.value)]
theorem encTableEntry : Enc sTableEntry eTableEntry := fun w cs x h => (Enc.pair (Enc.sl 9 Enc.str (by decide)) Enc.int) w cs _ h
def ePublication (x : DPublication) : List DT := [DT.sl 9 1 (x.publisher.map eS), .at (.int .i64 x.seq), DT.sl 5 1 (x.content.map eY)]
theorem encPublication : Enc sPublication ePublication := fun w cs x h => (Enc.pair (Enc.sl 9 Enc.str (by decide)) (Enc.pair Enc.int (Enc.sl 5 Enc.byte (by decide)))) w cs _ h
def eMember (x : DMember) : List DT := [DT.sl 9 1 (x.name.map eS), DT.sl 89 2 (x.vector.map eTableEntry), DT.sl 93 3 (x.publications.map ePublication)]
theorem encMember : Enc sMember eMember := fun w cs x h => (Enc.pair (Enc.sl 9 Enc.str (by decide)) (Enc.pair (Enc.sl 89 encTableEntry (by decide)) (Enc.sl 93 encPublication (by decide)))) w cs _ h
def eSyncGroup (x : DSyncGroup) : List DT := [.at (.int .i64 x.topology.size), DT.sl 52 2 (x.topology.links.map eLink), DT.sl 61 3 (x.members.map eMember)]
theorem encSyncGroup : Enc sSyncGroup eSyncGroup := fun w cs x h => (Enc.pair encTopology (Enc.sl 61 encMember (by decide))) w cs _ h
end Go.Proofs.YteebeeoimghmhaaGreatDoor
