/- Joined: Types, Enc. -/
import Derived.Test.YtlbmlgnckclenaaGreatDoorBase
import Derived.Test.YtlbmlgnckclenaaGreatDoorProg
import Derived.Test.YtlbmlgnckclenaaGreatDoorEngUse
namespace Go.Proofs.YtlbmlgnckclenaaGreatDoor
open Go.RowKit
set_option linter.unusedVariables false
set_option linter.unusedSimpArgs false
set_option linter.unusedSectionVars false

def strs : Shape (List ByteArray) := Shape.sl 9 Shape.str
structure DKey where
  name : (List ByteArray)
  secret : Int
def sKey : Shape DKey := (strs.pair Shape.int).via fun x => (x.name, x.secret)
def szKey (x : DKey) : Nat := (szL ByteArray.size) x.name
def sKeyL : Shape (List DKey) := Shape.sl 94 sKey
structure DReader where
  node : Int
  name : (List ByteArray)
  epoch : Int
def sReader : Shape DReader := (Shape.int.pair (strs.pair Shape.int)).via fun x => (x.node, x.name, x.epoch)
def szReader (x : DReader) : Nat := (szL ByteArray.size) x.name
def sReaderL : Shape (List DReader) := Shape.sl 68 sReader
structure DAccessController where
  keys : (List DKey)
  master : Int
  epoch : Int
  readers : (List DReader)
def sAccessController : Shape DAccessController := (sKeyL.pair (Shape.int.pair (Shape.int.pair sReaderL))).via fun x => (x.keys, x.master, x.epoch, x.readers)
def szAccessController (x : DAccessController) : Nat := (szL szKey) x.keys + (szL szReader) x.readers
def sBytes : Shape (List UInt8) := Shape.sl 5 Shape.byte
structure DData where
  name : (List ByteArray)
  content : (List UInt8)
  keyName : (List ByteArray)
  freshUntil : Int
  signature : Int
def sData : Shape DData := (strs.pair (sBytes.pair (strs.pair (Shape.int.pair Shape.int)))).via fun x => (x.name, x.content, x.keyName, x.freshUntil, x.signature)
def szData (x : DData) : Nat := (szL ByteArray.size) x.name + (szL (fun _ => 0)) x.content + (szL ByteArray.size) x.keyName
end Go.Proofs.YtlbmlgnckclenaaGreatDoor

namespace Go.Proofs.YtlbmlgnckclenaaGreatDoor
open Go.RowKit
set_option linter.unusedVariables false
theorem encStrs : Enc strs (fun l => [.sl 9 1 (l.map eS)]) := Enc.sl 9 Enc.str (by decide)
def eKey (x : DKey) : List DT := [DT.sl 9 1 (x.name.map eS), .at (.int .i64 x.secret)]
theorem encKey : Enc sKey eKey := fun w cs x h => (Enc.pair (Enc.sl 9 Enc.str (by decide)) Enc.int) w cs _ h
def eReader (x : DReader) : List DT := [.at (.int .i64 x.node), DT.sl 9 1 (x.name.map eS), .at (.int .i64 x.epoch)]
theorem encReader : Enc sReader eReader := fun w cs x h => (Enc.pair Enc.int (Enc.pair (Enc.sl 9 Enc.str (by decide)) Enc.int)) w cs _ h
def eAccessController (x : DAccessController) : List DT := [DT.sl 94 2 (x.keys.map eKey), .at (.int .i64 x.master), .at (.int .i64 x.epoch), DT.sl 68 3 (x.readers.map eReader)]
theorem encAccessController : Enc sAccessController eAccessController := fun w cs x h => (Enc.pair (Enc.sl 94 encKey (by decide)) (Enc.pair Enc.int (Enc.pair Enc.int (Enc.sl 68 encReader (by decide))))) w cs _ h
def eData (x : DData) : List DT := [DT.sl 9 1 (x.name.map eS), DT.sl 5 1 (x.content.map eY), DT.sl 9 1 (x.keyName.map eS), .at (.int .i64 x.freshUntil), .at (.int .i64 x.signature)]
theorem encData : Enc sData eData := fun w cs x h => (Enc.pair (Enc.sl 9 Enc.str (by decide)) (Enc.pair (Enc.sl 5 Enc.byte (by decide)) (Enc.pair (Enc.sl 9 Enc.str (by decide)) (Enc.pair Enc.int Enc.int)))) w cs _ h
end Go.Proofs.YtlbmlgnckclenaaGreatDoor
