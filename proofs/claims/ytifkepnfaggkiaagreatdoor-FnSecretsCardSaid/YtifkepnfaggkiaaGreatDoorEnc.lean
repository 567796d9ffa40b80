import Derived.Test.YtifkepnfaggkiaaGreatDoorBase
import Derived.Test.YtifkepnfaggkiaaGreatDoorProg
import Derived.Test.YtifkepnfaggkiaaGreatDoorEngUse
namespace Go.Proofs.YtifkepnfaggkiaaGreatDoor
open Go.RowKit
set_option linter.unusedVariables false
set_option linter.unusedSimpArgs false
set_option linter.unusedSectionVars false
structure DKey where
 name : (List ByteArray)
 secret : Int
structure DReader where
 node : Int
 name : (List ByteArray)
 epoch : Int
structure DAccessController where
 keys : (List DKey)
 master : Int
 epoch : Int
 readers : (List DReader)
def sBytes : Shape (List UInt8) := Shape.sl 5 Shape.byte
structure DData where
 name : (List ByteArray)
 content : (List UInt8)
 keyName : (List ByteArray)
 freshUntil : Int
 signature : Int
end Go.Proofs.YtifkepnfaggkiaaGreatDoor
namespace Go.Proofs.YtifkepnfaggkiaaGreatDoor
open Go.RowKit
set_option linter.unusedVariables false
def eKey (x : DKey) : List DT := [DT.sl 9 1 (x.name.map eS), .at (.int .i64 x.secret)]
def zf (x : DReader) : List DT := [.at (.int .i64 x.node), DT.sl 9 1 (x.name.map eS), .at (.int .i64 x.epoch)]
def zgY (x : DAccessController) : List DT := [DT.sl 181 2 (x.keys.map eKey), .at (.int .i64 x.master), .at (.int .i64 x.epoch), DT.sl 96 3 (x.readers.map zf)]
def zwi (x : DData) : List DT := [DT.sl 9 1 (x.name.map eS), DT.sl 5 1 (x.content.map eY), DT.sl 9 1 (x.keyName.map eS), .at (.int .i64 x.freshUntil), .at (.int .i64 x.signature)]
end Go.Proofs.YtifkepnfaggkiaaGreatDoor
