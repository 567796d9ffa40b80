/- Joined: Types, Enc. -/
import Derived.Test.YtifkepnfaggkiaaDoorBase
import Derived.Test.YtifkepnfaggkiaaDoorProg
import Derived.Test.YtifkepnfaggkiaaDoorEngUse
namespace Go.Proofs.YtifkepnfaggkiaaDoor
open Go.RowKit
set_option linter.unusedVariables false
set_option linter.unusedSimpArgs false
set_option linter.unusedSectionVars false

def strs : Shape (List ByteArray) := Shape.sl 9 Shape.str
structure DKey where
  name : (List ByteArray)
  secret : Int
def sKey : Shape DKey := (strs.pair Shape.int).via fun x => (x.name, x.secret)
def szKey (x : DKey) : Nat := (szL ByteArray.size) x.name
def sKeyL : Shape (List DKey) := Shape.sl 56 sKey
structure DReader where
  node : Int
  name : (List ByteArray)
  epoch : Int
def sReader : Shape DReader := (Shape.int.pair (strs.pair Shape.int)).via fun x => (x.node, x.name, x.epoch)
def szReader (x : DReader) : Nat := (szL ByteArray.size) x.name
def sReaderL : Shape (List DReader) := Shape.sl 59 sReader
structure DAccessController where
  keys : (List DKey)
  master : Int
  epoch : Int
  readers : (List DReader)
def sAccessController : Shape DAccessController := (sKeyL.pair (Shape.int.pair (Shape.int.pair sReaderL))).via fun x => (x.keys, x.master, x.epoch, x.readers)
def szAccessController (x : DAccessController) : Nat := (szL szKey) x.keys + (szL szReader) x.readers
end Go.Proofs.YtifkepnfaggkiaaDoor

namespace Go.Proofs.YtifkepnfaggkiaaDoor
open Go.RowKit
set_option linter.unusedVariables false
theorem encStrs : Enc strs (fun l => [.sl 9 1 (l.map eS)]) := Enc.sl 9 Enc.str (by decide)
def eKey (x : DKey) : List DT := [DT.sl 9 1 (x.name.map eS), .at (.int .i64 x.secret)]
theorem encKey : Enc sKey eKey := fun w cs x h => (Enc.pair (Enc.sl 9 Enc.str (by decide)) Enc.int) w cs _ h
def eReader (x : DReader) : List DT := [.at (.int .i64 x.node), DT.sl 9 1 (x.name.map eS), .at (.int .i64 x.epoch)]
theorem encReader : Enc sReader eReader := fun w cs x h => (Enc.pair Enc.int (Enc.pair (Enc.sl 9 Enc.str (by decide)) Enc.int)) w cs _ h
def eAccessController (x : DAccessController) : List DT := [DT.sl 56 2 (x.keys.map eKey), .at (.int .i64 x.master), .at (.int .i64 x.epoch), DT.sl 59 3 (x.readers.map eReader)]
theorem encAccessController : Enc sAccessController eAccessController := fun w cs x h => (Enc.pair (Enc.sl 56 encKey (by decide)) (Enc.pair Enc.int (Enc.pair Enc.int (Enc.sl 59 encReader (by decide))))) w cs _ h
end Go.Proofs.YtifkepnfaggkiaaDoor
