/- The data types of the program as structures, how they lie in cells, and their sizes. Printed by gen.py. -/
import Derived.Test.YteebeeoimghmhaaBase
import Derived.Test.YteebeeoimghmhaaProg
namespace Go.Proofs.Yteebeeoimghmhaa
open Go.RowKit
set_option linter.unusedVariables false
set_option linter.unusedSimpArgs false
set_option linter.unusedSectionVars false

def strs : Shape (List ByteArray) := Shape.sl 9 Shape.str
structure DKey where
  name : (List ByteArray)
  secret : Int
def sKey : Shape DKey := (strs.pair Shape.int).via fun x => (x.name, x.secret)
def szKey (x : DKey) : Nat := (szL ByteArray.size) x.name
def sKeyL : Shape (List DKey) := Shape.sl 66 sKey
structure DReader where
  node : Int
  name : (List ByteArray)
  epoch : Int
def sReader : Shape DReader := (Shape.int.pair (strs.pair Shape.int)).via fun x => (x.node, x.name, x.epoch)
def szReader (x : DReader) : Nat := (szL ByteArray.size) x.name
def sReaderL : Shape (List DReader) := Shape.sl 68 sReader
structure DAccessController where
  keys : (List DKey)
  master : Int
  epoch : Int
  readers : (List DReader)
def sAccessController : Shape DAccessController := (sKeyL.pair (Shape.int.pair (Shape.int.pair sReaderL))).via fun x => (x.keys, x.master, x.epoch, x.readers)
def szAccessController (x : DAccessController) : Nat := (szL szKey) x.keys + (szL szReader) x.readers
end Go.Proofs.Yteebeeoimghmhaa
