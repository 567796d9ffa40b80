/- Codes of the types of which there are lists. Printed by gk.py. -/
import Derived.Test.YtifkepnfaggkiaaDoorSt
namespace Go.Proofs.YtifkepnfaggkiaaDoor
open Go.RowKit
set_option linter.unusedVariables false
set_option linter.unusedSimpArgs false
set_option maxRecDepth 100000
noncomputable section

inductive TC where
  | int
  | str
  | byt
  | bool
  | l1Cur
  | Name
  | Key
  | Reader
  | AccessController
@[reducible] def DD : TC → Type
  | .int => Int
  | .str => ByteArray
  | .byt => UInt8
  | .bool => Bool
  | .l1Cur => Dl1Cur
  | .Name => (List ByteArray)
  | .Key => DKey
  | .Reader => DReader
  | .AccessController => DAccessController
def eD : (t : TC) → DD t → List DT
  | .int, x => eI x
  | .str, x => eS x
  | .byt, x => eY x
  | .bool, x => eB x
  | .l1Cur, x => el1Cur x
  | .Name, x => eName x
  | .Key, x => eKey x
  | .Reader, x => eReader x
  | .AccessController, x => eAccessController x
def eK (yI : UInt8 → Int) (m : (t : TC) → List (DD t) → List (List DT)) : (t : TC) → DD t → List DT
  | .int, x => [.at (.int .i64 x)]
  | .str, x => [.at (.string x)]
  | .byt, x => [.at (.int .u8 (yI x))]
  | .bool, x => [.at (.bool x)]
  | .l1Cur, x => [.sl 5 1 (m .byt x.b), .at (.int .i64 x.i), .at (.int .i64 x.h)]
  | .Name, x => [.sl 9 1 (m .str x)]
  | .Key, x => [.sl 9 1 (m .str x.name), .at (.int .i64 x.secret)]
  | .Reader, x => [.at (.int .i64 x.node), .sl 9 1 (m .str x.name), .at (.int .i64 x.epoch)]
  | .AccessController, x => [.sl 56 2 (m .Key x.keys), .at (.int .i64 x.master), .at (.int .i64 x.epoch), .sl 59 3 (m .Reader x.readers)]
def te : TC → Nat
  | .int => 3
  | .str => 9
  | .byt => 5
  | .bool => 4
  | .l1Cur => 44
  | .Name => 30
  | .Key => 56
  | .Reader => 59
  | .AccessController => 27
def tk : TC → Nat
  | .int => 1
  | .str => 1
  | .byt => 1
  | .bool => 1
  | .l1Cur => 3
  | .Name => 1
  | .Key => 2
  | .Reader => 3
  | .AccessController => 4
end
end Go.Proofs.YtifkepnfaggkiaaDoor
