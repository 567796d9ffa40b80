/- Data of the shapes as the interpreter's data. Printed by genenc.py. -/
import Derived.Test.YteebeeoimghmhaaEngUse
import Derived.Test.YteebeeoimghmhaaTypes
namespace Go.Proofs.Yteebeeoimghmhaa
open Go.RowKit
set_option linter.unusedVariables false
theorem encStrs : Enc strs (fun l => [.sl 9 1 (l.map eS)]) := Enc.sl 9 Enc.str (by decide)
def eKey (x : DKey) : List DT := [DT.sl 9 1 (x.name.map eS), .at (.int .i64 x.secret)]
theorem encKey : Enc sKey eKey := fun w cs x h => (Enc.pair (Enc.sl 9 Enc.str (by decide)) Enc.int) w cs _ h
def eReader (x : DReader) : List DT := [.at (.int .i64 x.node), DT.sl 9 1 (x.name.map eS), .at (.int .i64 x.epoch)]
theorem encReader : Enc sReader eReader := fun w cs x h => (Enc.pair Enc.int (Enc.pair (Enc.sl 9 Enc.str (by decide)) Enc.int)) w cs _ h
def eAccessController (x : DAccessController) : List DT := [DT.sl 66 2 (x.keys.map eKey), .at (.int .i64 x.master), .at (.int .i64 x.epoch), DT.sl 68 3 (x.readers.map eReader)]
theorem encAccessController : Enc sAccessController eAccessController := fun w cs x h => (Enc.pair (Enc.sl 66 encKey (by decide)) (Enc.pair Enc.int (Enc.pair Enc.int (Enc.sl 68 encReader (by decide))))) w cs _ h
end Go.Proofs.Yteebeeoimghmhaa
