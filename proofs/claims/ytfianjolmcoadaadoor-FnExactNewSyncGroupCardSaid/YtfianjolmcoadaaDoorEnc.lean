/- Data of the shapes as the interpreter's data. Printed by genenc.py. -/
import Derived.Test.YtfianjolmcoadaaDoorEngUse
import Derived.Test.YtfianjolmcoadaaDoorTypes
namespace Go.Proofs.YtfianjolmcoadaaDoor
open Go.RowKit
set_option linter.unusedVariables false
theorem encStrs : Enc strs (fun l => [.sl 9 1 (l.map eS)]) := Enc.sl 9 Enc.str (by decide)
def eLink (x : DLink) : List DT := [.at (.int .i64 x.a), .at (.int .i64 x.b)]
theorem encLink : Enc sLink eLink := fun w cs x h => (Enc.pair Enc.int Enc.int) w cs _ h
def eTopology (x : DTopology) : List DT := [.at (.int .i64 x.size), DT.sl 92 2 (x.links.map eLink)]
theorem encTopology : Enc sTopology eTopology := fun w cs x h => (Enc.pair Enc.int (Enc.sl 92 encLink (by decide))) w cs _ h
def eTableEntry (x : DTableEntry) : List DT := [DT.sl 9 1 (x.name.map eS), .at (.int .i64 x.value)]
theorem encTableEntry : Enc sTableEntry eTableEntry := fun w cs x h => (Enc.pair (Enc.sl 9 Enc.str (by decide)) Enc.int) w cs _ h
def ePublication (x : DPublication) : List DT := [DT.sl 9 1 (x.publisher.map eS), .at (.int .i64 x.seq), DT.sl 5 1 (x.content.map eY)]
theorem encPublication : Enc sPublication ePublication := fun w cs x h => (Enc.pair (Enc.sl 9 Enc.str (by decide)) (Enc.pair Enc.int (Enc.sl 5 Enc.byte (by decide)))) w cs _ h
def eMember (x : DMember) : List DT := [DT.sl 9 1 (x.name.map eS), DT.sl 124 2 (x.vector.map eTableEntry), DT.sl 126 3 (x.publications.map ePublication)]
theorem encMember : Enc sMember eMember := fun w cs x h => (Enc.pair (Enc.sl 9 Enc.str (by decide)) (Enc.pair (Enc.sl 124 encTableEntry (by decide)) (Enc.sl 126 encPublication (by decide)))) w cs _ h
def eSyncGroup (x : DSyncGroup) : List DT := [.at (.int .i64 x.topology.size), DT.sl 92 2 (x.topology.links.map eLink), DT.sl 69 3 (x.members.map eMember)]
theorem encSyncGroup : Enc sSyncGroup eSyncGroup := fun w cs x h => (Enc.pair encTopology (Enc.sl 69 encMember (by decide))) w cs _ h
end Go.Proofs.YtfianjolmcoadaaDoor
