/- The numbers of the functions that write into what they are given. -/
import Derived.Test.YtfianjolmcoadaaDoorEngDef
namespace Go.Proofs.YtfianjolmcoadaaDoor
def mutIds : List Nat := [22, 87, 53, 36, 37, 23, 68, 54, 55, 12, 67, 11]
end Go.Proofs.YtfianjolmcoadaaDoor
