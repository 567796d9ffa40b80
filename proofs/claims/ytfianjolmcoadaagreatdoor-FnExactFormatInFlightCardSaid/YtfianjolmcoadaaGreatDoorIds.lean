/- The numbers of the functions that write into what they are given: none here. -/
import Derived.Test.YtfianjolmcoadaaGreatDoorEngDef
namespace Go.Proofs.YtfianjolmcoadaaGreatDoor
def mutIds : List Nat := []
end Go.Proofs.YtfianjolmcoadaaGreatDoor
