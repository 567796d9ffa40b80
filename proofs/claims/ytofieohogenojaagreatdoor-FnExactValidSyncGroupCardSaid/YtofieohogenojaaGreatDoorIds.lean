/- The numbers of the functions that write into what they are given: none here. -/
import Derived.Test.YtofieohogenojaaGreatDoorEngDef
namespace Go.Proofs.YtofieohogenojaaGreatDoor
def mutIds : List Nat := []
end Go.Proofs.YtofieohogenojaaGreatDoor
