/- The numbers of the functions that write into what they are given. -/
import Derived.Test.YtgkbhlncehgalaaGreatDoorEngDef
namespace Go.Proofs.YtgkbhlncehgalaaGreatDoor
def mutIds : List Nat := [15, 17, 18, 39, 16, 40, 41]
def nilIds : List Nat := [114]
end Go.Proofs.YtgkbhlncehgalaaGreatDoor
