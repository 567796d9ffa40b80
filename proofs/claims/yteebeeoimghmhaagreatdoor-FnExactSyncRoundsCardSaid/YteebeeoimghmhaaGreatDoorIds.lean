import Derived.Test.YteebeeoimghmhaaGreatDoorEngDef
namespace Go.Proofs.YteebeeoimghmhaaGreatDoor
def mutIds : List Nat := [107, 13, 60, 32, 63, 61, 12, 62, 31]
def nilIds : List Nat := []
def conIds : List Nat := [139]
end Go.Proofs.YteebeeoimghmhaaGreatDoor
