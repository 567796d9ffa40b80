/- The numbers of the functions that write into what they are given. -/
import Derived.Test.YtlbmlgnckclenaaGreatDoorEngDef
namespace Go.Proofs.YtlbmlgnckclenaaGreatDoor
def mutIds : List Nat := [13, 15, 14, 41, 43, 42, 77]
def nilIds : List Nat := [100]
def conIds : List Nat := []
def viewIds : List Nat := [21]
end Go.Proofs.YtlbmlgnckclenaaGreatDoor
