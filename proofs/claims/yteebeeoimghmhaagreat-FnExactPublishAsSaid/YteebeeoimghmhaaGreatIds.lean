/- The numbers of the functions that write into what they are given. -/
import Derived.Test.YteebeeoimghmhaaGreatEngDef
namespace Go.Proofs.YteebeeoimghmhaaGreat
def mutIds : List Nat := [21, 14, 57, 35, 59, 15, 58, 13, 36, 34]
def nilIds : List Nat := []
def conIds : List Nat := [87]
end Go.Proofs.YteebeeoimghmhaaGreat
