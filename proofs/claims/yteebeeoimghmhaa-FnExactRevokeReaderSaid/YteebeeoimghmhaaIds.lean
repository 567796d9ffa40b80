/- The numbers of the functions that write into what they are given. -/
import Derived.Test.YteebeeoimghmhaaEngDef
namespace Go.Proofs.Yteebeeoimghmhaa
def mutIds : List Nat := [12, 30, 13, 31, 32]
def nilIds : List Nat := []
def conIds : List Nat := [42]
end Go.Proofs.Yteebeeoimghmhaa
