import Derived.Test.YtgfmmfpafcfjpaaGreatEngDef
namespace Go.Proofs.YtgfmmfpafcfjpaaGreat
def mutIds : List Nat := [163, 164, 53, 52, 15, 57, 14, 54, 165, 56, 55, 58]
def nilIds : List Nat := [390]
def conIds : List Nat := []
def viewIds : List Nat := []
def retTys : List Nat := [59, 85]
end Go.Proofs.YtgfmmfpafcfjpaaGreat
