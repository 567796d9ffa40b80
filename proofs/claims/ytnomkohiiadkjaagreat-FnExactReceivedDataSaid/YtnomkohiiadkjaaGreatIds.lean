import Derived.Test.YtnomkohiiadkjaaGreatEngDef
namespace Go.Proofs.YtnomkohiiadkjaaGreat
def mutIds : List Nat := [45, 83, 43, 11, 41, 80, 79, 87, 82, 10, 40, 42, 84, 121, 86, 81, 85, 44, 39, 37, 38]
def nilIds : List Nat := []
end Go.Proofs.YtnomkohiiadkjaaGreat
