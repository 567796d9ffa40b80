import Derived.Test.YtgkbhlncehgalaaGreatEngDef
namespace Go.Proofs.YtgkbhlncehgalaaGreat
def mutIds : List Nat := []
def nilIds : List Nat := [170]
end Go.Proofs.YtgkbhlncehgalaaGreat
