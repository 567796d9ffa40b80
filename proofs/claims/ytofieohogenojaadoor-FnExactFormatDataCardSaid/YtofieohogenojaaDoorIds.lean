/- The numbers of the functions that write into what they are given: none here. -/
import Derived.Test.YtofieohogenojaaDoorEngDef
namespace Go.Proofs.YtofieohogenojaaDoor
def mutIds : List Nat := []
end Go.Proofs.YtofieohogenojaaDoor
