/- All plain functions. -/
import Derived.Test.YteebeeoimghmhaaGreatSf1
import Derived.Test.YteebeeoimghmhaaGreatSf2
import Derived.Test.YteebeeoimghmhaaGreatSf3

