/- All plain functions. -/
import Derived.Test.YtofieohogenojaaDoorSf2
