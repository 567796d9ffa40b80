/- All plain functions. -/
import Derived.Test.YtofieohogenojaaSf1
