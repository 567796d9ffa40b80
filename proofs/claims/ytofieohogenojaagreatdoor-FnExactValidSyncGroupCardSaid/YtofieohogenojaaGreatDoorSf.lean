/- All plain functions. -/
import Derived.Test.YtofieohogenojaaGreatDoorSf2
