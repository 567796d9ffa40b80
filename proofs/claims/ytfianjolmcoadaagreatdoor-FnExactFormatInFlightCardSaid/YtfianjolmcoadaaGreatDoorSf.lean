/- All plain functions. -/
import Derived.Test.YtfianjolmcoadaaGreatDoorSf1
import Derived.Test.YtfianjolmcoadaaGreatDoorSf2
import Derived.Test.YtfianjolmcoadaaGreatDoorSf3
import Derived.Test.YtfianjolmcoadaaGreatDoorSf4
