/- All plain functions. -/
import Derived.Test.YtlbmlgnckclenaaGreatDoorSf1
import Derived.Test.YtlbmlgnckclenaaGreatDoorSf2
import Derived.Test.YtlbmlgnckclenaaGreatDoorSf3
import Derived.Test.YtlbmlgnckclenaaGreatDoorSf4

