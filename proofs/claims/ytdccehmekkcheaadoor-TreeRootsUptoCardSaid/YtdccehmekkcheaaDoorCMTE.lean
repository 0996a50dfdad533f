/- Package tree: Around: the recursion. -/
import Derived.Test.YtdccehmekkcheaaDoorCMTD
import Derived.Test.YtdccehmekkcheaaDoorCTrZ
/- beaconref11.Without: the recursion. -/
