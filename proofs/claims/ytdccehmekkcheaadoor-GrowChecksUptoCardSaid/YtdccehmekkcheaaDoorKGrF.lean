/- Package beaconref12: Stays: facts of the walk. -/
import Derived.Test.YtdccehmekkcheaaDoorKGsP
import Derived.Test.YtdccehmekkcheaaDoorKMTE
