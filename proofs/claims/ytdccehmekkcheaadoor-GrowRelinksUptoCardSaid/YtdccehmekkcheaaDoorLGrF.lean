/- Package beaconref12: Stays: facts of the walk. -/
import Derived.Test.YtdccehmekkcheaaDoorLGsP
import Derived.Test.YtdccehmekkcheaaDoorLMTE
