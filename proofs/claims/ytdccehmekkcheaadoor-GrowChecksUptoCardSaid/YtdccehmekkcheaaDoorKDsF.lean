/- beaconlaw11.distinct: walk, contracts. -/
import Derived.Test.YtdccehmekkcheaaDoorKLTo
import Derived.Test.YtdccehmekkcheaaDoorKTLs
