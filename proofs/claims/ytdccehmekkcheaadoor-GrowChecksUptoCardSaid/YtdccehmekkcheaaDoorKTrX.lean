/- beaconref11.Nodes: facts of the walk. -/
import Derived.Test.YtdccehmekkcheaaDoorKTrW
