/- beaconref11.Nodes: walk, contracts. -/
import Derived.Test.YtdccehmekkcheaaDoorRTrX
