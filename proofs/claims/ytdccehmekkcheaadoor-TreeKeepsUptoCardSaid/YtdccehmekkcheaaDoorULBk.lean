/- The law TreeBack: walk. -/
import Derived.Test.YtdccehmekkcheaaDoorUBkP
