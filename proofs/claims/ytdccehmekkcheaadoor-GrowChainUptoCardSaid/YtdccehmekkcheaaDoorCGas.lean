/- Laws of growth: the region that calls Stays. -/
import Derived.Test.YtdccehmekkcheaaDoorCFo
import Derived.Test.YtdccehmekkcheaaDoorCGap
import Derived.Test.YtdccehmekkcheaaDoorCAcP
import Derived.Test.YtdccehmekkcheaaDoorCTLa
import Derived.Test.YtdccehmekkcheaaDoorCMTI
