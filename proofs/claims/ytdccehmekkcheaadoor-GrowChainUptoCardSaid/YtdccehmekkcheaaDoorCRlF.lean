/- Relink of both sides: walks, contracts. -/
import Derived.Test.YtdccehmekkcheaaDoorCFo
import Derived.Test.YtdccehmekkcheaaDoorCLk
import Derived.Test.YtdccehmekkcheaaDoorCMTI
import Derived.Test.YtdccehmekkcheaaDoorCDsF
