/- Relink of both sides: walks, contracts. -/
import Derived.Test.YtdccehmekkcheaaDoorBFo
import Derived.Test.YtdccehmekkcheaaDoorBLk
import Derived.Test.YtdccehmekkcheaaDoorBMTI
import Derived.Test.YtdccehmekkcheaaDoorBDsF
