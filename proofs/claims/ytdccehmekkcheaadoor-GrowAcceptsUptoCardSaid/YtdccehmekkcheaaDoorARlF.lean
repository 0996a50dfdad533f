/- Relink of both sides: walks, contracts. -/
import Derived.Test.YtdccehmekkcheaaDoorAFo
import Derived.Test.YtdccehmekkcheaaDoorALk
import Derived.Test.YtdccehmekkcheaaDoorAMTI
import Derived.Test.YtdccehmekkcheaaDoorADsF
