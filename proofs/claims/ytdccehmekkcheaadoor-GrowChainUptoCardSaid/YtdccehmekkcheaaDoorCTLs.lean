/- Leaves set anew: turned round, two exchanged. Plain. -/
import Derived.Test.YtdccehmekkcheaaDoorCTrPl
