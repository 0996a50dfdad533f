/- Rows of 80 bytes among a law's arguments. -/
import Derived.Test.YtbfndladaldajaaDoorQMA
import Derived.Test.YtbfndladaldajaaDoorQMF
import Derived.Test.YtbfndladaldajaaDoorQMU
