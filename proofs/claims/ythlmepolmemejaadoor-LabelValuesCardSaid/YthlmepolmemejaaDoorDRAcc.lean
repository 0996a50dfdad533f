/- Package beaconref07: Account: its walk. -/
import Derived.Test.YthlmepolmemejaaDoorDAcc
