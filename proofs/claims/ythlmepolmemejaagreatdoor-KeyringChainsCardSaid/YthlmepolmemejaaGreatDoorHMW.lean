/- Packages beaconref03, beaconref05: Canonical, Verify: walks, contracts. -/
import Derived.Test.YthlmepolmemejaaGreatDoorHMJ
import Derived.Test.YthlmepolmemejaaGreatDoorHMV
import Derived.Test.YthlmepolmemejaaGreatDoorHMA
import Derived.Test.YthlmepolmemejaaGreatDoorHMF
import Derived.Test.YthlmepolmemejaaGreatDoorHMD
