/- beaconref14.Chain: walk. -/
import Derived.Test.YthlmepolmemejaaGreatDoorHFo
import Derived.Test.YthlmepolmemejaaGreatDoorHChnC
