/- Printed by gen.py (own work): all functions of the program YtgpogcmcaknjiaaGreatDoor. -/
import Derived.Test.YtgpogcmcaknjiaaGreatDoorS0
import Derived.Test.YtgpogcmcaknjiaaGreatDoorS1
import Derived.Test.YtgpogcmcaknjiaaGreatDoorS2
import Derived.Test.YtgpogcmcaknjiaaGreatDoorS3
import Derived.Test.YtgpogcmcaknjiaaGreatDoorS4
