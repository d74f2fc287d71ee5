/- Printed by gen.py (own work): all functions of the program YtbckpbdamfhehaaGreatDoor. -/
import Derived.Test.YtbckpbdamfhehaaGreatDoorS0
import Derived.Test.YtbckpbdamfhehaaGreatDoorS1
import Derived.Test.YtbckpbdamfhehaaGreatDoorS2
import Derived.Test.YtbckpbdamfhehaaGreatDoorS3
import Derived.Test.YtbckpbdamfhehaaGreatDoorS4
