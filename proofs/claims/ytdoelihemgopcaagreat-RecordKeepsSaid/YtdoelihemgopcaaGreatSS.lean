/- Printed by gen.py (own work): all functions of the program YtdoelihemgopcaaGreat. -/
import Derived.Test.YtdoelihemgopcaaGreatS0
import Derived.Test.YtdoelihemgopcaaGreatS1
import Derived.Test.YtdoelihemgopcaaGreatS2
import Derived.Test.YtdoelihemgopcaaGreatS3
