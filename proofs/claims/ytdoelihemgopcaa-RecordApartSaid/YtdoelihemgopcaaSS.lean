/- Printed by gen.py (own work): all functions of the program Ytdoelihemgopcaa. -/
import Derived.Test.YtdoelihemgopcaaS0
import Derived.Test.YtdoelihemgopcaaS1
import Derived.Test.YtdoelihemgopcaaS2
import Derived.Test.YtdoelihemgopcaaS3
