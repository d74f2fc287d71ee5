/- Printed by gen.py (own work): all functions of the program Ytjfnbjpggfjhnaa. -/
import Derived.Test.YtjfnbjpggfjhnaaS0
import Derived.Test.YtjfnbjpggfjhnaaS1
