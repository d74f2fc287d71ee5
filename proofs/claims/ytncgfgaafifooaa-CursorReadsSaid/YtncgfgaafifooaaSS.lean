/- Printed by gen.py (own work): all functions of the program Ytncgfgaafifooaa. -/
import Derived.Test.YtncgfgaafifooaaS0
import Derived.Test.YtncgfgaafifooaaS1
