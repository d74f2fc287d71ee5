/- Printed by gen.py (own work): all functions of the program Ytnndkeffaabgjaa. -/
import Derived.Test.YtnndkeffaabgjaaS0
import Derived.Test.YtnndkeffaabgjaaS1
