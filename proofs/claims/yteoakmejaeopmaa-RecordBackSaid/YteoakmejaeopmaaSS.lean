/- Printed by gen.py (own work): all functions of the program Yteoakmejaeopmaa. -/
import Derived.Test.YteoakmejaeopmaaS0
import Derived.Test.YteoakmejaeopmaaS1
import Derived.Test.YteoakmejaeopmaaS2
