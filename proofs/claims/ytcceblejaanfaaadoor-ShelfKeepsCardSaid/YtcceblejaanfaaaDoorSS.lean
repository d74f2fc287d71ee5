/- Printed by gen.py (own work): all functions of the program YtcceblejaanfaaaDoor. -/
import Derived.Test.YtcceblejaanfaaaDoorS0
import Derived.Test.YtcceblejaanfaaaDoorS1
