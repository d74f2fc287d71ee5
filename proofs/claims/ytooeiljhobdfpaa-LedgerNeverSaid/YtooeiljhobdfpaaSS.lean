/- Printed by gen.py (own work): all functions of the program Ytooeiljhobdfpaa. -/
import Derived.Test.YtooeiljhobdfpaaS0
import Derived.Test.YtooeiljhobdfpaaS1
import Derived.Test.YtooeiljhobdfpaaS2
