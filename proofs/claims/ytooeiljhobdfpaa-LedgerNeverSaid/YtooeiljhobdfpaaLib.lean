/- Printed by lib.py (own work; the tables as the kit's shelf reckons them): library functions of the program Ytooeiljhobdfpaa, by the shelf's contracts. -/
import Derived.Test.YtooeiljhobdfpaaT
import Derived.Test.YtooeiljhobdfpaaLLib
set_option linter.unusedSimpArgs false
set_option linter.unusedVariables false
