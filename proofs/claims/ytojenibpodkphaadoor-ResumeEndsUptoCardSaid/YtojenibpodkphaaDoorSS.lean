/- Printed by gen.py (own work): all functions of the program YtojenibpodkphaaDoor. -/
import Derived.Test.YtojenibpodkphaaDoorS0
import Derived.Test.YtojenibpodkphaaDoorS1
import Derived.Test.YtojenibpodkphaaDoorS2
import Derived.Test.YtojenibpodkphaaDoorS3
