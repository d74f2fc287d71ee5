/- Printed by gen.py (own work): all functions of the program Ytmhhddpkhfohcaa. -/
import Derived.Test.YtmhhddpkhfohcaaS0
import Derived.Test.YtmhhddpkhfohcaaS1
import Derived.Test.YtmhhddpkhfohcaaS2
import Derived.Test.YtmhhddpkhfohcaaS3
