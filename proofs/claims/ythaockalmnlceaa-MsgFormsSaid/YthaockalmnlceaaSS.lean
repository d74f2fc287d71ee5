/- Printed by gen.py (own work): all functions of the program Ythaockalmnlceaa. -/
import Derived.Test.YthaockalmnlceaaS0
import Derived.Test.YthaockalmnlceaaS1
import Derived.Test.YthaockalmnlceaaS2
