/- Printed by gen.py (own work): all functions of the program Ytdbkngfdaeminaa. -/
import Derived.Test.YtdbkngfdaeminaaS0
import Derived.Test.YtdbkngfdaeminaaS1
