/- Printed by gen.py (own work): all functions of the program Ytdegdajfcnonfaa. -/
import Derived.Test.YtdegdajfcnonfaaS0
import Derived.Test.YtdegdajfcnonfaaS1
