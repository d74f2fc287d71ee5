/- Printed by gen.py (own work): all functions of the program YtbemdjkjdadpbaaDoor. -/
import Derived.Test.YtbemdjkjdadpbaaDoorS0
import Derived.Test.YtbemdjkjdadpbaaDoorS1
