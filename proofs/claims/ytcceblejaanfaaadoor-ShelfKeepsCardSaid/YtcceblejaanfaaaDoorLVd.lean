/- Own work. Chapter 10: a secret that is not what another leads to. -/
import Derived.Test.YtcceblejaanfaaaDoorLVc
set_option linter.unusedSimpArgs false
set_option linter.unusedVariables false
namespace Go.Esc.M
open Go Go.Esc

theorem first_ne : (let A := downS (2 ^ 48 - 1) 48 zero32; decide (sha (flipB A 0) = A)) = false := by decide +kernel

end Go.Esc.M
