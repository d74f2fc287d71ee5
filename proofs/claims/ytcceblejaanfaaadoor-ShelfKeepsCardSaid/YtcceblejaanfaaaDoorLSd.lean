/- Own work. Chapter 9: the document's examples. -/
import Derived.Test.YtcceblejaanfaaaDoorLSc
set_option linter.unusedSimpArgs false
set_option linter.unusedVariables false
namespace Go.Esc.M
open Go Go.Esc

def one32 : List UInt8 := List.replicate 32 1
theorem ex_one : (downS 1 48 one32).take 4 = [145, 92, 117, 148] := by decide +kernel
theorem ex_zero : (downS (2 ^ 48 - 1) 48 zero32).take 4 = [2, 164, 12, 133] := by decide +kernel
theorem ex_point : (sha zero32).take 4 = [102, 104, 122, 173] := by decide +kernel

end Go.Esc.M
