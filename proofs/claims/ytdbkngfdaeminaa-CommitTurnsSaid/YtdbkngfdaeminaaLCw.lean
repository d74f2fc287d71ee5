/- Own work. Chapter 3: the document's writers. -/
import Derived.Test.YtdbkngfdaeminaaLCv
set_option linter.unusedSimpArgs false
set_option linter.unusedVariables false
namespace Go.Esc.M
open Go Go.Esc

section
variable {id : AId} {st : List UInt8 × Int} {G : Heap} {F : List AId} {Q : AVal → Heap → Prop}

theorem laid_nil (st : List UInt8 × Int) : laid st [] = st := by
  obtain ⟨a, b⟩ := st
  by_cases h : b = 0 <;> simp [laid, h]

theorem be1 (b : UInt8) : be 1 b.toNat = [b] := by simp [be]

end
end Go.Esc.M
