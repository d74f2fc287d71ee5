/- Own work. Chapter 3: the document's writers. -/
import Derived.Test.YtdbkngfdaeminaaLCv
set_option linter.unusedSimpArgs false
set_option linter.unusedVariables false
set_option maxRecDepth 20000
namespace Go.Esc.M
open Go Go.Esc

section
variable {id : AId} {st : List UInt8 × Int} {G : Heap} {F : List AId} {Q : AVal → Heap → Prop}

end
end Go.Esc.M
