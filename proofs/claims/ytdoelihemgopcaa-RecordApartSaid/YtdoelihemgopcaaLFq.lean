import Derived.Test.YtdoelihemgopcaaLFh
/- Own work. Chapter 13: the sort: merging, plain; small steps. -/
set_option linter.unusedSimpArgs false
set_option linter.unusedVariables false
set_option maxRecDepth 20000
namespace Go.Esc.M
open Go Go.Esc

section
variable {F0 : List AId} {G0 G : Heap} {ps : List LP} {Q : AVal → Heap → Prop}

end

end Go.Esc.M

/- Own work. Chapter 13: the sort: symMerge. -/
set_option linter.unusedSimpArgs false
set_option linter.unusedVariables false
set_option maxRecDepth 20000
namespace Go.Esc.M
open Go Go.Esc

section
variable {F0 : List AId} {G0 : Heap} {ps : List LP}

end

end Go.Esc.M

/- Own work. Chapter 13: the sort: blocks, merged by and by. -/
set_option linter.unusedSimpArgs false
set_option linter.unusedVariables false
set_option maxRecDepth 20000
namespace Go.Esc.M
open Go Go.Esc

section
variable {F0 : List AId} {G0 G : Heap} {ps : List LP} {Q : AVal → Heap → Prop}

end

end Go.Esc.M

/- Own work. Chapter 13: part: one side's adds on the two balances. -/
set_option linter.unusedSimpArgs false
set_option linter.unusedVariables false
set_option maxRecDepth 20000
namespace Go.Esc.M
open Go Go.Esc

def stays (r : List UpdM) (u : UpdM) : Bool := decide (u.kind = 1) && !decide (remS u.id r = 3)
def paid (r : List UpdM) (u : UpdM) : Bool := decide (u.kind = 1) && decide (remS u.id r = 2)
def sumF (f : UpdM → Bool) (l : List UpdM) : Int := ((l.filter f).map (·.amount)).sum
section
variable {F0 : List AId} {G0 G : Heap} {ps : List LP} {Q : AVal → Heap → Prop}

end

end Go.Esc.M

/- Own work. Chapter 13: are all valid; the document's Open. -/
set_option linter.unusedSimpArgs false
set_option linter.unusedVariables false
set_option maxRecDepth 20000
namespace Go.Esc.M
open Go Go.Esc

section
variable {F0 : List AId} {G0 G : Heap} {ps : List LP} {Q : AVal → Heap → Prop}

end

end Go.Esc.M

/- Own work. Chapter 13: the document's Open. -/
set_option linter.unusedSimpArgs false
set_option linter.unusedVariables false
set_option maxRecDepth 20000
namespace Go.Esc.M
open Go Go.Esc

section
variable {F0 : List AId} {G0 G : Heap} {ps : List LP} {Q : AVal → Heap → Prop}

end

end Go.Esc.M

/- Own work. Chapter 13: the document's placed. -/
set_option linter.unusedSimpArgs false
set_option linter.unusedVariables false
set_option maxRecDepth 20000
namespace Go.Esc.M
open Go Go.Esc

section
variable {F0 : List AId} {G0 G : Heap} {ps : List LP} {Q : AVal → Heap → Prop}

end

end Go.Esc.M

/- Own work. Chapter 13: the document's side: plain. -/
set_option linter.unusedSimpArgs false
set_option linter.unusedVariables false
set_option maxRecDepth 20000
namespace Go.Esc.M
open Go Go.Esc

end Go.Esc.M

/- Own work. Chapter 13: the document's side. -/
set_option linter.unusedSimpArgs false
set_option linter.unusedVariables false
set_option maxRecDepth 20000
namespace Go.Esc.M
open Go Go.Esc

section
variable {F0 : List AId} {G0 G : Heap} {ps : List LP} {Q : AVal → Heap → Prop}

end

end Go.Esc.M
