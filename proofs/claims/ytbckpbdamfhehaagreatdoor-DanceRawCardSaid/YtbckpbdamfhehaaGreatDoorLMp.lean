import Derived.Test.YtbckpbdamfhehaaGreatDoorLMc
import Derived.Test.YtbckpbdamfhehaaGreatDoorLFa
/- Own work. Chapter 16: messages written, in the program. -/
set_option linter.unusedSimpArgs false
set_option linter.unusedVariables false
set_option maxRecDepth 20000
namespace Go.Esc.M
open Go Go.Esc

def isK (m : MsgM) : Prop := m.kind = 1 ∨ m.kind = 2 ∨ m.kind = 3
instance (m : MsgM) : Decidable (isK m) := inferInstanceAs (Decidable (_ ∨ _ ∨ _))
section
variable {F0 : List AId} {G0 G : Heap} {ps : List LP} {Q : AVal → Heap → Prop}

end
end Go.Esc.M

/- Own work. Chapter 16: messages written, in the document. -/
set_option linter.unusedSimpArgs false
set_option linter.unusedVariables false
set_option maxRecDepth 20000
namespace Go.Esc.M
open Go Go.Esc

section
variable {F0 : List AId} {G0 G : Heap} {ps : List LP} {Q : AVal → Heap → Prop}

end
end Go.Esc.M

/- Own work. Chapter 16: the document's bytes. -/
set_option linter.unusedSimpArgs false
set_option linter.unusedVariables false
set_option maxRecDepth 20000
namespace Go.Esc.M
open Go Go.Esc

section
variable {F0 : List AId} {G0 G : Heap} {ps : List LP} {Q : AVal → Heap → Prop}

end
end Go.Esc.M

/- Own work. Chapter 16: the document's numbers and hashes at a place. -/
set_option linter.unusedSimpArgs false
set_option linter.unusedVariables false
set_option maxRecDepth 20000
namespace Go.Esc.M
open Go Go.Esc

section
variable {F0 : List AId} {G0 G : Heap} {ps : List LP} {Q : AVal → Heap → Prop}

end
end Go.Esc.M

/- Own work. Chapter 16: what the document makes of bytes. -/
set_option linter.unusedSimpArgs false
set_option linter.unusedVariables false
set_option maxRecDepth 20000
namespace Go.Esc.M
open Go Go.Esc

end Go.Esc.M

/- Own work. Chapter 16: messages read, in the document. -/
set_option linter.unusedSimpArgs false
set_option linter.unusedVariables false
set_option maxRecDepth 20000
namespace Go.Esc.M
open Go Go.Esc

end Go.Esc.M

/- Own work. Chapter 16: messages read, in the document, walked. -/
set_option linter.unusedSimpArgs false
set_option linter.unusedVariables false
set_option maxRecDepth 20000
namespace Go.Esc.M
open Go Go.Esc

section
variable {F0 : List AId} {G0 G : Heap} {ps : List LP} {Q : AVal → Heap → Prop}

end
end Go.Esc.M

/- Own work. Chapter 16: what stands behind the kind, in the program. -/
set_option linter.unusedSimpArgs false
set_option linter.unusedVariables false
set_option maxRecDepth 20000
namespace Go.Esc.M
open Go Go.Esc

section
variable {F0 : List AId} {G0 G : Heap} {ps : List LP} {Q : AVal → Heap → Prop}

end
end Go.Esc.M

/- Own work. Chapter 16: what the program reads: plain laws. -/
set_option linter.unusedSimpArgs false
set_option linter.unusedVariables false
set_option maxRecDepth 20000
namespace Go.Esc.M
open Go Go.Esc

end Go.Esc.M

/- Own work. Chapter 16: messages read, in the program. -/
set_option linter.unusedSimpArgs false
set_option linter.unusedVariables false
set_option maxRecDepth 20000
namespace Go.Esc.M
open Go Go.Esc

section
variable {F0 : List AId} {G0 G : Heap} {ps : List LP} {Q : AVal → Heap → Prop}

end
end Go.Esc.M

/- Own work. Chapter 16: one message for bytes. -/
set_option linter.unusedSimpArgs false
set_option linter.unusedVariables false
set_option maxRecDepth 20000
namespace Go.Esc.M
open Go Go.Esc

section
variable {F0 : List AId} {G0 G : Heap} {ps : List LP} {Q : AVal → Heap → Prop}
end
end Go.Esc.M

/- Own work. Chapter 16: the document's examples; MsgBytes. -/
set_option linter.unusedSimpArgs false
set_option linter.unusedVariables false
set_option maxRecDepth 20000
namespace Go.Esc.M
open Go Go.Esc

def hx : List UInt8 := [49, 50, 51, 52, 53, 54, 55, 56, 57, 48, 49, 50, 51, 52, 53, 54, 55, 56, 57, 48, 49, 50, 51, 52, 53, 54, 55, 56, 57, 48, 49, 50]
def m4 : MsgM := ⟨4, 0, 0, 258, 0, hx, h0, []⟩
def m7 : MsgM := ⟨7, 0, 0, 3, 0, h0, h0, []⟩
section
variable {F0 : List AId} {G0 G : Heap} {ps : List LP} {Q : AVal → Heap → Prop}

end
end Go.Esc.M

/- Own work. Chapter 16: MsgBytes. -/
set_option linter.unusedSimpArgs false
set_option linter.unusedVariables false
set_option maxRecDepth 20000
namespace Go.Esc.M
open Go Go.Esc

theorem wt_Msg {G : Heap} {R d : Nat} {v : AVal} {m : Nat} (h : wt T G R (d + 3) t_api_Message v m) : ∃ u : MsgM, v = u.av ∧ u.ok := by
  obtain ⟨cs, ms, rfl, hf, rfl⟩ := wt_struct T_api_Message rfl h
  obtain ⟨c1, cs, m1, ms, rfl, rfl, h1, hf⟩ := wfs_cons hf
  obtain ⟨c2, cs, m2, ms, rfl, rfl, h2, hf⟩ := wfs_cons hf
  obtain ⟨c3, cs, m3, ms, rfl, rfl, h3, hf⟩ := wfs_cons hf
  obtain ⟨c4, cs, m4, ms, rfl, rfl, h4, hf⟩ := wfs_cons hf
  obtain ⟨c5, cs, m5, ms, rfl, rfl, h5, hf⟩ := wfs_cons hf
  obtain ⟨c6, cs, m6, ms, rfl, rfl, h6, hf⟩ := wfs_cons hf
  obtain ⟨c7, cs, m7, ms, rfl, rfl, h7, hf⟩ := wfs_cons hf
  obtain ⟨c8, cs, m8, ms, rfl, rfl, h8, hf⟩ := wfs_cons hf
  obtain ⟨rfl, rfl⟩ := wfs_nil hf
  obtain ⟨a, rfl, w1, _⟩ := wt_int T_int rfl h1
  obtain ⟨b, rfl, w2, _⟩ := wt_int T_int64 rfl h2
  obtain ⟨c, rfl, w3, _⟩ := wt_int T_int64 rfl h3
  obtain ⟨d', rfl, w4, _⟩ := wt_int T_int64 rfl h4
  obtain ⟨e, rfl, w5, _⟩ := wt_int T_int64 rfl h5
  obtain ⟨f, rfl, w6, _⟩ := wt_hash T_api_Hash rfl T_uint8 rfl h6
  obtain ⟨g, rfl, w7, _⟩ := wt_hash T_api_Hash rfl T_uint8 rfl h7
  obtain ⟨n, rfl, hR, hn, hm⟩ := wt_str T_string rfl h8
  exact ⟨⟨a, b, c, d', e, f, g, n⟩, rfl, ⟨i64_wf.1 w1, i64_wf.1 w2, i64_wf.1 w3, i64_wf.1 w4, i64_wf.1 w5, w6, w7, hn⟩⟩

end Go.Esc.M
