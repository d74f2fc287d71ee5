import Derived.Test.YtojenibpodkphaaDoorLMk
import Derived.Test.YtojenibpodkphaaDoorLLe
import Derived.Test.YtojenibpodkphaaDoorLUc
import Derived.Test.YtojenibpodkphaaDoorLFw
import Derived.Test.YtojenibpodkphaaDoorLVa
/- Own work. Chapter 16: what the program reads: plain laws. -/
set_option linter.unusedSimpArgs false
set_option linter.unusedVariables false
set_option maxRecDepth 20000
namespace Go.Esc.M
open Go Go.Esc

end Go.Esc.M

/- Own work. Chapter 16: messages read, in the program. -/
set_option linter.unusedSimpArgs false
set_option linter.unusedVariables false
set_option maxRecDepth 20000
namespace Go.Esc.M
open Go Go.Esc

section
variable {F0 : List AId} {G0 G : Heap} {ps : List LP} {Q : AVal → Heap → Prop}

end
end Go.Esc.M

/- Own work. Chapter 16: one message for bytes. -/
set_option linter.unusedSimpArgs false
set_option linter.unusedVariables false
set_option maxRecDepth 20000
namespace Go.Esc.M
open Go Go.Esc

section
variable {F0 : List AId} {G0 G : Heap} {ps : List LP} {Q : AVal → Heap → Prop}
end
end Go.Esc.M

/- Own work. Chapter 16: the document's examples; MsgBytes. -/
set_option linter.unusedSimpArgs false
set_option linter.unusedVariables false
set_option maxRecDepth 20000
namespace Go.Esc.M
open Go Go.Esc

def hx : List UInt8 := [49, 50, 51, 52, 53, 54, 55, 56, 57, 48, 49, 50, 51, 52, 53, 54, 55, 56, 57, 48, 49, 50, 51, 52, 53, 54, 55, 56, 57, 48, 49, 50]
def m4 : MsgM := ⟨4, 0, 0, 258, 0, hx, h0, []⟩
def m7 : MsgM := ⟨7, 0, 0, 3, 0, h0, h0, []⟩
section
variable {F0 : List AId} {G0 G : Heap} {ps : List LP} {Q : AVal → Heap → Prop}

end
end Go.Esc.M

/- Own work. Chapter 16: MsgBytes. -/
set_option linter.unusedSimpArgs false
set_option linter.unusedVariables false
set_option maxRecDepth 20000
namespace Go.Esc.M
open Go Go.Esc

theorem wt_Msg {G : Heap} {R d : Nat} {v : AVal} {m : Nat} (h : wt T G R (d + 3) t_api_Message v m) : ∃ u : MsgM, v = u.av ∧ u.ok := by
  obtain ⟨cs, ms, rfl, hf, rfl⟩ := wt_struct T_api_Message rfl h
  obtain ⟨c1, cs, m1, ms, rfl, rfl, h1, hf⟩ := wfs_cons hf
  obtain ⟨c2, cs, m2, ms, rfl, rfl, h2, hf⟩ := wfs_cons hf
  obtain ⟨c3, cs, m3, ms, rfl, rfl, h3, hf⟩ := wfs_cons hf
  obtain ⟨c4, cs, m4, ms, rfl, rfl, h4, hf⟩ := wfs_cons hf
  obtain ⟨c5, cs, m5, ms, rfl, rfl, h5, hf⟩ := wfs_cons hf
  obtain ⟨c6, cs, m6, ms, rfl, rfl, h6, hf⟩ := wfs_cons hf
  obtain ⟨c7, cs, m7, ms, rfl, rfl, h7, hf⟩ := wfs_cons hf
  obtain ⟨c8, cs, m8, ms, rfl, rfl, h8, hf⟩ := wfs_cons hf
  obtain ⟨rfl, rfl⟩ := wfs_nil hf
  obtain ⟨a, rfl, w1, _⟩ := wt_int T_int rfl h1
  obtain ⟨b, rfl, w2, _⟩ := wt_int T_int64 rfl h2
  obtain ⟨c, rfl, w3, _⟩ := wt_int T_int64 rfl h3
  obtain ⟨d', rfl, w4, _⟩ := wt_int T_int64 rfl h4
  obtain ⟨e, rfl, w5, _⟩ := wt_int T_int64 rfl h5
  obtain ⟨f, rfl, w6, _⟩ := wt_hash T_api_Hash rfl T_uint8 rfl h6
  obtain ⟨g, rfl, w7, _⟩ := wt_hash T_api_Hash rfl T_uint8 rfl h7
  obtain ⟨n, rfl, hR, hn, hm⟩ := wt_str T_string rfl h8
  exact ⟨⟨a, b, c, d', e, f, g, n⟩, rfl, ⟨i64_wf.1 w1, i64_wf.1 w2, i64_wf.1 w3, i64_wf.1 w4, i64_wf.1 w5, w6, w7, hn⟩⟩

end Go.Esc.M

/- Own work. Chapter 16: no message's bytes begin another's; MsgBack. -/
set_option linter.unusedSimpArgs false
set_option linter.unusedVariables false
set_option maxRecDepth 20000
namespace Go.Esc.M
open Go Go.Esc

end Go.Esc.M

/- Own work. Chapter 16: MsgUpdates. -/
set_option linter.unusedSimpArgs false
set_option linter.unusedVariables false
set_option maxRecDepth 20000
namespace Go.Esc.M
open Go Go.Esc

end Go.Esc.M

/- Own work. Chapter 16: MsgForms. -/
set_option linter.unusedSimpArgs false
set_option linter.unusedVariables false
set_option maxRecDepth 20000
namespace Go.Esc.M
open Go Go.Esc

section
variable {F0 : List AId} {G0 G : Heap} {ps : List LP} {Q : AVal → Heap → Prop}

end
end Go.Esc.M

/- Own work. Chapter 15: states and records: what the calls answer, first part. -/
set_option linter.unusedSimpArgs false
set_option linter.unusedVariables false
set_option maxRecDepth 20000
namespace Go.Esc.M
open Go Go.Esc

/-- A state whole: its numbers and its lists. -/
structure StF where
  s : StM
  o : List UpdM
  p : List UpdM
  h : List SlotM
structure StIn (G : Heap) (f : StF) (vo vp vh : AVal) : Prop where
  ok : f.s.ok
  o : CapSl 36 G vo (f.o.map UpdM.av)
  p : CapSl 36 G vp (f.p.map UpdM.av)
  h : CapSl 34 G vh (f.h.map SlotM.av)
  oko : ∀ u ∈ f.o, u.ok
  okp : ∀ u ∈ f.p, u.ok
  okh : ∀ x ∈ f.h, x.ok
  lo : f.o.length ≤ 1048576
  lp : f.p.length ≤ 1048576
  lh : f.h.length * 48 ≤ 140737488351232
theorem capLeaf {n : Nat} {G : Heap} {v : AVal} {vs : List AVal} (h : CapSl n G v vs) : Leaf v := by
  rcases h with ⟨_, _, _, _, _, _, rfl, _⟩ | ⟨rfl, _⟩ <;> exact ⟨rfl, rfl, rfl⟩
theorem StIn.lv {G : Heap} {f : StF} {vo vp vh : AVal} (h : StIn G f vo vp vh) : Leaf vo ∧ Leaf vp ∧ Leaf vh := ⟨capLeaf h.o, capLeaf h.p, capLeaf h.h⟩
theorem StIn.mv {G G' : Heap} {E : List AId} {f : StF} {vo vp vh : AVal} (h : StIn G f vo vp vh) (hc : Ch [] G E G') : StIn G' f vo vp vh :=
  ⟨h.ok, h.o.mv hc, h.p.mv hc, h.h.mv hc, h.oko, h.okp, h.okh, h.lo, h.lp, h.lh⟩

def RcM.zero : RcM := ⟨0, UpdM.zero, 0, 0, 0, h0, h0, h0, 0⟩
theorem RcM.zero_ok : RcM.zero.ok := ⟨i64_0, UpdM.zero_ok, i64_0, i64_0, i64_0, rfl, rfl, rfl, i64_0⟩
theorem i64_n (n : Int) (h0 : -9223372036854775808 ≤ n) (h1 : n ≤ 9223372036854775807) : I64 n := ⟨h0, h1⟩
section
variable {F0 : List AId} {G0 G : Heap} {ps : List LP} {Q : AVal → Heap → Prop}

end

end Go.Esc.M
