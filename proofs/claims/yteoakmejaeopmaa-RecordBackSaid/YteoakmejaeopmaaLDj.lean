import Derived.Test.YteoakmejaeopmaaLDc
/- Own work. Chapter 14: ledgers compared and turned. -/
set_option linter.unusedSimpArgs false
set_option linter.unusedVariables false
set_option maxRecDepth 20000
namespace Go.Esc
open Go Go.RowKit
section
variable {T : Tbl} {ts e : TypeId} {si ie : TI} (ht : T ts = some si) (hd : si.desc = .slice e) (he : T e = some ie) (hz : sz ie.zero = ie.size)
variable {F0 : List AId} {G0 G : Heap} {ps : List LP} {K : AVal → Heap → Prop}
end
end Go.Esc
namespace Go.Esc.M
open Go Go.Esc

theorem veq_hash {a b : List UInt8} (ha : a.length = 32) (hb : b.length = 32) : veqD T 8 t_api_Hash (.agg (a.map u8v)) (.agg (b.map u8v)) = some (decide (a = b)) := by
  rw [veqD_arr (i := ti_api_Hash) T_api_Hash rfl T_uint8, eqA_u8 (ie := ti_uint8) T_uint8 rfl rfl 6 32 a b ha hb]

theorem PenM.ok.side {p : PenM} (h : p.ok) (b : Bool) : ({ p with ours := b } : PenM).ok := ⟨h.id, h.amount, h.hash⟩
section
variable {F0 : List AId} {G0 G : Heap} {ps : List LP} {Q : AVal → Heap → Prop}

end
end Go.Esc.M

/- Own work. Chapter 14: the document's example. -/
set_option linter.unusedSimpArgs false
set_option linter.unusedVariables false
set_option maxRecDepth 20000
namespace Go.Esc.M
open Go Go.Esc

def z32 : List UInt8 := List.replicate 32 0
def p1 : PenM := ⟨true, 3, 9, z32⟩
def h7 : List UInt8 := 7 :: List.replicate 31 0
def c1 : Com := ⟨1, 5, h7, 10, 20, [p1]⟩
theorem idx {l : List UInt8} {j : Nat} {b : UInt8} (h : l[j]? = some b) : vindex T t_string (.str l) (.int .i64 (j : Nat)) = some (.int .u8 (b.toNat : Nat)) := by
  obtain ⟨hj, rfl⟩ := List.getElem?_eq_some_iff.1 h
  exact vindex_str hj

section
variable {F0 : List AId} {G0 G : Heap} {ps : List LP} {Q : AVal → Heap → Prop}

end
end Go.Esc.M

/- Own work. Chapter 14: CommitTexts. -/
set_option linter.unusedSimpArgs false
set_option linter.unusedVariables false
set_option maxRecDepth 20000
namespace Go.Esc.M
open Go Go.Esc

section
variable {F0 : List AId} {G0 G : Heap} {ps : List LP} {Q : AVal → Heap → Prop}

end

end Go.Esc.M

/- Own work. Chapter 14: sound ledgers made of any. -/
set_option linter.unusedSimpArgs false
set_option linter.unusedVariables false
set_option maxRecDepth 20000
namespace Go.Esc.M
open Go Go.Esc

section
variable {F0 : List AId} {G0 G : Heap} {ps : List LP} {Q : AVal → Heap → Prop}

end
end Go.Esc.M

/- Own work. Chapter 14: turned ledgers; sums. -/
set_option linter.unusedSimpArgs false
set_option linter.unusedVariables false
set_option maxRecDepth 20000
namespace Go.Esc.M
open Go Go.Esc

def side (b : Bool) (l : List PenM) : List PenM := l.map (fun p => { p with ours := b })
section
variable {F0 : List AId} {G0 G : Heap} {ps : List LP} {Q : AVal → Heap → Prop}

end
end Go.Esc.M
