/- Own work. Chapter 14: the document's texts, walked. -/
import Derived.Test.YtmhhddpkhfohcaaLCq
set_option linter.unusedSimpArgs false
set_option linter.unusedVariables false
namespace Go.Esc.M
open Go Go.Esc

theorem cnt_le (b : Bool) (l : List PenM) : cnt b l ≤ l.length := List.length_filter_le _ _
theorem cnt_take {b : Bool} {l : List PenM} {j : Nat} {p : PenM} (h : l[j]? = some p) : cnt b (l.take (j + 1)) = cnt b (l.take j) + (if p.ours = b then 1 else 0) := by
  rw [List.take_add_one, h]
  unfold cnt
  rw [List.filter_append, List.length_append]
  cases ho : p.ours <;> cases b <;> simp [ho]

section
variable {F0 : List AId} {G0 G : Heap} {ps : List LP} {Q : AVal → Heap → Prop}

/-- A hash behind bytes. -/
theorem growH {s : AVal} {l hs' : List UInt8} {i : Nat} {K : AVal → Heap → Prop} {x : AVal} (hs : Sp F0 G0 ps G) (hi : ps[i]? = some (OwnL 1 s (l.map u8v))) (hx : selems G 1 x = some (hs'.map u8v)) (hl : l.length + hs'.length ≤ 140737488355328)
    (hK : ∀ s' G', Sp F0 G0 (ps.set i (OwnL 1 s' ((l ++ hs').map u8v))) G' → K s' G') : aAppend T G t_sl_uint8 t_sl_uint8 s x K := by
  refine growL (T := T) (ts := t_sl_uint8) (e := t_uint8) (si := ti_sl_uint8) (ie := ti_uint8) (tx := t_sl_uint8) (xi := ti_sl_uint8) T_sl_uint8 rfl T_uint8 rfl (by decide) T_sl_uint8 (.inr ⟨_, rfl⟩) hs hi hx (uni_u8 _) (okvs_u8 _) ?_ fun s' G' h => hK s' G' ?_
  · simp only [List.length_map, ti_uint8]
    omega
  · rw [List.map_append]
    exact h
theorem slice_pen {i : AId} {p : PenM} (h : p.ok) (hg : G i = some (.own p.av)) : ∃ x, vslice T t_api_Hash (.ptr i [3] 3) none none none = some x ∧ selems G 1 x = some (p.hash.map u8v) := by
  have e1 : T t_api_Hash = some ti_api_Hash := T_api_Hash
  have e2 : ti_api_Hash.desc = .array 32 t_uint8 := rfl
  refine ⟨.slice i [3] 0 3 32 32, by simp [vslice, e1, e2, T_uint8, sbounds, sbound, ti_uint8], ?_⟩
  have hh := h.hash
  have ha : arrAt G 1 i [3] 0 3 = some (p.hash.map u8v) := by
    simp [arrAt, vsub, hg, treeOf, PenM.av, sub, szs, Esc.sz, uni_u8]
  rw [selems, ha]
  simp [hh, List.take_of_length_le]
theorem slice_hash {i : AId} {hs : List UInt8} (hl : hs.length = 32) (hg : G i = some (.own (.agg (hs.map u8v)))) : selems G 1 (.slice i [] 0 0 32 32) = some (hs.map u8v) := (row_is hg hl).elems

end
end Go.Esc.M
