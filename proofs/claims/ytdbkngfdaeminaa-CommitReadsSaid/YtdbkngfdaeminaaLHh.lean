/- Own work. Hashes: rows of 32 bytes; bytes in rows. -/
import Derived.Test.YtdbkngfdaeminaaLSp
import Derived.Test.YtdbkngfdaeminaaSS
set_option linter.unusedSimpArgs false
set_option linter.unusedVariables false
set_option maxRecDepth 20000
namespace Go.Esc.M
open Go Go.Esc

section
variable {G : Heap}
theorem upd_ch {i : AId} {o o' : AObj} (h : G i = some o) (ho : ∀ t, o ≠ .ro t) : Ch [i] G [i] (G.upd i o') :=
  ⟨roLe_upd h ho, fun j x hj hn => by rw [Heap.upd_ne _ _ (fun e => hn (by simp [e]))]; exact hj, fun j hj => .inl hj⟩

/-- A place in the list of things gets another row. -/
theorem Sp.setRow {F0 : List AId} {G0 : Heap} {ps : List LP} {j : Nat} {i : AId} {t : AVal} (h : Sp F0 G0 ps G) (hj : ps[j]? = some (RowL i t)) (t' : AVal) : Sp F0 G0 (ps.set j (RowL i t')) (G.upd i (.own t')) := by
  refine h.call hj (RowL i t') fun F h k => ?_
  obtain ⟨h, rfl⟩ := h
  exact k _ _ ⟨Heap.upd_self _ _ _, rfl⟩ (upd_ch h (by simp))

end

/-- Bytes filled up with zeros. -/
def fill (n : Nat) (s : List UInt8) : List UInt8 := s ++ List.replicate (n - s.length) 0
theorem length_fill {n : Nat} {s : List UInt8} (h : s.length ≤ n) : (fill n s).length = n := by simp [fill]; omega
theorem fill_full {n : Nat} {s : List UInt8} (h : s.length = n) : fill n s = s := by simp [fill, h]
theorem z_hash : z_api_Hash = .agg ((List.replicate 32 (0 : UInt8)).map u8v) := rfl

section
variable {G : Heap}

theorem arr_hash {i : AId} {hs : List UInt8} (hg : G i = some (.own (.agg (hs.map u8v)))) : arrAt G 1 i [] 0 0 = some (hs.map u8v) := by
  simp [arrAt, vsub, hg, treeOf, sub, uni_u8]

theorem copy_hash {i : AId} {hs s : List UInt8} {K : AVal → Heap → Prop} (hg : G i = some (.own (.agg (hs.map u8v)))) (hs32 : hs.length = 32) (hl : s.length ≤ 32)
    (hK : ∀ G', G' i = some (.own (.agg ((s ++ hs.drop s.length).map u8v))) → Ch [i] G [i] G' → K (.int .i64 s.length) G') : aCopy T G t_sl_uint8 (.slice i [] 0 0 32 32) (.str s) K := by
  have hse : selems G 1 (.str s) = some (s.map u8v) := by simp [selems, u8v, Function.comp_def]
  have e1 : T t_sl_uint8 = some ti_sl_uint8 := T_sl_uint8
  have e2 : ti_sl_uint8.desc = .slice t_uint8 := rfl
  unfold aCopy
  simp only [e1, e2, T_uint8]
  rw [show ti_uint8.size = 1 from rfl, hse]
  simp only
  rw [List.take_of_length_le (by simpa using hl), List.length_map, Nat.min_eq_left hl]
  unfold lay
  cases s with
  | nil =>
    simp only [List.map_nil]
    exact hK G (by simpa using hg) (Ch.refl _ _)
  | cons b s =>
    simp only [List.map_cons]
    rw [show ti_uint8.size = 1 from rfl, arr_hash hg]
    simp only
    refine ⟨by simp at hl ⊢; omega, by simpa using okvs_u8 (b :: s), by simpa using uni_u8 (b :: s), ?_⟩
    have hp : ∀ cs', putArr G i [] 1 0 0 cs' = some (G.upd i (.own (.agg cs'))) := fun cs' => by simp [putArr, hg, sub, putAt]
    rw [hp]
    refine hK _ ?_ (upd_ch hg (by simp))
    rw [Heap.upd_self]
    simp

theorem vslice_hash {i : AId} : vslice T t_api_Hash (.ptr i [] 0) none none none = some (.slice i [] 0 0 32 32) := by
  have e1 : T t_api_Hash = some ti_api_Hash := T_api_Hash
  have e2 : ti_api_Hash.desc = .array 32 t_uint8 := rfl
  simp [vslice, e1, e2, T_uint8, sbounds, sbound]

theorem load_hash {i : AId} {hs : List UInt8} (hl : hs.length = 32) (hg : G i = some (.own (.agg (hs.map u8v)))) : vload T G t_api_Hash (.ptr i [] 0) = some (.agg (hs.map u8v)) := by
  have h1 : szs (hs.map u8v) = 32 := by rw [szs_uni (n := 1) (uni_u8 hs)]; simp [hl]
  simp [vload, vsub, hg, treeOf, sub, T_api_Hash, ti_api_Hash, vfits, sz, h1, AVal.isAgg, ADesc.isAgg]

theorem store_hash {i : AId} {hs hs' : List UInt8} (hl : hs.length = 32) (hl' : hs'.length = 32) (hg : G i = some (.own (.agg (hs.map u8v)))) : vstore T G t_api_Hash (.ptr i [] 0) (.agg (hs'.map u8v)) = some (G.upd i (.own (.agg (hs'.map u8v)))) := by
  have h1 : szs (hs.map u8v) = 32 := by rw [szs_uni (n := 1) (uni_u8 hs)]; simp [hl]
  have h2 : szs (hs'.map u8v) = 32 := by rw [szs_uni (n := 1) (uni_u8 hs')]; simp [hl']
  simp [vstore, hg, sub, T_api_Hash, ti_api_Hash, vfits, sz, h1, h2, AVal.isAgg, ADesc.isAgg, okv, okvs_u8, putAt]

theorem addr_hash {i : AId} {j : Nat} (h : j < 32) : viaddr T t_api_Hash (.ptr i [] 0) (.int .i64 j) = some (.ptr i [j] (j * 1)) := by
  have e1 : T t_api_Hash = some ti_api_Hash := T_api_Hash
  have e2 : ti_api_Hash.desc = .array 32 t_uint8 := rfl
  simp only [viaddr, e1, e2, T_uint8]
  rw [if_pos ⟨by omega, by omega⟩]
  simp [ti_uint8]

theorem store_byte {i : AId} {hs : List UInt8} {j : Nat} (hj : j < hs.length) {b : UInt8} (hg : G i = some (.own (.agg (hs.map u8v)))) : vstore T G t_uint8 (.ptr i [j] (j * 1)) (u8v b) = some (G.upd i (.own (.agg ((hs.set j b).map u8v)))) := by
  rw [vstore_fld (c := u8v b) (u := u8v hs[j]) hg (by rw [szs_uni (n := 1) (uni_take (uni_u8 hs) j)]; simp; omega) (by simp [hj]) T_uint8 rfl rfl rfl, ← List.map_set]

theorem conv_bytes {T : Tbl} {s d e : TypeId} {si di ie : TI} {v : AVal} {l : List UInt8} (hs : T s = some si) (hsd : si.desc = .slice e) (he : T e = some ie) (hed : ie.desc = .int .u8) (hd : T d = some di) (hdd : di.desc = .string)
    (h : IsSl 1 G v (l.map u8v)) : vconv T G s d v = some (.str l) := by
  rcases h with ⟨id, p, st, off, len, cap, rfl, h⟩ | ⟨rfl, hl⟩
  · simp [vconv, hs, hd, hdd, hsd, he, hed, h, bytesOf_u8]
  · have : l = [] := by simpa using hl
    subst this
    simp [vconv, hs, hd, hdd, hsd, he, hed]

theorem row_is {i : AId} {hs : List UInt8} {n : Nat} (hg : G i = some (.own (.agg (hs.map u8v)))) (hn : hs.length = n) : IsSl 1 G (.slice i [] 0 0 n n) (hs.map u8v) := by
  have := isSl_row (n := 1) (cap := n) (len := n) hg rfl (uni_u8 hs) (by simp [hn])
  rwa [List.take_of_length_le (by simp [hn])] at this

end
end Go.Esc.M
