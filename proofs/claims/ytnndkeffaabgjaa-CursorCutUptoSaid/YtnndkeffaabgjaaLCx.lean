/- Own work. Chapter 3: the document's readers; hashes read. -/
import Derived.Test.YtnndkeffaabgjaaLBe
import Derived.Test.YtnndkeffaabgjaaLSp
set_option linter.unusedSimpArgs false
set_option linter.unusedVariables false
namespace Go.Esc.M
open Go Go.Esc

/-- A reader of the program's. -/
def RdL (id : AId) (st : List UInt8 × Int) : LP where
  p := fun G F => Rd id st G ∧ F = [id]
  rows := by rintro G F ⟨h, rfl⟩ j hj; simp at hj; subst hj; exact h.row
  loc := by rintro G G' F ⟨h, rfl⟩ hs; exact ⟨by unfold Rd at h ⊢; rw [hs id (by simp)]; exact h, rfl⟩

/-- A reader of the document's: what is left stays where it is broken. -/
def RdR (id : AId) (st : List UInt8 × Int) (G : Heap) : Prop := ∃ l, G id = some (.own (.agg [.str l, .int .i64 st.2])) ∧ (st.2 = 0 → l = st.1) ∧ (st.2 ≠ 0 → st.1 = [])
def RdRL (id : AId) (st : List UInt8 × Int) : LP where
  p := fun G F => RdR id st G ∧ F = [id]
  rows := by rintro G F ⟨⟨l, h, _⟩, rfl⟩ j hj; simp at hj; subst hj; rw [h]; rfl
  loc := by rintro G G' F ⟨⟨l, h, h'⟩, rfl⟩ hs; exact ⟨⟨l, by rw [hs id (by simp)]; exact h, h'⟩, rfl⟩

section
variable {id : AId} {st : List UInt8 × Int} {G : Heap} {Q : AVal → Heap → Prop}

theorem RdR.fault (h : RdR id st G) : vload T G t_api_Errno (.ptr id [1] 1) = some (.int .i64 st.2) := h.elim fun _ h => vload_fld h.1 rfl rfl rfl T_api_Errno rfl
theorem RdR.rest (h : RdR id st G) (h0 : st.2 = 0) : vload T G t_string (.ptr id [0] 0) = some (.str st.1) := h.elim fun l h => by rw [← h.2.1 h0]; exact vload_fld h.1 rfl rfl rfl T_string rfl
theorem RdR.ch {G' : Heap} {E E' : List AId} (h : RdR id st G) (hc : Ch E G E' G') (hd : id ∉ E) : RdR id st G' := h.elim fun l h => ⟨l, hc.others _ _ h.1 hd, h.2⟩
theorem RdR.row (h : RdR id st G) : (G id).isSome = true := h.elim fun l h => by rw [h.1]; rfl

/-- Broken by this fault, if it wasn't. -/
def brk (st : List UInt8 × Int) (e : Int) : List UInt8 × Int := if st.2 = 0 then ([], e) else st

theorem takes_short {b : List UInt8} {n : Int} (h : (b.length : Int) < n) : takes (b, 0) n = ([], ([], 2)) := by simp [takes, h]
theorem takes_ok {b : List UInt8} {n : Int} (h : ¬ (b.length : Int) < n) : takes (b, 0) n = (b.take n.toNat, (b.drop n.toNat, 0)) := by simp [takes, h]

end

/-- Bytes filled up with zeros. -/
def fill (n : Nat) (s : List UInt8) : List UInt8 := s ++ List.replicate (n - s.length) 0
theorem length_fill {n : Nat} {s : List UInt8} (h : s.length ≤ n) : (fill n s).length = n := by simp [fill]; omega
theorem fill_full {n : Nat} {s : List UInt8} (h : s.length = n) : fill n s = s := by simp [fill, h]
theorem fill_nil (n : Nat) : fill n [] = List.replicate n 0 := by simp [fill]

theorem z_hash : z_api_Hash = .agg ((List.replicate 32 (0 : UInt8)).map u8v) := rfl

theorem putAt_nil (v u : AVal) : putAt [] v u = u := rfl

section
variable {id : AId} {st : List UInt8 × Int} {G : Heap} {Q : AVal → Heap → Prop}

theorem arr_hash {i : AId} {hs : List UInt8} (hg : G i = some (.own (.agg (hs.map u8v)))) : arrAt G 1 i [] 0 0 = some (hs.map u8v) := by
  simp [arrAt, vsub, hg, treeOf, sub, uni_u8]

theorem copy_hash {i : AId} {hs s : List UInt8} {K : AVal → Heap → Prop} (hg : G i = some (.own (.agg (hs.map u8v)))) (hs32 : hs.length = 32) (hl : s.length ≤ 32)
    (hK : ∀ G', G' i = some (.own (.agg ((s ++ hs.drop s.length).map u8v))) → Ch [i] G [i] G' → K (.int .i64 s.length) G') : aCopy T G t_sl_uint8 (.slice i [] 0 0 32 32) (.str s) K := by
  have hse : selems G 1 (.str s) = some (s.map u8v) := by simp [selems, u8v, Function.comp_def]
  have e1 : T t_sl_uint8 = some ti_sl_uint8 := T_sl_uint8
  have e2 : ti_sl_uint8.desc = .slice t_uint8 := rfl
  unfold aCopy
  simp only [e1, e2, T_uint8]
  rw [show ti_uint8.size = 1 from rfl, hse]
  simp only
  rw [List.take_of_length_le (by simpa using hl), List.length_map, Nat.min_eq_left hl]
  unfold lay
  cases s with
  | nil =>
    simp only [List.map_nil]
    exact hK G (by simpa using hg) (Ch.refl _ _)
  | cons b s =>
    simp only [List.map_cons]
    rw [show ti_uint8.size = 1 from rfl, arr_hash hg]
    simp only
    refine ⟨by simp at hl ⊢; omega, by simpa using okvs_u8 (b :: s), by simpa using uni_u8 (b :: s), ?_⟩
    have hp : ∀ cs', putArr G i [] 1 0 0 cs' = some (G.upd i (.own (.agg cs'))) := fun cs' => by simp [putArr, hg, sub, putAt]
    rw [hp]
    refine hK _ ?_ (ch_upd hg (by simp))
    rw [Heap.upd_self]
    simp

theorem vslice_hash {i : AId} : vslice T t_api_Hash (.ptr i [] 0) none none none = some (.slice i [] 0 0 32 32) := by
  have e1 : T t_api_Hash = some ti_api_Hash := T_api_Hash
  have e2 : ti_api_Hash.desc = .array 32 t_uint8 := rfl
  simp [vslice, e1, e2, T_uint8, sbounds, sbound]

theorem load_hash {i : AId} {hs : List UInt8} (hl : hs.length = 32) (hg : G i = some (.own (.agg (hs.map u8v)))) : vload T G t_api_Hash (.ptr i [] 0) = some (.agg (hs.map u8v)) := by
  have h1 : szs (hs.map u8v) = 32 := by rw [szs_uni (n := 1) (uni_u8 hs)]; simp [hl]
  simp [vload, vsub, hg, treeOf, sub, T_api_Hash, ti_api_Hash, vfits, sz, h1, AVal.isAgg, ADesc.isAgg]

theorem store_hash {i : AId} {hs hs' : List UInt8} (hl : hs.length = 32) (hl' : hs'.length = 32) (hg : G i = some (.own (.agg (hs.map u8v)))) : vstore T G t_api_Hash (.ptr i [] 0) (.agg (hs'.map u8v)) = some (G.upd i (.own (.agg (hs'.map u8v)))) := by
  have h1 : szs (hs.map u8v) = 32 := by rw [szs_uni (n := 1) (uni_u8 hs)]; simp [hl]
  have h2 : szs (hs'.map u8v) = 32 := by rw [szs_uni (n := 1) (uni_u8 hs')]; simp [hl']
  simp [vstore, hg, sub, T_api_Hash, ti_api_Hash, vfits, sz, h1, h2, AVal.isAgg, ADesc.isAgg, okv, okvs_u8, putAt]

theorem takes_len32 (st : List UInt8 × Int) : (takes st 32).1.length ≤ 32 := length_takes st

theorem cursor_Reader_Hash.use (h : Rd id st G) (hQ : ∀ G', Rd id (takes st 32).2 G' → Ch [id] G [id] G' → Q (.agg ((fill 32 (takes st 32).1).map u8v)) G') : ACalls P cursor_Reader_Hash.n [.ptr id [] 0] G Q := by
  refine cursor_Reader_Hash.sound ?_
  unfold cursor_Reader_Hash.S
  rw [z_hash]
  have hl := takes_len32 st
  have s0 : Sp [id] G [RdL id st] G := Sp.one ⟨h, rfl⟩
  intro i1 f1
  have s1 := s0.row f1 (.agg ((List.replicate 32 (0 : UInt8)).map u8v))
  intro i3 f3
  have s2 := s1.row f3 (.agg ((List.replicate 32 (0 : UInt8)).map u8v))
  rw [vslice_hash, wv_some]
  refine s2.call (i := 2) rfl (RdL id (takes st 32).2) fun F h k => ?_
  obtain ⟨h, rfl⟩ := h
  refine cursor_Reader_take.use (fun _ => by omega) h fun G3 h3 c3 => ?_
  have s3 := k _ _ ⟨h3, rfl⟩ c3
  refine s3.call (i := 0) rfl (RowL i3 (.agg ((fill 32 (takes st 32).1).map u8v))) fun F h k => ?_
  obtain ⟨h, rfl⟩ := h
  refine copy_hash h (by simp) hl fun G4 h4 c4 => ?_
  have e4 : (takes st 32).1 ++ (List.replicate 32 (0 : UInt8)).drop (takes st 32).1.length = fill 32 (takes st 32).1 := by rw [List.drop_replicate]; rfl
  rw [e4] at h4
  have s4 := k _ _ ⟨h4, rfl⟩ c4
  rw [load_hash (length_fill hl) h4, wv_some]
  refine s4.call (i := 1) rfl (RowL i1 (.agg ((fill 32 (takes st 32).1).map u8v))) fun F h k => ?_
  obtain ⟨h, rfl⟩ := h
  rw [store_hash (by simp) (length_fill hl) h, wg_some]
  have s5 := k _ _ ⟨Heap.upd_self _ _ _, rfl⟩ (ch_upd h (by simp))
  rw [load_hash (length_fill hl) (Heap.upd_self _ _ _), wv_some]
  obtain ⟨F, ⟨h6, rfl⟩, c6⟩ := ((s5.erase 0).erase 0).out
  exact hQ _ h6 c6

theorem addr_hash {i : AId} {j : Nat} (h : j < 32) : viaddr T t_api_Hash (.ptr i [] 0) (.int .i64 j) = some (.ptr i [j] (j * 1)) := by
  have e1 : T t_api_Hash = some ti_api_Hash := T_api_Hash
  have e2 : ti_api_Hash.desc = .array 32 t_uint8 := rfl
  simp only [viaddr, e1, e2, T_uint8]
  rw [if_pos ⟨by omega, by omega⟩]
  simp [ti_uint8]

theorem store_byte {i : AId} {hs : List UInt8} {j : Nat} (hj : j < hs.length) {b : UInt8} (hg : G i = some (.own (.agg (hs.map u8v)))) : vstore T G t_uint8 (.ptr i [j] (j * 1)) (u8v b) = some (G.upd i (.own (.agg ((hs.set j b).map u8v)))) := by
  rw [vstore_fld (c := u8v b) (u := u8v hs[j]) hg (by rw [szs_uni (n := 1) (uni_take (uni_u8 hs) j)]; simp; omega) (by simp [hj]) T_uint8 rfl rfl rfl, ← List.map_set]

theorem load_byte {i : AId} {hs : List UInt8} {j : Nat} (hj : j < hs.length) (hg : G i = some (.own (.agg (hs.map u8v)))) : vload T G t_uint8 (.ptr i [j] (j * 1)) = some (u8v hs[j]) :=
  vload_fld hg rfl (by rw [szs_uni (n := 1) (uni_take (uni_u8 hs) j)]; simp; omega) (c := u8v hs[j]) (by simp [hj]) T_uint8 rfl

end
end Go.Esc.M
