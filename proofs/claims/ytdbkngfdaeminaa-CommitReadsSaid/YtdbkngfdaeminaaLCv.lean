/- Own work. Chapter 3: the writers, all of their functions. -/
import Derived.Test.YtdbkngfdaeminaaLCu
set_option linter.unusedSimpArgs false
set_option linter.unusedVariables false
set_option maxRecDepth 20000
namespace Go.Esc.M
open Go Go.Esc

theorem vconv_bytes {T : Tbl} {G : Heap} {s d e : TypeId} {si di ie : TI} {v : AVal} {l : List UInt8} (hs : T s = some si) (hsd : si.desc = .slice e) (he : T e = some ie) (hed : ie.desc = .int .u8) (hd : T d = some di) (hdd : di.desc = .string)
    (h : IsSl 1 G v (l.map u8v)) : vconv T G s d v = some (.str l) := by
  rcases h with ⟨id, p, st, off, len, cap, rfl, h⟩ | ⟨rfl, hl⟩
  · simp [vconv, hs, hd, hdd, hsd, he, hed, h, bytesOf_u8]
  · have : l = [] := by simpa using hl
    subst this
    simp [vconv, hs, hd, hdd, hsd, he, hed]

theorem Wr.ch {id : AId} {st : List UInt8 × Int} {G G' : Heap} {F E E' : List AId} (h : Wr id st G F) (hc : Ch E G E' G') (hd : ∀ j ∈ F, j ∉ E) : Wr id st G' F := WrP.frame h (hc.same (WrP.rows h) hd)

theorem WrP.setFault {id : AId} {bs : List UInt8} {f g : Int} {G : Heap} {F : List AId} (h : WrP id bs f G F) : ∃ G', vstore T G t_api_Errno (.ptr id [1] 1) (.int .i64 g) = some G' ∧ WrP id bs g G' F ∧ Ch F G F G' := by
  obtain ⟨s, hg, ho, hne, rfl⟩ := h
  refine ⟨_, vstore_fld hg (by simp [szs, ho.leaf.1]) rfl T_api_Errno rfl rfl rfl, ⟨s, Heap.upd_self _ _ _, ho.upd hne, hne, rfl⟩, ⟨roLe_upd hg (by simp), fun j o hj hn => ?_, fun j hj => .inl hj⟩⟩
  rw [Heap.upd_ne _ _ (fun e => hn (by simp [e]))]
  exact hj

section
variable {id : AId} {st : List UInt8 × Int} {G : Heap} {F : List AId} {Q : AVal → Heap → Prop}

theorem cursor_Writer_U8.use {v : Nat} (hv : v < 2 ^ 8) (h : Wr id st G F) (hb : st.1.length + 8 ≤ 220000000000000) (hQ : ∀ F' G', Wr id (laid st (be 1 v)) G' F' → Ch F G F' G' → Q (.tuple []) G') :
    ACalls P cursor_Writer_U8.n [.ptr id [] 0, .int .u8 v] G Q := cursor_Writer_U8.sound (cursor_lay_uint8.use (k := 1) hv (by omega) h (by omega) hQ)
theorem cursor_Writer_U16.use {v : Nat} (hv : v < 2 ^ 16) (h : Wr id st G F) (hb : st.1.length + 8 ≤ 220000000000000) (hQ : ∀ F' G', Wr id (laid st (be 2 v)) G' F' → Ch F G F' G' → Q (.tuple []) G') :
    ACalls P cursor_Writer_U16.n [.ptr id [] 0, .int .u16 v] G Q := cursor_Writer_U16.sound (cursor_lay_uint16.use (k := 2) hv (by omega) h (by omega) hQ)
/-- A signed number's bits, as a number. -/
def bits64 (n : Int) : Nat := (n % 18446744073709551616).toNat
theorem bits64_lt (n : Int) : bits64 n < 2 ^ 64 := by
  unfold bits64
  omega
theorem wrap_bits64 (n : Int) : IntKind.u64.wrap n = (bits64 n : Int) := by
  rw [wrapU64]
  unfold bits64
  omega

theorem cursor_Writer_I64.use {v : Int} (h : Wr id st G F) (hb : st.1.length + 8 ≤ 220000000000000) (hQ : ∀ F' G', Wr id (laid st (be 8 (bits64 v))) G' F' → Ch F G F' G' → Q (.tuple []) G') :
    ACalls P cursor_Writer_I64.n [.ptr id [] 0, .int .i64 v] G Q := by
  refine cursor_Writer_I64.sound ?_
  unfold cursor_Writer_I64.S
  rw [vconv_int T_int64 T_uint64 rfl, wv_some, wrap_bits64]
  exact cursor_lay_uint64.use (k := 8) (bits64_lt v) (by omega) h (by omega) hQ

theorem cursor_Writer_Hash.use {hs : List UInt8} (hl : hs.length = 32) (h : Wr id st G F) (hb : st.1.length + 32 ≤ 220000000000000) (hQ : ∀ F' G', Wr id (laid st hs) G' F' → Ch F G F' G' → Q (.tuple []) G') :
    ACalls P cursor_Writer_Hash.n [.ptr id [] 0, .agg (hs.map u8v)] G Q := by
  refine cursor_Writer_Hash.sound ?_
  unfold cursor_Writer_Hash.S
  intro i hf
  have hch : Ch [] G [] (G.upd i (.own (.agg (hs.map u8v)))) := ⟨RoLe.of_le (hf.le _), fun j x hj _ => hf.le _ _ _ hj, fun j hj => by simp at hj⟩
  have hsl : IsSl 1 (G.upd i (.own (.agg (hs.map u8v)))) (.slice i [] 0 0 32 32) (hs.map u8v) := by
    have := isSl_row (n := 1) (cap := 32) (len := 32) (Heap.upd_self G i (.own (.agg (hs.map u8v)))) rfl (uni_u8 hs) (by simp [hl])
    rwa [List.take_of_length_le (by simp [hl])] at this
  show wv (vconv T _ t_sl_uint8 t_string (.slice i [] 0 0 32 32)) _
  rw [vconv_bytes T_sl_uint8 rfl T_uint8 rfl T_string rfl hsl, wv_some]
  exact cursor_Writer_Raw.use (h.ch hch (by simp)) (by omega) fun F' G' hw hc => hQ F' G' hw (hch.grow.trans hc)

theorem cursor_Writer_Out.use (h : Wr id st G F) (hQ : Q (.tuple [.str (if st.2 = 0 then st.1 else []), .int .i64 st.2]) G) : ACalls P cursor_Writer_Out.n [.ptr id [] 0] G Q := by
  refine cursor_Writer_Out.sound ?_
  unfold cursor_Writer_Out.S
  have hf := WrP.fault h
  show wv (vload T G t_api_Errno (.ptr id [1] 1)) _
  rw [hf]
  simp -zeta only [wv_some, vbin_neq, brB_ndec]
  refine ⟨fun h0 => ?_, fun h0 => ?_⟩
  · show wv (vload T G t_api_Errno (.ptr id [1] 1)) _
    rw [hf, wv_some]
    simpa [h0] using hQ
  · obtain ⟨s, hl, _, ho, _⟩ := WrP.load h
    show wv (vload T G t_sl_uint8 (.ptr id [0] 0)) _
    rw [hl, wv_some, vconv_bytes T_sl_uint8 rfl T_uint8 rfl T_string rfl ho.is, wv_some]
    simpa [h0] using hQ

end
end Go.Esc.M
