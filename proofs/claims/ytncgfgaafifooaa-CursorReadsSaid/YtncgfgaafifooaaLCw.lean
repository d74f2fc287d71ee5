/- Own work. Chapter 3: the document's writers. -/
import Derived.Test.YtncgfgaafifooaaLCv
set_option linter.unusedSimpArgs false
set_option linter.unusedVariables false
namespace Go.Esc.M
open Go Go.Esc

theorem escrowref03_Bytes.use {v k : Nat} {G : Heap} {Q : AVal → Heap → Prop} (hk : k ≤ 8) (hQ : ∀ G', Ch [] G [] G' → Q (.str (be k v)) G') : ACalls P escrowref03_Bytes.n [.int .u64 v, .int .i64 k] G Q := by
  refine escrowref03_Bytes.sound ?_
  unfold escrowref03_Bytes.S
  rw [vbin_sub, wv_some, i64_in (by omega) (by omega)]
  intro R hR
  have loop : ∀ (i : Nat) (bs : List UInt8) (s : AVal) (F' : List AId) (G' : Heap), i ≤ k → bs.length + i ≤ 8 → Own 1 G' s (bs.map u8v) → F' = (rowOf s).toList → Ch [] G F' G' → be k v = bs ++ be i v →
      R [.int .u64 v, s, .int .i64 ((i : Int) - 1)] G' := by
    intro i
    induction i with
    | zero =>
      intro bs s F' G' _ _ ho _ hch he
      refine hR _ _ _ _ ?_
      simp -zeta only [vbin_geq, wv_some, brB_dec]
      refine ⟨fun h => absurd h (by omega), fun _ => ?_⟩
      rw [vconv_bytes T_sl_uint8 rfl T_uint8 rfl T_string rfl ho.is, wv_some]
      simp only [be, List.append_nil] at he
      rw [← he]
      exact hQ G' ⟨hch.ro, hch.others, fun j hj => by simp at hj⟩
    | succ i ih =>
      intro bs s F' G' hi hb ho hF hch he
      refine hR _ _ _ _ ?_
      have ei : ((i + 1 : Nat) : Int) - 1 = (i : Int) := by omega
      rw [ei]
      simp -zeta only [vbin_geq, wv_some, brB_dec]
      refine ⟨fun _ => ?_, fun h => absurd (by omega) h⟩
      rw [vconv_int T_int T_uint rfl, wv_some, u64_in (by omega) (by omega), vbin_mul, wv_some, u64_in (by omega) (by omega), vbin_shr _ _ _ _ _ _ (by omega), wv_some, vconv_int T_uint64 T_uint8 rfl, wv_some, shr_byte v i (by omega), ← u8v_ofNat]
      refine append1 (T := T) (ts := t_sl_uint8) (e := t_uint8) (si := ti_sl_uint8) (ie := ti_uint8) T_sl_uint8 rfl T_uint8 rfl (by decide) ho rfl rfl (by decide) ?_ fun s' G2 ho2 hk2 => ?_
      · simp only [List.length_map, ti_uint8]
        omega
      · simp -zeta only [vbin_sub, wv_some]
        rw [i64_in (by omega) (by omega)]
        refine ih (bs ++ [UInt8.ofNat (v / 2 ^ (8 * i))]) s' _ G2 (by omega) (by simp; omega) (by rw [List.map_append]; exact ho2) rfl (hch.trans ⟨hk2.ro, fun j o hj hn => hk2.others j o hj fun e => hn (by rw [hF, e]; simp), fun j hj => ?_⟩) (by rw [he, be]; simp)
        rcases hk2.row j (by simpa using hj) with h | h
        · exact .inl (by rw [hF, h]; simp)
        · exact .inr h
  exact loop k [] .nilSlice [] G (Nat.le_refl _) (by simpa using hk) (.inl ⟨rfl, rfl⟩) rfl (Ch.refl _ _) rfl

theorem escrowref03_New.use {G : Heap} {Q : AVal → Heap → Prop} (h : ∀ id G', Wr id ([], 0) G' [id] → Ch [] G [id] G' → Q (.ptr id [] 0) G') : ACalls P escrowref03_New.n [] G Q := by
  refine escrowref03_New.sound ?_
  unfold escrowref03_New.S
  intro id hf
  exact h _ _ ⟨.nilSlice, Heap.upd_self _ _ _, .inl ⟨rfl, rfl⟩, by simp [rowOf], rfl⟩ (Ch.new hf)

theorem escrowref03_Writer_lay.use {id : AId} {st : List UInt8 × Int} {xs : List UInt8} {G : Heap} {F : List AId} {Q : AVal → Heap → Prop} (h : Wr id st G F) (hb : st.1.length + xs.length ≤ 140737488355328)
    (hQ : ∀ F' G', Wr id (laid st xs) G' F' → Ch F G F' G' → Q (.tuple []) G') : ACalls P escrowref03_Writer_lay.n [.ptr id [] 0, .str xs] G Q := by
  refine escrowref03_Writer_lay.sound ?_
  unfold escrowref03_Writer_lay.S
  obtain ⟨bs, f⟩ := st
  have hf := WrP.fault h
  show wv (vload T G t_api_Errno (.ptr id [1] 1)) _
  rw [hf]
  simp -zeta only [wv_some, vbin_eql, brB_dec]
  refine ⟨fun h0 => ?_, fun h0 => ?_⟩
  · obtain ⟨s, hl, hstep⟩ := raw_step h hb
    show wv (vload T G t_sl_uint8 (.ptr id [0] 0)) _
    rw [hl, wv_some]
    refine hstep _ fun F' G' hw hch => hQ F' G' ?_ hch
    simpa [laid, h0, Wr] using hw
  · refine hQ F G ?_ (Ch.refl _ _)
    simpa [laid, h0, Wr] using h

section
variable {id : AId} {st : List UInt8 × Int} {G : Heap} {F : List AId} {Q : AVal → Heap → Prop}

theorem escrowref03_Writer_Raw.use {xs : List UInt8} (h : Wr id st G F) (hb : st.1.length + xs.length ≤ 140737488355328)
    (hQ : ∀ F' G', Wr id (laid st xs) G' F' → Ch F G F' G' → Q (.tuple []) G') : ACalls P escrowref03_Writer_Raw.n [.ptr id [] 0, .str xs] G Q :=
  escrowref03_Writer_Raw.sound (escrowref03_Writer_lay.use h hb hQ)

theorem ref_number {v k : Nat} (hk : k ≤ 8) (h : Wr id st G F) (hb : st.1.length + 8 ≤ 140737488355328) (hQ : ∀ F' G', Wr id (laid st (be k v)) G' F' → Ch F G F' G' → Q (.tuple []) G') :
    ACalls P escrowref03_Bytes.n [.int .u64 v, .int .i64 k] G fun v2 G3 => ACalls P escrowref03_Writer_lay.n [.ptr id [] 0, v2] G3 fun v4 G5 => Q (.tuple []) G5 := by
  refine escrowref03_Bytes.use hk fun G1 hc1 => ?_
  exact escrowref03_Writer_lay.use (h.ch hc1 (by simp)) (by rw [length_be]; omega) fun F' G' hw hc => hQ F' G' hw (hc1.grow.trans hc)

theorem escrowref03_Writer_U8.use {v : Nat} (hv : v < 2 ^ 8) (h : Wr id st G F) (hb : st.1.length + 8 ≤ 140737488355328) (hQ : ∀ F' G', Wr id (laid st (be 1 v)) G' F' → Ch F G F' G' → Q (.tuple []) G') :
    ACalls P escrowref03_Writer_U8.n [.ptr id [] 0, .int .u8 v] G Q := by
  refine escrowref03_Writer_U8.sound ?_
  unfold escrowref03_Writer_U8.S
  rw [vconv_int T_uint8 T_uint64 rfl, wv_some, u64_in (by omega) (by omega)]
  exact ref_number (k := 1) (by omega) h hb hQ

theorem escrowref03_Writer_U16.use {v : Nat} (hv : v < 2 ^ 16) (h : Wr id st G F) (hb : st.1.length + 8 ≤ 140737488355328) (hQ : ∀ F' G', Wr id (laid st (be 2 v)) G' F' → Ch F G F' G' → Q (.tuple []) G') :
    ACalls P escrowref03_Writer_U16.n [.ptr id [] 0, .int .u16 v] G Q := by
  refine escrowref03_Writer_U16.sound ?_
  unfold escrowref03_Writer_U16.S
  rw [vconv_int T_uint16 T_uint64 rfl, wv_some, u64_in (by omega) (by omega)]
  exact ref_number (k := 2) (by omega) h hb hQ

theorem escrowref03_Writer_U32.use {v : Nat} (hv : v < 2 ^ 32) (h : Wr id st G F) (hb : st.1.length + 8 ≤ 140737488355328) (hQ : ∀ F' G', Wr id (laid st (be 4 v)) G' F' → Ch F G F' G' → Q (.tuple []) G') :
    ACalls P escrowref03_Writer_U32.n [.ptr id [] 0, .int .u32 v] G Q := by
  refine escrowref03_Writer_U32.sound ?_
  unfold escrowref03_Writer_U32.S
  rw [vconv_int T_uint32 T_uint64 rfl, wv_some, u64_in (by omega) (by omega)]
  exact ref_number (k := 4) (by omega) h hb hQ

theorem escrowref03_Writer_U64.use {v : Nat} (h : Wr id st G F) (hb : st.1.length + 8 ≤ 140737488355328) (hQ : ∀ F' G', Wr id (laid st (be 8 v)) G' F' → Ch F G F' G' → Q (.tuple []) G') :
    ACalls P escrowref03_Writer_U64.n [.ptr id [] 0, .int .u64 v] G Q := escrowref03_Writer_U64.sound (ref_number (k := 8) (by omega) h hb hQ)

theorem escrowref03_Writer_I64.use {v : Int} (h : Wr id st G F) (hb : st.1.length + 8 ≤ 140737488355328) (hQ : ∀ F' G', Wr id (laid st (be 8 (bits64 v))) G' F' → Ch F G F' G' → Q (.tuple []) G') :
    ACalls P escrowref03_Writer_I64.n [.ptr id [] 0, .int .i64 v] G Q := by
  refine escrowref03_Writer_I64.sound ?_
  unfold escrowref03_Writer_I64.S
  rw [vconv_int T_int64 T_uint64 rfl, wv_some, wrap_bits64]
  exact ref_number (k := 8) (by omega) h hb hQ

theorem laid_nil (st : List UInt8 × Int) : laid st [] = st := by
  obtain ⟨a, b⟩ := st
  by_cases h : b = 0 <;> simp [laid, h]

theorem be1 (b : UInt8) : be 1 b.toNat = [b] := by simp [be]

theorem escrowref03_Writer_Hash.use {hs : List UInt8} (hl : hs.length = 32) (h : Wr id st G F) (hb : st.1.length + 64 ≤ 140737488355328) (hQ : ∀ F' G', Wr id (laid st hs) G' F' → Ch F G F' G' → Q (.tuple []) G') :
    ACalls P escrowref03_Writer_Hash.n [.ptr id [] 0, .agg (hs.map u8v)] G Q := by
  refine escrowref03_Writer_Hash.sound ?_
  unfold escrowref03_Writer_Hash.S
  intro i hf R hR
  have hch : Ch [] G [i] (G.upd i (.own (.agg (hs.map u8v)))) := Ch.new hf
  have hiF : i ∉ F := fun hm => by
    have := WrP.rows h i hm
    rw [hf.none] at this; cases this
  have loop : ∀ (m j : Nat) (st' : List UInt8 × Int) (F' : List AId) (G' : Heap), 32 - j = m → j ≤ 32 → st' = laid st (hs.take j) → Wr id st' G' F' → i ∉ F' → G' i = some (.own (.agg (hs.map u8v))) → Ch (F ++ [i]) (G.upd i (.own (.agg (hs.map u8v)))) (F' ++ [i]) G' →
      R [.ptr id [] 0, .ptr i [] 0, .int .i64 j] G' := by
    intro m
    induction m with
    | zero =>
      intro j st' F' G' hm hj hst hw hni hgi hc
      have : j = 32 := by omega
      subst this
      refine hR _ _ _ _ ?_
      simp -zeta only [vbin_lss, wv_some, brB_dec]
      refine ⟨fun h => absurd h (by decide), fun _ => ?_⟩
      rw [List.take_of_length_le (by omega)] at hst
      subst hst
      refine hQ F' G' hw ⟨(RoLe.of_le (hf.le _)).trans hc.ro, fun j o hj hn => hc.others j o (hf.le _ _ _ hj) fun hm => ?_, fun j hj => ?_⟩
      · rcases List.mem_append.1 hm with hm | hm
        · exact hn hm
        · simp at hm
          subst hm
          rw [hf.none] at hj; cases hj
      · rcases hc.row j (by simp [hj]) with h' | h'
        · rcases List.mem_append.1 h' with h' | h'
          · exact .inl h'
          · simp at h'
            subst h'
            exact absurd hj hni
        · refine .inr ?_
          by_cases e : j = i
          · rw [e]; exact hf.none
          · rw [Heap.upd_ne _ _ e] at h'; exact h'
    | succ m ih =>
      intro j st' F' G' hm hj hst hw hni hgi hc
      refine hR _ _ _ _ ?_
      simp -zeta only [vbin_lss, wv_some, brB_dec]
      refine ⟨fun _ => ?_, fun h => absurd (by omega) h⟩
      have hjl : j < hs.length := by omega
      have haddr : viaddr T t_api_Hash (.ptr i [] 0) (.int .i64 j) = some (.ptr i [j] (j * 1)) := by
        have e1 : T t_api_Hash = some ti_api_Hash := T_api_Hash
        have e2 : ti_api_Hash.desc = .array 32 t_uint8 := rfl
        simp only [viaddr, e1, e2, T_uint8]
        rw [if_pos ⟨by omega, by omega⟩]
        simp [ti_uint8]
      rw [haddr, wv_some, vload_fld hgi rfl (by rw [szs_uni (n := 1) (uni_take (uni_u8 hs) j)]; simp; omega) (c := u8v hs[j]) (by simp [hjl]) T_uint8 rfl, wv_some]
      show wv (vconv T G' t_uint8 t_uint64 (.int .u8 hs[j].toNat)) _
      have hlt : hs[j].toNat < 256 := hs[j].toNat_lt
      rw [vconv_int T_uint8 T_uint64 rfl, wv_some, u64_in (by omega) (by omega)]
      refine escrowref03_Bytes.use (k := 1) (by omega) fun G1 hc1 => ?_
      rw [be1]
      have hlen' : st'.1.length ≤ st.1.length + 32 := by
        have := length_laid st (hs.take j)
        rw [← hst, List.length_take] at this
        omega
      refine escrowref03_Writer_lay.use (hw.ch hc1 (by simp)) (by simp; omega) fun F2 G2 hw2 hc2 => ?_
      simp -zeta only [vbin_add, wv_some]
      rw [i64_in (by omega) (by omega)]
      have hg1 : G1 i = some (.own (.agg (hs.map u8v))) := hc1.others _ _ hgi (by simp)
      have hni2 : i ∉ F2 := hc2.apart (E := [i]) (by simp [hg1]) (by simpa using hni) i (by simp)
      refine ih (j + 1) (laid st' [hs[j]]) F2 G2 (by omega) (by omega) ?_ hw2 hni2 (hc2.others _ _ hg1 hni) ((hc.trans (hc1.grow)).trans hc2.more)
      rw [hst, laid_append, List.take_succ_eq_append_getElem hjl]
  exact loop 32 0 st F _ rfl (by omega) (by rw [List.take_zero, laid_nil]) (h.ch hch (by simp)) hiF (Heap.upd_self _ _ _) (Ch.refl _ _)

theorem escrowref03_Writer_Text.use {xs : List UInt8} (h : Wr id st G F) (hb : st.1.length + 8 + xs.length ≤ 140737488355328) (hQ : ∀ F' G', Wr id (laidText st xs) G' F' → Ch F G F' G' → Q (.tuple []) G') :
    ACalls P escrowref03_Writer_Text.n [.ptr id [] 0, .str xs] G Q := by
  refine escrowref03_Writer_Text.sound ?_
  unfold escrowref03_Writer_Text.S
  have hlen : vlen T G t_string (.str xs) = some (.int .i64 xs.length) := rfl
  simp -zeta only [wv_some, hlen, vbin_gtr, brB_dec]
  refine ⟨fun hl => ?_, fun hl => ?_⟩
  · have hf := WrP.fault h
    show wv (vload T G t_api_Errno (.ptr id [1] 1)) _
    rw [hf]
    simp -zeta only [wv_some, vbin_eql, brB_dec]
    refine ⟨fun h0 => ?_, fun h0 => ?_⟩
    · obtain ⟨G1, hst, hw, hc⟩ := WrP.setFault (g := 3) h
      show wg (vstore T G t_api_Errno (.ptr id [1] 1) (.int .i64 3)) _
      rw [hst, wg_some]
      refine hQ F G1 ?_ hc
      have : 65535 < xs.length := by omega
      simpa [laidText, h0, this, Wr] using hw
    · refine hQ F G ?_ (Ch.refl _ _)
      simpa [laidText, h0, laid] using h
  · rw [vconv_int T_int T_uint64 rfl, wv_some, u64_in (by omega) (by omega)]
    refine escrowref03_Bytes.use (k := 2) (by omega) fun G1 hc1 => ?_
    refine escrowref03_Writer_lay.use (h.ch hc1 (by simp)) (by rw [length_be]; omega) fun F2 G2 hw2 hc2 => ?_
    refine escrowref03_Writer_lay.use hw2 ?_ fun F3 G3 hw3 hc3 => hQ F3 G3 ?_ ((hc1.grow.trans hc2).trans hc3)
    · have := length_laid st (be 2 xs.length)
      rw [length_be] at this
      omega
    · rw [laid_append] at hw3
      have : ¬ 65535 < xs.length := by omega
      simpa [laidText, this] using hw3

theorem escrowref03_Writer_Out.use (h : Wr id st G F) (hQ : Q (.tuple [.str (if st.2 = 0 then st.1 else []), .int .i64 st.2]) G) : ACalls P escrowref03_Writer_Out.n [.ptr id [] 0] G Q := by
  refine escrowref03_Writer_Out.sound ?_
  unfold escrowref03_Writer_Out.S
  have hf := WrP.fault h
  show wv (vload T G t_api_Errno (.ptr id [1] 1)) _
  rw [hf]
  simp -zeta only [wv_some, vbin_neq, brB_ndec]
  refine ⟨fun h0 => ?_, fun h0 => ?_⟩
  · show wv (vload T G t_api_Errno (.ptr id [1] 1)) _
    rw [hf, wv_some]
    simpa [h0] using hQ
  · obtain ⟨s, hl, _, ho, _⟩ := WrP.load h
    show wv (vload T G t_sl_uint8 (.ptr id [0] 0)) _
    rw [hl, wv_some, vconv_bytes T_sl_uint8 rfl T_uint8 rfl T_string rfl ho.is, wv_some]
    simpa [h0] using hQ

theorem escrowref03_Writer_Len.use (h : Wr id st G F) (hQ : Q (.int .i64 (if st.2 = 0 then st.1.length else 0 : Nat)) G) : ACalls P escrowref03_Writer_Len.n [.ptr id [] 0] G Q := by
  refine escrowref03_Writer_Len.sound ?_
  unfold escrowref03_Writer_Len.S
  have hf := WrP.fault h
  show wv (vload T G t_api_Errno (.ptr id [1] 1)) _
  rw [hf]
  simp -zeta only [wv_some, vbin_neq, brB_ndec]
  refine ⟨fun h0 => ?_, fun h0 => ?_⟩
  · simpa [h0] using hQ
  · obtain ⟨s, hl, _, ho, _⟩ := WrP.load h
    show wv (vload T G t_sl_uint8 (.ptr id [0] 0)) _
    rw [hl, wv_some, ho.is.len (i := ti_sl_uint8) T_sl_uint8 rfl, wv_some]
    simpa [h0] using hQ

end
end Go.Esc.M
