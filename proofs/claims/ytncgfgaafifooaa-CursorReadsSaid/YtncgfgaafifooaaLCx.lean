/- Own work. Chapter 3: the document's readers; hashes read. -/
import Derived.Test.YtncgfgaafifooaaLBe
import Derived.Test.YtncgfgaafifooaaLSp
set_option linter.unusedSimpArgs false
set_option linter.unusedVariables false
namespace Go.Esc.M
open Go Go.Esc

/-- A reader of the program's. -/
def RdL (id : AId) (st : List UInt8 × Int) : LP where
  p := fun G F => Rd id st G ∧ F = [id]
  rows := by rintro G F ⟨h, rfl⟩ j hj; simp at hj; subst hj; exact h.row
  loc := by rintro G G' F ⟨h, rfl⟩ hs; exact ⟨by unfold Rd at h ⊢; rw [hs id (by simp)]; exact h, rfl⟩

/-- A reader of the document's: what is left stays where it is broken. -/
def RdR (id : AId) (st : List UInt8 × Int) (G : Heap) : Prop := ∃ l, G id = some (.own (.agg [.str l, .int .i64 st.2])) ∧ (st.2 = 0 → l = st.1) ∧ (st.2 ≠ 0 → st.1 = [])
def RdRL (id : AId) (st : List UInt8 × Int) : LP where
  p := fun G F => RdR id st G ∧ F = [id]
  rows := by rintro G F ⟨⟨l, h, _⟩, rfl⟩ j hj; simp at hj; subst hj; rw [h]; rfl
  loc := by rintro G G' F ⟨⟨l, h, h'⟩, rfl⟩ hs; exact ⟨⟨l, by rw [hs id (by simp)]; exact h, h'⟩, rfl⟩

section
variable {id : AId} {st : List UInt8 × Int} {G : Heap} {Q : AVal → Heap → Prop}

theorem RdR.fault (h : RdR id st G) : vload T G t_api_Errno (.ptr id [1] 1) = some (.int .i64 st.2) := h.elim fun _ h => vload_fld h.1 rfl rfl rfl T_api_Errno rfl
theorem RdR.rest (h : RdR id st G) (h0 : st.2 = 0) : vload T G t_string (.ptr id [0] 0) = some (.str st.1) := h.elim fun l h => by rw [← h.2.1 h0]; exact vload_fld h.1 rfl rfl rfl T_string rfl
theorem RdR.ch {G' : Heap} {E E' : List AId} (h : RdR id st G) (hc : Ch E G E' G') (hd : id ∉ E) : RdR id st G' := h.elim fun l h => ⟨l, hc.others _ _ h.1 hd, h.2⟩
theorem RdR.row (h : RdR id st G) : (G id).isSome = true := h.elim fun l h => by rw [h.1]; rfl

/-- Broken by this fault, if it wasn't. -/
def brk (st : List UInt8 × Int) (e : Int) : List UInt8 × Int := if st.2 = 0 then ([], e) else st

theorem escrowref03_Open.use {b : List UInt8} (h : ∀ id G', RdR id (b, 0) G' → Ch [] G [id] G' → Q (.ptr id [] 0) G') : ACalls P escrowref03_Open.n [.str b] G Q := by
  refine escrowref03_Open.sound ?_
  unfold escrowref03_Open.S
  intro id hf
  exact h _ _ ⟨b, Heap.upd_self _ _ _, fun _ => rfl, fun h => absurd rfl h⟩ (Ch.new hf)

theorem escrowref03_Reader_breaks.use {f : Int} (hf : f ≠ 0) (h : RdR id st G) (hQ : ∀ G', RdR id (brk st f) G' → Ch [id] G [id] G' → Q (.tuple []) G') : ACalls P escrowref03_Reader_breaks.n [.ptr id [] 0, .int .i64 f] G Q := by
  refine escrowref03_Reader_breaks.sound ?_
  unfold escrowref03_Reader_breaks.S
  show wv (vload T G t_api_Errno (.ptr id [1] 1)) _
  rw [h.fault]
  simp -zeta only [wv_some, vbin_eql, brB_dec]
  refine ⟨fun h0 => ?_, fun h0 => ?_⟩
  · obtain ⟨l, hg, _⟩ := h
    have e := vstore_fld (T := T) (f := 1) (o := 1) (c := .int .i64 f) (u := .int .i64 st.2) hg rfl rfl T_api_Errno rfl rfl rfl
    show wg (vstore T G t_api_Errno (.ptr id [1] 1) (.int .i64 f)) _
    rw [e, wg_some]
    have eb : brk st f = ([], f) := by simp [brk, h0]
    rw [eb] at hQ
    exact hQ _ ⟨l, Heap.upd_self _ _ _, fun e => absurd e hf, fun _ => rfl⟩ (ch_upd hg (by simp))
  · have := hQ G (by simpa [brk, h0] using h) (Ch.refl _ _)
    exact this

theorem escrowref03_Reader_take.use {n : Int} (hn : st.2 = 0 → 0 ≤ n) (h : RdR id st G) (hQ : ∀ b G', RdR id (takes st n).2 G' → Ch [id] G [id] G' → Q (.tuple [.str (takes st n).1, .bool b]) G') :
    ACalls P escrowref03_Reader_take.n [.ptr id [] 0, .int .i64 n] G Q := by
  refine escrowref03_Reader_take.sound ?_
  unfold escrowref03_Reader_take.S
  show wv (vload T G t_api_Errno (.ptr id [1] 1)) _
  rw [h.fault]
  simp -zeta only [wv_some, vbin_neq, brB_ndec]
  refine ⟨fun h0 => ?_, fun h0 => ?_⟩
  · have := hQ false G (by simpa [takes, h0] using h) (Ch.refl _ _)
    simpa [takes, h0] using this
  · have hn := hn h0
    show wv (vload T G t_string (.ptr id [0] 0)) _
    rw [h.rest h0, wv_some]
    show wv (some (.int .i64 st.1.length)) _
    simp -zeta only [wv_some, vbin_gtr, brB_dec]
    refine ⟨fun hl => ?_, fun hl => ?_⟩
    · refine escrowref03_Reader_breaks.use (by decide) h fun G' hr hc => ?_
      have := hQ false G' (by simpa [takes, h0, hl, brk] using hr) hc
      simpa [takes, h0, hl] using this
    · show wv (vload T G t_string (.ptr id [0] 0)) _
      rw [h.rest h0, wv_some, str_take hn (by omega), wv_some]
      show wv (vload T G t_string (.ptr id [0] 0)) _
      rw [h.rest h0, wv_some, str_drop hn (by omega), wv_some]
      obtain ⟨l, hg, _⟩ := h
      have es := vstore_fld (T := T) (f := 0) (o := 0) (c := .str (st.1.drop n.toNat)) (u := .str l) hg rfl rfl T_string rfl rfl rfl
      show wg (vstore T G t_string (.ptr id [0] 0) (.str (st.1.drop n.toNat))) _
      rw [es, wg_some]
      have e : takes st n = (st.1.take n.toNat, (st.1.drop n.toNat, 0)) := by simp [takes, h0, hl]
      rw [e] at hQ
      refine hQ true _ ⟨st.1.drop n.toNat, ?_, fun _ => rfl, fun hh => absurd rfl hh⟩ (ch_upd hg (by simp))
      rw [Heap.upd_self, h0]
      rfl

theorem escrowref03_Number.use {s : List UInt8} (hs : s.length ≤ 8) (hQ : Q (.int .u64 (num s)) G) : ACalls P escrowref03_Number.n [.str s] G Q := by
  refine escrowref03_Number.sound ?_
  unfold escrowref03_Number.S
  intro R hR
  have loop : ∀ (rest : List UInt8) (v j : Nat), s.drop j = rest → j ≤ s.length → v < 256 ^ j → numA v rest = num s → R [.str s, .int .u64 v, .int .i64 j] G := by
    intro rest
    induction rest with
    | nil =>
      intro v j hd hj hv he
      have := List.drop_eq_nil_iff.1 hd
      refine hR _ _ _ _ ?_
      show wv (some (.int .i64 s.length)) _
      simp -zeta only [vbin_lss, wv_some, brB_dec]
      refine ⟨fun h => absurd h (by omega), fun _ => ?_⟩
      simp only [numA] at he
      rw [he]
      exact hQ
    | cons b rest ih =>
      intro v j hd hj hv he
      have hjl : j < s.length := by
        rcases Nat.lt_or_ge j s.length with h | h
        · exact h
        · rw [List.drop_eq_nil_iff.2 h] at hd; cases hd
      have hb : s[j] = b := by
        have := List.drop_eq_getElem_cons hjl
        rw [hd] at this
        injection this with h1 h2
        exact h1.symm
      have hv7 : v < 256 ^ 7 := Nat.lt_of_lt_of_le hv (Nat.pow_le_pow_right (by omega) (by omega))
      have hblt : b.toNat < 256 := b.toNat_lt
      refine hR _ _ _ _ ?_
      show wv (some (.int .i64 s.length)) _
      simp -zeta only [vbin_lss, wv_some, brB_dec]
      refine ⟨fun _ => ?_, fun h => absurd (by omega) h⟩
      rw [vbin_mul, wv_some, u64_in (by omega) (by omega), vindex_str hjl, wv_some, hb, vconv_int T_uint8 T_uint64 rfl, wv_some, u64_in (n := (b.toNat : Int)) (by omega) (by omega), vbin_add, wv_some, u64_in (by omega) (by omega)]
      simp -zeta only [vbin_add, wv_some]
      rw [i64_in (by omega) (by omega)]
      have e : ((v : Int) * 256 + b.toNat) = ((v * 256 + b.toNat : Nat) : Int) := by omega
      rw [e]
      refine ih (v * 256 + b.toNat) (j + 1) (by rw [← List.drop_drop, hd]; rfl) (by omega) ?_ he
      rw [Nat.pow_succ]
      omega
  exact loop s 0 0 rfl (by omega) (by simp) rfl

theorem escrowref03_Reader_number.use {n : Int} (h0 : 0 ≤ n) (h8 : n ≤ 8) (h : RdR id st G) (hQ : ∀ G', RdR id (takes st n).2 G' → Ch [id] G [id] G' → Q (.int .u64 (num (takes st n).1)) G') :
    ACalls P escrowref03_Reader_number.n [.ptr id [] 0, .int .i64 n] G Q := by
  refine escrowref03_Reader_number.sound ?_
  unfold escrowref03_Reader_number.S
  refine escrowref03_Reader_take.use (fun _ => h0) h fun b G1 h1 c1 => ?_
  simp -zeta only [vext0, vext1, wv_some]
  have := length_takes st (n := n)
  exact escrowref03_Number.use (by omega) (hQ G1 h1 c1)

theorem escrowref03_Reader_U8.use (h : RdR id st G) (hQ : ∀ G', RdR id (takes st 1).2 G' → Ch [id] G [id] G' → Q (.int .u8 (num (takes st 1).1 : Nat)) G') : ACalls P escrowref03_Reader_U8.n [.ptr id [] 0] G Q := by
  refine escrowref03_Reader_U8.sound ?_
  unfold escrowref03_Reader_U8.S
  refine escrowref03_Reader_number.use (by omega) (by omega) h fun G1 h1 c1 => ?_
  have hl : (takes st 1).1.length ≤ 1 := length_takes st
  have := num_lt_of hl
  rw [vconv_int T_uint64 T_uint8 rfl, wv_some, wrapU8, Int.emod_eq_of_lt (by omega) (by omega)]
  exact hQ G1 h1 c1
theorem escrowref03_Reader_U16.use (h : RdR id st G) (hQ : ∀ G', RdR id (takes st 2).2 G' → Ch [id] G [id] G' → Q (.int .u16 (num (takes st 2).1 : Nat)) G') : ACalls P escrowref03_Reader_U16.n [.ptr id [] 0] G Q := by
  refine escrowref03_Reader_U16.sound ?_
  unfold escrowref03_Reader_U16.S
  refine escrowref03_Reader_number.use (by omega) (by omega) h fun G1 h1 c1 => ?_
  have hl : (takes st 2).1.length ≤ 2 := length_takes st
  have := num_lt_of hl
  rw [vconv_int T_uint64 T_uint16 rfl, wv_some, wrapU16, Int.emod_eq_of_lt (by omega) (by omega)]
  exact hQ G1 h1 c1
theorem escrowref03_Reader_U32.use (h : RdR id st G) (hQ : ∀ G', RdR id (takes st 4).2 G' → Ch [id] G [id] G' → Q (.int .u32 (num (takes st 4).1 : Nat)) G') : ACalls P escrowref03_Reader_U32.n [.ptr id [] 0] G Q := by
  refine escrowref03_Reader_U32.sound ?_
  unfold escrowref03_Reader_U32.S
  refine escrowref03_Reader_number.use (by omega) (by omega) h fun G1 h1 c1 => ?_
  have hl : (takes st 4).1.length ≤ 4 := length_takes st
  have := num_lt_of hl
  rw [vconv_int T_uint64 T_uint32 rfl, wv_some, wrapU32, Int.emod_eq_of_lt (by omega) (by omega)]
  exact hQ G1 h1 c1
theorem escrowref03_Reader_U64.use (h : RdR id st G) (hQ : ∀ G', RdR id (takes st 8).2 G' → Ch [id] G [id] G' → Q (.int .u64 (num (takes st 8).1 : Nat)) G') : ACalls P escrowref03_Reader_U64.n [.ptr id [] 0] G Q :=
  escrowref03_Reader_U64.sound (escrowref03_Reader_number.use (by omega) (by omega) h hQ)
theorem escrowref03_Reader_I64.use (h : RdR id st G) (hQ : ∀ G', RdR id (takes st 8).2 G' → Ch [id] G [id] G' → Q (.int .i64 (IntKind.i64.wrap (num (takes st 8).1 : Nat))) G') : ACalls P escrowref03_Reader_I64.n [.ptr id [] 0] G Q := by
  refine escrowref03_Reader_I64.sound ?_
  unfold escrowref03_Reader_I64.S
  refine escrowref03_Reader_number.use (by omega) (by omega) h fun G1 h1 c1 => ?_
  rw [vconv_int T_uint64 T_int64 rfl, wv_some]
  exact hQ G1 h1 c1

theorem escrowref03_Reader_Err.use (h : RdR id st G) (hQ : Q (.int .i64 st.2) G) : ACalls P escrowref03_Reader_Err.n [.ptr id [] 0] G Q := by
  refine escrowref03_Reader_Err.sound ?_
  unfold escrowref03_Reader_Err.S
  show wv (vload T G t_api_Errno (.ptr id [1] 1)) _
  rw [h.fault]
  exact hQ
theorem escrowref03_Reader_Rest.use (h : RdR id st G) (hQ : Q (.str st.1) G) : ACalls P escrowref03_Reader_Rest.n [.ptr id [] 0] G Q := by
  refine escrowref03_Reader_Rest.sound ?_
  unfold escrowref03_Reader_Rest.S
  show wv (vload T G t_api_Errno (.ptr id [1] 1)) _
  rw [h.fault]
  simp -zeta only [wv_some, vbin_neq, brB_ndec]
  refine ⟨fun h0 => ?_, fun h0 => ?_⟩
  · obtain ⟨l, _, _, h2⟩ := h
    rwa [h2 h0] at hQ
  · show wv (vload T G t_string (.ptr id [0] 0)) _
    rw [h.rest h0]
    exact hQ
theorem escrowref03_Reader_Done.use (h : RdR id st G) (hQ : Q (.int .i64 (dones st)) G) : ACalls P escrowref03_Reader_Done.n [.ptr id [] 0] G Q := by
  refine escrowref03_Reader_Done.sound ?_
  unfold escrowref03_Reader_Done.S
  show wv (vload T G t_api_Errno (.ptr id [1] 1)) _
  rw [h.fault]
  simp -zeta only [wv_some, vbin_eql, brB_dec]
  refine ⟨fun h0 => ?_, fun h0 => ?_⟩
  · show wv (vload T G t_string (.ptr id [0] 0)) _
    rw [h.rest h0]
    simp -zeta only [wv_some, vbin_sneq, brB_ndec]
    refine ⟨fun h1 => ?_, fun h1 => ?_⟩
    · simpa [dones, h0, h1] using hQ
    · show wv (vload T G t_api_Errno (.ptr id [1] 1)) _
      rw [h.fault]
      simpa [dones, h0, h1] using hQ
  · show wv (vload T G t_api_Errno (.ptr id [1] 1)) _
    rw [h.fault]
    simpa [dones, h0] using hQ

theorem escrowref03_Reader_Raw.use {n : Int} (h : RdR id st G) (hQ : ∀ G', RdR id (raws st n).2 G' → Ch [id] G [id] G' → Q (.str (raws st n).1) G') : ACalls P escrowref03_Reader_Raw.n [.ptr id [] 0, .int .i64 n] G Q := by
  refine escrowref03_Reader_Raw.sound ?_
  unfold escrowref03_Reader_Raw.S
  simp -zeta only [wv_some, vbin_lss, brB_dec]
  refine ⟨fun hn => ?_, fun hn => ?_⟩
  · refine escrowref03_Reader_breaks.use (by decide) h fun G1 h1 c1 => ?_
    by_cases h0 : st.2 = 0
    · have := hQ G1 (by simpa [raws, h0, hn, brk] using h1) c1
      simpa [raws, h0, hn] using this
    · have := hQ G1 (by simpa [raws, h0, hn, brk, takes] using h1) c1
      simpa [raws, h0, hn, takes] using this
  · refine escrowref03_Reader_take.use (fun _ => by omega) h fun b G2 h2 c2 => ?_
    simp -zeta only [vext0, vext1, wv_some]
    have := hQ G2 (by simpa [raws, hn] using h2) c2
    simpa [raws, hn] using this

theorem takes_short {b : List UInt8} {n : Int} (h : (b.length : Int) < n) : takes (b, 0) n = ([], ([], 2)) := by simp [takes, h]
theorem takes_ok {b : List UInt8} {n : Int} (h : ¬ (b.length : Int) < n) : takes (b, 0) n = (b.take n.toNat, (b.drop n.toNat, 0)) := by simp [takes, h]

theorem escrowref03_Reader_Text.use {most : Int} (hbig : st.1.length ≤ 9223372036854775807) (h : RdR id st G) (hQ : ∀ G', RdR id (texts st most).2 G' → Ch [id] G [id] G' → Q (.str (texts st most).1) G') : ACalls P escrowref03_Reader_Text.n [.ptr id [] 0, .int .i64 most] G Q := by
  refine escrowref03_Reader_Text.sound ?_
  unfold escrowref03_Reader_Text.S
  show wv (vload T G t_api_Errno (.ptr id [1] 1)) _
  rw [h.fault]
  simp -zeta only [wv_some, vbin_neq, brB_ndec]
  refine ⟨fun h0 => ?_, fun h0 => ?_⟩
  · rw [texts_broken h0] at hQ
    exact hQ G h (Ch.refl _ _)
  · obtain ⟨b, f⟩ := st
    simp only at h0
    subst h0
    have hbig : b.length ≤ 9223372036854775807 := hbig
    show wv (vload T G t_string (.ptr id [0] 0)) _
    rw [h.rest rfl, wv_some]
    show wv (some (.int .i64 b.length)) _
    simp -zeta only [wv_some, vbin_lss, brB_dec]
    refine ⟨fun h2 => ?_, fun h2 => ?_⟩
    · rw [texts_short (by omega)] at hQ
      exact escrowref03_Reader_breaks.use (by decide) h fun G1 h1 c1 => hQ G1 h1 c1
    · show wv (vload T G t_string (.ptr id [0] 0)) _
      rw [h.rest rfl, wv_some, str_take (by omega) (by simp only; omega), wv_some]
      have hl : (b.take 2).length ≤ 2 := by simp; omega
      have hlt := num_lt_of hl
      refine escrowref03_Number.use (s := b.take 2) (by omega) ?_
      rw [vconv_int T_uint64 T_int rfl, wv_some, i64_in (by omega) (by omega)]
      rw [texts_two (by omega)] at hQ
      simp -zeta only [wv_some, vbin_gtr, brB_dec]
      refine ⟨fun hm => ?_, fun hm => ?_⟩
      · rw [if_pos hm] at hQ
        exact escrowref03_Reader_breaks.use (by decide) h fun G1 h1 c1 => hQ G1 h1 c1
      · rw [if_neg hm] at hQ
        show wv (vload T G t_string (.ptr id [0] 0)) _
        rw [h.rest rfl, wv_some]
        show wv (some (.int .i64 b.length)) _
        have hbl := RdR.rest h rfl
        simp -zeta only [wv_some, vbin_sub, brB_dec]
        rw [i64_in (by omega) (by omega)]
        simp -zeta only [wv_some, vbin_lss, brB_dec]
        refine ⟨fun hs => ?_, fun hs => ?_⟩
        · rw [takes_short (by simp; omega)] at hQ
          exact escrowref03_Reader_breaks.use (by decide) h fun G1 h1 c1 => hQ G1 h1 c1
        · simp -zeta only [wv_some, vbin_add]
          rw [i64_in (by omega) (by omega)]
          refine escrowref03_Reader_take.use (fun _ => by omega) h fun bb G1 h1 c1 => ?_
          simp -zeta only [vext0, vext1, wv_some]
          rw [takes_ok (by simp; omega)] at h1 ⊢
          rw [str_drop (by omega) (by simp; omega), wv_some]
          rw [takes_ok (by simp; omega)] at hQ
          have e1 : (b.take (2 + ((num (b.take 2) : Nat) : Int)).toNat).drop (Int.toNat 2) = (b.drop 2).take ((num (b.take 2) : Nat) : Int).toNat := by
            rw [List.drop_take]
            congr 1
            simp
            omega
          have e2 : b.drop (2 + ((num (b.take 2) : Nat) : Int)).toNat = (b.drop 2).drop ((num (b.take 2) : Nat) : Int).toNat := by
            rw [List.drop_drop]
            congr 1 <;> omega
          rw [e2] at h1
          simp only at hQ ⊢
          rw [e1]
          exact hQ G1 h1 c1

end

/-- Bytes filled up with zeros. -/
def fill (n : Nat) (s : List UInt8) : List UInt8 := s ++ List.replicate (n - s.length) 0
theorem length_fill {n : Nat} {s : List UInt8} (h : s.length ≤ n) : (fill n s).length = n := by simp [fill]; omega
theorem fill_full {n : Nat} {s : List UInt8} (h : s.length = n) : fill n s = s := by simp [fill, h]
theorem fill_nil (n : Nat) : fill n [] = List.replicate n 0 := by simp [fill]

theorem z_hash : z_api_Hash = .agg ((List.replicate 32 (0 : UInt8)).map u8v) := rfl

theorem putAt_nil (v u : AVal) : putAt [] v u = u := rfl

section
variable {id : AId} {st : List UInt8 × Int} {G : Heap} {Q : AVal → Heap → Prop}

theorem arr_hash {i : AId} {hs : List UInt8} (hg : G i = some (.own (.agg (hs.map u8v)))) : arrAt G 1 i [] 0 0 = some (hs.map u8v) := by
  simp [arrAt, vsub, hg, treeOf, sub, uni_u8]

theorem copy_hash {i : AId} {hs s : List UInt8} {K : AVal → Heap → Prop} (hg : G i = some (.own (.agg (hs.map u8v)))) (hs32 : hs.length = 32) (hl : s.length ≤ 32)
    (hK : ∀ G', G' i = some (.own (.agg ((s ++ hs.drop s.length).map u8v))) → Ch [i] G [i] G' → K (.int .i64 s.length) G') : aCopy T G t_sl_uint8 (.slice i [] 0 0 32 32) (.str s) K := by
  have hse : selems G 1 (.str s) = some (s.map u8v) := by simp [selems, u8v, Function.comp_def]
  have e1 : T t_sl_uint8 = some ti_sl_uint8 := T_sl_uint8
  have e2 : ti_sl_uint8.desc = .slice t_uint8 := rfl
  unfold aCopy
  simp only [e1, e2, T_uint8]
  rw [show ti_uint8.size = 1 from rfl, hse]
  simp only
  rw [List.take_of_length_le (by simpa using hl), List.length_map, Nat.min_eq_left hl]
  unfold lay
  cases s with
  | nil =>
    simp only [List.map_nil]
    exact hK G (by simpa using hg) (Ch.refl _ _)
  | cons b s =>
    simp only [List.map_cons]
    rw [show ti_uint8.size = 1 from rfl, arr_hash hg]
    simp only
    refine ⟨by simp at hl ⊢; omega, by simpa using okvs_u8 (b :: s), by simpa using uni_u8 (b :: s), ?_⟩
    have hp : ∀ cs', putArr G i [] 1 0 0 cs' = some (G.upd i (.own (.agg cs'))) := fun cs' => by simp [putArr, hg, sub, putAt]
    rw [hp]
    refine hK _ ?_ (ch_upd hg (by simp))
    rw [Heap.upd_self]
    simp

theorem vslice_hash {i : AId} : vslice T t_api_Hash (.ptr i [] 0) none none none = some (.slice i [] 0 0 32 32) := by
  have e1 : T t_api_Hash = some ti_api_Hash := T_api_Hash
  have e2 : ti_api_Hash.desc = .array 32 t_uint8 := rfl
  simp [vslice, e1, e2, T_uint8, sbounds, sbound]

theorem load_hash {i : AId} {hs : List UInt8} (hl : hs.length = 32) (hg : G i = some (.own (.agg (hs.map u8v)))) : vload T G t_api_Hash (.ptr i [] 0) = some (.agg (hs.map u8v)) := by
  have h1 : szs (hs.map u8v) = 32 := by rw [szs_uni (n := 1) (uni_u8 hs)]; simp [hl]
  simp [vload, vsub, hg, treeOf, sub, T_api_Hash, ti_api_Hash, vfits, sz, h1, AVal.isAgg, ADesc.isAgg]

theorem store_hash {i : AId} {hs hs' : List UInt8} (hl : hs.length = 32) (hl' : hs'.length = 32) (hg : G i = some (.own (.agg (hs.map u8v)))) : vstore T G t_api_Hash (.ptr i [] 0) (.agg (hs'.map u8v)) = some (G.upd i (.own (.agg (hs'.map u8v)))) := by
  have h1 : szs (hs.map u8v) = 32 := by rw [szs_uni (n := 1) (uni_u8 hs)]; simp [hl]
  have h2 : szs (hs'.map u8v) = 32 := by rw [szs_uni (n := 1) (uni_u8 hs')]; simp [hl']
  simp [vstore, hg, sub, T_api_Hash, ti_api_Hash, vfits, sz, h1, h2, AVal.isAgg, ADesc.isAgg, okv, okvs_u8, putAt]

theorem takes_len32 (st : List UInt8 × Int) : (takes st 32).1.length ≤ 32 := length_takes st

theorem cursor_Reader_Hash.use (h : Rd id st G) (hQ : ∀ G', Rd id (takes st 32).2 G' → Ch [id] G [id] G' → Q (.agg ((fill 32 (takes st 32).1).map u8v)) G') : ACalls P cursor_Reader_Hash.n [.ptr id [] 0] G Q := by
  refine cursor_Reader_Hash.sound ?_
  unfold cursor_Reader_Hash.S
  rw [z_hash]
  have hl := takes_len32 st
  have s0 : Sp [id] G [RdL id st] G := Sp.one ⟨h, rfl⟩
  intro i1 f1
  have s1 := s0.row f1 (.agg ((List.replicate 32 (0 : UInt8)).map u8v))
  intro i3 f3
  have s2 := s1.row f3 (.agg ((List.replicate 32 (0 : UInt8)).map u8v))
  rw [vslice_hash, wv_some]
  refine s2.call (i := 2) rfl (RdL id (takes st 32).2) fun F h k => ?_
  obtain ⟨h, rfl⟩ := h
  refine cursor_Reader_take.use (fun _ => by omega) h fun G3 h3 c3 => ?_
  have s3 := k _ _ ⟨h3, rfl⟩ c3
  refine s3.call (i := 0) rfl (RowL i3 (.agg ((fill 32 (takes st 32).1).map u8v))) fun F h k => ?_
  obtain ⟨h, rfl⟩ := h
  refine copy_hash h (by simp) hl fun G4 h4 c4 => ?_
  have e4 : (takes st 32).1 ++ (List.replicate 32 (0 : UInt8)).drop (takes st 32).1.length = fill 32 (takes st 32).1 := by rw [List.drop_replicate]; rfl
  rw [e4] at h4
  have s4 := k _ _ ⟨h4, rfl⟩ c4
  rw [load_hash (length_fill hl) h4, wv_some]
  refine s4.call (i := 1) rfl (RowL i1 (.agg ((fill 32 (takes st 32).1).map u8v))) fun F h k => ?_
  obtain ⟨h, rfl⟩ := h
  rw [store_hash (by simp) (length_fill hl) h, wg_some]
  have s5 := k _ _ ⟨Heap.upd_self _ _ _, rfl⟩ (ch_upd h (by simp))
  rw [load_hash (length_fill hl) (Heap.upd_self _ _ _), wv_some]
  obtain ⟨F, ⟨h6, rfl⟩, c6⟩ := ((s5.erase 0).erase 0).out
  exact hQ _ h6 c6

theorem addr_hash {i : AId} {j : Nat} (h : j < 32) : viaddr T t_api_Hash (.ptr i [] 0) (.int .i64 j) = some (.ptr i [j] (j * 1)) := by
  have e1 : T t_api_Hash = some ti_api_Hash := T_api_Hash
  have e2 : ti_api_Hash.desc = .array 32 t_uint8 := rfl
  simp only [viaddr, e1, e2, T_uint8]
  rw [if_pos ⟨by omega, by omega⟩]
  simp [ti_uint8]

theorem store_byte {i : AId} {hs : List UInt8} {j : Nat} (hj : j < hs.length) {b : UInt8} (hg : G i = some (.own (.agg (hs.map u8v)))) : vstore T G t_uint8 (.ptr i [j] (j * 1)) (u8v b) = some (G.upd i (.own (.agg ((hs.set j b).map u8v)))) := by
  rw [vstore_fld (c := u8v b) (u := u8v hs[j]) hg (by rw [szs_uni (n := 1) (uni_take (uni_u8 hs) j)]; simp; omega) (by simp [hj]) T_uint8 rfl rfl rfl, ← List.map_set]

theorem load_byte {i : AId} {hs : List UInt8} {j : Nat} (hj : j < hs.length) (hg : G i = some (.own (.agg (hs.map u8v)))) : vload T G t_uint8 (.ptr i [j] (j * 1)) = some (u8v hs[j]) :=
  vload_fld hg rfl (by rw [szs_uni (n := 1) (uni_take (uni_u8 hs) j)]; simp; omega) (c := u8v hs[j]) (by simp [hj]) T_uint8 rfl

theorem escrowref03_Reader_Hash.use (h : RdR id st G) (hQ : ∀ G', RdR id (takes st 32).2 G' → Ch [id] G [id] G' → Q (.agg ((fill 32 (takes st 32).1).map u8v)) G') : ACalls P escrowref03_Reader_Hash.n [.ptr id [] 0] G Q := by
  refine escrowref03_Reader_Hash.sound ?_
  unfold escrowref03_Reader_Hash.S
  rw [z_hash]
  have hl := takes_len32 st
  have s0 : Sp [id] G [RdRL id st] G := Sp.one ⟨h, rfl⟩
  intro i1 f1
  have s1 := s0.row f1 (.agg ((List.replicate 32 (0 : UInt8)).map u8v))
  intro i3 f3
  have s2 := s1.row f3 (.agg ((List.replicate 32 (0 : UInt8)).map u8v))
  refine s2.call (i := 2) rfl (RdRL id (takes st 32).2) fun F h k => ?_
  obtain ⟨h, rfl⟩ := h
  refine escrowref03_Reader_take.use (fun _ => by omega) h fun b G3 h3 c3 => ?_
  have s3 := k _ _ ⟨h3, rfl⟩ c3
  simp -zeta only [vext0, vext1, wv_some]
  intro R hR
  generalize (takes st 32).1 = s at hl hQ
  have loop : ∀ (m j : Nat) (G4 : Heap), s.length - j = m → j ≤ s.length → Sp [id] G [RowL i3 (.agg ((fill 32 (s.take j)).map u8v)), RowL i1 (.agg ((List.replicate 32 (0 : UInt8)).map u8v)), RdRL id (takes st 32).2] G4 →
      R [.ptr i1 [] 0, .ptr i3 [] 0, .str s, .int .i64 j] G4 := by
    intro m
    induction m with
    | zero =>
      intro j G4 hm hj s4
      refine hR _ _ _ _ _ ?_
      show wv (some (.int .i64 s.length)) _
      simp -zeta only [wv_some, vbin_lss, brB_dec]
      refine ⟨fun h => absurd h (by omega), fun _ => ?_⟩
      rw [List.take_of_length_le (by omega)] at s4
      obtain ⟨F, ⟨h4, rfl⟩⟩ := s4.get (i := 0) rfl
      rw [load_hash (length_fill hl) h4, wv_some]
      refine s4.call (i := 1) rfl (RowL i1 (.agg ((fill 32 s).map u8v))) fun F h k => ?_
      obtain ⟨h, rfl⟩ := h
      rw [store_hash (by simp) (length_fill hl) h, wg_some]
      have s5 := k _ _ ⟨Heap.upd_self _ _ _, rfl⟩ (ch_upd h (by simp))
      rw [load_hash (length_fill hl) (Heap.upd_self _ _ _), wv_some]
      obtain ⟨F, ⟨h6, rfl⟩, c6⟩ := ((s5.erase 0).erase 0).out
      exact hQ _ h6 c6
    | succ m ih =>
      intro j G4 hm hj s4
      have hjl : j < s.length := by omega
      refine hR _ _ _ _ _ ?_
      show wv (some (.int .i64 s.length)) _
      simp -zeta only [wv_some, vbin_lss, brB_dec]
      refine ⟨fun _ => ?_, fun h => absurd (by omega) h⟩
      rw [vindex_str hjl, wv_some, addr_hash (by omega), wv_some]
      refine s4.call (i := 0) rfl (RowL i3 (.agg ((fill 32 (s.take (j + 1))).map u8v))) fun F h k => ?_
      obtain ⟨h, rfl⟩ := h
      have hfl : (fill 32 (s.take j)).length = 32 := length_fill (by simp; omega)
      show wg (vstore T G4 t_uint8 (.ptr i3 [j] (j * 1)) (u8v s[j])) _
      rw [store_byte (by omega) h, wg_some]
      have e : (fill 32 (s.take j)).set j s[j] = fill 32 (s.take (j + 1)) := by
        have h1 : (s.take j).length = j := by simp; omega
        have h2 : (s.take (j + 1)).length = j + 1 := by simp; omega
        unfold fill
        rw [h1, h2, List.set_append_right _ _ (by omega), h1, Nat.sub_self, show 32 - j = (32 - (j + 1)) + 1 by omega, List.replicate_succ, List.set_cons_zero, List.take_succ_eq_append_getElem hjl, List.append_assoc]
        rfl
      rw [e]
      have s5 := k _ _ ⟨Heap.upd_self _ _ _, rfl⟩ (ch_upd h (by simp))
      simp -zeta only [vbin_add, wv_some]
      rw [i64_in (by omega) (by omega)]
      exact ih (j + 1) _ (by omega) (by omega) s5
  refine loop _ 0 _ rfl (by omega) ?_
  simpa [fill] using s3

end
end Go.Esc.M
