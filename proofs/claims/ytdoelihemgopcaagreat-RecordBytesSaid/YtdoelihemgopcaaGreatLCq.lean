import Derived.Test.YtdoelihemgopcaaGreatLBe
import Derived.Test.YtdoelihemgopcaaGreatLSh
/- Own work. Chapter 3: the document's readers; hashes read. -/
set_option linter.unusedSimpArgs false
set_option linter.unusedVariables false
set_option maxRecDepth 20000
namespace Go.Esc.M
open Go Go.Esc

/-- A reader of the program's. -/
def RdL (id : AId) (st : List UInt8 × Int) : LP where
  p := fun G F => Rd id st G ∧ F = [id]
  rows := by rintro G F ⟨h, rfl⟩ j hj; simp at hj; subst hj; exact h.row
  loc := by rintro G G' F ⟨h, rfl⟩ hs; exact ⟨by unfold Rd at h ⊢; rw [hs id (by simp)]; exact h, rfl⟩

/-- A reader of the document's: what is left stays where it is broken. -/
def RdR (id : AId) (st : List UInt8 × Int) (G : Heap) : Prop := ∃ l, G id = some (.own (.agg [.str l, .int .i64 st.2])) ∧ (st.2 = 0 → l = st.1) ∧ (st.2 ≠ 0 → st.1 = [])
def RdRL (id : AId) (st : List UInt8 × Int) : LP where
  p := fun G F => RdR id st G ∧ F = [id]
  rows := by rintro G F ⟨⟨l, h, _⟩, rfl⟩ j hj; simp at hj; subst hj; rw [h]; rfl
  loc := by rintro G G' F ⟨⟨l, h, h'⟩, rfl⟩ hs; exact ⟨⟨l, by rw [hs id (by simp)]; exact h, h'⟩, rfl⟩

section
variable {id : AId} {st : List UInt8 × Int} {G : Heap} {Q : AVal → Heap → Prop}

theorem RdR.fault (h : RdR id st G) : vload T G t_api_Errno (.ptr id [1] 1) = some (.int .i64 st.2) := h.elim fun _ h => vload_fld h.1 rfl rfl rfl T_api_Errno rfl
theorem RdR.rest (h : RdR id st G) (h0 : st.2 = 0) : vload T G t_string (.ptr id [0] 0) = some (.str st.1) := h.elim fun l h => by rw [← h.2.1 h0]; exact vload_fld h.1 rfl rfl rfl T_string rfl
theorem RdR.ch {G' : Heap} {E E' : List AId} (h : RdR id st G) (hc : Ch E G E' G') (hd : id ∉ E) : RdR id st G' := h.elim fun l h => ⟨l, hc.others _ _ h.1 hd, h.2⟩
theorem RdR.row (h : RdR id st G) : (G id).isSome = true := h.elim fun l h => by rw [h.1]; rfl

/-- Broken by this fault, if it wasn't. -/
def brk (st : List UInt8 × Int) (e : Int) : List UInt8 × Int := if st.2 = 0 then ([], e) else st

theorem escrowref03_Open.use {b : List UInt8} (h : ∀ id G', RdR id (b, 0) G' → Ch [] G [id] G' → Q (.ptr id [] 0) G') : ACalls P escrowref03_Open.n [.str b] G Q := by
  refine escrowref03_Open.sound ?_
  unfold escrowref03_Open.S
  intro id hf
  exact h _ _ ⟨b, Heap.upd_self _ _ _, fun _ => rfl, fun h => absurd rfl h⟩ (Ch.new hf)

theorem escrowref03_Reader_breaks.use {f : Int} (hf : f ≠ 0) (h : RdR id st G) (hQ : ∀ G', RdR id (brk st f) G' → Ch [id] G [id] G' → Q (.tuple []) G') : ACalls P escrowref03_Reader_breaks.n [.ptr id [] 0, .int .i64 f] G Q := by
  refine escrowref03_Reader_breaks.sound ?_
  unfold escrowref03_Reader_breaks.S
  show wv (vload T G t_api_Errno (.ptr id [1] 1)) _
  rw [h.fault]
  simp -zeta only [wv_some, vbin_eql, brB_dec]
  refine ⟨fun h0 => ?_, fun h0 => ?_⟩
  · obtain ⟨l, hg, _⟩ := h
    have e := vstore_fld (T := T) (f := 1) (o := 1) (c := .int .i64 f) (u := .int .i64 st.2) hg rfl rfl T_api_Errno rfl rfl rfl
    show wg (vstore T G t_api_Errno (.ptr id [1] 1) (.int .i64 f)) _
    rw [e, wg_some]
    have eb : brk st f = ([], f) := by simp [brk, h0]
    rw [eb] at hQ
    exact hQ _ ⟨l, Heap.upd_self _ _ _, fun e => absurd e hf, fun _ => rfl⟩ (ch_upd hg (by simp))
  · have := hQ G (by simpa [brk, h0] using h) (Ch.refl _ _)
    exact this

theorem escrowref03_Reader_take.use {n : Int} (hn : st.2 = 0 → 0 ≤ n) (h : RdR id st G) (hQ : ∀ b G', RdR id (takes st n).2 G' → Ch [id] G [id] G' → Q (.tuple [.str (takes st n).1, .bool b]) G') :
    ACalls P escrowref03_Reader_take.n [.ptr id [] 0, .int .i64 n] G Q := by
  refine escrowref03_Reader_take.sound ?_
  unfold escrowref03_Reader_take.S
  show wv (vload T G t_api_Errno (.ptr id [1] 1)) _
  rw [h.fault]
  simp -zeta only [wv_some, vbin_neq, brB_ndec]
  refine ⟨fun h0 => ?_, fun h0 => ?_⟩
  · have := hQ false G (by simpa [takes, h0] using h) (Ch.refl _ _)
    simpa [takes, h0] using this
  · have hn := hn h0
    show wv (vload T G t_string (.ptr id [0] 0)) _
    rw [h.rest h0, wv_some]
    show wv (some (.int .i64 st.1.length)) _
    simp -zeta only [wv_some, vbin_gtr, brB_dec]
    refine ⟨fun hl => ?_, fun hl => ?_⟩
    · refine escrowref03_Reader_breaks.use (by decide) h fun G' hr hc => ?_
      have := hQ false G' (by simpa [takes, h0, hl, brk] using hr) hc
      simpa [takes, h0, hl] using this
    · show wv (vload T G t_string (.ptr id [0] 0)) _
      rw [h.rest h0, wv_some, str_take hn (by omega), wv_some]
      show wv (vload T G t_string (.ptr id [0] 0)) _
      rw [h.rest h0, wv_some, str_drop hn (by omega), wv_some]
      obtain ⟨l, hg, _⟩ := h
      have es := vstore_fld (T := T) (f := 0) (o := 0) (c := .str (st.1.drop n.toNat)) (u := .str l) hg rfl rfl T_string rfl rfl rfl
      show wg (vstore T G t_string (.ptr id [0] 0) (.str (st.1.drop n.toNat))) _
      rw [es, wg_some]
      have e : takes st n = (st.1.take n.toNat, (st.1.drop n.toNat, 0)) := by simp [takes, h0, hl]
      rw [e] at hQ
      refine hQ true _ ⟨st.1.drop n.toNat, ?_, fun _ => rfl, fun hh => absurd rfl hh⟩ (ch_upd hg (by simp))
      rw [Heap.upd_self, h0]
      rfl

theorem escrowref03_Number.use {s : List UInt8} (hs : s.length ≤ 8) (hQ : Q (.int .u64 (num s)) G) : ACalls P escrowref03_Number.n [.str s] G Q := by
  refine escrowref03_Number.sound ?_
  unfold escrowref03_Number.S
  intro R hR
  have loop : ∀ (rest : List UInt8) (v j : Nat), s.drop j = rest → j ≤ s.length → v < 256 ^ j → numA v rest = num s → R [.str s, .int .u64 v, .int .i64 j] G := by
    intro rest
    induction rest with
    | nil =>
      intro v j hd hj hv he
      have := List.drop_eq_nil_iff.1 hd
      refine hR _ _ _ _ ?_
      show wv (some (.int .i64 s.length)) _
      simp -zeta only [vbin_lss, wv_some, brB_dec]
      refine ⟨fun h => absurd h (by omega), fun _ => ?_⟩
      simp only [numA] at he
      rw [he]
      exact hQ
    | cons b rest ih =>
      intro v j hd hj hv he
      have hjl : j < s.length := by
        rcases Nat.lt_or_ge j s.length with h | h
        · exact h
        · rw [List.drop_eq_nil_iff.2 h] at hd; cases hd
      have hb : s[j] = b := by
        have := List.drop_eq_getElem_cons hjl
        rw [hd] at this
        injection this with h1 h2
        exact h1.symm
      have hv7 : v < 256 ^ 7 := Nat.lt_of_lt_of_le hv (Nat.pow_le_pow_right (by omega) (by omega))
      have hblt : b.toNat < 256 := b.toNat_lt
      refine hR _ _ _ _ ?_
      show wv (some (.int .i64 s.length)) _
      simp -zeta only [vbin_lss, wv_some, brB_dec]
      refine ⟨fun _ => ?_, fun h => absurd (by omega) h⟩
      rw [vbin_mul, wv_some, u64_in (by omega) (by omega), vindex_str hjl, wv_some, hb, vconv_int T_uint8 T_uint64 rfl, wv_some, u64_in (n := (b.toNat : Int)) (by omega) (by omega), vbin_add, wv_some, u64_in (by omega) (by omega)]
      simp -zeta only [vbin_add, wv_some]
      rw [i64_in (by omega) (by omega)]
      have e : ((v : Int) * 256 + b.toNat) = ((v * 256 + b.toNat : Nat) : Int) := by omega
      rw [e]
      refine ih (v * 256 + b.toNat) (j + 1) (by rw [← List.drop_drop, hd]; rfl) (by omega) ?_ he
      rw [Nat.pow_succ]
      omega
  exact loop s 0 0 rfl (by omega) (by simp) rfl

theorem escrowref03_Reader_number.use {n : Int} (h0 : 0 ≤ n) (h8 : n ≤ 8) (h : RdR id st G) (hQ : ∀ G', RdR id (takes st n).2 G' → Ch [id] G [id] G' → Q (.int .u64 (num (takes st n).1)) G') :
    ACalls P escrowref03_Reader_number.n [.ptr id [] 0, .int .i64 n] G Q := by
  refine escrowref03_Reader_number.sound ?_
  unfold escrowref03_Reader_number.S
  refine escrowref03_Reader_take.use (fun _ => h0) h fun b G1 h1 c1 => ?_
  simp -zeta only [vext0, vext1, wv_some]
  have := length_takes st (n := n)
  exact escrowref03_Number.use (by omega) (hQ G1 h1 c1)

theorem escrowref03_Reader_U8.use (h : RdR id st G) (hQ : ∀ G', RdR id (takes st 1).2 G' → Ch [id] G [id] G' → Q (.int .u8 (num (takes st 1).1 : Nat)) G') : ACalls P escrowref03_Reader_U8.n [.ptr id [] 0] G Q := by
  refine escrowref03_Reader_U8.sound ?_
  unfold escrowref03_Reader_U8.S
  refine escrowref03_Reader_number.use (by omega) (by omega) h fun G1 h1 c1 => ?_
  have hl : (takes st 1).1.length ≤ 1 := length_takes st
  have := num_lt_of hl
  rw [vconv_int T_uint64 T_uint8 rfl, wv_some, wrapU8, Int.emod_eq_of_lt (by omega) (by omega)]
  exact hQ G1 h1 c1
theorem escrowref03_Reader_U16.use (h : RdR id st G) (hQ : ∀ G', RdR id (takes st 2).2 G' → Ch [id] G [id] G' → Q (.int .u16 (num (takes st 2).1 : Nat)) G') : ACalls P escrowref03_Reader_U16.n [.ptr id [] 0] G Q := by
  refine escrowref03_Reader_U16.sound ?_
  unfold escrowref03_Reader_U16.S
  refine escrowref03_Reader_number.use (by omega) (by omega) h fun G1 h1 c1 => ?_
  have hl : (takes st 2).1.length ≤ 2 := length_takes st
  have := num_lt_of hl
  rw [vconv_int T_uint64 T_uint16 rfl, wv_some, wrapU16, Int.emod_eq_of_lt (by omega) (by omega)]
  exact hQ G1 h1 c1
theorem escrowref03_Reader_I64.use (h : RdR id st G) (hQ : ∀ G', RdR id (takes st 8).2 G' → Ch [id] G [id] G' → Q (.int .i64 (IntKind.i64.wrap (num (takes st 8).1 : Nat))) G') : ACalls P escrowref03_Reader_I64.n [.ptr id [] 0] G Q := by
  refine escrowref03_Reader_I64.sound ?_
  unfold escrowref03_Reader_I64.S
  refine escrowref03_Reader_number.use (by omega) (by omega) h fun G1 h1 c1 => ?_
  rw [vconv_int T_uint64 T_int64 rfl, wv_some]
  exact hQ G1 h1 c1

theorem escrowref03_Reader_Err.use (h : RdR id st G) (hQ : Q (.int .i64 st.2) G) : ACalls P escrowref03_Reader_Err.n [.ptr id [] 0] G Q := by
  refine escrowref03_Reader_Err.sound ?_
  unfold escrowref03_Reader_Err.S
  show wv (vload T G t_api_Errno (.ptr id [1] 1)) _
  rw [h.fault]
  exact hQ
theorem escrowref03_Reader_Rest.use (h : RdR id st G) (hQ : Q (.str st.1) G) : ACalls P escrowref03_Reader_Rest.n [.ptr id [] 0] G Q := by
  refine escrowref03_Reader_Rest.sound ?_
  unfold escrowref03_Reader_Rest.S
  show wv (vload T G t_api_Errno (.ptr id [1] 1)) _
  rw [h.fault]
  simp -zeta only [wv_some, vbin_neq, brB_ndec]
  refine ⟨fun h0 => ?_, fun h0 => ?_⟩
  · obtain ⟨l, _, _, h2⟩ := h
    rwa [h2 h0] at hQ
  · show wv (vload T G t_string (.ptr id [0] 0)) _
    rw [h.rest h0]
    exact hQ
theorem escrowref03_Reader_Raw.use {n : Int} (h : RdR id st G) (hQ : ∀ G', RdR id (raws st n).2 G' → Ch [id] G [id] G' → Q (.str (raws st n).1) G') : ACalls P escrowref03_Reader_Raw.n [.ptr id [] 0, .int .i64 n] G Q := by
  refine escrowref03_Reader_Raw.sound ?_
  unfold escrowref03_Reader_Raw.S
  simp -zeta only [wv_some, vbin_lss, brB_dec]
  refine ⟨fun hn => ?_, fun hn => ?_⟩
  · refine escrowref03_Reader_breaks.use (by decide) h fun G1 h1 c1 => ?_
    by_cases h0 : st.2 = 0
    · have := hQ G1 (by simpa [raws, h0, hn, brk] using h1) c1
      simpa [raws, h0, hn] using this
    · have := hQ G1 (by simpa [raws, h0, hn, brk, takes] using h1) c1
      simpa [raws, h0, hn, takes] using this
  · refine escrowref03_Reader_take.use (fun _ => by omega) h fun b G2 h2 c2 => ?_
    simp -zeta only [vext0, vext1, wv_some]
    have := hQ G2 (by simpa [raws, hn] using h2) c2
    simpa [raws, hn] using this

theorem takes_short {b : List UInt8} {n : Int} (h : (b.length : Int) < n) : takes (b, 0) n = ([], ([], 2)) := by simp [takes, h]
theorem takes_ok {b : List UInt8} {n : Int} (h : ¬ (b.length : Int) < n) : takes (b, 0) n = (b.take n.toNat, (b.drop n.toNat, 0)) := by simp [takes, h]

end

section
variable {id : AId} {st : List UInt8 × Int} {G : Heap} {Q : AVal → Heap → Prop}

theorem takes_len32 (st : List UInt8 × Int) : (takes st 32).1.length ≤ 32 := length_takes st

theorem cursor_Reader_Hash.use (h : Rd id st G) (hQ : ∀ G', Rd id (takes st 32).2 G' → Ch [id] G [id] G' → Q (.agg ((fill 32 (takes st 32).1).map u8v)) G') : ACalls P cursor_Reader_Hash.n [.ptr id [] 0] G Q := by
  refine cursor_Reader_Hash.sound ?_
  unfold cursor_Reader_Hash.S
  rw [z_hash]
  have hl := takes_len32 st
  have s0 : Sp [id] G [RdL id st] G := Sp.one ⟨h, rfl⟩
  intro i1 f1
  have s1 := s0.row f1 (.agg ((List.replicate 32 (0 : UInt8)).map u8v))
  intro i3 f3
  have s2 := s1.row f3 (.agg ((List.replicate 32 (0 : UInt8)).map u8v))
  rw [vslice_hash, wv_some]
  refine s2.call (i := 2) rfl (RdL id (takes st 32).2) fun F h k => ?_
  obtain ⟨h, rfl⟩ := h
  refine cursor_Reader_take.use (fun _ => by omega) h fun G3 h3 c3 => ?_
  have s3 := k _ _ ⟨h3, rfl⟩ c3
  refine s3.call (i := 0) rfl (RowL i3 (.agg ((fill 32 (takes st 32).1).map u8v))) fun F h k => ?_
  obtain ⟨h, rfl⟩ := h
  refine copy_hash h (by simp) hl fun G4 h4 c4 => ?_
  have e4 : (takes st 32).1 ++ (List.replicate 32 (0 : UInt8)).drop (takes st 32).1.length = fill 32 (takes st 32).1 := by rw [List.drop_replicate]; rfl
  rw [e4] at h4
  have s4 := k _ _ ⟨h4, rfl⟩ c4
  rw [load_hash (length_fill hl) h4, wv_some]
  refine s4.call (i := 1) rfl (RowL i1 (.agg ((fill 32 (takes st 32).1).map u8v))) fun F h k => ?_
  obtain ⟨h, rfl⟩ := h
  rw [store_hash (by simp) (length_fill hl) h, wg_some]
  have s5 := k _ _ ⟨Heap.upd_self _ _ _, rfl⟩ (ch_upd h (by simp))
  rw [load_hash (length_fill hl) (Heap.upd_self _ _ _), wv_some]
  obtain ⟨F, ⟨h6, rfl⟩, c6⟩ := ((s5.erase 0).erase 0).out
  exact hQ _ h6 c6

theorem escrowref03_Reader_Hash.use (h : RdR id st G) (hQ : ∀ G', RdR id (takes st 32).2 G' → Ch [id] G [id] G' → Q (.agg ((fill 32 (takes st 32).1).map u8v)) G') : ACalls P escrowref03_Reader_Hash.n [.ptr id [] 0] G Q := by
  refine escrowref03_Reader_Hash.sound ?_
  unfold escrowref03_Reader_Hash.S
  rw [z_hash]
  have hl := takes_len32 st
  have s0 : Sp [id] G [RdRL id st] G := Sp.one ⟨h, rfl⟩
  intro i1 f1
  have s1 := s0.row f1 (.agg ((List.replicate 32 (0 : UInt8)).map u8v))
  intro i3 f3
  have s2 := s1.row f3 (.agg ((List.replicate 32 (0 : UInt8)).map u8v))
  refine s2.call (i := 2) rfl (RdRL id (takes st 32).2) fun F h k => ?_
  obtain ⟨h, rfl⟩ := h
  refine escrowref03_Reader_take.use (fun _ => by omega) h fun b G3 h3 c3 => ?_
  have s3 := k _ _ ⟨h3, rfl⟩ c3
  simp -zeta only [vext0, vext1, wv_some]
  intro R hR
  generalize (takes st 32).1 = s at hl hQ
  have loop : ∀ (m j : Nat) (G4 : Heap), s.length - j = m → j ≤ s.length → Sp [id] G [RowL i3 (.agg ((fill 32 (s.take j)).map u8v)), RowL i1 (.agg ((List.replicate 32 (0 : UInt8)).map u8v)), RdRL id (takes st 32).2] G4 →
      R [.ptr i1 [] 0, .ptr i3 [] 0, .str s, .int .i64 j] G4 := by
    intro m
    induction m with
    | zero =>
      intro j G4 hm hj s4
      refine hR _ _ _ _ _ ?_
      show wv (some (.int .i64 s.length)) _
      simp -zeta only [wv_some, vbin_lss, brB_dec]
      refine ⟨fun h => absurd h (by omega), fun _ => ?_⟩
      rw [List.take_of_length_le (by omega)] at s4
      obtain ⟨F, ⟨h4, rfl⟩⟩ := s4.get (i := 0) rfl
      rw [load_hash (length_fill hl) h4, wv_some]
      refine s4.call (i := 1) rfl (RowL i1 (.agg ((fill 32 s).map u8v))) fun F h k => ?_
      obtain ⟨h, rfl⟩ := h
      rw [store_hash (by simp) (length_fill hl) h, wg_some]
      have s5 := k _ _ ⟨Heap.upd_self _ _ _, rfl⟩ (ch_upd h (by simp))
      rw [load_hash (length_fill hl) (Heap.upd_self _ _ _), wv_some]
      obtain ⟨F, ⟨h6, rfl⟩, c6⟩ := ((s5.erase 0).erase 0).out
      exact hQ _ h6 c6
    | succ m ih =>
      intro j G4 hm hj s4
      have hjl : j < s.length := by omega
      refine hR _ _ _ _ _ ?_
      show wv (some (.int .i64 s.length)) _
      simp -zeta only [wv_some, vbin_lss, brB_dec]
      refine ⟨fun _ => ?_, fun h => absurd (by omega) h⟩
      rw [vindex_str hjl, wv_some, addr_hash (by omega), wv_some]
      refine s4.call (i := 0) rfl (RowL i3 (.agg ((fill 32 (s.take (j + 1))).map u8v))) fun F h k => ?_
      obtain ⟨h, rfl⟩ := h
      have hfl : (fill 32 (s.take j)).length = 32 := length_fill (by simp; omega)
      show wg (vstore T G4 t_uint8 (.ptr i3 [j] (j * 1)) (u8v s[j])) _
      rw [store_byte (by omega) h, wg_some]
      have e : (fill 32 (s.take j)).set j s[j] = fill 32 (s.take (j + 1)) := by
        have h1 : (s.take j).length = j := by simp; omega
        have h2 : (s.take (j + 1)).length = j + 1 := by simp; omega
        unfold fill
        rw [h1, h2, List.set_append_right _ _ (by omega), h1, Nat.sub_self, show 32 - j = (32 - (j + 1)) + 1 by omega, List.replicate_succ, List.set_cons_zero, List.take_succ_eq_append_getElem hjl, List.append_assoc]
        rfl
      rw [e]
      have s5 := k _ _ ⟨Heap.upd_self _ _ _, rfl⟩ (ch_upd h (by simp))
      simp -zeta only [vbin_add, wv_some]
      rw [i64_in (by omega) (by omega)]
      exact ih (j + 1) _ (by omega) (by omega) s5
  refine loop _ 0 _ rfl (by omega) ?_
  simpa [fill] using s3

end
end Go.Esc.M

/- Own work. Chapter 3: values of the statements; a value laid; a step of a reader. -/
set_option linter.unusedSimpArgs false
set_option linter.unusedVariables false
set_option maxRecDepth 20000
namespace Go.Esc.M
open Go Go.Esc

/-- The statements' Val. -/
structure ValM where
  kind : Int
  u : Nat
  i : Int
  h : List UInt8
  s : List UInt8
  times : Int

def ValM.av (x : ValM) : AVal := .agg [.int .i64 x.kind, .int .u64 x.u, .int .i64 x.i, .agg (x.h.map u8v), .str x.s, .int .i64 x.times]

structure ValM.ok (x : ValM) (m : Nat) : Prop where
  kind : I64 x.kind
  u : x.u < 2 ^ 64
  i : I64 x.i
  h : x.h.length = 32
  times : I64 x.times
  m : x.s.length + 1 ≤ m

/-- The kind, 0 to 7. -/
def ValM.k (x : ValM) : Int := x.kind % 8

section
variable {G : Heap} {Q : AVal → Heap → Prop}

/-- A text, often behind itself. -/
def grown (s : List UInt8) : Nat → List UInt8 → List UInt8
  | 0, c => c
  | n + 1, c => if c.length < 70000 ∧ c ≠ [] then grown s n (c ++ s) else c
def ValM.text (x : ValM) : List UInt8 := grown x.s (x.times - 1).toNat x.s

section
variable {id : AId} {st : List UInt8 × Int} {F : List AId} {x : ValM} {m : Nat}

theorem ValM.fld {G : Heap} {i : AId} (hx : x.ok m) (hg : G i = some (.own x.av)) :
    vload T G t_uint64 (.ptr i [1] 1) = some (.int .u64 x.u) ∧ vload T G t_int64 (.ptr i [2] 2) = some (.int .i64 x.i) ∧ vload T G t_api_Hash (.ptr i [3] 3) = some (.agg (x.h.map u8v)) := by
  have h1 : szs (x.h.map u8v) = 32 := by rw [szs_uni (n := 1) (uni_u8 x.h)]; simp [hx.h]
  refine ⟨vload_fld (c := .int .u64 x.u) hg rfl rfl rfl T_uint64 rfl, vload_fld (c := .int .i64 x.i) hg rfl rfl rfl T_int64 rfl, vload_fld (c := .agg (x.h.map u8v)) hg rfl rfl rfl T_api_Hash ?_⟩
  simp [vfits, sz, h1, ti_api_Hash, AVal.isAgg, ADesc.isAgg]

end

/-- The statements' Op. -/
structure OpM where
  two : Bool
  v : ValM
  kind : Int
  n : Int

def OpM.av (o : OpM) : AVal := .agg [.bool o.two, o.v.av, .int .i64 o.kind, .int .i64 o.n]
structure OpM.ok (o : OpM) (m : Nat) : Prop where
  v : o.v.ok m
  m : 1 ≤ m

theorem ValM.ok.le {x : ValM} {m m' : Nat} (h : x.ok m) (hm : m ≤ m') : x.ok m' := ⟨h.kind, h.u, h.i, h.h, h.times, Nat.le_trans h.m hm⟩

end
end Go.Esc.M

/- Own work. Chapter 14: ledgers; which are sound. -/
set_option linter.unusedSimpArgs false
set_option linter.unusedVariables false
set_option maxRecDepth 20000
namespace Go.Esc
open Go Go.RowKit

/-- A map's row. -/
def MapL (id : AId) (es : List (AVal × AVal)) : LP where
  p := fun G F => G id = some (.map es) ∧ F = [id]
  rows := by rintro G F ⟨h, rfl⟩ j hj; simp at hj; subst hj; simp [h]
  loc := by rintro G G' F ⟨h, rfl⟩ hs; exact ⟨by rw [hs id (by simp)]; exact h, rfl⟩
theorem MapL.own {F0 : List AId} {G0 G : Heap} {ps : List LP} {i : Nat} {id : AId} {es : List (AVal × AVal)} (h : Sp F0 G0 ps G) (hi : ps[i]? = some (MapL id es)) : G id = some (.map es) := by
  obtain ⟨F, h, _⟩ := h.get hi
  exact h
section
variable {T : Tbl} {t kt et : TypeId} {i ki ei : TI} (ht : T t = some i) (hd : i.desc = .map kt et) (hk : T kt = some ki) (hkd : ki.desc = .bool) (he : T et = some ei) (hez : ei.zero = .int .i64 0) {G : Heap} {id : AId}

end

end Go.Esc
namespace Go.Esc.M
open Go Go.Esc

structure PenM where
  ours : Bool
  id : Int
  amount : Int
  hash : List UInt8
  deriving DecidableEq

def PenM.av (p : PenM) : AVal := .agg [.bool p.ours, .int .i64 p.id, .int .i64 p.amount, .agg (p.hash.map u8v)]
structure PenM.ok (p : PenM) : Prop where
  id : I64 p.id
  amount : I64 p.amount
  hash : p.hash.length = 32

theorem PenM.sz {p : PenM} (h : p.ok) : sz p.av = 35 := by
  have h1 : szs (p.hash.map u8v) = 32 := by rw [szs_uni (n := 1) (uni_u8 p.hash)]; simp [h.hash]
  simp [PenM.av, Esc.sz, szs, h1]
theorem PenM.okv (p : PenM) : okv p.av = true := by simp [PenM.av, Esc.okv, okvs, okvs_u8]
theorem PenM.fld {G : Heap} {i : AId} {p : PenM} (h : p.ok) (hg : G i = some (.own p.av)) :
    vload T G t_bool (.ptr i [0] 0) = some (.bool p.ours) ∧ vload T G t_int64 (.ptr i [1] 1) = some (.int .i64 p.id) ∧ vload T G t_int64 (.ptr i [2] 2) = some (.int .i64 p.amount) ∧ vload T G t_api_Hash (.ptr i [3] 3) = some (.agg (p.hash.map u8v)) := by
  have h1 : szs (p.hash.map u8v) = 32 := by rw [szs_uni (n := 1) (uni_u8 p.hash)]; simp [h.hash]
  refine ⟨vload_fld (c := .bool p.ours) hg rfl rfl rfl T_bool rfl, vload_fld (c := .int .i64 p.id) hg rfl rfl rfl T_int64 rfl, vload_fld (c := .int .i64 p.amount) hg rfl rfl rfl T_int64 rfl, vload_fld (c := .agg (p.hash.map u8v)) hg rfl rfl rfl T_api_Hash ?_⟩
  simp [vfits, Esc.sz, h1, ti_api_Hash, AVal.isAgg, ADesc.isAgg]

def maxAmount : Int := 1152921504606846976

def scanP : Int → Int → Nat → Nat → List PenM → Option (Nat × Nat)
  | _, _, ct, cf, [] => some (ct, cf)
  | lt, lf, ct, cf, p :: l =>
    if p.amount < 1 ∨ maxAmount < p.amount ∨ p.id ≤ (bif p.ours then lt else lf) ∨ (p.ours = true ∧ 0 < cf) then none
    else bif p.ours then scanP p.id lf (ct + 1) cf l else scanP lt p.id ct (cf + 1) l
def few (r : Option (Nat × Nat)) : Bool :=
  match r with
  | none => false
  | some (a, b) => decide (a ≤ 483) && decide (b ≤ 483)
def soundP (o q : Int) (l : List PenM) : Bool := decide (0 ≤ o) && decide (o ≤ maxAmount) && decide (0 ≤ q) && decide (q ≤ maxAmount) && few (scanP (-1) (-1) 0 0 l)

section
variable {G : Heap} {Q : AVal → Heap → Prop}

end
end Go.Esc.M

/- Own work. Chapter 14: a commitment's bytes, in the program. -/
set_option linter.unusedSimpArgs false
set_option linter.unusedVariables false
set_option maxRecDepth 20000
namespace Go.Esc.M
open Go Go.Esc

def PenM.bytes (p : PenM) : List UInt8 := be 1 (bif p.ours then 1 else 0) ++ (be 8 (bits64 p.id) ++ (be 8 (bits64 p.amount) ++ p.hash))
def textB (owner index : Int) (point : List UInt8) (o q : Int) (l : List PenM) : List UInt8 :=
  be 1 owner.toNat ++ (be 8 (bits64 index) ++ (point ++ (be 8 (bits64 o) ++ (be 8 (bits64 q) ++ (be 2 l.length ++ l.flatMap PenM.bytes)))))
def maxIndex : Int := 281474976710655
def argBad (owner index : Int) : Prop := owner < 0 ∨ 1 < owner ∨ index < 0 ∨ maxIndex < index
instance (owner index : Int) : Decidable (argBad owner index) := inferInstanceAs (Decidable (_ ∨ _ ∨ _ ∨ _))
section
variable {F0 : List AId} {G0 G : Heap} {ps : List LP} {Q : AVal → Heap → Prop}

/-- A value laid by a writer that is not broken. -/
theorem wr {id : AId} {bs xs : List UInt8} {n : FuncId} {args : List AVal} {i : Nat} {K : AVal → Heap → Prop} (hs : Sp F0 G0 ps G) (hi : ps[i]? = some (WrL id bs 0))
    (huse : ∀ {G : Heap} {F : List AId} {Q : AVal → Heap → Prop}, Wr id (bs, 0) G F → (∀ F' G', Wr id (laid (bs, 0) xs) G' F' → Ch F G F' G' → Q (.tuple []) G') → ACalls P n args G Q)
    (hK : ∀ G', Sp F0 G0 (ps.set i (WrL id (bs ++ xs) 0)) G' → K (.tuple []) G') : ACalls P n args G K := by
  refine hs.call hi (WrL id (bs ++ xs) 0) fun F h k => ?_
  exact huse h fun F' G' w c => hK _ (k F' G' w c)

theorem u8_conv (n : Int) (h0 : 0 ≤ n) (h1 : n ≤ 255) : vconv T G t_int t_uint8 (.int .i64 n) = some (.int .u8 (n.toNat : Nat)) := by
  rw [vconv_int T_int T_uint8 rfl, u8_in h0 h1]
  congr 2
  omega

end
end Go.Esc.M

/- Own work. Chapter 14: the document's texts. -/
set_option linter.unusedSimpArgs false
set_option linter.unusedVariables false
set_option maxRecDepth 20000
namespace Go.Esc
open Go Go.RowKit

end Go.Esc
namespace Go.Esc.M
open Go Go.Esc

/-- May it stand behind these? -/
structure Okp (pre : List PenM) (p : PenM) : Prop where
  id : 0 ≤ p.id
  amount : 1 ≤ p.amount
  most : p.amount ≤ maxAmount
  pair : ∀ q ∈ pre, ¬ (p.ours = true ∧ q.ours = false) ∧ ¬ (p.ours = q.ours ∧ p.id ≤ q.id)
def Okl : List PenM → List PenM → Prop
  | _, [] => True
  | pre, p :: l => Okp pre p ∧ Okl (pre ++ [p]) l

def cnt (b : Bool) (l : List PenM) : Nat := (l.filter (fun p => p.ours == b)).length
structure Inv (pre : List PenM) (lt lf : Int) (cf : Nat) : Prop where
  lt1 : -1 ≤ lt
  lf1 : -1 ≤ lf
  lt0 : lt = -1 ∨ ∃ q ∈ pre, q.ours = true ∧ q.id = lt
  lf0 : lf = -1 ∨ ∃ q ∈ pre, q.ours = false ∧ q.id = lf
  ltm : ∀ q ∈ pre, q.ours = true → q.id ≤ lt
  lfm : ∀ q ∈ pre, q.ours = false → q.id ≤ lf
  cf0 : 0 < cf ↔ ∃ q ∈ pre, q.ours = false

theorem Okl.split : ∀ {l pre : List PenM} (j : Nat), Okl pre l ↔ Okl pre (l.take j) ∧ Okl (pre ++ l.take j) (l.drop j)
  | [], pre, j => by simp [Okl]
  | p :: l, pre, 0 => by simp [Okl]
  | p :: l, pre, j + 1 => by
    simp only [Okl, List.take_succ_cons, List.drop_succ_cons]
    rw [Okl.split (l := l) (pre := pre ++ [p]) j, and_assoc, List.append_assoc]
    rfl

theorem Okl.mem : ∀ {l pre : List PenM}, Okl pre l → ∀ p ∈ l, 0 ≤ p.id ∧ 1 ≤ p.amount ∧ p.amount ≤ maxAmount
  | q :: l, pre, h, p, hp => by
    rcases List.mem_cons.1 hp with rfl | hp
    · exact ⟨h.1.id, h.1.amount, h.1.most⟩
    · exact Okl.mem h.2 p hp

/-- Sound, in the document's words. -/
structure SoundD (o q : Int) (l : List PenM) : Prop where
  o0 : 0 ≤ o
  o1 : o ≤ maxAmount
  q0 : 0 ≤ q
  q1 : q ≤ maxAmount
  t : cnt true l ≤ 483
  f : cnt false l ≤ 483
  l : Okl [] l

end Go.Esc.M
