/- Own work. Chapter 3: the readers. -/
import Derived.Test.YtdbkngfdaeminaaLCw
set_option linter.unusedSimpArgs false
set_option linter.unusedVariables false
set_option maxRecDepth 20000
namespace Go.Esc.M
open Go Go.Esc

def Rd (id : AId) (st : List UInt8 × Int) (G : Heap) : Prop := G id = some (.own (.agg [.str st.1, .int .i64 st.2]))

section
variable {id : AId} {st : List UInt8 × Int} {G : Heap} {Q : AVal → Heap → Prop}

theorem Rd.fault (h : Rd id st G) : vload T G t_api_Errno (.ptr id [1] 1) = some (.int .i64 st.2) := vload_fld h rfl rfl rfl T_api_Errno rfl
theorem Rd.rest (h : Rd id st G) : vload T G t_string (.ptr id [0] 0) = some (.str st.1) := vload_fld h rfl rfl rfl T_string rfl

theorem ch_upd {o o' : AObj} (h : G id = some o) (ho : ∀ t, o ≠ .ro t) : Ch [id] G [id] (G.upd id o') :=
  ⟨roLe_upd h ho, fun j x hj hn => by rw [Heap.upd_ne _ _ (fun e => hn (by simp [e]))]; exact hj, fun j hj => .inl hj⟩

theorem Rd.setFault (h : Rd id st G) (f : Int) : ∃ G', vstore T G t_api_Errno (.ptr id [1] 1) (.int .i64 f) = some G' ∧ Rd id (st.1, f) G' ∧ Ch [id] G [id] G' :=
  ⟨_, vstore_fld h rfl rfl T_api_Errno rfl rfl rfl, Heap.upd_self _ _ _, ch_upd h (by simp)⟩
theorem Rd.setRest (h : Rd id st G) (l : List UInt8) : ∃ G', vstore T G t_string (.ptr id [0] 0) (.str l) = some G' ∧ Rd id (l, st.2) G' ∧ Ch [id] G [id] G' :=
  ⟨_, vstore_fld h rfl rfl T_string rfl rfl rfl, Heap.upd_self _ _ _, ch_upd h (by simp)⟩

theorem str_take {l : List UInt8} {k : IntKind} {n : Int} (h0 : 0 ≤ n) (h : n ≤ l.length) : vslice T t_string (.str l) none (some (.int k n)) none = some (.str (l.take n.toNat)) := by
  have e : n = (n.toNat : Int) := by omega
  have hb := sbounds_high (len := l.length) (cap := l.length) (m := n.toNat) (k := k) (by omega)
  rw [← e] at hb
  simp [vslice, T_string, ti_string, hb]
theorem str_drop {l : List UInt8} {k : IntKind} {n : Int} (h0 : 0 ≤ n) (h : n ≤ l.length) : vslice T t_string (.str l) (some (.int k n)) none none = some (.str (l.drop n.toNat)) := by
  have e : n = (n.toNat : Int) := by omega
  have hb := sbounds_low (len := l.length) (cap := l.length) (m := n.toNat) (k := k) (by omega) (by omega)
  rw [← e] at hb
  simp only [vslice, T_string, ti_string, hb]
  simp
  exact List.take_of_length_le (by simp)

/-- What a reader gives of so many bytes, and how it stands behind. -/
def takes (st : List UInt8 × Int) (n : Int) : List UInt8 × (List UInt8 × Int) :=
  if st.2 = 0 then (if (st.1.length : Int) < n then ([], ([], 2)) else (st.1.take n.toNat, (st.1.drop n.toNat, 0))) else ([], st)

theorem cursor_Open.use {b : List UInt8} (h : ∀ id G', Rd id (b, 0) G' → Ch [] G [id] G' → Q (.ptr id [] 0) G') : ACalls P cursor_Open.n [.str b] G Q := by
  refine cursor_Open.sound ?_
  unfold cursor_Open.S
  intro id hf
  exact h _ _ (Heap.upd_self _ _ _) (Ch.new hf)

theorem cursor_Reader_breaks.use {f : Int} (h : Rd id st G) (hQ : ∀ G', Rd id ([], f) G' → Ch [id] G [id] G' → Q (.tuple []) G') : ACalls P cursor_Reader_breaks.n [.ptr id [] 0, .int .i64 f] G Q := by
  refine cursor_Reader_breaks.sound ?_
  unfold cursor_Reader_breaks.S
  obtain ⟨G1, e1, h1, c1⟩ := h.setRest []
  obtain ⟨G2, e2, h2, c2⟩ := h1.setFault f
  show wg (vstore T G t_string (.ptr id [0] 0) (.str [])) _
  rw [e1, wg_some]
  show wg (vstore T G1 t_api_Errno (.ptr id [1] 1) (.int .i64 f)) _
  rw [e2, wg_some]
  exact hQ G2 h2 (c1.trans c2)

theorem cursor_Reader_take.use {n : Int} (hn : st.2 = 0 → 0 ≤ n) (h : Rd id st G) (hQ : ∀ G', Rd id (takes st n).2 G' → Ch [id] G [id] G' → Q (.str (takes st n).1) G') : ACalls P cursor_Reader_take.n [.ptr id [] 0, .int .i64 n] G Q := by
  refine cursor_Reader_take.sound ?_
  unfold cursor_Reader_take.S
  show wv (vload T G t_api_Errno (.ptr id [1] 1)) _
  rw [h.fault]
  simp -zeta only [wv_some, vbin_neq, brB_ndec]
  refine ⟨fun h0 => ?_, fun h0 => ?_⟩
  · have := hQ G (by simpa [takes, h0] using h) (Ch.refl _ _)
    simpa [takes, h0] using this
  · have hn := hn h0
    show wv (vload T G t_string (.ptr id [0] 0)) _
    rw [h.rest, wv_some]
    show wv (some (.int .i64 st.1.length)) _
    simp -zeta only [wv_some, vbin_lss, brB_dec]
    refine ⟨fun hl => ?_, fun hl => ?_⟩
    · refine cursor_Reader_breaks.use h fun G' hr hc => ?_
      have := hQ G' (by simpa [takes, h0, hl] using hr) hc
      simpa [takes, h0, hl] using this
    · show wv (vload T G t_string (.ptr id [0] 0)) _
      rw [h.rest, wv_some, str_take hn (by omega), wv_some]
      show wv (vload T G t_string (.ptr id [0] 0)) _
      rw [h.rest, wv_some, str_drop hn (by omega), wv_some]
      obtain ⟨G1, e1, h1, c1⟩ := h.setRest (st.1.drop n.toNat)
      show wg (vstore T G t_string (.ptr id [0] 0) (.str (st.1.drop n.toNat))) _
      rw [e1, wg_some]
      have := hQ G1 (by simpa [takes, h0, hl, Rd] using h1) c1
      simpa [takes, h0, hl] using this

/-- The number in bytes. -/
def numA : Nat → List UInt8 → Nat
  | v, [] => v
  | v, b :: l => numA (v * 256 + b.toNat) l
def num (l : List UInt8) : Nat := numA 0 l

theorem vindex_str {l : List UInt8} {j : Nat} (h : j < l.length) : vindex T t_string (.str l) (.int .i64 j) = some (.int .u8 l[j].toNat) := by
  simp [vindex, T_string, ti_string, h]

theorem or_byte (v b : Nat) (hb : b < 256) (hv : v * 256 < 2 ^ 64) : IntKind.u64.wrap ((BitVec.ofInt IntKind.u64.bits ((v * 256 : Nat) : Int) ||| BitVec.ofInt IntKind.u64.bits (b : Int)).toNat) = ((v * 256 + b : Nat) : Int) := by
  have hbits : IntKind.u64.bits = 64 := rfl
  have h1 : (BitVec.ofInt IntKind.u64.bits ((v * 256 : Nat) : Int) ||| BitVec.ofInt IntKind.u64.bits (b : Int)).toNat = v * 256 + b := by
    rw [BitVec.toNat_or, BitVec.ofInt_natCast, BitVec.ofInt_natCast, BitVec.toNat_ofNat, BitVec.toNat_ofNat, hbits, Nat.mod_eq_of_lt hv, Nat.mod_eq_of_lt (by omega)]
    have := Nat.two_pow_add_eq_or_of_lt (i := 8) (b := b) (by omega) v
    rw [Nat.mul_comm v 256]
    exact this.symm
  rw [h1, wrapU64]
  omega

theorem value_core {s : List UInt8} (hs : s.length ≤ 8) (K : AVal → Heap → Prop) (R : List AVal → Heap → Prop)
    (hR : ∀ (x4 x5 x6 x7 : AVal) (G3 : Heap), (wv (vbin T .lss t_int x7 x6) fun v8 => brB (some v8)
      (wv (vbin T .shl t_uint64 x5 (.int .u64 8)) fun v9 => wv (vindex T t_string x4 x7) fun v10 => wv (vconv T G3 t_uint8 t_uint64 v10) fun v11 => wv (vbin T .or t_uint64 v9 v11) fun v12 => wv (vbin T .add t_int x7 (.int .i64 1)) fun v13 => R [x4, v12, x6, v13] G3)
      (K x5 G3)) → R [x4, x5, x6, x7] G3) (hK : K (.int .u64 (num s)) G) : R [.str s, .int .u64 0, .int .i64 s.length, .int .i64 0] G := by
  have loop : ∀ (rest : List UInt8) (v j : Nat), s.drop j = rest → j ≤ s.length → v < 256 ^ j → numA v rest = num s → R [.str s, .int .u64 v, .int .i64 s.length, .int .i64 j] G := by
    intro rest
    induction rest with
    | nil =>
      intro v j hd hj hv he
      have := List.drop_eq_nil_iff.1 hd
      refine hR _ _ _ _ _ ?_
      simp -zeta only [vbin_lss, wv_some, brB_dec]
      refine ⟨fun h => absurd h (by omega), fun _ => ?_⟩
      simp only [numA] at he
      rw [he]
      exact hK
    | cons b rest ih =>
      intro v j hd hj hv he
      have hjl : j < s.length := by
        rcases Nat.lt_or_ge j s.length with h | h
        · exact h
        · rw [List.drop_eq_nil_iff.2 h] at hd; cases hd
      have hb : s[j] = b := by
        have := List.drop_eq_getElem_cons hjl
        rw [hd] at this
        injection this with h1 h2
        exact h1.symm
      have hv7 : v < 256 ^ 7 := Nat.lt_of_lt_of_le hv (Nat.pow_le_pow_right (by omega) (by omega))
      have hblt : b.toNat < 256 := b.toNat_lt
      refine hR _ _ _ _ _ ?_
      simp -zeta only [vbin_lss, wv_some, brB_dec]
      refine ⟨fun _ => ?_, fun h => absurd (by omega) h⟩
      have hsh : IntKind.u64.wrap ((v : Int) * 2 ^ min (Int.toNat 8) IntKind.u64.bits) = ((v * 256 : Nat) : Int) := by
        have : min (Int.toNat 8) IntKind.u64.bits = 8 := rfl
        rw [this, wrapU64]
        omega
      rw [vbin_shl _ _ _ _ _ _ (by omega), wv_some, hsh, vindex_str hjl, wv_some, hb, vconv_int T_uint8 T_uint64 rfl, wv_some, u64_in (n := (b.toNat : Int)) (by omega) (by omega), vbin_or, wv_some, or_byte v b.toNat hblt (by omega)]
      simp -zeta only [vbin_add, wv_some]
      rw [i64_in (by omega) (by omega)]
      refine ih (v * 256 + b.toNat) (j + 1) (by rw [← List.drop_drop, hd]; rfl) (by omega) ?_ he
      rw [Nat.pow_succ]
      omega
  exact loop s 0 0 rfl (by omega) (by simp) rfl

theorem cursor_value_uint64.use {s : List UInt8} (hs : s.length ≤ 8) (hQ : Q (.int .u64 (num s)) G) : ACalls P cursor_value_uint64.n [.str s] G Q := by
  refine cursor_value_uint64.sound ?_
  unfold cursor_value_uint64.S
  show wv (some (.int .i64 s.length)) _
  rw [wv_some]
  intro R hR
  exact value_core hs Q R hR hQ

theorem cursor_value_uint8.use {s : List UInt8} (hs : s.length ≤ 8) (hQ : Q (.int .u8 (num s % 256 : Nat)) G) : ACalls P cursor_value_uint8.n [.str s] G Q := by
  refine cursor_value_uint8.sound ?_
  unfold cursor_value_uint8.S
  show wv (some (.int .i64 s.length)) _
  rw [wv_some]
  intro R hR
  refine value_core hs _ R hR ?_
  rw [vconv_int T_uint64 T_uint8 rfl, wv_some, wrapU8]
  simpa using hQ

theorem cursor_value_uint16.use {s : List UInt8} (hs : s.length ≤ 8) (hQ : Q (.int .u16 (num s % 65536 : Nat)) G) : ACalls P cursor_value_uint16.n [.str s] G Q := by
  refine cursor_value_uint16.sound ?_
  unfold cursor_value_uint16.S
  show wv (some (.int .i64 s.length)) _
  rw [wv_some]
  intro R hR
  refine value_core hs _ R hR ?_
  rw [vconv_int T_uint64 T_uint16 rfl, wv_some, wrapU16]
  simpa using hQ

end
end Go.Esc.M
