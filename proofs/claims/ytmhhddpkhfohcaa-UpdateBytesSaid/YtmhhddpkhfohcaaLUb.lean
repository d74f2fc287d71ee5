/- Own work. Chapter 12: updates written. -/
import Derived.Test.YtmhhddpkhfohcaaLUa
import Derived.Test.YtmhhddpkhfohcaaLDc
import Derived.Test.YtmhhddpkhfohcaaLCw
set_option linter.unusedSimpArgs false
set_option linter.unusedVariables false
namespace Go.Esc.M
open Go Go.Esc

def tailU (u : UpdM) : List UInt8 := if u.kind = 1 then be 8 (bits64 u.amount) ++ u.hash else if u.kind = 2 then u.hash else be 2 u.note.length ++ u.note
def bytesU (u : UpdM) : List UInt8 := be 1 u.kind.toNat ++ (be 2 u.id.toNat ++ tailU u)
def writeR (u : UpdM) : List UInt8 × Int := bif validU u then (bytesU u, 0) else ([], 120)

theorem valid_spec {u : UpdM} (h : validU u = true) : 0 ≤ u.id ∧ u.id < 2048 ∧ ((u.kind = 1 ∧ 1 ≤ u.amount ∧ u.amount ≤ 1152921504606846976 ∧ u.note = []) ∨ (u.kind = 2 ∧ u.amount = 0 ∧ u.note = []) ∨ (u.kind = 3 ∧ u.amount = 0 ∧ u.hash = h0 ∧ u.note.length ≤ 64)) := by
  unfold validU maxAm at h
  simp only [Bool.and_eq_true, decide_eq_true_eq] at h
  obtain ⟨h1, h2, h3⟩ := h
  refine ⟨h1, h2, ?_⟩
  split at h3
  · simp only [Bool.and_eq_true, decide_eq_true_eq] at h3
    rename_i hk
    exact .inl ⟨hk, h3.1, h3.2.1, h3.2.2⟩
  split at h3
  · simp only [Bool.and_eq_true, decide_eq_true_eq] at h3
    rename_i hk
    exact .inr (.inl ⟨hk, h3.1, h3.2⟩)
  split at h3
  · simp only [Bool.and_eq_true, decide_eq_true_eq] at h3
    rename_i hk
    exact .inr (.inr ⟨hk, h3.1, h3.2.1, h3.2.2⟩)
  · cases h3

theorem laidText_ok {bs s : List UInt8} (h : s.length ≤ 65535) : laidText (bs, 0) s = laid (bs, 0) (be 2 s.length ++ s) := by
  unfold laidText laid
  simp [h]

section
variable {F0 : List AId} {G0 G : Heap} {ps : List LP} {Q : AVal → Heap → Prop}

theorem u16_conv (n : Int) (h0 : 0 ≤ n) (h1 : n ≤ 65535) : vconv T G t_int64 t_uint16 (.int .i64 n) = some (.int .u16 (n.toNat : Nat)) := by
  rw [vconv_int T_int64 T_uint16 rfl, u16_in h0 h1]
  congr 2
  omega

theorem slice_upd {i : AId} {u : UpdM} (h : u.ok) (hg : G i = some (.own u.av)) : ∃ x, vslice T t_api_Hash (.ptr i [3] 3) none none none = some x ∧ IsSl 1 G x (u.hash.map u8v) := by
  have e1 : T t_api_Hash = some ti_api_Hash := T_api_Hash
  have e2 : ti_api_Hash.desc = .array 32 t_uint8 := rfl
  refine ⟨.slice i [3] 0 3 32 32, by simp [vslice, e1, e2, T_uint8, sbounds, sbound, ti_uint8], .inl ⟨_, _, _, _, _, _, rfl, ?_⟩⟩
  have hh := h.hash
  have ha : arrAt G 1 i [3] 0 3 = some (u.hash.map u8v) := by
    simp [arrAt, vsub, hg, treeOf, UpdM.av, UpdM.cs, sub, szs, Esc.sz, uni_u8]
  rw [selems, ha]
  simp [hh, List.take_of_length_le]

set_option maxHeartbeats 1000000 in
theorem update_Write.use {u : UpdM} (h : u.ok) (hQ : ∀ G', Ch [] G [] G' → Q (.tuple [.str (writeR u).1, .int .i64 (writeR u).2]) G') : ACalls P update_Write.n [u.av] G Q := by
  refine update_Write.sound ?_
  unfold update_Write.S
  intro i1 f1
  have s1 := (Sp.nil G).row f1 u.av
  refine wv_of (upd_load (i := 0) s1 rfl h).2.2.2.2.2 ?_
  refine update_Valid.use h fun G5 c5 => ?_
  have s5 := s1.tmp c5
  rw [vun_not, wv_some]
  unfold writeR at hQ
  cases hv : validU u with
  | false =>
    rw [hv] at hQ
    exact hQ _ s5.ch
  | true =>
    rw [hv] at hQ
    simp only [cond_true] at hQ
    rw [Bool.not_true, brB_false]
    obtain ⟨hi0, hi1, hk⟩ := valid_spec hv
    have hkr : 1 ≤ u.kind ∧ u.kind ≤ 3 := by omega
    refine cursor_New.use fun iw G8 w8 c8 => ?_
    have s8 := s5.new (p := WrL iw [] 0) w8 c8
    refine wv_of (upd_load (i := 1) s8 rfl h).1 ?_
    refine wv_of (u8_conv u.kind (by omega) (by omega)) ?_
    refine wr (i := 0) s8 rfl (fun h k => cursor_Writer_U8.use (by omega) h (by simp) k) fun G12 s12 => ?_
    refine wv_of (upd_load (i := 1) s12 rfl h).2.1 ?_
    refine wv_of (u16_conv u.id (by omega) (by omega)) ?_
    refine wr (i := 0) s12 rfl (fun h k => cursor_Writer_U16.use (by omega) h (by simp [length_be]) k) fun G16 s16 => ?_
    refine wv_of (upd_load (i := 1) s16 rfl h).1 ?_
    intro J41
    have out : ∀ G' bs, Sp [] G [WrL iw bs 0, RowL i1 u.av] G' → bs = bytesU u → J41 G' := by
      intro G' bs hs hb
      simp -zeta only [J41]
      obtain ⟨F, hw⟩ := hs.get (i := 0) rfl
      refine cursor_Writer_Out.use (st := (bs, 0)) hw ?_
      rw [vext0, wv_some, vext1, wv_some, if_pos rfl, hb]
      exact hQ _ hs.ch
    have s16 : Sp [] G [WrL iw ([] ++ be 1 u.kind.toNat ++ be 2 u.id.toNat) 0, RowL i1 u.av] G16 := s16
    rw [vbin_eql, wv_some, brB_dec]
    refine ⟨fun hk1 => ?_, fun hk1 => ?_⟩
    · refine wv_of (upd_load (i := 1) s16 rfl h).2.2.1 ?_
      refine wr (i := 0) s16 rfl (fun h k => cursor_Writer_I64.use h (by simp [length_be]) k) fun G21 s21 => ?_
      refine wv_of (upd_load (i := 1) s21 rfl h).2.2.2.1 ?_
      refine wr (i := 0) s21 rfl (fun hh k => cursor_Writer_Hash.use h.hash hh (by simp [length_be]) k) fun G24 s24 => ?_
      exact out _ _ s24 (by simp [bytesU, tailU, hk1])
    rw [vbin_eql, wv_some, brB_dec]
    refine ⟨fun hk2 => ?_, fun hk2 => ?_⟩
    · refine wv_of (upd_load (i := 1) s16 rfl h).2.2.2.1 ?_
      refine wr (i := 0) s16 rfl (fun hh k => cursor_Writer_Hash.use h.hash hh (by simp [length_be]) k) fun G24 s24 => ?_
      exact out _ _ s24 (by simp [bytesU, tailU, hk2])
    rw [vbin_eql, wv_some, brB_dec]
    refine ⟨fun hk3 => ?_, fun hk3 => absurd (by omega) hk3⟩
    have hn : u.note.length ≤ 64 := by
      rcases hk with hk | hk | hk
      · omega
      · omega
      · exact hk.2.2.2
    refine wv_of (upd_load (i := 1) s16 rfl h).2.2.2.2.1 ?_
    refine wr (i := 0) (xs := be 2 u.note.length ++ u.note) s16 rfl (fun hh k => cursor_Writer_Text.use hh (by simp [length_be]; omega) (by rw [laidText_ok (by omega)]; exact k)) fun G32 s32 => ?_
    exact out _ _ s32 (by simp [bytesU, tailU, hk1, hk2])

theorem bits64_nat {n : Int} (h0 : 0 ≤ n) (h1 : n ≤ 9223372036854775807) : bits64 n = n.toNat := by
  unfold bits64; omega

set_option maxHeartbeats 1000000 in
theorem escrowref12_Write.use {u : UpdM} (h : u.ok) (hQ : ∀ G', Ch [] G [] G' → Q (.tuple [.str (writeR u).1, .int .i64 (writeR u).2]) G') : ACalls P escrowref12_Write.n [u.av] G Q := by
  refine escrowref12_Write.sound ?_
  unfold escrowref12_Write.S
  intro i1 f1
  have s1 := (Sp.nil G).row f1 u.av
  refine wv_of (upd_load (i := 0) s1 rfl h).2.2.2.2.2 ?_
  refine escrowref12_Valid.use h fun G5 c5 => ?_
  have s5 := s1.tmp c5
  rw [vun_not, wv_some]
  unfold writeR at hQ
  cases hv : validU u with
  | false =>
    rw [hv] at hQ
    exact hQ _ s5.ch
  | true =>
    rw [hv] at hQ
    simp only [cond_true] at hQ
    rw [Bool.not_true, brB_false]
    obtain ⟨hi0, hi1, hk⟩ := valid_spec hv
    have hkr : 1 ≤ u.kind ∧ u.kind ≤ 3 := by omega
    have hh := h.hash
    refine wv_of (upd_load (i := 0) s5 rfl h).1 ?_
    rw [vconv_int T_int T_uint64 rfl, wrap_bits64, wv_some]
    refine wv_of (upd_load (i := 0) s5 rfl h).2.1 ?_
    rw [vconv_int T_int64 T_uint64 rfl, wrap_bits64, wv_some]
    refine escrowref03_Bytes.use (k := 1) (by omega) fun G12 c12 => ?_
    have s12 := s5.tmp c12
    refine ⟨⟨(upd_load (i := 0) s12 rfl h).2.1, trivial⟩, ?_⟩
    refine escrowref03_Bytes.use (k := 2) (by omega) fun G14 c14 => ?_
    have s14 := s12.tmp c14
    rw [bits64_nat (n := u.kind) (by omega) (by omega), bits64_nat (n := u.id) (by omega) (by omega), vbin_sadd _ _ (by simp [length_be]), wv_some]
    refine wv_of (upd_load (i := 0) s14 rfl h).1 ?_
    rw [vbin_eql, wv_some, brB_dec]
    obtain ⟨x, hx, hxs⟩ := slice_upd h (RowL.own (i := 0) s14 rfl)
    have hcv : ∀ {G' : Heap}, IsSl 1 G' x (u.hash.map u8v) → vconv T G' t_sl_uint8 t_string x = some (.str u.hash) := fun hh => conv_bytes (si := ti_sl_uint8) (ie := ti_uint8) (di := ti_string) T_sl_uint8 rfl T_uint8 rfl T_string rfl hh
    refine ⟨fun hk1 => ?_, fun hk1 => ?_⟩
    · refine wv_of (upd_load (i := 0) s14 rfl h).2.2.1 ?_
      rw [vconv_int T_int64 T_uint64 rfl, wrap_bits64, wv_some]
      refine wv_of hx ?_
      refine wv_of (hcv hxs) ?_
      refine escrowref03_Bytes.use (k := 8) (by omega) fun G23 c23 => ?_
      have s23 := s14.tmp c23
      refine ⟨⟨hcv (hxs.ch' c23), trivial⟩, ?_⟩
      rw [vbin_sadd _ _ (by simp [length_be]), wv_some, vbin_sadd _ _ (by simp [length_be, hh]), wv_some]
      have e : be 1 u.kind.toNat ++ be 2 u.id.toNat ++ be 8 (bits64 u.amount) ++ u.hash = bytesU u := by simp [bytesU, tailU, hk1]
      rw [e]
      exact hQ _ s23.ch
    rw [vbin_eql, wv_some, brB_dec]
    refine ⟨fun hk2 => ?_, fun hk2 => ?_⟩
    · refine wv_of hx ?_
      refine wv_of (hcv hxs) ?_
      rw [vbin_sadd _ _ (by simp [length_be, hh]), wv_some]
      have e : be 1 u.kind.toNat ++ be 2 u.id.toNat ++ u.hash = bytesU u := by simp [bytesU, tailU, hk2]
      rw [e]
      exact hQ _ s14.ch
    have hn : u.note.length ≤ 64 := by
      rcases hk with hk | hk | hk
      · omega
      · omega
      · exact hk.2.2.2
    refine wv_of (upd_load (i := 0) s14 rfl h).2.2.2.2.1 ?_
    show wv (some (.int .i64 (u.note.length : Nat))) _
    rw [wv_some, vconv_int T_int T_uint64 rfl, wrap_bits64, wv_some]
    refine wv_of (upd_load (i := 0) s14 rfl h).2.2.2.2.1 ?_
    refine escrowref03_Bytes.use (k := 2) (by omega) fun G35 c35 => ?_
    have s35 := s14.tmp c35
    refine ⟨⟨(upd_load (i := 0) s35 rfl h).2.2.2.2.1, trivial⟩, ?_⟩
    rw [bits64_nat (by omega) (by omega), Int.toNat_natCast, vbin_sadd _ _ (by simp [length_be]), wv_some, vbin_sadd _ _ (by simp [length_be]; omega), wv_some]
    have e : be 1 u.kind.toNat ++ be 2 u.id.toNat ++ be 2 u.note.length ++ u.note = bytesU u := by simp [bytesU, tailU, hk1, hk2]
    rw [e]
    exact hQ _ s35.ch

end
end Go.Esc.M
