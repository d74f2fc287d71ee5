/- Own work. Chapter 11: seals. -/
import Derived.Test.YtjfnbjpggfjhnaaLHf
set_option linter.unusedSimpArgs false
set_option linter.unusedVariables false
namespace Go.Esc.M
open Go Go.Esc

section
variable {F0 : List AId} {G0 G : Heap} {ps : List LP} {Q : AVal → Heap → Prop}

/-- A hash in a new row. -/
theorem newHash {h : List UInt8} {K : AId → Heap → Prop} (hs : Sp F0 G0 ps G) (hl : h.length = 32) (hK : ∀ i G', Sp F0 G0 (RowL i (.agg (h.map u8v)) :: ps) G' → K i G') :
    aNew G (.own z_api_Hash) fun i G2 => wg (vstore T G2 t_api_Hash (.ptr i [] 0) (.agg (h.map u8v))) fun G3 => K i G3 := by
  intro i hf
  rw [z_hash]
  have s := hs.row hf (.agg ((List.replicate 32 (0 : UInt8)).map u8v))
  rw [store_hash (by simp) hl (RowL.own (i := 0) s rfl), wg_some]
  exact hK _ _ (Sp.setRow s (j := 0) rfl _)

theorem hash_in {i : Nat} {id : AId} {h : List UInt8} (hs : Sp F0 G0 ps G) (hi : ps[i]? = some (RowL id (.agg (h.map u8v)))) (hl : h.length = 32) : vload T G t_api_Hash (.ptr id [] 0) = some (.agg (h.map u8v)) := load_hash hl (RowL.own hs hi)

theorem seal_Sign.use {key text : List UInt8} (hk : key.length = 32) (hl : text.length ≤ 281474976700000) (hQ : ∀ G', Ch [] G [] G' → Q (.agg ((mac key text).map u8v)) G') : ACalls P seal_Sign.n [.agg (key.map u8v), .str text] G Q := by
  refine seal_Sign.sound ?_
  unfold seal_Sign.S
  rw [z_hash]
  intro i1 f1
  have s1 := (Sp.nil G).row f1 (.agg (key.map u8v))
  intro i3 f3
  have s3 := s1.row f3 (.agg ((List.replicate 32 (0 : UInt8)).map u8v))
  rw [hash_in (i := 1) s3 rfl hk, wv_some]
  refine hash_Mac.use hk hl fun G7 c7 => ?_
  have s7 := s3.tmp c7
  have hm : (mac key text).length = 32 := length_sha _
  rw [store_hash (by simp) hm (RowL.own (i := 0) s7 rfl), wg_some, load_hash hm (Heap.upd_self _ _ _), wv_some]
  exact hQ _ (Sp.setRow s7 (j := 0) rfl (.agg ((mac key text).map u8v))).ch

theorem escrowref11_Sign.use {key text : List UInt8} (hk : key.length = 32) (hl : text.length ≤ 140737488354000) (hQ : ∀ G', Ch [] G [] G' → Q (.agg ((mac key text).map u8v)) G') : ACalls P escrowref11_Sign.n [.agg (key.map u8v), .str text] G Q := by
  refine escrowref11_Sign.sound ?_
  unfold escrowref11_Sign.S
  rw [z_hash]
  intro i1 f1
  have s1 := (Sp.nil G).row f1 (.agg (key.map u8v))
  intro i3 f3
  have s3 := s1.row f3 (.agg ((List.replicate 32 (0 : UInt8)).map u8v))
  rw [hash_in (i := 1) s3 rfl hk, wv_some]
  refine escrowref02_Mac.use hk hl fun G7 c7 => ?_
  have s7 := s3.tmp c7
  have hm : (mac key text).length = 32 := length_sha _
  rw [store_hash (by simp) hm (RowL.own (i := 0) s7 rfl), wg_some, load_hash hm (Heap.upd_self _ _ _), wv_some]
  exact hQ _ (Sp.setRow s7 (j := 0) rfl (.agg ((mac key text).map u8v))).ch

theorem hash_eql {a b : List UInt8} (ha : a.length = 32) (hb : b.length = 32) : vbin T .eql t_api_Hash (.agg (a.map u8v)) (.agg (b.map u8v)) = some (.bool (decide (a = b))) := vbin_heql T_api_Hash rfl T_uint8 rfl rfl ha hb
theorem hash_neq {a b : List UInt8} (ha : a.length = 32) (hb : b.length = 32) : vbin T .neq t_api_Hash (.agg (a.map u8v)) (.agg (b.map u8v)) = some (.bool (!decide (a = b))) := vbin_hneq T_api_Hash rfl T_uint8 rfl rfl ha hb

theorem seal_Right.use {key text sig : List UInt8} (hk : key.length = 32) (hs : sig.length = 32) (hl : text.length ≤ 281474976700000) (hQ : ∀ G', Ch [] G [] G' → Q (.bool (decide (mac key text = sig))) G') :
    ACalls P seal_Right.n [.agg (key.map u8v), .str text, .agg (sig.map u8v)] G Q := by
  refine seal_Right.sound ?_
  unfold seal_Right.S
  intro i1 f1
  have s1 := (Sp.nil G).row f1 (.agg (key.map u8v))
  intro i3 f3
  have s3 := s1.row f3 (.agg (sig.map u8v))
  rw [hash_in (i := 1) s3 rfl hk, wv_some, hash_in (i := 0) s3 rfl hs, wv_some]
  refine seal_Sign.use hk hl fun G7 c7 => ?_
  have s7 := s3.tmp c7
  refine ⟨⟨hash_in (i := 0) s7 rfl hs, trivial⟩, ?_⟩
  rw [hash_eql (a := mac key text) (length_sha _) hs, wv_some]
  exact hQ _ s7.ch

theorem escrowref11_Right.use {key text sig : List UInt8} (hk : key.length = 32) (hs : sig.length = 32) (hl : text.length ≤ 140737488354000) (hQ : ∀ G', Ch [] G [] G' → Q (.bool (decide (mac key text = sig))) G') :
    ACalls P escrowref11_Right.n [.agg (key.map u8v), .str text, .agg (sig.map u8v)] G Q := by
  refine escrowref11_Right.sound ?_
  unfold escrowref11_Right.S
  intro i1 f1
  have s1 := (Sp.nil G).row f1 (.agg (key.map u8v))
  intro i3 f3
  have s3 := s1.row f3 (.agg (sig.map u8v))
  rw [hash_in (i := 1) s3 rfl hk, wv_some]
  refine escrowref11_Sign.use hk hl fun G7 c7 => ?_
  have s7 := s3.tmp c7
  obtain ⟨m, hm, hml⟩ : ∃ m, mac key text = m ∧ m.length = 32 := ⟨_, rfl, length_sha _⟩
  rw [hm] at hQ ⊢
  refine newHash s7 hml fun i8 G10 s10 => ?_
  intro R11 hR11
  have loop : ∀ (n j : Nat), 32 - j = n → j ≤ 32 → m.take j = sig.take j → R11 [.ptr i3 [] 0, .ptr i8 [] 0, .int .i64 (j : Int)] G10 := by
    intro n
    induction n with
    | zero =>
      intro j hn hj he
      have : j = 32 := by omega
      subst this
      rw [List.take_of_length_le (by omega), List.take_of_length_le (by omega)] at he
      refine hR11 _ _ _ _ ?_
      rw [vbin_lss, wv_some, brB_dec]
      refine ⟨fun h => absurd h (by decide), fun _ => ?_⟩
      have := hQ _ s10.ch
      rw [decide_eq_true he] at this
      exact this
    | succ n ih =>
      intro j hn hj he
      refine hR11 _ _ _ _ ?_
      rw [vbin_lss, wv_some, brB_dec]
      refine ⟨fun _ => ?_, fun h => absurd (by omega) h⟩
      rw [addr_hash (by omega), wv_some, load_byte (by omega) (RowL.own (i := 0) s10 rfl), wv_some, addr_hash (by omega), wv_some, load_byte (by omega) (RowL.own (i := 1) s10 rfl), wv_some]
      show wv (vbin T .neq t_uint8 (.int .u8 (m[j]'(by omega)).toNat) (.int .u8 (sig[j]'(by omega)).toNat)) _
      rw [vbin_neq, wv_some, brB_ndec]
      refine ⟨fun hne => ?_, fun heq => ?_⟩
      · have := hQ _ s10.ch
        rw [decide_eq_false (fun e => hne (by subst e; rfl))] at this
        exact this
      · rw [vbin_add, wv_some, i64_in (by omega) (by omega)]
        refine ih (j + 1) (by omega) (by omega) ?_
        rw [List.take_succ_eq_append_getElem (by omega), List.take_succ_eq_append_getElem (by omega), he]
        have : m[j]'(by omega) = sig[j]'(by omega) := UInt8.toNat_inj.1 (by omega)
        rw [this]
  exact loop 32 0 rfl (by omega) rfl

def sealZero : List UInt8 := [0xb6, 0x13, 0x67, 0x9a, 0x08, 0x14, 0xd9, 0xec, 0x77, 0x2f, 0x95, 0xd7, 0x78, 0xc3, 0x5f, 0xc5, 0xff, 0x16, 0x97, 0xc4, 0x93, 0x71, 0x56, 0x53, 0xc6, 0xc7, 0x12, 0x14, 0x42, 0x92, 0xc5, 0xad]
theorem mac_zero : mac (List.replicate 32 0) [] = sealZero := by decide +kernel

theorem zero_hash : vbuild T t_api_Hash [] = some (.agg ((List.replicate 32 (0 : UInt8)).map u8v)) := rfl

theorem u8_eql (a : UInt8) (b : Nat) : vbin T .eql t_uint8 (u8v a) (.int .u8 (b : Int)) = some (.bool (decide (a.toNat = b))) := by
  show vbin T .eql t_uint8 (.int .u8 a.toNat) (.int .u8 (b : Int)) = _
  rw [vbin_eql]
  congr 2
  rw [decide_eq_decide]
  omega

theorem escrowlaw11_first.use (hQ : ∀ G', Ch [] G [] G' → Q (.bool true) G') : ACalls P escrowlaw11_first.n [] G Q := by
  refine escrowlaw11_first.sound ?_
  unfold escrowlaw11_first.S
  rw [zero_hash, wv_some]
  refine seal_Sign.use (by simp) (by simp) fun G3 c3 => ?_
  have s3 := (Sp.nil G).tmp c3
  rw [mac_zero]
  refine newHash s3 rfl fun i4 G6 s6 => ?_
  rw [hash_in (i := 0) s6 rfl rfl, wv_some]
  refine newHash s6 rfl fun i8 G10 s10 => ?_
  have l31 : vload T G10 t_uint8 (.ptr i8 [31] (31 * 1)) = some (u8v 0xad) := load_byte (hs := sealZero) (j := 31) (by decide) (RowL.own (i := 0) s10 rfl)
  have e1 : vbin T .xor t_uint8 (u8v 0xad) (.int .u8 1) = some (u8v 0xac) := u8_xor 0xad 1
  have a31 : ∀ i, viaddr T t_api_Hash (.ptr i [] 0) (.int .i64 31) = some (.ptr i [31] (31 * 1)) := fun i => addr_hash (j := 31) (by decide)
  rw [a31, wv_some, l31, wv_some, e1, wv_some, wv_some, store_byte (hs := sealZero) (j := 31) (by decide) (RowL.own (i := 0) s10 rfl), wg_some]
  have s15 := Sp.setRow s10 (j := 0) rfl (.agg ((sealZero.set 31 0xac).map u8v))
  revert s15
  generalize Heap.upd _ i8 (.own (.agg ((sealZero.set 31 0xac).map u8v))) = G15
  intro s15
  have g4 := RowL.own (i := 1) s15 rfl
  have a0 : viaddr T t_api_Hash (.ptr i4 [] 0) (.int .i64 0) = some (.ptr i4 [0] (0 * 1)) := addr_hash (j := 0) (by decide)
  have a1 : viaddr T t_api_Hash (.ptr i4 [] 0) (.int .i64 1) = some (.ptr i4 [1] (1 * 1)) := addr_hash (j := 1) (by decide)
  have a30 : viaddr T t_api_Hash (.ptr i4 [] 0) (.int .i64 30) = some (.ptr i4 [30] (30 * 1)) := addr_hash (j := 30) (by decide)
  have l0 : vload T G15 t_uint8 (.ptr i4 [0] (0 * 1)) = some (u8v 0xb6) := load_byte (hs := sealZero) (j := 0) (by decide) g4
  have l1 : vload T G15 t_uint8 (.ptr i4 [1] (1 * 1)) = some (u8v 0x13) := load_byte (hs := sealZero) (j := 1) (by decide) g4
  have l30 : vload T G15 t_uint8 (.ptr i4 [30] (30 * 1)) = some (u8v 0xc5) := load_byte (hs := sealZero) (j := 30) (by decide) g4
  have l31 : vload T G15 t_uint8 (.ptr i4 [31] (31 * 1)) = some (u8v 0xad) := load_byte (hs := sealZero) (j := 31) (by decide) g4
  have q0 : vbin T .eql t_uint8 (u8v 0xb6) (.int .u8 182) = some (.bool true) := rfl
  have q1 : vbin T .eql t_uint8 (u8v 0x13) (.int .u8 19) = some (.bool true) := rfl
  have q30 : vbin T .eql t_uint8 (u8v 0xc5) (.int .u8 197) = some (.bool true) := rfl
  have q31 : vbin T .eql t_uint8 (u8v 0xad) (.int .u8 173) = some (.bool true) := rfl
  rw [a0, wv_some, l0, wv_some, q0, wv_some, brB_true, a1, wv_some, l1, wv_some, q1, wv_some, brB_true, a30, wv_some, l30, wv_some, q30, wv_some, brB_true]
  rw [a31, wv_some, l31, wv_some, q31, wv_some, brB_true, wv_some, hash_in (i := 1) s15 rfl rfl, wv_some]
  refine seal_Right.use (by simp) rfl (by simp) fun G31 c31 => ?_
  have s31 := s15.tmp c31
  rw [mac_zero, decide_eq_true rfl, brB_true, wv_some, hash_in (i := 0) s31 rfl rfl, wv_some]
  refine seal_Right.use (by simp) rfl (by simp) fun G35 c35 => ?_
  have s35 := s31.tmp c35
  rw [mac_zero, decide_eq_false (by decide), vun_not, wv_some]
  exact hQ _ s35.ch

theorem law_SealSigns {G : Heap} {k o t m : AVal} {mk mo mt mm : Nat} (hk : wt T G reachBytes 4 t_api_Hash k mk) (ho : wt T G reachBytes 4 t_api_Hash o mo) (ht : wt T G reachBytes 4 t_string t mt) (hm : wt T G reachBytes 4 t_string m mm) :
    ACalls P escrowlaw11_SealSigns.n [k, o, t, m] G fun v _ => v = .bool true := by
  obtain ⟨k, rfl, k32, _⟩ := wt_hash T_api_Hash rfl T_uint8 rfl hk
  obtain ⟨o, rfl, o32, _⟩ := wt_hash T_api_Hash rfl T_uint8 rfl ho
  obtain ⟨t, rfl, tl, _⟩ := wt_str T_string rfl ht
  obtain ⟨m, rfl, ml, _⟩ := wt_str T_string rfl hm
  have tl : t.length ≤ 140737488351232 := tl
  have ml : m.length ≤ 140737488351232 := ml
  refine escrowlaw11_SealSigns.sound ?_
  unfold escrowlaw11_SealSigns.S
  intro i1 f1
  have s1 := (Sp.nil G).row f1 (.agg (k.map u8v))
  intro i3 f3
  have s3 := s1.row f3 (.agg (o.map u8v))
  rw [hash_in (i := 1) s3 rfl k32, wv_some]
  refine seal_Sign.use k32 (by omega) fun G7 c7 => ?_
  have s7 := s3.tmp c7
  have hS : (mac k t).length = 32 := length_sha _
  refine newHash s7 hS fun i8 G10 s10 => ?_
  rw [hash_in (i := 1) s10 rfl o32, wv_some]
  refine seal_Sign.use o32 (by omega) fun G13 c13 => ?_
  have s13 := s10.tmp c13
  rw [hash_in (i := 2) s13 rfl k32, wv_some]
  refine seal_Sign.use k32 (by omega) fun G16 c16 => ?_
  have s16 := s13.tmp c16
  refine newHash s16 hS fun i17 G19 s19 => ?_
  rw [hash_in (i := 3) s19 rfl k32, wv_some]
  refine escrowref11_Sign.use k32 (by omega) fun G22 c22 => ?_
  have s22 := s19.tmp c22
  refine newHash s22 hS fun i23 G25 s25 => ?_
  rw [hash_in (i := 2) s25 rfl hS, wv_some, hash_in (i := 0) s25 rfl hS, wv_some, hash_eql hS hS, decide_eq_true rfl, wv_some, brB_true]
  rw [hash_in (i := 1) s25 rfl hS, wv_some, wv_some, hash_eql hS hS, decide_eq_true rfl, wv_some, brB_true]
  exact escrowlaw11_first.use fun _ _ => rfl

theorem law_SealRights {G : Heap} {k t s : AVal} {mk mt ms : Nat} (hk : wt T G reachBytes 4 t_api_Hash k mk) (ht : wt T G reachBytes 4 t_string t mt) (hs : wt T G reachBytes 4 t_api_Hash s ms) :
    ACalls P escrowlaw11_SealRights.n [k, t, s] G fun v _ => v = .bool true := by
  obtain ⟨k, rfl, k32, _⟩ := wt_hash T_api_Hash rfl T_uint8 rfl hk
  obtain ⟨s, rfl, s32, _⟩ := wt_hash T_api_Hash rfl T_uint8 rfl hs
  obtain ⟨t, rfl, tl, _⟩ := wt_str T_string rfl ht
  have tl : t.length ≤ 140737488351232 := tl
  refine escrowlaw11_SealRights.sound ?_
  unfold escrowlaw11_SealRights.S
  intro i1 f1
  have s1 := (Sp.nil G).row f1 (.agg (k.map u8v))
  intro i3 f3
  have s3 := s1.row f3 (.agg (s.map u8v))
  rw [hash_in (i := 1) s3 rfl k32, wv_some, hash_in (i := 0) s3 rfl s32, wv_some]
  refine seal_Right.use k32 s32 (by omega) fun G8 c8 => ?_
  have s8 := s3.tmp c8
  rw [hash_in (i := 1) s8 rfl k32, wv_some, hash_in (i := 0) s8 rfl s32, wv_some]
  refine escrowref11_Right.use k32 s32 (by omega) fun G12 c12 => ?_
  rw [vbin_beql T_bool rfl, wv_some, beq_self_eq_true, brB_true]
  exact escrowlaw11_first.use fun _ _ => rfl

theorem law_SealOne {G : Heap} {k t s b : AVal} {mk mt ms mb : Nat} (hk : wt T G reachBytes 4 t_api_Hash k mk) (ht : wt T G reachBytes 4 t_string t mt) (hs : wt T G reachBytes 4 t_api_Hash s ms) (hb : wt T G reachBytes 4 t_int b mb) :
    ACalls P escrowlaw11_SealOne.n [k, t, s, b] G fun v _ => v = .bool true := by
  obtain ⟨k, rfl, k32, _⟩ := wt_hash T_api_Hash rfl T_uint8 rfl hk
  obtain ⟨s, rfl, s32, _⟩ := wt_hash T_api_Hash rfl T_uint8 rfl hs
  obtain ⟨t, rfl, tl, _⟩ := wt_str T_string rfl ht
  obtain ⟨b, rfl, bw, _⟩ := wt_int T_int rfl hb
  have tl : t.length ≤ 140737488351232 := tl
  refine escrowlaw11_SealOne.sound ?_
  unfold escrowlaw11_SealOne.S
  intro i1 f1
  have s1 := (Sp.nil G).row f1 (.agg (k.map u8v))
  intro i3 f3
  have s3 := s1.row f3 (.agg (s.map u8v))
  rw [hash_in (i := 1) s3 rfl k32, wv_some]
  refine seal_Sign.use k32 (by omega) fun G7 c7 => ?_
  have s7 := s3.tmp c7
  obtain ⟨M, hM, hS⟩ : ∃ m, mac k t = m ∧ m.length = 32 := ⟨_, rfl, length_sha _⟩
  rw [hM]
  refine newHash s7 hS fun i8 G10 s10 => ?_
  rw [hash_in (i := 0) s10 rfl hS, wv_some]
  refine newHash s10 hS fun i12 G14 s14 => ?_
  have em : vbin T .and t_int (.int .i64 b) (.int .i64 255) = some (.int .i64 (b % 256)) := by
    have := and_mask b 8 (by omega)
    rw [show ((2 ^ 8 - 1 : Nat) : Int) = 255 from rfl, show ((2 ^ 8 : Nat) : Int) = 256 from rfl] at this
    rw [vbin_and, this]
  obtain ⟨c, hc⟩ : ∃ c : Nat, b % 256 = (c : Int) := ⟨(b % 256).toNat, by omega⟩
  have hc256 : c < 256 := by omega
  have hq8 : (c : Int).tdiv 8 = ((c / 8 : Nat) : Int) := tdiv_nat c 8
  have hr8 : (c : Int).tmod 8 = ((c % 8 : Nat) : Int) := tmod_nat' c 8
  have hj : c / 8 < 32 := by omega
  rw [em, wv_some, hc, vbin_quo _ _ _ _ _ (by decide), wv_some, hq8, i64_in (by omega) (by omega), wv_some, addr_hash hj, wv_some, load_byte (by omega) (RowL.own (i := 0) s14 rfl), wv_some, vbin_rem _ _ _ _ _ (by decide), wv_some, hr8]
  have esh : vbin T .shl t_uint8 (.int .u8 1) (.int .i64 ((c % 8 : Nat) : Int)) = some (u8v (UInt8.ofNat (2 ^ (c % 8)))) := by
    rw [vbin_shl _ _ _ _ _ _ (by omega), u8v_ofNat]
    have h1 : min (((c % 8 : Nat) : Int)).toNat IntKind.u8.bits = c % 8 := by
      have : IntKind.u8.bits = 8 := rfl
      omega
    rw [h1, wrapU8]
    simp
  have hne : UInt8.ofNat (2 ^ (c % 8)) ≠ 0 := by
    have h8 : c % 8 < 8 := by omega
    generalize c % 8 = r at h8
    have : r = 0 ∨ r = 1 ∨ r = 2 ∨ r = 3 ∨ r = 4 ∨ r = 5 ∨ r = 6 ∨ r = 7 := by omega
    rcases this with rfl | rfl | rfl | rfl | rfl | rfl | rfl | rfl <;> decide
  rw [esh, wv_some, u8_xor, wv_some, wv_some, store_byte (by omega) (RowL.own (i := 0) s14 rfl), wg_some]
  obtain ⟨M', hM'⟩ : ∃ M', M.set (c / 8) (M[c / 8]'(by omega) ^^^ UInt8.ofNat (2 ^ (c % 8))) = M' := ⟨_, rfl⟩
  have hS' : M'.length = 32 := by rw [← hM']; simpa using hS
  have hMM : M ≠ M' := by
    intro e
    have h1 : M'[c / 8]? = some (M[c / 8]'(by omega) ^^^ UInt8.ofNat (2 ^ (c % 8))) := by rw [← hM', List.getElem?_set_self (by omega)]
    rw [← e, List.getElem?_eq_getElem (by omega)] at h1
    injection h1 with h1
    have h2 := congrArg (fun z => M[c / 8]'(by omega) ^^^ z) h1
    simp only [← UInt8.xor_assoc, UInt8.xor_self, UInt8.zero_xor] at h2
    exact hne h2.symm
  rw [hM']
  have s24 := Sp.setRow s14 (j := 0) rfl (.agg (M'.map u8v))
  rw [hash_in (i := 3) s24 rfl k32, wv_some, hash_in (i := 1) s24 rfl hS, wv_some]
  refine seal_Right.use k32 hS (by omega) fun G28 c28 => ?_
  have s28 := s24.tmp c28
  rw [decide_eq_true hM, brB_true, hash_in (i := 3) s28 rfl k32, wv_some, hash_in (i := 0) s28 rfl hS', wv_some]
  refine seal_Right.use k32 hS' (by omega) fun G32 c32 => ?_
  have s32' := s28.tmp c32
  rw [decide_eq_false (by rw [hM]; exact hMM), vun_not, wv_some, Bool.not_false, brB_true]
  rw [hash_in (i := 3) s32' rfl k32, wv_some, hash_in (i := 2) s32' rfl s32, wv_some, wv_some, hash_in (i := 1) s32' rfl hS, wv_some, hash_eql s32 hS, wv_some]
  refine seal_Right.use k32 s32 (by omega) fun G40 c40 => ?_
  have s40 := s32'.tmp c40
  refine ⟨⟨hash_in (i := 1) s40 rfl hS, hash_in (i := 2) s40 rfl s32, trivial⟩, ?_⟩
  have eb : (decide (mac k t = s) == decide (s = M)) = true := by
    rw [hM]
    by_cases h : M = s
    · subst h; simp
    · simp [h, Ne.symm h]
  rw [vbin_beql T_bool rfl, wv_some, eb, brB_true, hash_in (i := 3) s40 rfl k32, wv_some, hash_in (i := 1) s40 rfl hS, wv_some]
  refine seal_Sign.use k32 (by omega) fun G45 c45 => ?_
  have s45 := s40.tmp c45
  refine ⟨⟨hash_in (i := 1) s45 rfl hS, trivial⟩, ?_⟩
  rw [hM, hash_eql hS hS, decide_eq_true rfl, wv_some, brB_true]
  exact escrowlaw11_first.use fun _ _ => rfl

end
end Go.Esc.M
