/- Own work. Chapter 14: commitments read, in the document. -/
import Derived.Test.YtdbkngfdaeminaaLDb
set_option linter.unusedSimpArgs false
set_option linter.unusedVariables false
set_option maxRecDepth 20000
namespace Go.Esc.M
open Go Go.Esc

def slice (b : List UInt8) (at_ n : Nat) : List UInt8 := (b.drop at_).take n
theorem length_slice {b : List UInt8} {at_ n : Nat} (h : at_ + n ≤ b.length) : (slice b at_ n).length = n := by
  rw [slice, List.length_take, List.length_drop]; omega
theorem num_slice_one {b : List UInt8} {a : Nat} (h : a < b.length) : num (slice b a 1) = b[a].toNat := by
  have e0 : (slice b a 1) = [b[a]] := by
    rw [slice, List.drop_eq_getElem_cons h]
    rfl
  rw [e0]; simp [num, numA]
def penAt (b : List UInt8) (at_ : Nat) : PenM :=
  ⟨num (slice b at_ 1) == 1, IntKind.i64.wrap (num (slice b (at_ + 1) 8) : Nat), IntKind.i64.wrap (num (slice b (at_ + 9) 8) : Nat), slice b (at_ + 17) 32⟩
def pensAt (b : List UInt8) : Nat → Nat → List PenM
  | _, 0 => []
  | at_, k + 1 => penAt b at_ :: pensAt b (at_ + 49) k
theorem pensAt_succ (b : List UInt8) : ∀ (k at_ : Nat), pensAt b at_ (k + 1) = pensAt b at_ k ++ [penAt b (at_ + 49 * k)]
  | 0, at_ => by simp [pensAt]
  | k + 1, at_ => by
    rw [pensAt, pensAt_succ b k, pensAt, List.cons_append, show at_ + 49 + 49 * k = at_ + 49 * (k + 1) by omega]
theorem length_pensAt (b : List UInt8) : ∀ (k at_ : Nat), (pensAt b at_ k).length = k
  | 0, _ => rfl
  | k + 1, at_ => by rw [pensAt, List.length_cons, length_pensAt b k]
theorem hw64 (n : Int) : I64 (IntKind.i64.wrap n) := i64_wf.1 (wf_wrap .i64 n)
theorem penAt_ok {b : List UInt8} {at_ : Nat} (h : at_ + 49 ≤ b.length) : (penAt b at_).ok := ⟨hw64 _, hw64 _, length_slice (by omega)⟩
theorem pensAt_ok {b : List UInt8} : ∀ (k at_ : Nat), at_ + 49 * k ≤ b.length → ∀ p ∈ pensAt b at_ k, p.ok
  | 0, _, _ => by simp [pensAt]
  | k + 1, at_, h => by
    intro p hp
    rw [pensAt] at hp
    rcases List.mem_cons.1 hp with rfl | hp
    · exact penAt_ok (by omega)
    · exact pensAt_ok k _ (by omega) p hp

theorem takes_at {b : List UInt8} {at_ n : Nat} {nn : Int} (hn : nn = (n : Int)) (h : at_ + n ≤ b.length) : takes (b.drop at_, 0) nn = (slice b at_ n, (b.drop (at_ + n), 0)) := by
  subst hn
  rw [takes_ok (by rw [List.length_drop]; omega), Int.toNat_natCast, List.drop_drop]
  rfl

theorem penR_at {b : List UInt8} {at_ : Nat} (h : at_ + 49 ≤ b.length) : penR (b.drop at_, 0) = (penAt b at_, (b.drop (at_ + 49), 0)) := by
  have e1 := takes_at (b := b) (at_ := at_) (n := 1) (nn := 1) rfl (by omega)
  have e2 := takes_at (b := b) (at_ := at_ + 1) (n := 8) (nn := 8) rfl (by omega)
  have e3 := takes_at (b := b) (at_ := at_ + 1 + 8) (n := 8) (nn := 8) rfl (by omega)
  have e4 := takes_at (b := b) (at_ := at_ + 1 + 8 + 8) (n := 32) (nn := 32) rfl (by omega)
  simp only [penR, e1, e2, e3, e4, fill_full (length_slice (b := b) (at_ := at_ + 1 + 8 + 8) (n := 32) (by omega))]
  rfl

theorem pensR_at {b : List UInt8} : ∀ (k at_ : Nat) (acc : List PenM), at_ + 49 * k ≤ b.length → pensR k (b.drop at_, 0) acc = (acc ++ pensAt b at_ k, (b.drop (at_ + 49 * k), 0))
  | 0, at_, acc, _ => by simp [pensR, pensAt]
  | k + 1, at_, acc, h => by
    rw [pensR, if_pos rfl, penR_at (by omega), pensR_at k _ _ (by omega), pensAt]
    simp only [List.append_assoc, List.singleton_append, show at_ + 49 + 49 * k = at_ + 49 * (k + 1) by omega]

theorem headR_at {b : List UInt8} (h : 59 ≤ b.length) : headR b = ((((num (slice b 0 1) : Nat) : Int), IntKind.i64.wrap (num (slice b 1 8) : Nat), slice b 9 32, IntKind.i64.wrap (num (slice b 41 8) : Nat), IntKind.i64.wrap (num (slice b 49 8) : Nat), num (slice b 57 2)), (b.drop 59, 0)) := by
  have e1 := takes_at (b := b) (at_ := 0) (n := 1) (nn := 1) rfl (by omega)
  have e2 := takes_at (b := b) (at_ := 0 + 1) (n := 8) (nn := 8) rfl (by omega)
  have e3 := takes_at (b := b) (at_ := 0 + 1 + 8) (n := 32) (nn := 32) rfl (by omega)
  have e4 := takes_at (b := b) (at_ := 0 + 1 + 8 + 32) (n := 8) (nn := 8) rfl (by omega)
  have e5 := takes_at (b := b) (at_ := 0 + 1 + 8 + 32 + 8) (n := 8) (nn := 8) rfl (by omega)
  have e6 := takes_at (b := b) (at_ := 0 + 1 + 8 + 32 + 8 + 8) (n := 2) (nn := 2) rfl (by omega)
  rw [List.drop_zero] at e1
  simp only [headR, e1, e2, e3, e4, e5, e6, fill_full (length_slice (b := b) (at_ := 0 + 1 + 8) (n := 32) (by omega))]

/-- What the document makes of a text, of a fitting length. -/
def comD (b : List UInt8) : Com := ⟨((num (slice b 0 1) : Nat) : Int), IntKind.i64.wrap (num (slice b 1 8) : Nat), slice b 9 32, IntKind.i64.wrap (num (slice b 41 8) : Nat), IntKind.i64.wrap (num (slice b 49 8) : Nat), pensAt b 59 ((b.length - 59) / 49)⟩

theorem length_text {c : Com} (h : c.Valid) : c.text.length = 59 + 49 * c.l.length := by
  simp only [Com.text, textB, List.length_append, length_be, h.point, length_pens h.ok]
  omega

theorem comD_text {c : Com} (h : c.Valid) : comD c.text = c := by
  have hl := length_text h
  have e := comR_text h []
  rw [List.append_nil] at e
  have hn : (headR c.text).1.2.2.2.2.2 = c.l.length := by
    rw [headR_at (by omega)]
    dsimp only
    have hx := h.arg
    have hl966 := soundP_length h.sound
    have : slice c.text 57 2 = be 2 c.l.length := by
      have e1 : c.text = (be 1 c.owner.toNat ++ be 8 (bits64 c.index) ++ c.point ++ be 8 (bits64 c.o) ++ be 8 (bits64 c.q)) ++ (be 2 c.l.length ++ c.l.flatMap PenM.bytes) := by simp [Com.text, textB]
      have e2 : (be 1 c.owner.toNat ++ be 8 (bits64 c.index) ++ c.point ++ be 8 (bits64 c.o) ++ be 8 (bits64 c.q)).length = 57 := by simp [length_be, h.point]
      rw [slice, e1, List.drop_left' e2, List.take_left' (length_be _ _)]
    rw [this, num_be2 (by omega)]
  simp only [comR, hn] at e
  have e1 : (c.text.length - 59) / 49 = c.l.length := by rw [hl]; omega
  rw [headR_at (by omega), pensR_at _ _ _ (by omega)] at e
  simp only [Prod.mk.injEq, List.nil_append] at e
  rw [comD, e1]
  exact e.1

section
variable {F0 : List AId} {G0 G : Heap} {ps : List LP} {Q : AVal → Heap → Prop}

theorem escrowref14_get.use {b : List UInt8} {a n : Int} (at_ k : Nat) (ha : a = (at_ : Int)) (hn : n = (k : Int)) (hk : k ≤ 8) (h : at_ + k ≤ b.length) (hb : b.length ≤ 9223372036854775807) (hQ : Q (.int .i64 (IntKind.i64.wrap (num (slice b at_ k) : Nat))) G) :
    ACalls P escrowref14_get.n [.str b, .int .i64 a, .int .i64 n] G Q := by
  subst ha hn
  refine escrowref14_get.sound ?_
  unfold escrowref14_get.S
  intro R hR
  have hs8 := length_slice h
  have loop : ∀ (rest : List UInt8) (v j : Nat), (slice b at_ k).drop j = rest → j ≤ k → v < 256 ^ j → numA v rest = num (slice b at_ k) → R [.str b, .int .i64 (at_ : Int), .int .i64 (k : Int), .int .u64 v, .int .i64 ((at_ + j : Nat) : Int)] G := by
    intro rest
    induction rest with
    | nil =>
      intro v j hd hj hv he
      have := List.drop_eq_nil_iff.1 hd
      refine hR _ _ _ _ _ _ ?_
      rw [vbin_add, wv_some, i64_in (by omega) (by omega), vbin_lss, wv_some, brB_dec]
      refine ⟨fun h => absurd h (by omega), fun _ => ?_⟩
      simp only [numA] at he
      rw [he, vconv_int T_uint64 T_int64 rfl, wv_some]
      exact hQ
    | cons c rest ih =>
      intro v j hd hj hv he
      have hjl : j < (slice b at_ k).length := by
        rcases Nat.lt_or_ge j (slice b at_ k).length with h | h
        · exact h
        · rw [List.drop_eq_nil_iff.2 h] at hd; cases hd
      have hb' : (slice b at_ k)[j] = c := by
        have := List.drop_eq_getElem_cons hjl
        rw [hd] at this
        injection this with h1 h2
        exact h1.symm
      have hjb : at_ + j < b.length := by omega
      have hc : b[at_ + j] = c := by
        rw [← hb']
        simp [slice]
      have hv7 : v < 256 ^ 7 := Nat.lt_of_lt_of_le hv (Nat.pow_le_pow_right (by omega) (by omega))
      have hblt : c.toNat < 256 := c.toNat_lt
      refine hR _ _ _ _ _ _ ?_
      rw [vbin_add, wv_some, i64_in (by omega) (by omega), vbin_lss, wv_some, brB_dec]
      refine ⟨fun _ => ?_, fun h => absurd (by omega) h⟩
      have hsh : IntKind.u64.wrap ((v : Int) * 2 ^ min (Int.toNat 8) IntKind.u64.bits) = ((v * 256 : Nat) : Int) := by
        have : min (Int.toNat 8) IntKind.u64.bits = 8 := rfl
        rw [this, wrapU64]
        omega
      rw [vbin_shl _ _ _ _ _ _ (by omega), wv_some, hsh, vindex_str hjb, wv_some, hc, vconv_int T_uint8 T_uint64 rfl, wv_some, u64_in (n := (c.toNat : Int)) (by omega) (by omega), vbin_or, wv_some, or_byte v c.toNat hblt (by omega)]
      rw [vbin_add, wv_some, i64_in (by omega) (by omega)]
      refine ih (v * 256 + c.toNat) (j + 1) (by rw [← List.drop_drop, hd]; rfl) (by omega) ?_ he
      rw [Nat.pow_succ]
      omega
  exact loop _ 0 0 rfl (by omega) (by simp) rfl

theorem fill_set {x : List UInt8} {n j : Nat} (hx : x.length = n) (hj : j < n) : (fill n (x.take j)).set j (x[j]'(by omega)) = fill n (x.take (j + 1)) := by
  have e : x.take (j + 1) = x.take j ++ [x[j]'(by omega)] := by rw [List.take_add_one, List.getElem?_eq_getElem (by omega)]; rfl
  have h1 : (x.take j).length = j := by rw [List.length_take]; omega
  have h2 : (x.take j ++ [x[j]'(by omega)]).length = j + 1 := by rw [List.length_append, h1]; rfl
  rw [e, fill, fill, h1, h2, List.set_append_right _ _ (by omega), h1, Nat.sub_self, show n - j = (n - (j + 1)) + 1 by omega, List.replicate_succ, List.set_cons_zero, List.append_assoc]
  rfl

theorem escrowref14_hash.use {b : List UInt8} {a : Int} (at_ : Nat) (ha : a = (at_ : Int)) (h : at_ + 32 ≤ b.length) (hb : b.length ≤ 9223372036854775807) (hQ : ∀ G', Ch [] G [] G' → Q (.agg ((slice b at_ 32).map u8v)) G') :
    ACalls P escrowref14_hash.n [.str b, .int .i64 a] G Q := by
  subst ha
  refine escrowref14_hash.sound ?_
  unfold escrowref14_hash.S
  rw [z_hash]
  intro i1 f1
  have s1 := (Sp.nil G).row f1 (.agg ((List.replicate 32 (0 : UInt8)).map u8v))
  intro i3 f3
  have s3 := s1.row f3 (.agg ((List.replicate 32 (0 : UInt8)).map u8v))
  have hs32 := length_slice h
  intro R hR
  have loop : ∀ (n j : Nat) (G' : Heap), 32 - j = n → j ≤ 32 → Sp [] G [RowL i3 (.agg ((fill 32 ((slice b at_ 32).take j)).map u8v)), RowL i1 (.agg ((List.replicate 32 (0 : UInt8)).map u8v))] G' → R [.str b, .int .i64 (at_ : Int), .ptr i1 [] 0, .ptr i3 [] 0, .int .i64 (j : Int)] G' := by
    intro n
    induction n with
    | zero =>
      intro j G' hn hj hs
      have : j = 32 := by omega
      subst this
      rw [List.take_of_length_le (by omega), fill_full hs32] at hs
      refine hR _ _ _ _ _ _ ?_
      rw [vbin_lss, wv_some, brB_dec]
      refine ⟨fun h => absurd h (by omega), fun _ => ?_⟩
      refine wv_of (load_hash hs32 (RowL.own (i := 0) hs rfl)) ?_
      refine hash_store (i := 1) hs rfl zh_len hs32 fun G19 s19 => ?_
      refine wv_of (load_hash hs32 (RowL.own (i := 1) s19 rfl)) ?_
      exact hQ _ s19.ch
    | succ n ih =>
      intro j G' hn hj hs
      refine hR _ _ _ _ _ _ ?_
      rw [vbin_lss, wv_some, brB_dec]
      refine ⟨fun _ => ?_, fun h => absurd (by omega) h⟩
      have hjb : at_ + j < b.length := by omega
      rw [vbin_add, wv_some, i64_in (by omega) (by omega), show (at_ : Int) + (j : Int) = ((at_ + j : Nat) : Int) by omega, vindex_str hjb, wv_some, addr_hash (by omega), wv_some]
      have hx : b[at_ + j] = (slice b at_ 32)[j]'(by omega) := by simp [slice]
      have hfl : (fill 32 ((slice b at_ 32).take j)).length = 32 := length_fill (by rw [List.length_take]; omega)
      refine wg_of (store_byte (b := b[at_ + j]) (by omega) (RowL.own (i := 0) hs rfl)) ?_
      rw [vbin_add, wv_some, i64_in (by omega) (by omega)]
      refine ih (j + 1) _ (by omega) (by omega) ?_
      rw [← fill_set hs32 (by omega), ← hx]
      exact Sp.setRow hs (j := 0) rfl _
  exact loop _ 0 _ rfl (by omega) (by simpa [fill] using s3)

set_option maxHeartbeats 2000000 in
theorem escrowref14_Read.use {b : List UInt8} (hbl : b.length ≤ 140737488355328)
    (hok : ∀ c : Com, c.Valid → b = c.text → ∀ v G', Sp [] G [OwnL 35 v (c.l.map PenM.av)] G' → Q (.tuple [.int .i64 c.owner, .int .i64 c.index, .agg (c.point.map u8v), ledV c.o c.q v, .int .i64 0]) G')
    (hno : (∀ c : Com, c.Valid → b ≠ c.text) → ∀ G', Ch [] G [] G' → Q (.tuple [.int .i64 0, .int .i64 0, .agg ((List.replicate 32 (0 : UInt8)).map u8v), ledV 0 0 .nilSlice, .int .i64 4]) G') :
    ACalls P escrowref14_Read.n [.str b] G Q := by
  refine escrowref14_Read.sound ?_
  unfold escrowref14_Read.S
  rw [z_hash, zLed]
  intro i1 f1
  have s1 := (Sp.nil G).row f1 (.agg ((List.replicate 32 (0 : UInt8)).map u8v))
  intro i3 f3
  have s3 := s1.row f3 (ledV 0 0 .nilSlice)
  revert s3
  generalize Heap.upd _ i3 (.own (ledV 0 0 .nilSlice)) = G4
  intro s3 J89
  have bad : (∀ c : Com, c.Valid → b ≠ c.text) → J89 (.bool true) G4 := by
    intro hall
    simp -zeta only [J89, brB_true]
    refine wv_of (v := .agg ((List.replicate 32 (0 : UInt8)).map u8v)) rfl ?_
    refine wv_of (v := ledV 0 0 .nilSlice) rfl ?_
    refine hash_store (i := 1) s3 rfl zh_len zh_len fun G92 s92 => ?_
    refine led_store (i := 0) s92 rfl rfl nil_leaf fun G93 s93 => ?_
    refine wv_of (load_hash zh_len (RowL.own (i := 1) s93 rfl)) ?_
    refine wv_of (led_load (i := 0) s93 rfl nil_leaf).2.2.2 ?_
    exact hno hall _ s93.ch
  have good : ∀ k, b.length = 59 + 49 * k → J89 (.bool false) G4 := by
    intro k hk
    simp -zeta only [J89, brB_false]
    have hkk : (b.length - 59) / 49 = k := by omega
    obtain ⟨o, ho⟩ : ∃ x, x = IntKind.i64.wrap (num (slice b 41 8) : Nat) := ⟨_, rfl⟩
    obtain ⟨q, hq⟩ : ∃ x, x = IntKind.i64.wrap (num (slice b 49 8) : Nat) := ⟨_, rfl⟩
    refine escrowref14_get.use 41 8 rfl rfl (by omega) (by omega) (by omega) ?_
    refine escrowref14_get.use 49 8 rfl rfl (by omega) (by omega) (by omega) ?_
    rw [← ho, ← hq]
    refine wv_of (v := ledV o q .nilSlice) rfl ?_
    intro i24 f24
    have s24 := s3.row f24 (ledV 0 0 .nilSlice)
    refine led_store (i := 0) s24 rfl rfl nil_leaf fun G26 s26 => ?_
    have s26 : Sp [] G [RowL i24 (ledV o q .nilSlice), RowL i3 (ledV 0 0 .nilSlice), RowL i1 (.agg ((List.replicate 32 (0 : UInt8)).map u8v))] G26 := s26
    have s26 := (s26.nilL 35)
    intro R27 hR27
    have loop : ∀ (n j : Nat) (s : AVal) (G' : Heap), k - j = n → j ≤ k →
        Sp [] G [OwnL 35 s ((pensAt b 59 j).map PenM.av), RowL i24 (ledV o q s), RowL i3 (ledV 0 0 .nilSlice), RowL i1 (.agg ((List.replicate 32 (0 : UInt8)).map u8v))] G' →
        R27 [.str b, .ptr i1 [] 0, .ptr i3 [] 0, .ptr i24 [] 0, .int .i64 ((59 + 49 * j : Nat) : Int)] G' := by
      intro n
      induction n with
      | zero =>
        intro j s G' hn hj hs
        have : j = k := by omega
        subst this
        have hlok := pensAt_ok j 59 (by omega : 59 + 49 * j ≤ b.length)
        have hll := length_pensAt b j 59
        have hcd : comD b = ⟨((num (slice b 0 1) : Nat) : Int), IntKind.i64.wrap (num (slice b 1 8) : Nat), slice b 9 32, o, q, pensAt b 59 j⟩ := by rw [comD, hkk, ← ho, ← hq]
        generalize pensAt b 59 j = l at hs hlok hll hcd
        refine hR27 _ _ _ _ _ _ ?_
        show wv (some (.int .i64 (b.length : Nat))) _
        rw [wv_some, vbin_lss, wv_some, brB_dec]
        refine ⟨fun h => absurd h (by omega), fun _ => ?_⟩
        have e0 : vindex T t_string (.str b) (.int .i64 0) = some (.int .u8 (num (slice b 0 1) : Nat)) := by
          have := vindex_str (l := b) (j := 0) (by omega)
          rw [show ((0 : Nat) : Int) = 0 from rfl] at this
          rw [this, num_slice_one (by omega)]
        rw [e0, wv_some, vconv_int T_uint8 T_int rfl]
        have hn1 : num (slice b 0 1) < 256 := num_lt_of (k := 1) (by rw [length_slice (by omega)]; exact Nat.le_refl _)
        rw [wv_some, i64_in (by omega) (by omega)]
        refine escrowref14_get.use 1 8 rfl rfl (by omega) (by omega) (by omega) ?_
        refine escrowref14_hash.use 9 rfl (by omega) (by omega) fun G62 c62 => ?_
        have s62 := hs.tmp c62
        have hh3 : (slice b 9 32).length = 32 := length_slice (by omega)
        intro i63 f63
        have s63 := s62.row f63 (.agg ((List.replicate 32 (0 : UInt8)).map u8v))
        refine hash_store (i := 0) s63 rfl zh_len hh3 fun G65 s65 => ?_
        have s65 : Sp [] G [RowL i63 (.agg ((slice b 9 32).map u8v)), OwnL 35 s (l.map PenM.av), RowL i24 (ledV o q s), RowL i3 (ledV 0 0 .nilSlice), RowL i1 (.agg ((List.replicate 32 (0 : UInt8)).map u8v))] G65 := s65
        obtain ⟨owner, howner⟩ : ∃ x, x = ((num (slice b 0 1) : Nat) : Int) := ⟨_, rfl⟩
        obtain ⟨index, hindex⟩ : ∃ x, x = IntKind.i64.wrap (num (slice b 1 8) : Nat) := ⟨_, rfl⟩
        obtain ⟨point, hpoint⟩ : ∃ x, x = slice b 9 32 := ⟨_, rfl⟩
        rw [← hpoint] at s65 hh3
        rw [← howner, ← hindex, ← hpoint] at hcd
        rw [← howner, ← hindex]
        refine wv_of (load_hash hh3 (RowL.own (i := 0) s65 rfl)) ?_
        have ho0 := OwnL.own (i := 1) s65 rfl
        refine wv_of (led_load (i := 2) s65 rfl ho0.leaf).2.2.2 ?_
        refine escrowref14_Text.use hh3 ho0.is hlok (by omega) fun G69 c69 => ?_
        have s74 := s65.tmp c69
        rw [vext0, wv_some, vext1, wv_some]
        intro J88
        have good : (⟨owner, index, point, o, q, l⟩ : Com).Valid → b = textB owner index point o q l → J88 (.bool false) G69 := by
          intro hv hb
          simp -zeta only [J88, brB_false]
          refine wv_of (load_hash hh3 (RowL.own (i := 0) s74 rfl)) ?_
          have ho1 := OwnL.own (i := 1) s74 rfl
          refine wv_of (led_load (i := 2) s74 rfl ho1.leaf).2.2.2 ?_
          refine hash_store (i := 4) s74 rfl zh_len hh3 fun G92 s92 => ?_
          refine ⟨⟨(led_load (i := 2) s92 rfl ho1.leaf).2.2.2, trivial⟩, ?_⟩
          refine led_store (i := 3) s92 rfl rfl ho1.leaf fun G93 s93 => ?_
          refine wv_of (load_hash hh3 (RowL.own (i := 4) s93 rfl)) ?_
          refine wv_of (led_load (i := 3) s93 rfl ho1.leaf).2.2.2 ?_
          exact hok _ hv hb s _ ((((s93.erase 0).erase 1).erase 1).erase 1)
        have bad : (∀ c : Com, c.Valid → b ≠ c.text) → J88 (.bool true) G69 := by
          intro hall
          simp -zeta only [J88, brB_true]
          refine wv_of (v := .agg ((List.replicate 32 (0 : UInt8)).map u8v)) rfl ?_
          refine wv_of (v := ledV 0 0 .nilSlice) rfl ?_
          refine hash_store (i := 4) s74 rfl zh_len zh_len fun G92 s92 => ?_
          refine led_store (i := 3) s92 rfl rfl nil_leaf fun G93 s93 => ?_
          refine wv_of (load_hash zh_len (RowL.own (i := 4) s93 rfl)) ?_
          refine wv_of (led_load (i := 3) s93 rfl nil_leaf).2.2.2 ?_
          exact hno hall _ s93.ch
        have hvR : ∀ c : Com, c.Valid → b = c.text → textR owner index point o q l = (b, 0) := by
          intro c hc hb
          have hcc : c = ⟨owner, index, point, o, q, l⟩ := by rw [← hcd, hb, comD_text hc]
          have h1 := hc.arg
          have h2 := hc.sound
          rw [hb, Com.text]
          rw [hcc] at h1 h2 ⊢
          dsimp only at h1 h2 ⊢
          rw [textR, if_neg h1, h2, cond_true]
        obtain ⟨R, hR⟩ : ∃ R, R = textR owner index point o q l := ⟨_, rfl⟩
        rw [← hR] at hvR ⊢
        rw [vbin_neq, wv_some, brB_ndec]
        refine ⟨fun h => bad fun c hc hb => ?_, fun h2 => ?_⟩
        · rw [hvR c hc hb] at h
          exact h rfl
        rw [vbin_sneq, wv_some]
        by_cases h3 : R.1 = b
        · rw [decide_eq_true h3, Bool.not_true]
          have hR2 : textR owner index point o q l = (b, 0) := by rw [← hR, ← h3, ← h2]
          unfold textR at hR2
          split at hR2
          · cases hR2
          · rename_i harg
            cases hsd : soundP o q l with
            | false => rw [hsd] at hR2; cases hR2
            | true =>
              rw [hsd, cond_true] at hR2
              injection hR2 with hb
              exact good ⟨harg, hsd, hh3, hlok⟩ hb.symm
        · rw [decide_eq_false h3, Bool.not_false]
          exact bad fun c hc hb => by rw [hvR c hc hb] at h3; exact h3 rfl
      | succ n ih =>
        intro j s G' hn hj hs
        have hat : 59 + 49 * j + 49 ≤ b.length := by omega
        obtain ⟨a, ha⟩ : ∃ a, a = 59 + 49 * j := ⟨_, rfl⟩
        rw [← ha]
        rw [← ha] at hat
        have hpo := penAt_ok hat
        refine hR27 _ _ _ _ _ _ ?_
        show wv (some (.int .i64 (b.length : Nat))) _
        rw [wv_some, vbin_lss, wv_some, brB_dec]
        refine ⟨fun _ => ?_, fun h => absurd (by omega) h⟩
        have ho0 := OwnL.own (i := 0) hs rfl
        show wv (vload T G' t_sl_api_Pending (.ptr i24 [2] 2)) _
        refine wv_of (led_load (i := 1) hs rfl ho0.leaf).2.2.1 ?_
        have e1 : num (slice b a 1) = (b[a]'(by omega)).toNat := num_slice_one (by omega)
        rw [vindex_str (l := b) (j := a) (by omega), wv_some, vbin_eql, wv_some, vbin_add, wv_some, i64_in (by omega) (by omega), vbin_add, wv_some, i64_in (by omega) (by omega), vbin_add, wv_some, i64_in (by omega) (by omega), ← e1]
        refine escrowref14_get.use (a + 1) 8 (by omega) rfl (by omega) (by omega) (by omega) ?_
        refine ⟨⟨(led_load (i := 1) hs rfl ho0.leaf).2.2.1, trivial⟩, ?_⟩
        refine escrowref14_get.use (a + 9) 8 (by omega) rfl (by omega) (by omega) (by omega) ?_
        refine ⟨⟨(led_load (i := 1) hs rfl ho0.leaf).2.2.1, trivial⟩, ?_⟩
        refine escrowref14_hash.use (a + 17) (by omega) (by omega) (by omega) fun G48 c48 => ?_
        have s48 := hs.tmp c48
        refine ⟨⟨(led_load (i := 1) s48 rfl ho0.leaf).2.2.1, trivial⟩, ?_⟩
        refine wv_of (v := (penAt b a).av) ?_ ?_
        · rw [← build_pen hpo]
          have : decide (((num (slice b a 1) : Nat) : Int) = 1) = (penAt b a).ours := by
            show _ = (num (slice b a 1) == 1)
            rw [Bool.eq_iff_iff]
            simp only [decide_eq_true_eq, beq_iff_eq]
            omega
          rw [this]
          rfl
        refine growV (T := T) (ts := t_sl_api_Pending) (e := t_api_Pending) (si := ti_sl_api_Pending) (ie := ti_api_Pending) (i := 0) T_sl_api_Pending rfl T_api_Pending rfl (by decide) s48 rfl (PenM.sz hpo) (PenM.okv _) (by decide) ?_ fun s57 G58 s58 => ?_
        · have : ti_api_Pending.bytes = 56 := rfl
          rw [List.length_map, this, length_pensAt]
          omega
        have s58 : Sp [] G [OwnL 35 s57 ((pensAt b 59 (j + 1)).map PenM.av), RowL i24 (ledV o q s), RowL i3 (ledV 0 0 .nilSlice), RowL i1 (.agg ((List.replicate 32 (0 : UInt8)).map u8v))] G58 := by
          rw [pensAt_succ, List.map_append, ← ha]
          exact s58
        show wg (vstore T G58 t_sl_api_Pending (.ptr i24 [2] 2) s57) _
        refine led_set (i := 1) s58 rfl ho0.leaf.1 (OwnL.own (i := 0) s58 rfl).leaf fun G60 s60 => ?_
        rw [vbin_add, wv_some, i64_in (by omega) (by omega), show ((a : Nat) : Int) + 49 = ((59 + 49 * (j + 1) : Nat) : Int) by omega]
        exact ih (j + 1) s57 G60 (by omega) (by omega) s60
    exact loop _ 0 .nilSlice G26 rfl (by omega) s26
  have hlenC : ∀ c : Com, c.Valid → b = c.text → b.length = 59 + 49 * c.l.length := fun c hc hb => by rw [hb, length_text hc]
  show wv (some (.int .i64 (b.length : Nat))) _
  rw [wv_some, vbin_lss, wv_some, brB_dec]
  refine ⟨fun h => bad fun c hc hb => ?_, fun h0 => ?_⟩
  · have := hlenC c hc hb
    omega
  show wv (some (.int .i64 (b.length : Nat))) _
  rw [wv_some, vbin_sub, wv_some, i64_in (by omega) (by omega), vbin_rem _ _ _ _ _ (by decide), wv_some, vbin_neq, wv_some, Int.tmod_eq_emod_of_nonneg (by omega)]
  by_cases h1 : ((b.length : Nat) - 59 : Int) % 49 = 0
  · rw [decide_eq_true h1]
    exact good ((b.length - 59) / 49) (by omega)
  · rw [decide_eq_false h1]
    refine bad fun c hc hb => ?_
    have := hlenC c hc hb
    omega

end
end Go.Esc.M
