/- Own work. Chapter 3: values read again. -/
import Derived.Test.YtnndkeffaabgjaaLCy
set_option linter.unusedSimpArgs false
set_option linter.unusedVariables false
namespace Go.Esc.M
open Go Go.Esc

def ValM.long (x : ValM) : Prop := x.k = 6 ∧ 65535 < x.text.length
instance (x : ValM) : Decidable x.long := inferInstanceAs (Decidable (_ ∧ _))

/-- A value's bytes. -/
def ValM.wire (x : ValM) : List UInt8 :=
  if x.k = 0 then be 1 (x.u % 256) else if x.k = 1 then be 2 (x.u % 65536) else if x.k = 2 then be 4 (x.u % 4294967296) else if x.k = 3 then be 8 x.u
  else if x.k = 4 then be 8 (bits64 x.i) else if x.k = 5 then x.h else if x.k = 6 then M.wire x.text else x.text

theorem layV_ok {x : ValM} (h : ¬ x.long) (b : List UInt8) : layV (b, 0) x = (b ++ x.wire, 0) := by
  unfold layV ValM.wire
  split
  · simp [laid]
  · split
    · simp [laid]
    · split
      · simp [laid]
      · split
        · simp [laid]
        · split
          · simp [laid]
          · split
            · simp [laid]
            · split
              · rename_i h6
                have : ¬ 65535 < x.text.length := fun hh => h ⟨h6, hh⟩
                simp [laidText, laid, this, M.wire]
              · simp [laid]
theorem layV_long {x : ValM} (h : x.long) (b : List UInt8) : layV (b, 0) x = (b, 3) := by
  have h6 := h.1
  unfold layV
  simp [h6, laidText, h.2]
theorem layV_broken {st : List UInt8 × Int} (h : st.2 ≠ 0) (x : ValM) : layV st x = st := by
  unfold layV
  simp [laid, laidText, h]

section
variable {G : Heap} {Q : AVal → Heap → Prop} {r : AId} {x : ValM} {m : Nat}

theorem escrowlaw03_long.use (hx : x.ok m) (hm : m ≤ 140737488000000) (hQ : ∀ G', Ch [] G [] G' → Q (.bool (decide x.long)) G') : ACalls P escrowlaw03_long.n [x.av] G Q := by
  refine escrowlaw03_long.sound ?_
  unfold escrowlaw03_long.S
  intro i hf
  rw [ValM.load hx (Heap.upd_self _ _ _) rfl, wv_some]
  refine escrowlaw03_Val_kind.use fun G2 hc => ?_
  have hg : G2 i = some (.own x.av) := hc.others _ _ (Heap.upd_self _ _ _) (by simp)
  have hch : Ch [] G [] G2 := (hf.ch (o := .own x.av)).trans hc
  simp -zeta only [vbin_eql, wv_some, brB_dec]
  refine ⟨fun h6 => ?_, fun h6 => ?_⟩
  · rw [ValM.load hx hg rfl, wv_some]
    refine escrowlaw03_Val_text.use hx (by omega) fun G3 c3 => ?_
    show wv (some (.int .i64 x.text.length)) _
    simp -zeta only [vbin_gtr, wv_some]
    have : decide x.long = decide ((65535 : Int) < x.text.length) := by
      rw [decide_eq_decide]
      exact ⟨fun h => by have := h.2; omega, fun h => ⟨h6, by omega⟩⟩
    rw [← this]
    exact hQ G3 (hch.trans c3)
  · have : decide x.long = false := by
      rw [decide_eq_false_iff_not]
      exact fun h => h6 h.1
    rw [this] at hQ
    exact hQ G2 hch

/-- What a reader gives where the kind's bytes are read: the state behind. -/
def ValM.reads (x : ValM) (st : List UInt8 × Int) : List UInt8 × Int :=
  if x.k = 0 then (takes st 1).2 else if x.k = 1 then (takes st 2).2 else if x.k = 2 then (takes st 4).2 else if x.k = 3 then (takes st 8).2
  else if x.k = 4 then (takes st 8).2 else if x.k = 5 then (takes st 32).2 else if x.k = 6 then (texts st x.text.length).2 else (raws st x.text.length).2

theorem raws_ok {b rest : List UInt8} : raws (b ++ rest, 0) (b.length : Int) = (b, (rest, 0)) := by
  unfold raws
  rw [if_neg (fun h => by omega), takes_app rfl]

theorem reads_start {i : AId} {st : List UInt8 × Int} (h : Rd r st G) (hf : Fresh G i) : Sp [r] G [RowL i x.av, RdL r st] (G.upd i (.own x.av)) :=
  (Sp.one (p := RdL r st) ⟨h, rfl⟩).new (p := RowL i x.av) ⟨Heap.upd_self _ _ _, rfl⟩ (Ch.new hf)

/-- A step of the reader, beside the value's row. -/
theorem step1 {F0 : List AId} {G0 : Heap} {i : AId} {st st' : List UInt8 × Int} {n : FuncId} {l : List AVal} {rv : AVal} {K : AVal → Heap → Prop}
    (hs : Sp F0 G0 [RowL i x.av, RdL r st] G) (h1 : ∀ {G : Heap} {Q : AVal → Heap → Prop}, Rd r st G → (∀ G', Rd r st' G' → Ch [r] G [r] G' → Q rv G') → ACalls P n l G Q)
    (hK : ∀ G', Sp F0 G0 [RowL i x.av, RdL r st'] G' → G' i = some (.own x.av) → K rv G') : ACalls P n l G K := by
  refine hs.call (i := 1) rfl (RdL r st') fun F h k => ?_
  obtain ⟨h, rfl⟩ := h
  refine h1 h fun G1 r1 c1 => ?_
  have s1 := k _ _ ⟨r1, rfl⟩ c1
  exact hK _ s1 (RowL.own (i := 0) s1 rfl)

theorem spReader {F0 : List AId} {G0 : Heap} {i : AId} {st : List UInt8 × Int} (hs : Sp F0 G0 [RowL i x.av, RdL r st] G) : ∃ F', Rd r st G ∧ Ch F0 G0 F' G ∧ F' = [r] := by
  obtain ⟨F, ⟨h, rfl⟩, c⟩ := (hs.erase 0).out
  exact ⟨_, h, c, rfl⟩

theorem escrowlaw03_again.use {rest : List UInt8} (hx : x.ok m) (hm : m ≤ 140737488000000) (hl : ¬ x.long) (h : Rd r (x.wire ++ rest, 0) G) (hQ : ∀ G', Rd r (rest, 0) G' → Ch [r] G [r] G' → Q (.bool true) G') :
    ACalls P escrowlaw03_again.n [.ptr r [] 0, x.av] G Q := by
  refine escrowlaw03_again.sound ?_
  unfold escrowlaw03_again.S
  intro i f1
  have s1 := reads_start (x := x) h f1
  have fin : ∀ {b : Bool} {G' : Heap}, b = true → Sp [r] G [RowL i x.av, RdL r (rest, 0)] G' → Q (.bool b) G' := by
    intro b G' hb hs
    subst hb
    obtain ⟨_, h', c, rfl⟩ := spReader hs
    exact hQ G' h' c
  revert s1
  generalize hG2 : G.upd i (.own x.av) = G2
  intro s1
  have hg2 : G2 i = some (.own x.av) := by rw [← hG2]; exact Heap.upd_self _ _ _
  rw [ValM.load hx hg2 rfl, wv_some]
  refine escrowlaw03_Val_kind.use fun G5 hc => ?_
  have s5 := s1.tmp hc
  have hg : G5 i = some (.own x.av) := hc.others _ _ hg2 (by simp)
  obtain ⟨l1, l2, l3⟩ := ValM.fld hx hg
  have lx := ValM.load hx hg rfl
  have hu := hx.u
  have htx := x.length_text
  have hsm := hx.m
  have hk := x.k_range
  unfold ValM.wire at s5
  simp -zeta only [vbin_eql, wv_some, brB_dec]
  refine ⟨fun h0 => ?_, fun h0 => ⟨fun h1 => ?_, fun h1 => ⟨fun h2 => ?_, fun h2 => ⟨fun h3 => ?_, fun h3 => ⟨fun h4 => ?_, fun h4 => ⟨fun h5 => ?_, fun h5 => ⟨fun h6 => ?_, fun h6 => ?_⟩⟩⟩⟩⟩⟩⟩
  · rw [if_pos h0] at s5
    rw [l1, wv_some, vconv_int T_uint64 T_uint8 rfl, wv_some, wrapU8]
    refine step1 s5 (fun h k => cursor_Reader_U8.use h k) fun G6 s6 g6 => ⟨⟨(ValM.fld hx g6).1, trivial⟩, ?_⟩
    rw [takes_app (n := 1) (by rw [length_be]; rfl)] at s6 ⊢
    simp -zeta only [vbin_eql, wv_some]
    refine fin ?_ s6
    rw [num_be_lt (k := 1) (by omega)]
    simp
  · rw [if_neg h0, if_pos h1] at s5
    rw [l1, wv_some, vconv_int T_uint64 T_uint16 rfl, wv_some, wrapU16]
    refine step1 s5 (fun h k => cursor_Reader_U16.use h k) fun G6 s6 g6 => ⟨⟨(ValM.fld hx g6).1, trivial⟩, ?_⟩
    rw [takes_app (n := 2) (by rw [length_be]; rfl)] at s6 ⊢
    simp -zeta only [vbin_eql, wv_some]
    refine fin ?_ s6
    rw [num_be_lt (k := 2) (by omega)]
    simp
  · rw [if_neg h0, if_neg h1, if_pos h2] at s5
    rw [l1, wv_some, vconv_int T_uint64 T_uint32 rfl, wv_some, wrapU32]
    refine step1 s5 (fun h k => cursor_Reader_U32.use h k) fun G6 s6 g6 => ⟨⟨(ValM.fld hx g6).1, trivial⟩, ?_⟩
    rw [takes_app (n := 4) (by rw [length_be]; rfl)] at s6 ⊢
    simp -zeta only [vbin_eql, wv_some]
    refine fin ?_ s6
    rw [num_be_lt (k := 4) (by omega)]
    simp
  · rw [if_neg h0, if_neg h1, if_neg h2, if_pos h3] at s5
    rw [l1, wv_some]
    refine step1 s5 (fun h k => cursor_Reader_U64.use h k) fun G6 s6 g6 => ⟨⟨(ValM.fld hx g6).1, trivial⟩, ?_⟩
    rw [takes_app (n := 8) (by rw [length_be]; rfl)] at s6 ⊢
    simp -zeta only [vbin_eql, wv_some]
    refine fin ?_ s6
    rw [num_be_lt (k := 8) (by omega)]
    simp
  · rw [if_neg h0, if_neg h1, if_neg h2, if_neg h3, if_pos h4] at s5
    rw [l2, wv_some]
    refine step1 s5 (fun h k => cursor_Reader_I64.use h k) fun G6 s6 g6 => ⟨⟨(ValM.fld hx g6).2.1, trivial⟩, ?_⟩
    rw [takes_app (n := 8) (by rw [length_be]; rfl)] at s6 ⊢
    simp -zeta only [vbin_eql, wv_some]
    refine fin ?_ s6
    have := bits64_lt x.i
    rw [num_be_lt (k := 8) (by omega), wrap_bits64' hx.i]
    simp
  · rw [if_neg h0, if_neg h1, if_neg h2, if_neg h3, if_neg h4, if_pos h5] at s5
    rw [l3, wv_some]
    refine step1 s5 (fun h k => cursor_Reader_Hash.use h k) fun G6 s6 g6 => ⟨⟨(ValM.fld hx g6).2.2, trivial⟩, ?_⟩
    rw [takes_app (n := 32) (by rw [hx.h]; rfl)] at s6 ⊢
    rw [fill_full hx.h, vbin_heql T_api_Hash rfl T_uint8 rfl rfl hx.h hx.h, wv_some]
    exact fin (by simp) s6
  · rw [if_neg h0, if_neg h1, if_neg h2, if_neg h3, if_neg h4, if_neg h5, if_pos h6] at s5
    rw [lx, wv_some, wv_some]
    refine escrowlaw03_Val_text.use hx (by omega) fun G6 c6 => ?_
    have s6 := s5.tmp c6
    have g6 : G6 i = some (.own x.av) := c6.others _ _ hg (by simp)
    refine ⟨⟨ValM.load hx g6 rfl, trivial⟩, ?_⟩
    show wv (some (.int .i64 x.text.length)) _
    rw [wv_some]
    refine step1 s6 (fun h k => cursor_Reader_Text.use h k) fun G7 s7 g7 => ⟨⟨ValM.load hx g7 rfl, trivial⟩, ?_⟩
    have hno : x.text.length ≤ 65535 := by
      rcases Nat.lt_or_ge 65535 x.text.length with h | h
      · exact absurd ⟨h6, h⟩ hl
      · exact h
    rw [texts_wire hno, if_neg (by omega)] at s7 ⊢
    refine escrowlaw03_Val_text.use hx (by omega) fun G8 c8 => ?_
    simp -zeta only [vbin_seql, wv_some]
    exact fin (by simp) (s7.tmp c8)
  · rw [if_neg h0, if_neg h1, if_neg h2, if_neg h3, if_neg h4, if_neg h5, if_neg h6] at s5
    rw [lx, wv_some, wv_some]
    refine escrowlaw03_Val_text.use hx (by omega) fun G6 c6 => ?_
    have s6 := s5.tmp c6
    have g6 : G6 i = some (.own x.av) := c6.others _ _ hg (by simp)
    refine ⟨⟨ValM.load hx g6 rfl, trivial⟩, ?_⟩
    show wv (some (.int .i64 x.text.length)) _
    rw [wv_some]
    refine step1 s6 (fun h k => cursor_Reader_Raw.use h k) fun G7 s7 g7 => ⟨⟨ValM.load hx g7 rfl, trivial⟩, ?_⟩
    rw [raws_ok] at s7 ⊢
    refine escrowlaw03_Val_text.use hx (by omega) fun G8 c8 => ?_
    simp -zeta only [vbin_seql, wv_some]
    exact fin (by simp) (s7.tmp c8)

/-- A reader that can't give the value: too short, or broken by that. -/
def Lacks (x : ValM) (st : List UInt8 × Int) : Prop := st = ([], 2) ∨ (st.2 = 0 ∧ st.1.length < x.wire.length ∧ ∃ t, x.wire = st.1 ++ t)

theorem Lacks.takes {st : List UInt8 × Int} (h : Lacks x st) {n : Nat} (hn : x.wire.length = n) : takes st n = ([], ([], 2)) := by
  rcases h with rfl | ⟨h0, h1, _⟩
  · exact takes_broken (by simp)
  · obtain ⟨b, f⟩ := st
    simp only at h0 h1
    subst h0
    exact takes_short (by omega)

theorem escrowlaw03_nothing.use {st : List UInt8 × Int} (hx : x.ok m) (hm : m ≤ 140737488000000) (hl : ¬ x.long) (hla : Lacks x st) (h : Rd r st G) (hQ : ∀ G', Rd r ([], 2) G' → Ch [r] G [r] G' → Q (.bool true) G') :
    ACalls P escrowlaw03_nothing.n [.ptr r [] 0, x.av] G Q := by
  refine escrowlaw03_nothing.sound ?_
  unfold escrowlaw03_nothing.S
  intro i f1
  have s1 := reads_start (x := x) h f1
  have fin : ∀ {b : Bool} {G' : Heap}, b = true → Sp [r] G [RowL i x.av, RdL r ([], 2)] G' → Q (.bool b) G' := by
    intro b G' hb hs
    subst hb
    obtain ⟨_, h', c, rfl⟩ := spReader hs
    exact hQ G' h' c
  revert s1
  generalize hG2 : G.upd i (.own x.av) = G2
  intro s1
  have hg2 : G2 i = some (.own x.av) := by rw [← hG2]; exact Heap.upd_self _ _ _
  rw [ValM.load hx hg2 rfl, wv_some]
  refine escrowlaw03_Val_kind.use fun G5 hc => ?_
  have s5 := s1.tmp hc
  have hg : G5 i = some (.own x.av) := hc.others _ _ hg2 (by simp)
  have lx := ValM.load hx hg rfl
  have htx := x.length_text
  have hsm := hx.m
  have n0 : num [] = 0 := rfl
  have htk : ∀ n : Nat, x.wire.length = n → takes st n = ([], ([], 2)) := fun n hn => hla.takes hn
  have hw : x.wire = _ := rfl
  unfold ValM.wire at hw
  simp -zeta only [vbin_eql, wv_some, brB_dec]
  refine ⟨fun h0 => ?_, fun h0 => ⟨fun h1 => ?_, fun h1 => ⟨fun h2 => ?_, fun h2 => ⟨fun h3 => ?_, fun h3 => ⟨fun h4 => ?_, fun h4 => ⟨fun h5 => ?_, fun h5 => ⟨fun h6 => ?_, fun h6 => ?_⟩⟩⟩⟩⟩⟩⟩
  · have htk := htk 1 (by simp [ValM.wire, h0, length_be])
    refine step1 s5 (fun h k => cursor_Reader_U8.use h k) fun G6 s6 g6 => ?_
    rw [show (1 : Int) = ((1 : Nat) : Int) from rfl, htk] at s6 ⊢
    simp -zeta only [vbin_eql, wv_some]
    exact fin rfl s6
  · have htk := htk 2 (by simp [ValM.wire, h1, length_be])
    refine step1 s5 (fun h k => cursor_Reader_U16.use h k) fun G6 s6 g6 => ?_
    rw [show (2 : Int) = ((2 : Nat) : Int) from rfl, htk] at s6 ⊢
    simp -zeta only [vbin_eql, wv_some]
    exact fin rfl s6
  · have htk := htk 4 (by simp [ValM.wire, h2, length_be])
    refine step1 s5 (fun h k => cursor_Reader_U32.use h k) fun G6 s6 g6 => ?_
    rw [show (4 : Int) = ((4 : Nat) : Int) from rfl, htk] at s6 ⊢
    simp -zeta only [vbin_eql, wv_some]
    exact fin rfl s6
  · have htk := htk 8 (by simp [ValM.wire, h3, length_be])
    refine step1 s5 (fun h k => cursor_Reader_U64.use h k) fun G6 s6 g6 => ?_
    rw [show (8 : Int) = ((8 : Nat) : Int) from rfl, htk] at s6 ⊢
    simp -zeta only [vbin_eql, wv_some]
    exact fin rfl s6
  · have htk := htk 8 (by simp [ValM.wire, h4, length_be])
    refine step1 s5 (fun h k => cursor_Reader_I64.use h k) fun G6 s6 g6 => ?_
    rw [show (8 : Int) = ((8 : Nat) : Int) from rfl, htk] at s6 ⊢
    simp -zeta only [vbin_eql, wv_some]
    exact fin (by decide) s6
  · have htk := htk 32 (by simp [ValM.wire, h5, hx.h])
    refine step1 s5 (fun h k => cursor_Reader_Hash.use h k) fun G6 s6 g6 => ?_
    rw [show (32 : Int) = ((32 : Nat) : Int) from rfl, htk] at s6 ⊢
    show wv (some z_api_Hash) _
    rw [wv_some, z_hash, fill_nil, vbin_heql T_api_Hash rfl T_uint8 rfl rfl (by simp) (by simp), wv_some]
    exact fin (by simp) s6
  · rw [lx, wv_some]
    refine escrowlaw03_Val_text.use hx (by omega) fun G6 c6 => ?_
    have s6 := s5.tmp c6
    show wv (some (.int .i64 x.text.length)) _
    rw [wv_some]
    refine step1 s6 (fun h k => cursor_Reader_Text.use h k) fun G7 s7 g7 => ?_
    have hno : x.text.length ≤ 65535 := by
      rcases Nat.lt_or_ge 65535 x.text.length with h | h
      · exact absurd ⟨h6, h⟩ hl
      · exact h
    have hwt : x.wire = M.wire x.text := by simp [ValM.wire, h6]
    have ht : texts st x.text.length = ([], ([], 2)) := by
      rcases hla with rfl | ⟨h0', h1', t, h2'⟩
      · exact texts_broken (by simp)
      · obtain ⟨b, f⟩ := st
        simp only at h0' h1' h2'
        subst h0'
        rcases Nat.lt_or_ge b.length 2 with hb | hb
        · exact texts_short hb
        · have hb2 : b.take 2 = be 2 x.text.length := by
            rw [← wire_take2, ← hwt, h2', List.take_append_of_le_length hb]
          rw [texts_two hb, hb2, num_be2 hno, if_neg (by omega)]
          rw [hwt, length_wire] at h1'
          exact takes_short (by simp; omega)
    rw [ht] at s7 ⊢
    simp -zeta only [vbin_seql, wv_some]
    exact fin (by simp) s7
  · rw [lx, wv_some]
    refine escrowlaw03_Val_text.use hx (by omega) fun G6 c6 => ?_
    have s6 := s5.tmp c6
    show wv (some (.int .i64 x.text.length)) _
    rw [wv_some]
    refine step1 s6 (fun h k => cursor_Reader_Raw.use h k) fun G7 s7 g7 => ?_
    have hk := x.k_range
    have hwt : x.wire = x.text := by simp [ValM.wire, h0, h1, h2, h3, h4, h5, h6]
    have ht : raws st x.text.length = ([], ([], 2)) := by
      unfold raws
      rw [if_neg (fun h => by omega), htk _ (by rw [hwt])]
    rw [ht] at s7 ⊢
    simp -zeta only [vbin_seql, wv_some]
    exact fin (by simp) s7

end
end Go.Esc.M
