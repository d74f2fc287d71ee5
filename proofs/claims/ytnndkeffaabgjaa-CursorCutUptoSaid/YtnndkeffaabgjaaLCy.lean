/- Own work. Chapter 3: values of the statements; a value laid; a step of a reader. -/
import Derived.Test.YtnndkeffaabgjaaLCx
set_option linter.unusedSimpArgs false
set_option linter.unusedVariables false
namespace Go.Esc.M
open Go Go.Esc

/-- The statements' Val. -/
structure ValM where
  kind : Int
  u : Nat
  i : Int
  h : List UInt8
  s : List UInt8
  times : Int

def ValM.av (x : ValM) : AVal := .agg [.int .i64 x.kind, .int .u64 x.u, .int .i64 x.i, .agg (x.h.map u8v), .str x.s, .int .i64 x.times]

structure ValM.ok (x : ValM) (m : Nat) : Prop where
  kind : I64 x.kind
  u : x.u < 2 ^ 64
  i : I64 x.i
  h : x.h.length = 32
  times : I64 x.times
  m : x.s.length + 1 ≤ m

theorem wt_Val {G : Heap} {R d : Nat} {v : AVal} {m : Nat} (h : wt T G R (d + 3) t_escrowlaw03_Val v m) : ∃ x : ValM, v = x.av ∧ x.ok m := by
  obtain ⟨cs, ms, rfl, hf, rfl⟩ := wt_struct T_escrowlaw03_Val rfl h
  obtain ⟨c1, cs, m1, ms, rfl, rfl, h1, hf⟩ := wfs_cons hf
  obtain ⟨c2, cs, m2, ms, rfl, rfl, h2, hf⟩ := wfs_cons hf
  obtain ⟨c3, cs, m3, ms, rfl, rfl, h3, hf⟩ := wfs_cons hf
  obtain ⟨c4, cs, m4, ms, rfl, rfl, h4, hf⟩ := wfs_cons hf
  obtain ⟨c5, cs, m5, ms, rfl, rfl, h5, hf⟩ := wfs_cons hf
  obtain ⟨c6, cs, m6, ms, rfl, rfl, h6, hf⟩ := wfs_cons hf
  obtain ⟨rfl, rfl⟩ := wfs_nil hf
  obtain ⟨kind, rfl, w1, rfl⟩ := wt_int T_int rfl h1
  obtain ⟨u, rfl, w2, rfl⟩ := wt_int T_uint64 rfl h2
  obtain ⟨i, rfl, w3, rfl⟩ := wt_int T_int64 rfl h3
  obtain ⟨hs, rfl, w4, rfl⟩ := wt_hash T_api_Hash rfl T_uint8 rfl h4
  obtain ⟨s, rfl, _, _, rfl⟩ := wt_str T_string rfl h5
  obtain ⟨times, rfl, w6, rfl⟩ := wt_int T_int rfl h6
  have hu := u64_wf.1 w2
  refine ⟨⟨kind, u.toNat, i, hs, s, times⟩, ?_, i64_wf.1 w1, ?_, i64_wf.1 w3, w4, i64_wf.1 w6, ?_⟩
  · simp only [ValM.av]
    rw [show ((u.toNat : Nat) : Int) = u by omega]
  · show u.toNat < 2 ^ 64
    omega
  · simp
    omega

/-- The kind, 0 to 7. -/
def ValM.k (x : ValM) : Int := x.kind % 8

theorem and_mask (a : Int) (k : Nat) (hk : k ≤ 63) : IntKind.i64.wrap ((BitVec.ofInt IntKind.i64.bits a &&& BitVec.ofInt IntKind.i64.bits ((2 ^ k - 1 : Nat) : Int)).toNat : Nat) = a % ((2 ^ k : Nat) : Int) := by
  have hbits : IntKind.i64.bits = 64 := rfl
  have hp : 2 ^ k ≤ 2 ^ 63 := Nat.pow_le_pow_right (by omega) hk
  have hp0 : 0 < 2 ^ k := Nat.pow_pos (by omega)
  have h1 : (BitVec.ofInt IntKind.i64.bits a &&& BitVec.ofInt IntKind.i64.bits ((2 ^ k - 1 : Nat) : Int)).toNat = (a % ((2 ^ k : Nat) : Int)).toNat := by
    rw [BitVec.toNat_and, BitVec.ofInt_natCast, BitVec.toNat_ofNat, hbits, Nat.mod_eq_of_lt (a := 2 ^ k - 1) (by omega), Nat.and_two_pow_sub_one_eq_mod, BitVec.toNat_ofInt]
    have hd : ((2 ^ k : Nat) : Int) ∣ ((2 ^ 64 : Nat) : Int) := by
      refine Int.natCast_dvd_natCast.2 (Nat.pow_dvd_pow 2 (by omega))
    have h2 : (a % ((2 ^ 64 : Nat) : Int)) % ((2 ^ k : Nat) : Int) = a % ((2 ^ k : Nat) : Int) := Int.emod_emod_of_dvd a hd
    have h3 : 0 ≤ a % ((2 ^ 64 : Nat) : Int) := Int.emod_nonneg _ (by decide)
    have h4 : ((a % ((2 ^ 64 : Nat) : Int)).toNat : Int) = a % ((2 ^ 64 : Nat) : Int) := Int.toNat_of_nonneg h3
    have h5 : (((a % ((2 ^ 64 : Nat) : Int)).toNat % 2 ^ k : Nat) : Int) = a % ((2 ^ k : Nat) : Int) := by
      rw [Int.natCast_emod, h4, h2]
    omega
  rw [h1]
  have h6 : 0 ≤ a % ((2 ^ k : Nat) : Int) := Int.emod_nonneg _ (by omega)
  have h7 : a % ((2 ^ k : Nat) : Int) < ((2 ^ k : Nat) : Int) := Int.emod_lt_of_pos _ (by omega)
  rw [Int.toNat_of_nonneg h6]
  exact i64_in (by omega) (by omega)

theorem and7 (a : Int) : vbin T .and t_int (.int .i64 a) (.int .i64 7) = some (.int .i64 (a % 8)) := by
  rw [vbin_and]
  have := and_mask a 3 (by omega)
  rw [show ((2 ^ 3 - 1 : Nat) : Int) = 7 from rfl, show ((2 ^ 3 : Nat) : Int) = 8 from rfl] at this
  rw [this]

section
variable {G : Heap} {Q : AVal → Heap → Prop}

theorem ValM.load {x : ValM} {m : Nat} (hx : x.ok m) {id : AId} {o : AObj} (hg : G id = some o) (ho : treeOf o = some x.av) : vload T G t_escrowlaw03_Val (.ptr id [] 0) = some x.av := by
  have h1 : szs (x.h.map u8v) = 32 := by rw [szs_uni (n := 1) (uni_u8 x.h)]; simp [hx.h]
  have h2 : sz x.av = 37 := by simp [ValM.av, sz, szs, h1]
  have h3 : x.av.isAgg = true := rfl
  simp [vload, vsub, hg, ho, sub, T_escrowlaw03_Val, ti_escrowlaw03_Val, vfits, h2, h3, ADesc.isAgg]

theorem escrowlaw03_Val_kind.use {x : ValM} (hQ : ∀ G', Ch [] G [] G' → Q (.int .i64 x.k) G') : ACalls P escrowlaw03_Val_kind.n [x.av] G Q := by
  refine escrowlaw03_Val_kind.sound ?_
  unfold escrowlaw03_Val_kind.S
  intro i hf
  have l := vload_fld (T := T) (f := 0) (o := 0) (c := .int .i64 x.kind) (Heap.upd_self G i (.own x.av)) rfl rfl rfl T_int rfl
  rw [l, wv_some, and7, wv_some]
  exact hQ _ hf.ch

/-- A text, often behind itself. -/
def grown (s : List UInt8) : Nat → List UInt8 → List UInt8
  | 0, c => c
  | n + 1, c => if c.length < 70000 ∧ c ≠ [] then grown s n (c ++ s) else c
def ValM.text (x : ValM) : List UInt8 := grown x.s (x.times - 1).toNat x.s

theorem length_grown (s : List UInt8) : ∀ n c, (grown s n c).length ≤ max c.length (70000 + s.length)
  | 0, c => by simp [grown]; omega
  | n + 1, c => by
    unfold grown
    split
    · have := length_grown s n (c ++ s)
      simp at this
      omega
    · omega
theorem ValM.length_text (x : ValM) : x.text.length ≤ 70000 + x.s.length := by
  have := length_grown x.s (x.times - 1).toNat x.s
  unfold ValM.text
  omega

theorem escrowlaw03_Val_text.use {x : ValM} {m : Nat} (hx : x.ok m) (hm : m ≤ 140737488355328) (hQ : ∀ G', Ch [] G [] G' → Q (.str x.text) G') : ACalls P escrowlaw03_Val_text.n [x.av] G Q := by
  have hsm := hx.m
  refine escrowlaw03_Val_text.sound ?_
  unfold escrowlaw03_Val_text.S
  generalize h70 : (70000 : Int) = q70
  intro i hf
  have h1 : szs (x.h.map u8v) = 32 := by rw [szs_uni (n := 1) (uni_u8 x.h)]; simp [hx.h]
  have hg : (G.upd i (.own x.av)) i = some (.own x.av) := Heap.upd_self _ _ _
  have l4 : vload T (G.upd i (.own x.av)) t_string (.ptr i [4] 35) = some (.str x.s) := vload_fld (c := .str x.s) hg rfl (by simp [ValM.av, szs, sz, h1]) rfl T_string rfl
  have l5 : vload T (G.upd i (.own x.av)) t_int (.ptr i [5] 36) = some (.int .i64 x.times) := vload_fld (c := .int .i64 x.times) hg rfl (by simp [ValM.av, szs, sz, h1]) rfl T_int rfl
  rw [l4, wv_some]
  intro R hR
  have ht := hx.times
  have loop : ∀ (n : Nat) (c : List UInt8) (j : Int), (x.times - j).toNat = n → 1 ≤ j → j ≤ 9223372036854775807 → c.length ≤ 70000 + x.s.length → (∀ G', Ch [] G [] G' → Q (.str (grown x.s n c)) G') → R [.ptr i [] 0, .str c, .int .i64 j] (G.upd i (.own x.av)) := by
    intro n
    induction n with
    | zero =>
      intro c j hn h1 h2 hc hq
      refine hR _ _ _ _ ?_
      intro J
      have hJ : J (.bool false) (G.upd i (.own x.av)) := by
        simp -zeta only [J, brB_false]
        exact hq _ hf.ch
      show wv (vload T _ t_int (.ptr i [5] 36)) _
      rw [l5]
      simp -zeta only [wv_some, vbin_lss, brB_dec]
      constructor
      · intro h
        exact absurd h (by omega)
      · intro _
        exact hJ
    | succ n ih =>
      intro c j hn h1 h2 hc hq
      have ht2 := ht.2
      refine hR _ _ _ _ ?_
      intro J
      have hJf : ¬ (c.length < 70000 ∧ c ≠ []) → J (.bool false) (G.upd i (.own x.av)) := by
        intro hn
        simp -zeta only [J, brB_false]
        rw [grown, if_neg hn] at hq
        exact hq _ hf.ch
      show wv (vload T _ t_int (.ptr i [5] 36)) _
      rw [l5]
      simp -zeta only [wv_some, vbin_lss, brB_dec]
      refine ⟨fun _ => ?_, fun h => absurd (by omega) h⟩
      show wv (some (.int .i64 c.length)) _
      rw [wv_some, vbin_lss, wv_some, brB_dec]
      refine ⟨fun h7 => ?_, fun h7 => hJf fun h => h7 (by have := h.1; omega)⟩
      by_cases hc0 : c = []
      · subst hc0
        simp -zeta only [vbin_sneq, wv_some, decide_true, Bool.not_true]
        exact hJf fun h => h.2 rfl
      · simp -zeta only [vbin_sneq, wv_some, hc0, decide_false, Bool.not_false]
        simp -zeta only [J, brB_true]
        show wv (vload T _ t_string (.ptr i [4] 35)) _
        rw [l4, wv_some, vbin_sadd _ _ (by omega), wv_some]
        simp -zeta only [vbin_add, wv_some]
        rw [i64_in (by omega) (by omega)]
        refine ih (c ++ x.s) (j + 1) (by omega) (by omega) (by omega) (by simp; omega) ?_
        rw [grown, if_pos ⟨by omega, hc0⟩] at hq
        exact hq
  exact loop _ x.s 1 rfl (by omega) (by omega) (by omega) hQ

/-- What a writer holds behind a value. -/
def layV (st : List UInt8 × Int) (x : ValM) : List UInt8 × Int :=
  if x.k = 0 then laid st (be 1 (x.u % 256)) else if x.k = 1 then laid st (be 2 (x.u % 65536)) else if x.k = 2 then laid st (be 4 (x.u % 4294967296)) else if x.k = 3 then laid st (be 8 x.u)
  else if x.k = 4 then laid st (be 8 (bits64 x.i)) else if x.k = 5 then laid st x.h else if x.k = 6 then laidText st x.text else laid st x.text

theorem length_laidText (st : List UInt8 × Int) (xs : List UInt8) : (laidText st xs).1.length ≤ st.1.length + xs.length + 2 := by
  unfold laidText
  split
  · simp; omega
  · have := length_laid st (be 2 xs.length ++ xs)
    rw [List.length_append, length_be] at this
    omega

theorem length_layV (st : List UInt8 × Int) {x : ValM} {m : Nat} (hx : x.ok m) : (layV st x).1.length ≤ st.1.length + 70002 + m := by
  have h1 := x.length_text
  have h2 := hx.m
  have l1 := length_laid st (be 1 (x.u % 256))
  have l2 := length_laid st (be 2 (x.u % 65536))
  have l3 := length_laid st (be 4 (x.u % 4294967296))
  have l4 := length_laid st (be 8 x.u)
  have l5 := length_laid st (be 8 (bits64 x.i))
  have l6 := length_laid st x.h
  have l7 := length_laidText st x.text
  have l8 := length_laid st x.text
  rw [length_be] at l1 l2 l3 l4 l5
  rw [hx.h] at l6
  unfold layV
  split <;> (try split) <;> (try split) <;> (try split) <;> (try split) <;> (try split) <;> (try split) <;> omega

theorem ValM.k_range (x : ValM) : 0 ≤ x.k ∧ x.k < 8 := by unfold ValM.k; omega

section
variable {id : AId} {st : List UInt8 × Int} {F : List AId} {x : ValM} {m : Nat}

theorem lays_frame {i : AId} {G2 : Heap} (h : Wr id st G F) (hf : Fresh G i) (hc : Ch [] (G.upd i (.own x.av)) [] G2) : Wr id st G2 F ∧ G2 i = some (.own x.av) ∧ Ch F G F G2 := by
  have h1 := h.ch (hf.ch (o := .own x.av)) (by simp)
  exact ⟨h1.ch hc (by simp), hc.others _ _ (Heap.upd_self _ _ _) (by simp), ((hf.ch (o := .own x.av)).trans hc).grow⟩

theorem ValM.fld {G : Heap} {i : AId} (hx : x.ok m) (hg : G i = some (.own x.av)) :
    vload T G t_uint64 (.ptr i [1] 1) = some (.int .u64 x.u) ∧ vload T G t_int64 (.ptr i [2] 2) = some (.int .i64 x.i) ∧ vload T G t_api_Hash (.ptr i [3] 3) = some (.agg (x.h.map u8v)) := by
  have h1 : szs (x.h.map u8v) = 32 := by rw [szs_uni (n := 1) (uni_u8 x.h)]; simp [hx.h]
  refine ⟨vload_fld (c := .int .u64 x.u) hg rfl rfl rfl T_uint64 rfl, vload_fld (c := .int .i64 x.i) hg rfl rfl rfl T_int64 rfl, vload_fld (c := .agg (x.h.map u8v)) hg rfl rfl rfl T_api_Hash ?_⟩
  simp [vfits, sz, h1, ti_api_Hash, AVal.isAgg, ADesc.isAgg]

theorem escrowlaw03_lays.use (hx : x.ok m) (hm : m ≤ 140737488000000) (h : Wr id st G F) (hb : st.1.length + 70034 + m ≤ 140737488355328) (hQ : ∀ F' G', Wr id (layV st x) G' F' → Ch F G F' G' → Q (.tuple []) G') :
    ACalls P escrowlaw03_lays.n [.ptr id [] 0, x.av] G Q := by
  have hsm := hx.m
  have htx := x.length_text
  have hk := x.k_range
  refine escrowlaw03_lays.sound ?_
  unfold escrowlaw03_lays.S
  intro i hf
  rw [ValM.load hx (Heap.upd_self _ _ _) rfl, wv_some]
  refine escrowlaw03_Val_kind.use fun G2 hc => ?_
  obtain ⟨hw, hg, hch⟩ := lays_frame h hf hc
  obtain ⟨l1, l2, l3⟩ := ValM.fld hx hg
  have lx := ValM.load hx hg rfl
  have ho := hx.u
  unfold layV at hQ
  simp -zeta only [vbin_eql, wv_some, brB_dec]
  refine ⟨fun h0 => ?_, fun h0 => ⟨fun h1 => ?_, fun h1 => ⟨fun h2 => ?_, fun h2 => ⟨fun h3 => ?_, fun h3 => ⟨fun h4 => ?_, fun h4 => ⟨fun h5 => ?_, fun h5 => ⟨fun h6 => ?_, fun h6 => ⟨fun h7 => ?_, fun h7 => absurd hk (by omega)⟩⟩⟩⟩⟩⟩⟩⟩
  · rw [if_pos h0] at hQ
    rw [l1, wv_some, vconv_int T_uint64 T_uint8 rfl, wv_some, wrapU8, show ((x.u : Int) % 256) = ((x.u % 256 : Nat) : Int) by omega]
    exact cursor_Writer_U8.use (by omega) hw (by omega) fun F' G' w c => hQ F' G' w (hch.trans c)
  · rw [if_neg h0, if_pos h1] at hQ
    rw [l1, wv_some, vconv_int T_uint64 T_uint16 rfl, wv_some, wrapU16, show ((x.u : Int) % 65536) = ((x.u % 65536 : Nat) : Int) by omega]
    exact cursor_Writer_U16.use (by omega) hw (by omega) fun F' G' w c => hQ F' G' w (hch.trans c)
  · rw [if_neg h0, if_neg h1, if_pos h2] at hQ
    rw [l1, wv_some, vconv_int T_uint64 T_uint32 rfl, wv_some, wrapU32, show ((x.u : Int) % 4294967296) = ((x.u % 4294967296 : Nat) : Int) by omega]
    exact cursor_Writer_U32.use (by omega) hw (by omega) fun F' G' w c => hQ F' G' w (hch.trans c)
  · rw [if_neg h0, if_neg h1, if_neg h2, if_pos h3] at hQ
    rw [l1, wv_some]
    exact cursor_Writer_U64.use ho hw (by omega) fun F' G' w c => hQ F' G' w (hch.trans c)
  · rw [if_neg h0, if_neg h1, if_neg h2, if_neg h3, if_pos h4] at hQ
    rw [l2, wv_some]
    exact cursor_Writer_I64.use hw (by omega) fun F' G' w c => hQ F' G' w (hch.trans c)
  · rw [if_neg h0, if_neg h1, if_neg h2, if_neg h3, if_neg h4, if_pos h5] at hQ
    rw [l3, wv_some]
    exact cursor_Writer_Hash.use hx.h hw (by omega) fun F' G' w c => hQ F' G' w (hch.trans c)
  · rw [if_neg h0, if_neg h1, if_neg h2, if_neg h3, if_neg h4, if_neg h5, if_pos h6] at hQ
    rw [lx, wv_some]
    refine escrowlaw03_Val_text.use hx (by omega) fun G3 c3 => ?_
    exact cursor_Writer_Text.use (hw.ch c3 (by simp)) (by omega) fun F' G' w c => hQ F' G' w ((hch.trans c3.grow).trans c)
  · rw [if_neg h0, if_neg h1, if_neg h2, if_neg h3, if_neg h4, if_neg h5, if_neg h6] at hQ
    rw [lx, wv_some]
    refine escrowlaw03_Val_text.use hx (by omega) fun G3 c3 => ?_
    exact cursor_Writer_Raw.use (hw.ch c3 (by simp)) (by omega) fun F' G' w c => hQ F' G' w ((hch.trans c3.grow).trans c)

end

/-- The statements' Op. -/
structure OpM where
  two : Bool
  v : ValM
  kind : Int
  n : Int

def OpM.av (o : OpM) : AVal := .agg [.bool o.two, o.v.av, .int .i64 o.kind, .int .i64 o.n]
structure OpM.ok (o : OpM) (m : Nat) : Prop where
  v : o.v.ok m
  m : 1 ≤ m

theorem ValM.ok.le {x : ValM} {m m' : Nat} (h : x.ok m) (hm : m ≤ m') : x.ok m' := ⟨h.kind, h.u, h.i, h.h, h.times, Nat.le_trans h.m hm⟩

end
end Go.Esc.M
