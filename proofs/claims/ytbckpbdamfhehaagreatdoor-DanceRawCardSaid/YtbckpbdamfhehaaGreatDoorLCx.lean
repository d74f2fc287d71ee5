import Derived.Test.YtbckpbdamfhehaaGreatDoorEZ
import Derived.Test.YtbckpbdamfhehaaGreatDoorSS
import Derived.Test.YtbckpbdamfhehaaGreatDoorLSh
/- Own work. Chapter 3: the writers. -/
set_option linter.unusedSimpArgs false
set_option linter.unusedVariables false
set_option maxRecDepth 20000
namespace Go.Esc.M
open Go Go.Esc

/-- A number's bytes, the greatest first. -/
def be : Nat → Nat → List UInt8
  | 0, _ => []
  | k + 1, v => UInt8.ofNat (v / 2 ^ (8 * k)) :: be k v

theorem length_be (v : Nat) : ∀ k, (be k v).length = k
  | 0 => rfl
  | k + 1 => by simp [be, length_be v k]

theorem shr_byte (v i : Nat) (hi : i ≤ 7) : IntKind.u8.wrap ((v : Int).fdiv (2 ^ min ((8 : Int) * (i : Int)).toNat IntKind.u64.bits)) = ((v / 2 ^ (8 * i) % 256 : Nat) : Int) := by
  have h1 : min ((8 : Int) * (i : Int)).toNat IntKind.u64.bits = 8 * i := by
    have : IntKind.u64.bits = 64 := rfl
    omega
  rw [h1, IntKind.wrap_u8]
  have h2 : ((2 : Int) ^ (8 * i)) = ((2 ^ (8 * i) : Nat) : Int) := by simp
  rw [h2, Int.fdiv_eq_ediv_of_nonneg _ (Int.natCast_nonneg _)]
  simp

/-- What a writer holds behind more bytes: nothing more once it is broken. -/
def laid (st : List UInt8 × Int) (xs : List UInt8) : List UInt8 × Int := if st.2 = 0 then (st.1 ++ xs, 0) else st

def Wr (id : AId) (st : List UInt8 × Int) (G : Heap) (F : List AId) : Prop := WrP id st.1 st.2 G F

theorem WrP.fault {id : AId} {bs : List UInt8} {f : Int} {G : Heap} {F : List AId} (h : WrP id bs f G F) : vload T G t_api_Errno (.ptr id [1] 1) = some (.int .i64 f) := by
  obtain ⟨s, hg, ho, _⟩ := h
  exact vload_fld hg rfl (by simp [szs, ho.leaf.1]) rfl T_api_Errno rfl

theorem WrP.load {id : AId} {bs : List UInt8} {f : Int} {G : Heap} {F : List AId} (h : WrP id bs f G F) :
    ∃ s, vload T G t_sl_uint8 (.ptr id [0] 0) = some s ∧ G id = some (.own (.agg [s, .int .i64 f])) ∧ Own 1 G s (bs.map u8v) ∧ rowOf s ≠ some id ∧ F = id :: (rowOf s).toList := by
  obtain ⟨s, hg, ho, hne, hF⟩ := h
  exact ⟨s, vload_fld hg rfl rfl rfl T_sl_uint8 (by simp [vfits, ho.leaf.1, ho.leaf.2.1, ti_sl_uint8, ADesc.isAgg]), hg, ho, hne, hF⟩

theorem lay_step {id : AId} {bs : List UInt8} {f : Int} {G : Heap} {F : List AId} (h : WrP id bs f G F) (hb : bs.length + 1 ≤ 220000000000000) :
    ∃ s, vload T G t_sl_uint8 (.ptr id [0] 0) = some s ∧ ∀ (b : UInt8) (K : Heap → Prop), (∀ F' G', WrP id (bs ++ [b]) f G' F' → Ch F G F' G' → K G') →
      aBuildSlice T t_sl_uint8 1 [(0, u8v b)] G fun v G1 => aAppend T G1 t_sl_uint8 t_sl_uint8 s v fun v2 G2 => wg (vstore T G2 t_sl_uint8 (.ptr id [0] 0) v2) K := by
  obtain ⟨s, hl, hg, ho, hne, rfl⟩ := WrP.load h
  refine ⟨s, hl, fun b K hK => ?_⟩
  refine append1 (T := T) (ts := t_sl_uint8) (e := t_uint8) (si := ti_sl_uint8) (ie := ti_uint8) T_sl_uint8 rfl T_uint8 rfl (by decide) ho rfl rfl (by decide) ?_ fun s' G2 ho2 hk => ?_
  · simp only [List.length_map, ti_uint8]
    omega
  · obtain ⟨G', hst, hw, hch⟩ := WrP.put (T := T) (tb := t_sl_uint8) (ib := ti_sl_uint8) T_sl_uint8 (.inr rfl) rfl (bs' := bs ++ [b]) hg hne ho.leaf.1 (by rw [List.map_append]; exact ho2) hk
    rw [hst, wg_some]
    exact hK _ _ hw hch

theorem raw_step {id : AId} {bs xs : List UInt8} {f : Int} {G : Heap} {F : List AId} (h : WrP id bs f G F) (hb : bs.length + xs.length ≤ 220000000000000) :
    ∃ s, vload T G t_sl_uint8 (.ptr id [0] 0) = some s ∧ ∀ (K : Heap → Prop), (∀ F' G', WrP id (bs ++ xs) f G' F' → Ch F G F' G' → K G') →
      aAppend T G t_sl_uint8 t_string s (.str xs) fun v2 G2 => wg (vstore T G2 t_sl_uint8 (.ptr id [0] 0) v2) K := by
  obtain ⟨s, hl, hg, ho, hne, rfl⟩ := WrP.load h
  refine ⟨s, hl, fun K hK => ?_⟩
  refine own_append (T := T) (e := t_uint8) (si := ti_sl_uint8) (ie := ti_uint8) (vs := xs.map u8v) T_sl_uint8 rfl T_uint8 rfl (by decide) T_string (.inl rfl) ho (by simp [selems, ti_uint8, u8v, Function.comp_def]) (uni_u8 _) (okvs_u8 _) ?_ fun s' G2 ho2 hk => ?_
  · simp only [List.length_map, ti_uint8]
    omega
  · obtain ⟨G', hst, hw, hch⟩ := WrP.put (T := T) (tb := t_sl_uint8) (ib := ti_sl_uint8) T_sl_uint8 (.inr rfl) rfl (bs' := bs ++ xs) hg hne ho.leaf.1 (by rw [List.map_append]; exact ho2) hk
    rw [hst, wg_some]
    exact hK _ _ hw hch

theorem cursor_New.use {G : Heap} {Q : AVal → Heap → Prop} (h : ∀ id G', Wr id ([], 0) G' [id] → Ch [] G [id] G' → Q (.ptr id [] 0) G') : ACalls P cursor_New.n [] G Q := by
  refine cursor_New.sound ?_
  unfold cursor_New.S
  intro id hf
  exact h _ _ ⟨.nilSlice, Heap.upd_self _ _ _, .inl ⟨rfl, rfl⟩, by simp [rowOf], rfl⟩ (Ch.new hf)

theorem cursor_lay_uint8.use {id : AId} {st : List UInt8 × Int} {v k : Nat} {G : Heap} {F : List AId} {Q : AVal → Heap → Prop} (hv : v < 2 ^ 8) (hk : k ≤ 8) (h : Wr id st G F) (hb : st.1.length + k ≤ 220000000000000)
    (hQ : ∀ F' G', Wr id (laid st (be k v)) G' F' → Ch F G F' G' → Q (.tuple []) G') : ACalls P cursor_lay_uint8.n [.ptr id [] 0, .int .u8 v, .int .i64 k] G Q := by
  refine cursor_lay_uint8.sound ?_
  unfold cursor_lay_uint8.S
  obtain ⟨bs, f⟩ := st
  have hf := WrP.fault h
  show wv (vload T G t_api_Errno (.ptr id [1] 1)) _
  rw [hf]
  simp -zeta only [wv_some, vbin_neq, brB_ndec, vbin_sub]
  refine ⟨fun h0 => ?_, fun h0 => ?_⟩
  · refine hQ F G ?_ (Ch.refl _ _)
    simpa [laid, h0, Wr] using h
  · subst h0
    intro R hR
    rw [i64_in (by omega) (by omega)]
    have hb : bs.length + k ≤ 220000000000000 := hb
    have loop : ∀ (i : Nat) (bs' : List UInt8) (F' : List AId) (G' : Heap), i ≤ k → bs'.length + i ≤ 220000000000000 → WrP id bs' 0 G' F' → Ch F G F' G' → bs ++ be k v = bs' ++ be i v →
        R [.ptr id [] 0, .int .u8 v, .int .i64 ((i : Int) - 1)] G' := by
      intro i
      induction i with
      | zero =>
        intro bs' F' G' _ _ hw hch he
        refine hR _ _ _ _ ?_
        simp -zeta only [vbin_geq, wv_some, brB_dec]
        refine ⟨fun h => absurd h (by omega), fun _ => hQ F' G' ?_ hch⟩
        simp only [be, List.append_nil] at he
        simp only [laid, if_true, Wr, he]
        exact hw
      | succ i ih =>
        intro bs' F' G' hi hb' hw hch he
        refine hR _ _ _ _ ?_
        have ei : ((i + 1 : Nat) : Int) - 1 = (i : Int) := by omega
        rw [ei]
        simp -zeta only [vbin_geq, wv_some, brB_dec]
        refine ⟨fun _ => ?_, fun h => absurd (by omega) h⟩
        obtain ⟨s, hl, hstep⟩ := lay_step hw (by omega)
        show wv (vload T G' t_sl_uint8 (.ptr id [0] 0)) _
        rw [hl, wv_some]
        rw [vconv_int T_uint8 T_uint64 rfl, wv_some, u64_in (by omega) (by omega)]
        rw [vbin_mul, wv_some, i64_in (by omega) (by omega), vbin_shr _ _ _ _ _ _ (by omega), wv_some, vconv_int T_uint64 T_uint8 rfl, wv_some, shr_byte v i (by omega), ← u8v_ofNat]
        refine hstep _ _ fun F2 G2 hw2 hch2 => ?_
        show wv (vbin T .sub t_int (.int .i64 i) (.int .i64 1)) _
        simp -zeta only [vbin_sub, wv_some]
        rw [i64_in (by omega) (by omega)]
        refine ih _ F2 G2 (by omega) (by simp; omega) hw2 (hch.trans hch2) ?_
        rw [he, be]
        simp
    exact loop k bs F G (Nat.le_refl _) (by omega) h (Ch.refl _ _) rfl

theorem cursor_lay_uint16.use {id : AId} {st : List UInt8 × Int} {v k : Nat} {G : Heap} {F : List AId} {Q : AVal → Heap → Prop} (hv : v < 2 ^ 16) (hk : k ≤ 8) (h : Wr id st G F) (hb : st.1.length + k ≤ 220000000000000)
    (hQ : ∀ F' G', Wr id (laid st (be k v)) G' F' → Ch F G F' G' → Q (.tuple []) G') : ACalls P cursor_lay_uint16.n [.ptr id [] 0, .int .u16 v, .int .i64 k] G Q := by
  refine cursor_lay_uint16.sound ?_
  unfold cursor_lay_uint16.S
  obtain ⟨bs, f⟩ := st
  have hf := WrP.fault h
  show wv (vload T G t_api_Errno (.ptr id [1] 1)) _
  rw [hf]
  simp -zeta only [wv_some, vbin_neq, brB_ndec, vbin_sub]
  refine ⟨fun h0 => ?_, fun h0 => ?_⟩
  · refine hQ F G ?_ (Ch.refl _ _)
    simpa [laid, h0, Wr] using h
  · subst h0
    intro R hR
    rw [i64_in (by omega) (by omega)]
    have hb : bs.length + k ≤ 220000000000000 := hb
    have loop : ∀ (i : Nat) (bs' : List UInt8) (F' : List AId) (G' : Heap), i ≤ k → bs'.length + i ≤ 220000000000000 → WrP id bs' 0 G' F' → Ch F G F' G' → bs ++ be k v = bs' ++ be i v →
        R [.ptr id [] 0, .int .u16 v, .int .i64 ((i : Int) - 1)] G' := by
      intro i
      induction i with
      | zero =>
        intro bs' F' G' _ _ hw hch he
        refine hR _ _ _ _ ?_
        simp -zeta only [vbin_geq, wv_some, brB_dec]
        refine ⟨fun h => absurd h (by omega), fun _ => hQ F' G' ?_ hch⟩
        simp only [be, List.append_nil] at he
        simp only [laid, if_true, Wr, he]
        exact hw
      | succ i ih =>
        intro bs' F' G' hi hb' hw hch he
        refine hR _ _ _ _ ?_
        have ei : ((i + 1 : Nat) : Int) - 1 = (i : Int) := by omega
        rw [ei]
        simp -zeta only [vbin_geq, wv_some, brB_dec]
        refine ⟨fun _ => ?_, fun h => absurd (by omega) h⟩
        obtain ⟨s, hl, hstep⟩ := lay_step hw (by omega)
        show wv (vload T G' t_sl_uint8 (.ptr id [0] 0)) _
        rw [hl, wv_some]
        rw [vconv_int T_uint16 T_uint64 rfl, wv_some, u64_in (by omega) (by omega)]
        rw [vbin_mul, wv_some, i64_in (by omega) (by omega), vbin_shr _ _ _ _ _ _ (by omega), wv_some, vconv_int T_uint64 T_uint8 rfl, wv_some, shr_byte v i (by omega), ← u8v_ofNat]
        refine hstep _ _ fun F2 G2 hw2 hch2 => ?_
        show wv (vbin T .sub t_int (.int .i64 i) (.int .i64 1)) _
        simp -zeta only [vbin_sub, wv_some]
        rw [i64_in (by omega) (by omega)]
        refine ih _ F2 G2 (by omega) (by simp; omega) hw2 (hch.trans hch2) ?_
        rw [he, be]
        simp
    exact loop k bs F G (Nat.le_refl _) (by omega) h (Ch.refl _ _) rfl

theorem cursor_lay_uint64.use {id : AId} {st : List UInt8 × Int} {v k : Nat} {G : Heap} {F : List AId} {Q : AVal → Heap → Prop} (hv : v < 2 ^ 64) (hk : k ≤ 8) (h : Wr id st G F) (hb : st.1.length + k ≤ 220000000000000)
    (hQ : ∀ F' G', Wr id (laid st (be k v)) G' F' → Ch F G F' G' → Q (.tuple []) G') : ACalls P cursor_lay_uint64.n [.ptr id [] 0, .int .u64 v, .int .i64 k] G Q := by
  refine cursor_lay_uint64.sound ?_
  unfold cursor_lay_uint64.S
  obtain ⟨bs, f⟩ := st
  have hf := WrP.fault h
  show wv (vload T G t_api_Errno (.ptr id [1] 1)) _
  rw [hf]
  simp -zeta only [wv_some, vbin_neq, brB_ndec, vbin_sub]
  refine ⟨fun h0 => ?_, fun h0 => ?_⟩
  · refine hQ F G ?_ (Ch.refl _ _)
    simpa [laid, h0, Wr] using h
  · subst h0
    intro R hR
    rw [i64_in (by omega) (by omega)]
    have hb : bs.length + k ≤ 220000000000000 := hb
    have loop : ∀ (i : Nat) (bs' : List UInt8) (F' : List AId) (G' : Heap), i ≤ k → bs'.length + i ≤ 220000000000000 → WrP id bs' 0 G' F' → Ch F G F' G' → bs ++ be k v = bs' ++ be i v →
        R [.ptr id [] 0, .int .u64 v, .int .i64 ((i : Int) - 1)] G' := by
      intro i
      induction i with
      | zero =>
        intro bs' F' G' _ _ hw hch he
        refine hR _ _ _ _ ?_
        simp -zeta only [vbin_geq, wv_some, brB_dec]
        refine ⟨fun h => absurd h (by omega), fun _ => hQ F' G' ?_ hch⟩
        simp only [be, List.append_nil] at he
        simp only [laid, if_true, Wr, he]
        exact hw
      | succ i ih =>
        intro bs' F' G' hi hb' hw hch he
        refine hR _ _ _ _ ?_
        have ei : ((i + 1 : Nat) : Int) - 1 = (i : Int) := by omega
        rw [ei]
        simp -zeta only [vbin_geq, wv_some, brB_dec]
        refine ⟨fun _ => ?_, fun h => absurd (by omega) h⟩
        obtain ⟨s, hl, hstep⟩ := lay_step hw (by omega)
        show wv (vload T G' t_sl_uint8 (.ptr id [0] 0)) _
        rw [hl, wv_some]
        rw [vbin_mul, wv_some, i64_in (by omega) (by omega), vbin_shr _ _ _ _ _ _ (by omega), wv_some, vconv_int T_uint64 T_uint8 rfl, wv_some, shr_byte v i (by omega), ← u8v_ofNat]
        refine hstep _ _ fun F2 G2 hw2 hch2 => ?_
        show wv (vbin T .sub t_int (.int .i64 i) (.int .i64 1)) _
        simp -zeta only [vbin_sub, wv_some]
        rw [i64_in (by omega) (by omega)]
        refine ih _ F2 G2 (by omega) (by simp; omega) hw2 (hch.trans hch2) ?_
        rw [he, be]
        simp
    exact loop k bs F G (Nat.le_refl _) (by omega) h (Ch.refl _ _) rfl


theorem cursor_Writer_Raw.use {id : AId} {st : List UInt8 × Int} {xs : List UInt8} {G : Heap} {F : List AId} {Q : AVal → Heap → Prop} (h : Wr id st G F) (hb : st.1.length + xs.length ≤ 220000000000000)
    (hQ : ∀ F' G', Wr id (laid st xs) G' F' → Ch F G F' G' → Q (.tuple []) G') : ACalls P cursor_Writer_Raw.n [.ptr id [] 0, .str xs] G Q := by
  refine cursor_Writer_Raw.sound ?_
  unfold cursor_Writer_Raw.S
  obtain ⟨bs, f⟩ := st
  have hf := WrP.fault h
  show wv (vload T G t_api_Errno (.ptr id [1] 1)) _
  rw [hf]
  simp -zeta only [wv_some, vbin_eql, brB_dec]
  refine ⟨fun h0 => ?_, fun h0 => ?_⟩
  · obtain ⟨s, hl, hstep⟩ := raw_step h hb
    show wv (vload T G t_sl_uint8 (.ptr id [0] 0)) _
    rw [hl, wv_some]
    refine hstep _ fun F' G' hw hch => hQ F' G' ?_ hch
    simpa [laid, h0, Wr] using hw
  · refine hQ F G ?_ (Ch.refl _ _)
    simpa [laid, h0, Wr] using h

end Go.Esc.M

/- Own work. Chapter 3: the writers, all of their functions. -/
set_option linter.unusedSimpArgs false
set_option linter.unusedVariables false
set_option maxRecDepth 20000
namespace Go.Esc.M
open Go Go.Esc

theorem vconv_bytes {T : Tbl} {G : Heap} {s d e : TypeId} {si di ie : TI} {v : AVal} {l : List UInt8} (hs : T s = some si) (hsd : si.desc = .slice e) (he : T e = some ie) (hed : ie.desc = .int .u8) (hd : T d = some di) (hdd : di.desc = .string)
    (h : IsSl 1 G v (l.map u8v)) : vconv T G s d v = some (.str l) := by
  rcases h with ⟨id, p, st, off, len, cap, rfl, h⟩ | ⟨rfl, hl⟩
  · simp [vconv, hs, hd, hdd, hsd, he, hed, h, bytesOf_u8]
  · have : l = [] := by simpa using hl
    subst this
    simp [vconv, hs, hd, hdd, hsd, he, hed]

theorem Wr.ch {id : AId} {st : List UInt8 × Int} {G G' : Heap} {F E E' : List AId} (h : Wr id st G F) (hc : Ch E G E' G') (hd : ∀ j ∈ F, j ∉ E) : Wr id st G' F := WrP.frame h (hc.same (WrP.rows h) hd)

section
variable {id : AId} {st : List UInt8 × Int} {G : Heap} {F : List AId} {Q : AVal → Heap → Prop}

theorem cursor_Writer_U8.use {v : Nat} (hv : v < 2 ^ 8) (h : Wr id st G F) (hb : st.1.length + 8 ≤ 220000000000000) (hQ : ∀ F' G', Wr id (laid st (be 1 v)) G' F' → Ch F G F' G' → Q (.tuple []) G') :
    ACalls P cursor_Writer_U8.n [.ptr id [] 0, .int .u8 v] G Q := cursor_Writer_U8.sound (cursor_lay_uint8.use (k := 1) hv (by omega) h (by omega) hQ)
theorem cursor_Writer_U16.use {v : Nat} (hv : v < 2 ^ 16) (h : Wr id st G F) (hb : st.1.length + 8 ≤ 220000000000000) (hQ : ∀ F' G', Wr id (laid st (be 2 v)) G' F' → Ch F G F' G' → Q (.tuple []) G') :
    ACalls P cursor_Writer_U16.n [.ptr id [] 0, .int .u16 v] G Q := cursor_Writer_U16.sound (cursor_lay_uint16.use (k := 2) hv (by omega) h (by omega) hQ)
/-- A signed number's bits, as a number. -/
def bits64 (n : Int) : Nat := (n % 18446744073709551616).toNat
theorem bits64_lt (n : Int) : bits64 n < 2 ^ 64 := by
  unfold bits64
  omega
theorem wrap_bits64 (n : Int) : IntKind.u64.wrap n = (bits64 n : Int) := by
  rw [wrapU64]
  unfold bits64
  omega

theorem cursor_Writer_I64.use {v : Int} (h : Wr id st G F) (hb : st.1.length + 8 ≤ 220000000000000) (hQ : ∀ F' G', Wr id (laid st (be 8 (bits64 v))) G' F' → Ch F G F' G' → Q (.tuple []) G') :
    ACalls P cursor_Writer_I64.n [.ptr id [] 0, .int .i64 v] G Q := by
  refine cursor_Writer_I64.sound ?_
  unfold cursor_Writer_I64.S
  rw [vconv_int T_int64 T_uint64 rfl, wv_some, wrap_bits64]
  exact cursor_lay_uint64.use (k := 8) (bits64_lt v) (by omega) h (by omega) hQ

theorem cursor_Writer_Hash.use {hs : List UInt8} (hl : hs.length = 32) (h : Wr id st G F) (hb : st.1.length + 32 ≤ 220000000000000) (hQ : ∀ F' G', Wr id (laid st hs) G' F' → Ch F G F' G' → Q (.tuple []) G') :
    ACalls P cursor_Writer_Hash.n [.ptr id [] 0, .agg (hs.map u8v)] G Q := by
  refine cursor_Writer_Hash.sound ?_
  unfold cursor_Writer_Hash.S
  intro i hf
  have hch : Ch [] G [] (G.upd i (.own (.agg (hs.map u8v)))) := ⟨RoLe.of_le (hf.le _), fun j x hj _ => hf.le _ _ _ hj, fun j hj => by simp at hj⟩
  have hsl : IsSl 1 (G.upd i (.own (.agg (hs.map u8v)))) (.slice i [] 0 0 32 32) (hs.map u8v) := by
    have := isSl_row (n := 1) (cap := 32) (len := 32) (Heap.upd_self G i (.own (.agg (hs.map u8v)))) rfl (uni_u8 hs) (by simp [hl])
    rwa [List.take_of_length_le (by simp [hl])] at this
  show wv (vconv T _ t_sl_uint8 t_string (.slice i [] 0 0 32 32)) _
  rw [vconv_bytes T_sl_uint8 rfl T_uint8 rfl T_string rfl hsl, wv_some]
  exact cursor_Writer_Raw.use (h.ch hch (by simp)) (by omega) fun F' G' hw hc => hQ F' G' hw (hch.grow.trans hc)

theorem cursor_Writer_Out.use (h : Wr id st G F) (hQ : Q (.tuple [.str (if st.2 = 0 then st.1 else []), .int .i64 st.2]) G) : ACalls P cursor_Writer_Out.n [.ptr id [] 0] G Q := by
  refine cursor_Writer_Out.sound ?_
  unfold cursor_Writer_Out.S
  have hf := WrP.fault h
  show wv (vload T G t_api_Errno (.ptr id [1] 1)) _
  rw [hf]
  simp -zeta only [wv_some, vbin_neq, brB_ndec]
  refine ⟨fun h0 => ?_, fun h0 => ?_⟩
  · show wv (vload T G t_api_Errno (.ptr id [1] 1)) _
    rw [hf, wv_some]
    simpa [h0] using hQ
  · obtain ⟨s, hl, _, ho, _⟩ := WrP.load h
    show wv (vload T G t_sl_uint8 (.ptr id [0] 0)) _
    rw [hl, wv_some, vconv_bytes T_sl_uint8 rfl T_uint8 rfl T_string rfl ho.is, wv_some]
    simpa [h0] using hQ

end
end Go.Esc.M

/- Own work. Chapter 3: the document's writers. -/
set_option linter.unusedSimpArgs false
set_option linter.unusedVariables false
set_option maxRecDepth 20000
namespace Go.Esc.M
open Go Go.Esc

section
variable {id : AId} {st : List UInt8 × Int} {G : Heap} {F : List AId} {Q : AVal → Heap → Prop}

end
end Go.Esc.M

/- Own work. Chapter 3: the readers. -/
set_option linter.unusedSimpArgs false
set_option linter.unusedVariables false
set_option maxRecDepth 20000
namespace Go.Esc.M
open Go Go.Esc

def Rd (id : AId) (st : List UInt8 × Int) (G : Heap) : Prop := G id = some (.own (.agg [.str st.1, .int .i64 st.2]))

section
variable {id : AId} {st : List UInt8 × Int} {G : Heap} {Q : AVal → Heap → Prop}

theorem Rd.fault (h : Rd id st G) : vload T G t_api_Errno (.ptr id [1] 1) = some (.int .i64 st.2) := vload_fld h rfl rfl rfl T_api_Errno rfl
theorem Rd.rest (h : Rd id st G) : vload T G t_string (.ptr id [0] 0) = some (.str st.1) := vload_fld h rfl rfl rfl T_string rfl

theorem vindex_str {l : List UInt8} {j : Nat} (h : j < l.length) : vindex T t_string (.str l) (.int .i64 j) = some (.int .u8 l[j].toNat) := by
  simp [vindex, T_string, ti_string, h]

end
end Go.Esc.M

/- Own work. Chapter 3: the readers, all of their functions. -/
set_option linter.unusedSimpArgs false
set_option linter.unusedVariables false
set_option maxRecDepth 20000
namespace Go.Esc.M
open Go Go.Esc

section
variable {id : AId} {st : List UInt8 × Int} {G : Heap} {Q : AVal → Heap → Prop}

end

theorem Rd.ch {id : AId} {st : List UInt8 × Int} {G G' : Heap} {E E' : List AId} (h : Rd id st G) (hc : Ch E G E' G') (hd : id ∉ E) : Rd id st G' := hc.others _ _ h hd
theorem Rd.row {id : AId} {st : List UInt8 × Int} {G : Heap} (h : Rd id st G) : (G id).isSome = true := by rw [h]; rfl

end Go.Esc.M

/- Own work. Chapter 3: texts on the wire. -/
set_option linter.unusedSimpArgs false
set_option linter.unusedVariables false
set_option maxRecDepth 20000
namespace Go.Esc.M
open Go Go.Esc

end Go.Esc.M

/- Own work. Chapter 3: a number's bytes: parts, there and back. -/
set_option linter.unusedSimpArgs false
set_option linter.unusedVariables false
set_option maxRecDepth 20000
namespace Go.Esc.M
open Go Go.Esc

end Go.Esc.M

/- Own work. Chapter 3: the document's readers; hashes read. -/
set_option linter.unusedSimpArgs false
set_option linter.unusedVariables false
set_option maxRecDepth 20000
namespace Go.Esc.M
open Go Go.Esc

/-- A reader of the program's. -/
def RdL (id : AId) (st : List UInt8 × Int) : LP where
  p := fun G F => Rd id st G ∧ F = [id]
  rows := by rintro G F ⟨h, rfl⟩ j hj; simp at hj; subst hj; exact h.row
  loc := by rintro G G' F ⟨h, rfl⟩ hs; exact ⟨by unfold Rd at h ⊢; rw [hs id (by simp)]; exact h, rfl⟩

/-- A reader of the document's: what is left stays where it is broken. -/
def RdR (id : AId) (st : List UInt8 × Int) (G : Heap) : Prop := ∃ l, G id = some (.own (.agg [.str l, .int .i64 st.2])) ∧ (st.2 = 0 → l = st.1) ∧ (st.2 ≠ 0 → st.1 = [])
section
variable {id : AId} {st : List UInt8 × Int} {G : Heap} {Q : AVal → Heap → Prop}

theorem RdR.fault (h : RdR id st G) : vload T G t_api_Errno (.ptr id [1] 1) = some (.int .i64 st.2) := h.elim fun _ h => vload_fld h.1 rfl rfl rfl T_api_Errno rfl
theorem RdR.rest (h : RdR id st G) (h0 : st.2 = 0) : vload T G t_string (.ptr id [0] 0) = some (.str st.1) := h.elim fun l h => by rw [← h.2.1 h0]; exact vload_fld h.1 rfl rfl rfl T_string rfl
theorem RdR.ch {G' : Heap} {E E' : List AId} (h : RdR id st G) (hc : Ch E G E' G') (hd : id ∉ E) : RdR id st G' := h.elim fun l h => ⟨l, hc.others _ _ h.1 hd, h.2⟩
theorem RdR.row (h : RdR id st G) : (G id).isSome = true := h.elim fun l h => by rw [h.1]; rfl

end

section
variable {id : AId} {st : List UInt8 × Int} {G : Heap} {Q : AVal → Heap → Prop}

end
end Go.Esc.M
