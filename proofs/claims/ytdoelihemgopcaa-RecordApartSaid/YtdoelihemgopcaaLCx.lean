import Derived.Test.YtdoelihemgopcaaEZ
import Derived.Test.YtdoelihemgopcaaSS
import Derived.Test.YtdoelihemgopcaaLSh
/- Own work. Chapter 3: the writers. -/
set_option linter.unusedSimpArgs false
set_option linter.unusedVariables false
set_option maxRecDepth 20000
namespace Go.Esc.M
open Go Go.Esc

/-- A number's bytes, the greatest first. -/
def be : Nat → Nat → List UInt8
  | 0, _ => []
  | k + 1, v => UInt8.ofNat (v / 2 ^ (8 * k)) :: be k v

theorem length_be (v : Nat) : ∀ k, (be k v).length = k
  | 0 => rfl
  | k + 1 => by simp [be, length_be v k]

theorem shr_byte (v i : Nat) (hi : i ≤ 7) : IntKind.u8.wrap ((v : Int).fdiv (2 ^ min ((8 : Int) * (i : Int)).toNat IntKind.u64.bits)) = ((v / 2 ^ (8 * i) % 256 : Nat) : Int) := by
  have h1 : min ((8 : Int) * (i : Int)).toNat IntKind.u64.bits = 8 * i := by
    have : IntKind.u64.bits = 64 := rfl
    omega
  rw [h1, IntKind.wrap_u8]
  have h2 : ((2 : Int) ^ (8 * i)) = ((2 ^ (8 * i) : Nat) : Int) := by simp
  rw [h2, Int.fdiv_eq_ediv_of_nonneg _ (Int.natCast_nonneg _)]
  simp

/-- What a writer holds behind more bytes: nothing more once it is broken. -/
def laid (st : List UInt8 × Int) (xs : List UInt8) : List UInt8 × Int := if st.2 = 0 then (st.1 ++ xs, 0) else st

def Wr (id : AId) (st : List UInt8 × Int) (G : Heap) (F : List AId) : Prop := WrP id st.1 st.2 G F

theorem WrP.fault {id : AId} {bs : List UInt8} {f : Int} {G : Heap} {F : List AId} (h : WrP id bs f G F) : vload T G t_api_Errno (.ptr id [1] 1) = some (.int .i64 f) := by
  obtain ⟨s, hg, ho, _⟩ := h
  exact vload_fld hg rfl (by simp [szs, ho.leaf.1]) rfl T_api_Errno rfl

theorem WrP.load {id : AId} {bs : List UInt8} {f : Int} {G : Heap} {F : List AId} (h : WrP id bs f G F) :
    ∃ s, vload T G t_sl_uint8 (.ptr id [0] 0) = some s ∧ G id = some (.own (.agg [s, .int .i64 f])) ∧ Own 1 G s (bs.map u8v) ∧ rowOf s ≠ some id ∧ F = id :: (rowOf s).toList := by
  obtain ⟨s, hg, ho, hne, hF⟩ := h
  exact ⟨s, vload_fld hg rfl rfl rfl T_sl_uint8 (by simp [vfits, ho.leaf.1, ho.leaf.2.1, ti_sl_uint8, ADesc.isAgg]), hg, ho, hne, hF⟩

theorem lay_step {id : AId} {bs : List UInt8} {f : Int} {G : Heap} {F : List AId} (h : WrP id bs f G F) (hb : bs.length + 1 ≤ 220000000000000) :
    ∃ s, vload T G t_sl_uint8 (.ptr id [0] 0) = some s ∧ ∀ (b : UInt8) (K : Heap → Prop), (∀ F' G', WrP id (bs ++ [b]) f G' F' → Ch F G F' G' → K G') →
      aBuildSlice T t_sl_uint8 1 [(0, u8v b)] G fun v G1 => aAppend T G1 t_sl_uint8 t_sl_uint8 s v fun v2 G2 => wg (vstore T G2 t_sl_uint8 (.ptr id [0] 0) v2) K := by
  obtain ⟨s, hl, hg, ho, hne, rfl⟩ := WrP.load h
  refine ⟨s, hl, fun b K hK => ?_⟩
  refine append1 (T := T) (ts := t_sl_uint8) (e := t_uint8) (si := ti_sl_uint8) (ie := ti_uint8) T_sl_uint8 rfl T_uint8 rfl (by decide) ho rfl rfl (by decide) ?_ fun s' G2 ho2 hk => ?_
  · simp only [List.length_map, ti_uint8]
    omega
  · obtain ⟨G', hst, hw, hch⟩ := WrP.put (T := T) (tb := t_sl_uint8) (ib := ti_sl_uint8) T_sl_uint8 (.inr rfl) rfl (bs' := bs ++ [b]) hg hne ho.leaf.1 (by rw [List.map_append]; exact ho2) hk
    rw [hst, wg_some]
    exact hK _ _ hw hch

theorem raw_step {id : AId} {bs xs : List UInt8} {f : Int} {G : Heap} {F : List AId} (h : WrP id bs f G F) (hb : bs.length + xs.length ≤ 220000000000000) :
    ∃ s, vload T G t_sl_uint8 (.ptr id [0] 0) = some s ∧ ∀ (K : Heap → Prop), (∀ F' G', WrP id (bs ++ xs) f G' F' → Ch F G F' G' → K G') →
      aAppend T G t_sl_uint8 t_string s (.str xs) fun v2 G2 => wg (vstore T G2 t_sl_uint8 (.ptr id [0] 0) v2) K := by
  obtain ⟨s, hl, hg, ho, hne, rfl⟩ := WrP.load h
  refine ⟨s, hl, fun K hK => ?_⟩
  refine own_append (T := T) (e := t_uint8) (si := ti_sl_uint8) (ie := ti_uint8) (vs := xs.map u8v) T_sl_uint8 rfl T_uint8 rfl (by decide) T_string (.inl rfl) ho (by simp [selems, ti_uint8, u8v, Function.comp_def]) (uni_u8 _) (okvs_u8 _) ?_ fun s' G2 ho2 hk => ?_
  · simp only [List.length_map, ti_uint8]
    omega
  · obtain ⟨G', hst, hw, hch⟩ := WrP.put (T := T) (tb := t_sl_uint8) (ib := ti_sl_uint8) T_sl_uint8 (.inr rfl) rfl (bs' := bs ++ xs) hg hne ho.leaf.1 (by rw [List.map_append]; exact ho2) hk
    rw [hst, wg_some]
    exact hK _ _ hw hch

theorem cursor_New.use {G : Heap} {Q : AVal → Heap → Prop} (h : ∀ id G', Wr id ([], 0) G' [id] → Ch [] G [id] G' → Q (.ptr id [] 0) G') : ACalls P cursor_New.n [] G Q := by
  refine cursor_New.sound ?_
  unfold cursor_New.S
  intro id hf
  exact h _ _ ⟨.nilSlice, Heap.upd_self _ _ _, .inl ⟨rfl, rfl⟩, by simp [rowOf], rfl⟩ (Ch.new hf)

theorem cursor_lay_uint8.use {id : AId} {st : List UInt8 × Int} {v k : Nat} {G : Heap} {F : List AId} {Q : AVal → Heap → Prop} (hv : v < 2 ^ 8) (hk : k ≤ 8) (h : Wr id st G F) (hb : st.1.length + k ≤ 220000000000000)
    (hQ : ∀ F' G', Wr id (laid st (be k v)) G' F' → Ch F G F' G' → Q (.tuple []) G') : ACalls P cursor_lay_uint8.n [.ptr id [] 0, .int .u8 v, .int .i64 k] G Q := by
  refine cursor_lay_uint8.sound ?_
  unfold cursor_lay_uint8.S
  obtain ⟨bs, f⟩ := st
  have hf := WrP.fault h
  show wv (vload T G t_api_Errno (.ptr id [1] 1)) _
  rw [hf]
  simp -zeta only [wv_some, vbin_neq, brB_ndec, vbin_sub]
  refine ⟨fun h0 => ?_, fun h0 => ?_⟩
  · refine hQ F G ?_ (Ch.refl _ _)
    simpa [laid, h0, Wr] using h
  · subst h0
    intro R hR
    rw [i64_in (by omega) (by omega)]
    have hb : bs.length + k ≤ 220000000000000 := hb
    have loop : ∀ (i : Nat) (bs' : List UInt8) (F' : List AId) (G' : Heap), i ≤ k → bs'.length + i ≤ 220000000000000 → WrP id bs' 0 G' F' → Ch F G F' G' → bs ++ be k v = bs' ++ be i v →
        R [.ptr id [] 0, .int .u8 v, .int .i64 ((i : Int) - 1)] G' := by
      intro i
      induction i with
      | zero =>
        intro bs' F' G' _ _ hw hch he
        refine hR _ _ _ _ ?_
        simp -zeta only [vbin_geq, wv_some, brB_dec]
        refine ⟨fun h => absurd h (by omega), fun _ => hQ F' G' ?_ hch⟩
        simp only [be, List.append_nil] at he
        simp only [laid, if_true, Wr, he]
        exact hw
      | succ i ih =>
        intro bs' F' G' hi hb' hw hch he
        refine hR _ _ _ _ ?_
        have ei : ((i + 1 : Nat) : Int) - 1 = (i : Int) := by omega
        rw [ei]
        simp -zeta only [vbin_geq, wv_some, brB_dec]
        refine ⟨fun _ => ?_, fun h => absurd (by omega) h⟩
        obtain ⟨s, hl, hstep⟩ := lay_step hw (by omega)
        show wv (vload T G' t_sl_uint8 (.ptr id [0] 0)) _
        rw [hl, wv_some]
        rw [vconv_int T_uint8 T_uint64 rfl, wv_some, u64_in (by omega) (by omega)]
        rw [vbin_mul, wv_some, i64_in (by omega) (by omega), vbin_shr _ _ _ _ _ _ (by omega), wv_some, vconv_int T_uint64 T_uint8 rfl, wv_some, shr_byte v i (by omega), ← u8v_ofNat]
        refine hstep _ _ fun F2 G2 hw2 hch2 => ?_
        show wv (vbin T .sub t_int (.int .i64 i) (.int .i64 1)) _
        simp -zeta only [vbin_sub, wv_some]
        rw [i64_in (by omega) (by omega)]
        refine ih _ F2 G2 (by omega) (by simp; omega) hw2 (hch.trans hch2) ?_
        rw [he, be]
        simp
    exact loop k bs F G (Nat.le_refl _) (by omega) h (Ch.refl _ _) rfl

theorem cursor_lay_uint16.use {id : AId} {st : List UInt8 × Int} {v k : Nat} {G : Heap} {F : List AId} {Q : AVal → Heap → Prop} (hv : v < 2 ^ 16) (hk : k ≤ 8) (h : Wr id st G F) (hb : st.1.length + k ≤ 220000000000000)
    (hQ : ∀ F' G', Wr id (laid st (be k v)) G' F' → Ch F G F' G' → Q (.tuple []) G') : ACalls P cursor_lay_uint16.n [.ptr id [] 0, .int .u16 v, .int .i64 k] G Q := by
  refine cursor_lay_uint16.sound ?_
  unfold cursor_lay_uint16.S
  obtain ⟨bs, f⟩ := st
  have hf := WrP.fault h
  show wv (vload T G t_api_Errno (.ptr id [1] 1)) _
  rw [hf]
  simp -zeta only [wv_some, vbin_neq, brB_ndec, vbin_sub]
  refine ⟨fun h0 => ?_, fun h0 => ?_⟩
  · refine hQ F G ?_ (Ch.refl _ _)
    simpa [laid, h0, Wr] using h
  · subst h0
    intro R hR
    rw [i64_in (by omega) (by omega)]
    have hb : bs.length + k ≤ 220000000000000 := hb
    have loop : ∀ (i : Nat) (bs' : List UInt8) (F' : List AId) (G' : Heap), i ≤ k → bs'.length + i ≤ 220000000000000 → WrP id bs' 0 G' F' → Ch F G F' G' → bs ++ be k v = bs' ++ be i v →
        R [.ptr id [] 0, .int .u16 v, .int .i64 ((i : Int) - 1)] G' := by
      intro i
      induction i with
      | zero =>
        intro bs' F' G' _ _ hw hch he
        refine hR _ _ _ _ ?_
        simp -zeta only [vbin_geq, wv_some, brB_dec]
        refine ⟨fun h => absurd h (by omega), fun _ => hQ F' G' ?_ hch⟩
        simp only [be, List.append_nil] at he
        simp only [laid, if_true, Wr, he]
        exact hw
      | succ i ih =>
        intro bs' F' G' hi hb' hw hch he
        refine hR _ _ _ _ ?_
        have ei : ((i + 1 : Nat) : Int) - 1 = (i : Int) := by omega
        rw [ei]
        simp -zeta only [vbin_geq, wv_some, brB_dec]
        refine ⟨fun _ => ?_, fun h => absurd (by omega) h⟩
        obtain ⟨s, hl, hstep⟩ := lay_step hw (by omega)
        show wv (vload T G' t_sl_uint8 (.ptr id [0] 0)) _
        rw [hl, wv_some]
        rw [vconv_int T_uint16 T_uint64 rfl, wv_some, u64_in (by omega) (by omega)]
        rw [vbin_mul, wv_some, i64_in (by omega) (by omega), vbin_shr _ _ _ _ _ _ (by omega), wv_some, vconv_int T_uint64 T_uint8 rfl, wv_some, shr_byte v i (by omega), ← u8v_ofNat]
        refine hstep _ _ fun F2 G2 hw2 hch2 => ?_
        show wv (vbin T .sub t_int (.int .i64 i) (.int .i64 1)) _
        simp -zeta only [vbin_sub, wv_some]
        rw [i64_in (by omega) (by omega)]
        refine ih _ F2 G2 (by omega) (by simp; omega) hw2 (hch.trans hch2) ?_
        rw [he, be]
        simp
    exact loop k bs F G (Nat.le_refl _) (by omega) h (Ch.refl _ _) rfl

theorem cursor_lay_uint64.use {id : AId} {st : List UInt8 × Int} {v k : Nat} {G : Heap} {F : List AId} {Q : AVal → Heap → Prop} (hv : v < 2 ^ 64) (hk : k ≤ 8) (h : Wr id st G F) (hb : st.1.length + k ≤ 220000000000000)
    (hQ : ∀ F' G', Wr id (laid st (be k v)) G' F' → Ch F G F' G' → Q (.tuple []) G') : ACalls P cursor_lay_uint64.n [.ptr id [] 0, .int .u64 v, .int .i64 k] G Q := by
  refine cursor_lay_uint64.sound ?_
  unfold cursor_lay_uint64.S
  obtain ⟨bs, f⟩ := st
  have hf := WrP.fault h
  show wv (vload T G t_api_Errno (.ptr id [1] 1)) _
  rw [hf]
  simp -zeta only [wv_some, vbin_neq, brB_ndec, vbin_sub]
  refine ⟨fun h0 => ?_, fun h0 => ?_⟩
  · refine hQ F G ?_ (Ch.refl _ _)
    simpa [laid, h0, Wr] using h
  · subst h0
    intro R hR
    rw [i64_in (by omega) (by omega)]
    have hb : bs.length + k ≤ 220000000000000 := hb
    have loop : ∀ (i : Nat) (bs' : List UInt8) (F' : List AId) (G' : Heap), i ≤ k → bs'.length + i ≤ 220000000000000 → WrP id bs' 0 G' F' → Ch F G F' G' → bs ++ be k v = bs' ++ be i v →
        R [.ptr id [] 0, .int .u64 v, .int .i64 ((i : Int) - 1)] G' := by
      intro i
      induction i with
      | zero =>
        intro bs' F' G' _ _ hw hch he
        refine hR _ _ _ _ ?_
        simp -zeta only [vbin_geq, wv_some, brB_dec]
        refine ⟨fun h => absurd h (by omega), fun _ => hQ F' G' ?_ hch⟩
        simp only [be, List.append_nil] at he
        simp only [laid, if_true, Wr, he]
        exact hw
      | succ i ih =>
        intro bs' F' G' hi hb' hw hch he
        refine hR _ _ _ _ ?_
        have ei : ((i + 1 : Nat) : Int) - 1 = (i : Int) := by omega
        rw [ei]
        simp -zeta only [vbin_geq, wv_some, brB_dec]
        refine ⟨fun _ => ?_, fun h => absurd (by omega) h⟩
        obtain ⟨s, hl, hstep⟩ := lay_step hw (by omega)
        show wv (vload T G' t_sl_uint8 (.ptr id [0] 0)) _
        rw [hl, wv_some]
        rw [vbin_mul, wv_some, i64_in (by omega) (by omega), vbin_shr _ _ _ _ _ _ (by omega), wv_some, vconv_int T_uint64 T_uint8 rfl, wv_some, shr_byte v i (by omega), ← u8v_ofNat]
        refine hstep _ _ fun F2 G2 hw2 hch2 => ?_
        show wv (vbin T .sub t_int (.int .i64 i) (.int .i64 1)) _
        simp -zeta only [vbin_sub, wv_some]
        rw [i64_in (by omega) (by omega)]
        refine ih _ F2 G2 (by omega) (by simp; omega) hw2 (hch.trans hch2) ?_
        rw [he, be]
        simp
    exact loop k bs F G (Nat.le_refl _) (by omega) h (Ch.refl _ _) rfl


theorem cursor_Writer_Raw.use {id : AId} {st : List UInt8 × Int} {xs : List UInt8} {G : Heap} {F : List AId} {Q : AVal → Heap → Prop} (h : Wr id st G F) (hb : st.1.length + xs.length ≤ 220000000000000)
    (hQ : ∀ F' G', Wr id (laid st xs) G' F' → Ch F G F' G' → Q (.tuple []) G') : ACalls P cursor_Writer_Raw.n [.ptr id [] 0, .str xs] G Q := by
  refine cursor_Writer_Raw.sound ?_
  unfold cursor_Writer_Raw.S
  obtain ⟨bs, f⟩ := st
  have hf := WrP.fault h
  show wv (vload T G t_api_Errno (.ptr id [1] 1)) _
  rw [hf]
  simp -zeta only [wv_some, vbin_eql, brB_dec]
  refine ⟨fun h0 => ?_, fun h0 => ?_⟩
  · obtain ⟨s, hl, hstep⟩ := raw_step h hb
    show wv (vload T G t_sl_uint8 (.ptr id [0] 0)) _
    rw [hl, wv_some]
    refine hstep _ fun F' G' hw hch => hQ F' G' ?_ hch
    simpa [laid, h0, Wr] using hw
  · refine hQ F G ?_ (Ch.refl _ _)
    simpa [laid, h0, Wr] using h

end Go.Esc.M

/- Own work. Chapter 3: the writers, all of their functions. -/
set_option linter.unusedSimpArgs false
set_option linter.unusedVariables false
set_option maxRecDepth 20000
namespace Go.Esc.M
open Go Go.Esc

theorem vconv_bytes {T : Tbl} {G : Heap} {s d e : TypeId} {si di ie : TI} {v : AVal} {l : List UInt8} (hs : T s = some si) (hsd : si.desc = .slice e) (he : T e = some ie) (hed : ie.desc = .int .u8) (hd : T d = some di) (hdd : di.desc = .string)
    (h : IsSl 1 G v (l.map u8v)) : vconv T G s d v = some (.str l) := by
  rcases h with ⟨id, p, st, off, len, cap, rfl, h⟩ | ⟨rfl, hl⟩
  · simp [vconv, hs, hd, hdd, hsd, he, hed, h, bytesOf_u8]
  · have : l = [] := by simpa using hl
    subst this
    simp [vconv, hs, hd, hdd, hsd, he, hed]

theorem Wr.ch {id : AId} {st : List UInt8 × Int} {G G' : Heap} {F E E' : List AId} (h : Wr id st G F) (hc : Ch E G E' G') (hd : ∀ j ∈ F, j ∉ E) : Wr id st G' F := WrP.frame h (hc.same (WrP.rows h) hd)

theorem laid_append (st : List UInt8 × Int) (xs ys : List UInt8) : laid (laid st xs) ys = laid st (xs ++ ys) := by
  unfold laid
  by_cases h : st.2 = 0 <;> simp [h]
theorem length_laid (st : List UInt8 × Int) (xs : List UInt8) : (laid st xs).1.length ≤ st.1.length + xs.length := by
  unfold laid
  by_cases h : st.2 = 0 <;> simp [h]

/-- A text of a writer's: its length in two bytes and itself, or the fault. -/
def laidText (st : List UInt8 × Int) (xs : List UInt8) : List UInt8 × Int := if st.2 = 0 ∧ 65535 < xs.length then (st.1, 3) else laid st (be 2 xs.length ++ xs)

theorem WrP.setFault {id : AId} {bs : List UInt8} {f g : Int} {G : Heap} {F : List AId} (h : WrP id bs f G F) : ∃ G', vstore T G t_api_Errno (.ptr id [1] 1) (.int .i64 g) = some G' ∧ WrP id bs g G' F ∧ Ch F G F G' := by
  obtain ⟨s, hg, ho, hne, rfl⟩ := h
  refine ⟨_, vstore_fld hg (by simp [szs, ho.leaf.1]) rfl T_api_Errno rfl rfl rfl, ⟨s, Heap.upd_self _ _ _, ho.upd hne, hne, rfl⟩, ⟨roLe_upd hg (by simp), fun j o hj hn => ?_, fun j hj => .inl hj⟩⟩
  rw [Heap.upd_ne _ _ (fun e => hn (by simp [e]))]
  exact hj

section
variable {id : AId} {st : List UInt8 × Int} {G : Heap} {F : List AId} {Q : AVal → Heap → Prop}

theorem cursor_Writer_U8.use {v : Nat} (hv : v < 2 ^ 8) (h : Wr id st G F) (hb : st.1.length + 8 ≤ 220000000000000) (hQ : ∀ F' G', Wr id (laid st (be 1 v)) G' F' → Ch F G F' G' → Q (.tuple []) G') :
    ACalls P cursor_Writer_U8.n [.ptr id [] 0, .int .u8 v] G Q := cursor_Writer_U8.sound (cursor_lay_uint8.use (k := 1) hv (by omega) h (by omega) hQ)
theorem cursor_Writer_U16.use {v : Nat} (hv : v < 2 ^ 16) (h : Wr id st G F) (hb : st.1.length + 8 ≤ 220000000000000) (hQ : ∀ F' G', Wr id (laid st (be 2 v)) G' F' → Ch F G F' G' → Q (.tuple []) G') :
    ACalls P cursor_Writer_U16.n [.ptr id [] 0, .int .u16 v] G Q := cursor_Writer_U16.sound (cursor_lay_uint16.use (k := 2) hv (by omega) h (by omega) hQ)
/-- A signed number's bits, as a number. -/
def bits64 (n : Int) : Nat := (n % 18446744073709551616).toNat
theorem bits64_lt (n : Int) : bits64 n < 2 ^ 64 := by
  unfold bits64
  omega
theorem wrap_bits64 (n : Int) : IntKind.u64.wrap n = (bits64 n : Int) := by
  rw [wrapU64]
  unfold bits64
  omega

theorem cursor_Writer_I64.use {v : Int} (h : Wr id st G F) (hb : st.1.length + 8 ≤ 220000000000000) (hQ : ∀ F' G', Wr id (laid st (be 8 (bits64 v))) G' F' → Ch F G F' G' → Q (.tuple []) G') :
    ACalls P cursor_Writer_I64.n [.ptr id [] 0, .int .i64 v] G Q := by
  refine cursor_Writer_I64.sound ?_
  unfold cursor_Writer_I64.S
  rw [vconv_int T_int64 T_uint64 rfl, wv_some, wrap_bits64]
  exact cursor_lay_uint64.use (k := 8) (bits64_lt v) (by omega) h (by omega) hQ

theorem cursor_Writer_Hash.use {hs : List UInt8} (hl : hs.length = 32) (h : Wr id st G F) (hb : st.1.length + 32 ≤ 220000000000000) (hQ : ∀ F' G', Wr id (laid st hs) G' F' → Ch F G F' G' → Q (.tuple []) G') :
    ACalls P cursor_Writer_Hash.n [.ptr id [] 0, .agg (hs.map u8v)] G Q := by
  refine cursor_Writer_Hash.sound ?_
  unfold cursor_Writer_Hash.S
  intro i hf
  have hch : Ch [] G [] (G.upd i (.own (.agg (hs.map u8v)))) := ⟨RoLe.of_le (hf.le _), fun j x hj _ => hf.le _ _ _ hj, fun j hj => by simp at hj⟩
  have hsl : IsSl 1 (G.upd i (.own (.agg (hs.map u8v)))) (.slice i [] 0 0 32 32) (hs.map u8v) := by
    have := isSl_row (n := 1) (cap := 32) (len := 32) (Heap.upd_self G i (.own (.agg (hs.map u8v)))) rfl (uni_u8 hs) (by simp [hl])
    rwa [List.take_of_length_le (by simp [hl])] at this
  show wv (vconv T _ t_sl_uint8 t_string (.slice i [] 0 0 32 32)) _
  rw [vconv_bytes T_sl_uint8 rfl T_uint8 rfl T_string rfl hsl, wv_some]
  exact cursor_Writer_Raw.use (h.ch hch (by simp)) (by omega) fun F' G' hw hc => hQ F' G' hw (hch.grow.trans hc)

theorem cursor_Writer_Text.use {xs : List UInt8} (h : Wr id st G F) (hb : st.1.length + 2 + xs.length ≤ 220000000000000) (hQ : ∀ F' G', Wr id (laidText st xs) G' F' → Ch F G F' G' → Q (.tuple []) G') :
    ACalls P cursor_Writer_Text.n [.ptr id [] 0, .str xs] G Q := by
  refine cursor_Writer_Text.sound ?_
  unfold cursor_Writer_Text.S
  intro J
  have rest : ∀ (st' : List UInt8 × Int) (F1 : List AId) (G1 : Heap), Wr id st' G1 F1 → st'.1 = st.1 → Ch F G F1 G1 → (st'.2 = 0 → xs.length ≤ 65535 ∧ laid st' (be 2 xs.length ++ xs) = laidText st xs) → (st'.2 ≠ 0 → st' = laidText st xs) →
      ACalls P cursor_lay_uint16.n [.ptr id [] 0, .int .u16 (IntKind.u16.wrap xs.length), .int .i64 2] G1 fun v21 G22 => ACalls P cursor_Writer_Raw.n [.ptr id [] 0, .str xs] G22 fun v23 G24 => Q (.tuple []) G24 := by
    intro st' F1 G1 hw hst hc hz hnz
    have hm : IntKind.u16.wrap xs.length = ((xs.length % 65536 : Nat) : Int) := by rw [wrapU16]; omega
    rw [hm]
    refine cursor_lay_uint16.use (k := 2) (by omega) (by omega) hw (by rw [hst]; omega) fun F2 G2 hw2 hc2 => ?_
    refine cursor_Writer_Raw.use hw2 ?_ fun F3 G3 hw3 hc3 => hQ F3 G3 ?_ ((hc.trans hc2).trans hc3)
    · have := length_laid st' (be 2 (xs.length % 65536))
      rw [length_be, hst] at this
      omega
    · rw [laid_append] at hw3
      by_cases h0 : st'.2 = 0
      · obtain ⟨hl, e⟩ := hz h0
        rw [← e]
        rw [Nat.mod_eq_of_lt (by omega)] at hw3
        exact hw3
      · rw [← hnz h0]
        simpa [laid, h0] using hw3
  have hf := WrP.fault h
  show wv (vload T G t_api_Errno (.ptr id [1] 1)) _
  rw [hf]
  have hlen : vlen T G t_string (.str xs) = some (.int .i64 xs.length) := rfl
  simp -zeta only [wv_some, vbin_eql, brB_dec, hlen, vbin_gtr]
  have hno : ¬ (st.2 = 0 ∧ 65535 < xs.length) → J (.bool false) G := by
    intro hn
    simp -zeta only [J, brB_false, hlen, wv_some]
    rw [vconv_int T_int T_uint16 rfl, wv_some]
    refine rest st F G h rfl (Ch.refl _ _) (fun h0 => ⟨by omega, by simp [laidText, hn]⟩) fun h0 => ?_
    simp [laidText, laid, h0]
  refine ⟨fun h0 => ?_, fun h0 => hno fun hh => h0 hh.1⟩
  by_cases hlong : 65535 < xs.length
  · have : J (.bool true) G := by
      obtain ⟨G1, hst, hw, hc⟩ := WrP.setFault (g := 3) h
      simp -zeta only [J, brB_true]
      show wg (vstore T G t_api_Errno (.ptr id [1] 1) (.int .i64 3)) _
      rw [hst, wg_some]
      show wv (vlen T G1 t_string (.str xs)) _
      rw [show vlen T G1 t_string (.str xs) = some (.int .i64 xs.length) from rfl, wv_some, vconv_int T_int T_uint16 rfl, wv_some]
      exact rest (st.1, 3) F G1 hw rfl hc (fun h => absurd h (by simp)) fun _ => by simp [laidText, h0, hlong]
    have hd : decide ((65535 : Int) < xs.length) = true := by simp; omega
    rw [hd]
    exact this
  · have : J (.bool false) G := hno fun hh => hlong hh.2
    have hd : decide ((65535 : Int) < xs.length) = false := by simp; omega
    rw [hd]
    exact this

theorem cursor_Writer_Out.use (h : Wr id st G F) (hQ : Q (.tuple [.str (if st.2 = 0 then st.1 else []), .int .i64 st.2]) G) : ACalls P cursor_Writer_Out.n [.ptr id [] 0] G Q := by
  refine cursor_Writer_Out.sound ?_
  unfold cursor_Writer_Out.S
  have hf := WrP.fault h
  show wv (vload T G t_api_Errno (.ptr id [1] 1)) _
  rw [hf]
  simp -zeta only [wv_some, vbin_neq, brB_ndec]
  refine ⟨fun h0 => ?_, fun h0 => ?_⟩
  · show wv (vload T G t_api_Errno (.ptr id [1] 1)) _
    rw [hf, wv_some]
    simpa [h0] using hQ
  · obtain ⟨s, hl, _, ho, _⟩ := WrP.load h
    show wv (vload T G t_sl_uint8 (.ptr id [0] 0)) _
    rw [hl, wv_some, vconv_bytes T_sl_uint8 rfl T_uint8 rfl T_string rfl ho.is, wv_some]
    simpa [h0] using hQ

end
end Go.Esc.M

/- Own work. Chapter 3: the document's writers. -/
set_option linter.unusedSimpArgs false
set_option linter.unusedVariables false
set_option maxRecDepth 20000
namespace Go.Esc.M
open Go Go.Esc

section
variable {id : AId} {st : List UInt8 × Int} {G : Heap} {F : List AId} {Q : AVal → Heap → Prop}

end
end Go.Esc.M

/- Own work. Chapter 3: the readers. -/
set_option linter.unusedSimpArgs false
set_option linter.unusedVariables false
set_option maxRecDepth 20000
namespace Go.Esc.M
open Go Go.Esc

def Rd (id : AId) (st : List UInt8 × Int) (G : Heap) : Prop := G id = some (.own (.agg [.str st.1, .int .i64 st.2]))

section
variable {id : AId} {st : List UInt8 × Int} {G : Heap} {Q : AVal → Heap → Prop}

theorem Rd.fault (h : Rd id st G) : vload T G t_api_Errno (.ptr id [1] 1) = some (.int .i64 st.2) := vload_fld h rfl rfl rfl T_api_Errno rfl
theorem Rd.rest (h : Rd id st G) : vload T G t_string (.ptr id [0] 0) = some (.str st.1) := vload_fld h rfl rfl rfl T_string rfl

theorem ch_upd {o o' : AObj} (h : G id = some o) (ho : ∀ t, o ≠ .ro t) : Ch [id] G [id] (G.upd id o') :=
  ⟨roLe_upd h ho, fun j x hj hn => by rw [Heap.upd_ne _ _ (fun e => hn (by simp [e]))]; exact hj, fun j hj => .inl hj⟩

theorem Rd.setFault (h : Rd id st G) (f : Int) : ∃ G', vstore T G t_api_Errno (.ptr id [1] 1) (.int .i64 f) = some G' ∧ Rd id (st.1, f) G' ∧ Ch [id] G [id] G' :=
  ⟨_, vstore_fld h rfl rfl T_api_Errno rfl rfl rfl, Heap.upd_self _ _ _, ch_upd h (by simp)⟩
theorem Rd.setRest (h : Rd id st G) (l : List UInt8) : ∃ G', vstore T G t_string (.ptr id [0] 0) (.str l) = some G' ∧ Rd id (l, st.2) G' ∧ Ch [id] G [id] G' :=
  ⟨_, vstore_fld h rfl rfl T_string rfl rfl rfl, Heap.upd_self _ _ _, ch_upd h (by simp)⟩

theorem str_take {l : List UInt8} {k : IntKind} {n : Int} (h0 : 0 ≤ n) (h : n ≤ l.length) : vslice T t_string (.str l) none (some (.int k n)) none = some (.str (l.take n.toNat)) := by
  have e : n = (n.toNat : Int) := by omega
  have hb := sbounds_high (len := l.length) (cap := l.length) (m := n.toNat) (k := k) (by omega)
  rw [← e] at hb
  simp [vslice, T_string, ti_string, hb]
theorem str_drop {l : List UInt8} {k : IntKind} {n : Int} (h0 : 0 ≤ n) (h : n ≤ l.length) : vslice T t_string (.str l) (some (.int k n)) none none = some (.str (l.drop n.toNat)) := by
  have e : n = (n.toNat : Int) := by omega
  have hb := sbounds_low (len := l.length) (cap := l.length) (m := n.toNat) (k := k) (by omega) (by omega)
  rw [← e] at hb
  simp only [vslice, T_string, ti_string, hb]
  simp
  exact List.take_of_length_le (by simp)

/-- What a reader gives of so many bytes, and how it stands behind. -/
def takes (st : List UInt8 × Int) (n : Int) : List UInt8 × (List UInt8 × Int) :=
  if st.2 = 0 then (if (st.1.length : Int) < n then ([], ([], 2)) else (st.1.take n.toNat, (st.1.drop n.toNat, 0))) else ([], st)

theorem cursor_Open.use {b : List UInt8} (h : ∀ id G', Rd id (b, 0) G' → Ch [] G [id] G' → Q (.ptr id [] 0) G') : ACalls P cursor_Open.n [.str b] G Q := by
  refine cursor_Open.sound ?_
  unfold cursor_Open.S
  intro id hf
  exact h _ _ (Heap.upd_self _ _ _) (Ch.new hf)

theorem cursor_Reader_breaks.use {f : Int} (h : Rd id st G) (hQ : ∀ G', Rd id ([], f) G' → Ch [id] G [id] G' → Q (.tuple []) G') : ACalls P cursor_Reader_breaks.n [.ptr id [] 0, .int .i64 f] G Q := by
  refine cursor_Reader_breaks.sound ?_
  unfold cursor_Reader_breaks.S
  obtain ⟨G1, e1, h1, c1⟩ := h.setRest []
  obtain ⟨G2, e2, h2, c2⟩ := h1.setFault f
  show wg (vstore T G t_string (.ptr id [0] 0) (.str [])) _
  rw [e1, wg_some]
  show wg (vstore T G1 t_api_Errno (.ptr id [1] 1) (.int .i64 f)) _
  rw [e2, wg_some]
  exact hQ G2 h2 (c1.trans c2)

theorem cursor_Reader_take.use {n : Int} (hn : st.2 = 0 → 0 ≤ n) (h : Rd id st G) (hQ : ∀ G', Rd id (takes st n).2 G' → Ch [id] G [id] G' → Q (.str (takes st n).1) G') : ACalls P cursor_Reader_take.n [.ptr id [] 0, .int .i64 n] G Q := by
  refine cursor_Reader_take.sound ?_
  unfold cursor_Reader_take.S
  show wv (vload T G t_api_Errno (.ptr id [1] 1)) _
  rw [h.fault]
  simp -zeta only [wv_some, vbin_neq, brB_ndec]
  refine ⟨fun h0 => ?_, fun h0 => ?_⟩
  · have := hQ G (by simpa [takes, h0] using h) (Ch.refl _ _)
    simpa [takes, h0] using this
  · have hn := hn h0
    show wv (vload T G t_string (.ptr id [0] 0)) _
    rw [h.rest, wv_some]
    show wv (some (.int .i64 st.1.length)) _
    simp -zeta only [wv_some, vbin_lss, brB_dec]
    refine ⟨fun hl => ?_, fun hl => ?_⟩
    · refine cursor_Reader_breaks.use h fun G' hr hc => ?_
      have := hQ G' (by simpa [takes, h0, hl] using hr) hc
      simpa [takes, h0, hl] using this
    · show wv (vload T G t_string (.ptr id [0] 0)) _
      rw [h.rest, wv_some, str_take hn (by omega), wv_some]
      show wv (vload T G t_string (.ptr id [0] 0)) _
      rw [h.rest, wv_some, str_drop hn (by omega), wv_some]
      obtain ⟨G1, e1, h1, c1⟩ := h.setRest (st.1.drop n.toNat)
      show wg (vstore T G t_string (.ptr id [0] 0) (.str (st.1.drop n.toNat))) _
      rw [e1, wg_some]
      have := hQ G1 (by simpa [takes, h0, hl, Rd] using h1) c1
      simpa [takes, h0, hl] using this

/-- The number in bytes. -/
def numA : Nat → List UInt8 → Nat
  | v, [] => v
  | v, b :: l => numA (v * 256 + b.toNat) l
def num (l : List UInt8) : Nat := numA 0 l

theorem vindex_str {l : List UInt8} {j : Nat} (h : j < l.length) : vindex T t_string (.str l) (.int .i64 j) = some (.int .u8 l[j].toNat) := by
  simp [vindex, T_string, ti_string, h]

theorem or_byte (v b : Nat) (hb : b < 256) (hv : v * 256 < 2 ^ 64) : IntKind.u64.wrap ((BitVec.ofInt IntKind.u64.bits ((v * 256 : Nat) : Int) ||| BitVec.ofInt IntKind.u64.bits (b : Int)).toNat) = ((v * 256 + b : Nat) : Int) := by
  have hbits : IntKind.u64.bits = 64 := rfl
  have h1 : (BitVec.ofInt IntKind.u64.bits ((v * 256 : Nat) : Int) ||| BitVec.ofInt IntKind.u64.bits (b : Int)).toNat = v * 256 + b := by
    rw [BitVec.toNat_or, BitVec.ofInt_natCast, BitVec.ofInt_natCast, BitVec.toNat_ofNat, BitVec.toNat_ofNat, hbits, Nat.mod_eq_of_lt hv, Nat.mod_eq_of_lt (by omega)]
    have := Nat.two_pow_add_eq_or_of_lt (i := 8) (b := b) (by omega) v
    rw [Nat.mul_comm v 256]
    exact this.symm
  rw [h1, wrapU64]
  omega

theorem value_core {s : List UInt8} (hs : s.length ≤ 8) (K : AVal → Heap → Prop) (R : List AVal → Heap → Prop)
    (hR : ∀ (x4 x5 x6 x7 : AVal) (G3 : Heap), (wv (vbin T .lss t_int x7 x6) fun v8 => brB (some v8)
      (wv (vbin T .shl t_uint64 x5 (.int .u64 8)) fun v9 => wv (vindex T t_string x4 x7) fun v10 => wv (vconv T G3 t_uint8 t_uint64 v10) fun v11 => wv (vbin T .or t_uint64 v9 v11) fun v12 => wv (vbin T .add t_int x7 (.int .i64 1)) fun v13 => R [x4, v12, x6, v13] G3)
      (K x5 G3)) → R [x4, x5, x6, x7] G3) (hK : K (.int .u64 (num s)) G) : R [.str s, .int .u64 0, .int .i64 s.length, .int .i64 0] G := by
  have loop : ∀ (rest : List UInt8) (v j : Nat), s.drop j = rest → j ≤ s.length → v < 256 ^ j → numA v rest = num s → R [.str s, .int .u64 v, .int .i64 s.length, .int .i64 j] G := by
    intro rest
    induction rest with
    | nil =>
      intro v j hd hj hv he
      have := List.drop_eq_nil_iff.1 hd
      refine hR _ _ _ _ _ ?_
      simp -zeta only [vbin_lss, wv_some, brB_dec]
      refine ⟨fun h => absurd h (by omega), fun _ => ?_⟩
      simp only [numA] at he
      rw [he]
      exact hK
    | cons b rest ih =>
      intro v j hd hj hv he
      have hjl : j < s.length := by
        rcases Nat.lt_or_ge j s.length with h | h
        · exact h
        · rw [List.drop_eq_nil_iff.2 h] at hd; cases hd
      have hb : s[j] = b := by
        have := List.drop_eq_getElem_cons hjl
        rw [hd] at this
        injection this with h1 h2
        exact h1.symm
      have hv7 : v < 256 ^ 7 := Nat.lt_of_lt_of_le hv (Nat.pow_le_pow_right (by omega) (by omega))
      have hblt : b.toNat < 256 := b.toNat_lt
      refine hR _ _ _ _ _ ?_
      simp -zeta only [vbin_lss, wv_some, brB_dec]
      refine ⟨fun _ => ?_, fun h => absurd (by omega) h⟩
      have hsh : IntKind.u64.wrap ((v : Int) * 2 ^ min (Int.toNat 8) IntKind.u64.bits) = ((v * 256 : Nat) : Int) := by
        have : min (Int.toNat 8) IntKind.u64.bits = 8 := rfl
        rw [this, wrapU64]
        omega
      rw [vbin_shl _ _ _ _ _ _ (by omega), wv_some, hsh, vindex_str hjl, wv_some, hb, vconv_int T_uint8 T_uint64 rfl, wv_some, u64_in (n := (b.toNat : Int)) (by omega) (by omega), vbin_or, wv_some, or_byte v b.toNat hblt (by omega)]
      simp -zeta only [vbin_add, wv_some]
      rw [i64_in (by omega) (by omega)]
      refine ih (v * 256 + b.toNat) (j + 1) (by rw [← List.drop_drop, hd]; rfl) (by omega) ?_ he
      rw [Nat.pow_succ]
      omega
  exact loop s 0 0 rfl (by omega) (by simp) rfl

theorem cursor_value_uint64.use {s : List UInt8} (hs : s.length ≤ 8) (hQ : Q (.int .u64 (num s)) G) : ACalls P cursor_value_uint64.n [.str s] G Q := by
  refine cursor_value_uint64.sound ?_
  unfold cursor_value_uint64.S
  show wv (some (.int .i64 s.length)) _
  rw [wv_some]
  intro R hR
  exact value_core hs Q R hR hQ

theorem cursor_value_uint8.use {s : List UInt8} (hs : s.length ≤ 8) (hQ : Q (.int .u8 (num s % 256 : Nat)) G) : ACalls P cursor_value_uint8.n [.str s] G Q := by
  refine cursor_value_uint8.sound ?_
  unfold cursor_value_uint8.S
  show wv (some (.int .i64 s.length)) _
  rw [wv_some]
  intro R hR
  refine value_core hs _ R hR ?_
  rw [vconv_int T_uint64 T_uint8 rfl, wv_some, wrapU8]
  simpa using hQ

theorem cursor_value_uint16.use {s : List UInt8} (hs : s.length ≤ 8) (hQ : Q (.int .u16 (num s % 65536 : Nat)) G) : ACalls P cursor_value_uint16.n [.str s] G Q := by
  refine cursor_value_uint16.sound ?_
  unfold cursor_value_uint16.S
  show wv (some (.int .i64 s.length)) _
  rw [wv_some]
  intro R hR
  refine value_core hs _ R hR ?_
  rw [vconv_int T_uint64 T_uint16 rfl, wv_some, wrapU16]
  simpa using hQ

end
end Go.Esc.M

/- Own work. Chapter 3: the readers, all of their functions. -/
set_option linter.unusedSimpArgs false
set_option linter.unusedVariables false
set_option maxRecDepth 20000
namespace Go.Esc.M
open Go Go.Esc

theorem numA_lt : ∀ (l : List UInt8) (v : Nat), numA v l < (v + 1) * 256 ^ l.length
  | [], v => by simp [numA]
  | b :: l, v => by
    have h := numA_lt l (v * 256 + b.toNat)
    have hb : b.toNat < 256 := b.toNat_lt
    rw [numA, List.length_cons, Nat.pow_succ]
    refine Nat.lt_of_lt_of_le h ?_
    rw [Nat.mul_comm (256 ^ l.length) 256, ← Nat.mul_assoc]
    exact Nat.mul_le_mul_right _ (by omega)
theorem num_lt (l : List UInt8) : num l < 256 ^ l.length := by
  have := numA_lt l 0
  simpa [num] using this
theorem num_lt_of {l : List UInt8} {k : Nat} (h : l.length ≤ k) : num l < 256 ^ k := Nat.lt_of_lt_of_le (num_lt l) (Nat.pow_le_pow_right (by omega) h)

theorem length_takes (st : List UInt8 × Int) {n : Int} : (takes st n).1.length ≤ n.toNat := by
  unfold takes
  split
  · split
    · simp
    · simp; omega
  · simp

/-- A text of a reader's. -/
def texts (st : List UInt8 × Int) (most : Int) : List UInt8 × (List UInt8 × Int) :=
  if st.2 = 0 ∧ 2 ≤ st.1.length ∧ most < num (st.1.take 2) then ([], ([], 3)) else takes (takes st 2).2 (num (takes st 2).1)

section
variable {id : AId} {st : List UInt8 × Int} {G : Heap} {Q : AVal → Heap → Prop}

theorem cursor_Reader_U8.use (h : Rd id st G) (hQ : ∀ G', Rd id (takes st 1).2 G' → Ch [id] G [id] G' → Q (.int .u8 (num (takes st 1).1 : Nat)) G') : ACalls P cursor_Reader_U8.n [.ptr id [] 0] G Q := by
  refine cursor_Reader_U8.sound ?_
  unfold cursor_Reader_U8.S
  refine cursor_Reader_take.use (fun _ => by omega) h fun G1 h1 c1 => ?_
  have hl : (takes st 1).1.length ≤ 1 := length_takes st
  refine cursor_value_uint8.use (by omega) ?_
  have := num_lt_of hl
  rw [Nat.mod_eq_of_lt (by omega)]
  exact hQ G1 h1 c1
theorem cursor_Reader_U16.use (h : Rd id st G) (hQ : ∀ G', Rd id (takes st 2).2 G' → Ch [id] G [id] G' → Q (.int .u16 (num (takes st 2).1 : Nat)) G') : ACalls P cursor_Reader_U16.n [.ptr id [] 0] G Q := by
  refine cursor_Reader_U16.sound ?_
  unfold cursor_Reader_U16.S
  refine cursor_Reader_take.use (fun _ => by omega) h fun G1 h1 c1 => ?_
  have hl : (takes st 2).1.length ≤ 2 := length_takes st
  refine cursor_value_uint16.use (by omega) ?_
  have := num_lt_of hl
  rw [Nat.mod_eq_of_lt (by omega)]
  exact hQ G1 h1 c1
theorem cursor_Reader_I64.use (h : Rd id st G) (hQ : ∀ G', Rd id (takes st 8).2 G' → Ch [id] G [id] G' → Q (.int .i64 (IntKind.i64.wrap (num (takes st 8).1 : Nat))) G') : ACalls P cursor_Reader_I64.n [.ptr id [] 0] G Q := by
  refine cursor_Reader_I64.sound ?_
  unfold cursor_Reader_I64.S
  refine cursor_Reader_take.use (fun _ => by omega) h fun G1 h1 c1 => ?_
  have hl : (takes st 8).1.length ≤ 8 := length_takes st
  refine cursor_value_uint64.use (by omega) ?_
  rw [vconv_int T_uint64 T_int64 rfl, wv_some]
  exact hQ G1 h1 c1

theorem cursor_Reader_Err.use (h : Rd id st G) (hQ : Q (.int .i64 st.2) G) : ACalls P cursor_Reader_Err.n [.ptr id [] 0] G Q := by
  refine cursor_Reader_Err.sound ?_
  unfold cursor_Reader_Err.S
  show wv (vload T G t_api_Errno (.ptr id [1] 1)) _
  rw [h.fault]
  exact hQ
theorem cursor_Reader_Rest.use (h : Rd id st G) (hQ : Q (.str st.1) G) : ACalls P cursor_Reader_Rest.n [.ptr id [] 0] G Q := by
  refine cursor_Reader_Rest.sound ?_
  unfold cursor_Reader_Rest.S
  show wv (vload T G t_string (.ptr id [0] 0)) _
  rw [h.rest]
  exact hQ
theorem cursor_Reader_Text.use {most : Int} (h : Rd id st G) (hQ : ∀ G', Rd id (texts st most).2 G' → Ch [id] G [id] G' → Q (.str (texts st most).1) G') : ACalls P cursor_Reader_Text.n [.ptr id [] 0, .int .i64 most] G Q := by
  refine cursor_Reader_Text.sound ?_
  unfold cursor_Reader_Text.S
  intro J
  have two : ∀ (st' : List UInt8 × Int) (G1 : Heap), Rd id st' G1 → Ch [id] G [id] G1 → texts st most = takes (takes st' 2).2 (num (takes st' 2).1) →
      ACalls P cursor_Reader_take.n [.ptr id [] 0, .int .i64 2] G1 fun v37 G38 => ACalls P cursor_value_uint16.n [v37] G38 fun v39 G40 => wv (vconv T G40 t_uint16 t_int v39) fun v41 => ACalls P cursor_Reader_take.n [.ptr id [] 0, v41] G40 fun v42 G43 => Q v42 G43 := by
    intro st' G1 h1 c1 he
    refine cursor_Reader_take.use (fun _ => by omega) h1 fun G2 h2 c2 => ?_
    have hl : (takes st' 2).1.length ≤ 2 := length_takes st'
    have hlt := num_lt_of hl
    refine cursor_value_uint16.use (by omega) ?_
    rw [Nat.mod_eq_of_lt (by omega), vconv_int T_uint16 T_int rfl, wv_some, i64_in (by omega) (by omega)]
    refine cursor_Reader_take.use (fun _ => by omega) h2 fun G3 h3 c3 => ?_
    rw [← he] at h3 ⊢
    exact hQ G3 h3 ((c1.trans c2).trans c3)
  have hno : ¬ (st.2 = 0 ∧ 2 ≤ st.1.length ∧ most < num (st.1.take 2)) → J (.bool false) G := by
    intro hn
    simp -zeta only [J, brB_false]
    exact two st G h (Ch.refl _ _) (by rw [texts, if_neg hn])
  show wv (vload T G t_api_Errno (.ptr id [1] 1)) _
  rw [h.fault]
  simp -zeta only [wv_some, vbin_eql, brB_dec]
  refine ⟨fun h0 => ?_, fun h0 => hno fun hh => h0 hh.1⟩
  show wv (vload T G t_string (.ptr id [0] 0)) _
  rw [h.rest, wv_some]
  show wv (some (.int .i64 st.1.length)) _
  simp -zeta only [wv_some, vbin_geq, brB_dec]
  refine ⟨fun h2 => ?_, fun h2 => hno fun hh => h2 (by omega)⟩
  show wv (vload T G t_string (.ptr id [0] 0)) _
  rw [h.rest, wv_some, str_take (by omega) (by omega), wv_some]
  have hl : (st.1.take 2).length ≤ 2 := by simp; omega
  have hlt := num_lt_of hl
  refine cursor_value_uint16.use (s := st.1.take 2) (by omega) ?_
  rw [Nat.mod_eq_of_lt (by omega), vconv_int T_uint16 T_int rfl, wv_some, i64_in (by omega) (by omega), vbin_gtr, wv_some]
  by_cases hm : most < num (st.1.take 2)
  · have hyes : J (.bool true) G := by
      simp -zeta only [J, brB_true]
      refine cursor_Reader_breaks.use h fun G1 h1 c1 => ?_
      refine two ([], 3) G1 h1 c1 ?_
      rw [texts, if_pos ⟨h0, by omega, hm⟩]
      rfl
    have hd : decide (most < (num (st.1.take 2) : Int)) = true := by simp [hm]
    rw [hd]
    exact hyes
  · have hd : decide (most < (num (st.1.take 2) : Int)) = false := by simp; omega
    rw [hd]
    exact hno fun hh => hm hh.2.2

end

theorem Rd.ch {id : AId} {st : List UInt8 × Int} {G G' : Heap} {E E' : List AId} (h : Rd id st G) (hc : Ch E G E' G') (hd : id ∉ E) : Rd id st G' := hc.others _ _ h hd
theorem Rd.row {id : AId} {st : List UInt8 × Int} {G : Heap} (h : Rd id st G) : (G id).isSome = true := by rw [h]; rfl

end Go.Esc.M

/- Own work. Chapter 3: texts on the wire. -/
set_option linter.unusedSimpArgs false
set_option linter.unusedVariables false
set_option maxRecDepth 20000
namespace Go.Esc.M
open Go Go.Esc

theorem num_be2 {n : Nat} (h : n ≤ 65535) : num (be 2 n) = n := by
  simp only [be, num, numA]
  simp
  omega

theorem texts_two {b : List UInt8} {most : Int} (h : 2 ≤ b.length) : texts (b, 0) most = if most < num (b.take 2) then ([], ([], 3)) else takes (b.drop 2, 0) (num (b.take 2)) := by
  unfold texts
  by_cases hm : most < num (b.take 2)
  · rw [if_pos ⟨rfl, h, hm⟩, if_pos hm]
  · rw [if_neg (fun hh => hm hh.2.2), if_neg hm]
    have : takes (b, 0) 2 = (b.take 2, (b.drop 2, 0)) := by
      unfold takes
      have hl : ¬ ((b.length : Int) < 2) := by omega
      simp [hl]
    rw [this]

theorem texts_short {b : List UInt8} {most : Int} (h : b.length < 2) : texts (b, 0) most = ([], ([], 2)) := by
  unfold texts
  rw [if_neg (fun hh => absurd hh.2.1 (Nat.not_le.2 h))]
  have : takes (b, 0) 2 = ([], ([], 2)) := by
    unfold takes
    have hl : (b.length : Int) < 2 := by omega
    simp [hl]
  rw [this]
  simp [takes]

theorem takes_broken {st : List UInt8 × Int} {n : Int} (h : st.2 ≠ 0) : takes st n = ([], st) := by simp [takes, h]
theorem texts_broken {st : List UInt8 × Int} {n : Int} (h : st.2 ≠ 0) : texts st n = ([], st) := by
  unfold texts
  rw [if_neg (fun hh => h hh.1), takes_broken h, takes_broken h]

theorem takes_app {a b : List UInt8} {n : Int} (h : (a.length : Int) = n) : takes (a ++ b, 0) n = (a, (b, 0)) := by
  subst h
  unfold takes
  have hl : ¬ (((a ++ b).length : Int) < a.length) := by rw [List.length_append]; omega
  simp only [if_true]
  rw [if_neg hl]
  simp

end Go.Esc.M

/- Own work. Chapter 3: a number's bytes: parts, there and back. -/
set_option linter.unusedSimpArgs false
set_option linter.unusedVariables false
set_option maxRecDepth 20000
namespace Go.Esc.M
open Go Go.Esc

theorem numA_be (v : Nat) : ∀ k w, numA w (be k v) = w * 2 ^ (8 * k) + v % 2 ^ (8 * k)
  | 0, w => by simp [be, numA, Nat.mod_one]
  | k + 1, w => by
    rw [be, numA, numA_be v k]
    have h1 : 2 ^ (8 * (k + 1)) = 2 ^ (8 * k) * 256 := by rw [show 8 * (k + 1) = 8 * k + 8 by omega, Nat.pow_add]
    rw [h1, Nat.mod_mul]
    have : (UInt8.ofNat (v / 2 ^ (8 * k))).toNat = v / 2 ^ (8 * k) % 256 := by simp
    rw [this, Nat.add_mul, ← Nat.mul_assoc, Nat.mul_assoc w 256, Nat.mul_comm 256 (2 ^ (8 * k)), ← Nat.mul_assoc, Nat.mul_comm (v / 2 ^ (8 * k) % 256)]
    omega

theorem num_be (v k : Nat) : num (be k v) = v % 2 ^ (8 * k) := by
  rw [num, numA_be]
  omega
theorem num_be_lt {v k : Nat} (h : v < 2 ^ (8 * k)) : num (be k v) = v := by rw [num_be, Nat.mod_eq_of_lt h]

/-- Bytes of a number: every list of so many is one. -/
theorem be_numA : ∀ (l : List UInt8) (w : Nat), be l.length (numA w l) = l
  | [], w => rfl
  | b :: l, w => by
    have hb : b.toNat < 256 := b.toNat_lt
    rw [numA, List.length_cons, be, be_numA l]
    congr 1
    have h : ∀ (l : List UInt8) (x : Nat), numA x l / 2 ^ (8 * l.length) = x := by
      intro l
      induction l with
      | nil => intro x; simp [numA]
      | cons c l ih =>
        intro x
        have hc : c.toNat < 256 := c.toNat_lt
        rw [numA, List.length_cons, show 8 * (l.length + 1) = 8 * l.length + 8 by omega, Nat.pow_add, ← Nat.div_div_eq_div_mul, ih]
        omega
    rw [h]
    apply UInt8.toNat_inj.1
    simp

theorem bits64_wrap {v : Nat} (h : v < 2 ^ 64) : bits64 (IntKind.i64.wrap v) = v := by
  rw [IntKind.wrap_i64]
  unfold bits64
  omega
theorem wrap_bits64' {n : Int} (h : I64 n) : IntKind.i64.wrap (bits64 n : Nat) = n := by
  have h1 := h.1
  have h2 := h.2
  rw [IntKind.wrap_i64]
  unfold bits64
  omega

end Go.Esc.M

/- Own work. Chapter 3: the document's readers; hashes read. -/
set_option linter.unusedSimpArgs false
set_option linter.unusedVariables false
set_option maxRecDepth 20000
namespace Go.Esc.M
open Go Go.Esc

/-- A reader of the program's. -/
def RdL (id : AId) (st : List UInt8 × Int) : LP where
  p := fun G F => Rd id st G ∧ F = [id]
  rows := by rintro G F ⟨h, rfl⟩ j hj; simp at hj; subst hj; exact h.row
  loc := by rintro G G' F ⟨h, rfl⟩ hs; exact ⟨by unfold Rd at h ⊢; rw [hs id (by simp)]; exact h, rfl⟩

/-- A reader of the document's: what is left stays where it is broken. -/
def RdR (id : AId) (st : List UInt8 × Int) (G : Heap) : Prop := ∃ l, G id = some (.own (.agg [.str l, .int .i64 st.2])) ∧ (st.2 = 0 → l = st.1) ∧ (st.2 ≠ 0 → st.1 = [])
def RdRL (id : AId) (st : List UInt8 × Int) : LP where
  p := fun G F => RdR id st G ∧ F = [id]
  rows := by rintro G F ⟨⟨l, h, _⟩, rfl⟩ j hj; simp at hj; subst hj; rw [h]; rfl
  loc := by rintro G G' F ⟨⟨l, h, h'⟩, rfl⟩ hs; exact ⟨⟨l, by rw [hs id (by simp)]; exact h, h'⟩, rfl⟩

section
variable {id : AId} {st : List UInt8 × Int} {G : Heap} {Q : AVal → Heap → Prop}

theorem RdR.fault (h : RdR id st G) : vload T G t_api_Errno (.ptr id [1] 1) = some (.int .i64 st.2) := h.elim fun _ h => vload_fld h.1 rfl rfl rfl T_api_Errno rfl
theorem RdR.rest (h : RdR id st G) (h0 : st.2 = 0) : vload T G t_string (.ptr id [0] 0) = some (.str st.1) := h.elim fun l h => by rw [← h.2.1 h0]; exact vload_fld h.1 rfl rfl rfl T_string rfl
theorem RdR.ch {G' : Heap} {E E' : List AId} (h : RdR id st G) (hc : Ch E G E' G') (hd : id ∉ E) : RdR id st G' := h.elim fun l h => ⟨l, hc.others _ _ h.1 hd, h.2⟩
theorem RdR.row (h : RdR id st G) : (G id).isSome = true := h.elim fun l h => by rw [h.1]; rfl

theorem takes_short {b : List UInt8} {n : Int} (h : (b.length : Int) < n) : takes (b, 0) n = ([], ([], 2)) := by simp [takes, h]
theorem takes_ok {b : List UInt8} {n : Int} (h : ¬ (b.length : Int) < n) : takes (b, 0) n = (b.take n.toNat, (b.drop n.toNat, 0)) := by simp [takes, h]

end

section
variable {id : AId} {st : List UInt8 × Int} {G : Heap} {Q : AVal → Heap → Prop}

theorem takes_len32 (st : List UInt8 × Int) : (takes st 32).1.length ≤ 32 := length_takes st

theorem cursor_Reader_Hash.use (h : Rd id st G) (hQ : ∀ G', Rd id (takes st 32).2 G' → Ch [id] G [id] G' → Q (.agg ((fill 32 (takes st 32).1).map u8v)) G') : ACalls P cursor_Reader_Hash.n [.ptr id [] 0] G Q := by
  refine cursor_Reader_Hash.sound ?_
  unfold cursor_Reader_Hash.S
  rw [z_hash]
  have hl := takes_len32 st
  have s0 : Sp [id] G [RdL id st] G := Sp.one ⟨h, rfl⟩
  intro i1 f1
  have s1 := s0.row f1 (.agg ((List.replicate 32 (0 : UInt8)).map u8v))
  intro i3 f3
  have s2 := s1.row f3 (.agg ((List.replicate 32 (0 : UInt8)).map u8v))
  rw [vslice_hash, wv_some]
  refine s2.call (i := 2) rfl (RdL id (takes st 32).2) fun F h k => ?_
  obtain ⟨h, rfl⟩ := h
  refine cursor_Reader_take.use (fun _ => by omega) h fun G3 h3 c3 => ?_
  have s3 := k _ _ ⟨h3, rfl⟩ c3
  refine s3.call (i := 0) rfl (RowL i3 (.agg ((fill 32 (takes st 32).1).map u8v))) fun F h k => ?_
  obtain ⟨h, rfl⟩ := h
  refine copy_hash h (by simp) hl fun G4 h4 c4 => ?_
  have e4 : (takes st 32).1 ++ (List.replicate 32 (0 : UInt8)).drop (takes st 32).1.length = fill 32 (takes st 32).1 := by rw [List.drop_replicate]; rfl
  rw [e4] at h4
  have s4 := k _ _ ⟨h4, rfl⟩ c4
  rw [load_hash (length_fill hl) h4, wv_some]
  refine s4.call (i := 1) rfl (RowL i1 (.agg ((fill 32 (takes st 32).1).map u8v))) fun F h k => ?_
  obtain ⟨h, rfl⟩ := h
  rw [store_hash (by simp) (length_fill hl) h, wg_some]
  have s5 := k _ _ ⟨Heap.upd_self _ _ _, rfl⟩ (ch_upd h (by simp))
  rw [load_hash (length_fill hl) (Heap.upd_self _ _ _), wv_some]
  obtain ⟨F, ⟨h6, rfl⟩, c6⟩ := ((s5.erase 0).erase 0).out
  exact hQ _ h6 c6

end
end Go.Esc.M
