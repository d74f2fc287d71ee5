import Derived.Test.YtojenibpodkphaaDoorLVa
import Derived.Test.YtojenibpodkphaaDoorLSb
import Derived.Test.YtojenibpodkphaaDoorEZ
import Derived.Test.YtojenibpodkphaaDoorSS
/- Own work. Chapter 10: the program's shelf. -/
set_option linter.unusedSimpArgs false
set_option linter.unusedVariables false
set_option maxRecDepth 20000
namespace Go.Esc.M
open Go Go.Esc

section
variable {F0 : List AId} {G0 G : Heap} {ps : List LP} {Q : AVal → Heap → Prop}

set_option maxHeartbeats 1000000 in
theorem shelf_Get.use {v : AVal} {l : List SlotM} {n : Int} (hT : Tab G) (hl : IsSl 34 G v (l.map SlotM.av)) (hok : ∀ s ∈ l, s.ok) (hlen : l.length * 48 ≤ 140737488351232)
    (hQ : ∀ G', Ch [] G [] G' → Q (tupHI (getS l n)) G') : ACalls P shelf_Get.n [v, .int .i64 n] G Q := by
  refine shelf_Get.sound ?_
  unfold shelf_Get.S
  rw [z_hash]
  intro i1 f1
  have s1 := (Sp.nil G).row f1 (.agg ((List.replicate 32 (0 : UInt8)).map u8v))
  have z1 : zero32.length = 32 := rfl
  unfold getS at hQ
  have out : ∀ (h h' : List UInt8) (e : Int) (G' : Heap), h.length = 32 → h'.length = 32 → Sp [] G [RowL i1 (.agg (h'.map u8v))] G' → (∀ G', Ch [] G [] G' → Q (tupHI (h, e)) G') →
      wg (vstore T G' t_api_Hash (.ptr i1 [] 0) (.agg (h.map u8v))) fun G6 => wv (vload T G6 t_api_Hash (.ptr i1 [] 0)) fun v7 => Q (.tuple [v7, .int .i64 e]) G6 := by
    intro h h' e G' hh hh' sp hk
    refine wg_of (store_hash hh' hh (RowL.own (i := 0) sp rfl)) ?_
    have s2 := Sp.setRow (j := 0) sp rfl (.agg (h.map u8v))
    refine wv_of (load_hash hh (RowL.own (i := 0) s2 rfl)) ?_
    exact hk _ s2.ch
  refine wv_of (slots_len (hl.ch' s1.ch)) ?_
  rw [vbin_gtr, wv_some, brB_dec]
  refine ⟨fun h => ?_, fun h => ?_⟩
  · rw [if_pos (by omega)] at hQ
    refine wv_of zero_hash2 ?_
    exact out _ _ _ _ (by simp) (by simp) s1 hQ
  rw [if_neg (by omega)] at hQ
  intro J52
  have bad : okN n = false → J52 (.bool true) (G.upd i1 (.own (.agg ((List.replicate 32 (0 : UInt8)).map u8v)))) := by
    intro hn
    rw [hn, if_neg (by simp)] at hQ
    simp -zeta only [J52, brB_true]
    refine wv_of zero_hash2 ?_
    exact out _ _ _ _ (by simp) (by simp) s1 hQ
  have good : okN n = true → J52 (.bool false) (G.upd i1 (.own (.agg ((List.replicate 32 (0 : UInt8)).map u8v)))) := by
    intro hn
    rw [hn, if_pos rfl] at hQ
    simp -zeta only [J52, brB_false]
    refine wv_of (slots_len (hl.ch' s1.ch)) ?_
    intro R hR
    have loop : ∀ (m j : Nat) (G' : Heap), l.length - j = m → j ≤ l.length → getL n l = getL n (l.drop j) → Sp [] G [RowL i1 (.agg ((List.replicate 32 (0 : UInt8)).map u8v))] G' →
        R [v, .int .i64 n, .ptr i1 [] 0, .int .i64 (l.length : Int), .int .i64 (j : Int)] G' := by
      intro m
      induction m with
      | zero =>
        intro j G' hm hj he sp
        refine hR _ _ _ _ _ _ ?_
        rw [vbin_lss, wv_some, decide_eq_false (by omega), brB_false]
        rw [List.drop_eq_nil_of_le (by omega)] at he
        rw [he] at hQ
        refine wv_of zero_hash2 ?_
        exact out _ _ _ _ (by simp) (by simp) sp hQ
      | succ m ih =>
        intro j G' hm hj he sp
        obtain ⟨s, hsj⟩ : ∃ s, l[j]? = some s := ⟨_, List.getElem?_eq_getElem (by omega)⟩
        have hso := hok s (List.mem_of_getElem? hsj)
        have hdr : l.drop j = s :: l.drop (j + 1) := by
          rw [List.drop_eq_getElem_cons (by omega)]
          rw [List.getElem?_eq_getElem (by omega)] at hsj
          injection hsj with hsj
          rw [hsj]
        rw [hdr, getL] at he
        refine hR _ _ _ _ _ _ ?_
        rw [vbin_lss, wv_some, decide_eq_true (by omega), brB_true]
        obtain ⟨a, b, e1, e2, e3⟩ := slot_full (hl.ch' sp.ch) rfl hsj hso
        refine wv_of e1 ?_
        refine wv_of e2 ?_
        refine wv_of e3 ?_
        rw [vun_not, wv_some]
        have ev : vbin T .add t_int (.int .i64 (j : Int)) (.int .i64 1) = some (.int .i64 ((j + 1 : Nat) : Int)) := by
          rw [vbin_add, i64_in (by omega) (by omega)]
          rfl
        cases hf : s.full with
        | false =>
          rw [hf, if_neg (by simp)] at he
          rw [Bool.not_false, brB_true]
          exact wv_of ev (ih (j + 1) G' (by omega) (by omega) he sp)
        | true =>
          rw [Bool.not_true, brB_false]
          obtain ⟨a, b, e1, e2, e3⟩ := slot_secret (hl.ch' sp.ch) rfl hsj hso
          refine wv_of e1 ?_
          refine wv_of e2 ?_
          refine wv_of e3 ?_
          obtain ⟨a, b, e1, e2, e3⟩ := slot_index (hl.ch' sp.ch) rfl hsj
          refine wv_of e1 ?_
          refine wv_of e2 ?_
          refine wv_of e3 ?_
          refine seed_Derive.use (hT.mono sp.ro) hso fun G35 c35 => ?_
          have s35 := sp.tmp c35
          refine wv_of (hi0 _) ?_
          refine wv_of (hi1 _) ?_
          have hdl := len_derive (s := s.secret) hso s.index n
          refine newH s35 hdl fun i38 G40 s40 => ?_
          rw [vbin_eql, wv_some]
          by_cases hz : (deriveS s.secret s.index n).2 = 0
          · rw [if_pos ⟨hf, hz⟩] at he
            rw [he] at hQ
            rw [decide_eq_true hz, brB_true]
            refine wv_of (load_hash hdl (RowL.own (i := 0) s40 rfl)) ?_
            exact out _ _ _ _ hdl (by simp) (s40.erase 0) hQ
          · rw [if_neg (fun h => hz h.2)] at he
            rw [decide_eq_false hz, brB_false]
            exact wv_of ev (ih (j + 1) G40 (by omega) (by omega) he (s40.erase 0))
    exact loop l.length 0 _ rfl (by omega) rfl s1
  have hiff := okN_iff (n := n)
  rw [vbin_lss, wv_some, brB_dec]
  refine ⟨fun h => bad (Bool.eq_false_iff.2 fun hh => ?_), fun h => ?_⟩
  · have := hiff.1 hh
    omega
  · rw [vbin_gtr, wv_some]
    by_cases h2 : n > 281474976710655
    · rw [decide_eq_true h2]
      exact bad (Bool.eq_false_iff.2 fun hh => by have := hiff.1 hh; omega)
    · rw [decide_eq_false h2]
      exact good (hiff.2 ⟨by omega, by omega⟩)

end

end Go.Esc.M

/- Own work. Chapter 11: seals. -/
set_option linter.unusedSimpArgs false
set_option linter.unusedVariables false
set_option maxRecDepth 20000
namespace Go.Esc.M
open Go Go.Esc

section
variable {F0 : List AId} {G0 G : Heap} {ps : List LP} {Q : AVal → Heap → Prop}

/-- A hash in a new row. -/
theorem newHash {h : List UInt8} {K : AId → Heap → Prop} (hs : Sp F0 G0 ps G) (hl : h.length = 32) (hK : ∀ i G', Sp F0 G0 (RowL i (.agg (h.map u8v)) :: ps) G' → K i G') :
    aNew G (.own z_api_Hash) fun i G2 => wg (vstore T G2 t_api_Hash (.ptr i [] 0) (.agg (h.map u8v))) fun G3 => K i G3 := by
  intro i hf
  rw [z_hash]
  have s := hs.row hf (.agg ((List.replicate 32 (0 : UInt8)).map u8v))
  rw [store_hash (by simp) hl (RowL.own (i := 0) s rfl), wg_some]
  exact hK _ _ (Sp.setRow s (j := 0) rfl _)

theorem hash_in {i : Nat} {id : AId} {h : List UInt8} (hs : Sp F0 G0 ps G) (hi : ps[i]? = some (RowL id (.agg (h.map u8v)))) (hl : h.length = 32) : vload T G t_api_Hash (.ptr id [] 0) = some (.agg (h.map u8v)) := load_hash hl (RowL.own hs hi)

theorem seal_Sign.use {key text : List UInt8} (hk : key.length = 32) (hl : text.length ≤ 281474976700000) (hQ : ∀ G', Ch [] G [] G' → Q (.agg ((mac key text).map u8v)) G') : ACalls P seal_Sign.n [.agg (key.map u8v), .str text] G Q := by
  refine seal_Sign.sound ?_
  unfold seal_Sign.S
  rw [z_hash]
  intro i1 f1
  have s1 := (Sp.nil G).row f1 (.agg (key.map u8v))
  intro i3 f3
  have s3 := s1.row f3 (.agg ((List.replicate 32 (0 : UInt8)).map u8v))
  rw [hash_in (i := 1) s3 rfl hk, wv_some]
  refine hash_Mac.use hk (by omega) fun G7 c7 => ?_
  have s7 := s3.tmp c7
  have hm : (mac key text).length = 32 := length_sha _
  rw [store_hash (by simp) hm (RowL.own (i := 0) s7 rfl), wg_some, load_hash hm (Heap.upd_self _ _ _), wv_some]
  exact hQ _ (Sp.setRow s7 (j := 0) rfl (.agg ((mac key text).map u8v))).ch

end
end Go.Esc.M

/- Own work. Chapter 3: the writers. -/
set_option linter.unusedSimpArgs false
set_option linter.unusedVariables false
set_option maxRecDepth 20000
namespace Go.Esc.M
open Go Go.Esc

/-- A number's bytes, the greatest first. -/
def be : Nat → Nat → List UInt8
  | 0, _ => []
  | k + 1, v => UInt8.ofNat (v / 2 ^ (8 * k)) :: be k v

theorem length_be (v : Nat) : ∀ k, (be k v).length = k
  | 0 => rfl
  | k + 1 => by simp [be, length_be v k]

theorem shr_byte (v i : Nat) (hi : i ≤ 7) : IntKind.u8.wrap ((v : Int).fdiv (2 ^ min ((8 : Int) * (i : Int)).toNat IntKind.u64.bits)) = ((v / 2 ^ (8 * i) % 256 : Nat) : Int) := by
  have h1 : min ((8 : Int) * (i : Int)).toNat IntKind.u64.bits = 8 * i := by
    have : IntKind.u64.bits = 64 := rfl
    omega
  rw [h1, IntKind.wrap_u8]
  have h2 : ((2 : Int) ^ (8 * i)) = ((2 ^ (8 * i) : Nat) : Int) := by simp
  rw [h2, Int.fdiv_eq_ediv_of_nonneg _ (Int.natCast_nonneg _)]
  simp

/-- What a writer holds behind more bytes: nothing more once it is broken. -/
def laid (st : List UInt8 × Int) (xs : List UInt8) : List UInt8 × Int := if st.2 = 0 then (st.1 ++ xs, 0) else st

def Wr (id : AId) (st : List UInt8 × Int) (G : Heap) (F : List AId) : Prop := WrP id st.1 st.2 G F

theorem WrP.fault {id : AId} {bs : List UInt8} {f : Int} {G : Heap} {F : List AId} (h : WrP id bs f G F) : vload T G t_api_Errno (.ptr id [1] 1) = some (.int .i64 f) := by
  obtain ⟨s, hg, ho, _⟩ := h
  exact vload_fld hg rfl (by simp [szs, ho.leaf.1]) rfl T_api_Errno rfl

theorem WrP.load {id : AId} {bs : List UInt8} {f : Int} {G : Heap} {F : List AId} (h : WrP id bs f G F) :
    ∃ s, vload T G t_sl_uint8 (.ptr id [0] 0) = some s ∧ G id = some (.own (.agg [s, .int .i64 f])) ∧ Own 1 G s (bs.map u8v) ∧ rowOf s ≠ some id ∧ F = id :: (rowOf s).toList := by
  obtain ⟨s, hg, ho, hne, hF⟩ := h
  exact ⟨s, vload_fld hg rfl rfl rfl T_sl_uint8 (by simp [vfits, ho.leaf.1, ho.leaf.2.1, ti_sl_uint8, ADesc.isAgg]), hg, ho, hne, hF⟩

theorem lay_step {id : AId} {bs : List UInt8} {f : Int} {G : Heap} {F : List AId} (h : WrP id bs f G F) (hb : bs.length + 1 ≤ 140737488355328) :
    ∃ s, vload T G t_sl_uint8 (.ptr id [0] 0) = some s ∧ ∀ (b : UInt8) (K : Heap → Prop), (∀ F' G', WrP id (bs ++ [b]) f G' F' → Ch F G F' G' → K G') →
      aBuildSlice T t_sl_uint8 1 [(0, u8v b)] G fun v G1 => aAppend T G1 t_sl_uint8 t_sl_uint8 s v fun v2 G2 => wg (vstore T G2 t_sl_uint8 (.ptr id [0] 0) v2) K := by
  obtain ⟨s, hl, hg, ho, hne, rfl⟩ := WrP.load h
  refine ⟨s, hl, fun b K hK => ?_⟩
  refine append1 (T := T) (ts := t_sl_uint8) (e := t_uint8) (si := ti_sl_uint8) (ie := ti_uint8) T_sl_uint8 rfl T_uint8 rfl (by decide) ho rfl rfl (by decide) ?_ fun s' G2 ho2 hk => ?_
  · simp only [List.length_map, ti_uint8]
    omega
  · obtain ⟨G', hst, hw, hch⟩ := WrP.put (T := T) (tb := t_sl_uint8) (ib := ti_sl_uint8) T_sl_uint8 (.inr rfl) rfl (bs' := bs ++ [b]) hg hne ho.leaf.1 (by rw [List.map_append]; exact ho2) hk
    rw [hst, wg_some]
    exact hK _ _ hw hch

theorem raw_step {id : AId} {bs xs : List UInt8} {f : Int} {G : Heap} {F : List AId} (h : WrP id bs f G F) (hb : bs.length + xs.length ≤ 140737488355328) :
    ∃ s, vload T G t_sl_uint8 (.ptr id [0] 0) = some s ∧ ∀ (K : Heap → Prop), (∀ F' G', WrP id (bs ++ xs) f G' F' → Ch F G F' G' → K G') →
      aAppend T G t_sl_uint8 t_string s (.str xs) fun v2 G2 => wg (vstore T G2 t_sl_uint8 (.ptr id [0] 0) v2) K := by
  obtain ⟨s, hl, hg, ho, hne, rfl⟩ := WrP.load h
  refine ⟨s, hl, fun K hK => ?_⟩
  refine own_append (T := T) (e := t_uint8) (si := ti_sl_uint8) (ie := ti_uint8) (vs := xs.map u8v) T_sl_uint8 rfl T_uint8 rfl (by decide) T_string (.inl rfl) ho (by simp [selems, ti_uint8, u8v, Function.comp_def]) (uni_u8 _) (okvs_u8 _) ?_ fun s' G2 ho2 hk => ?_
  · simp only [List.length_map, ti_uint8]
    omega
  · obtain ⟨G', hst, hw, hch⟩ := WrP.put (T := T) (tb := t_sl_uint8) (ib := ti_sl_uint8) T_sl_uint8 (.inr rfl) rfl (bs' := bs ++ xs) hg hne ho.leaf.1 (by rw [List.map_append]; exact ho2) hk
    rw [hst, wg_some]
    exact hK _ _ hw hch

theorem cursor_New.use {G : Heap} {Q : AVal → Heap → Prop} (h : ∀ id G', Wr id ([], 0) G' [id] → Ch [] G [id] G' → Q (.ptr id [] 0) G') : ACalls P cursor_New.n [] G Q := by
  refine cursor_New.sound ?_
  unfold cursor_New.S
  intro id hf
  exact h _ _ ⟨.nilSlice, Heap.upd_self _ _ _, .inl ⟨rfl, rfl⟩, by simp [rowOf], rfl⟩ (Ch.new hf)

theorem cursor_lay_uint8.use {id : AId} {st : List UInt8 × Int} {v k : Nat} {G : Heap} {F : List AId} {Q : AVal → Heap → Prop} (hv : v < 2 ^ 8) (hk : k ≤ 8) (h : Wr id st G F) (hb : st.1.length + k ≤ 140737488355328)
    (hQ : ∀ F' G', Wr id (laid st (be k v)) G' F' → Ch F G F' G' → Q (.tuple []) G') : ACalls P cursor_lay_uint8.n [.ptr id [] 0, .int .u8 v, .int .i64 k] G Q := by
  refine cursor_lay_uint8.sound ?_
  unfold cursor_lay_uint8.S
  obtain ⟨bs, f⟩ := st
  have hf := WrP.fault h
  show wv (vload T G t_api_Errno (.ptr id [1] 1)) _
  rw [hf]
  simp -zeta only [wv_some, vbin_neq, brB_ndec, vbin_sub]
  refine ⟨fun h0 => ?_, fun h0 => ?_⟩
  · refine hQ F G ?_ (Ch.refl _ _)
    simpa [laid, h0, Wr] using h
  · subst h0
    intro R hR
    rw [i64_in (by omega) (by omega)]
    have hb : bs.length + k ≤ 140737488355328 := hb
    have loop : ∀ (i : Nat) (bs' : List UInt8) (F' : List AId) (G' : Heap), i ≤ k → bs'.length + i ≤ 140737488355328 → WrP id bs' 0 G' F' → Ch F G F' G' → bs ++ be k v = bs' ++ be i v →
        R [.ptr id [] 0, .int .u8 v, .int .i64 ((i : Int) - 1)] G' := by
      intro i
      induction i with
      | zero =>
        intro bs' F' G' _ _ hw hch he
        refine hR _ _ _ _ ?_
        simp -zeta only [vbin_geq, wv_some, brB_dec]
        refine ⟨fun h => absurd h (by omega), fun _ => hQ F' G' ?_ hch⟩
        simp only [be, List.append_nil] at he
        simp only [laid, if_true, Wr, he]
        exact hw
      | succ i ih =>
        intro bs' F' G' hi hb' hw hch he
        refine hR _ _ _ _ ?_
        have ei : ((i + 1 : Nat) : Int) - 1 = (i : Int) := by omega
        rw [ei]
        simp -zeta only [vbin_geq, wv_some, brB_dec]
        refine ⟨fun _ => ?_, fun h => absurd (by omega) h⟩
        obtain ⟨s, hl, hstep⟩ := lay_step hw (by omega)
        show wv (vload T G' t_sl_uint8 (.ptr id [0] 0)) _
        rw [hl, wv_some]
        rw [vconv_int T_uint8 T_uint64 rfl, wv_some, u64_in (by omega) (by omega)]
        rw [vbin_mul, wv_some, i64_in (by omega) (by omega), vbin_shr _ _ _ _ _ _ (by omega), wv_some, vconv_int T_uint64 T_uint8 rfl, wv_some, shr_byte v i (by omega), ← u8v_ofNat]
        refine hstep _ _ fun F2 G2 hw2 hch2 => ?_
        show wv (vbin T .sub t_int (.int .i64 i) (.int .i64 1)) _
        simp -zeta only [vbin_sub, wv_some]
        rw [i64_in (by omega) (by omega)]
        refine ih _ F2 G2 (by omega) (by simp; omega) hw2 (hch.trans hch2) ?_
        rw [he, be]
        simp
    exact loop k bs F G (Nat.le_refl _) (by omega) h (Ch.refl _ _) rfl

theorem cursor_lay_uint16.use {id : AId} {st : List UInt8 × Int} {v k : Nat} {G : Heap} {F : List AId} {Q : AVal → Heap → Prop} (hv : v < 2 ^ 16) (hk : k ≤ 8) (h : Wr id st G F) (hb : st.1.length + k ≤ 140737488355328)
    (hQ : ∀ F' G', Wr id (laid st (be k v)) G' F' → Ch F G F' G' → Q (.tuple []) G') : ACalls P cursor_lay_uint16.n [.ptr id [] 0, .int .u16 v, .int .i64 k] G Q := by
  refine cursor_lay_uint16.sound ?_
  unfold cursor_lay_uint16.S
  obtain ⟨bs, f⟩ := st
  have hf := WrP.fault h
  show wv (vload T G t_api_Errno (.ptr id [1] 1)) _
  rw [hf]
  simp -zeta only [wv_some, vbin_neq, brB_ndec, vbin_sub]
  refine ⟨fun h0 => ?_, fun h0 => ?_⟩
  · refine hQ F G ?_ (Ch.refl _ _)
    simpa [laid, h0, Wr] using h
  · subst h0
    intro R hR
    rw [i64_in (by omega) (by omega)]
    have hb : bs.length + k ≤ 140737488355328 := hb
    have loop : ∀ (i : Nat) (bs' : List UInt8) (F' : List AId) (G' : Heap), i ≤ k → bs'.length + i ≤ 140737488355328 → WrP id bs' 0 G' F' → Ch F G F' G' → bs ++ be k v = bs' ++ be i v →
        R [.ptr id [] 0, .int .u16 v, .int .i64 ((i : Int) - 1)] G' := by
      intro i
      induction i with
      | zero =>
        intro bs' F' G' _ _ hw hch he
        refine hR _ _ _ _ ?_
        simp -zeta only [vbin_geq, wv_some, brB_dec]
        refine ⟨fun h => absurd h (by omega), fun _ => hQ F' G' ?_ hch⟩
        simp only [be, List.append_nil] at he
        simp only [laid, if_true, Wr, he]
        exact hw
      | succ i ih =>
        intro bs' F' G' hi hb' hw hch he
        refine hR _ _ _ _ ?_
        have ei : ((i + 1 : Nat) : Int) - 1 = (i : Int) := by omega
        rw [ei]
        simp -zeta only [vbin_geq, wv_some, brB_dec]
        refine ⟨fun _ => ?_, fun h => absurd (by omega) h⟩
        obtain ⟨s, hl, hstep⟩ := lay_step hw (by omega)
        show wv (vload T G' t_sl_uint8 (.ptr id [0] 0)) _
        rw [hl, wv_some]
        rw [vconv_int T_uint16 T_uint64 rfl, wv_some, u64_in (by omega) (by omega)]
        rw [vbin_mul, wv_some, i64_in (by omega) (by omega), vbin_shr _ _ _ _ _ _ (by omega), wv_some, vconv_int T_uint64 T_uint8 rfl, wv_some, shr_byte v i (by omega), ← u8v_ofNat]
        refine hstep _ _ fun F2 G2 hw2 hch2 => ?_
        show wv (vbin T .sub t_int (.int .i64 i) (.int .i64 1)) _
        simp -zeta only [vbin_sub, wv_some]
        rw [i64_in (by omega) (by omega)]
        refine ih _ F2 G2 (by omega) (by simp; omega) hw2 (hch.trans hch2) ?_
        rw [he, be]
        simp
    exact loop k bs F G (Nat.le_refl _) (by omega) h (Ch.refl _ _) rfl

theorem cursor_lay_uint64.use {id : AId} {st : List UInt8 × Int} {v k : Nat} {G : Heap} {F : List AId} {Q : AVal → Heap → Prop} (hv : v < 2 ^ 64) (hk : k ≤ 8) (h : Wr id st G F) (hb : st.1.length + k ≤ 140737488355328)
    (hQ : ∀ F' G', Wr id (laid st (be k v)) G' F' → Ch F G F' G' → Q (.tuple []) G') : ACalls P cursor_lay_uint64.n [.ptr id [] 0, .int .u64 v, .int .i64 k] G Q := by
  refine cursor_lay_uint64.sound ?_
  unfold cursor_lay_uint64.S
  obtain ⟨bs, f⟩ := st
  have hf := WrP.fault h
  show wv (vload T G t_api_Errno (.ptr id [1] 1)) _
  rw [hf]
  simp -zeta only [wv_some, vbin_neq, brB_ndec, vbin_sub]
  refine ⟨fun h0 => ?_, fun h0 => ?_⟩
  · refine hQ F G ?_ (Ch.refl _ _)
    simpa [laid, h0, Wr] using h
  · subst h0
    intro R hR
    rw [i64_in (by omega) (by omega)]
    have hb : bs.length + k ≤ 140737488355328 := hb
    have loop : ∀ (i : Nat) (bs' : List UInt8) (F' : List AId) (G' : Heap), i ≤ k → bs'.length + i ≤ 140737488355328 → WrP id bs' 0 G' F' → Ch F G F' G' → bs ++ be k v = bs' ++ be i v →
        R [.ptr id [] 0, .int .u64 v, .int .i64 ((i : Int) - 1)] G' := by
      intro i
      induction i with
      | zero =>
        intro bs' F' G' _ _ hw hch he
        refine hR _ _ _ _ ?_
        simp -zeta only [vbin_geq, wv_some, brB_dec]
        refine ⟨fun h => absurd h (by omega), fun _ => hQ F' G' ?_ hch⟩
        simp only [be, List.append_nil] at he
        simp only [laid, if_true, Wr, he]
        exact hw
      | succ i ih =>
        intro bs' F' G' hi hb' hw hch he
        refine hR _ _ _ _ ?_
        have ei : ((i + 1 : Nat) : Int) - 1 = (i : Int) := by omega
        rw [ei]
        simp -zeta only [vbin_geq, wv_some, brB_dec]
        refine ⟨fun _ => ?_, fun h => absurd (by omega) h⟩
        obtain ⟨s, hl, hstep⟩ := lay_step hw (by omega)
        show wv (vload T G' t_sl_uint8 (.ptr id [0] 0)) _
        rw [hl, wv_some]
        rw [vbin_mul, wv_some, i64_in (by omega) (by omega), vbin_shr _ _ _ _ _ _ (by omega), wv_some, vconv_int T_uint64 T_uint8 rfl, wv_some, shr_byte v i (by omega), ← u8v_ofNat]
        refine hstep _ _ fun F2 G2 hw2 hch2 => ?_
        show wv (vbin T .sub t_int (.int .i64 i) (.int .i64 1)) _
        simp -zeta only [vbin_sub, wv_some]
        rw [i64_in (by omega) (by omega)]
        refine ih _ F2 G2 (by omega) (by simp; omega) hw2 (hch.trans hch2) ?_
        rw [he, be]
        simp
    exact loop k bs F G (Nat.le_refl _) (by omega) h (Ch.refl _ _) rfl


theorem cursor_Writer_Raw.use {id : AId} {st : List UInt8 × Int} {xs : List UInt8} {G : Heap} {F : List AId} {Q : AVal → Heap → Prop} (h : Wr id st G F) (hb : st.1.length + xs.length ≤ 140737488355328)
    (hQ : ∀ F' G', Wr id (laid st xs) G' F' → Ch F G F' G' → Q (.tuple []) G') : ACalls P cursor_Writer_Raw.n [.ptr id [] 0, .str xs] G Q := by
  refine cursor_Writer_Raw.sound ?_
  unfold cursor_Writer_Raw.S
  obtain ⟨bs, f⟩ := st
  have hf := WrP.fault h
  show wv (vload T G t_api_Errno (.ptr id [1] 1)) _
  rw [hf]
  simp -zeta only [wv_some, vbin_eql, brB_dec]
  refine ⟨fun h0 => ?_, fun h0 => ?_⟩
  · obtain ⟨s, hl, hstep⟩ := raw_step h hb
    show wv (vload T G t_sl_uint8 (.ptr id [0] 0)) _
    rw [hl, wv_some]
    refine hstep _ fun F' G' hw hch => hQ F' G' ?_ hch
    simpa [laid, h0, Wr] using hw
  · refine hQ F G ?_ (Ch.refl _ _)
    simpa [laid, h0, Wr] using h

end Go.Esc.M

/- Own work. Chapter 3: the writers, all of their functions. -/
set_option linter.unusedSimpArgs false
set_option linter.unusedVariables false
set_option maxRecDepth 20000
namespace Go.Esc.M
open Go Go.Esc

theorem vconv_bytes {T : Tbl} {G : Heap} {s d e : TypeId} {si di ie : TI} {v : AVal} {l : List UInt8} (hs : T s = some si) (hsd : si.desc = .slice e) (he : T e = some ie) (hed : ie.desc = .int .u8) (hd : T d = some di) (hdd : di.desc = .string)
    (h : IsSl 1 G v (l.map u8v)) : vconv T G s d v = some (.str l) := by
  rcases h with ⟨id, p, st, off, len, cap, rfl, h⟩ | ⟨rfl, hl⟩
  · simp [vconv, hs, hd, hdd, hsd, he, hed, h, bytesOf_u8]
  · have : l = [] := by simpa using hl
    subst this
    simp [vconv, hs, hd, hdd, hsd, he, hed]

theorem Wr.ch {id : AId} {st : List UInt8 × Int} {G G' : Heap} {F E E' : List AId} (h : Wr id st G F) (hc : Ch E G E' G') (hd : ∀ j ∈ F, j ∉ E) : Wr id st G' F := WrP.frame h (hc.same (WrP.rows h) hd)

section
variable {id : AId} {st : List UInt8 × Int} {G : Heap} {F : List AId} {Q : AVal → Heap → Prop}

theorem cursor_Writer_U8.use {v : Nat} (hv : v < 2 ^ 8) (h : Wr id st G F) (hb : st.1.length + 8 ≤ 140737488355328) (hQ : ∀ F' G', Wr id (laid st (be 1 v)) G' F' → Ch F G F' G' → Q (.tuple []) G') :
    ACalls P cursor_Writer_U8.n [.ptr id [] 0, .int .u8 v] G Q := cursor_Writer_U8.sound (cursor_lay_uint8.use (k := 1) hv (by omega) h (by omega) hQ)
theorem cursor_Writer_U16.use {v : Nat} (hv : v < 2 ^ 16) (h : Wr id st G F) (hb : st.1.length + 8 ≤ 140737488355328) (hQ : ∀ F' G', Wr id (laid st (be 2 v)) G' F' → Ch F G F' G' → Q (.tuple []) G') :
    ACalls P cursor_Writer_U16.n [.ptr id [] 0, .int .u16 v] G Q := cursor_Writer_U16.sound (cursor_lay_uint16.use (k := 2) hv (by omega) h (by omega) hQ)
/-- A signed number's bits, as a number. -/
def bits64 (n : Int) : Nat := (n % 18446744073709551616).toNat
theorem bits64_lt (n : Int) : bits64 n < 2 ^ 64 := by
  unfold bits64
  omega
theorem wrap_bits64 (n : Int) : IntKind.u64.wrap n = (bits64 n : Int) := by
  rw [wrapU64]
  unfold bits64
  omega

theorem cursor_Writer_I64.use {v : Int} (h : Wr id st G F) (hb : st.1.length + 8 ≤ 140737488355328) (hQ : ∀ F' G', Wr id (laid st (be 8 (bits64 v))) G' F' → Ch F G F' G' → Q (.tuple []) G') :
    ACalls P cursor_Writer_I64.n [.ptr id [] 0, .int .i64 v] G Q := by
  refine cursor_Writer_I64.sound ?_
  unfold cursor_Writer_I64.S
  rw [vconv_int T_int64 T_uint64 rfl, wv_some, wrap_bits64]
  exact cursor_lay_uint64.use (k := 8) (bits64_lt v) (by omega) h (by omega) hQ

theorem cursor_Writer_Hash.use {hs : List UInt8} (hl : hs.length = 32) (h : Wr id st G F) (hb : st.1.length + 32 ≤ 140737488355328) (hQ : ∀ F' G', Wr id (laid st hs) G' F' → Ch F G F' G' → Q (.tuple []) G') :
    ACalls P cursor_Writer_Hash.n [.ptr id [] 0, .agg (hs.map u8v)] G Q := by
  refine cursor_Writer_Hash.sound ?_
  unfold cursor_Writer_Hash.S
  intro i hf
  have hch : Ch [] G [] (G.upd i (.own (.agg (hs.map u8v)))) := ⟨RoLe.of_le (hf.le _), fun j x hj _ => hf.le _ _ _ hj, fun j hj => by simp at hj⟩
  have hsl : IsSl 1 (G.upd i (.own (.agg (hs.map u8v)))) (.slice i [] 0 0 32 32) (hs.map u8v) := by
    have := isSl_row (n := 1) (cap := 32) (len := 32) (Heap.upd_self G i (.own (.agg (hs.map u8v)))) rfl (uni_u8 hs) (by simp [hl])
    rwa [List.take_of_length_le (by simp [hl])] at this
  show wv (vconv T _ t_sl_uint8 t_string (.slice i [] 0 0 32 32)) _
  rw [vconv_bytes T_sl_uint8 rfl T_uint8 rfl T_string rfl hsl, wv_some]
  exact cursor_Writer_Raw.use (h.ch hch (by simp)) (by omega) fun F' G' hw hc => hQ F' G' hw (hch.grow.trans hc)

theorem cursor_Writer_Out.use (h : Wr id st G F) (hQ : Q (.tuple [.str (if st.2 = 0 then st.1 else []), .int .i64 st.2]) G) : ACalls P cursor_Writer_Out.n [.ptr id [] 0] G Q := by
  refine cursor_Writer_Out.sound ?_
  unfold cursor_Writer_Out.S
  have hf := WrP.fault h
  show wv (vload T G t_api_Errno (.ptr id [1] 1)) _
  rw [hf]
  simp -zeta only [wv_some, vbin_neq, brB_ndec]
  refine ⟨fun h0 => ?_, fun h0 => ?_⟩
  · show wv (vload T G t_api_Errno (.ptr id [1] 1)) _
    rw [hf, wv_some]
    simpa [h0] using hQ
  · obtain ⟨s, hl, _, ho, _⟩ := WrP.load h
    show wv (vload T G t_sl_uint8 (.ptr id [0] 0)) _
    rw [hl, wv_some, vconv_bytes T_sl_uint8 rfl T_uint8 rfl T_string rfl ho.is, wv_some]
    simpa [h0] using hQ

end
end Go.Esc.M

/- Own work. Chapter 3: the document's writers. -/
set_option linter.unusedSimpArgs false
set_option linter.unusedVariables false
set_option maxRecDepth 20000
namespace Go.Esc.M
open Go Go.Esc

section
variable {id : AId} {st : List UInt8 × Int} {G : Heap} {F : List AId} {Q : AVal → Heap → Prop}

end
end Go.Esc.M

/- Own work. Chapter 3: the readers. -/
set_option linter.unusedSimpArgs false
set_option linter.unusedVariables false
set_option maxRecDepth 20000
namespace Go.Esc.M
open Go Go.Esc

def Rd (id : AId) (st : List UInt8 × Int) (G : Heap) : Prop := G id = some (.own (.agg [.str st.1, .int .i64 st.2]))

section
variable {id : AId} {st : List UInt8 × Int} {G : Heap} {Q : AVal → Heap → Prop}

theorem Rd.fault (h : Rd id st G) : vload T G t_api_Errno (.ptr id [1] 1) = some (.int .i64 st.2) := vload_fld h rfl rfl rfl T_api_Errno rfl
theorem Rd.rest (h : Rd id st G) : vload T G t_string (.ptr id [0] 0) = some (.str st.1) := vload_fld h rfl rfl rfl T_string rfl

theorem vindex_str {l : List UInt8} {j : Nat} (h : j < l.length) : vindex T t_string (.str l) (.int .i64 j) = some (.int .u8 l[j].toNat) := by
  simp [vindex, T_string, ti_string, h]

end
end Go.Esc.M
