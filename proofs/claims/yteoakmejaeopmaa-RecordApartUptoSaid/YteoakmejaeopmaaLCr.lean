import Derived.Test.YteoakmejaeopmaaLSg
import Derived.Test.YteoakmejaeopmaaLHf
import Derived.Test.YteoakmejaeopmaaEZ
import Derived.Test.YteoakmejaeopmaaSS
/- Own work. Chapter 10: slots; what a shelf is asked. -/
set_option linter.unusedSimpArgs false
set_option linter.unusedVariables false
set_option maxRecDepth 20000
namespace Go.Esc
open Go Go.RowKit
section
variable {T : Tbl} {t e : TypeId} {i ie : TI} (ht : T t = some i) (hd : i.desc = .slice e) (he : T e = some ie)
include ht hd he in
/-- A place of one's own list, written over. -/
theorem own_put {F0 : List AId} {G0 G : Heap} {ps : List LP} {q j : Nat} {v c : AVal} {vs : List AVal} {k : IntKind} {x : Int} (hx : x = (j : Int)) (hs : Sp F0 G0 ps G) (hi : ps[q]? = some (OwnL ie.size v vs)) (hj : j < vs.length) (hc : sz c = ie.size) (ha : c.isAgg = ie.desc.isAgg) (hok : okv c = true) :
    ∃ a, viaddr T t v (.int k x) = some a ∧ ∀ K : Heap → Prop, (∀ G', Sp F0 G0 (ps.set q (OwnL ie.size v (vs.set j c))) G' → K G') → wg (vstore T G e a c) K := by
  subst hx
  have ho := OwnL.own hs hi
  rcases ho with ⟨_, h⟩ | ⟨id, len, cap, cs, rfl, hg, hcap, hl, hu, hv⟩
  · rw [h] at hj
    simp at hj
  · have hlen : vs.length = len := by rw [hv, List.length_take]; omega
    obtain ⟨a, ha, hst⟩ := own_set (cap := cap) (k := k) (c := c) ht hd he hg hu (show j < len by omega) (by omega) hc ha hok
    refine ⟨a, ha, fun K hK => wg_of hst (hK _ ?_)⟩
    refine hs.call hi (OwnL ie.size (.slice id [] 0 0 len cap) (vs.set j c)) fun F h k => ?_
    obtain ⟨_, rfl⟩ := h
    refine k _ _ ⟨.inr ⟨id, len, cap, cs.set j c, rfl, Heap.upd_self _ _ _, by rw [List.length_set]; exact hcap, hl, uni_set hu hc, ?_⟩, rfl⟩ (M.upd_ch hg (by simp))
    rw [hv, List.take_set]
end

end Go.Esc
namespace Go.Esc.M
open Go Go.Esc

structure SlotM where
  index : Int
  secret : List UInt8
  full : Bool
  deriving DecidableEq
def SlotM.cs (s : SlotM) : List AVal := [.int .i64 s.index, .agg (s.secret.map u8v), .bool s.full]
def SlotM.av (s : SlotM) : AVal := .agg s.cs
def SlotM.ok (s : SlotM) : Prop := s.secret.length = 32
def zeroS : SlotM := ⟨0, zero32, false⟩
theorem zeroS_ok : zeroS.ok := rfl
theorem SlotM.sz {s : SlotM} (h : s.ok) : Esc.sz s.av = 34 := by
  have h1 : szs (s.secret.map u8v) = 32 := by rw [szs_uni (n := 1) (uni_u8 _)]; simp [show s.secret.length = 32 from h]
  simp [SlotM.av, SlotM.cs, Esc.sz, szs, h1]
theorem SlotM.fits {s : SlotM} (h : s.ok) : vfits ti_api_Slot s.av = true := by
  have h1 := SlotM.sz h
  have h2 : s.av.isAgg = true := rfl
  simp [vfits, h1, h2, ti_api_Slot, ADesc.isAgg]
theorem SlotM.okv (s : SlotM) : Esc.okv s.av = true := by simp [SlotM.av, SlotM.cs, Esc.okv, okvs, okvs_u8]
theorem uni_slots {l : List SlotM} (h : ∀ s ∈ l, s.ok) : Esc.uni 34 (l.map SlotM.av) = true := by
  simp only [Esc.uni, List.all_map, List.all_eq_true]
  intro s hs
  simp [SlotM.sz (h s hs)]
theorem okvs_slots : ∀ l : List SlotM, okvs (l.map SlotM.av) = true
  | [] => rfl
  | s :: l => by simp [okvs, SlotM.okv, okvs_slots l]
theorem map_slots (l : List SlotM) {j : Nat} {s : SlotM} (h : l[j]? = some s) : (l.map SlotM.av)[j]? = some s.av := by rw [List.getElem?_map, h]; rfl

theorem wt_Slot {G : Heap} {R d : Nat} {v : AVal} {m : Nat} (h : wt T G R (d + 3) t_api_Slot v m) : ∃ s : SlotM, v = s.av ∧ s.ok := by
  obtain ⟨cs, ms, rfl, hf, rfl⟩ := wt_struct T_api_Slot rfl h
  obtain ⟨c1, cs, m1, ms, rfl, rfl, h1, hf⟩ := wfs_cons hf
  obtain ⟨c2, cs, m2, ms, rfl, rfl, h2, hf⟩ := wfs_cons hf
  obtain ⟨c3, cs, m3, ms, rfl, rfl, h3, hf⟩ := wfs_cons hf
  obtain ⟨rfl, rfl⟩ := wfs_nil hf
  obtain ⟨a, rfl, _, _⟩ := wt_int T_int64 rfl h1
  obtain ⟨e, rfl, w, _⟩ := wt_hash T_api_Hash rfl T_uint8 rfl h2
  obtain ⟨b, rfl, _⟩ := wt_bool T_bool rfl h3
  exact ⟨⟨a, e, b⟩, rfl, w⟩
theorem veq_slot {a b : SlotM} (ha : a.ok) (hb : b.ok) : veqD T 9 t_api_Slot a.av b.av = some (decide (a = b)) := by
  obtain ⟨ai, ash, af⟩ := a
  obtain ⟨bi, bsh, bf⟩ := b
  have ha : ash.length = 32 := ha
  have hb : bsh.length = 32 := hb
  have h1 : veqD T 8 t_int64 (.int .i64 ai) (.int .i64 bi) = some (decide (ai = bi)) := by
    rw [veqD]
    simp only [T_int64]
    show (if IntKind.i64 = IntKind.i64 then some (decide (ai = bi)) else none) = _
    rw [if_pos rfl]
  have h2 : veqD T 8 t_api_Hash (.agg (ash.map u8v)) (.agg (bsh.map u8v)) = some (decide (ash = bsh)) := by
    rw [veqD_arr T_api_Hash rfl T_uint8]
    exact eqA_u8 T_uint8 rfl rfl 6 32 _ _ ha hb
  have h3 : veqD T 8 t_bool (.bool af) (.bool bf) = some (af == bf) := by
    rw [veqD]
    simp only [T_bool]
    rfl
  have f1 : ∀ n, vfits ti_int64 (.int .i64 n) = true := fun _ => rfl
  have f2 : ∀ n, vfits ti_bool (.bool n) = true := fun _ => rfl
  rw [veqD]
  simp only [T_api_Slot]
  show eqF T (veqD T 8) [(t_int64, 0), (t_api_Hash, 1), (t_bool, 33)] [.int .i64 ai, .agg (ash.map u8v), .bool af] [.int .i64 bi, .agg (bsh.map u8v), .bool bf] 0 = _
  have o1 : ti_int64.size = 1 := rfl
  have o2 : ti_api_Hash.size = 32 := rfl
  simp only [eqF, T_int64, T_api_Hash, T_bool, h1, h2, h3, f1, f2, fits32 ha, fits32 hb, o1, o2]
  by_cases e1 : ai = bi
  · by_cases e2 : ash = bsh
    · by_cases e3 : af = bf
      · subst e1 e2 e3; simp
      · subst e1 e2
        have : (af == bf) = false := by simp [e3]
        simp [this, e3]
    · simp [e1, e2]
  · simp [e1]
theorem slot_neq {a b : SlotM} (ha : a.ok) (hb : b.ok) : vbin T .neq t_api_Slot a.av b.av = some (.bool (!decide (a = b))) := by
  have := veq_slot ha hb
  unfold SlotM.av at this ⊢
  simp only [vbin, this]

section
variable {F0 : List AId} {G0 G : Heap} {ps : List LP} {v : AVal} {l : List SlotM} {j : Nat} {s : SlotM} {x : Int}
theorem slot_at (h : IsSl 34 G v (l.map SlotM.av)) (hx : x = (j : Int)) (hj : l[j]? = some s) : ∃ a, viaddr T t_sl_api_Slot v (.int .i64 x) = some a ∧ vload T G t_api_Slot a = some s.av := by
  subst hx
  exact h.at_ (k := .i64) T_sl_api_Slot rfl T_api_Slot (map_slots l hj) rfl
theorem slot_full (h : IsSl 34 G v (l.map SlotM.av)) (hx : x = (j : Int)) (hj : l[j]? = some s) (ho : s.ok) : ∃ a b, viaddr T t_sl_api_Slot v (.int .i64 x) = some a ∧ vfaddr T t_api_Slot a 2 = some b ∧ vload T G t_bool b = some (.bool s.full) := by
  subst hx
  have h1 : szs (s.secret.map u8v) = 32 := by rw [szs_uni (n := 1) (uni_u8 _)]; simp [show s.secret.length = 32 from ho]
  exact IsSl.fld (k := .i64) (cs := s.cs) T_sl_api_Slot rfl T_api_Slot (fs := [(t_int64, 0), (t_api_Hash, 1), (t_bool, 33)]) (f := 2) (o := 33) rfl rfl T_bool (by decide) h (map_slots l hj) (by simp [SlotM.cs, szs, Esc.sz, h1]) rfl rfl
theorem slot_index (h : IsSl 34 G v (l.map SlotM.av)) (hx : x = (j : Int)) (hj : l[j]? = some s) : ∃ a b, viaddr T t_sl_api_Slot v (.int .i64 x) = some a ∧ vfaddr T t_api_Slot a 0 = some b ∧ vload T G t_int64 b = some (.int .i64 s.index) := by
  subst hx
  exact IsSl.fld (k := .i64) (cs := s.cs) T_sl_api_Slot rfl T_api_Slot (fs := [(t_int64, 0), (t_api_Hash, 1), (t_bool, 33)]) (f := 0) (o := 0) rfl rfl T_int64 (by decide) h (map_slots l hj) rfl rfl rfl
theorem slot_secret (h : IsSl 34 G v (l.map SlotM.av)) (hx : x = (j : Int)) (hj : l[j]? = some s) (ho : s.ok) : ∃ a b, viaddr T t_sl_api_Slot v (.int .i64 x) = some a ∧ vfaddr T t_api_Slot a 1 = some b ∧ vload T G t_api_Hash b = some (.agg (s.secret.map u8v)) := by
  subst hx
  exact IsSl.fld (k := .i64) (cs := s.cs) T_sl_api_Slot rfl T_api_Slot (fs := [(t_int64, 0), (t_api_Hash, 1), (t_bool, 33)]) (f := 1) (o := 1) rfl rfl T_api_Hash (by decide) h (map_slots l hj) (by simp [SlotM.cs, szs, Esc.sz]) rfl (fits32 ho)
theorem slots_len (h : IsSl 34 G v (l.map SlotM.av)) : vlen T G t_sl_api_Slot v = some (.int .i64 (l.length : Nat)) := by
  rw [h.len (i := ti_sl_api_Slot) T_sl_api_Slot rfl, List.length_map]
theorem slot_put {i : Nat} (hx : x = (j : Int)) (hs : Sp F0 G0 ps G) (hi : ps[i]? = some (OwnL 34 v (l.map SlotM.av))) (hj : j < l.length) (ho : s.ok) :
    ∃ a, viaddr T t_sl_api_Slot v (.int .i64 x) = some a ∧ ∀ K : Heap → Prop, (∀ G', Sp F0 G0 (ps.set i (OwnL 34 v ((l.set j s).map SlotM.av))) G' → K G') → wg (vstore T G t_api_Slot a s.av) K := by
  rw [List.map_set]
  exact own_put (k := .i64) T_sl_api_Slot rfl T_api_Slot hx hs hi (by simpa using hj) (SlotM.sz ho) rfl (SlotM.okv s)
end
theorem build_slot {n : Int} {h : List UInt8} (hl : h.length = 32) (b : Bool) : vbuild T t_api_Slot [(0, .int .i64 n), (1, .agg (h.map u8v)), (2, .bool b)] = some (SlotM.av ⟨n, h, b⟩) := by
  refine (build_struct (zs := zeroS.cs) T_api_Slot rfl rfl rfl (plOk_of (by decide +kernel)) ?_).trans rfl
  intro p hp
  simp only [List.mem_cons, List.not_mem_nil, or_false] at hp
  have e1 : szs (h.map u8v) = 32 := by rw [szs_uni (n := 1) (uni_u8 _)]; simp [hl]
  have e2 : szs (zero32.map u8v) = 32 := by rw [szs_uni (n := 1) (uni_u8 _)]; rfl
  rcases hp with rfl | rfl | rfl
  · rfl
  · simp [zeroS, SlotM.cs, Esc.sz, e1, e2]
  · simp [zeroS, SlotM.cs, Esc.sz]
theorem build_index (n : Int) : vbuild T t_api_Slot [(0, .int .i64 n)] = some (SlotM.av ⟨n, zero32, false⟩) := by
  refine (build_struct (zs := zeroS.cs) T_api_Slot rfl rfl rfl (plOk_of (by decide +kernel)) ?_).trans rfl
  intro p hp
  simp only [List.mem_cons, List.not_mem_nil, or_false] at hp
  subst hp
  simp [zeroS, SlotM.cs, Esc.sz]
/-! ### What is asked -/
def atS (l : List SlotM) (j : Nat) : SlotM := if (l.getD j zeroS).full = true then l.getD j zeroS else zeroS
def badS (secret : List UInt8) (n : Int) (s : SlotM) : Bool := s.full && !decide (deriveS secret n s.index = (s.secret, 0))
def okputS (l : List SlotM) (n : Int) (secret : List UInt8) : Bool := (List.range (level (pl n))).all fun j => !badS secret n (atS l j)
def laidS (l : List SlotM) (n : Int) (secret : List UInt8) : List SlotM := (List.range 49).map fun j => if j = level (pl n) then ⟨n, secret, true⟩ else atS l j
def putS (l : List SlotM) (n : Int) (secret : List UInt8) : List SlotM × Int :=
  if 49 < l.length then ([], 1) else if okN n = true then (if okputS l n secret = true then (laidS l n secret, 0) else ([], 100)) else ([], 90)
theorem atS_some {l : List SlotM} {j : Nat} {s : SlotM} (h : l[j]? = some s) : atS l j = if s.full = true then s else zeroS := by
  unfold atS
  rw [List.getD_eq_getElem?_getD, h]
  rfl
theorem atS_none {l : List SlotM} {j : Nat} (h : l.length ≤ j) : atS l j = zeroS := by
  unfold atS
  rw [List.getD_eq_getElem?_getD, List.getElem?_eq_none h]
  rfl
theorem okputS_iff {l : List SlotM} {n : Int} {secret : List UInt8} : okputS l n secret = true ↔ ∀ j, j < level (pl n) → badS secret n (atS l j) = false := by
  unfold okputS
  rw [List.all_eq_true]
  constructor
  · intro h j hj
    have := h j (List.mem_range.2 hj)
    simpa using this
  · intro h j hj
    have := h j (List.mem_range.1 hj)
    simp [this]
end Go.Esc.M

/- Own work. Chapter 10: the program's shelf. -/
set_option linter.unusedSimpArgs false
set_option linter.unusedVariables false
set_option maxRecDepth 20000
namespace Go.Esc.M
open Go Go.Esc

theorem set_range {f : Nat → SlotM} {j : Nat} {x : SlotM} : ((List.range 49).map f).set j x = (List.range 49).map fun q => if q = j then x else f q := by
  refine List.ext_getElem? fun i => ?_
  rw [List.getElem?_map]
  by_cases hi : i < 49
  · rw [List.getElem?_range hi, Option.map_some]
    by_cases hij : i = j
    · subst hij
      rw [List.getElem?_set_self (by simpa using hi), if_pos rfl]
    · rw [List.getElem?_set_ne (fun h => hij h.symm), List.getElem?_map, List.getElem?_range hi, Option.map_some, if_neg hij]
  · rw [List.getElem?_eq_none (by simp; omega), List.getElem?_eq_none (by simp; omega)]
    rfl
theorem level_ok' (a : Int) : (levelS a).2 = if okN a = true then 0 else 90 := by
  unfold levelS
  cases okN a <;> rfl

section
variable {F0 : List AId} {G0 G : Heap} {ps : List LP} {Q : AVal → Heap → Prop}

/-- What is laid out by and by. -/
def partS (l : List SlotM) (j : Nat) : List SlotM := (List.range 49).map fun q => if q < j then atS l q else zeroS
theorem partS_len (l : List SlotM) (j : Nat) : (partS l j).length = 49 := by simp [partS]
theorem partS_zero (l : List SlotM) : partS l 0 = List.replicate 49 zeroS := by
  unfold partS
  refine List.ext_getElem? fun i => ?_
  by_cases hi : i < 49
  · rw [List.getElem?_map, List.getElem?_range hi, List.getElem?_replicate_of_lt hi]
    rfl
  · rw [List.getElem?_eq_none (by simp; omega), List.getElem?_eq_none (by simp; omega)]
theorem partS_next (l : List SlotM) (j : Nat) : (partS l j).set j (atS l j) = partS l (j + 1) := by
  unfold partS
  rw [set_range]
  refine List.map_congr_left fun q _ => ?_
  by_cases h1 : q = j
  · subst h1; rw [if_pos rfl, if_pos (by omega)]
  · rw [if_neg h1]
    by_cases h2 : q < j
    · rw [if_pos h2, if_pos (by omega)]
    · rw [if_neg h2, if_neg (by omega)]
theorem partS_skip {l : List SlotM} {j : Nat} (h : atS l j = zeroS) : partS l j = partS l (j + 1) := by
  unfold partS
  refine List.map_congr_left fun q _ => ?_
  by_cases h1 : q = j
  · subst h1; rw [if_neg (by omega), if_pos (by omega), h]
  · by_cases h2 : q < j
    · rw [if_pos h2, if_pos (by omega)]
    · rw [if_neg h2, if_neg (by omega)]
theorem partS_all (l : List SlotM) (n : Int) (secret : List UInt8) : (partS l l.length).set (level (pl n)) ⟨n, secret, true⟩ = laidS l n secret := by
  unfold partS laidS
  rw [set_range]
  refine List.map_congr_left fun q _ => ?_
  by_cases h1 : q = level (pl n)
  · rw [if_pos h1, if_pos h1]
  · rw [if_neg h1, if_neg h1]
    by_cases h2 : q < l.length
    · rw [if_pos h2]
    · rw [if_neg h2, atS_none (by omega)]

set_option maxHeartbeats 2000000 in
theorem shelf_Put.use {v : AVal} {l : List SlotM} {n : Int} {secret : List UInt8} (hT : Tab G) (hl : IsSl 34 G v (l.map SlotM.av)) (hok : ∀ s ∈ l, s.ok) (hlen : l.length * 48 ≤ 140737488351232) (hs : secret.length = 32)
    (hQ : ∀ w G', Sp [] G [OwnL 34 w ((putS l n secret).1.map SlotM.av)] G' → Q (.tuple [w, .int .i64 (putS l n secret).2]) G') : ACalls P shelf_Put.n [v, .int .i64 n, .agg (secret.map u8v)] G Q := by
  refine shelf_Put.sound ?_
  unfold shelf_Put.S
  intro i1 f1
  have s1 := (Sp.nil G).row f1 (.agg (secret.map u8v))
  refine wv_of (slots_len (hl.ch' s1.ch)) ?_
  unfold putS at hQ
  rw [vbin_gtr, wv_some, brB_dec]
  refine ⟨fun h => ?_, fun h => ?_⟩
  · rw [if_pos (by omega)] at hQ
    exact hQ _ _ ((s1.nilL 34).erase 1)
  rw [if_neg (by omega)] at hQ
  refine seed_Level.use (hT.mono s1.ro) ?_
  refine wv_of (ii0 _) ?_
  refine wv_of (ii1 _) ?_
  cases hn : okN n with
  | false =>
    rw [hn, if_neg (by simp)] at hQ
    have : (levelS n).2 = 90 := by rw [level_ok', hn]; rfl
    rw [this]
    refine wv_of (v := .bool true) rfl ?_
    rw [brB_true]
    exact hQ _ _ ((s1.nilL 34).erase 1)
  | true =>
    rw [hn, if_pos rfl] at hQ
    rw [level_ok hn, nz0, wv_some, brB_false]
    have hlv := level_le (pl n)
    obtain ⟨lv, hlve⟩ : ∃ k, k = level (pl n) := ⟨_, rfl⟩
    refine mkOwn (n := 49) T_sl_api_Slot rfl T_api_Slot (SlotM.sz zeroS_ok) rfl rfl (by decide) (by decide) s1 fun w G11 s11 => ?_
    have s11 : Sp [] G [OwnL 34 w (List.replicate 49 zeroS.av), RowL i1 (.agg (secret.map u8v))] G11 := s11
    have e0 : List.replicate 49 zeroS.av = (partS l 0).map SlotM.av := by rw [partS_zero, List.map_replicate]
    rw [e0] at s11
    refine wv_of (slots_len (hl.ch' s11.ch)) ?_
    intro R hR
    have loop : ∀ (m j : Nat) (G' : Heap), l.length - j = m → j ≤ l.length → (∀ q, q < j → q < level (pl n) → badS secret n (atS l q) = false) → Sp [] G [OwnL 34 w ((partS l j).map SlotM.av), RowL i1 (.agg (secret.map u8v))] G' →
        R [v, .int .i64 n, .ptr i1 [] 0, .int .i64 ((level (pl n) : Nat) : Int), w, .int .i64 (l.length : Int), .int .i64 (j : Int)] G' := by
      intro m
      induction m with
      | zero =>
        intro j G' hm hj hb sp
        have hjl : j = l.length := by omega
        subst hjl
        have hall : okputS l n secret = true := by
          rw [okputS_iff]
          intro q hq
          by_cases hql : q < l.length
          · exact hb q hql hq
          · rw [atS_none (by omega)]
            rfl
        rw [hall, if_pos rfl] at hQ
        refine hR _ _ _ _ _ _ _ _ ?_
        rw [vbin_lss, wv_some, decide_eq_false (by omega), brB_false]
        refine wv_of (load_hash hs (RowL.own (i := 1) sp rfl)) ?_
        refine wv_of (build_slot hs true) ?_
        obtain ⟨a, e1, e2⟩ := slot_put (i := 0) (j := level (pl n)) (s := ⟨n, secret, true⟩) (x := ((level (pl n) : Nat) : Int)) rfl sp rfl (by rw [partS_len]; omega) hs
        refine wv_of e1 ?_
        refine e2 _ fun G59 s59 => ?_
        rw [partS_all] at s59
        exact hQ _ _ (s59.erase 1)
      | succ m ih =>
        intro j G' hm hj hb sp
        obtain ⟨s, hsj⟩ : ∃ s, l[j]? = some s := ⟨_, List.getElem?_eq_getElem (by omega)⟩
        have hso := hok s (List.mem_of_getElem? hsj)
        have hat := atS_some hsj
        refine hR _ _ _ _ _ _ _ _ ?_
        rw [vbin_lss, wv_some, decide_eq_true (by omega), brB_true]
        obtain ⟨a, b, e1, e2, e3⟩ := slot_full (hl.ch' sp.ch) rfl hsj hso
        refine wv_of e1 ?_
        refine wv_of e2 ?_
        refine wv_of e3 ?_
        rw [vun_not, wv_some]
        have ev : vbin T .add t_int (.int .i64 (j : Int)) (.int .i64 1) = some (.int .i64 ((j + 1 : Nat) : Int)) := by
          rw [vbin_add, i64_in (by omega) (by omega)]
          rfl
        cases hf : s.full with
        | false =>
          rw [Bool.not_false, brB_true]
          rw [hf, if_neg (by simp)] at hat
          refine wv_of ev ?_
          rw [partS_skip hat] at sp
          refine ih (j + 1) G' (by omega) (by omega) (fun q hq hq2 => ?_) sp
          by_cases hqj : q = j
          · subst hqj; rw [hat]; rfl
          · exact hb q (by omega) hq2
        | true =>
          rw [Bool.not_true, brB_false]
          rw [hf, if_pos rfl] at hat
          obtain ⟨a, e1, e2⟩ := slot_at (hl.ch' sp.ch) rfl hsj
          refine wv_of e1 ?_
          refine wv_of e2 ?_
          obtain ⟨a, e1, e2⟩ := slot_put (i := 0) (j := j) (s := s) (x := (j : Int)) rfl sp rfl (by rw [partS_len]; omega) hso
          refine wv_of e1 ?_
          refine e2 _ fun G30 s30 => ?_
          have s30 : Sp [] G [OwnL 34 w (((partS l j).set j s).map SlotM.av), RowL i1 (.agg (secret.map u8v))] G30 := s30
          rw [← hat, partS_next, ] at s30
          rw [vbin_geq, wv_some, brB_dec]
          refine ⟨fun hge => ?_, fun hlt => ?_⟩
          · refine wv_of ev ?_
            refine ih (j + 1) G30 (by omega) (by omega) (fun q hq hq2 => ?_) s30
            exact hb q (by omega) hq2
          · refine wv_of (load_hash hs (RowL.own (i := 1) s30 rfl)) ?_
            obtain ⟨a, b, e1, e2, e3⟩ := slot_index (hl.ch' s30.ch) rfl hsj
            refine wv_of e1 ?_
            refine wv_of e2 ?_
            refine wv_of e3 ?_
            refine seed_Derive.use (hT.mono s30.ro) hs fun G37 c37 => ?_
            have s37 := s30.tmp c37
            refine wv_of (hi0 _) ?_
            refine wv_of (hi1 _) ?_
            have hdl := len_derive hs n s.index
            have hbadj : badS secret n (atS l j) = !decide (deriveS secret n s.index = (s.secret, 0)) := by rw [hat]; unfold badS; rw [hf, Bool.true_and]
            refine newH s37 hdl fun i40 G42 s42 => ?_
            have fail : badS secret n (atS l j) = true → Q (.tuple [.nilSlice, .int .i64 100]) G42 := by
              intro hbad
              have : okputS l n secret = false := by
                refine Bool.eq_false_iff.2 fun h => ?_
                rw [okputS_iff] at h
                rw [h j (by omega)] at hbad
                cases hbad
              rw [this, if_neg (by simp)] at hQ
              exact hQ _ _ ((((s42.nilL 34).erase 1).erase 1).erase 1)
            rw [vbin_neq, wv_some]
            by_cases hz : (deriveS secret n s.index).2 = 0
            · rw [decide_eq_true hz, Bool.not_true, brB_false]
              refine wv_of (load_hash hdl (RowL.own (i := 0) s42 rfl)) ?_
              obtain ⟨a, b, e1, e2, e3⟩ := slot_secret (hl.ch' s42.ch) rfl hsj hso
              refine wv_of e1 ?_
              refine wv_of e2 ?_
              refine wv_of e3 ?_
              refine wv_of (hash_neq2 hdl hso) ?_
              by_cases hd : (deriveS secret n s.index).1 = s.secret
              · rw [decide_eq_true hd, Bool.not_true, brB_false]
                refine wv_of ev ?_
                refine ih (j + 1) G42 (by omega) (by omega) (fun q hq hq2 => ?_) (s42.erase 0)
                by_cases hqj : q = j
                · subst hqj
                  rw [hbadj, decide_eq_true (Prod.ext hd hz)]
                  rfl
                · exact hb q (by omega) hq2
              · rw [decide_eq_false hd, Bool.not_false, brB_true]
                refine fail ?_
                rw [hbadj, decide_eq_false fun h => hd (by rw [h])]
                rfl
            · rw [decide_eq_false hz, Bool.not_false, brB_true]
              refine fail ?_
              rw [hbadj, decide_eq_false fun h => hz (by rw [h])]
              rfl
    exact loop l.length 0 G11 rfl (by omega) (fun q hq => by omega) s11

end

end Go.Esc.M

/- Own work. Chapter 11: seals. -/
set_option linter.unusedSimpArgs false
set_option linter.unusedVariables false
set_option maxRecDepth 20000
namespace Go.Esc.M
open Go Go.Esc

section
variable {F0 : List AId} {G0 G : Heap} {ps : List LP} {Q : AVal → Heap → Prop}

end
end Go.Esc.M

/- Own work. Chapter 3: the writers. -/
set_option linter.unusedSimpArgs false
set_option linter.unusedVariables false
set_option maxRecDepth 20000
namespace Go.Esc.M
open Go Go.Esc

/-- A number's bytes, the greatest first. -/
def be : Nat → Nat → List UInt8
  | 0, _ => []
  | k + 1, v => UInt8.ofNat (v / 2 ^ (8 * k)) :: be k v

theorem length_be (v : Nat) : ∀ k, (be k v).length = k
  | 0 => rfl
  | k + 1 => by simp [be, length_be v k]

theorem shr_byte (v i : Nat) (hi : i ≤ 7) : IntKind.u8.wrap ((v : Int).fdiv (2 ^ min ((8 : Int) * (i : Int)).toNat IntKind.u64.bits)) = ((v / 2 ^ (8 * i) % 256 : Nat) : Int) := by
  have h1 : min ((8 : Int) * (i : Int)).toNat IntKind.u64.bits = 8 * i := by
    have : IntKind.u64.bits = 64 := rfl
    omega
  rw [h1, IntKind.wrap_u8]
  have h2 : ((2 : Int) ^ (8 * i)) = ((2 ^ (8 * i) : Nat) : Int) := by simp
  rw [h2, Int.fdiv_eq_ediv_of_nonneg _ (Int.natCast_nonneg _)]
  simp

/-- What a writer holds behind more bytes: nothing more once it is broken. -/
def laid (st : List UInt8 × Int) (xs : List UInt8) : List UInt8 × Int := if st.2 = 0 then (st.1 ++ xs, 0) else st

def Wr (id : AId) (st : List UInt8 × Int) (G : Heap) (F : List AId) : Prop := WrP id st.1 st.2 G F

theorem WrP.fault {id : AId} {bs : List UInt8} {f : Int} {G : Heap} {F : List AId} (h : WrP id bs f G F) : vload T G t_api_Errno (.ptr id [1] 1) = some (.int .i64 f) := by
  obtain ⟨s, hg, ho, _⟩ := h
  exact vload_fld hg rfl (by simp [szs, ho.leaf.1]) rfl T_api_Errno rfl

theorem WrP.load {id : AId} {bs : List UInt8} {f : Int} {G : Heap} {F : List AId} (h : WrP id bs f G F) :
    ∃ s, vload T G t_sl_uint8 (.ptr id [0] 0) = some s ∧ G id = some (.own (.agg [s, .int .i64 f])) ∧ Own 1 G s (bs.map u8v) ∧ rowOf s ≠ some id ∧ F = id :: (rowOf s).toList := by
  obtain ⟨s, hg, ho, hne, hF⟩ := h
  exact ⟨s, vload_fld hg rfl rfl rfl T_sl_uint8 (by simp [vfits, ho.leaf.1, ho.leaf.2.1, ti_sl_uint8, ADesc.isAgg]), hg, ho, hne, hF⟩

theorem lay_step {id : AId} {bs : List UInt8} {f : Int} {G : Heap} {F : List AId} (h : WrP id bs f G F) (hb : bs.length + 1 ≤ 140737488355328) :
    ∃ s, vload T G t_sl_uint8 (.ptr id [0] 0) = some s ∧ ∀ (b : UInt8) (K : Heap → Prop), (∀ F' G', WrP id (bs ++ [b]) f G' F' → Ch F G F' G' → K G') →
      aBuildSlice T t_sl_uint8 1 [(0, u8v b)] G fun v G1 => aAppend T G1 t_sl_uint8 t_sl_uint8 s v fun v2 G2 => wg (vstore T G2 t_sl_uint8 (.ptr id [0] 0) v2) K := by
  obtain ⟨s, hl, hg, ho, hne, rfl⟩ := WrP.load h
  refine ⟨s, hl, fun b K hK => ?_⟩
  refine append1 (T := T) (ts := t_sl_uint8) (e := t_uint8) (si := ti_sl_uint8) (ie := ti_uint8) T_sl_uint8 rfl T_uint8 rfl (by decide) ho rfl rfl (by decide) ?_ fun s' G2 ho2 hk => ?_
  · simp only [List.length_map, ti_uint8]
    omega
  · obtain ⟨G', hst, hw, hch⟩ := WrP.put (T := T) (tb := t_sl_uint8) (ib := ti_sl_uint8) T_sl_uint8 (.inr rfl) rfl (bs' := bs ++ [b]) hg hne ho.leaf.1 (by rw [List.map_append]; exact ho2) hk
    rw [hst, wg_some]
    exact hK _ _ hw hch

theorem raw_step {id : AId} {bs xs : List UInt8} {f : Int} {G : Heap} {F : List AId} (h : WrP id bs f G F) (hb : bs.length + xs.length ≤ 140737488355328) :
    ∃ s, vload T G t_sl_uint8 (.ptr id [0] 0) = some s ∧ ∀ (K : Heap → Prop), (∀ F' G', WrP id (bs ++ xs) f G' F' → Ch F G F' G' → K G') →
      aAppend T G t_sl_uint8 t_string s (.str xs) fun v2 G2 => wg (vstore T G2 t_sl_uint8 (.ptr id [0] 0) v2) K := by
  obtain ⟨s, hl, hg, ho, hne, rfl⟩ := WrP.load h
  refine ⟨s, hl, fun K hK => ?_⟩
  refine own_append (T := T) (e := t_uint8) (si := ti_sl_uint8) (ie := ti_uint8) (vs := xs.map u8v) T_sl_uint8 rfl T_uint8 rfl (by decide) T_string (.inl rfl) ho (by simp [selems, ti_uint8, u8v, Function.comp_def]) (uni_u8 _) (okvs_u8 _) ?_ fun s' G2 ho2 hk => ?_
  · simp only [List.length_map, ti_uint8]
    omega
  · obtain ⟨G', hst, hw, hch⟩ := WrP.put (T := T) (tb := t_sl_uint8) (ib := ti_sl_uint8) T_sl_uint8 (.inr rfl) rfl (bs' := bs ++ xs) hg hne ho.leaf.1 (by rw [List.map_append]; exact ho2) hk
    rw [hst, wg_some]
    exact hK _ _ hw hch

theorem cursor_New.use {G : Heap} {Q : AVal → Heap → Prop} (h : ∀ id G', Wr id ([], 0) G' [id] → Ch [] G [id] G' → Q (.ptr id [] 0) G') : ACalls P cursor_New.n [] G Q := by
  refine cursor_New.sound ?_
  unfold cursor_New.S
  intro id hf
  exact h _ _ ⟨.nilSlice, Heap.upd_self _ _ _, .inl ⟨rfl, rfl⟩, by simp [rowOf], rfl⟩ (Ch.new hf)

theorem cursor_lay_uint8.use {id : AId} {st : List UInt8 × Int} {v k : Nat} {G : Heap} {F : List AId} {Q : AVal → Heap → Prop} (hv : v < 2 ^ 8) (hk : k ≤ 8) (h : Wr id st G F) (hb : st.1.length + k ≤ 140737488355328)
    (hQ : ∀ F' G', Wr id (laid st (be k v)) G' F' → Ch F G F' G' → Q (.tuple []) G') : ACalls P cursor_lay_uint8.n [.ptr id [] 0, .int .u8 v, .int .i64 k] G Q := by
  refine cursor_lay_uint8.sound ?_
  unfold cursor_lay_uint8.S
  obtain ⟨bs, f⟩ := st
  have hf := WrP.fault h
  show wv (vload T G t_api_Errno (.ptr id [1] 1)) _
  rw [hf]
  simp -zeta only [wv_some, vbin_neq, brB_ndec, vbin_sub]
  refine ⟨fun h0 => ?_, fun h0 => ?_⟩
  · refine hQ F G ?_ (Ch.refl _ _)
    simpa [laid, h0, Wr] using h
  · subst h0
    intro R hR
    rw [i64_in (by omega) (by omega)]
    have hb : bs.length + k ≤ 140737488355328 := hb
    have loop : ∀ (i : Nat) (bs' : List UInt8) (F' : List AId) (G' : Heap), i ≤ k → bs'.length + i ≤ 140737488355328 → WrP id bs' 0 G' F' → Ch F G F' G' → bs ++ be k v = bs' ++ be i v →
        R [.ptr id [] 0, .int .u8 v, .int .i64 ((i : Int) - 1)] G' := by
      intro i
      induction i with
      | zero =>
        intro bs' F' G' _ _ hw hch he
        refine hR _ _ _ _ ?_
        simp -zeta only [vbin_geq, wv_some, brB_dec]
        refine ⟨fun h => absurd h (by omega), fun _ => hQ F' G' ?_ hch⟩
        simp only [be, List.append_nil] at he
        simp only [laid, if_true, Wr, he]
        exact hw
      | succ i ih =>
        intro bs' F' G' hi hb' hw hch he
        refine hR _ _ _ _ ?_
        have ei : ((i + 1 : Nat) : Int) - 1 = (i : Int) := by omega
        rw [ei]
        simp -zeta only [vbin_geq, wv_some, brB_dec]
        refine ⟨fun _ => ?_, fun h => absurd (by omega) h⟩
        obtain ⟨s, hl, hstep⟩ := lay_step hw (by omega)
        show wv (vload T G' t_sl_uint8 (.ptr id [0] 0)) _
        rw [hl, wv_some]
        rw [vconv_int T_uint8 T_uint64 rfl, wv_some, u64_in (by omega) (by omega)]
        rw [vbin_mul, wv_some, i64_in (by omega) (by omega), vbin_shr _ _ _ _ _ _ (by omega), wv_some, vconv_int T_uint64 T_uint8 rfl, wv_some, shr_byte v i (by omega), ← u8v_ofNat]
        refine hstep _ _ fun F2 G2 hw2 hch2 => ?_
        show wv (vbin T .sub t_int (.int .i64 i) (.int .i64 1)) _
        simp -zeta only [vbin_sub, wv_some]
        rw [i64_in (by omega) (by omega)]
        refine ih _ F2 G2 (by omega) (by simp; omega) hw2 (hch.trans hch2) ?_
        rw [he, be]
        simp
    exact loop k bs F G (Nat.le_refl _) (by omega) h (Ch.refl _ _) rfl

theorem cursor_lay_uint16.use {id : AId} {st : List UInt8 × Int} {v k : Nat} {G : Heap} {F : List AId} {Q : AVal → Heap → Prop} (hv : v < 2 ^ 16) (hk : k ≤ 8) (h : Wr id st G F) (hb : st.1.length + k ≤ 140737488355328)
    (hQ : ∀ F' G', Wr id (laid st (be k v)) G' F' → Ch F G F' G' → Q (.tuple []) G') : ACalls P cursor_lay_uint16.n [.ptr id [] 0, .int .u16 v, .int .i64 k] G Q := by
  refine cursor_lay_uint16.sound ?_
  unfold cursor_lay_uint16.S
  obtain ⟨bs, f⟩ := st
  have hf := WrP.fault h
  show wv (vload T G t_api_Errno (.ptr id [1] 1)) _
  rw [hf]
  simp -zeta only [wv_some, vbin_neq, brB_ndec, vbin_sub]
  refine ⟨fun h0 => ?_, fun h0 => ?_⟩
  · refine hQ F G ?_ (Ch.refl _ _)
    simpa [laid, h0, Wr] using h
  · subst h0
    intro R hR
    rw [i64_in (by omega) (by omega)]
    have hb : bs.length + k ≤ 140737488355328 := hb
    have loop : ∀ (i : Nat) (bs' : List UInt8) (F' : List AId) (G' : Heap), i ≤ k → bs'.length + i ≤ 140737488355328 → WrP id bs' 0 G' F' → Ch F G F' G' → bs ++ be k v = bs' ++ be i v →
        R [.ptr id [] 0, .int .u16 v, .int .i64 ((i : Int) - 1)] G' := by
      intro i
      induction i with
      | zero =>
        intro bs' F' G' _ _ hw hch he
        refine hR _ _ _ _ ?_
        simp -zeta only [vbin_geq, wv_some, brB_dec]
        refine ⟨fun h => absurd h (by omega), fun _ => hQ F' G' ?_ hch⟩
        simp only [be, List.append_nil] at he
        simp only [laid, if_true, Wr, he]
        exact hw
      | succ i ih =>
        intro bs' F' G' hi hb' hw hch he
        refine hR _ _ _ _ ?_
        have ei : ((i + 1 : Nat) : Int) - 1 = (i : Int) := by omega
        rw [ei]
        simp -zeta only [vbin_geq, wv_some, brB_dec]
        refine ⟨fun _ => ?_, fun h => absurd (by omega) h⟩
        obtain ⟨s, hl, hstep⟩ := lay_step hw (by omega)
        show wv (vload T G' t_sl_uint8 (.ptr id [0] 0)) _
        rw [hl, wv_some]
        rw [vconv_int T_uint16 T_uint64 rfl, wv_some, u64_in (by omega) (by omega)]
        rw [vbin_mul, wv_some, i64_in (by omega) (by omega), vbin_shr _ _ _ _ _ _ (by omega), wv_some, vconv_int T_uint64 T_uint8 rfl, wv_some, shr_byte v i (by omega), ← u8v_ofNat]
        refine hstep _ _ fun F2 G2 hw2 hch2 => ?_
        show wv (vbin T .sub t_int (.int .i64 i) (.int .i64 1)) _
        simp -zeta only [vbin_sub, wv_some]
        rw [i64_in (by omega) (by omega)]
        refine ih _ F2 G2 (by omega) (by simp; omega) hw2 (hch.trans hch2) ?_
        rw [he, be]
        simp
    exact loop k bs F G (Nat.le_refl _) (by omega) h (Ch.refl _ _) rfl

theorem cursor_lay_uint64.use {id : AId} {st : List UInt8 × Int} {v k : Nat} {G : Heap} {F : List AId} {Q : AVal → Heap → Prop} (hv : v < 2 ^ 64) (hk : k ≤ 8) (h : Wr id st G F) (hb : st.1.length + k ≤ 140737488355328)
    (hQ : ∀ F' G', Wr id (laid st (be k v)) G' F' → Ch F G F' G' → Q (.tuple []) G') : ACalls P cursor_lay_uint64.n [.ptr id [] 0, .int .u64 v, .int .i64 k] G Q := by
  refine cursor_lay_uint64.sound ?_
  unfold cursor_lay_uint64.S
  obtain ⟨bs, f⟩ := st
  have hf := WrP.fault h
  show wv (vload T G t_api_Errno (.ptr id [1] 1)) _
  rw [hf]
  simp -zeta only [wv_some, vbin_neq, brB_ndec, vbin_sub]
  refine ⟨fun h0 => ?_, fun h0 => ?_⟩
  · refine hQ F G ?_ (Ch.refl _ _)
    simpa [laid, h0, Wr] using h
  · subst h0
    intro R hR
    rw [i64_in (by omega) (by omega)]
    have hb : bs.length + k ≤ 140737488355328 := hb
    have loop : ∀ (i : Nat) (bs' : List UInt8) (F' : List AId) (G' : Heap), i ≤ k → bs'.length + i ≤ 140737488355328 → WrP id bs' 0 G' F' → Ch F G F' G' → bs ++ be k v = bs' ++ be i v →
        R [.ptr id [] 0, .int .u64 v, .int .i64 ((i : Int) - 1)] G' := by
      intro i
      induction i with
      | zero =>
        intro bs' F' G' _ _ hw hch he
        refine hR _ _ _ _ ?_
        simp -zeta only [vbin_geq, wv_some, brB_dec]
        refine ⟨fun h => absurd h (by omega), fun _ => hQ F' G' ?_ hch⟩
        simp only [be, List.append_nil] at he
        simp only [laid, if_true, Wr, he]
        exact hw
      | succ i ih =>
        intro bs' F' G' hi hb' hw hch he
        refine hR _ _ _ _ ?_
        have ei : ((i + 1 : Nat) : Int) - 1 = (i : Int) := by omega
        rw [ei]
        simp -zeta only [vbin_geq, wv_some, brB_dec]
        refine ⟨fun _ => ?_, fun h => absurd (by omega) h⟩
        obtain ⟨s, hl, hstep⟩ := lay_step hw (by omega)
        show wv (vload T G' t_sl_uint8 (.ptr id [0] 0)) _
        rw [hl, wv_some]
        rw [vbin_mul, wv_some, i64_in (by omega) (by omega), vbin_shr _ _ _ _ _ _ (by omega), wv_some, vconv_int T_uint64 T_uint8 rfl, wv_some, shr_byte v i (by omega), ← u8v_ofNat]
        refine hstep _ _ fun F2 G2 hw2 hch2 => ?_
        show wv (vbin T .sub t_int (.int .i64 i) (.int .i64 1)) _
        simp -zeta only [vbin_sub, wv_some]
        rw [i64_in (by omega) (by omega)]
        refine ih _ F2 G2 (by omega) (by simp; omega) hw2 (hch.trans hch2) ?_
        rw [he, be]
        simp
    exact loop k bs F G (Nat.le_refl _) (by omega) h (Ch.refl _ _) rfl


theorem cursor_Writer_Raw.use {id : AId} {st : List UInt8 × Int} {xs : List UInt8} {G : Heap} {F : List AId} {Q : AVal → Heap → Prop} (h : Wr id st G F) (hb : st.1.length + xs.length ≤ 140737488355328)
    (hQ : ∀ F' G', Wr id (laid st xs) G' F' → Ch F G F' G' → Q (.tuple []) G') : ACalls P cursor_Writer_Raw.n [.ptr id [] 0, .str xs] G Q := by
  refine cursor_Writer_Raw.sound ?_
  unfold cursor_Writer_Raw.S
  obtain ⟨bs, f⟩ := st
  have hf := WrP.fault h
  show wv (vload T G t_api_Errno (.ptr id [1] 1)) _
  rw [hf]
  simp -zeta only [wv_some, vbin_eql, brB_dec]
  refine ⟨fun h0 => ?_, fun h0 => ?_⟩
  · obtain ⟨s, hl, hstep⟩ := raw_step h hb
    show wv (vload T G t_sl_uint8 (.ptr id [0] 0)) _
    rw [hl, wv_some]
    refine hstep _ fun F' G' hw hch => hQ F' G' ?_ hch
    simpa [laid, h0, Wr] using hw
  · refine hQ F G ?_ (Ch.refl _ _)
    simpa [laid, h0, Wr] using h

end Go.Esc.M

/- Own work. Chapter 3: the writers, all of their functions. -/
set_option linter.unusedSimpArgs false
set_option linter.unusedVariables false
set_option maxRecDepth 20000
namespace Go.Esc.M
open Go Go.Esc

theorem vconv_bytes {T : Tbl} {G : Heap} {s d e : TypeId} {si di ie : TI} {v : AVal} {l : List UInt8} (hs : T s = some si) (hsd : si.desc = .slice e) (he : T e = some ie) (hed : ie.desc = .int .u8) (hd : T d = some di) (hdd : di.desc = .string)
    (h : IsSl 1 G v (l.map u8v)) : vconv T G s d v = some (.str l) := by
  rcases h with ⟨id, p, st, off, len, cap, rfl, h⟩ | ⟨rfl, hl⟩
  · simp [vconv, hs, hd, hdd, hsd, he, hed, h, bytesOf_u8]
  · have : l = [] := by simpa using hl
    subst this
    simp [vconv, hs, hd, hdd, hsd, he, hed]

theorem Wr.ch {id : AId} {st : List UInt8 × Int} {G G' : Heap} {F E E' : List AId} (h : Wr id st G F) (hc : Ch E G E' G') (hd : ∀ j ∈ F, j ∉ E) : Wr id st G' F := WrP.frame h (hc.same (WrP.rows h) hd)

theorem laid_append (st : List UInt8 × Int) (xs ys : List UInt8) : laid (laid st xs) ys = laid st (xs ++ ys) := by
  unfold laid
  by_cases h : st.2 = 0 <;> simp [h]
theorem length_laid (st : List UInt8 × Int) (xs : List UInt8) : (laid st xs).1.length ≤ st.1.length + xs.length := by
  unfold laid
  by_cases h : st.2 = 0 <;> simp [h]

/-- A text of a writer's: its length in two bytes and itself, or the fault. -/
def laidText (st : List UInt8 × Int) (xs : List UInt8) : List UInt8 × Int := if st.2 = 0 ∧ 65535 < xs.length then (st.1, 3) else laid st (be 2 xs.length ++ xs)

theorem WrP.setFault {id : AId} {bs : List UInt8} {f g : Int} {G : Heap} {F : List AId} (h : WrP id bs f G F) : ∃ G', vstore T G t_api_Errno (.ptr id [1] 1) (.int .i64 g) = some G' ∧ WrP id bs g G' F ∧ Ch F G F G' := by
  obtain ⟨s, hg, ho, hne, rfl⟩ := h
  refine ⟨_, vstore_fld hg (by simp [szs, ho.leaf.1]) rfl T_api_Errno rfl rfl rfl, ⟨s, Heap.upd_self _ _ _, ho.upd hne, hne, rfl⟩, ⟨roLe_upd hg (by simp), fun j o hj hn => ?_, fun j hj => .inl hj⟩⟩
  rw [Heap.upd_ne _ _ (fun e => hn (by simp [e]))]
  exact hj

section
variable {id : AId} {st : List UInt8 × Int} {G : Heap} {F : List AId} {Q : AVal → Heap → Prop}

theorem cursor_Writer_U8.use {v : Nat} (hv : v < 2 ^ 8) (h : Wr id st G F) (hb : st.1.length + 8 ≤ 140737488355328) (hQ : ∀ F' G', Wr id (laid st (be 1 v)) G' F' → Ch F G F' G' → Q (.tuple []) G') :
    ACalls P cursor_Writer_U8.n [.ptr id [] 0, .int .u8 v] G Q := cursor_Writer_U8.sound (cursor_lay_uint8.use (k := 1) hv (by omega) h (by omega) hQ)
theorem cursor_Writer_U16.use {v : Nat} (hv : v < 2 ^ 16) (h : Wr id st G F) (hb : st.1.length + 8 ≤ 140737488355328) (hQ : ∀ F' G', Wr id (laid st (be 2 v)) G' F' → Ch F G F' G' → Q (.tuple []) G') :
    ACalls P cursor_Writer_U16.n [.ptr id [] 0, .int .u16 v] G Q := cursor_Writer_U16.sound (cursor_lay_uint16.use (k := 2) hv (by omega) h (by omega) hQ)
/-- A signed number's bits, as a number. -/
def bits64 (n : Int) : Nat := (n % 18446744073709551616).toNat
theorem bits64_lt (n : Int) : bits64 n < 2 ^ 64 := by
  unfold bits64
  omega
theorem wrap_bits64 (n : Int) : IntKind.u64.wrap n = (bits64 n : Int) := by
  rw [wrapU64]
  unfold bits64
  omega

theorem cursor_Writer_I64.use {v : Int} (h : Wr id st G F) (hb : st.1.length + 8 ≤ 140737488355328) (hQ : ∀ F' G', Wr id (laid st (be 8 (bits64 v))) G' F' → Ch F G F' G' → Q (.tuple []) G') :
    ACalls P cursor_Writer_I64.n [.ptr id [] 0, .int .i64 v] G Q := by
  refine cursor_Writer_I64.sound ?_
  unfold cursor_Writer_I64.S
  rw [vconv_int T_int64 T_uint64 rfl, wv_some, wrap_bits64]
  exact cursor_lay_uint64.use (k := 8) (bits64_lt v) (by omega) h (by omega) hQ

theorem cursor_Writer_Hash.use {hs : List UInt8} (hl : hs.length = 32) (h : Wr id st G F) (hb : st.1.length + 32 ≤ 140737488355328) (hQ : ∀ F' G', Wr id (laid st hs) G' F' → Ch F G F' G' → Q (.tuple []) G') :
    ACalls P cursor_Writer_Hash.n [.ptr id [] 0, .agg (hs.map u8v)] G Q := by
  refine cursor_Writer_Hash.sound ?_
  unfold cursor_Writer_Hash.S
  intro i hf
  have hch : Ch [] G [] (G.upd i (.own (.agg (hs.map u8v)))) := ⟨RoLe.of_le (hf.le _), fun j x hj _ => hf.le _ _ _ hj, fun j hj => by simp at hj⟩
  have hsl : IsSl 1 (G.upd i (.own (.agg (hs.map u8v)))) (.slice i [] 0 0 32 32) (hs.map u8v) := by
    have := isSl_row (n := 1) (cap := 32) (len := 32) (Heap.upd_self G i (.own (.agg (hs.map u8v)))) rfl (uni_u8 hs) (by simp [hl])
    rwa [List.take_of_length_le (by simp [hl])] at this
  show wv (vconv T _ t_sl_uint8 t_string (.slice i [] 0 0 32 32)) _
  rw [vconv_bytes T_sl_uint8 rfl T_uint8 rfl T_string rfl hsl, wv_some]
  exact cursor_Writer_Raw.use (h.ch hch (by simp)) (by omega) fun F' G' hw hc => hQ F' G' hw (hch.grow.trans hc)

theorem cursor_Writer_Text.use {xs : List UInt8} (h : Wr id st G F) (hb : st.1.length + 2 + xs.length ≤ 140737488355328) (hQ : ∀ F' G', Wr id (laidText st xs) G' F' → Ch F G F' G' → Q (.tuple []) G') :
    ACalls P cursor_Writer_Text.n [.ptr id [] 0, .str xs] G Q := by
  refine cursor_Writer_Text.sound ?_
  unfold cursor_Writer_Text.S
  intro J
  have rest : ∀ (st' : List UInt8 × Int) (F1 : List AId) (G1 : Heap), Wr id st' G1 F1 → st'.1 = st.1 → Ch F G F1 G1 → (st'.2 = 0 → xs.length ≤ 65535 ∧ laid st' (be 2 xs.length ++ xs) = laidText st xs) → (st'.2 ≠ 0 → st' = laidText st xs) →
      ACalls P cursor_lay_uint16.n [.ptr id [] 0, .int .u16 (IntKind.u16.wrap xs.length), .int .i64 2] G1 fun v21 G22 => ACalls P cursor_Writer_Raw.n [.ptr id [] 0, .str xs] G22 fun v23 G24 => Q (.tuple []) G24 := by
    intro st' F1 G1 hw hst hc hz hnz
    have hm : IntKind.u16.wrap xs.length = ((xs.length % 65536 : Nat) : Int) := by rw [wrapU16]; omega
    rw [hm]
    refine cursor_lay_uint16.use (k := 2) (by omega) (by omega) hw (by rw [hst]; omega) fun F2 G2 hw2 hc2 => ?_
    refine cursor_Writer_Raw.use hw2 ?_ fun F3 G3 hw3 hc3 => hQ F3 G3 ?_ ((hc.trans hc2).trans hc3)
    · have := length_laid st' (be 2 (xs.length % 65536))
      rw [length_be, hst] at this
      omega
    · rw [laid_append] at hw3
      by_cases h0 : st'.2 = 0
      · obtain ⟨hl, e⟩ := hz h0
        rw [← e]
        rw [Nat.mod_eq_of_lt (by omega)] at hw3
        exact hw3
      · rw [← hnz h0]
        simpa [laid, h0] using hw3
  have hf := WrP.fault h
  show wv (vload T G t_api_Errno (.ptr id [1] 1)) _
  rw [hf]
  have hlen : vlen T G t_string (.str xs) = some (.int .i64 xs.length) := rfl
  simp -zeta only [wv_some, vbin_eql, brB_dec, hlen, vbin_gtr]
  have hno : ¬ (st.2 = 0 ∧ 65535 < xs.length) → J (.bool false) G := by
    intro hn
    simp -zeta only [J, brB_false, hlen, wv_some]
    rw [vconv_int T_int T_uint16 rfl, wv_some]
    refine rest st F G h rfl (Ch.refl _ _) (fun h0 => ⟨by omega, by simp [laidText, hn]⟩) fun h0 => ?_
    simp [laidText, laid, h0]
  refine ⟨fun h0 => ?_, fun h0 => hno fun hh => h0 hh.1⟩
  by_cases hlong : 65535 < xs.length
  · have : J (.bool true) G := by
      obtain ⟨G1, hst, hw, hc⟩ := WrP.setFault (g := 3) h
      simp -zeta only [J, brB_true]
      show wg (vstore T G t_api_Errno (.ptr id [1] 1) (.int .i64 3)) _
      rw [hst, wg_some]
      show wv (vlen T G1 t_string (.str xs)) _
      rw [show vlen T G1 t_string (.str xs) = some (.int .i64 xs.length) from rfl, wv_some, vconv_int T_int T_uint16 rfl, wv_some]
      exact rest (st.1, 3) F G1 hw rfl hc (fun h => absurd h (by simp)) fun _ => by simp [laidText, h0, hlong]
    have hd : decide ((65535 : Int) < xs.length) = true := by simp; omega
    rw [hd]
    exact this
  · have : J (.bool false) G := hno fun hh => hlong hh.2
    have hd : decide ((65535 : Int) < xs.length) = false := by simp; omega
    rw [hd]
    exact this

theorem cursor_Writer_Out.use (h : Wr id st G F) (hQ : Q (.tuple [.str (if st.2 = 0 then st.1 else []), .int .i64 st.2]) G) : ACalls P cursor_Writer_Out.n [.ptr id [] 0] G Q := by
  refine cursor_Writer_Out.sound ?_
  unfold cursor_Writer_Out.S
  have hf := WrP.fault h
  show wv (vload T G t_api_Errno (.ptr id [1] 1)) _
  rw [hf]
  simp -zeta only [wv_some, vbin_neq, brB_ndec]
  refine ⟨fun h0 => ?_, fun h0 => ?_⟩
  · show wv (vload T G t_api_Errno (.ptr id [1] 1)) _
    rw [hf, wv_some]
    simpa [h0] using hQ
  · obtain ⟨s, hl, _, ho, _⟩ := WrP.load h
    show wv (vload T G t_sl_uint8 (.ptr id [0] 0)) _
    rw [hl, wv_some, vconv_bytes T_sl_uint8 rfl T_uint8 rfl T_string rfl ho.is, wv_some]
    simpa [h0] using hQ

end
end Go.Esc.M

/- Own work. Chapter 3: the document's writers. -/
set_option linter.unusedSimpArgs false
set_option linter.unusedVariables false
set_option maxRecDepth 20000
namespace Go.Esc.M
open Go Go.Esc

section
variable {id : AId} {st : List UInt8 × Int} {G : Heap} {F : List AId} {Q : AVal → Heap → Prop}

end
end Go.Esc.M

/- Own work. Chapter 3: the readers. -/
set_option linter.unusedSimpArgs false
set_option linter.unusedVariables false
set_option maxRecDepth 20000
namespace Go.Esc.M
open Go Go.Esc

def Rd (id : AId) (st : List UInt8 × Int) (G : Heap) : Prop := G id = some (.own (.agg [.str st.1, .int .i64 st.2]))

section
variable {id : AId} {st : List UInt8 × Int} {G : Heap} {Q : AVal → Heap → Prop}

theorem Rd.fault (h : Rd id st G) : vload T G t_api_Errno (.ptr id [1] 1) = some (.int .i64 st.2) := vload_fld h rfl rfl rfl T_api_Errno rfl
theorem Rd.rest (h : Rd id st G) : vload T G t_string (.ptr id [0] 0) = some (.str st.1) := vload_fld h rfl rfl rfl T_string rfl

theorem ch_upd {o o' : AObj} (h : G id = some o) (ho : ∀ t, o ≠ .ro t) : Ch [id] G [id] (G.upd id o') :=
  ⟨roLe_upd h ho, fun j x hj hn => by rw [Heap.upd_ne _ _ (fun e => hn (by simp [e]))]; exact hj, fun j hj => .inl hj⟩

theorem Rd.setFault (h : Rd id st G) (f : Int) : ∃ G', vstore T G t_api_Errno (.ptr id [1] 1) (.int .i64 f) = some G' ∧ Rd id (st.1, f) G' ∧ Ch [id] G [id] G' :=
  ⟨_, vstore_fld h rfl rfl T_api_Errno rfl rfl rfl, Heap.upd_self _ _ _, ch_upd h (by simp)⟩
theorem Rd.setRest (h : Rd id st G) (l : List UInt8) : ∃ G', vstore T G t_string (.ptr id [0] 0) (.str l) = some G' ∧ Rd id (l, st.2) G' ∧ Ch [id] G [id] G' :=
  ⟨_, vstore_fld h rfl rfl T_string rfl rfl rfl, Heap.upd_self _ _ _, ch_upd h (by simp)⟩

theorem str_take {l : List UInt8} {k : IntKind} {n : Int} (h0 : 0 ≤ n) (h : n ≤ l.length) : vslice T t_string (.str l) none (some (.int k n)) none = some (.str (l.take n.toNat)) := by
  have e : n = (n.toNat : Int) := by omega
  have hb := sbounds_high (len := l.length) (cap := l.length) (m := n.toNat) (k := k) (by omega)
  rw [← e] at hb
  simp [vslice, T_string, ti_string, hb]
theorem str_drop {l : List UInt8} {k : IntKind} {n : Int} (h0 : 0 ≤ n) (h : n ≤ l.length) : vslice T t_string (.str l) (some (.int k n)) none none = some (.str (l.drop n.toNat)) := by
  have e : n = (n.toNat : Int) := by omega
  have hb := sbounds_low (len := l.length) (cap := l.length) (m := n.toNat) (k := k) (by omega) (by omega)
  rw [← e] at hb
  simp only [vslice, T_string, ti_string, hb]
  simp
  exact List.take_of_length_le (by simp)

/-- What a reader gives of so many bytes, and how it stands behind. -/
def takes (st : List UInt8 × Int) (n : Int) : List UInt8 × (List UInt8 × Int) :=
  if st.2 = 0 then (if (st.1.length : Int) < n then ([], ([], 2)) else (st.1.take n.toNat, (st.1.drop n.toNat, 0))) else ([], st)

theorem cursor_Open.use {b : List UInt8} (h : ∀ id G', Rd id (b, 0) G' → Ch [] G [id] G' → Q (.ptr id [] 0) G') : ACalls P cursor_Open.n [.str b] G Q := by
  refine cursor_Open.sound ?_
  unfold cursor_Open.S
  intro id hf
  exact h _ _ (Heap.upd_self _ _ _) (Ch.new hf)

theorem cursor_Reader_breaks.use {f : Int} (h : Rd id st G) (hQ : ∀ G', Rd id ([], f) G' → Ch [id] G [id] G' → Q (.tuple []) G') : ACalls P cursor_Reader_breaks.n [.ptr id [] 0, .int .i64 f] G Q := by
  refine cursor_Reader_breaks.sound ?_
  unfold cursor_Reader_breaks.S
  obtain ⟨G1, e1, h1, c1⟩ := h.setRest []
  obtain ⟨G2, e2, h2, c2⟩ := h1.setFault f
  show wg (vstore T G t_string (.ptr id [0] 0) (.str [])) _
  rw [e1, wg_some]
  show wg (vstore T G1 t_api_Errno (.ptr id [1] 1) (.int .i64 f)) _
  rw [e2, wg_some]
  exact hQ G2 h2 (c1.trans c2)

theorem cursor_Reader_take.use {n : Int} (hn : st.2 = 0 → 0 ≤ n) (h : Rd id st G) (hQ : ∀ G', Rd id (takes st n).2 G' → Ch [id] G [id] G' → Q (.str (takes st n).1) G') : ACalls P cursor_Reader_take.n [.ptr id [] 0, .int .i64 n] G Q := by
  refine cursor_Reader_take.sound ?_
  unfold cursor_Reader_take.S
  show wv (vload T G t_api_Errno (.ptr id [1] 1)) _
  rw [h.fault]
  simp -zeta only [wv_some, vbin_neq, brB_ndec]
  refine ⟨fun h0 => ?_, fun h0 => ?_⟩
  · have := hQ G (by simpa [takes, h0] using h) (Ch.refl _ _)
    simpa [takes, h0] using this
  · have hn := hn h0
    show wv (vload T G t_string (.ptr id [0] 0)) _
    rw [h.rest, wv_some]
    show wv (some (.int .i64 st.1.length)) _
    simp -zeta only [wv_some, vbin_lss, brB_dec]
    refine ⟨fun hl => ?_, fun hl => ?_⟩
    · refine cursor_Reader_breaks.use h fun G' hr hc => ?_
      have := hQ G' (by simpa [takes, h0, hl] using hr) hc
      simpa [takes, h0, hl] using this
    · show wv (vload T G t_string (.ptr id [0] 0)) _
      rw [h.rest, wv_some, str_take hn (by omega), wv_some]
      show wv (vload T G t_string (.ptr id [0] 0)) _
      rw [h.rest, wv_some, str_drop hn (by omega), wv_some]
      obtain ⟨G1, e1, h1, c1⟩ := h.setRest (st.1.drop n.toNat)
      show wg (vstore T G t_string (.ptr id [0] 0) (.str (st.1.drop n.toNat))) _
      rw [e1, wg_some]
      have := hQ G1 (by simpa [takes, h0, hl, Rd] using h1) c1
      simpa [takes, h0, hl] using this

/-- The number in bytes. -/
def numA : Nat → List UInt8 → Nat
  | v, [] => v
  | v, b :: l => numA (v * 256 + b.toNat) l
def num (l : List UInt8) : Nat := numA 0 l

theorem vindex_str {l : List UInt8} {j : Nat} (h : j < l.length) : vindex T t_string (.str l) (.int .i64 j) = some (.int .u8 l[j].toNat) := by
  simp [vindex, T_string, ti_string, h]

theorem or_byte (v b : Nat) (hb : b < 256) (hv : v * 256 < 2 ^ 64) : IntKind.u64.wrap ((BitVec.ofInt IntKind.u64.bits ((v * 256 : Nat) : Int) ||| BitVec.ofInt IntKind.u64.bits (b : Int)).toNat) = ((v * 256 + b : Nat) : Int) := by
  have hbits : IntKind.u64.bits = 64 := rfl
  have h1 : (BitVec.ofInt IntKind.u64.bits ((v * 256 : Nat) : Int) ||| BitVec.ofInt IntKind.u64.bits (b : Int)).toNat = v * 256 + b := by
    rw [BitVec.toNat_or, BitVec.ofInt_natCast, BitVec.ofInt_natCast, BitVec.toNat_ofNat, BitVec.toNat_ofNat, hbits, Nat.mod_eq_of_lt hv, Nat.mod_eq_of_lt (by omega)]
    have := Nat.two_pow_add_eq_or_of_lt (i := 8) (b := b) (by omega) v
    rw [Nat.mul_comm v 256]
    exact this.symm
  rw [h1, wrapU64]
  omega

theorem value_core {s : List UInt8} (hs : s.length ≤ 8) (K : AVal → Heap → Prop) (R : List AVal → Heap → Prop)
    (hR : ∀ (x4 x5 x6 x7 : AVal) (G3 : Heap), (wv (vbin T .lss t_int x7 x6) fun v8 => brB (some v8)
      (wv (vbin T .shl t_uint64 x5 (.int .u64 8)) fun v9 => wv (vindex T t_string x4 x7) fun v10 => wv (vconv T G3 t_uint8 t_uint64 v10) fun v11 => wv (vbin T .or t_uint64 v9 v11) fun v12 => wv (vbin T .add t_int x7 (.int .i64 1)) fun v13 => R [x4, v12, x6, v13] G3)
      (K x5 G3)) → R [x4, x5, x6, x7] G3) (hK : K (.int .u64 (num s)) G) : R [.str s, .int .u64 0, .int .i64 s.length, .int .i64 0] G := by
  have loop : ∀ (rest : List UInt8) (v j : Nat), s.drop j = rest → j ≤ s.length → v < 256 ^ j → numA v rest = num s → R [.str s, .int .u64 v, .int .i64 s.length, .int .i64 j] G := by
    intro rest
    induction rest with
    | nil =>
      intro v j hd hj hv he
      have := List.drop_eq_nil_iff.1 hd
      refine hR _ _ _ _ _ ?_
      simp -zeta only [vbin_lss, wv_some, brB_dec]
      refine ⟨fun h => absurd h (by omega), fun _ => ?_⟩
      simp only [numA] at he
      rw [he]
      exact hK
    | cons b rest ih =>
      intro v j hd hj hv he
      have hjl : j < s.length := by
        rcases Nat.lt_or_ge j s.length with h | h
        · exact h
        · rw [List.drop_eq_nil_iff.2 h] at hd; cases hd
      have hb : s[j] = b := by
        have := List.drop_eq_getElem_cons hjl
        rw [hd] at this
        injection this with h1 h2
        exact h1.symm
      have hv7 : v < 256 ^ 7 := Nat.lt_of_lt_of_le hv (Nat.pow_le_pow_right (by omega) (by omega))
      have hblt : b.toNat < 256 := b.toNat_lt
      refine hR _ _ _ _ _ ?_
      simp -zeta only [vbin_lss, wv_some, brB_dec]
      refine ⟨fun _ => ?_, fun h => absurd (by omega) h⟩
      have hsh : IntKind.u64.wrap ((v : Int) * 2 ^ min (Int.toNat 8) IntKind.u64.bits) = ((v * 256 : Nat) : Int) := by
        have : min (Int.toNat 8) IntKind.u64.bits = 8 := rfl
        rw [this, wrapU64]
        omega
      rw [vbin_shl _ _ _ _ _ _ (by omega), wv_some, hsh, vindex_str hjl, wv_some, hb, vconv_int T_uint8 T_uint64 rfl, wv_some, u64_in (n := (b.toNat : Int)) (by omega) (by omega), vbin_or, wv_some, or_byte v b.toNat hblt (by omega)]
      simp -zeta only [vbin_add, wv_some]
      rw [i64_in (by omega) (by omega)]
      refine ih (v * 256 + b.toNat) (j + 1) (by rw [← List.drop_drop, hd]; rfl) (by omega) ?_ he
      rw [Nat.pow_succ]
      omega
  exact loop s 0 0 rfl (by omega) (by simp) rfl

theorem cursor_value_uint64.use {s : List UInt8} (hs : s.length ≤ 8) (hQ : Q (.int .u64 (num s)) G) : ACalls P cursor_value_uint64.n [.str s] G Q := by
  refine cursor_value_uint64.sound ?_
  unfold cursor_value_uint64.S
  show wv (some (.int .i64 s.length)) _
  rw [wv_some]
  intro R hR
  exact value_core hs Q R hR hQ

theorem cursor_value_uint8.use {s : List UInt8} (hs : s.length ≤ 8) (hQ : Q (.int .u8 (num s % 256 : Nat)) G) : ACalls P cursor_value_uint8.n [.str s] G Q := by
  refine cursor_value_uint8.sound ?_
  unfold cursor_value_uint8.S
  show wv (some (.int .i64 s.length)) _
  rw [wv_some]
  intro R hR
  refine value_core hs _ R hR ?_
  rw [vconv_int T_uint64 T_uint8 rfl, wv_some, wrapU8]
  simpa using hQ

theorem cursor_value_uint16.use {s : List UInt8} (hs : s.length ≤ 8) (hQ : Q (.int .u16 (num s % 65536 : Nat)) G) : ACalls P cursor_value_uint16.n [.str s] G Q := by
  refine cursor_value_uint16.sound ?_
  unfold cursor_value_uint16.S
  show wv (some (.int .i64 s.length)) _
  rw [wv_some]
  intro R hR
  refine value_core hs _ R hR ?_
  rw [vconv_int T_uint64 T_uint16 rfl, wv_some, wrapU16]
  simpa using hQ

end
end Go.Esc.M
