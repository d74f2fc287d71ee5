import Derived.Test.YtbckpbdamfhehaaGreatDoorLSf
/- Own work. Chapter 9: SeedTree, SeedSteps, SeedEdges. -/
set_option linter.unusedSimpArgs false
set_option linter.unusedVariables false
set_option maxRecDepth 20000
namespace Go.Esc.M
open Go Go.Esc

theorem level_ok {a : Int} (ha : okN a = true) : levelS a = (((level (pl a) : Nat) : Int), 0) := by
  unfold levelS
  rw [ha]
  rfl
section
variable {F0 : List AId} {G0 G : Heap} {ps : List LP} {Q : AVal → Heap → Prop}

end

end Go.Esc.M

/- Own work. Chapter 10: slots; what a shelf is asked. -/
set_option linter.unusedSimpArgs false
set_option linter.unusedVariables false
set_option maxRecDepth 20000
namespace Go.Esc
open Go Go.RowKit
section
variable {T : Tbl} {t e : TypeId} {i ie : TI} (ht : T t = some i) (hd : i.desc = .slice e) (he : T e = some ie)
include ht hd he in
/-- A place of one's own list, written over. -/
theorem own_put {F0 : List AId} {G0 G : Heap} {ps : List LP} {q j : Nat} {v c : AVal} {vs : List AVal} {k : IntKind} {x : Int} (hx : x = (j : Int)) (hs : Sp F0 G0 ps G) (hi : ps[q]? = some (OwnL ie.size v vs)) (hj : j < vs.length) (hc : sz c = ie.size) (ha : c.isAgg = ie.desc.isAgg) (hok : okv c = true) :
    ∃ a, viaddr T t v (.int k x) = some a ∧ ∀ K : Heap → Prop, (∀ G', Sp F0 G0 (ps.set q (OwnL ie.size v (vs.set j c))) G' → K G') → wg (vstore T G e a c) K := by
  subst hx
  have ho := OwnL.own hs hi
  rcases ho with ⟨_, h⟩ | ⟨id, len, cap, cs, rfl, hg, hcap, hl, hu, hv⟩
  · rw [h] at hj
    simp at hj
  · have hlen : vs.length = len := by rw [hv, List.length_take]; omega
    obtain ⟨a, ha, hst⟩ := own_set (cap := cap) (k := k) (c := c) ht hd he hg hu (show j < len by omega) (by omega) hc ha hok
    refine ⟨a, ha, fun K hK => wg_of hst (hK _ ?_)⟩
    refine hs.call hi (OwnL ie.size (.slice id [] 0 0 len cap) (vs.set j c)) fun F h k => ?_
    obtain ⟨_, rfl⟩ := h
    refine k _ _ ⟨.inr ⟨id, len, cap, cs.set j c, rfl, Heap.upd_self _ _ _, by rw [List.length_set]; exact hcap, hl, uni_set hu hc, ?_⟩, rfl⟩ (M.upd_ch hg (by simp))
    rw [hv, List.take_set]
end

end Go.Esc
namespace Go.Esc.M
open Go Go.Esc

structure SlotM where
  index : Int
  secret : List UInt8
  full : Bool
  deriving DecidableEq
def SlotM.cs (s : SlotM) : List AVal := [.int .i64 s.index, .agg (s.secret.map u8v), .bool s.full]
def SlotM.av (s : SlotM) : AVal := .agg s.cs
def SlotM.ok (s : SlotM) : Prop := s.secret.length = 32
def zeroS : SlotM := ⟨0, zero32, false⟩
theorem zeroS_ok : zeroS.ok := rfl
theorem SlotM.sz {s : SlotM} (h : s.ok) : Esc.sz s.av = 34 := by
  have h1 : szs (s.secret.map u8v) = 32 := by rw [szs_uni (n := 1) (uni_u8 _)]; simp [show s.secret.length = 32 from h]
  simp [SlotM.av, SlotM.cs, Esc.sz, szs, h1]
theorem SlotM.fits {s : SlotM} (h : s.ok) : vfits ti_api_Slot s.av = true := by
  have h1 := SlotM.sz h
  have h2 : s.av.isAgg = true := rfl
  simp [vfits, h1, h2, ti_api_Slot, ADesc.isAgg]
theorem SlotM.okv (s : SlotM) : Esc.okv s.av = true := by simp [SlotM.av, SlotM.cs, Esc.okv, okvs, okvs_u8]
theorem uni_slots {l : List SlotM} (h : ∀ s ∈ l, s.ok) : Esc.uni 34 (l.map SlotM.av) = true := by
  simp only [Esc.uni, List.all_map, List.all_eq_true]
  intro s hs
  simp [SlotM.sz (h s hs)]
theorem okvs_slots : ∀ l : List SlotM, okvs (l.map SlotM.av) = true
  | [] => rfl
  | s :: l => by simp [okvs, SlotM.okv, okvs_slots l]
theorem map_slots (l : List SlotM) {j : Nat} {s : SlotM} (h : l[j]? = some s) : (l.map SlotM.av)[j]? = some s.av := by rw [List.getElem?_map, h]; rfl

theorem wt_Slot {G : Heap} {R d : Nat} {v : AVal} {m : Nat} (h : wt T G R (d + 3) t_api_Slot v m) : ∃ s : SlotM, v = s.av ∧ s.ok := by
  obtain ⟨cs, ms, rfl, hf, rfl⟩ := wt_struct T_api_Slot rfl h
  obtain ⟨c1, cs, m1, ms, rfl, rfl, h1, hf⟩ := wfs_cons hf
  obtain ⟨c2, cs, m2, ms, rfl, rfl, h2, hf⟩ := wfs_cons hf
  obtain ⟨c3, cs, m3, ms, rfl, rfl, h3, hf⟩ := wfs_cons hf
  obtain ⟨rfl, rfl⟩ := wfs_nil hf
  obtain ⟨a, rfl, _, _⟩ := wt_int T_int64 rfl h1
  obtain ⟨e, rfl, w, _⟩ := wt_hash T_api_Hash rfl T_uint8 rfl h2
  obtain ⟨b, rfl, _⟩ := wt_bool T_bool rfl h3
  exact ⟨⟨a, e, b⟩, rfl, w⟩
theorem wt_Slots {G : Heap} {R d : Nat} {v : AVal} {m : Nat} (h : wt T G R (d + 4) t_sl_api_Slot v m) : ∃ l : List SlotM, RoSl 34 G v (l.map SlotM.av) ∧ (∀ s ∈ l, s.ok) ∧ l.length * 48 ≤ R := by
  obtain ⟨xs, ms, hro, hall, hms, hR, _⟩ := wt_ro SlotM.av (fun u m => u.ok) T_sl_api_Slot rfl T_api_Slot (fun c m h => by obtain ⟨u, hu, ho⟩ := wt_Slot h; exact ⟨u, hu, ho⟩) h
  refine ⟨xs, hro, fun u hu => ?_, hR⟩
  obtain ⟨m, hm, _⟩ := hall.mem hu
  exact hm

section
variable {F0 : List AId} {G0 G : Heap} {ps : List LP} {v : AVal} {l : List SlotM} {j : Nat} {s : SlotM} {x : Int}
theorem slot_at (h : IsSl 34 G v (l.map SlotM.av)) (hx : x = (j : Int)) (hj : l[j]? = some s) : ∃ a, viaddr T t_sl_api_Slot v (.int .i64 x) = some a ∧ vload T G t_api_Slot a = some s.av := by
  subst hx
  exact h.at_ (k := .i64) T_sl_api_Slot rfl T_api_Slot (map_slots l hj) rfl
theorem slot_full (h : IsSl 34 G v (l.map SlotM.av)) (hx : x = (j : Int)) (hj : l[j]? = some s) (ho : s.ok) : ∃ a b, viaddr T t_sl_api_Slot v (.int .i64 x) = some a ∧ vfaddr T t_api_Slot a 2 = some b ∧ vload T G t_bool b = some (.bool s.full) := by
  subst hx
  have h1 : szs (s.secret.map u8v) = 32 := by rw [szs_uni (n := 1) (uni_u8 _)]; simp [show s.secret.length = 32 from ho]
  exact IsSl.fld (k := .i64) (cs := s.cs) T_sl_api_Slot rfl T_api_Slot (fs := [(t_int64, 0), (t_api_Hash, 1), (t_bool, 33)]) (f := 2) (o := 33) rfl rfl T_bool (by decide) h (map_slots l hj) (by simp [SlotM.cs, szs, Esc.sz, h1]) rfl rfl
theorem slot_index (h : IsSl 34 G v (l.map SlotM.av)) (hx : x = (j : Int)) (hj : l[j]? = some s) : ∃ a b, viaddr T t_sl_api_Slot v (.int .i64 x) = some a ∧ vfaddr T t_api_Slot a 0 = some b ∧ vload T G t_int64 b = some (.int .i64 s.index) := by
  subst hx
  exact IsSl.fld (k := .i64) (cs := s.cs) T_sl_api_Slot rfl T_api_Slot (fs := [(t_int64, 0), (t_api_Hash, 1), (t_bool, 33)]) (f := 0) (o := 0) rfl rfl T_int64 (by decide) h (map_slots l hj) rfl rfl rfl
theorem slot_secret (h : IsSl 34 G v (l.map SlotM.av)) (hx : x = (j : Int)) (hj : l[j]? = some s) (ho : s.ok) : ∃ a b, viaddr T t_sl_api_Slot v (.int .i64 x) = some a ∧ vfaddr T t_api_Slot a 1 = some b ∧ vload T G t_api_Hash b = some (.agg (s.secret.map u8v)) := by
  subst hx
  exact IsSl.fld (k := .i64) (cs := s.cs) T_sl_api_Slot rfl T_api_Slot (fs := [(t_int64, 0), (t_api_Hash, 1), (t_bool, 33)]) (f := 1) (o := 1) rfl rfl T_api_Hash (by decide) h (map_slots l hj) (by simp [SlotM.cs, szs, Esc.sz]) rfl (fits32 ho)
theorem slots_len (h : IsSl 34 G v (l.map SlotM.av)) : vlen T G t_sl_api_Slot v = some (.int .i64 (l.length : Nat)) := by
  rw [h.len (i := ti_sl_api_Slot) T_sl_api_Slot rfl, List.length_map]
theorem slot_put {i : Nat} (hx : x = (j : Int)) (hs : Sp F0 G0 ps G) (hi : ps[i]? = some (OwnL 34 v (l.map SlotM.av))) (hj : j < l.length) (ho : s.ok) :
    ∃ a, viaddr T t_sl_api_Slot v (.int .i64 x) = some a ∧ ∀ K : Heap → Prop, (∀ G', Sp F0 G0 (ps.set i (OwnL 34 v ((l.set j s).map SlotM.av))) G' → K G') → wg (vstore T G t_api_Slot a s.av) K := by
  rw [List.map_set]
  exact own_put (k := .i64) T_sl_api_Slot rfl T_api_Slot hx hs hi (by simpa using hj) (SlotM.sz ho) rfl (SlotM.okv s)
end
theorem build_slot {n : Int} {h : List UInt8} (hl : h.length = 32) (b : Bool) : vbuild T t_api_Slot [(0, .int .i64 n), (1, .agg (h.map u8v)), (2, .bool b)] = some (SlotM.av ⟨n, h, b⟩) := by
  refine (build_struct (zs := zeroS.cs) T_api_Slot rfl rfl rfl (plOk_of (by decide +kernel)) ?_).trans rfl
  intro p hp
  simp only [List.mem_cons, List.not_mem_nil, or_false] at hp
  have e1 : szs (h.map u8v) = 32 := by rw [szs_uni (n := 1) (uni_u8 _)]; simp [hl]
  have e2 : szs (zero32.map u8v) = 32 := by rw [szs_uni (n := 1) (uni_u8 _)]; rfl
  rcases hp with rfl | rfl | rfl
  · rfl
  · simp [zeroS, SlotM.cs, Esc.sz, e1, e2]
  · simp [zeroS, SlotM.cs, Esc.sz]
/-! ### What is asked -/
def atS (l : List SlotM) (j : Nat) : SlotM := if (l.getD j zeroS).full = true then l.getD j zeroS else zeroS
def badS (secret : List UInt8) (n : Int) (s : SlotM) : Bool := s.full && !decide (deriveS secret n s.index = (s.secret, 0))
def okputS (l : List SlotM) (n : Int) (secret : List UInt8) : Bool := (List.range (level (pl n))).all fun j => !badS secret n (atS l j)
def laidS (l : List SlotM) (n : Int) (secret : List UInt8) : List SlotM := (List.range 49).map fun j => if j = level (pl n) then ⟨n, secret, true⟩ else atS l j
def putS (l : List SlotM) (n : Int) (secret : List UInt8) : List SlotM × Int :=
  if 49 < l.length then ([], 1) else if okN n = true then (if okputS l n secret = true then (laidS l n secret, 0) else ([], 100)) else ([], 90)
theorem atS_some {l : List SlotM} {j : Nat} {s : SlotM} (h : l[j]? = some s) : atS l j = if s.full = true then s else zeroS := by
  unfold atS
  rw [List.getD_eq_getElem?_getD, h]
  rfl
theorem atS_none {l : List SlotM} {j : Nat} (h : l.length ≤ j) : atS l j = zeroS := by
  unfold atS
  rw [List.getD_eq_getElem?_getD, List.getElem?_eq_none h]
  rfl
theorem okputS_iff {l : List SlotM} {n : Int} {secret : List UInt8} : okputS l n secret = true ↔ ∀ j, j < level (pl n) → badS secret n (atS l j) = false := by
  unfold okputS
  rw [List.all_eq_true]
  constructor
  · intro h j hj
    have := h j (List.mem_range.2 hj)
    simpa using this
  · intro h j hj
    have := h j (List.mem_range.1 hj)
    simp [this]
end Go.Esc.M

/- Own work. Chapter 10: the program's shelf. -/
set_option linter.unusedSimpArgs false
set_option linter.unusedVariables false
set_option maxRecDepth 20000
namespace Go.Esc.M
open Go Go.Esc

theorem set_range {f : Nat → SlotM} {j : Nat} {x : SlotM} : ((List.range 49).map f).set j x = (List.range 49).map fun q => if q = j then x else f q := by
  refine List.ext_getElem? fun i => ?_
  rw [List.getElem?_map]
  by_cases hi : i < 49
  · rw [List.getElem?_range hi, Option.map_some]
    by_cases hij : i = j
    · subst hij
      rw [List.getElem?_set_self (by simpa using hi), if_pos rfl]
    · rw [List.getElem?_set_ne (fun h => hij h.symm), List.getElem?_map, List.getElem?_range hi, Option.map_some, if_neg hij]
  · rw [List.getElem?_eq_none (by simp; omega), List.getElem?_eq_none (by simp; omega)]
    rfl
theorem level_ok' (a : Int) : (levelS a).2 = if okN a = true then 0 else 90 := by
  unfold levelS
  cases okN a <;> rfl

section
variable {F0 : List AId} {G0 G : Heap} {ps : List LP} {Q : AVal → Heap → Prop}

/-- What is laid out by and by. -/
def partS (l : List SlotM) (j : Nat) : List SlotM := (List.range 49).map fun q => if q < j then atS l q else zeroS
theorem partS_len (l : List SlotM) (j : Nat) : (partS l j).length = 49 := by simp [partS]
theorem partS_zero (l : List SlotM) : partS l 0 = List.replicate 49 zeroS := by
  unfold partS
  refine List.ext_getElem? fun i => ?_
  by_cases hi : i < 49
  · rw [List.getElem?_map, List.getElem?_range hi, List.getElem?_replicate_of_lt hi]
    rfl
  · rw [List.getElem?_eq_none (by simp; omega), List.getElem?_eq_none (by simp; omega)]
theorem partS_next (l : List SlotM) (j : Nat) : (partS l j).set j (atS l j) = partS l (j + 1) := by
  unfold partS
  rw [set_range]
  refine List.map_congr_left fun q _ => ?_
  by_cases h1 : q = j
  · subst h1; rw [if_pos rfl, if_pos (by omega)]
  · rw [if_neg h1]
    by_cases h2 : q < j
    · rw [if_pos h2, if_pos (by omega)]
    · rw [if_neg h2, if_neg (by omega)]
theorem partS_skip {l : List SlotM} {j : Nat} (h : atS l j = zeroS) : partS l j = partS l (j + 1) := by
  unfold partS
  refine List.map_congr_left fun q _ => ?_
  by_cases h1 : q = j
  · subst h1; rw [if_neg (by omega), if_pos (by omega), h]
  · by_cases h2 : q < j
    · rw [if_pos h2, if_pos (by omega)]
    · rw [if_neg h2, if_neg (by omega)]
theorem partS_all (l : List SlotM) (n : Int) (secret : List UInt8) : (partS l l.length).set (level (pl n)) ⟨n, secret, true⟩ = laidS l n secret := by
  unfold partS laidS
  rw [set_range]
  refine List.map_congr_left fun q _ => ?_
  by_cases h1 : q = level (pl n)
  · rw [if_pos h1, if_pos h1]
  · rw [if_neg h1, if_neg h1]
    by_cases h2 : q < l.length
    · rw [if_pos h2]
    · rw [if_neg h2, atS_none (by omega)]

set_option maxHeartbeats 2000000 in
theorem shelf_Put.use {v : AVal} {l : List SlotM} {n : Int} {secret : List UInt8} (hT : Tab G) (hl : IsSl 34 G v (l.map SlotM.av)) (hok : ∀ s ∈ l, s.ok) (hlen : l.length * 48 ≤ 140737488351232) (hs : secret.length = 32)
    (hQ : ∀ w G', Sp [] G [OwnL 34 w ((putS l n secret).1.map SlotM.av)] G' → Q (.tuple [w, .int .i64 (putS l n secret).2]) G') : ACalls P shelf_Put.n [v, .int .i64 n, .agg (secret.map u8v)] G Q := by
  refine shelf_Put.sound ?_
  unfold shelf_Put.S
  intro i1 f1
  have s1 := (Sp.nil G).row f1 (.agg (secret.map u8v))
  refine wv_of (slots_len (hl.ch' s1.ch)) ?_
  unfold putS at hQ
  rw [vbin_gtr, wv_some, brB_dec]
  refine ⟨fun h => ?_, fun h => ?_⟩
  · rw [if_pos (by omega)] at hQ
    exact hQ _ _ ((s1.nilL 34).erase 1)
  rw [if_neg (by omega)] at hQ
  refine seed_Level.use (hT.mono s1.ro) ?_
  refine wv_of (ii0 _) ?_
  refine wv_of (ii1 _) ?_
  cases hn : okN n with
  | false =>
    rw [hn, if_neg (by simp)] at hQ
    have : (levelS n).2 = 90 := by rw [level_ok', hn]; rfl
    rw [this]
    refine wv_of (v := .bool true) rfl ?_
    rw [brB_true]
    exact hQ _ _ ((s1.nilL 34).erase 1)
  | true =>
    rw [hn, if_pos rfl] at hQ
    rw [level_ok hn, nz0, wv_some, brB_false]
    have hlv := level_le (pl n)
    obtain ⟨lv, hlve⟩ : ∃ k, k = level (pl n) := ⟨_, rfl⟩
    refine mkOwn (n := 49) T_sl_api_Slot rfl T_api_Slot (SlotM.sz zeroS_ok) rfl rfl (by decide) (by decide) s1 fun w G11 s11 => ?_
    have s11 : Sp [] G [OwnL 34 w (List.replicate 49 zeroS.av), RowL i1 (.agg (secret.map u8v))] G11 := s11
    have e0 : List.replicate 49 zeroS.av = (partS l 0).map SlotM.av := by rw [partS_zero, List.map_replicate]
    rw [e0] at s11
    refine wv_of (slots_len (hl.ch' s11.ch)) ?_
    intro R hR
    have loop : ∀ (m j : Nat) (G' : Heap), l.length - j = m → j ≤ l.length → (∀ q, q < j → q < level (pl n) → badS secret n (atS l q) = false) → Sp [] G [OwnL 34 w ((partS l j).map SlotM.av), RowL i1 (.agg (secret.map u8v))] G' →
        R [v, .int .i64 n, .ptr i1 [] 0, .int .i64 ((level (pl n) : Nat) : Int), w, .int .i64 (l.length : Int), .int .i64 (j : Int)] G' := by
      intro m
      induction m with
      | zero =>
        intro j G' hm hj hb sp
        have hjl : j = l.length := by omega
        subst hjl
        have hall : okputS l n secret = true := by
          rw [okputS_iff]
          intro q hq
          by_cases hql : q < l.length
          · exact hb q hql hq
          · rw [atS_none (by omega)]
            rfl
        rw [hall, if_pos rfl] at hQ
        refine hR _ _ _ _ _ _ _ _ ?_
        rw [vbin_lss, wv_some, decide_eq_false (by omega), brB_false]
        refine wv_of (load_hash hs (RowL.own (i := 1) sp rfl)) ?_
        refine wv_of (build_slot hs true) ?_
        obtain ⟨a, e1, e2⟩ := slot_put (i := 0) (j := level (pl n)) (s := ⟨n, secret, true⟩) (x := ((level (pl n) : Nat) : Int)) rfl sp rfl (by rw [partS_len]; omega) hs
        refine wv_of e1 ?_
        refine e2 _ fun G59 s59 => ?_
        rw [partS_all] at s59
        exact hQ _ _ (s59.erase 1)
      | succ m ih =>
        intro j G' hm hj hb sp
        obtain ⟨s, hsj⟩ : ∃ s, l[j]? = some s := ⟨_, List.getElem?_eq_getElem (by omega)⟩
        have hso := hok s (List.mem_of_getElem? hsj)
        have hat := atS_some hsj
        refine hR _ _ _ _ _ _ _ _ ?_
        rw [vbin_lss, wv_some, decide_eq_true (by omega), brB_true]
        obtain ⟨a, b, e1, e2, e3⟩ := slot_full (hl.ch' sp.ch) rfl hsj hso
        refine wv_of e1 ?_
        refine wv_of e2 ?_
        refine wv_of e3 ?_
        rw [vun_not, wv_some]
        have ev : vbin T .add t_int (.int .i64 (j : Int)) (.int .i64 1) = some (.int .i64 ((j + 1 : Nat) : Int)) := by
          rw [vbin_add, i64_in (by omega) (by omega)]
          rfl
        cases hf : s.full with
        | false =>
          rw [Bool.not_false, brB_true]
          rw [hf, if_neg (by simp)] at hat
          refine wv_of ev ?_
          rw [partS_skip hat] at sp
          refine ih (j + 1) G' (by omega) (by omega) (fun q hq hq2 => ?_) sp
          by_cases hqj : q = j
          · subst hqj; rw [hat]; rfl
          · exact hb q (by omega) hq2
        | true =>
          rw [Bool.not_true, brB_false]
          rw [hf, if_pos rfl] at hat
          obtain ⟨a, e1, e2⟩ := slot_at (hl.ch' sp.ch) rfl hsj
          refine wv_of e1 ?_
          refine wv_of e2 ?_
          obtain ⟨a, e1, e2⟩ := slot_put (i := 0) (j := j) (s := s) (x := (j : Int)) rfl sp rfl (by rw [partS_len]; omega) hso
          refine wv_of e1 ?_
          refine e2 _ fun G30 s30 => ?_
          have s30 : Sp [] G [OwnL 34 w (((partS l j).set j s).map SlotM.av), RowL i1 (.agg (secret.map u8v))] G30 := s30
          rw [← hat, partS_next, ] at s30
          rw [vbin_geq, wv_some, brB_dec]
          refine ⟨fun hge => ?_, fun hlt => ?_⟩
          · refine wv_of ev ?_
            refine ih (j + 1) G30 (by omega) (by omega) (fun q hq hq2 => ?_) s30
            exact hb q (by omega) hq2
          · refine wv_of (load_hash hs (RowL.own (i := 1) s30 rfl)) ?_
            obtain ⟨a, b, e1, e2, e3⟩ := slot_index (hl.ch' s30.ch) rfl hsj
            refine wv_of e1 ?_
            refine wv_of e2 ?_
            refine wv_of e3 ?_
            refine seed_Derive.use (hT.mono s30.ro) hs fun G37 c37 => ?_
            have s37 := s30.tmp c37
            refine wv_of (hi0 _) ?_
            refine wv_of (hi1 _) ?_
            have hdl := len_derive hs n s.index
            have hbadj : badS secret n (atS l j) = !decide (deriveS secret n s.index = (s.secret, 0)) := by rw [hat]; unfold badS; rw [hf, Bool.true_and]
            refine newH s37 hdl fun i40 G42 s42 => ?_
            have fail : badS secret n (atS l j) = true → Q (.tuple [.nilSlice, .int .i64 100]) G42 := by
              intro hbad
              have : okputS l n secret = false := by
                refine Bool.eq_false_iff.2 fun h => ?_
                rw [okputS_iff] at h
                rw [h j (by omega)] at hbad
                cases hbad
              rw [this, if_neg (by simp)] at hQ
              exact hQ _ _ ((((s42.nilL 34).erase 1).erase 1).erase 1)
            rw [vbin_neq, wv_some]
            by_cases hz : (deriveS secret n s.index).2 = 0
            · rw [decide_eq_true hz, Bool.not_true, brB_false]
              refine wv_of (load_hash hdl (RowL.own (i := 0) s42 rfl)) ?_
              obtain ⟨a, b, e1, e2, e3⟩ := slot_secret (hl.ch' s42.ch) rfl hsj hso
              refine wv_of e1 ?_
              refine wv_of e2 ?_
              refine wv_of e3 ?_
              refine wv_of (hash_neq2 hdl hso) ?_
              by_cases hd : (deriveS secret n s.index).1 = s.secret
              · rw [decide_eq_true hd, Bool.not_true, brB_false]
                refine wv_of ev ?_
                refine ih (j + 1) G42 (by omega) (by omega) (fun q hq hq2 => ?_) (s42.erase 0)
                by_cases hqj : q = j
                · subst hqj
                  rw [hbadj, decide_eq_true (Prod.ext hd hz)]
                  rfl
                · exact hb q (by omega) hq2
              · rw [decide_eq_false hd, Bool.not_false, brB_true]
                refine fail ?_
                rw [hbadj, decide_eq_false fun h => hd (by rw [h])]
                rfl
            · rw [decide_eq_false hz, Bool.not_false, brB_true]
              refine fail ?_
              rw [hbadj, decide_eq_false fun h => hz (by rw [h])]
              rfl
    exact loop l.length 0 G11 rfl (by omega) (fun q hq => by omega) s11

end

end Go.Esc.M

/- Own work. Chapter 11: seals. -/
set_option linter.unusedSimpArgs false
set_option linter.unusedVariables false
set_option maxRecDepth 20000
namespace Go.Esc.M
open Go Go.Esc

section
variable {F0 : List AId} {G0 G : Heap} {ps : List LP} {Q : AVal → Heap → Prop}

/-- A hash in a new row. -/
theorem newHash {h : List UInt8} {K : AId → Heap → Prop} (hs : Sp F0 G0 ps G) (hl : h.length = 32) (hK : ∀ i G', Sp F0 G0 (RowL i (.agg (h.map u8v)) :: ps) G' → K i G') :
    aNew G (.own z_api_Hash) fun i G2 => wg (vstore T G2 t_api_Hash (.ptr i [] 0) (.agg (h.map u8v))) fun G3 => K i G3 := by
  intro i hf
  rw [z_hash]
  have s := hs.row hf (.agg ((List.replicate 32 (0 : UInt8)).map u8v))
  rw [store_hash (by simp) hl (RowL.own (i := 0) s rfl), wg_some]
  exact hK _ _ (Sp.setRow s (j := 0) rfl _)

theorem hash_in {i : Nat} {id : AId} {h : List UInt8} (hs : Sp F0 G0 ps G) (hi : ps[i]? = some (RowL id (.agg (h.map u8v)))) (hl : h.length = 32) : vload T G t_api_Hash (.ptr id [] 0) = some (.agg (h.map u8v)) := load_hash hl (RowL.own hs hi)

theorem seal_Sign.use {key text : List UInt8} (hk : key.length = 32) (hl : text.length ≤ 281474976700000) (hQ : ∀ G', Ch [] G [] G' → Q (.agg ((mac key text).map u8v)) G') : ACalls P seal_Sign.n [.agg (key.map u8v), .str text] G Q := by
  refine seal_Sign.sound ?_
  unfold seal_Sign.S
  rw [z_hash]
  intro i1 f1
  have s1 := (Sp.nil G).row f1 (.agg (key.map u8v))
  intro i3 f3
  have s3 := s1.row f3 (.agg ((List.replicate 32 (0 : UInt8)).map u8v))
  rw [hash_in (i := 1) s3 rfl hk, wv_some]
  refine hash_Mac.use hk (by omega) fun G7 c7 => ?_
  have s7 := s3.tmp c7
  have hm : (mac key text).length = 32 := length_sha _
  rw [store_hash (by simp) hm (RowL.own (i := 0) s7 rfl), wg_some, load_hash hm (Heap.upd_self _ _ _), wv_some]
  exact hQ _ (Sp.setRow s7 (j := 0) rfl (.agg ((mac key text).map u8v))).ch

theorem seHash_eql {a b : List UInt8} (ha : a.length = 32) (hb : b.length = 32) : vbin T .eql t_api_Hash (.agg (a.map u8v)) (.agg (b.map u8v)) = some (.bool (decide (a = b))) := vbin_heql T_api_Hash rfl T_uint8 rfl rfl ha hb
theorem seal_Right.use {key text sig : List UInt8} (hk : key.length = 32) (hs : sig.length = 32) (hl : text.length ≤ 281474976700000) (hQ : ∀ G', Ch [] G [] G' → Q (.bool (decide (mac key text = sig))) G') :
    ACalls P seal_Right.n [.agg (key.map u8v), .str text, .agg (sig.map u8v)] G Q := by
  refine seal_Right.sound ?_
  unfold seal_Right.S
  intro i1 f1
  have s1 := (Sp.nil G).row f1 (.agg (key.map u8v))
  intro i3 f3
  have s3 := s1.row f3 (.agg (sig.map u8v))
  rw [hash_in (i := 1) s3 rfl hk, wv_some, hash_in (i := 0) s3 rfl hs, wv_some]
  refine seal_Sign.use hk hl fun G7 c7 => ?_
  have s7 := s3.tmp c7
  refine ⟨⟨hash_in (i := 0) s7 rfl hs, trivial⟩, ?_⟩
  rw [seHash_eql (a := mac key text) (length_sha _) hs, wv_some]
  exact hQ _ s7.ch

end
end Go.Esc.M
