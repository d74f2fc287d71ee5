/- Own work. Chapter 10: slots; what a shelf is asked. -/
import Derived.Test.YtcceblejaanfaaaDoorLSg
set_option linter.unusedSimpArgs false
set_option linter.unusedVariables false
namespace Go.Esc
open Go Go.RowKit
section
variable {T : Tbl} {t e : TypeId} {i ie : TI} (ht : T t = some i) (hd : i.desc = .slice e) (he : T e = some ie)
include ht hd he in
/-- A place of one's own list, written over. -/
theorem own_put {F0 : List AId} {G0 G : Heap} {ps : List LP} {q j : Nat} {v c : AVal} {vs : List AVal} {k : IntKind} {x : Int} (hx : x = (j : Int)) (hs : Sp F0 G0 ps G) (hi : ps[q]? = some (OwnL ie.size v vs)) (hj : j < vs.length) (hc : sz c = ie.size) (ha : c.isAgg = ie.desc.isAgg) (hok : okv c = true) :
    ∃ a, viaddr T t v (.int k x) = some a ∧ ∀ K : Heap → Prop, (∀ G', Sp F0 G0 (ps.set q (OwnL ie.size v (vs.set j c))) G' → K G') → wg (vstore T G e a c) K := by
  subst hx
  have ho := OwnL.own hs hi
  rcases ho with ⟨_, h⟩ | ⟨id, len, cap, cs, rfl, hg, hcap, hl, hu, hv⟩
  · rw [h] at hj
    simp at hj
  · have hlen : vs.length = len := by rw [hv, List.length_take]; omega
    obtain ⟨a, ha, hst⟩ := own_set (cap := cap) (k := k) (c := c) ht hd he hg hu (show j < len by omega) (by omega) hc ha hok
    refine ⟨a, ha, fun K hK => wg_of hst (hK _ ?_)⟩
    refine hs.call hi (OwnL ie.size (.slice id [] 0 0 len cap) (vs.set j c)) fun F h k => ?_
    obtain ⟨_, rfl⟩ := h
    refine k _ _ ⟨.inr ⟨id, len, cap, cs.set j c, rfl, Heap.upd_self _ _ _, by rw [List.length_set]; exact hcap, hl, uni_set hu hc, ?_⟩, rfl⟩ (M.upd_ch hg (by simp))
    rw [hv, List.take_set]
end

end Go.Esc
namespace Go.Esc.M
open Go Go.Esc

structure SlotM where
  index : Int
  secret : List UInt8
  full : Bool
  deriving DecidableEq
def SlotM.cs (s : SlotM) : List AVal := [.int .i64 s.index, .agg (s.secret.map u8v), .bool s.full]
def SlotM.av (s : SlotM) : AVal := .agg s.cs
def SlotM.ok (s : SlotM) : Prop := s.secret.length = 32
def zeroS : SlotM := ⟨0, zero32, false⟩
theorem zeroS_ok : zeroS.ok := rfl
theorem zSlot : z_api_Slot = zeroS.av := rfl
theorem SlotM.sz {s : SlotM} (h : s.ok) : Esc.sz s.av = 34 := by
  have h1 : szs (s.secret.map u8v) = 32 := by rw [szs_uni (n := 1) (uni_u8 _)]; simp [show s.secret.length = 32 from h]
  simp [SlotM.av, SlotM.cs, Esc.sz, szs, h1]
theorem SlotM.fits {s : SlotM} (h : s.ok) : vfits ti_api_Slot s.av = true := by
  have h1 := SlotM.sz h
  have h2 : s.av.isAgg = true := rfl
  simp [vfits, h1, h2, ti_api_Slot, ADesc.isAgg]
theorem SlotM.okv (s : SlotM) : Esc.okv s.av = true := by simp [SlotM.av, SlotM.cs, Esc.okv, okvs, okvs_u8]
theorem uni_slots {l : List SlotM} (h : ∀ s ∈ l, s.ok) : Esc.uni 34 (l.map SlotM.av) = true := by
  simp only [Esc.uni, List.all_map, List.all_eq_true]
  intro s hs
  simp [SlotM.sz (h s hs)]
theorem okvs_slots : ∀ l : List SlotM, okvs (l.map SlotM.av) = true
  | [] => rfl
  | s :: l => by simp [okvs, SlotM.okv, okvs_slots l]
theorem map_slots (l : List SlotM) {j : Nat} {s : SlotM} (h : l[j]? = some s) : (l.map SlotM.av)[j]? = some s.av := by rw [List.getElem?_map, h]; rfl

theorem wt_Slot {G : Heap} {R d : Nat} {v : AVal} {m : Nat} (h : wt T G R (d + 3) t_api_Slot v m) : ∃ s : SlotM, v = s.av ∧ s.ok := by
  obtain ⟨cs, ms, rfl, hf, rfl⟩ := wt_struct T_api_Slot rfl h
  obtain ⟨c1, cs, m1, ms, rfl, rfl, h1, hf⟩ := wfs_cons hf
  obtain ⟨c2, cs, m2, ms, rfl, rfl, h2, hf⟩ := wfs_cons hf
  obtain ⟨c3, cs, m3, ms, rfl, rfl, h3, hf⟩ := wfs_cons hf
  obtain ⟨rfl, rfl⟩ := wfs_nil hf
  obtain ⟨a, rfl, _, _⟩ := wt_int T_int64 rfl h1
  obtain ⟨e, rfl, w, _⟩ := wt_hash T_api_Hash rfl T_uint8 rfl h2
  obtain ⟨b, rfl, _⟩ := wt_bool T_bool rfl h3
  exact ⟨⟨a, e, b⟩, rfl, w⟩
theorem wt_Slots {G : Heap} {R d : Nat} {v : AVal} {m : Nat} (h : wt T G R (d + 4) t_sl_api_Slot v m) : ∃ l : List SlotM, RoSl 34 G v (l.map SlotM.av) ∧ (∀ s ∈ l, s.ok) ∧ l.length * 48 ≤ R := by
  obtain ⟨xs, ms, hro, hall, hms, hR, _⟩ := wt_ro SlotM.av (fun u m => u.ok) T_sl_api_Slot rfl T_api_Slot (fun c m h => by obtain ⟨u, hu, ho⟩ := wt_Slot h; exact ⟨u, hu, ho⟩) h
  refine ⟨xs, hro, fun u hu => ?_, hR⟩
  obtain ⟨m, hm, _⟩ := hall.mem hu
  exact hm

theorem veq_slot {a b : SlotM} (ha : a.ok) (hb : b.ok) : veqD T 9 t_api_Slot a.av b.av = some (decide (a = b)) := by
  obtain ⟨ai, ash, af⟩ := a
  obtain ⟨bi, bsh, bf⟩ := b
  have ha : ash.length = 32 := ha
  have hb : bsh.length = 32 := hb
  have h1 : veqD T 8 t_int64 (.int .i64 ai) (.int .i64 bi) = some (decide (ai = bi)) := by
    rw [veqD]
    simp only [T_int64]
    show (if IntKind.i64 = IntKind.i64 then some (decide (ai = bi)) else none) = _
    rw [if_pos rfl]
  have h2 : veqD T 8 t_api_Hash (.agg (ash.map u8v)) (.agg (bsh.map u8v)) = some (decide (ash = bsh)) := by
    rw [veqD_arr T_api_Hash rfl T_uint8]
    exact eqA_u8 T_uint8 rfl rfl 6 32 _ _ ha hb
  have h3 : veqD T 8 t_bool (.bool af) (.bool bf) = some (af == bf) := by
    rw [veqD]
    simp only [T_bool]
    rfl
  have f1 : ∀ n, vfits ti_int64 (.int .i64 n) = true := fun _ => rfl
  have f2 : ∀ n, vfits ti_bool (.bool n) = true := fun _ => rfl
  rw [veqD]
  simp only [T_api_Slot]
  show eqF T (veqD T 8) [(t_int64, 0), (t_api_Hash, 1), (t_bool, 33)] [.int .i64 ai, .agg (ash.map u8v), .bool af] [.int .i64 bi, .agg (bsh.map u8v), .bool bf] 0 = _
  have o1 : ti_int64.size = 1 := rfl
  have o2 : ti_api_Hash.size = 32 := rfl
  simp only [eqF, T_int64, T_api_Hash, T_bool, h1, h2, h3, f1, f2, fits32 ha, fits32 hb, o1, o2]
  by_cases e1 : ai = bi
  · by_cases e2 : ash = bsh
    · by_cases e3 : af = bf
      · subst e1 e2 e3; simp
      · subst e1 e2
        have : (af == bf) = false := by simp [e3]
        simp [this, e3]
    · simp [e1, e2]
  · simp [e1]
theorem slot_eql {a b : SlotM} (ha : a.ok) (hb : b.ok) : vbin T .eql t_api_Slot a.av b.av = some (.bool (decide (a = b))) := by
  have := veq_slot ha hb
  unfold SlotM.av at this ⊢
  simp only [vbin, this]
theorem slot_neq {a b : SlotM} (ha : a.ok) (hb : b.ok) : vbin T .neq t_api_Slot a.av b.av = some (.bool (!decide (a = b))) := by
  have := veq_slot ha hb
  unfold SlotM.av at this ⊢
  simp only [vbin, this]

section
variable {F0 : List AId} {G0 G : Heap} {ps : List LP} {v : AVal} {l : List SlotM} {j : Nat} {s : SlotM} {x : Int}
theorem slot_at (h : IsSl 34 G v (l.map SlotM.av)) (hx : x = (j : Int)) (hj : l[j]? = some s) : ∃ a, viaddr T t_sl_api_Slot v (.int .i64 x) = some a ∧ vload T G t_api_Slot a = some s.av := by
  subst hx
  exact h.at_ (k := .i64) T_sl_api_Slot rfl T_api_Slot (map_slots l hj) rfl
theorem slot_full (h : IsSl 34 G v (l.map SlotM.av)) (hx : x = (j : Int)) (hj : l[j]? = some s) (ho : s.ok) : ∃ a b, viaddr T t_sl_api_Slot v (.int .i64 x) = some a ∧ vfaddr T t_api_Slot a 2 = some b ∧ vload T G t_bool b = some (.bool s.full) := by
  subst hx
  have h1 : szs (s.secret.map u8v) = 32 := by rw [szs_uni (n := 1) (uni_u8 _)]; simp [show s.secret.length = 32 from ho]
  exact IsSl.fld (k := .i64) (cs := s.cs) T_sl_api_Slot rfl T_api_Slot (fs := [(t_int64, 0), (t_api_Hash, 1), (t_bool, 33)]) (f := 2) (o := 33) rfl rfl T_bool (by decide) h (map_slots l hj) (by simp [SlotM.cs, szs, Esc.sz, h1]) rfl rfl
theorem slot_index (h : IsSl 34 G v (l.map SlotM.av)) (hx : x = (j : Int)) (hj : l[j]? = some s) : ∃ a b, viaddr T t_sl_api_Slot v (.int .i64 x) = some a ∧ vfaddr T t_api_Slot a 0 = some b ∧ vload T G t_int64 b = some (.int .i64 s.index) := by
  subst hx
  exact IsSl.fld (k := .i64) (cs := s.cs) T_sl_api_Slot rfl T_api_Slot (fs := [(t_int64, 0), (t_api_Hash, 1), (t_bool, 33)]) (f := 0) (o := 0) rfl rfl T_int64 (by decide) h (map_slots l hj) rfl rfl rfl
theorem slot_secret (h : IsSl 34 G v (l.map SlotM.av)) (hx : x = (j : Int)) (hj : l[j]? = some s) (ho : s.ok) : ∃ a b, viaddr T t_sl_api_Slot v (.int .i64 x) = some a ∧ vfaddr T t_api_Slot a 1 = some b ∧ vload T G t_api_Hash b = some (.agg (s.secret.map u8v)) := by
  subst hx
  exact IsSl.fld (k := .i64) (cs := s.cs) T_sl_api_Slot rfl T_api_Slot (fs := [(t_int64, 0), (t_api_Hash, 1), (t_bool, 33)]) (f := 1) (o := 1) rfl rfl T_api_Hash (by decide) h (map_slots l hj) (by simp [SlotM.cs, szs, Esc.sz]) rfl (fits32 ho)
theorem slots_len (h : IsSl 34 G v (l.map SlotM.av)) : vlen T G t_sl_api_Slot v = some (.int .i64 (l.length : Nat)) := by
  rw [h.len (i := ti_sl_api_Slot) T_sl_api_Slot rfl, List.length_map]
theorem slot_put {i : Nat} (hx : x = (j : Int)) (hs : Sp F0 G0 ps G) (hi : ps[i]? = some (OwnL 34 v (l.map SlotM.av))) (hj : j < l.length) (ho : s.ok) :
    ∃ a, viaddr T t_sl_api_Slot v (.int .i64 x) = some a ∧ ∀ K : Heap → Prop, (∀ G', Sp F0 G0 (ps.set i (OwnL 34 v ((l.set j s).map SlotM.av))) G' → K G') → wg (vstore T G t_api_Slot a s.av) K := by
  rw [List.map_set]
  exact own_put (k := .i64) T_sl_api_Slot rfl T_api_Slot hx hs hi (by simpa using hj) (SlotM.sz ho) rfl (SlotM.okv s)
/-- A row with a slot in it. -/
theorem slot_row {i : Nat} {id : AId} (hs : Sp F0 G0 ps G) (hi : ps[i]? = some (RowL id s.av)) (ho : s.ok) :
    vload T G t_int64 (.ptr id [0] 0) = some (.int .i64 s.index) ∧ vload T G t_api_Hash (.ptr id [1] 1) = some (.agg (s.secret.map u8v)) ∧ vload T G t_bool (.ptr id [2] 33) = some (.bool s.full) ∧ vload T G t_api_Slot (.ptr id [] 0) = some s.av := by
  have hg := RowL.own hs hi
  have h1 : szs (s.secret.map u8v) = 32 := by rw [szs_uni (n := 1) (uni_u8 _)]; simp [show s.secret.length = 32 from ho]
  refine ⟨vload_fld (c := .int .i64 s.index) hg rfl rfl rfl T_int64 rfl, vload_fld (c := .agg (s.secret.map u8v)) hg rfl rfl rfl T_api_Hash (fits32 ho), vload_fld (cs := s.cs) (c := .bool s.full) hg rfl (by simp [SlotM.cs, szs, Esc.sz, h1]) rfl T_bool rfl, whole_load T_api_Slot hg (SlotM.fits ho)⟩
theorem slot_store {i : Nat} {id : AId} {s' : SlotM} (hs : Sp F0 G0 ps G) (hi : ps[i]? = some (RowL id s.av)) (h : s.ok) (h' : s'.ok) {K : Heap → Prop} (hK : ∀ G', Sp F0 G0 (ps.set i (RowL id s'.av)) G' → K G') : wg (vstore T G t_api_Slot (.ptr id [] 0) s'.av) K := by
  refine wg_of (whole_store T_api_Slot (RowL.own hs hi) (SlotM.fits h') (by rw [SlotM.sz h, SlotM.sz h']) (SlotM.okv _)) ?_
  exact hK _ (Sp.setRow hs hi _)
theorem newS {K : AId → Heap → Prop} (hs : Sp F0 G0 ps G) (ho : s.ok) (hK : ∀ i G', Sp F0 G0 (RowL i s.av :: ps) G' → K i G') :
    aNew G (.own z_api_Slot) fun i G2 => wg (vstore T G2 t_api_Slot (.ptr i [] 0) s.av) fun G3 => K i G3 := newVal hs T_api_Slot (SlotM.fits ho) (by rw [zSlot, SlotM.sz zeroS_ok, SlotM.sz ho]) (SlotM.okv s) hK
theorem grow_slot {i : Nat} {K : AVal → Heap → Prop} (hs : Sp F0 G0 ps G) (hi : ps[i]? = some (OwnL 34 v (l.map SlotM.av))) (ho : s.ok) (hl : (l.length + 1) * 48 ≤ 140737488355328) (hK : ∀ v' G', Sp F0 G0 (ps.set i (OwnL 34 v' ((l ++ [s]).map SlotM.av))) G' → K v' G') :
    aBuildSlice T t_sl_api_Slot 1 [(0, s.av)] G fun w G' => aAppend T G' t_sl_api_Slot t_sl_api_Slot v w K := by
  refine growV T_sl_api_Slot rfl T_api_Slot (SlotM.sz zeroS_ok) (by decide) hs hi (SlotM.sz ho) (SlotM.okv s) (by decide) (by rw [List.length_map]; exact hl) fun s' G' h => hK s' G' ?_
  rw [List.map_append]
  exact h
end
theorem build_slot {n : Int} {h : List UInt8} (hl : h.length = 32) (b : Bool) : vbuild T t_api_Slot [(0, .int .i64 n), (1, .agg (h.map u8v)), (2, .bool b)] = some (SlotM.av ⟨n, h, b⟩) := by
  refine (build_struct (zs := zeroS.cs) T_api_Slot rfl rfl rfl (plOk_of (by decide +kernel)) ?_).trans rfl
  intro p hp
  simp only [List.mem_cons, List.not_mem_nil, or_false] at hp
  have e1 : szs (h.map u8v) = 32 := by rw [szs_uni (n := 1) (uni_u8 _)]; simp [hl]
  have e2 : szs (zero32.map u8v) = 32 := by rw [szs_uni (n := 1) (uni_u8 _)]; rfl
  rcases hp with rfl | rfl | rfl
  · rfl
  · simp [zeroS, SlotM.cs, Esc.sz, e1, e2]
  · simp [zeroS, SlotM.cs, Esc.sz]
theorem build_index (n : Int) : vbuild T t_api_Slot [(0, .int .i64 n)] = some (SlotM.av ⟨n, zero32, false⟩) := by
  refine (build_struct (zs := zeroS.cs) T_api_Slot rfl rfl rfl (plOk_of (by decide +kernel)) ?_).trans rfl
  intro p hp
  simp only [List.mem_cons, List.not_mem_nil, or_false] at hp
  subst hp
  simp [zeroS, SlotM.cs, Esc.sz]
theorem build_zero : vbuild T t_api_Slot [] = some zeroS.av := rfl

/-! ### What is asked -/
def atS (l : List SlotM) (j : Nat) : SlotM := if (l.getD j zeroS).full = true then l.getD j zeroS else zeroS
def badS (secret : List UInt8) (n : Int) (s : SlotM) : Bool := s.full && !decide (deriveS secret n s.index = (s.secret, 0))
def okputS (l : List SlotM) (n : Int) (secret : List UInt8) : Bool := (List.range (level (pl n))).all fun j => !badS secret n (atS l j)
def laidS (l : List SlotM) (n : Int) (secret : List UInt8) : List SlotM := (List.range 49).map fun j => if j = level (pl n) then ⟨n, secret, true⟩ else atS l j
def putS (l : List SlotM) (n : Int) (secret : List UInt8) : List SlotM × Int :=
  if 49 < l.length then ([], 1) else if okN n = true then (if okputS l n secret = true then (laidS l n secret, 0) else ([], 100)) else ([], 90)
def getL (n : Int) : List SlotM → List UInt8 × Int
  | [] => (zero32, 5)
  | s :: l => if s.full = true ∧ (deriveS s.secret s.index n).2 = 0 then ((deriveS s.secret s.index n).1, 0) else getL n l
def getS (l : List SlotM) (n : Int) : List UInt8 × Int := if 49 < l.length then (zero32, 1) else if okN n = true then getL n l else (zero32, 90)

theorem atS_some {l : List SlotM} {j : Nat} {s : SlotM} (h : l[j]? = some s) : atS l j = if s.full = true then s else zeroS := by
  unfold atS
  rw [List.getD_eq_getElem?_getD, h]
  rfl
theorem atS_none {l : List SlotM} {j : Nat} (h : l.length ≤ j) : atS l j = zeroS := by
  unfold atS
  rw [List.getD_eq_getElem?_getD, List.getElem?_eq_none h]
  rfl
theorem atS_ok {l : List SlotM} (h : ∀ s ∈ l, s.ok) (j : Nat) : (atS l j).ok := by
  by_cases hj : j < l.length
  · have hx : l[j]? = some l[j] := List.getElem?_eq_getElem hj
    rw [atS_some hx]
    split
    · exact h _ (List.mem_of_getElem? hx)
    · exact zeroS_ok
  · rw [atS_none (by omega)]
    exact zeroS_ok
theorem laidS_ok {l : List SlotM} {n : Int} {secret : List UInt8} (h : ∀ s ∈ l, s.ok) (hs : secret.length = 32) : ∀ s ∈ laidS l n secret, s.ok := by
  intro s hm
  unfold laidS at hm
  obtain ⟨j, _, rfl⟩ := List.mem_map.1 hm
  split
  · exact hs
  · exact atS_ok h j
theorem putS_ok {l : List SlotM} {n : Int} {secret : List UInt8} (h : ∀ s ∈ l, s.ok) (hs : secret.length = 32) : ∀ s ∈ (putS l n secret).1, s.ok := by
  unfold putS
  intro s hm
  split at hm
  · simp at hm
  · split at hm
    · split at hm
      · exact laidS_ok h hs s hm
      · simp at hm
    · simp at hm
theorem laidS_len (l : List SlotM) (n : Int) (secret : List UInt8) : (laidS l n secret).length = 49 := by simp [laidS]
theorem okputS_iff {l : List SlotM} {n : Int} {secret : List UInt8} : okputS l n secret = true ↔ ∀ j, j < level (pl n) → badS secret n (atS l j) = false := by
  unfold okputS
  rw [List.all_eq_true]
  constructor
  · intro h j hj
    have := h j (List.mem_range.2 hj)
    simpa using this
  · intro h j hj
    have := h j (List.mem_range.1 hj)
    simp [this]
theorem putS_len (l : List SlotM) (n : Int) (secret : List UInt8) : (putS l n secret).1.length ≤ 49 := by
  unfold putS
  split
  · simp
  · split
    · split
      · rw [laidS_len]; omega
      · simp
    · simp
theorem getL_len {n : Int} : ∀ {l : List SlotM}, (∀ s ∈ l, s.ok) → (getL n l).1.length = 32
  | [], _ => rfl
  | s :: l, h => by
    unfold getL
    split
    · exact len_derive (h s (by simp)) _ _
    · exact getL_len fun x hx => h x (by simp [hx])
theorem getS_len {n : Int} {l : List SlotM} (h : ∀ s ∈ l, s.ok) : (getS l n).1.length = 32 := by
  unfold getS
  split
  · rfl
  · split
    · exact getL_len h
    · rfl

end Go.Esc.M
