import Derived.Test.YtooeiljhobdfpaaLDb
/- Own work. Chapter 14: commitments read, in the document. -/
set_option linter.unusedSimpArgs false
set_option linter.unusedVariables false
namespace Go.Esc.M
open Go Go.Esc

def slice (b : List UInt8) (at_ n : Nat) : List UInt8 := (b.drop at_).take n
theorem length_slice {b : List UInt8} {at_ n : Nat} (h : at_ + n ≤ b.length) : (slice b at_ n).length = n := by
  rw [slice, List.length_take, List.length_drop]; omega
theorem num_slice_one {b : List UInt8} {a : Nat} (h : a < b.length) : num (slice b a 1) = b[a].toNat := by
  have e0 : (slice b a 1) = [b[a]] := by
    rw [slice, List.drop_eq_getElem_cons h]
    rfl
  rw [e0]; simp [num, numA]
def penAt (b : List UInt8) (at_ : Nat) : PenM :=
  ⟨num (slice b at_ 1) == 1, IntKind.i64.wrap (num (slice b (at_ + 1) 8) : Nat), IntKind.i64.wrap (num (slice b (at_ + 9) 8) : Nat), slice b (at_ + 17) 32⟩
def pensAt (b : List UInt8) : Nat → Nat → List PenM
  | _, 0 => []
  | at_, k + 1 => penAt b at_ :: pensAt b (at_ + 49) k
theorem pensAt_succ (b : List UInt8) : ∀ (k at_ : Nat), pensAt b at_ (k + 1) = pensAt b at_ k ++ [penAt b (at_ + 49 * k)]
  | 0, at_ => by simp [pensAt]
  | k + 1, at_ => by
    rw [pensAt, pensAt_succ b k, pensAt, List.cons_append, show at_ + 49 + 49 * k = at_ + 49 * (k + 1) by omega]
theorem length_pensAt (b : List UInt8) : ∀ (k at_ : Nat), (pensAt b at_ k).length = k
  | 0, _ => rfl
  | k + 1, at_ => by rw [pensAt, List.length_cons, length_pensAt b k]
theorem hw64 (n : Int) : I64 (IntKind.i64.wrap n) := i64_wf.1 (wf_wrap .i64 n)
theorem penAt_ok {b : List UInt8} {at_ : Nat} (h : at_ + 49 ≤ b.length) : (penAt b at_).ok := ⟨hw64 _, hw64 _, length_slice (by omega)⟩
theorem pensAt_ok {b : List UInt8} : ∀ (k at_ : Nat), at_ + 49 * k ≤ b.length → ∀ p ∈ pensAt b at_ k, p.ok
  | 0, _, _ => by simp [pensAt]
  | k + 1, at_, h => by
    intro p hp
    rw [pensAt] at hp
    rcases List.mem_cons.1 hp with rfl | hp
    · exact penAt_ok (by omega)
    · exact pensAt_ok k _ (by omega) p hp

theorem takes_at {b : List UInt8} {at_ n : Nat} {nn : Int} (hn : nn = (n : Int)) (h : at_ + n ≤ b.length) : takes (b.drop at_, 0) nn = (slice b at_ n, (b.drop (at_ + n), 0)) := by
  subst hn
  rw [takes_ok (by rw [List.length_drop]; omega), Int.toNat_natCast, List.drop_drop]
  rfl

theorem penR_at {b : List UInt8} {at_ : Nat} (h : at_ + 49 ≤ b.length) : penR (b.drop at_, 0) = (penAt b at_, (b.drop (at_ + 49), 0)) := by
  have e1 := takes_at (b := b) (at_ := at_) (n := 1) (nn := 1) rfl (by omega)
  have e2 := takes_at (b := b) (at_ := at_ + 1) (n := 8) (nn := 8) rfl (by omega)
  have e3 := takes_at (b := b) (at_ := at_ + 1 + 8) (n := 8) (nn := 8) rfl (by omega)
  have e4 := takes_at (b := b) (at_ := at_ + 1 + 8 + 8) (n := 32) (nn := 32) rfl (by omega)
  simp only [penR, e1, e2, e3, e4, fill_full (length_slice (b := b) (at_ := at_ + 1 + 8 + 8) (n := 32) (by omega))]
  rfl

theorem pensR_at {b : List UInt8} : ∀ (k at_ : Nat) (acc : List PenM), at_ + 49 * k ≤ b.length → pensR k (b.drop at_, 0) acc = (acc ++ pensAt b at_ k, (b.drop (at_ + 49 * k), 0))
  | 0, at_, acc, _ => by simp [pensR, pensAt]
  | k + 1, at_, acc, h => by
    rw [pensR, if_pos rfl, penR_at (by omega), pensR_at k _ _ (by omega), pensAt]
    simp only [List.append_assoc, List.singleton_append, show at_ + 49 + 49 * k = at_ + 49 * (k + 1) by omega]

theorem headR_at {b : List UInt8} (h : 59 ≤ b.length) : headR b = ((((num (slice b 0 1) : Nat) : Int), IntKind.i64.wrap (num (slice b 1 8) : Nat), slice b 9 32, IntKind.i64.wrap (num (slice b 41 8) : Nat), IntKind.i64.wrap (num (slice b 49 8) : Nat), num (slice b 57 2)), (b.drop 59, 0)) := by
  have e1 := takes_at (b := b) (at_ := 0) (n := 1) (nn := 1) rfl (by omega)
  have e2 := takes_at (b := b) (at_ := 0 + 1) (n := 8) (nn := 8) rfl (by omega)
  have e3 := takes_at (b := b) (at_ := 0 + 1 + 8) (n := 32) (nn := 32) rfl (by omega)
  have e4 := takes_at (b := b) (at_ := 0 + 1 + 8 + 32) (n := 8) (nn := 8) rfl (by omega)
  have e5 := takes_at (b := b) (at_ := 0 + 1 + 8 + 32 + 8) (n := 8) (nn := 8) rfl (by omega)
  have e6 := takes_at (b := b) (at_ := 0 + 1 + 8 + 32 + 8 + 8) (n := 2) (nn := 2) rfl (by omega)
  rw [List.drop_zero] at e1
  simp only [headR, e1, e2, e3, e4, e5, e6, fill_full (length_slice (b := b) (at_ := 0 + 1 + 8) (n := 32) (by omega))]

/-- What the document makes of a text, of a fitting length. -/
def comD (b : List UInt8) : Com := ⟨((num (slice b 0 1) : Nat) : Int), IntKind.i64.wrap (num (slice b 1 8) : Nat), slice b 9 32, IntKind.i64.wrap (num (slice b 41 8) : Nat), IntKind.i64.wrap (num (slice b 49 8) : Nat), pensAt b 59 ((b.length - 59) / 49)⟩

theorem length_text {c : Com} (h : c.Valid) : c.text.length = 59 + 49 * c.l.length := by
  simp only [Com.text, textB, List.length_append, length_be, h.point, length_pens h.ok]
  omega

theorem comD_text {c : Com} (h : c.Valid) : comD c.text = c := by
  have hl := length_text h
  have e := comR_text h []
  rw [List.append_nil] at e
  have hn : (headR c.text).1.2.2.2.2.2 = c.l.length := by
    rw [headR_at (by omega)]
    dsimp only
    have hx := h.arg
    have hl966 := soundP_length h.sound
    have : slice c.text 57 2 = be 2 c.l.length := by
      have e1 : c.text = (be 1 c.owner.toNat ++ be 8 (bits64 c.index) ++ c.point ++ be 8 (bits64 c.o) ++ be 8 (bits64 c.q)) ++ (be 2 c.l.length ++ c.l.flatMap PenM.bytes) := by simp [Com.text, textB]
      have e2 : (be 1 c.owner.toNat ++ be 8 (bits64 c.index) ++ c.point ++ be 8 (bits64 c.o) ++ be 8 (bits64 c.q)).length = 57 := by simp [length_be, h.point]
      rw [slice, e1, List.drop_left' e2, List.take_left' (length_be _ _)]
    rw [this, num_be2 (by omega)]
  simp only [comR, hn] at e
  have e1 : (c.text.length - 59) / 49 = c.l.length := by rw [hl]; omega
  rw [headR_at (by omega), pensR_at _ _ _ (by omega)] at e
  simp only [Prod.mk.injEq, List.nil_append] at e
  rw [comD, e1]
  exact e.1

section
variable {F0 : List AId} {G0 G : Heap} {ps : List LP} {Q : AVal → Heap → Prop}

theorem fill_set {x : List UInt8} {n j : Nat} (hx : x.length = n) (hj : j < n) : (fill n (x.take j)).set j (x[j]'(by omega)) = fill n (x.take (j + 1)) := by
  have e : x.take (j + 1) = x.take j ++ [x[j]'(by omega)] := by rw [List.take_add_one, List.getElem?_eq_getElem (by omega)]; rfl
  have h1 : (x.take j).length = j := by rw [List.length_take]; omega
  have h2 : (x.take j ++ [x[j]'(by omega)]).length = j + 1 := by rw [List.length_append, h1]; rfl
  rw [e, fill, fill, h1, h2, List.set_append_right _ _ (by omega), h1, Nat.sub_self, show n - j = (n - (j + 1)) + 1 by omega, List.replicate_succ, List.set_cons_zero, List.append_assoc]
  rfl

end
end Go.Esc.M

/- Own work. Chapter 14: ledgers compared and turned. -/
set_option linter.unusedSimpArgs false
set_option linter.unusedVariables false
namespace Go.Esc
open Go Go.RowKit
section
variable {T : Tbl} {ts e : TypeId} {si ie : TI} (ht : T ts = some si) (hd : si.desc = .slice e) (he : T e = some ie) (hz : sz ie.zero = ie.size)
variable {F0 : List AId} {G0 G : Heap} {ps : List LP} {K : AVal → Heap → Prop}
include ht hd he hz in
theorem buildV2 {a b : AVal} (hs : Sp F0 G0 ps G) (ha : sz a = ie.size) (hb : sz b = ie.size) (hie : 2 * ie.size ≤ 16777216) (hK : ∀ s' G', Sp F0 G0 (OwnL ie.size s' [a, b] :: ps) G' → K s' G') : aBuildSlice T ts 2 [(0, a), (1, b)] G K := by
  unfold aBuildSlice
  have hf : fillA (fun k => some (k * ie.size, ie.size)) (List.replicate 2 ie.zero) [(0, a), (1, b)] = some [a, b] := by simp [fillA, hz, ha, hb, szs, List.replicate]
  simp only [ht, hd, he, hf]
  refine ⟨by omega, fun id hfr => hK _ _ (hs.new (p := OwnL ie.size _ [a, b]) ⟨.inr ⟨id, 2, 2, [a, b], rfl, Heap.upd_self _ _ _, rfl, Nat.le_refl _, by simp [Esc.uni, ha, hb], rfl⟩, rfl⟩ ?_)⟩
  simpa [rowOf] using Ch.new hfr
end
end Go.Esc
namespace Go.Esc.M
open Go Go.Esc

theorem veq_hash {a b : List UInt8} (ha : a.length = 32) (hb : b.length = 32) : veqD T 8 t_api_Hash (.agg (a.map u8v)) (.agg (b.map u8v)) = some (decide (a = b)) := by
  rw [veqD_arr (i := ti_api_Hash) T_api_Hash rfl T_uint8, eqA_u8 (ie := ti_uint8) T_uint8 rfl rfl 6 32 a b ha hb]

theorem eqF_pen {p p' : PenM} (h : p.ok) (h' : p'.ok) : eqF T (veqD T 8) [(t_bool, 0), (t_int64, 1), (t_int64, 2), (t_api_Hash, 3)] [.bool p.ours, .int .i64 p.id, .int .i64 p.amount, .agg (p.hash.map u8v)] [.bool p'.ours, .int .i64 p'.id, .int .i64 p'.amount, .agg (p'.hash.map u8v)] 0 = some (decide (p = p')) := by
  have z : ∀ {x : List UInt8}, x.length = 32 → vfits ti_api_Hash (.agg (x.map u8v)) = true := fun {x} hx => by
    have h1 : szs (x.map u8v) = 32 := by rw [szs_uni (n := 1) (uni_u8 x)]; simp [hx]
    simp [vfits, sz, h1, ti_api_Hash, AVal.isAgg, ADesc.isAgg]
  have z1 := z h.hash
  have z2 := z h'.hash
  have q1 : veqD T 8 t_bool (.bool p.ours) (.bool p'.ours) = some (p.ours == p'.ours) := by
    rw [veqD]; simp only [T_bool]; rfl
  have q2 : ∀ m n : Int, veqD T 8 t_int64 (.int .i64 m) (.int .i64 n) = some (decide (m = n)) := fun m n => by
    rw [veqD]; simp only [T_int64]; rfl
  have v1 : ∀ b : Bool, vfits ti_bool (.bool b) = true := fun b => rfl
  have v2 : ∀ m : Int, vfits ti_int64 (.int .i64 m) = true := fun m => rfl
  have s1 : ti_bool.size = 1 := rfl
  have s2 : ti_int64.size = 1 := rfl
  obtain ⟨a, b, c, d⟩ := p
  obtain ⟨a', b', c', d'⟩ := p'
  dsimp only at *
  have q3 := veq_hash h.hash h'.hash
  dsimp only at q3
  simp only [eqF, T_bool, T_int64, T_api_Hash, v1, v2, z1, z2, s1, s2, Nat.zero_add, q1, q2, q3, beq_self_eq_true, Bool.and_self, Nat.reduceAdd, if_true]
  by_cases h1 : a = a'
  · subst h1
    by_cases h2 : b = b'
    · subst h2
      by_cases h3 : c = c'
      · subst h3
        by_cases h4 : d = d'
        · subst h4; simp
        · simp [h4]
      · simp [h3]
    · simp [h2]
  · have : (a == a') = false := by simpa using h1
    simp [this, h1]

theorem veq_pen {p p' : PenM} (h : p.ok) (h' : p'.ok) : veqD T 9 t_api_Pending p.av p'.av = some (decide (p = p')) := by
  rw [← eqF_pen h h', veqD]
  have e1 : ti_api_Pending.desc = .struct [(t_bool, 0), (t_int64, 1), (t_int64, 2), (t_api_Hash, 3)] := rfl
  simp only [T_api_Pending, e1]
  rfl

theorem vbin_peql {p p' : PenM} (h : p.ok) (h' : p'.ok) : vbin T .eql t_api_Pending p.av p'.av = some (.bool (decide (p = p'))) := by
  have := veq_pen h h'
  unfold PenM.av at this ⊢
  simp only [vbin, this]
theorem vbin_pneq {p p' : PenM} (h : p.ok) (h' : p'.ok) : vbin T .neq t_api_Pending p.av p'.av = some (.bool (!decide (p = p'))) := by
  have := veq_pen h h'
  unfold PenM.av at this ⊢
  simp only [vbin, this]

/-- A ledger's list, turned so that its entries of the other side stand on this. -/
def turnS (b : Bool) (l : List PenM) : List PenM := (l.filter (fun p => p.ours != b)).map (fun p => { p with ours := b })
def turnL (l : List PenM) : List PenM := turnS true l ++ turnS false l
theorem turnS_take {b : Bool} {l : List PenM} {j : Nat} {p : PenM} (h : l[j]? = some p) : turnS b (l.take (j + 1)) = turnS b (l.take j) ++ (if p.ours = b then [] else [{ p with ours := b }]) := by
  rw [List.take_add_one, h]
  unfold turnS
  rw [List.filter_append, List.map_append]
  congr 1
  cases ho : p.ours <;> cases b <;> simp [ho]
theorem length_turnS (b : Bool) (l : List PenM) : (turnS b l).length ≤ l.length := by
  rw [turnS, List.length_map]; exact List.length_filter_le _ _
theorem turnS_le (b : Bool) (l : List PenM) (j : Nat) : (turnS b (l.take j)).length ≤ (turnS b l).length := by
  rw [turnS, turnS, List.length_map, List.length_map]
  exact ((List.take_sublist j l).filter _).length_le
theorem PenM.ok.side {p : PenM} (h : p.ok) (b : Bool) : ({ p with ours := b } : PenM).ok := ⟨h.id, h.amount, h.hash⟩
theorem turnS_ok {b : Bool} {l : List PenM} (h : ∀ p ∈ l, p.ok) : ∀ p ∈ turnS b l, p.ok := by
  intro p hp
  rw [turnS] at hp
  obtain ⟨q, hq, rfl⟩ := List.mem_map.1 hp
  exact (h q (List.mem_filter.1 hq).1).side b
theorem turnL_ok {l : List PenM} (h : ∀ p ∈ l, p.ok) : ∀ p ∈ turnL l, p.ok := by
  intro p hp
  rcases List.mem_append.1 hp with hp | hp
  · exact turnS_ok h p hp
  · exact turnS_ok h p hp
theorem length_turnL (l : List PenM) : (turnL l).length = l.length := by
  induction l with
  | nil => rfl
  | cons p l ih =>
    have : ∀ b, (turnS b (p :: l)).length = (turnS b l).length + (if p.ours = b then 0 else 1) := by
      intro b
      unfold turnS
      cases ho : p.ours <;> cases b <;> simp [ho]
    rw [turnL, List.length_append] at ih ⊢
    rw [this, this, List.length_cons]
    cases ho : p.ours <;> simp [ho] <;> omega

section
variable {F0 : List AId} {G0 G : Heap} {ps : List LP} {Q : AVal → Heap → Prop}

theorem pen_side {i : Nat} {id : AId} {p : PenM} (hs : Sp F0 G0 ps G) (hi : ps[i]? = some (RowL id p.av)) (b : Bool) {K : Heap → Prop} (hK : ∀ G', Sp F0 G0 (ps.set i (RowL id ({ p with ours := b } : PenM).av)) G' → K G') : wg (vstore T G t_bool (.ptr id [0] 0) (.bool b)) K := by
  refine wg_of (vstore_fld (c := .bool b) (u := .bool p.ours) (RowL.own hs hi) rfl rfl T_bool rfl rfl rfl) ?_
  exact hK _ (Sp.setRow hs hi _)

end
end Go.Esc.M
