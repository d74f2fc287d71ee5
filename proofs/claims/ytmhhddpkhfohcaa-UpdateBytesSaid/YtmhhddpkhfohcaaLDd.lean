/- Own work. Chapter 14: ledgers compared and turned. -/
import Derived.Test.YtmhhddpkhfohcaaLDb
set_option linter.unusedSimpArgs false
set_option linter.unusedVariables false
namespace Go.Esc
open Go Go.RowKit
section
variable {T : Tbl} {ts e : TypeId} {si ie : TI} (ht : T ts = some si) (hd : si.desc = .slice e) (he : T e = some ie) (hz : sz ie.zero = ie.size)
variable {F0 : List AId} {G0 G : Heap} {ps : List LP} {K : AVal → Heap → Prop}
include ht hd he hz in
theorem buildV2 {a b : AVal} (hs : Sp F0 G0 ps G) (ha : sz a = ie.size) (hb : sz b = ie.size) (hie : 2 * ie.size ≤ 16777216) (hK : ∀ s' G', Sp F0 G0 (OwnL ie.size s' [a, b] :: ps) G' → K s' G') : aBuildSlice T ts 2 [(0, a), (1, b)] G K := by
  unfold aBuildSlice
  have hf : fillA (fun k => some (k * ie.size, ie.size)) (List.replicate 2 ie.zero) [(0, a), (1, b)] = some [a, b] := by simp [fillA, hz, ha, hb, szs, List.replicate]
  simp only [ht, hd, he, hf]
  refine ⟨by omega, fun id hfr => hK _ _ (hs.new (p := OwnL ie.size _ [a, b]) ⟨.inr ⟨id, 2, 2, [a, b], rfl, Heap.upd_self _ _ _, rfl, Nat.le_refl _, by simp [Esc.uni, ha, hb], rfl⟩, rfl⟩ ?_)⟩
  simpa [rowOf] using Ch.new hfr
end
end Go.Esc
namespace Go.Esc.M
open Go Go.Esc

theorem veq_hash {a b : List UInt8} (ha : a.length = 32) (hb : b.length = 32) : veqD T 8 t_api_Hash (.agg (a.map u8v)) (.agg (b.map u8v)) = some (decide (a = b)) := by
  rw [veqD_arr (i := ti_api_Hash) T_api_Hash rfl T_uint8, eqA_u8 (ie := ti_uint8) T_uint8 rfl rfl 6 32 a b ha hb]

theorem eqF_pen {p p' : PenM} (h : p.ok) (h' : p'.ok) : eqF T (veqD T 8) [(t_bool, 0), (t_int64, 1), (t_int64, 2), (t_api_Hash, 3)] [.bool p.ours, .int .i64 p.id, .int .i64 p.amount, .agg (p.hash.map u8v)] [.bool p'.ours, .int .i64 p'.id, .int .i64 p'.amount, .agg (p'.hash.map u8v)] 0 = some (decide (p = p')) := by
  have z : ∀ {x : List UInt8}, x.length = 32 → vfits ti_api_Hash (.agg (x.map u8v)) = true := fun {x} hx => by
    have h1 : szs (x.map u8v) = 32 := by rw [szs_uni (n := 1) (uni_u8 x)]; simp [hx]
    simp [vfits, sz, h1, ti_api_Hash, AVal.isAgg, ADesc.isAgg]
  have z1 := z h.hash
  have z2 := z h'.hash
  have q1 : veqD T 8 t_bool (.bool p.ours) (.bool p'.ours) = some (p.ours == p'.ours) := by
    rw [veqD]; simp only [T_bool]; rfl
  have q2 : ∀ m n : Int, veqD T 8 t_int64 (.int .i64 m) (.int .i64 n) = some (decide (m = n)) := fun m n => by
    rw [veqD]; simp only [T_int64]; rfl
  have v1 : ∀ b : Bool, vfits ti_bool (.bool b) = true := fun b => rfl
  have v2 : ∀ m : Int, vfits ti_int64 (.int .i64 m) = true := fun m => rfl
  have s1 : ti_bool.size = 1 := rfl
  have s2 : ti_int64.size = 1 := rfl
  obtain ⟨a, b, c, d⟩ := p
  obtain ⟨a', b', c', d'⟩ := p'
  dsimp only at *
  have q3 := veq_hash h.hash h'.hash
  dsimp only at q3
  simp only [eqF, T_bool, T_int64, T_api_Hash, v1, v2, z1, z2, s1, s2, Nat.zero_add, q1, q2, q3, beq_self_eq_true, Bool.and_self, Nat.reduceAdd, if_true]
  by_cases h1 : a = a'
  · subst h1
    by_cases h2 : b = b'
    · subst h2
      by_cases h3 : c = c'
      · subst h3
        by_cases h4 : d = d'
        · subst h4; simp
        · simp [h4]
      · simp [h3]
    · simp [h2]
  · have : (a == a') = false := by simpa using h1
    simp [this, h1]

/-- A ledger's list, turned so that its entries of the other side stand on this. -/
def turnS (b : Bool) (l : List PenM) : List PenM := (l.filter (fun p => p.ours != b)).map (fun p => { p with ours := b })
def turnL (l : List PenM) : List PenM := turnS true l ++ turnS false l
theorem turnS_take {b : Bool} {l : List PenM} {j : Nat} {p : PenM} (h : l[j]? = some p) : turnS b (l.take (j + 1)) = turnS b (l.take j) ++ (if p.ours = b then [] else [{ p with ours := b }]) := by
  rw [List.take_add_one, h]
  unfold turnS
  rw [List.filter_append, List.map_append]
  congr 1
  cases ho : p.ours <;> cases b <;> simp [ho]
theorem length_turnS (b : Bool) (l : List PenM) : (turnS b l).length ≤ l.length := by
  rw [turnS, List.length_map]; exact List.length_filter_le _ _
theorem turnS_le (b : Bool) (l : List PenM) (j : Nat) : (turnS b (l.take j)).length ≤ (turnS b l).length := by
  rw [turnS, turnS, List.length_map, List.length_map]
  exact ((List.take_sublist j l).filter _).length_le
theorem PenM.ok.side {p : PenM} (h : p.ok) (b : Bool) : ({ p with ours := b } : PenM).ok := ⟨h.id, h.amount, h.hash⟩
theorem turnS_ok {b : Bool} {l : List PenM} (h : ∀ p ∈ l, p.ok) : ∀ p ∈ turnS b l, p.ok := by
  intro p hp
  rw [turnS] at hp
  obtain ⟨q, hq, rfl⟩ := List.mem_map.1 hp
  exact (h q (List.mem_filter.1 hq).1).side b
theorem turnL_ok {l : List PenM} (h : ∀ p ∈ l, p.ok) : ∀ p ∈ turnL l, p.ok := by
  intro p hp
  rcases List.mem_append.1 hp with hp | hp
  · exact turnS_ok h p hp
  · exact turnS_ok h p hp
theorem length_turnL (l : List PenM) : (turnL l).length = l.length := by
  induction l with
  | nil => rfl
  | cons p l ih =>
    have : ∀ b, (turnS b (p :: l)).length = (turnS b l).length + (if p.ours = b then 0 else 1) := by
      intro b
      unfold turnS
      cases ho : p.ours <;> cases b <;> simp [ho]
    rw [turnL, List.length_append] at ih ⊢
    rw [this, this, List.length_cons]
    cases ho : p.ours <;> simp [ho] <;> omega

section
variable {F0 : List AId} {G0 G : Heap} {ps : List LP} {Q : AVal → Heap → Prop}

theorem pen_side {i : Nat} {id : AId} {p : PenM} (hs : Sp F0 G0 ps G) (hi : ps[i]? = some (RowL id p.av)) (b : Bool) {K : Heap → Prop} (hK : ∀ G', Sp F0 G0 (ps.set i (RowL id ({ p with ours := b } : PenM).av)) G' → K G') : wg (vstore T G t_bool (.ptr id [0] 0) (.bool b)) K := by
  refine wg_of (vstore_fld (c := .bool b) (u := .bool p.ours) (RowL.own hs hi) rfl rfl T_bool rfl rfl rfl) ?_
  exact hK _ (Sp.setRow hs hi _)

end
end Go.Esc.M
