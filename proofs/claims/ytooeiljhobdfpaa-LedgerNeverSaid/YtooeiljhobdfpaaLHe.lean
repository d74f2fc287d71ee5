import Derived.Test.YtooeiljhobdfpaaLHb
/- Own work. Chapter 2: the sum, in the program: texts; keys. -/
set_option linter.unusedSimpArgs false
set_option linter.unusedVariables false
namespace Go.Esc
open Go Go.RowKit

theorem CapSl.ch {n : Nat} {G G' : Heap} {E : List AId} {v : AVal} {vs : List AVal} (h : CapSl n G v vs) (hc : Ch [] G E G') : CapSl n G' v vs := by
  rcases h with ⟨id, p, st, off, len, cap, rfl, hl, h⟩ | h
  · exact .inl ⟨_, _, _, _, _, _, rfl, hl, selems_le (fun j o hj => hc.others j o hj (by simp)) h⟩
  · exact .inr h

section
variable {T : Tbl} {ts e : TypeId} {si ie : TI} (ht : T ts = some si) (hd : si.desc = .slice e) (he : T e = some ie) (hz : sz ie.zero = ie.size)

include ht hd he hz in
theorem build1 {G : Heap} {c : AVal} {K : AVal → Heap → Prop} (hc : sz c = ie.size) (hie : ie.size ≤ 16777216) (hK : ∀ s' G', Own ie.size G' s' [c] → Ch [] G (rowOf s').toList G' → K s' G') : aBuildSlice T ts 1 [(0, c)] G K := by
  unfold aBuildSlice
  have hf : fillA (fun k => some (k * ie.size, ie.size)) (List.replicate 1 ie.zero) [(0, c)] = some [c] := by simp [fillA, hz, hc, szs]
  simp only [ht, hd, he, hf]
  refine ⟨by omega, fun id hfr => hK _ _ (.inr ⟨id, 1, 1, [c], rfl, Heap.upd_self _ _ _, rfl, Nat.le_refl _, by simp [Esc.uni, hc], rfl⟩) ?_⟩
  simpa [rowOf] using Ch.new hfr

include ht hd he hz in
theorem build2 {G : Heap} {a b : AVal} {K : AVal → Heap → Prop} (ha : sz a = ie.size) (hb : sz b = ie.size) (hie : 2 * ie.size ≤ 16777216) (hK : ∀ s' G', Own ie.size G' s' [a, b] → Ch [] G (rowOf s').toList G' → K s' G') : aBuildSlice T ts 2 [(0, a), (1, b)] G K := by
  unfold aBuildSlice
  have hf : fillA (fun k => some (k * ie.size, ie.size)) (List.replicate 2 ie.zero) [(0, a), (1, b)] = some [a, b] := by simp [fillA, hz, ha, hb, szs, List.replicate]
  simp only [ht, hd, he, hf]
  refine ⟨by omega, fun id hfr => hK _ _ (.inr ⟨id, 2, 2, [a, b], rfl, Heap.upd_self _ _ _, rfl, Nat.le_refl _, by simp [Esc.uni, ha, hb], rfl⟩) ?_⟩
  simpa [rowOf] using Ch.new hfr

end

theorem tdiv_nat (a b : Nat) : (a : Int).tdiv (b : Int) = ((a / b : Nat) : Int) := by
  rw [Int.tdiv_eq_ediv_of_nonneg (Int.natCast_nonneg _)]; rfl
theorem tmod_nat' (a b : Nat) : (a : Int).tmod (b : Int) = ((a % b : Nat) : Int) := by
  rw [Int.tmod_eq_emod_of_nonneg (Int.natCast_nonneg _)]; rfl

theorem length_bytesBE (v : Nat) : ∀ k, (bytesBE k v).length = k
  | 0 => rfl
  | k + 1 => by simp [bytesBE, length_bytesBE v k]

theorem shr_to_u8 {v m : Nat} {s : Int} {kk : IntKind} (hs : s = ((8 * m : Nat) : Int)) (hm : m ≤ 7) {T : Tbl} {t : TypeId} : vbin T .shr t (.int .u64 (v : Int)) (.int kk s) = some (.int .u64 ((v / 2 ^ (8 * m) : Nat) : Int)) := by
  subst hs
  rw [vbin_shr _ _ _ _ _ _ (by omega)]
  have h1 : min ((8 * m : Nat) : Int).toNat IntKind.u64.bits = 8 * m := by
    have : IntKind.u64.bits = 64 := rfl
    omega
  have h2 : ((2 : Int) ^ (8 * m)) = ((2 ^ (8 * m) : Nat) : Int) := by simp
  rw [h1, h2, Int.fdiv_eq_ediv_of_nonneg _ (Int.natCast_nonneg _)]
  congr 2

theorem length_pad (s : List UInt8) : (pad s).length % 64 = 0 ∧ (pad s).length ≤ s.length + 72 := by
  unfold pad
  simp only [List.length_append, List.length_cons, List.length_replicate, length_bytesBE]
  constructor <;> omega

theorem length_chain : ∀ (n : Nat) {h : List Nat} (m : List UInt8), h.length = 8 → (chain n h m).length = 8
  | 0, h, m, hh => hh
  | n + 1, h, m, hh => length_chain n _ (length_compress hh)

theorem length_digest (h : List Nat) : (digest h).length = 32 := by simp [digest]
theorem length_sha (s : List UInt8) : (sha s).length = 32 := length_digest _

/-- A key, filled up, laid over by a byte; a text's sum under a key. -/
def overK (key : List UInt8) (c : UInt8) : List UInt8 := (key ++ List.replicate 32 0).map fun b => b ^^^ c
def mac (key text : List UInt8) : List UInt8 := sha (overK key 0x5c ++ sha (overK key 0x36 ++ text))

theorem u8_xor {T : Tbl} {t : TypeId} (a b : UInt8) : vbin T .xor t (u8v a) (u8v b) = some (u8v (a ^^^ b)) := by
  have hb : IntKind.u8.bits = 8 := rfl
  have h1 : a.toNat < 2 ^ 8 := a.toNat_lt
  have h2 : b.toNat < 2 ^ 8 := b.toNat_lt
  unfold u8v
  rw [vbin_xor, wrapU8, BitVec.toNat_xor, bv_of, bv_of, hb, Nat.mod_eq_of_lt h1, Nat.mod_eq_of_lt h2, UInt8.toNat_xor]
  have : a.toNat ^^^ b.toNat < 2 ^ 8 := Nat.xor_lt_two_pow h1 h2
  congr 2
  omega

end Go.Esc
namespace Go.Esc.M
open Go Go.Esc

section
variable {G : Heap} {Q : AVal → Heap → Prop}

/-- The first bytes done, the rest zeros. -/
def part (D : List UInt8) (n j : Nat) : List UInt8 := D.take j ++ List.replicate (n - j) 0
theorem length_part {D : List UInt8} {n j : Nat} (hD : D.length = n) (hj : j ≤ n) : (part D n j).length = n := by simp [part]; omega
theorem part_set {D : List UInt8} {n j : Nat} (hD : D.length = n) (hj : j < n) : (part D n j).set j (D[j]'(by omega)) = part D n (j + 1) := by
  unfold part
  have hl : (D.take j).length = j := by simp; omega
  rw [List.set_append_right _ _ (by omega), hl, Nat.sub_self, show n - j = (n - (j + 1)) + 1 by omega, List.replicate_succ, List.set_cons_zero, List.take_succ_eq_append_getElem (by omega), List.append_assoc]
  rfl
theorem part_full {D : List UInt8} {n : Nat} (hD : D.length = n) : part D n n = D := by simp [part, ← hD]

end
end Go.Esc.M

/- Own work. Chapter 2: a sum under a key, in the program; the document's sum: blocks. -/
set_option linter.unusedSimpArgs false
set_option linter.unusedVariables false
namespace Go.Esc
open Go Go.RowKit

/-- The first ones of one list, then those of another. -/
def mix {α : Type} (D X : List α) (j : Nat) : List α := D.take j ++ X.drop j
theorem mix_zero {α : Type} (D X : List α) : mix D X 0 = X := by simp [mix]
theorem mix_full {α : Type} {D X : List α} (h : D.length = X.length) : mix D X X.length = D := by simp [mix, ← h]
theorem length_mix {α : Type} {D X : List α} {j : Nat} (h : D.length = X.length) (hj : j ≤ X.length) : (mix D X j).length = X.length := by simp [mix]; omega
theorem mix_get {α : Type} {D X : List α} {j : Nat} (h : D.length = X.length) (hj : j < X.length) : (mix D X j)[j]? = some X[j] := by
  unfold mix
  have hl : (D.take j).length = j := by simp; omega
  rw [List.getElem?_append_right (by omega), hl, Nat.sub_self, List.getElem?_drop, Nat.add_zero, List.getElem?_eq_getElem hj]
theorem mix_set {α : Type} {D X : List α} {j : Nat} (h : D.length = X.length) (hj : j < X.length) : (mix D X j).set j (D[j]'(by omega)) = mix D X (j + 1) := by
  unfold mix
  have hl : (D.take j).length = j := by simp; omega
  rw [List.set_append_right _ _ (by omega), hl, Nat.sub_self, List.drop_eq_getElem_cons hj, List.set_cons_zero, List.take_succ_eq_append_getElem (by omega), List.append_assoc]
  rfl

theorem word4 {b0 b1 b2 b3 : Nat} (h0 : b0 < 256) (h1 : b1 < 256) (h2 : b2 < 256) (h3 : b3 < 256) : or32 (or32 (or32 (shl32 24 b0) (shl32 16 b1)) (shl32 8 b2)) b3 = ((b0 * 256 + b1) * 256 + b2) * 256 + b3 := by
  have e1 : shl32 16 b1 = 2 ^ 16 * b1 := by unfold shl32; omega
  have e2 : shl32 8 b2 = 2 ^ 8 * b2 := by unfold shl32; omega
  have e3 : 2 ^ 24 * b0 + 2 ^ 16 * b1 = shl32 16 (256 * b0 + b1) := by unfold shl32; omega
  have e4 : 2 ^ 16 * (256 * b0 + b1) + 2 ^ 8 * b2 = shl32 8 (256 * (256 * b0 + b1) + b2) := by unfold shl32; omega
  rw [e1, e2, or_low 24 _ _ (by omega) (by omega), e3, or_low 16 _ _ (by omega) (by omega), e4, or_low 8 _ _ (by omega) (by omega)]
  omega

theorem shr_i64 {v m : Nat} {s : Int} {kk : IntKind} (hs : s = ((8 * m : Nat) : Int)) (hm : m ≤ 7) {T : Tbl} {t : TypeId} : vbin T .shr t (.int .i64 (v : Int)) (.int kk s) = some (.int .i64 ((v / 2 ^ (8 * m) : Nat) : Int)) := by
  subst hs
  rw [vbin_shr _ _ _ _ _ _ (by omega)]
  have h1 : min ((8 * m : Nat) : Int).toNat IntKind.i64.bits = 8 * m := by
    have : IntKind.i64.bits = 64 := rfl
    omega
  have h2 : ((2 : Int) ^ (8 * m)) = ((2 ^ (8 * m) : Nat) : Int) := by simp
  rw [h1, h2, Int.fdiv_eq_ediv_of_nonneg _ (Int.natCast_nonneg _)]
  congr 2

theorem IsSl.ch {n : Nat} {G G' : Heap} {E : List AId} {v : AVal} {vs : List AVal} (h : IsSl n G v vs) (hc : Ch [] G E G') : IsSl n G' v vs := h.le fun j o hj => hc.others j o hj (by simp)

theorem length_overK {key : List UInt8} (h : key.length = 32) (c : UInt8) : (overK key c).length = 64 := by simp [overK, h]

end Go.Esc
namespace Go.Esc.M
open Go Go.Esc

section
variable {G : Heap} {Q : AVal → Heap → Prop}

theorem own_cap2 {a b : List UInt8} {v : AVal} (h : Own 1 G v [.str a, .str b]) : CapSl 1 G v ([a, b].map .str) := h.cap

end
end Go.Esc.M

/- Own work. Chapter 2: the document's sum. -/
set_option linter.unusedSimpArgs false
set_option linter.unusedVariables false
namespace Go.Esc.M
open Go Go.Esc

section
variable {G : Heap} {Q : AVal → Heap → Prop}

end
end Go.Esc.M
