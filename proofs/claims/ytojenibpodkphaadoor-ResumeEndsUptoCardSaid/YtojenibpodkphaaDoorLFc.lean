import Derived.Test.YtojenibpodkphaaDoorLUh
import Derived.Test.YtojenibpodkphaaDoorLPw
import Derived.Test.YtojenibpodkphaaDoorLLe
import Derived.Test.YtojenibpodkphaaDoorLLib
import Derived.Test.YtojenibpodkphaaDoorLCo
/- Own work. Chapter 12: UpdateNexts. -/
set_option linter.unusedSimpArgs false
set_option linter.unusedVariables false
set_option maxRecDepth 20000
namespace Go.Esc.M
open Go Go.Esc

section
variable {F0 : List AId} {G0 G : Heap} {ps : List LP} {Q : AVal → Heap → Prop}

theorem upds_uni {l : List UpdM} (h : ∀ p ∈ l, p.ok) : Esc.uni 36 (l.map UpdM.av) = true ∧ okvs (l.map UpdM.av) = true := by
  refine ⟨by simp only [Esc.uni, List.all_map, List.all_eq_true]; intro p hp; simp [UpdM.sz (h p hp)], ?_⟩
  induction l with
  | nil => rfl
  | cons p l ih => simp [okvs, UpdM.okv, ih (fun p hp => h p (by simp [hp]))]

end
end Go.Esc.M

/- Own work. Chapter 12: UpdateNexts, the law. -/
set_option linter.unusedSimpArgs false
set_option linter.unusedVariables false
set_option maxRecDepth 20000
namespace Go.Esc.M
open Go Go.Esc

end Go.Esc.M

/- Own work. Chapter 12: two lists that grow: the plain law. -/
set_option linter.unusedSimpArgs false
set_option linter.unusedVariables false
set_option maxRecDepth 20000
namespace Go.Esc.M
open Go Go.Esc

def thereF (u : UpdM) (t : Bool) (b : UpdM) : Bool := if b.kind = 1 ∧ b.id = u.id then decide (u.kind = 3) || decide (sha u.hash = b.hash) else t
def thereU (u : UpdM) (B : List UpdM) : Bool := B.foldl (thereF u) false
def SoundU (A B : List UpdM) : Prop := ∀ i u, A[i]? = some u → if u.kind = 1 then u.id = ((addsU (A.take i) : Nat) : Int) else thereU u B = true ∧ ∀ k v, k < i → A[k]? = some v → v.kind ≠ 1 → v.id ≠ u.id

theorem SoundU.nil (B : List UpdM) : SoundU [] B := fun i u h => by simp at h

end Go.Esc.M

/- Own work. Chapter 12: two lists that grow: what the law's own functions do. -/
set_option linter.unusedSimpArgs false
set_option linter.unusedVariables false
set_option maxRecDepth 20000
namespace Go.Esc.M
open Go Go.Esc

section
variable {F0 : List AId} {G0 G : Heap} {ps : List LP} {Q : AVal → Heap → Prop}

end
end Go.Esc.M

/- Own work. Chapter 13: sums in two parts. -/
set_option linter.unusedSimpArgs false
set_option linter.unusedVariables false
set_option maxRecDepth 20000
namespace Go.Esc.M
open Go Go.Esc


theorem shr30 (a : Int) {t : TypeId} {T : Tbl} : vbin T .shr t (.int .i64 a) (.int .u64 30) = some (.int .i64 (a / 1073741824)) := by
  rw [vbin_shr _ _ _ _ _ _ (by decide)]
  have h1 : min (30 : Int).toNat IntKind.i64.bits = 30 := by decide
  have h2 : (2 : Int) ^ 30 = 1073741824 := by decide
  rw [h1, h2, Int.fdiv_eq_ediv_of_nonneg _ (by decide)]
theorem and30 (a : Int) {t : TypeId} {T : Tbl} : vbin T .and t (.int .i64 a) (.int .i64 1073741823) = some (.int .i64 (a % 1073741824)) := by
  have := and_mask a 30 (by decide)
  have e1 : ((2 ^ 30 - 1 : Nat) : Int) = 1073741823 := by decide
  have e2 : ((2 ^ 30 : Nat) : Int) = 1073741824 := by decide
  rw [e1, e2] at this
  rw [vbin_and, this]
theorem or30 {x y : Nat} (hx : x ≤ 1073741824) (hy : y < 1073741824) {t : TypeId} {T : Tbl} : vbin T .or t (.int .i64 ((x * 1073741824 : Nat) : Int)) (.int .i64 (y : Int)) = some (.int .i64 ((x * 1073741824 + y : Nat) : Int)) := by
  have hb : IntKind.i64.bits = 64 := rfl
  have e64 : ∀ z : Nat, (BitVec.ofInt 64 (z : Int)).toNat = z % 2 ^ 64 := fun z => by rw [BitVec.ofInt_natCast, BitVec.toNat_ofNat]
  have hor : 2 ^ 30 * x + y = 2 ^ 30 * x ||| y := Nat.two_pow_add_eq_or_of_lt hy x
  have e30 : (2 : Nat) ^ 30 = 1073741824 := by decide
  have e64' : (2 : Nat) ^ 64 = 18446744073709551616 := by decide
  rw [e30, Nat.mul_comm] at hor
  have hx2 : x * 1073741824 < 18446744073709551616 := by omega
  have hy2 : y < 18446744073709551616 := by omega
  rw [vbin_or, hb, BitVec.toNat_or, e64, e64, e64', Nat.mod_eq_of_lt hx2, Nat.mod_eq_of_lt hy2, ← hor, i64_in (by omega) (by omega)]
theorem shl30 {x : Nat} (hx : x ≤ 1073741824) {t : TypeId} {T : Tbl} : vbin T .shl t (.int .i64 (x : Int)) (.int .u64 30) = some (.int .i64 ((x * 1073741824 : Nat) : Int)) := by
  rw [vbin_shl _ _ _ _ _ _ (by decide)]
  have h1 : min (30 : Int).toNat IntKind.i64.bits = 30 := by decide
  have h2 : (2 : Int) ^ 30 = 1073741824 := by decide
  rw [h1, h2, i64_in (by omega) (by omega)]
  congr 2

/-- The program's sum: its upper and lower parts, no more than so many steps from nothing. -/
structure Wd (n : Nat) (u l : Int) : Prop where
  u1 : -((n : Int) * 1073741824) ≤ u
  u2 : u ≤ (n : Int) * 1073741824
  l1 : -((n : Int) * 1073741824) ≤ l
  l2 : l ≤ (n : Int) * 1073741824
def totW (u l : Int) : Int := u * 1073741824 + l
def valueW (t : Int) : Int := if t < 0 then -1 else if t < 1152921505680588800 then t else 1152921504606846977
def cutW (t : Int) : Int := if t < 0 then 0 else if t < 1152921504606846976 then t else 1152921504606846976
def amt (a : Int) : Prop := 0 ≤ a ∧ a ≤ 1152921504606846976

section
variable {F0 : List AId} {G0 G : Heap} {ps : List LP} {Q : AVal → Heap → Prop}

theorem pair_load {T' : TypeId} {ti : TI} {id : AId} {a b : Int} (hg : G id = some (.own (pairW a b))) (hT : T T' = some ti) (hf : vfits ti (pairW a b) = true) :
    vload T G t_int64 (.ptr id [0] 0) = some (.int .i64 a) ∧ vload T G t_int64 (.ptr id [1] 1) = some (.int .i64 b) ∧ vload T G T' (.ptr id [] 0) = some (pairW a b) :=
  ⟨vload_fld (c := .int .i64 a) hg rfl rfl rfl T_int64 rfl, vload_fld (c := .int .i64 b) hg rfl rfl rfl T_int64 rfl, whole_load hT hg hf⟩

theorem build_wide (a b : Int) : vbuild T t_ledger_wide [(0, .int .i64 a), (1, .int .i64 b)] = some (pairW a b) := rfl
theorem zWide : z_ledger_wide = pairW 0 0 := rfl
theorem wide_store {i : Nat} {id : AId} {a b c d : Int} (hs : Sp F0 G0 ps G) (hi : ps[i]? = some (RowL id (pairW a b))) {K : Heap → Prop} (hK : ∀ G', Sp F0 G0 (ps.set i (RowL id (pairW c d))) G' → K G') : wg (vstore T G t_ledger_wide (.ptr id [] 0) (pairW c d)) K := by
  refine wg_of (whole_store T_ledger_wide (RowL.own hs hi) rfl rfl rfl) ?_
  exact hK _ (Sp.setRow hs hi _)

theorem ledger_wide_plus.use {n : Nat} {u l a : Int} (hw : Wd n u l) (hn : n ≤ 1073741824) (ha : amt a) (hQ : ∀ u' l' G', Ch [] G [] G' → Wd (n + 1) u' l' → totW u' l' = totW u l + a → Q (pairW u' l') G') : ACalls P ledger_wide_plus.n [pairW u l, .int .i64 a] G Q := by
  refine ledger_wide_plus.sound ?_
  unfold ledger_wide_plus.S
  rw [zWide]
  obtain ⟨h1, h2, h3, h4⟩ := hw
  obtain ⟨h5, h6⟩ := ha
  intro i1 f1
  have s1 := (Sp.nil G).row f1 (pairW u l)
  intro i3 f3
  have s3 := s1.row f3 (pairW 0 0)
  obtain ⟨l1, l2, _⟩ := pair_load (RowL.own (i := 1) s3 rfl) T_ledger_wide rfl
  refine wv_of l1 ?_
  refine wv_of (shr30 a) ?_
  rw [vbin_add, i64_in (by omega) (by omega), wv_some]
  refine wv_of l2 ?_
  refine wv_of (and30 a) ?_
  rw [vbin_add, i64_in (by omega) (by omega), wv_some]
  refine wv_of (build_wide _ _) ?_
  refine wide_store (i := 0) s3 rfl fun G12 s12 => ?_
  refine wv_of (pair_load (RowL.own (i := 0) s12 rfl) T_ledger_wide rfl).2.2 ?_
  exact hQ _ _ _ s12.ch ⟨by omega, by omega, by omega, by omega⟩ (by unfold totW; omega)

theorem ledger_wide_minus.use {n : Nat} {u l a : Int} (hw : Wd n u l) (hn : n ≤ 1073741824) (ha : amt a) (hQ : ∀ u' l' G', Ch [] G [] G' → Wd (n + 1) u' l' → totW u' l' = totW u l - a → Q (pairW u' l') G') : ACalls P ledger_wide_minus.n [pairW u l, .int .i64 a] G Q := by
  refine ledger_wide_minus.sound ?_
  unfold ledger_wide_minus.S
  rw [zWide]
  obtain ⟨h1, h2, h3, h4⟩ := hw
  obtain ⟨h5, h6⟩ := ha
  intro i1 f1
  have s1 := (Sp.nil G).row f1 (pairW u l)
  intro i3 f3
  have s3 := s1.row f3 (pairW 0 0)
  obtain ⟨l1, l2, _⟩ := pair_load (RowL.own (i := 1) s3 rfl) T_ledger_wide rfl
  refine wv_of l1 ?_
  refine wv_of (shr30 a) ?_
  rw [vbin_sub, i64_in (by omega) (by omega), wv_some]
  refine wv_of l2 ?_
  refine wv_of (and30 a) ?_
  rw [vbin_sub, i64_in (by omega) (by omega), wv_some]
  refine wv_of (build_wide _ _) ?_
  refine wide_store (i := 0) s3 rfl fun G12 s12 => ?_
  refine wv_of (pair_load (RowL.own (i := 0) s12 rfl) T_ledger_wide rfl).2.2 ?_
  exact hQ _ _ _ s12.ch ⟨by omega, by omega, by omega, by omega⟩ (by unfold totW; omega)

theorem ledger_wide_value.use {n : Nat} {u l : Int} (hw : Wd n u l) (hn : n ≤ 1073741824) (hQ : ∀ G', Ch [] G [] G' → Q (.int .i64 (valueW (totW u l))) G') : ACalls P ledger_wide_value.n [pairW u l] G Q := by
  refine ledger_wide_value.sound ?_
  unfold ledger_wide_value.S
  obtain ⟨h1, h2, h3, h4⟩ := hw
  intro i1 f1
  have s1 := (Sp.nil G).row f1 (pairW u l)
  obtain ⟨l1, l2, _⟩ := pair_load (RowL.own (i := 0) s1 rfl) T_ledger_wide rfl
  refine wv_of l1 ?_
  refine wv_of l2 ?_
  refine wv_of (shr30 l) ?_
  rw [vbin_add, i64_in (by omega) (by omega), wv_some]
  have hQ := hQ _ s1.ch
  have ht : totW u l = (u + l / 1073741824) * 1073741824 + l % 1073741824 := by unfold totW; omega
  unfold valueW at hQ
  rw [vbin_lss, wv_some, brB_dec]
  refine ⟨fun h => ?_, fun h => ?_⟩
  · rw [if_pos (by omega)] at hQ
    exact hQ
  rw [if_neg (by omega)] at hQ
  rw [vbin_gtr, wv_some, brB_dec]
  refine ⟨fun h2 => ?_, fun h2 => ?_⟩
  · rw [if_neg (by omega)] at hQ
    exact hQ
  rw [if_pos (by omega)] at hQ
  obtain ⟨x, hx⟩ : ∃ x : Nat, u + l / 1073741824 = (x : Int) := ⟨(u + l / 1073741824).toNat, by omega⟩
  obtain ⟨y, hy⟩ : ∃ y : Nat, l % 1073741824 = (y : Int) := ⟨(l % 1073741824).toNat, by omega⟩
  rw [hx] at ht h h2 ⊢
  rw [hy] at ht
  refine wv_of (shl30 (by omega)) ?_
  refine wv_of l2 ?_
  refine wv_of (and30 l) ?_
  rw [hy]
  refine wv_of (or30 (by omega) (by omega)) ?_
  have : ((x * 1073741824 + y : Nat) : Int) = totW u l := by rw [ht]; omega
  rw [this]
  exact hQ

/-! ### The document's -/
def small (t : Int) : Prop := -1329227995784915872903807060280344576 ≤ t ∧ t ≤ 1329227995784915872903807060280344576

end

end Go.Esc.M

/- Own work. Chapter 13: removals; first; adds. -/
set_option linter.unusedSimpArgs false
set_option linter.unusedVariables false
set_option maxRecDepth 20000
namespace Go.Esc
open Go Go.RowKit
theorem CapSl.isSl {n : Nat} {G : Heap} {v : AVal} {vs : List AVal} (h : CapSl n G v vs) : IsSl n G v vs := by
  rcases h with ⟨id, p, st, off, len, cap, rfl, _, h⟩ | h
  · exact .inl ⟨_, _, _, _, _, _, rfl, h⟩
  · exact .inr h
theorem CapSl.mv {n : Nat} {G G' : Heap} {E : List AId} {v : AVal} {vs : List AVal} (h : CapSl n G v vs) (hc : Ch [] G E G') : CapSl n G' v vs := by
  rcases h with ⟨id, p, st, off, len, cap, rfl, hl, h⟩ | h
  · refine .inl ⟨_, _, _, _, _, _, rfl, hl, selems_le (fun j o hj => hc.others j o hj (by simp)) h⟩
  · exact .inr h
theorem CapSl.take {T : Tbl} {t e : TypeId} {i ie : TI} (ht : T t = some i) (hd : i.desc = .slice e) (he : T e = some ie) {G : Heap} {v : AVal} {vs : List AVal} (h : CapSl ie.size G v vs) {k : IntKind} {m : Nat} {x : Int} (hx : x = (m : Int)) (hm : m ≤ vs.length) :
    ∃ v', vslice T t v none (some (.int k x)) none = some v' ∧ CapSl ie.size G v' (vs.take m) := by
  subst hx
  rcases h with ⟨id, p, st, off, len, cap, rfl, hlc, h⟩ | ⟨rfl, rfl⟩
  · obtain ⟨cs, h1, h0, h2, h3, rfl, harr⟩ := selems_spec h
    have hl : ((cs.drop st).take len).length = len := by rw [List.length_take, List.length_drop]; omega
    rw [hl] at hm
    refine ⟨.slice id p st off m cap, ?_, .inl ⟨id, p, st, off, m, cap, rfl, by omega, ?_⟩⟩
    · simp only [vslice, ht, hd, he]
      rw [sbounds_high (by omega)]
      simp
    · simp only [selems, harr]
      rw [if_pos (by omega), List.take_take, Nat.min_eq_left hm]
  · simp at hm
    subst hm
    exact ⟨.nilSlice, by simp [vslice, ht, hd, he, sbounds, sbound], .inr ⟨rfl, by simp⟩⟩

/-! ### Maps of numbers -/
def mapE (es : List (Int × Int)) : List (AVal × AVal) := es.map fun p => (.int .i64 p.1, .int .i64 p.2)
def lookE : List (Int × Int) → Int → Option Int
  | [], _ => none
  | p :: es, k => if k = p.1 then some p.2 else lookE es k
theorem find_mapE (k : Int) : ∀ (es : List (Int × Int)) (i : Nat), match lookE es k with
    | some v => ∃ j, findA (.int .i64 k) (mapE es) i = some (some (j, .int .i64 v))
    | none => findA (.int .i64 k) (mapE es) i = some none
  | [], i => rfl
  | p :: es, i => by
    unfold lookE
    by_cases h : k = p.1
    · rw [if_pos h]
      exact ⟨i, by simp [mapE, findA, sameA, h]⟩
    · rw [if_neg h]
      have ih := find_mapE k es (i + 1)
      have e : findA (.int .i64 k) (mapE (p :: es)) i = findA (.int .i64 k) (mapE es) (i + 1) := by simp [mapE, findA, sameA, h]
      rw [e]
      exact ih
theorem lookE_append (k : Int) : ∀ (es : List (Int × Int)) (a v : Int), lookE (es ++ [(a, v)]) k = match lookE es k with
    | some x => some x
    | none => if k = a then some v else none
  | [], a, v => rfl
  | p :: es, a, v => by
    have ih := lookE_append k es a v
    simp only [List.cons_append, lookE]
    by_cases h : k = p.1
    · rw [if_pos h, if_pos h]
    · rw [if_neg h, if_neg h, ih]
theorem mapE_append (es : List (Int × Int)) (a v : Int) : mapE es ++ [(.int .i64 a, .int .i64 v)] = mapE (es ++ [(a, v)]) := by simp [mapE]
end Go.Esc
namespace Go.Esc.M
open Go Go.Esc

theorem tv0 (v : AVal) (e : AVal) : vextract (.tuple [v, e]) 0 = some v := rfl
theorem tv1 (v : AVal) (e : AVal) : vextract (.tuple [v, e]) 1 = some e := rfl
def isRem (id : Int) (u : UpdM) : Bool := decide (u.kind ≠ 1) && (decide (u.id = id) && validU u)
/-- The kind of an ID's first removal. -/
def remS (id : Int) : List UpdM → Int
  | [] => 0
  | u :: l => if isRem id u = true then u.kind else remS id l
theorem isRem_kind {id : Int} {u : UpdM} (h : isRem id u = true) : u.kind ≠ 0 := by
  simp only [isRem, Bool.and_eq_true, decide_eq_true_eq] at h
  have := (valid_spec h.2.2).2.2
  omega
theorem remS_append (id : Int) : ∀ (a b : List UpdM), remS id (a ++ b) = if remS id a = 0 then remS id b else remS id a
  | [], b => rfl
  | u :: a, b => by
    have ih := remS_append id a b
    by_cases h : isRem id u = true
    · have hk := isRem_kind h
      have e1 : remS id (u :: (a ++ b)) = u.kind := if_pos h
      have e2 : remS id (u :: a) = u.kind := if_pos h
      rw [List.cons_append, e1, e2, if_neg hk]
    · have e1 : remS id (u :: (a ++ b)) = remS id (a ++ b) := if_neg h
      have e2 : remS id (u :: a) = remS id a := if_neg h
      rw [List.cons_append, e1, e2, ih]
theorem remS_next {id : Int} {l : List UpdM} {j : Nat} {u : UpdM} (h : l[j]? = some u) : remS id (l.take (j + 1)) = if remS id (l.take j) = 0 then (if isRem id u = true then u.kind else 0) else remS id (l.take j) := by
  rw [List.take_add_one, h, remS_append]
  rfl
def optR (x : Int) : Option Int := if x = 0 then none else some x
section
variable {F0 : List AId} {G0 G : Heap} {ps : List LP} {Q : AVal → Heap → Prop}

theorem rem_look {es : List (Int × Int)} {mid : AId} {k : Int} (hg : G mid = some (.map (mapE es))) : vlookup T G t_map_int64_int (.map mid) (.int .i64 k) false = some (.int .i64 ((lookE es k).getD 0)) := by
  have hf : keyFits ti_int64.desc (.int .i64 k) = true := rfl
  have h := find_mapE k es 0
  have hd : ti_map_int64_int.desc = .map t_int64 t_int := rfl
  have hz : ti_int.zero = .int .i64 0 := rfl
  simp only [vlookup, T_map_int64_int, hd, T_int64, T_int, hf, if_true, mapEs, hg]
  cases hl : lookE es k with
  | none => rw [hl] at h; rw [h]; simp [hz]
  | some v => rw [hl] at h; obtain ⟨j, h⟩ := h; rw [h]; simp
theorem rem_look2 {es : List (Int × Int)} {mid : AId} {k : Int} (hg : G mid = some (.map (mapE es))) : vlookup T G t_map_int64_int (.map mid) (.int .i64 k) true = some (.tuple [.int .i64 ((lookE es k).getD 0), .bool (lookE es k).isSome]) := by
  have hf : keyFits ti_int64.desc (.int .i64 k) = true := rfl
  have h := find_mapE k es 0
  have hd : ti_map_int64_int.desc = .map t_int64 t_int := rfl
  have hz : ti_int.zero = .int .i64 0 := rfl
  simp only [vlookup, T_map_int64_int, hd, T_int64, T_int, hf, if_true, mapEs, hg]
  cases hl : lookE es k with
  | none => rw [hl] at h; rw [h]; simp [hz]
  | some v => rw [hl] at h; obtain ⟨j, h⟩ := h; rw [h]; simp

set_option maxHeartbeats 1000000 in
theorem ledger_removals.use {v : AVal} {l : List UpdM} (hl : IsSl 36 G v (l.map UpdM.av)) (hok : ∀ u ∈ l, u.ok) (hlen : l.length ≤ 1048576)
    (hQ : ∀ mid es G', (∀ id, lookE es id = optR (remS id l)) → Sp [] G [MapL mid (mapE es)] G' → Q (.map mid) G') : ACalls P ledger_removals.n [v] G Q := by
  refine ledger_removals.sound ?_
  unfold ledger_removals.S
  intro mid f1
  have s1 := (Sp.nil G).new (p := MapL mid (mapE [])) ⟨Heap.upd_self _ _ _, rfl⟩ (Ch.new (o := .map []) f1)
  refine wv_of (upd_len (hl.ch' s1.ch)) ?_
  intro R hR
  have loop : ∀ (m j : Nat) (es : List (Int × Int)) (G' : Heap), l.length - j = m → j ≤ l.length → (∀ id, lookE es id = optR (remS id (l.take j))) → Sp [] G [MapL mid (mapE es)] G' → R [.map mid, v, .int .i64 (l.length : Int), .int .i64 (j : Int)] G' := by
    intro m
    induction m with
    | zero =>
      intro j es G' hm hj hes sp
      refine hR _ _ _ _ _ ?_
      rw [vbin_lss, wv_some, decide_eq_false (by omega), brB_false]
      rw [List.take_of_length_le (by omega)] at hes
      exact hQ _ _ _ hes sp
    | succ m ih =>
      intro j es G' hm hj hes sp
      obtain ⟨u, hu⟩ : ∃ u, l[j]? = some u := ⟨_, List.getElem?_eq_getElem (by omega)⟩
      have huo := hok u (List.mem_of_getElem? hu)
      refine hR _ _ _ _ _ ?_
      rw [vbin_lss, wv_some, decide_eq_true (by omega), brB_true]
      have ev : vbin T .add t_int (.int .i64 (j : Int)) (.int .i64 1) = some (.int .i64 ((j + 1 : Nat) : Int)) := by
        rw [vbin_add, i64_in (by omega) (by omega)]
        rfl
      obtain ⟨a, e1, e2⟩ := upd_at (hl.ch' sp.ch) hu
      refine wv_of e1 ?_
      refine wv_of e2 ?_
      refine newU sp huo fun i13 G15 s15 => ?_
      obtain ⟨l0, l1, l2, l3, l4, l5⟩ := upd_load (i := 0) s15 rfl huo
      refine wv_of l1 ?_
      refine wv_of (rem_look2 (MapL.own (i := 1) s15 rfl)) ?_
      refine wv_of (tv0 _ _) ?_
      refine wv_of (tv1 _ _) ?_
      intro J32
      have skip : ∀ G26, Sp [] G [RowL i13 u.av, MapL mid (mapE es)] G26 → (isRem u.id u = false ∨ remS u.id (l.take j) ≠ 0) → J32 (.bool false) G26 := by
        intro G26 s26 hno
        simp -zeta only [J32, brB_false]
        refine wv_of ev (ih (j + 1) es G26 (by omega) (by omega) (fun id => ?_) (s26.erase 0))
        rw [hes id, remS_next hu]
        congr 1
        by_cases h0 : remS id (l.take j) = 0
        · rw [if_pos h0, h0]
          by_cases hr : isRem id u = true
          · have hid : u.id = id := by
              simp only [isRem, Bool.and_eq_true, decide_eq_true_eq] at hr
              exact hr.2.1
            subst hid
            rcases hno with hno | hno
            · rw [hr] at hno; cases hno
            · exact absurd h0 hno
          · rw [if_neg hr]
        · rw [if_neg h0]
      rw [vun_not, wv_some]
      have hlk := hes u.id
      by_cases h0 : remS u.id (l.take j) = 0
      · rw [h0] at hlk
        have hlk : lookE es u.id = none := hlk
        rw [hlk]
        show brB (some (.bool true)) _ _
        rw [brB_true]
        refine wv_of l0 ?_
        rw [vbin_neq, wv_some]
        by_cases hk : u.kind = 1
        · rw [decide_eq_true hk, Bool.not_true, brB_false]
          exact skip _ s15 (.inl (by simp [isRem, hk]))
        · rw [decide_eq_false hk, Bool.not_false, brB_true]
          refine wv_of l5 ?_
          refine update_Valid.use huo fun G25 c25 => ?_
          have s25 := s15.tmp c25
          cases hv : validU u with
          | false => exact skip _ s25 (.inl (by simp [isRem, hv]))
          | true =>
            simp -zeta only [J32, brB_true]
            obtain ⟨k0, k1, _, _, _, _⟩ := upd_load (i := 0) s25 rfl huo
            refine wv_of k1 ?_
            refine wv_of k0 ?_
            have hfd := find_mapE u.id es 0
            rw [hlk] at hfd
            refine map_upd (T := T) (i := ti_map_int64_int) (r := none) T_map_int64_int rfl T_int64 (MapL.own (i := 1) s25 rfl) rfl hfd ?_
            have s30 := Sp.setMap' (j := 1) s25 rfl (mapE (es ++ [(u.id, u.kind)]))
            rw [← mapE_append] at s30
            refine wv_of ev (ih (j + 1) (es ++ [(u.id, u.kind)]) _ (by omega) (by omega) (fun id => ?_) ?_)
            · rw [lookE_append, hes id, remS_next hu]
              by_cases hz : remS id (l.take j) = 0
              · rw [if_pos hz, hz]
                show (if id = u.id then some u.kind else none) = _
                by_cases hid : id = u.id
                · subst hid
                  have hr : isRem u.id u = true := by simp [isRem, hk, hv]
                  rw [if_pos rfl, if_pos hr, optR, if_neg (isRem_kind hr)]
                · have hr : isRem id u = false := by
                    have : ¬ u.id = id := fun h => hid h.symm
                    simp [isRem, this]
                  rw [if_neg hid, hr]
                  rfl
              · rw [if_neg hz]
                unfold optR
                rw [if_neg hz]
            · rw [← mapE_append]
              exact s30.erase 0
      · have hlk : lookE es u.id = some (remS u.id (l.take j)) := by rw [hlk, optR, if_neg h0]
        rw [hlk]
        show brB (some (.bool false)) _ _
        rw [brB_false]
        exact skip _ s15 (.inr h0)
  exact loop l.length 0 [] _ rfl (by omega) (fun id => rfl) s1

end

end Go.Esc.M

/- Own work. Chapter 13: what is spendable; what is open. -/
set_option linter.unusedSimpArgs false
set_option linter.unusedVariables false
set_option maxRecDepth 20000
namespace Go.Esc.M
open Go Go.Esc

section
variable {F0 : List AId} {G0 G : Heap} {ps : List LP} {Q : AVal → Heap → Prop}

theorem ch_own {G G' : Heap} {E : List AId} {j : AId} {o : AObj} (hc : Ch [] G E G') (h : G j = some o) : G' j = some o := hc.others j o h (by simp)
end

end Go.Esc.M
