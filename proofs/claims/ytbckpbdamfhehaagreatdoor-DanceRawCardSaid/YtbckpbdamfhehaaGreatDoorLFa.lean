import Derived.Test.YtbckpbdamfhehaaGreatDoorLUf
import Derived.Test.YtbckpbdamfhehaaGreatDoorLSf
import Derived.Test.YtbckpbdamfhehaaGreatDoorLHt
import Derived.Test.YtbckpbdamfhehaaGreatDoorLRS
import Derived.Test.YtbckpbdamfhehaaGreatDoorLSh
/- Own work. Chapter 12: UpdateBack. -/
set_option linter.unusedSimpArgs false
set_option linter.unusedVariables false
set_option maxRecDepth 20000
namespace Go.Esc.M
open Go Go.Esc

end Go.Esc.M

/- Own work. Chapter 12: the document's finds; Next. -/
set_option linter.unusedSimpArgs false
set_option linter.unusedVariables false
set_option maxRecDepth 20000
namespace Go.Esc.M
open Go Go.Esc

section
variable {F0 : List AId} {G0 G : Heap} {ps : List LP} {Q : AVal → Heap → Prop}

/-- May an update stand behind a list? -/
def nextU (mine others : List UpdM) (u : UpdM) : Int :=
  if 2048 ≤ mine.length then 6 else if validU u = false then 120
  else if u.kind = 1 then (if u.id = (addsU mine : Nat) then 0 else 120)
  else if (firstU false u.id others).isSome = false then 120
  else if (firstU true u.id mine).isSome then 120
  else if u.kind = 2 ∧ sha u.hash ≠ ((firstU false u.id others).getD UpdM.zero).hash then 120 else 0

theorem length_sha' (s : List UInt8) : (sha s).length = 32 := length_sha s

theorem one_str {F0 : List AId} {G0 : Heap} {ps : List LP} {s : List UInt8} {K : AVal → Heap → Prop} (hs : Sp F0 G0 ps G) (hK : ∀ v G2, Sp F0 G0 (OwnL 1 v ([s].map .str) :: ps) G2 → K v G2) : aBuildSlice T t_sl_string 1 [(0, .str s)] G K :=
  buildV (T := T) (ts := t_sl_string) (e := t_string) (si := ti_sl_string) (ie := ti_string) T_sl_string rfl T_string rfl hs rfl (by decide) hK

set_option maxHeartbeats 2000000 in
theorem update_Next.use {v w : AVal} {mine others : List UpdM} {u : UpdM} (hl : IsSl 36 G v (mine.map UpdM.av)) (ho : IsSl 36 G w (others.map UpdM.av)) (hok : ∀ u ∈ mine, u.ok) (hok2 : ∀ u ∈ others, u.ok) (hlen : mine.length ≤ 9223372036854775807) (hlen2 : others.length ≤ 9223372036854775807) (hu : u.ok)
    (hQ : ∀ G', Ch [] G [] G' → Q (.int .i64 (nextU mine others u)) G') : ACalls P update_Next.n [v, w, u.av] G Q := by
  refine update_Next.sound ?_
  unfold update_Next.S
  rw [zUpd]
  intro i1 f1
  have s1 := (Sp.nil G).row f1 u.av
  refine wv_of (upd_len (hl.ch' s1.ch)) ?_
  unfold nextU at hQ
  rw [vbin_geq, wv_some, brB_dec]
  refine ⟨fun h => ?_, fun h => ?_⟩
  · rw [if_pos (by omega)] at hQ
    exact hQ _ s1.ch
  rw [if_neg (by omega)] at hQ
  refine wv_of (upd_load (i := 0) s1 rfl hu).2.2.2.2.2 ?_
  refine update_Valid.use hu fun G7 c7 => ?_
  have s7 := s1.tmp c7
  rw [vun_not, wv_some]
  cases hv : validU u with
  | false =>
    rw [if_pos hv] at hQ
    exact hQ _ s7.ch
  | true =>
    rw [if_neg (by rw [hv]; decide)] at hQ
    rw [Bool.not_true, brB_false]
    refine wv_of (upd_load (i := 0) s7 rfl hu).1 ?_
    rw [vbin_eql, wv_some, brB_dec]
    refine ⟨fun hk1 => ?_, fun hk1 => ?_⟩
    · rw [if_pos hk1] at hQ
      refine wv_of (upd_load (i := 0) s7 rfl hu).2.1 ?_
      refine update_adds.use (hl.ch' s7.ch) hok hlen fun G13 c13 => ?_
      have s13 := s7.tmp c13
      refine ⟨⟨(upd_load (i := 0) s13 rfl hu).2.1, trivial⟩, ?_⟩
      rw [vbin_neq, wv_some, brB_ndec]
      exact ⟨fun h => by rw [if_neg h] at hQ; exact hQ _ s13.ch, fun h => by rw [if_pos h] at hQ; exact hQ _ s13.ch⟩
    rw [if_neg hk1] at hQ
    refine wv_of (upd_load (i := 0) s7 rfl hu).2.1 ?_
    refine update_Find.use (ho.ch' s7.ch) hok2 hlen2 fun G17 c17 => ?_
    have s17 := s7.tmp c17
    have hf1 := firstU_ok (rm := false) (id := u.id) hok2
    have hf2 := firstU_ok (rm := true) (id := u.id) hok
    rw [opt0, wv_some, opt1, wv_some]
    obtain ⟨A, hA⟩ : ∃ A, A = firstU false u.id others := ⟨_, rfl⟩
    obtain ⟨B, hB⟩ : ∃ A, A = firstU true u.id mine := ⟨_, rfl⟩
    rw [← hA] at hf1 hQ ⊢
    rw [← hB] at hf2 hQ
    intro i20 f20
    have s20 := s17.row f20 UpdM.zero.av
    refine upd_store (i := 0) s20 rfl UpdM.zero_ok hf1 fun G22 s22 => ?_
    refine wv_of (upd_load (i := 1) s22 rfl hu).2.1 ?_
    refine update_Removal.use (hl.ch' s22.ch) hok hlen fun G25 c25 => ?_
    have s25 := s22.tmp c25
    rw [← hB, opt0, wv_some, opt1, wv_some]
    intro i28 f28
    have s28 := s25.row f28 UpdM.zero.av
    refine upd_store (i := 0) s28 rfl UpdM.zero_ok hf2 fun G30 s30 => ?_
    have s30 : Sp [] G [RowL i28 (B.getD UpdM.zero).av, RowL i20 (A.getD UpdM.zero).av, RowL i1 u.av] G30 := s30
    rw [vun_not, wv_some]
    cases hAs : A.isSome with
    | false =>
      rw [if_pos hAs] at hQ
      exact hQ _ s30.ch
    | true =>
      rw [if_neg (by rw [hAs]; decide)] at hQ
      rw [Bool.not_true, brB_false]
      cases hBs : B.isSome with
      | true =>
        rw [if_pos hBs] at hQ
        exact hQ _ s30.ch
      | false =>
        rw [if_neg (by rw [hBs]; decide)] at hQ
        rw [brB_false]
        refine wv_of (upd_load (i := 2) s30 rfl hu).1 ?_
        rw [vbin_eql, wv_some, brB_dec]
        refine ⟨fun hk2 => ?_, fun hk2 => ?_⟩
        · obtain ⟨x, hx, hxs⟩ := slice_upd hu (RowL.own (i := 2) s30 rfl)
          refine wv_of hx ?_
          refine wv_of (conv_bytes (si := ti_sl_uint8) (ie := ti_uint8) (di := ti_string) T_sl_uint8 rfl T_uint8 rfl T_string rfl hxs) ?_
          refine wv_of (upd_load (i := 1) s30 rfl hf1).2.2.2.1 ?_
          refine one_str s30 fun v37 G38 s38 => ?_
          have hh := hu.hash
          refine hash_Sum.use (xs := [u.hash]) (OwnL.own (i := 0) s38 rfl).cap (by simp) (by simp; omega) fun G40 c40 => ?_
          have s40 := s38.tmp c40
          refine ⟨⟨(upd_load (i := 2) s40 rfl hf1).2.2.2.1, trivial⟩, ?_⟩
          have e1 : [u.hash].flatten = u.hash := by simp
          rw [e1, hash_neq (length_sha' _) hf1.hash, wv_some, brB_ndec]
          refine ⟨fun h => ?_, fun h => ?_⟩
          · rw [if_pos ⟨hk2, h⟩] at hQ
            exact hQ _ s40.ch
          · rw [if_neg (fun hh => hh.2 h)] at hQ
            exact hQ _ s40.ch
        · rw [if_neg (fun hh => hk2 hh.1)] at hQ
          exact hQ _ s30.ch

end
end Go.Esc.M

/- Own work. Chapter 12: UpdateNexts. -/
set_option linter.unusedSimpArgs false
set_option linter.unusedVariables false
set_option maxRecDepth 20000
namespace Go.Esc.M
open Go Go.Esc

section
variable {F0 : List AId} {G0 G : Heap} {ps : List LP} {Q : AVal → Heap → Prop}

theorem upds_uni {l : List UpdM} (h : ∀ p ∈ l, p.ok) : Esc.uni 36 (l.map UpdM.av) = true ∧ okvs (l.map UpdM.av) = true := by
  refine ⟨by simp only [Esc.uni, List.all_map, List.all_eq_true]; intro p hp; simp [UpdM.sz (h p hp)], ?_⟩
  induction l with
  | nil => rfl
  | cons p l ih => simp [okvs, UpdM.okv, ih (fun p hp => h p (by simp [hp]))]

end
end Go.Esc.M

/- Own work. Chapter 12: UpdateNexts, the law. -/
set_option linter.unusedSimpArgs false
set_option linter.unusedVariables false
set_option maxRecDepth 20000
namespace Go.Esc.M
open Go Go.Esc

theorem wt_Upds {G : Heap} {R d : Nat} {v : AVal} {m : Nat} (h : wt T G R (d + 4) t_sl_api_Update v m) : ∃ l : List UpdM, RoSl 36 G v (l.map UpdM.av) ∧ (∀ u ∈ l, u.ok) ∧ l.length * 72 ≤ R := by
  obtain ⟨xs, ms, hro, hall, hms, hR, _⟩ := wt_ro UpdM.av (fun u m => u.ok) T_sl_api_Update rfl T_api_Update (fun c m h => by obtain ⟨u, hu, ho, _⟩ := wt_Upd h; exact ⟨u, hu, ho⟩) h
  refine ⟨xs, hro, fun u hu => ?_, hR⟩
  obtain ⟨m, hm, _⟩ := hall.mem hu
  exact hm

end Go.Esc.M

/- Own work. Chapter 12: two lists that grow: the plain law. -/
set_option linter.unusedSimpArgs false
set_option linter.unusedVariables false
set_option maxRecDepth 20000
namespace Go.Esc.M
open Go Go.Esc

def thereF (u : UpdM) (t : Bool) (b : UpdM) : Bool := if b.kind = 1 ∧ b.id = u.id then decide (u.kind = 3) || decide (sha u.hash = b.hash) else t
def thereU (u : UpdM) (B : List UpdM) : Bool := B.foldl (thereF u) false
def SoundU (A B : List UpdM) : Prop := ∀ i u, A[i]? = some u → if u.kind = 1 then u.id = ((addsU (A.take i) : Nat) : Int) else thereU u B = true ∧ ∀ k v, k < i → A[k]? = some v → v.kind ≠ 1 → v.id ≠ u.id

theorem SoundU.nil (B : List UpdM) : SoundU [] B := fun i u h => by simp at h

end Go.Esc.M

/- Own work. Chapter 12: two lists that grow: what the law's own functions do. -/
set_option linter.unusedSimpArgs false
set_option linter.unusedVariables false
set_option maxRecDepth 20000
namespace Go.Esc.M
open Go Go.Esc

section
variable {F0 : List AId} {G0 G : Heap} {ps : List LP} {Q : AVal → Heap → Prop}

end
end Go.Esc.M

/- Own work. Chapter 13: sums in two parts. -/
set_option linter.unusedSimpArgs false
set_option linter.unusedVariables false
set_option maxRecDepth 20000
namespace Go.Esc.M
open Go Go.Esc


theorem shr30 (a : Int) {t : TypeId} {T : Tbl} : vbin T .shr t (.int .i64 a) (.int .u64 30) = some (.int .i64 (a / 1073741824)) := by
  rw [vbin_shr _ _ _ _ _ _ (by decide)]
  have h1 : min (30 : Int).toNat IntKind.i64.bits = 30 := by decide
  have h2 : (2 : Int) ^ 30 = 1073741824 := by decide
  rw [h1, h2, Int.fdiv_eq_ediv_of_nonneg _ (by decide)]
theorem and30 (a : Int) {t : TypeId} {T : Tbl} : vbin T .and t (.int .i64 a) (.int .i64 1073741823) = some (.int .i64 (a % 1073741824)) := by
  have := and_mask a 30 (by decide)
  have e1 : ((2 ^ 30 - 1 : Nat) : Int) = 1073741823 := by decide
  have e2 : ((2 ^ 30 : Nat) : Int) = 1073741824 := by decide
  rw [e1, e2] at this
  rw [vbin_and, this]
theorem or30 {x y : Nat} (hx : x ≤ 1073741824) (hy : y < 1073741824) {t : TypeId} {T : Tbl} : vbin T .or t (.int .i64 ((x * 1073741824 : Nat) : Int)) (.int .i64 (y : Int)) = some (.int .i64 ((x * 1073741824 + y : Nat) : Int)) := by
  have hb : IntKind.i64.bits = 64 := rfl
  have e64 : ∀ z : Nat, (BitVec.ofInt 64 (z : Int)).toNat = z % 2 ^ 64 := fun z => by rw [BitVec.ofInt_natCast, BitVec.toNat_ofNat]
  have hor : 2 ^ 30 * x + y = 2 ^ 30 * x ||| y := Nat.two_pow_add_eq_or_of_lt hy x
  have e30 : (2 : Nat) ^ 30 = 1073741824 := by decide
  have e64' : (2 : Nat) ^ 64 = 18446744073709551616 := by decide
  rw [e30, Nat.mul_comm] at hor
  have hx2 : x * 1073741824 < 18446744073709551616 := by omega
  have hy2 : y < 18446744073709551616 := by omega
  rw [vbin_or, hb, BitVec.toNat_or, e64, e64, e64', Nat.mod_eq_of_lt hx2, Nat.mod_eq_of_lt hy2, ← hor, i64_in (by omega) (by omega)]
theorem shl30 {x : Nat} (hx : x ≤ 1073741824) {t : TypeId} {T : Tbl} : vbin T .shl t (.int .i64 (x : Int)) (.int .u64 30) = some (.int .i64 ((x * 1073741824 : Nat) : Int)) := by
  rw [vbin_shl _ _ _ _ _ _ (by decide)]
  have h1 : min (30 : Int).toNat IntKind.i64.bits = 30 := by decide
  have h2 : (2 : Int) ^ 30 = 1073741824 := by decide
  rw [h1, h2, i64_in (by omega) (by omega)]
  congr 2

/-- The program's sum: its upper and lower parts, no more than so many steps from nothing. -/
structure Wd (n : Nat) (u l : Int) : Prop where
  u1 : -((n : Int) * 1073741824) ≤ u
  u2 : u ≤ (n : Int) * 1073741824
  l1 : -((n : Int) * 1073741824) ≤ l
  l2 : l ≤ (n : Int) * 1073741824
def totW (u l : Int) : Int := u * 1073741824 + l
def valueW (t : Int) : Int := if t < 0 then -1 else if t < 1152921505680588800 then t else 1152921504606846977
def cutW (t : Int) : Int := if t < 0 then 0 else if t < 1152921504606846976 then t else 1152921504606846976
def amt (a : Int) : Prop := 0 ≤ a ∧ a ≤ 1152921504606846976

section
variable {F0 : List AId} {G0 G : Heap} {ps : List LP} {Q : AVal → Heap → Prop}

theorem pair_load {T' : TypeId} {ti : TI} {id : AId} {a b : Int} (hg : G id = some (.own (pairW a b))) (hT : T T' = some ti) (hf : vfits ti (pairW a b) = true) :
    vload T G t_int64 (.ptr id [0] 0) = some (.int .i64 a) ∧ vload T G t_int64 (.ptr id [1] 1) = some (.int .i64 b) ∧ vload T G T' (.ptr id [] 0) = some (pairW a b) :=
  ⟨vload_fld (c := .int .i64 a) hg rfl rfl rfl T_int64 rfl, vload_fld (c := .int .i64 b) hg rfl rfl rfl T_int64 rfl, whole_load hT hg hf⟩

theorem build_wide (a b : Int) : vbuild T t_ledger_wide [(0, .int .i64 a), (1, .int .i64 b)] = some (pairW a b) := rfl
theorem zWide : z_ledger_wide = pairW 0 0 := rfl
theorem wide_store {i : Nat} {id : AId} {a b c d : Int} (hs : Sp F0 G0 ps G) (hi : ps[i]? = some (RowL id (pairW a b))) {K : Heap → Prop} (hK : ∀ G', Sp F0 G0 (ps.set i (RowL id (pairW c d))) G' → K G') : wg (vstore T G t_ledger_wide (.ptr id [] 0) (pairW c d)) K := by
  refine wg_of (whole_store T_ledger_wide (RowL.own hs hi) rfl rfl rfl) ?_
  exact hK _ (Sp.setRow hs hi _)

theorem ledger_wide_plus.use {n : Nat} {u l a : Int} (hw : Wd n u l) (hn : n ≤ 1073741824) (ha : amt a) (hQ : ∀ u' l' G', Ch [] G [] G' → Wd (n + 1) u' l' → totW u' l' = totW u l + a → Q (pairW u' l') G') : ACalls P ledger_wide_plus.n [pairW u l, .int .i64 a] G Q := by
  refine ledger_wide_plus.sound ?_
  unfold ledger_wide_plus.S
  rw [zWide]
  obtain ⟨h1, h2, h3, h4⟩ := hw
  obtain ⟨h5, h6⟩ := ha
  intro i1 f1
  have s1 := (Sp.nil G).row f1 (pairW u l)
  intro i3 f3
  have s3 := s1.row f3 (pairW 0 0)
  obtain ⟨l1, l2, _⟩ := pair_load (RowL.own (i := 1) s3 rfl) T_ledger_wide rfl
  refine wv_of l1 ?_
  refine wv_of (shr30 a) ?_
  rw [vbin_add, i64_in (by omega) (by omega), wv_some]
  refine wv_of l2 ?_
  refine wv_of (and30 a) ?_
  rw [vbin_add, i64_in (by omega) (by omega), wv_some]
  refine wv_of (build_wide _ _) ?_
  refine wide_store (i := 0) s3 rfl fun G12 s12 => ?_
  refine wv_of (pair_load (RowL.own (i := 0) s12 rfl) T_ledger_wide rfl).2.2 ?_
  exact hQ _ _ _ s12.ch ⟨by omega, by omega, by omega, by omega⟩ (by unfold totW; omega)

theorem ledger_wide_minus.use {n : Nat} {u l a : Int} (hw : Wd n u l) (hn : n ≤ 1073741824) (ha : amt a) (hQ : ∀ u' l' G', Ch [] G [] G' → Wd (n + 1) u' l' → totW u' l' = totW u l - a → Q (pairW u' l') G') : ACalls P ledger_wide_minus.n [pairW u l, .int .i64 a] G Q := by
  refine ledger_wide_minus.sound ?_
  unfold ledger_wide_minus.S
  rw [zWide]
  obtain ⟨h1, h2, h3, h4⟩ := hw
  obtain ⟨h5, h6⟩ := ha
  intro i1 f1
  have s1 := (Sp.nil G).row f1 (pairW u l)
  intro i3 f3
  have s3 := s1.row f3 (pairW 0 0)
  obtain ⟨l1, l2, _⟩ := pair_load (RowL.own (i := 1) s3 rfl) T_ledger_wide rfl
  refine wv_of l1 ?_
  refine wv_of (shr30 a) ?_
  rw [vbin_sub, i64_in (by omega) (by omega), wv_some]
  refine wv_of l2 ?_
  refine wv_of (and30 a) ?_
  rw [vbin_sub, i64_in (by omega) (by omega), wv_some]
  refine wv_of (build_wide _ _) ?_
  refine wide_store (i := 0) s3 rfl fun G12 s12 => ?_
  refine wv_of (pair_load (RowL.own (i := 0) s12 rfl) T_ledger_wide rfl).2.2 ?_
  exact hQ _ _ _ s12.ch ⟨by omega, by omega, by omega, by omega⟩ (by unfold totW; omega)

theorem ledger_wide_value.use {n : Nat} {u l : Int} (hw : Wd n u l) (hn : n ≤ 1073741824) (hQ : ∀ G', Ch [] G [] G' → Q (.int .i64 (valueW (totW u l))) G') : ACalls P ledger_wide_value.n [pairW u l] G Q := by
  refine ledger_wide_value.sound ?_
  unfold ledger_wide_value.S
  obtain ⟨h1, h2, h3, h4⟩ := hw
  intro i1 f1
  have s1 := (Sp.nil G).row f1 (pairW u l)
  obtain ⟨l1, l2, _⟩ := pair_load (RowL.own (i := 0) s1 rfl) T_ledger_wide rfl
  refine wv_of l1 ?_
  refine wv_of l2 ?_
  refine wv_of (shr30 l) ?_
  rw [vbin_add, i64_in (by omega) (by omega), wv_some]
  have hQ := hQ _ s1.ch
  have ht : totW u l = (u + l / 1073741824) * 1073741824 + l % 1073741824 := by unfold totW; omega
  unfold valueW at hQ
  rw [vbin_lss, wv_some, brB_dec]
  refine ⟨fun h => ?_, fun h => ?_⟩
  · rw [if_pos (by omega)] at hQ
    exact hQ
  rw [if_neg (by omega)] at hQ
  rw [vbin_gtr, wv_some, brB_dec]
  refine ⟨fun h2 => ?_, fun h2 => ?_⟩
  · rw [if_neg (by omega)] at hQ
    exact hQ
  rw [if_pos (by omega)] at hQ
  obtain ⟨x, hx⟩ : ∃ x : Nat, u + l / 1073741824 = (x : Int) := ⟨(u + l / 1073741824).toNat, by omega⟩
  obtain ⟨y, hy⟩ : ∃ y : Nat, l % 1073741824 = (y : Int) := ⟨(l % 1073741824).toNat, by omega⟩
  rw [hx] at ht h h2 ⊢
  rw [hy] at ht
  refine wv_of (shl30 (by omega)) ?_
  refine wv_of l2 ?_
  refine wv_of (and30 l) ?_
  rw [hy]
  refine wv_of (or30 (by omega) (by omega)) ?_
  have : ((x * 1073741824 + y : Nat) : Int) = totW u l := by rw [ht]; omega
  rw [this]
  exact hQ

/-! ### The document's -/
def small (t : Int) : Prop := -1329227995784915872903807060280344576 ≤ t ∧ t ≤ 1329227995784915872903807060280344576

end

end Go.Esc.M
