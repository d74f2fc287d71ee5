/- Own work. Lists: rows of one's own that grow, and rows that nobody turns. -/
import Derived.Test.YtbckpbdamfhehaaGreatDoorEX
set_option linter.unusedSimpArgs false
set_option linter.unusedVariables false
namespace Go.Esc
open Go Go.RowKit

def rowOf : AVal → Option AId
  | .slice id _ _ _ _ _ => some id
  | _ => none

/-- What nobody may turn is as it was. -/
def RoLe (G G' : Heap) : Prop := ∀ id t, G id = some (.ro t) → G' id = some (.ro t)

theorem RoLe.refl (G : Heap) : RoLe G G := fun _ _ h => h
theorem RoLe.trans {a b c : Heap} (h : RoLe a b) (k : RoLe b c) : RoLe a c := fun id t e => k id t (h id t e)
theorem RoLe.of_le {a b : Heap} (h : a.le b) : RoLe a b := fun id t e => h id _ e

/-- A list in a row that nobody may turn. -/
def RoSl (n : Nat) (G : Heap) (v : AVal) (vs : List AVal) : Prop :=
  (∃ id p st off len cap t, v = .slice id p st off len cap ∧ len ≤ cap ∧ G id = some (.ro t) ∧ selems G n v = some vs) ∨ (v = .nilSlice ∧ vs = [])

theorem RoSl.is {n : Nat} {G : Heap} {v : AVal} {vs : List AVal} (h : RoSl n G v vs) : IsSl n G v vs := by
  rcases h with ⟨id, p, st, off, len, cap, t, rfl, _, _, h⟩ | h
  · exact .inl ⟨_, _, _, _, _, _, rfl, h⟩
  · exact .inr h

theorem selems_row {n : Nat} {G G' : Heap} {id : AId} {p : List Nat} {st off len cap : Nat} (h : G' id = G id) : selems G' n (.slice id p st off len cap) = selems G n (.slice id p st off len cap) := by
  simp only [selems, arrAt, vsub, h]

theorem RoSl.mono {n : Nat} {G G' : Heap} {v : AVal} {vs : List AVal} (h : RoSl n G v vs) (hle : RoLe G G') : RoSl n G' v vs := by
  rcases h with ⟨id, p, st, off, len, cap, t, rfl, hlc, hg, h⟩ | h
  · refine .inl ⟨id, p, st, off, len, cap, t, rfl, hlc, hle _ _ hg, ?_⟩
    rw [selems_row (G := G) (by rw [hg, hle _ _ hg])]
    exact h
  · exact .inr h

/-- A list in a row of one's own, from its beginning on. -/
def Own (n : Nat) (G : Heap) (v : AVal) (vs : List AVal) : Prop :=
  (v = .nilSlice ∧ vs = []) ∨ ∃ id len cap cs, v = .slice id [] 0 0 len cap ∧ G id = some (.own (.agg cs)) ∧ cs.length = cap ∧ len ≤ cap ∧ uni n cs = true ∧ vs = cs.take len

theorem Own.is {n : Nat} {G : Heap} {v : AVal} {vs : List AVal} (h : Own n G v vs) : IsSl n G v vs := by
  rcases h with h | ⟨id, len, cap, cs, rfl, hg, hc, hl, hu, rfl⟩
  · exact .inr h
  · exact isSl_row hg rfl hu (by omega)

theorem Own.uni {n : Nat} {G : Heap} {v : AVal} {vs : List AVal} (h : Own n G v vs) : uni n vs = true := by
  rcases h with ⟨_, rfl⟩ | ⟨id, len, cap, cs, rfl, hg, hc, hl, hu, rfl⟩
  · rfl
  · exact uni_take hu _

/-- What a list's growing leaves alone. -/
structure Kept (s : AVal) (G : Heap) (s' : AVal) (G' : Heap) : Prop where
  ro : RoLe G G'
  others : ∀ j o, G j = some o → rowOf s ≠ some j → G' j = some o
  row : ∀ j, rowOf s' = some j → rowOf s = some j ∨ G j = none

theorem Own.mono {n : Nat} {G G' : Heap} {v s s' : AVal} {vs : List AVal} (h : Own n G v vs) (hk : Kept s G s' G') (hne : ∀ j, rowOf v = some j → rowOf s ≠ some j) : Own n G' v vs := by
  rcases h with h | ⟨id, len, cap, cs, rfl, hg, h⟩
  · exact .inl h
  · exact .inr ⟨id, len, cap, cs, rfl, hk.others _ _ hg (hne _ rfl), h⟩

theorem uni_append {n : Nat} {a b : List AVal} (ha : uni n a = true) (hb : uni n b = true) : uni n (a ++ b) = true := by
  simp only [Esc.uni, List.all_append, Bool.and_eq_true] at *
  exact ⟨ha, hb⟩
theorem uni_replicate {n k : Nat} {z : AVal} (h : sz z = n) : uni n (List.replicate k z) = true := by
  simp [Esc.uni, h]

section
variable {T : Tbl} {ts e : TypeId} {si ie : TI} (ht : T ts = some si) (hd : si.desc = .slice e) (he : T e = some ie) (hz : sz ie.zero = ie.size) (hb : ie.bytes ≠ 0 ∧ ie.bytes ≤ 1000000)

include ht hd he hz hb in
theorem own_append {tx : TypeId} {xi : TI} (htx : T tx = some xi) (hdx : xi.desc = .string ∨ ∃ e', xi.desc = .slice e') {G : Heap} {s x : AVal} {olds vs : List AVal} {K : AVal → Heap → Prop}
    (hs : Own ie.size G s olds) (hx : selems G ie.size x = some vs) (hu : uni ie.size vs = true) (hok : okvs vs = true) (hsz : (olds.length + vs.length) * ie.bytes ≤ 220000000000000)
    (hK : ∀ s' G', Own ie.size G' s' (olds ++ vs) → Kept s G s' G' → K s' G') : aAppend T G ts tx s x K := by
  have hgrow : ∀ (olds : List AVal), uni ie.size olds = true → (olds.length + vs.length) * ie.bytes ≤ 220000000000000 → (∀ s' G', Own ie.size G' s' (olds ++ vs) → Kept s G s' G' → K s' G') → grow ie G olds vs K := by
    intro olds huo hsz hK
    refine ⟨hsz, hb, fun id cap hf hle hcap => hK _ _ (.inr ⟨id, _, cap, _, rfl, Heap.upd_self _ _ _, ?_, hle, ?_, ?_⟩) ⟨RoLe.of_le (hf.le _), fun j o hj _ => hf.le _ _ _ hj, fun j hj => ?_⟩⟩
    · simp; omega
    · exact uni_append (uni_append huo hu) (uni_replicate hz)
    · rw [List.take_left' (by simp)]
    · simp only [rowOf, Option.some.injEq] at hj
      subst hj
      exact .inr hf.none
  refine ⟨?_⟩
  unfold aAppend0
  simp only [ht, htx, hd, he, hx]
  refine ⟨hdx, ?_⟩
  rcases hs with ⟨rfl, rfl⟩ | ⟨id, len, cap, cs, rfl, hg, hc, hl, huc, rfl⟩
  · cases vs with
    | nil => exact hK _ _ (.inl ⟨rfl, rfl⟩) ⟨RoLe.refl _, fun _ _ h _ => h, fun j hj => by simp [rowOf] at hj⟩
    | cons v vs => exact hgrow [] rfl hsz hK
  · have hlen : (cs.take len).length = len := by simp; omega
    have harr : arrAt G ie.size id [] 0 0 = some cs := by
      simp [arrAt, vsub, hg, treeOf, sub, huc]
    refine ⟨fun hle => ?_, fun hlt => ?_⟩
    · cases vs with
      | nil =>
        simp only [lay]
        exact hK _ _ (.inr ⟨id, len, cap, cs, by simp, hg, hc, hl, huc, by simp⟩) ⟨RoLe.refl _, fun _ _ h _ => h, fun j hj => .inl hj⟩
      | cons v vs =>
        simp only [lay, harr]
        refine ⟨by omega, hok, hu, ?_⟩
        have hput : putArr G id [] ie.size 0 0 (cs.take (0 + len) ++ (v :: vs) ++ cs.drop (0 + len + (v :: vs).length)) = some (G.upd id (.own (.agg (cs.take len ++ (v :: vs) ++ cs.drop (len + (v :: vs).length))))) := by
          simp [putArr, hg, sub, putAt]
        rw [hput]
        refine hK _ _ (.inr ⟨id, _, cap, _, rfl, Heap.upd_self _ _ _, ?_, hle, ?_, ?_⟩) ⟨fun j t hj => ?_, fun j o hj hne => ?_, fun j hj => .inl hj⟩
        · simp at hle ⊢
          omega
        · exact uni_append (uni_append (uni_take huc _) hu) (uni_drop huc _)
        · rw [List.take_left' (by simp; omega)]
        · rw [Heap.upd_ne _ _ (fun h => by subst h; rw [hg] at hj; cases hj)]
          exact hj
        · rw [Heap.upd_ne _ _ (fun h => hne (by rw [h]; rfl))]
          exact hj
    · have hse : selems G ie.size (.slice id [] 0 0 len cap) = some (cs.take len) := by
        simp [selems, harr, hc, hl]
      rw [hse]
      exact hgrow _ (uni_take huc _) hsz hK

include ht hd he hz hb in
/-- One value more. -/
theorem append1 {G : Heap} {s c : AVal} {olds : List AVal} {K : AVal → Heap → Prop} (hs : Own ie.size G s olds) (hc : sz c = ie.size) (hok : okv c = true) (hie : ie.size ≤ 16777216) (hsz : (olds.length + 1) * ie.bytes ≤ 220000000000000)
    (hK : ∀ s' G', Own ie.size G' s' (olds ++ [c]) → Kept s G s' G' → K s' G') : aBuildSlice T ts 1 [(0, c)] G fun v G' => aAppend T G' ts ts s v K := by
  unfold aBuildSlice
  have hf : fillA (fun k => some (k * ie.size, ie.size)) (List.replicate 1 ie.zero) [(0, c)] = some [c] := by
    simp [fillA, hz, hc, szs]
  simp only [ht, hd, he, hf]
  refine ⟨by omega, fun id hfr => ?_⟩
  have hs' : Own ie.size (G.upd id (.own (.agg [c]))) s olds := by
    rcases hs with h | ⟨i', len, cap, cs, rfl, hg, h⟩
    · exact .inl h
    · exact .inr ⟨i', len, cap, cs, rfl, hfr.le _ _ _ hg, h⟩
  have huc : uni ie.size [c] = true := by simp [Esc.uni, hc]
  refine own_append ht hd he hz hb ht (.inr ⟨e, hd⟩) hs' (x := .slice id [] 0 0 1 1) (vs := [c]) (isSl_row (Heap.upd_self _ _ _) rfl huc (by simp) |>.elems) huc (by simp [okvs, hok]) (by simpa using hsz) fun s' G' ho hk => hK s' G' ho ⟨?_, ?_, ?_⟩
  · exact (RoLe.of_le (hfr.le _)).trans hk.ro
  · exact fun j o hj hne => hk.others _ _ (hfr.le _ _ _ hj) hne
  · intro j hj
    rcases hk.row j hj with h | h
    · exact .inl h
    · refine .inr ?_
      by_cases e : j = id
      · rw [e]; exact hfr.none
      · rw [Heap.upd_ne _ _ e] at h; exact h

end

theorem vconv_int {T : Tbl} {G : Heap} {s d : TypeId} {si di : TI} {k k' : IntKind} {n : Int} (hs : T s = some si) (hd : T d = some di) (hk : di.desc = .int k) : vconv T G s d (.int k' n) = some (.int k (k.wrap n)) := by
  simp [vconv, hs, hd, hk]

section
variable {T : Tbl} {t e : TypeId} {i ie : TI} (ht : T t = some i) (hd : i.desc = .slice e) (he : T e = some ie)

theorem sbounds_high {len cap m : Nat} {k : IntKind} (h : m ≤ cap) : sbounds len cap none (some (.int k m)) none = some (0, m, cap) := by
  have h0 : (0 : Int) ≤ m ∧ (m : Int) ≤ cap := by omega
  simp [sbounds, sbound, h0]
theorem sbounds_low {len cap m : Nat} {k : IntKind} (h : m ≤ len) (hc : len ≤ cap) : sbounds len cap (some (.int k m)) none none = some (m, len, cap) := by
  have h0 : (0 : Int) ≤ m ∧ (m : Int) ≤ len := by omega
  simp [sbounds, sbound, h0]

include ht hd he in
theorem RoSl.take {G : Heap} {v : AVal} {vs : List AVal} (h : RoSl ie.size G v vs) {k : IntKind} {m : Nat} (hm : m ≤ vs.length) : ∃ v', vslice T t v none (some (.int k m)) none = some v' ∧ RoSl ie.size G v' (vs.take m) := by
  rcases h with ⟨id, p, st, off, len, cap, tr, rfl, hlc, hg, h⟩ | ⟨rfl, rfl⟩
  · obtain ⟨cs, h1, h0, h2, h3, rfl, harr⟩ := selems_spec h
    have hl : ((cs.drop st).take len).length = len := by rw [List.length_take, List.length_drop]; omega
    rw [hl] at hm
    refine ⟨.slice id p st off m cap, ?_, .inl ⟨id, p, st, off, m, cap, tr, rfl, by omega, hg, ?_⟩⟩
    · simp only [vslice, ht, hd, he]
      rw [sbounds_high (by omega)]
      simp
    · simp only [selems, harr]
      rw [if_pos (by omega), List.take_take, Nat.min_eq_left hm]
  · simp at hm
    subst hm
    exact ⟨.nilSlice, by simp [vslice, ht, hd, he, sbounds, sbound], .inr ⟨rfl, by simp⟩⟩

include ht hd he in
theorem RoSl.drop {G : Heap} {v : AVal} {vs : List AVal} (h : RoSl ie.size G v vs) {k : IntKind} {m : Nat} (hm : m ≤ vs.length) : ∃ v', vslice T t v (some (.int k m)) none none = some v' ∧ RoSl ie.size G v' (vs.drop m) := by
  rcases h with ⟨id, p, st, off, len, cap, tr, rfl, hlc, hg, h⟩ | ⟨rfl, rfl⟩
  · obtain ⟨cs, h1, h0, h2, h3, rfl, harr⟩ := selems_spec h
    have hl : ((cs.drop st).take len).length = len := by rw [List.length_take, List.length_drop]; omega
    rw [hl] at hm
    refine ⟨.slice id p (if cap = m then st else st + m) (if cap = m then off else off + m * ie.size) (len - m) (cap - m), ?_, ?_⟩
    · simp only [vslice, ht, hd, he]
      rw [sbounds_low hm hlc]
    · by_cases hcm : cap = m
      · have hlm : len = m := by omega
        refine .inl ⟨id, p, _, _, _, _, tr, rfl, by omega, hg, ?_⟩
        rw [if_pos hcm, if_pos hcm]
        simp only [selems, harr]
        rw [if_pos (by omega), hlm, Nat.sub_self, List.take_zero, List.drop_eq_nil_iff.2 (by simp; omega)]
      · refine .inl ⟨id, p, _, _, _, _, tr, rfl, by omega, hg, ?_⟩
        rw [if_neg hcm, if_neg hcm]
        have harr' : arrAt G ie.size id p (st + m) (off + m * ie.size) = some cs := by
          unfold arrAt at harr ⊢
          rw [show off + m * ie.size - (st + m) * ie.size = off - st * ie.size by rw [Nat.add_mul]; omega]
          rw [h1] at harr ⊢
          simp only at harr ⊢
          rw [if_pos]
          simp only [Bool.and_eq_true, decide_eq_true_eq]
          exact ⟨by rw [Nat.add_mul]; omega, h2⟩
        simp only [selems, harr']
        rw [if_pos (by omega), List.drop_take, List.drop_drop]
  · simp at hm
    subst hm
    exact ⟨.nilSlice, by simp [vslice, ht, hd, he, sbounds, sbound], .inr ⟨rfl, by simp⟩⟩

end

/-- An argument that is a row of whole numbers. -/
theorem wt_roInts {T : Tbl} {G : Heap} {R d : Nat} {t e : TypeId} {i ie : TI} {k : IntKind} {v : AVal} {m : Nat} (ht : T t = some i) (hd : i.desc = .slice e) (he : T e = some ie) (hde : ie.desc = .int k) (h : wt T G R (d + 2) t v m) :
    ∃ xs : List Int, RoSl ie.size G v (xs.map (.int k)) ∧ (∀ x ∈ xs, (Lit.int k x).wf = true) ∧ xs.length * ie.bytes ≤ R ∧ xs.length + 1 ≤ m ∧ xs.length ≤ maxLen := by
  obtain ⟨xs, h1, h2⟩ := wt_ints ht hd he hde h
  refine ⟨xs, ?_, h2⟩
  rw [wt] at h
  simp only [ht, hd, he] at h
  rcases h with ⟨rfl, rfl⟩ | ⟨id, len, cap, cs, ms, rfl, hl, hm, hR, hg, hcl, hu, _, hw, rfl⟩
  · rcases h1 with ⟨_, _, _, _, _, _, e, _⟩ | h
    · cases e
    · exact .inr h
  · refine .inl ⟨id, [], 0, 0, len, cap, _, rfl, hl, hg, h1.elems⟩

section
variable {T : Tbl} {t e : TypeId} {i ie : TI} (ht : T t = some i) (hd : i.desc = .slice e) (he : T e = some ie)

include ht hd he in
/-- A place of one's own row, written over. -/
theorem own_set {G : Heap} {id : AId} {len cap j : Nat} {k : IntKind} {cs : List AVal} {c : AVal} (hg : G id = some (.own (.agg cs))) (hu : uni ie.size cs = true) (hj : j < len) (hl : len ≤ cs.length) (hc : sz c = ie.size)
    (ha : c.isAgg = ie.desc.isAgg) (hok : okv c = true) :
    ∃ a, viaddr T t (.slice id [] 0 0 len cap) (.int k j) = some a ∧ vstore T G e a c = some (G.upd id (.own (.agg (cs.set j c)))) := by
  refine ⟨.ptr id [j] (j * ie.size), ?_, ?_⟩
  · simp only [viaddr, ht, hd, he]
    rw [if_pos ⟨by omega, by omega⟩]
    simp
  · have hlt : j < cs.length := by omega
    have hx : cs[j]? = some cs[j] := List.getElem?_eq_getElem hlt
    have hsz : szs (cs.take j) = j * ie.size := by rw [szs_uni (uni_take hu _), List.length_take, Nat.min_eq_left (by omega)]
    have hszx : sz cs[j] = ie.size := by
      simp only [Esc.uni, List.all_eq_true, beq_iff_eq] at hu
      exact hu _ (List.getElem_mem hlt)
    simp only [vstore, hg, sub, hsz, hx, Nat.le_refl, if_true, Nat.sub_self, he, putAt]
    rw [if_pos (by simp [vfits, hc, ha, hok, hszx])]

end

theorem uni_set {n j : Nat} {cs : List AVal} {c : AVal} (h : uni n cs = true) (hc : sz c = n) : uni n (cs.set j c) = true := by
  simp only [Esc.uni, List.all_eq_true, beq_iff_eq] at h ⊢
  intro x hx
  rcases List.mem_or_eq_of_mem_set hx with hx | rfl
  · exact h x hx
  · exact hc

theorem roLe_upd {G : Heap} {id : AId} {o o' : AObj} (hg : G id = some o) (ho : ∀ t, o ≠ .ro t) : RoLe G (G.upd id o') := fun j t hj => by
  rw [Heap.upd_ne _ _ (fun h => by subst h; rw [hg] at hj; injection hj with hj; exact ho _ hj)]
  exact hj

theorem Own.upd {n : Nat} {G : Heap} {v : AVal} {vs : List AVal} {id : AId} {o : AObj} (h : Own n G v vs) (hne : rowOf v ≠ some id) : Own n (G.upd id o) v vs := by
  rcases h with h | ⟨i', len, cap, cs, rfl, hg, h⟩
  · exact .inl h
  · exact .inr ⟨i', len, cap, cs, rfl, by rw [Heap.upd_ne _ _ (fun e => hne (by rw [← e]; rfl))]; exact hg, h⟩

end Go.Esc
