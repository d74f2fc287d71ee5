/- Own work. Slices: what they read, how long they are. -/
import Derived.Test.YtbckpbdamfhehaaGreatDoorEW
set_option linter.unusedSimpArgs false
set_option linter.unusedVariables false
namespace Go.Esc
open Go Go.RowKit

theorem sub_append {k d : Nat} {c : AVal} : ∀ {p : List Nat} {v : AVal} {o : Nat} {cs : List AVal}, sub p v o = some (.agg cs) → szs (cs.take k) = d → cs[k]? = some c → sub (p ++ [k]) v (o + d) = some c
  | [], v, o, cs, h, hd, hc => by
    simp only [sub] at h
    split at h
    · injection h with h; subst h
      rename_i h0
      subst h0
      simp [sub, hd, hc]
    · cases h
  | q :: p, v, o, cs, h, hd, hc => by
    cases v with
    | agg cs' =>
      simp only [sub] at h
      split at h
      · rename_i hle
        cases hq : cs'[q]? with
        | none => simp [hq] at h
        | some c' =>
          rw [hq] at h
          have := sub_append h hd hc
          simp only [List.cons_append, sub, hq]
          rw [if_pos (by omega), show o + d - szs (cs'.take q) = o - szs (cs'.take q) + d by omega]
          exact this
      · cases h
    | _ => simp [sub] at h

theorem vsub_append {G : Heap} {id : AId} {p : List Nat} {o k d : Nat} {c : AVal} {cs : List AVal} (h : vsub G (.ptr id p o) = some (.agg cs)) (hd : szs (cs.take k) = d) (hc : cs[k]? = some c) : vsub G (.ptr id (p ++ [k]) (o + d)) = some c := by
  simp only [vsub] at h ⊢
  cases hg : G id with
  | none => simp [hg] at h
  | some ob =>
    rw [hg] at h
    simp only at h ⊢
    cases ht : treeOf ob with
    | none => simp [ht] at h
    | some tr =>
      rw [ht] at h
      exact sub_append h hd hc

/-- A slice, or the nil slice, that reads so. -/
def IsSl (n : Nat) (G : Heap) (v : AVal) (vs : List AVal) : Prop :=
  (∃ id p st off len cap, v = .slice id p st off len cap ∧ selems G n v = some vs) ∨ (v = .nilSlice ∧ vs = [])

theorem IsSl.elems {n : Nat} {G : Heap} {v : AVal} {vs : List AVal} (h : IsSl n G v vs) : selems G n v = some vs := by
  rcases h with ⟨_, _, _, _, _, _, rfl, h⟩ | ⟨rfl, rfl⟩
  · exact h
  · rfl

theorem IsSl.le {n : Nat} {G G' : Heap} {v : AVal} {vs : List AVal} (h : IsSl n G v vs) (hle : G.le G') : IsSl n G' v vs := by
  rcases h with ⟨a, b, c, d, e, f, rfl, h⟩ | ⟨rfl, rfl⟩
  · exact .inl ⟨a, b, c, d, e, f, rfl, selems_le hle h⟩
  · exact .inr ⟨rfl, rfl⟩

theorem selems_spec {G : Heap} {n : Nat} {id : AId} {p : List Nat} {st off len cap : Nat} {vs : List AVal} (h : selems G n (.slice id p st off len cap) = some vs) :
    ∃ cs, vsub G (.ptr id p (off - st * n)) = some (.agg cs) ∧ st * n ≤ off ∧ uni n cs = true ∧ st + len ≤ cs.length ∧ vs = (cs.drop st).take len ∧ arrAt G n id p st off = some cs := by
  simp only [selems] at h
  split at h
  · rename_i cs hcs
    split at h
    · rename_i hle
      injection h with h
      have hcs' := hcs
      unfold arrAt at hcs
      split at hcs
      · rename_i cs' hs
        split at hcs
        · rename_i hc
          injection hcs with hcs
          subst hcs
          simp only [Bool.and_eq_true, decide_eq_true_eq] at hc
          exact ⟨cs', hs, hc.1, hc.2, hle, h.symm, hcs'⟩
        · cases hcs
      · cases hcs
    · cases h
  · cases h

section
variable {T : Tbl} {t e : TypeId} {i ie : TI} (ht : T t = some i) (hd : i.desc = .slice e) (he : T e = some ie)

include ht hd in
theorem IsSl.len {n : Nat} {G : Heap} {v : AVal} {vs : List AVal} (h : IsSl n G v vs) : vlen T G t v = some (.int .i64 vs.length) := by
  rcases h with ⟨id, p, st, off, len, cap, rfl, h⟩ | ⟨rfl, rfl⟩
  · obtain ⟨cs, _, _, _, h2, rfl, _⟩ := selems_spec h
    simp only [vlen, ht, hd, List.length_take, List.length_drop]
    rw [Nat.min_eq_left (by omega)]
  · simp [vlen, ht, hd]

include ht hd he in
theorem IsSl.at_ {G : Heap} {v : AVal} {vs : List AVal} (h : IsSl ie.size G v vs) {k : IntKind} {j : Nat} {c : AVal} (hj : vs[j]? = some c) (hc : c.isAgg = ie.desc.isAgg) :
    ∃ a, viaddr T t v (.int k j) = some a ∧ vload T G e a = some c := by
  rcases h with ⟨id, p, st, off, len, cap, rfl, h⟩ | ⟨rfl, rfl⟩
  · obtain ⟨cs, h1, h0, h2, h3, rfl, _⟩ := selems_spec h
    have hjl : j < len := by
      have := (List.getElem?_eq_some_iff.1 hj).1
      simp only [List.length_take, List.length_drop] at this
      omega
    have hcs : cs[st + j]? = some c := by
      rw [List.getElem?_take_of_lt hjl, List.getElem?_drop] at hj
      exact hj
    refine ⟨.ptr id (p ++ [st + j]) (off + j * ie.size), ?_, ?_⟩
    · simp only [viaddr, ht, hd, he]
      rw [if_pos ⟨by omega, by omega⟩]
      simp
    · have hlt : st + j < cs.length := (List.getElem?_eq_some_iff.1 hcs).1
      have hsz : szs (cs.take (st + j)) = (st + j) * ie.size := by
        rw [szs_uni (uni_take h2 _), List.length_take, Nat.min_eq_left (by omega)]
      have := vsub_append h1 hsz hcs
      rw [show off - st * ie.size + (st + j) * ie.size = off + j * ie.size by rw [Nat.add_mul]; omega] at this
      simp only [vload, this, he]
      have hu : sz c = ie.size := by
        simp only [uni, List.all_eq_true, beq_iff_eq] at h2
        exact h2 c (List.mem_of_getElem? hcs)
      rw [if_pos (by simp [vfits, hc, hu])]
  · simp at hj

end

theorem vbin_beql {T : Tbl} {t : TypeId} {i : TI} (ht : T t = some i) (hd : i.desc = .bool) (a b : Bool) : vbin T .eql t (.bool a) (.bool b) = some (.bool (a == b)) := by
  simp [vbin, veqD, ht, hd]
theorem vbin_bneq {T : Tbl} {t : TypeId} {i : TI} (ht : T t = some i) (hd : i.desc = .bool) (a b : Bool) : vbin T .neq t (.bool a) (.bool b) = some (.bool (!(a == b))) := by
  simp [vbin, veqD, ht, hd]

theorem treeOf_ro (t : AVal) : treeOf (.ro t) = some t := rfl
theorem treeOf_own (t : AVal) : treeOf (.own t) = some t := rfl

/-- A whole row under a name. -/
theorem isSl_row {G : Heap} {id : AId} {o : AObj} {cs : List AVal} {n len cap : Nat} (hg : G id = some o) (ho : treeOf o = some (.agg cs)) (hu : uni n cs = true) (hl : len ≤ cs.length) : IsSl n G (.slice id [] 0 0 len cap) (cs.take len) := by
  refine .inl ⟨_, _, _, _, _, _, rfl, ?_⟩
  have h1 : arrAt G n id [] 0 0 = some cs := by
    simp [arrAt, vsub, hg, ho, sub, hu]
  simp [selems, h1, hl]

theorem wts_length {f : AVal → Nat → Prop} : ∀ {cs : List AVal} {ms : List Nat}, wts f cs ms → cs.length = ms.length
  | [], [], _ => rfl
  | c :: cs, m :: ms, h => by simp [wts_length h.2]

theorem wts_ints {T : Tbl} {G : Heap} {R d : Nat} {t : TypeId} {i : TI} {k : IntKind} (ht : T t = some i) (hd : i.desc = .int k) : ∀ {cs : List AVal} {ms : List Nat}, wts (wt T G R (d + 1) t) cs ms →
    ∃ xs : List Int, cs = xs.map (.int k) ∧ (∀ x ∈ xs, (Lit.int k x).wf = true) ∧ ms.sum = xs.length
  | [], [], _ => ⟨[], rfl, by simp, rfl⟩
  | c :: cs, m :: ms, ⟨h1, h2⟩ => by
    obtain ⟨xs, rfl, h4, h5⟩ := wts_ints ht hd h2
    simp only [wt, ht, hd] at h1
    obtain ⟨n, rfl, hw, rfl⟩ := h1
    exact ⟨n :: xs, rfl, by simp [hw]; exact h4, by simp [h5]; omega⟩

theorem wt_int {T : Tbl} {G : Heap} {R d : Nat} {t : TypeId} {i : TI} {k : IntKind} {v : AVal} {m : Nat} (ht : T t = some i) (hd : i.desc = .int k) (h : wt T G R (d + 1) t v m) : ∃ n, v = .int k n ∧ (Lit.int k n).wf = true ∧ m = 1 := by
  simpa only [wt, ht, hd] using h
theorem wt_bool {T : Tbl} {G : Heap} {R d : Nat} {t : TypeId} {i : TI} {v : AVal} {m : Nat} (ht : T t = some i) (hd : i.desc = .bool) (h : wt T G R (d + 1) t v m) : ∃ b, v = .bool b ∧ m = 1 := by
  simpa only [wt, ht, hd] using h
theorem wt_str {T : Tbl} {G : Heap} {R d : Nat} {t : TypeId} {i : TI} {v : AVal} {m : Nat} (ht : T t = some i) (hd : i.desc = .string) (h : wt T G R (d + 1) t v m) : ∃ l, v = .str l ∧ l.length ≤ R ∧ l.length ≤ maxLen ∧ m = l.length + 1 := by
  simpa only [wt, ht, hd] using h

/-- An argument that is a row of whole numbers. -/
theorem wt_ints {T : Tbl} {G : Heap} {R d : Nat} {t e : TypeId} {i ie : TI} {k : IntKind} {v : AVal} {m : Nat} (ht : T t = some i) (hd : i.desc = .slice e) (he : T e = some ie) (hde : ie.desc = .int k) (h : wt T G R (d + 2) t v m) :
    ∃ xs : List Int, IsSl ie.size G v (xs.map (.int k)) ∧ (∀ x ∈ xs, (Lit.int k x).wf = true) ∧ xs.length * ie.bytes ≤ R ∧ xs.length + 1 ≤ m ∧ xs.length ≤ maxLen := by
  rw [wt] at h
  simp only [ht, hd, he] at h
  rcases h with ⟨rfl, rfl⟩ | ⟨id, len, cap, cs, ms, rfl, hl, hm, hR, hg, hcl, hu, _, hw, rfl⟩
  · exact ⟨[], .inr ⟨rfl, rfl⟩, by simp, by simp, by simp, by simp⟩
  · obtain ⟨xs, rfl, h1, h2⟩ := wts_ints he hde hw
    simp only [List.length_map] at hcl
    refine ⟨xs.take len, ?_, fun x hx => h1 x (List.mem_of_mem_take hx), ?_, ?_, ?_⟩
    · rw [List.map_take]
      exact isSl_row hg rfl hu (by simp [hcl, hl])
    · rw [List.length_take, Nat.min_eq_left (by omega)]
      exact Nat.le_trans (Nat.mul_le_mul_right _ hl) hR
    · rw [List.length_take, Nat.min_eq_left (by omega), h2]
      omega
    · rw [List.length_take, Nat.min_eq_left (by omega)]
      omega

end Go.Esc
