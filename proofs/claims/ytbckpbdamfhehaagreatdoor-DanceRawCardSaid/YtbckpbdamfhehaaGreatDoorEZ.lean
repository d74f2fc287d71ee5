/- Own work. Things in memory: which rows are theirs, and what is left alone. -/
import Derived.Test.YtbckpbdamfhehaaGreatDoorEY
set_option linter.unusedSimpArgs false
set_option linter.unusedVariables false
namespace Go.Esc
open Go Go.RowKit

/-- From one heap to another: all rows but those of F stay; those of F' are of F or new. -/
structure Ch (F : List AId) (G : Heap) (F' : List AId) (G' : Heap) : Prop where
  ro : RoLe G G'
  others : ∀ j o, G j = some o → j ∉ F → G' j = some o
  row : ∀ j ∈ F', j ∈ F ∨ G j = none

theorem Ch.refl (F : List AId) (G : Heap) : Ch F G F G := ⟨RoLe.refl _, fun _ _ h _ => h, fun _ h => .inl h⟩

theorem Ch.trans {F F' F'' : List AId} {G G' G'' : Heap} (h : Ch F G F' G') (k : Ch F' G' F'' G'') : Ch F G F'' G'' := by
  refine ⟨h.ro.trans k.ro, fun j o hj hn => k.others j o (h.others j o hj hn) fun hm => ?_, fun j hj => ?_⟩
  · rcases h.row j hm with h' | h'
    · exact hn h'
    · rw [hj] at h'; cases h'
  · rcases k.row j hj with h' | h'
    · exact h.row j h'
    · by_cases hm : j ∈ F
      · exact .inl hm
      · refine .inr ?_
        cases hg : G j with
        | none => rfl
        | some o => rw [h.others j o hg hm] at h'; cases h'

/-- Rows that are there, and none of which is F's, are none of F' either. -/
theorem Ch.apart {F F' E : List AId} {G G' : Heap} (h : Ch F G F' G') (hE : ∀ j ∈ E, (G j).isSome = true) (hd : ∀ j ∈ E, j ∉ F) : ∀ j ∈ E, j ∉ F' := fun j hj hm => by
  rcases h.row j hm with h' | h'
  · exact hd j hj h'
  · have := hE j hj
    rw [h'] at this; cases this

theorem Ch.same {F F' E : List AId} {G G' : Heap} (h : Ch F G F' G') (hE : ∀ j ∈ E, (G j).isSome = true) (hd : ∀ j ∈ E, j ∉ F) : ∀ j ∈ E, G' j = G j := fun j hj => by
  have := hE j hj
  cases hg : G j with
  | none => rw [hg] at this; cases this
  | some o => exact h.others j o hg (hd j hj)

/-- A bigger footprint. -/
theorem Ch.more {F F' E : List AId} {G G' : Heap} (h : Ch F G F' G') : Ch (F ++ E) G (F' ++ E) G' :=
  ⟨h.ro, fun j o hj hn => h.others j o hj fun hm => hn (by simp [hm]), fun j hj => by
    rcases List.mem_append.1 hj with hj | hj
    · exact (h.row j hj).imp (fun h => by simp [h]) id
    · exact .inl (by simp [hj])⟩

theorem Ch.sub {F F' E E' : List AId} {G G' : Heap} (h : Ch F G F' G') (hF : ∀ j ∈ F, j ∈ E) (hE : ∀ j ∈ E', j ∈ F' ∨ j ∈ E) : Ch E G E' G' :=
  ⟨h.ro, fun j o hj hn => h.others j o hj fun hm => hn (hF j hm), fun j hj => by
    rcases hE j hj with hj | hj
    · exact (h.row j hj).imp (hF j) id
    · exact .inl hj⟩
theorem Ch.drop {F F' : List AId} {G G' : Heap} (h : Ch F G F' G') : Ch F G [] G' := ⟨h.ro, h.others, fun j hj => by simp at hj⟩

/-- What is left of new things is no matter. -/
theorem Ch.less {F F' : List AId} {G G' : Heap} (h : Ch F G F' G') : Ch F G F G' := ⟨h.ro, h.others, fun j hj => .inl hj⟩
theorem Ch.grow {F : List AId} {G G' : Heap} (h : Ch [] G [] G') : Ch F G F G' := by simpa using h.more (E := F)

/-- A new row. -/
theorem Ch.new {G : Heap} {id : AId} {o : AObj} (hf : Fresh G id) : Ch [] G [id] (G.upd id o) :=
  ⟨RoLe.of_le (hf.le _), fun j x hj _ => hf.le _ _ _ hj, fun j hj => by simp at hj; subst hj; exact .inr hf.none⟩

theorem Ch.le {G G' : Heap} (hle : G.le G') : Ch [] G [] G' := ⟨RoLe.of_le hle, fun j o h _ => hle j o h, fun j hj => by simp at hj⟩

section
variable {T : Tbl}

theorem vload_fld {G : Heap} {id : AId} {ob : AObj} {cs : List AVal} {f o : Nat} {c : AVal} {t : TypeId} {i : TI} (hg : G id = some ob) (ho : treeOf ob = some (.agg cs)) (hs : szs (cs.take f) = o) (hc : cs[f]? = some c)
    (ht : T t = some i) (hf : vfits i c = true) : vload T G t (.ptr id [f] o) = some c := by
  simp [vload, vsub, hg, ho, sub, hs, hc, ht, hf]

theorem vstore_fld {G : Heap} {id : AId} {cs : List AVal} {f o : Nat} {c u : AVal} {t : TypeId} {i : TI} (hg : G id = some (.own (.agg cs))) (hs : szs (cs.take f) = o) (hc : cs[f]? = some u)
    (ht : T t = some i) (hf : vfits i c = true) (hsz : sz u = sz c) (hok : okv c = true) : vstore T G t (.ptr id [f] o) c = some (G.upd id (.own (.agg (cs.set f c)))) := by
  simp [vstore, hg, sub, hs, hc, ht, hf, hsz, hok, putAt]

end

theorem Own.leaf {n : Nat} {G : Heap} {v : AVal} {vs : List AVal} (h : Own n G v vs) : sz v = 1 ∧ v.isAgg = false ∧ okv v = true := by
  rcases h with ⟨rfl, _⟩ | ⟨_, _, _, _, rfl, _⟩ <;> exact ⟨rfl, rfl, rfl⟩

theorem wrapU64 (n : Int) : IntKind.u64.wrap n = n % 18446744073709551616 := by simp [IntKind.wrap, IntKind.bits, IntKind.signed]
theorem wrapU32 (n : Int) : IntKind.u32.wrap n = n % 4294967296 := by simp [IntKind.wrap, IntKind.bits, IntKind.signed]
theorem wrapU16 (n : Int) : IntKind.u16.wrap n = n % 65536 := by simp [IntKind.wrap, IntKind.bits, IntKind.signed]
theorem wrapU8 (n : Int) : IntKind.u8.wrap n = n % 256 := by simp [IntKind.wrap, IntKind.bits, IntKind.signed]

/-- A byte's value. -/
def u8v (b : UInt8) : AVal := .int .u8 b.toNat

theorem uni_u8 (l : List UInt8) : uni 1 (l.map u8v) = true := by simp [uni, u8v, sz]
theorem okvs_u8 : ∀ l : List UInt8, okvs (l.map u8v) = true
  | [] => rfl
  | b :: l => by simp [okvs, okv, u8v, okvs_u8 l]
theorem bytesOf_u8 : ∀ l : List UInt8, bytesOf (l.map u8v) = some l
  | [] => rfl
  | b :: l => by simp [bytesOf, u8v, bytesOf_u8 l]

theorem u8v_ofNat (m : Nat) : u8v (UInt8.ofNat m) = .int .u8 ((m % 256 : Nat) : Int) := by simp [u8v]

/-- Two-part things with a list of bytes and a fault: a writer. -/
def WrP (id : AId) (bs : List UInt8) (f : Int) (G : Heap) (F : List AId) : Prop :=
  ∃ s, G id = some (.own (.agg [s, .int .i64 f])) ∧ Own 1 G s (bs.map u8v) ∧ rowOf s ≠ some id ∧ F = id :: (rowOf s).toList

theorem WrP.rows {id : AId} {bs : List UInt8} {f : Int} {G : Heap} {F : List AId} (h : WrP id bs f G F) : ∀ j ∈ F, (G j).isSome = true := by
  obtain ⟨s, hg, ho, hne, rfl⟩ := h
  intro j hj
  rcases List.mem_cons.1 hj with rfl | hj
  · rw [hg]; rfl
  · rcases ho with ⟨rfl, _⟩ | ⟨i, _, _, _, rfl, hi, _⟩
    · simp [rowOf] at hj
    · simp [rowOf] at hj
      subst hj
      rw [hi]; rfl

theorem WrP.frame {id : AId} {bs : List UInt8} {f : Int} {G G' : Heap} {F : List AId} (h : WrP id bs f G F) (hs : ∀ j ∈ F, G' j = G j) : WrP id bs f G' F := by
  obtain ⟨s, hg, ho, hne, rfl⟩ := h
  refine ⟨s, by rw [hs id (by simp)]; exact hg, ?_, hne, rfl⟩
  rcases ho with h | ⟨i, len, cap, cs, rfl, hi, h⟩
  · exact .inl h
  · exact .inr ⟨i, len, cap, cs, rfl, by rw [hs i (by simp [rowOf])]; exact hi, h⟩

section
variable {T : Tbl} {tb : TypeId} {ib : TI} (htb : T tb = some ib) (hdb : ib.desc = .slice tb ∨ ib.desc.isAgg = false) (hzb : ib.size = 1)

include htb hdb hzb in
theorem WrP.put {id : AId} {s v : AVal} {f : Int} {G G9 : Heap} {bs' : List UInt8} (hg : G id = some (.own (.agg [s, .int .i64 f]))) (hne : rowOf s ≠ some id) (hsz : sz s = 1) (ho : Own 1 G9 v (bs'.map u8v)) (hk : Kept s G v G9) :
    ∃ G', vstore T G9 tb (.ptr id [0] 0) v = some G' ∧ WrP id bs' f G' (id :: (rowOf v).toList) ∧ Ch (id :: (rowOf s).toList) G (id :: (rowOf v).toList) G' := by
  have hg9 : G9 id = some (.own (.agg [s, .int .i64 f])) := hk.others _ _ hg hne
  have hnv : rowOf v ≠ some id := fun e => by
    rcases hk.row id e with h | h
    · exact hne h
    · rw [hg] at h; cases h
  have hagg : ib.desc.isAgg = false := by
    rcases hdb with h | h
    · rw [h]; rfl
    · exact h
  refine ⟨_, vstore_fld (c := v) hg9 rfl rfl htb (by simp [vfits, ho.leaf.1, ho.leaf.2.1, hzb, hagg]) (by rw [hsz, ho.leaf.1]) ho.leaf.2.2, ⟨v, Heap.upd_self _ _ _, ho.upd hnv, hnv, rfl⟩, ?_⟩
  refine ⟨hk.ro.trans (roLe_upd hg9 (by simp)), fun j o hj hn => ?_, fun j hj => ?_⟩
  · rw [Heap.upd_ne _ _ (fun e => hn (by simp [e]))]
    exact hk.others _ _ hj fun e => hn (by simp [e])
  · rcases List.mem_cons.1 hj with rfl | hj
    · exact .inl (by simp)
    · rcases hk.row j (by simpa using hj) with h | h
      · exact .inl (by simp [h])
      · exact .inr h

end

end Go.Esc
