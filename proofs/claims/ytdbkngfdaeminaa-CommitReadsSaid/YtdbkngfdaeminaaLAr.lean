/- Own work. Arrays of anything in rows; structs and arrays built. -/
import Derived.Test.YtdbkngfdaeminaaLSp
set_option linter.unusedSimpArgs false
set_option linter.unusedVariables false
set_option maxRecDepth 20000
namespace Go.Esc
open Go Go.RowKit

theorem wv_of {o : Option AVal} {v : AVal} {K : AVal → Prop} (h : o = some v) (k : K v) : wv o K := by rw [h]; exact k
theorem wg_of {o : Option Heap} {v : Heap} {K : Heap → Prop} (h : o = some v) (k : K v) : wg o K := by rw [h]; exact k

section
variable {T : Tbl} {t : TypeId} {ti : TI} {G : Heap} {i : AId} {c z : AVal}
theorem whole_load (ht : T t = some ti) (hg : G i = some (.own c)) (hf : vfits ti c = true) : vload T G t (.ptr i [] 0) = some c := by
  simp [vload, vsub, hg, treeOf, sub, ht, hf]
theorem whole_store (ht : T t = some ti) (hg : G i = some (.own z)) (hf : vfits ti c = true) (hs : sz z = sz c) (hok : okv c = true) : vstore T G t (.ptr i [] 0) c = some (G.upd i (.own c)) := by
  simp [vstore, hg, sub, ht, hf, hs, hok, putAt]

/-- A new variable with a value. -/
theorem newVal {F0 : List AId} {G0 : Heap} {ps : List LP} {K : AId → Heap → Prop} (hs : Sp F0 G0 ps G) (ht : T t = some ti) (hf : vfits ti c = true) (hz : sz z = sz c) (hok : okv c = true) (hK : ∀ i G', Sp F0 G0 (RowL i c :: ps) G' → K i G') :
    aNew G (.own z) fun i G2 => wg (vstore T G2 t (.ptr i [] 0) c) fun G3 => K i G3 := by
  intro i hfr
  have s := hs.row hfr z
  rw [whole_store ht (RowL.own (i := 0) s rfl) hf hz hok, wg_some]
  refine hK _ _ ?_
  refine s.call (i := 0) rfl (RowL i c) fun F h k => ?_
  obtain ⟨h, rfl⟩ := h
  exact k _ _ ⟨Heap.upd_self _ _ _, rfl⟩ ⟨roLe_upd h (by simp), fun j x hj hn => by rw [Heap.upd_ne _ _ (fun e => hn (by simp [e]))]; exact hj, fun j hj => .inl hj⟩
end

theorem IsSl.ch' {n : Nat} {G G' : Heap} {E : List AId} {v : AVal} {vs : List AVal} (h : IsSl n G v vs) (hc : Ch [] G E G') : IsSl n G' v vs := h.le fun j o hj => hc.others j o hj (by simp)

section
variable {T : Tbl} {ta te : TypeId} {ia ie : TI} {n : Nat} {G : Heap} {i : AId} {cs : List AVal}

end

/-! ### Lists in one's own rows -/

section
variable {T : Tbl} {ts e tx : TypeId} {si ie xi : TI} (ht : T ts = some si) (hd : si.desc = .slice e) (he : T e = some ie) (hz : sz ie.zero = ie.size) (hb : ie.bytes ≠ 0 ∧ ie.bytes ≤ 1000000)
variable {F0 : List AId} {G0 G : Heap} {ps : List LP} {s : AVal} {vs : List AVal} {i : Nat} {K : AVal → Heap → Prop}

include ht hd he hz hb in
/-- A list in one's own row gets a value more. -/
theorem growV {c : AVal} (hs : Sp F0 G0 ps G) (hi : ps[i]? = some (OwnL ie.size s vs)) (hc : sz c = ie.size) (hok : okv c = true) (hie : ie.size ≤ 16777216) (hl : (vs.length + 1) * ie.bytes ≤ 220000000000000)
    (hK : ∀ s' G', Sp F0 G0 (ps.set i (OwnL ie.size s' (vs ++ [c]))) G' → K s' G') : aBuildSlice T ts 1 [(0, c)] G fun v G' => aAppend T G' ts ts s v K := by
  obtain ⟨F, ho, _⟩ := hs.get hi
  refine append1 ht hd he hz hb ho hc hok hie hl fun s' G2 ho2 hk => hK s' G2 ?_
  refine hs.call hi (OwnL ie.size s' (vs ++ [c])) fun F h k => ?_
  obtain ⟨_, rfl⟩ := h
  exact k _ _ ⟨ho2, rfl⟩ hk.ch

include ht hd he hz hb in
/-- A list in one's own row gets values more. -/
theorem growL {x : AVal} {xs : List AVal} (htx : T tx = some xi) (hdx : xi.desc = .string ∨ ∃ e', xi.desc = .slice e') (hs : Sp F0 G0 ps G) (hi : ps[i]? = some (OwnL ie.size s vs)) (hx : selems G ie.size x = some xs) (hu : uni ie.size xs = true) (hok : okvs xs = true)
    (hl : (vs.length + xs.length) * ie.bytes ≤ 220000000000000) (hK : ∀ s' G', Sp F0 G0 (ps.set i (OwnL ie.size s' (vs ++ xs))) G' → K s' G') : aAppend T G ts tx s x K := by
  obtain ⟨F, ho, _⟩ := hs.get hi
  refine own_append ht hd he hz hb htx hdx ho hx hu hok hl fun s' G2 ho2 hk => hK s' G2 ?_
  refine hs.call hi (OwnL ie.size s' (vs ++ xs)) fun F h k => ?_
  obtain ⟨_, rfl⟩ := h
  exact k _ _ ⟨ho2, rfl⟩ hk.ch

include ht hd he hz in
/-- A list of one value. -/
theorem buildV {c : AVal} (hs : Sp F0 G0 ps G) (hc : sz c = ie.size) (hie : ie.size ≤ 16777216) (hK : ∀ s' G', Sp F0 G0 (OwnL ie.size s' [c] :: ps) G' → K s' G') : aBuildSlice T ts 1 [(0, c)] G K := by
  unfold aBuildSlice
  have hf : fillA (fun k => some (k * ie.size, ie.size)) (List.replicate 1 ie.zero) [(0, c)] = some [c] := by simp [fillA, hz, hc, szs]
  simp only [ht, hd, he, hf]
  refine ⟨by omega, fun id hfr => hK _ _ (hs.new (p := OwnL ie.size _ [c]) ⟨.inr ⟨id, 1, 1, [c], rfl, Heap.upd_self _ _ _, rfl, Nat.le_refl _, by simp [Esc.uni, hc], rfl⟩, rfl⟩ ?_)⟩
  simpa [rowOf] using Ch.new hfr

end

theorem Sp.nilL {F0 : List AId} {G0 G : Heap} {ps : List LP} (hs : Sp F0 G0 ps G) (n : Nat) : Sp F0 G0 (OwnL n .nilSlice [] :: ps) G := hs.new (p := OwnL n .nilSlice []) ⟨.inl ⟨rfl, rfl⟩, rfl⟩ (Ch.refl _ _)
theorem OwnL.own {F0 : List AId} {G0 G : Heap} {ps : List LP} {i n : Nat} {v : AVal} {vs : List AVal} (h : Sp F0 G0 ps G) (hi : ps[i]? = some (OwnL n v vs)) : Own n G v vs := by
  obtain ⟨F, h, _⟩ := h.get hi
  exact h

/-! ### Structs and arrays built -/

def plOk (pl : Nat → Option (Nat × Nat)) (zs : List AVal) : Prop := ∀ k z, zs[k]? = some z → pl k = some (szs (zs.take k), sz z)

theorem szs_set {zs : List AVal} {k : Nat} {v z : AVal} (hz : zs[k]? = some z) (hs : sz v = sz z) : szs (zs.set k v) = szs zs := by
  obtain ⟨e1, e2⟩ := set_split zs k z v hz
  rw [e2]
  conv => rhs; rw [e1]
  rw [szs_append, szs_append, szs_cons, szs_cons, hs]

theorem plOk.set {pl : Nat → Option (Nat × Nat)} {zs : List AVal} (h : plOk pl zs) {k : Nat} {v z : AVal} (hz : zs[k]? = some z) (hs : sz v = sz z) : plOk pl (zs.set k v) := by
  intro j y hy
  have hk := (List.getElem?_eq_some_iff.1 hz).1
  have e : szs ((zs.set k v).take j) = szs (zs.take j) := by
    rw [List.take_set]
    by_cases hkj : k < j
    · exact szs_set (by rw [List.getElem?_take_of_lt hkj]; exact hz) hs
    · rw [List.set_eq_of_length_le (by rw [List.length_take]; omega)]
  rw [e]
  by_cases hjk : j = k
  · subst hjk
    rw [List.getElem?_set_self hk] at hy
    injection hy with hy
    subst hy
    rw [h _ z hz, hs]
  · rw [List.getElem?_set_ne (by omega)] at hy
    exact h _ _ hy

end Go.Esc
