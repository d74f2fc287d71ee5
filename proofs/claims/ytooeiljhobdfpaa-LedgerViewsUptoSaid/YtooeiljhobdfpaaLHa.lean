import Derived.Test.YtooeiljhobdfpaaLHh
import Derived.Test.YtooeiljhobdfpaaLLib
import Derived.Test.YtooeiljhobdfpaaSS
import Derived.Test.YtooeiljhobdfpaaLib
/- Own work. Arrays of anything in rows; structs and arrays built. -/
set_option linter.unusedSimpArgs false
set_option linter.unusedVariables false
namespace Go.Esc
open Go Go.RowKit

theorem wv_of {o : Option AVal} {v : AVal} {K : AVal → Prop} (h : o = some v) (k : K v) : wv o K := by rw [h]; exact k
theorem wg_of {o : Option Heap} {v : Heap} {K : Heap → Prop} (h : o = some v) (k : K v) : wg o K := by rw [h]; exact k

section
variable {T : Tbl} {t : TypeId} {ti : TI} {G : Heap} {i : AId} {c z : AVal}
theorem whole_load (ht : T t = some ti) (hg : G i = some (.own c)) (hf : vfits ti c = true) : vload T G t (.ptr i [] 0) = some c := by
  simp [vload, vsub, hg, treeOf, sub, ht, hf]
theorem whole_store (ht : T t = some ti) (hg : G i = some (.own z)) (hf : vfits ti c = true) (hs : sz z = sz c) (hok : okv c = true) : vstore T G t (.ptr i [] 0) c = some (G.upd i (.own c)) := by
  simp [vstore, hg, sub, ht, hf, hs, hok, putAt]

/-- A new variable with a value. -/
theorem newVal {F0 : List AId} {G0 : Heap} {ps : List LP} {K : AId → Heap → Prop} (hs : Sp F0 G0 ps G) (ht : T t = some ti) (hf : vfits ti c = true) (hz : sz z = sz c) (hok : okv c = true) (hK : ∀ i G', Sp F0 G0 (RowL i c :: ps) G' → K i G') :
    aNew G (.own z) fun i G2 => wg (vstore T G2 t (.ptr i [] 0) c) fun G3 => K i G3 := by
  intro i hfr
  have s := hs.row hfr z
  rw [whole_store ht (RowL.own (i := 0) s rfl) hf hz hok, wg_some]
  refine hK _ _ ?_
  refine s.call (i := 0) rfl (RowL i c) fun F h k => ?_
  obtain ⟨h, rfl⟩ := h
  exact k _ _ ⟨Heap.upd_self _ _ _, rfl⟩ ⟨roLe_upd h (by simp), fun j x hj hn => by rw [Heap.upd_ne _ _ (fun e => hn (by simp [e]))]; exact hj, fun j hj => .inl hj⟩
end

theorem IsSl.ch' {n : Nat} {G G' : Heap} {E : List AId} {v : AVal} {vs : List AVal} (h : IsSl n G v vs) (hc : Ch [] G E G') : IsSl n G' v vs := h.le fun j o hj => hc.others j o hj (by simp)

theorem nz0 {T : Tbl} {t : TypeId} {k : IntKind} {n : Int} : vbin T .neq t (.int k n) (.int k n) = some (.bool false) := by rw [vbin_neq, decide_eq_true rfl]; rfl
theorem ez0 {T : Tbl} {t : TypeId} {k : IntKind} {n : Int} : vbin T .eql t (.int k n) (.int k n) = some (.bool true) := by rw [vbin_eql, decide_eq_true rfl]

section
variable {T : Tbl} {ta te : TypeId} {ia ie : TI} {n : Nat} {G : Heap} {i : AId} {cs : List AVal}

theorem arrN_addr (hta : T ta = some ia) (hda : ia.desc = .array n te) (hte : T te = some ie) {p : List Nat} {o : Nat} {k : IntKind} {m : Int} {j : Nat} (hm : m = (j : Int)) (hj : j < n) :
    viaddr T ta (.ptr i p o) (.int k m) = some (.ptr i (p ++ [j]) (o + j * ie.size)) := by
  subst hm
  simp only [viaddr, hta, hda, hte]
  rw [if_pos ⟨by omega, by omega⟩]
  simp
theorem szs_takeN {s : Nat} (hu : uni s cs = true) {j : Nat} (hj : j ≤ cs.length) : szs (cs.take j) = j * s := by
  rw [szs_uni (uni_take hu j), List.length_take, Nat.min_eq_left hj]
theorem arrN_get (hte : T te = some ie) {s : Nat} {c : AVal} {j : Nat} (hg : G i = some (.own (.agg cs))) (hu : uni s cs = true) (hj : cs[j]? = some c) (hf : vfits ie c = true) : vload T G te (.ptr i [j] (0 + j * s)) = some c := by
  have hl := (List.getElem?_eq_some_iff.1 hj).1
  exact vload_fld hg rfl (by rw [szs_takeN hu (by omega), Nat.zero_add]) hj hte hf
theorem arrN_set (hte : T te = some ie) {s : Nat} {c u : AVal} {j : Nat} (hg : G i = some (.own (.agg cs))) (hu : uni s cs = true) (hj : cs[j]? = some u) (hf : vfits ie c = true) (hs : sz u = sz c) (hok : okv c = true) :
    vstore T G te (.ptr i [j] (0 + j * s)) c = some (G.upd i (.own (.agg (cs.set j c)))) := by
  have hl := (List.getElem?_eq_some_iff.1 hj).1
  exact vstore_fld hg (by rw [szs_takeN hu (by omega), Nat.zero_add]) hj hte hf hs hok
theorem fld_addr {t tf : TypeId} {it fi : TI} {fs : List (TypeId × Nat)} {f o : Nat} (ht : T t = some it) (hd : it.desc = .struct fs) (hf : fs[f]? = some (tf, o)) (hft : T tf = some fi) (hz : fi.size ≠ 0) {p : List Nat} {off : Nat} :
    vfaddr T t (.ptr i p off) f = some (.ptr i (p ++ [f]) (off + o)) := by
  simp only [vfaddr, ht, hd, hf, hft]
  rw [if_neg hz]
/-- A field of an element. -/
theorem arrN_getf {tf : TypeId} {fi : TI} {s o f j : Nat} {es : List AVal} {x : AVal} (hg : G i = some (.own (.agg cs))) (hu : uni s cs = true) (hj : cs[j]? = some (.agg es)) (hs : szs (es.take f) = o) (hx : es[f]? = some x) (ht : T tf = some fi) (hf : vfits fi x = true) :
    vload T G tf (.ptr i ([j] ++ [f]) (0 + j * s + o)) = some x := by
  have hl := (List.getElem?_eq_some_iff.1 hj).1
  have h0 : vsub G (.ptr i [] 0) = some (.agg cs) := by simp [vsub, hg, treeOf, sub]
  have h1 := vsub_append h0 (szs_takeN hu (by omega)) hj
  have h2 : vsub G (.ptr i ([j] ++ [f]) (0 + j * s + o)) = some x := vsub_append h1 hs hx
  simp only [vload, h2, ht]
  rw [if_pos hf]
theorem arrN_setf {tf : TypeId} {fi : TI} {s o f j : Nat} {es : List AVal} {x u : AVal} (hg : G i = some (.own (.agg cs))) (hu : uni s cs = true) (hj : cs[j]? = some (.agg es)) (hs : szs (es.take f) = o) (hx : es[f]? = some u) (ht : T tf = some fi) (hf : vfits fi x = true)
    (hsz : sz u = sz x) (hok : okv x = true) : vstore T G tf (.ptr i ([j] ++ [f]) (0 + j * s + o)) x = some (G.upd i (.own (.agg (cs.set j (.agg (es.set f x)))))) := by
  have hl := (List.getElem?_eq_some_iff.1 hj).1
  have e1 : szs (cs.take j) = j * s := szs_takeN hu (by omega)
  have hsub : sub [j, f] (.agg cs) (0 + j * s + o) = some u := by
    simp only [sub, e1, hj, hs, hx, Nat.zero_add]
    rw [if_pos (by omega), if_pos (by omega)]
    simp
  simp only [vstore, hg, List.cons_append, List.nil_append, hsub, ht, hf, hsz, hok, putAt, hj, hx]
  simp

end

theorem u8_or {T : Tbl} {t : TypeId} (a b : UInt8) : vbin T .or t (u8v a) (u8v b) = some (u8v (a ||| b)) := by
  have hb : IntKind.u8.bits = 8 := rfl
  have h1 : a.toNat < 2 ^ 8 := a.toNat_lt
  have h2 : b.toNat < 2 ^ 8 := b.toNat_lt
  have e8 : ∀ x : Nat, (BitVec.ofInt 8 (x : Int)).toNat = x % 2 ^ 8 := fun x => by rw [BitVec.ofInt_natCast, BitVec.toNat_ofNat]
  unfold u8v
  rw [vbin_or, wrapU8, hb, BitVec.toNat_or, e8, e8, Nat.mod_eq_of_lt h1, Nat.mod_eq_of_lt h2, UInt8.toNat_or]
  have : a.toNat ||| b.toNat < 2 ^ 8 := Nat.or_lt_two_pow h1 h2
  congr 2
  omega
/-! ### Lists in one's own rows -/

section
variable {T : Tbl} {ts e tx : TypeId} {si ie xi : TI} (ht : T ts = some si) (hd : si.desc = .slice e) (he : T e = some ie) (hz : sz ie.zero = ie.size) (hb : ie.bytes ≠ 0)
variable {F0 : List AId} {G0 G : Heap} {ps : List LP} {s : AVal} {vs : List AVal} {i : Nat} {K : AVal → Heap → Prop}

include ht hd he hz hb in
/-- A list in one's own row gets a value more. -/
theorem growV {c : AVal} (hs : Sp F0 G0 ps G) (hi : ps[i]? = some (OwnL ie.size s vs)) (hc : sz c = ie.size) (hok : okv c = true) (hie : ie.size ≤ 16777216) (hl : (vs.length + 1) * ie.bytes ≤ 140737488355328)
    (hK : ∀ s' G', Sp F0 G0 (ps.set i (OwnL ie.size s' (vs ++ [c]))) G' → K s' G') : aBuildSlice T ts 1 [(0, c)] G fun v G' => aAppend T G' ts ts s v K := by
  obtain ⟨F, ho, _⟩ := hs.get hi
  refine append1 ht hd he hz hb ho hc hok hie hl fun s' G2 ho2 hk => hK s' G2 ?_
  refine hs.call hi (OwnL ie.size s' (vs ++ [c])) fun F h k => ?_
  obtain ⟨_, rfl⟩ := h
  exact k _ _ ⟨ho2, rfl⟩ hk.ch

include ht hd he hz hb in
/-- A list in one's own row gets values more. -/
theorem growL {x : AVal} {xs : List AVal} (htx : T tx = some xi) (hdx : xi.desc = .string ∨ ∃ e', xi.desc = .slice e') (hs : Sp F0 G0 ps G) (hi : ps[i]? = some (OwnL ie.size s vs)) (hx : selems G ie.size x = some xs) (hu : uni ie.size xs = true) (hok : okvs xs = true)
    (hl : (vs.length + xs.length) * ie.bytes ≤ 140737488355328) (hK : ∀ s' G', Sp F0 G0 (ps.set i (OwnL ie.size s' (vs ++ xs))) G' → K s' G') : aAppend T G ts tx s x K := by
  obtain ⟨F, ho, _⟩ := hs.get hi
  refine own_append ht hd he hz hb htx hdx ho hx hu hok hl fun s' G2 ho2 hk => hK s' G2 ?_
  refine hs.call hi (OwnL ie.size s' (vs ++ xs)) fun F h k => ?_
  obtain ⟨_, rfl⟩ := h
  exact k _ _ ⟨ho2, rfl⟩ hk.ch

include ht hd he hz in
/-- A list of one value. -/
theorem buildV {c : AVal} (hs : Sp F0 G0 ps G) (hc : sz c = ie.size) (hie : ie.size ≤ 16777216) (hK : ∀ s' G', Sp F0 G0 (OwnL ie.size s' [c] :: ps) G' → K s' G') : aBuildSlice T ts 1 [(0, c)] G K := by
  unfold aBuildSlice
  have hf : fillA (fun k => some (k * ie.size, ie.size)) (List.replicate 1 ie.zero) [(0, c)] = some [c] := by simp [fillA, hz, hc, szs]
  simp only [ht, hd, he, hf]
  refine ⟨by omega, fun id hfr => hK _ _ (hs.new (p := OwnL ie.size _ [c]) ⟨.inr ⟨id, 1, 1, [c], rfl, Heap.upd_self _ _ _, rfl, Nat.le_refl _, by simp [Esc.uni, hc], rfl⟩, rfl⟩ ?_)⟩
  simpa [rowOf] using Ch.new hfr

end

theorem Sp.nilL {F0 : List AId} {G0 G : Heap} {ps : List LP} (hs : Sp F0 G0 ps G) (n : Nat) : Sp F0 G0 (OwnL n .nilSlice [] :: ps) G := hs.new (p := OwnL n .nilSlice []) ⟨.inl ⟨rfl, rfl⟩, rfl⟩ (Ch.refl _ _)
theorem OwnL.own {F0 : List AId} {G0 G : Heap} {ps : List LP} {i n : Nat} {v : AVal} {vs : List AVal} (h : Sp F0 G0 ps G) (hi : ps[i]? = some (OwnL n v vs)) : Own n G v vs := by
  obtain ⟨F, h, _⟩ := h.get hi
  exact h

/-! ### Structs and arrays built -/

def plOk (pl : Nat → Option (Nat × Nat)) (zs : List AVal) : Prop := ∀ k z, zs[k]? = some z → pl k = some (szs (zs.take k), sz z)

theorem szs_set {zs : List AVal} {k : Nat} {v z : AVal} (hz : zs[k]? = some z) (hs : sz v = sz z) : szs (zs.set k v) = szs zs := by
  obtain ⟨e1, e2⟩ := set_split zs k z v hz
  rw [e2]
  conv => rhs; rw [e1]
  rw [szs_append, szs_append, szs_cons, szs_cons, hs]

theorem plOk.set {pl : Nat → Option (Nat × Nat)} {zs : List AVal} (h : plOk pl zs) {k : Nat} {v z : AVal} (hz : zs[k]? = some z) (hs : sz v = sz z) : plOk pl (zs.set k v) := by
  intro j y hy
  have hk := (List.getElem?_eq_some_iff.1 hz).1
  have e : szs ((zs.set k v).take j) = szs (zs.take j) := by
    rw [List.take_set]
    by_cases hkj : k < j
    · exact szs_set (by rw [List.getElem?_take_of_lt hkj]; exact hz) hs
    · rw [List.set_eq_of_length_le (by rw [List.length_take]; omega)]
  rw [e]
  by_cases hjk : j = k
  · subst hjk
    rw [List.getElem?_set_self hk] at hy
    injection hy with hy
    subst hy
    rw [h _ z hz, hs]
  · rw [List.getElem?_set_ne (by omega)] at hy
    exact h _ _ hy

def setParts (zs : List AVal) (parts : List (Nat × AVal)) : List AVal := parts.foldl (fun z p => z.set p.1 p.2) zs

theorem fillA_ok {pl : Nat → Option (Nat × Nat)} : ∀ {parts : List (Nat × AVal)} {zs : List AVal}, plOk pl zs → (∀ p ∈ parts, zs[p.1]?.map sz = some (sz p.2)) → fillA pl zs parts = some (setParts zs parts)
  | [], zs, _, _ => rfl
  | (k, v) :: parts, zs, h, hp => by
    have h1 := hp (k, v) (by simp)
    cases hz : zs[k]? with
    | none => rw [hz] at h1; cases h1
    | some z =>
      rw [hz] at h1
      simp only [Option.map_some, Option.some.injEq] at h1
      simp only [fillA, h k z hz, hz, h1, beq_self_eq_true, Bool.and_self, if_true]
      refine fillA_ok (h.set hz h1.symm) fun p hpm => ?_
      rw [← hp p (by simp [hpm])]
      by_cases hpk : p.1 = k
      · rw [hpk, List.getElem?_set_self (List.getElem?_eq_some_iff.1 hz).1, hz]
        simp [h1]
      · rw [List.getElem?_set_ne (by omega)]

theorem plOk_of {pl : Nat → Option (Nat × Nat)} {zs : List AVal} (h : (List.range zs.length).all (fun k => pl k == zs[k]?.map fun z => (szs (zs.take k), sz z)) = true) : plOk pl zs := by
  intro k z hz
  have hk := (List.getElem?_eq_some_iff.1 hz).1
  have := List.all_eq_true.1 h k (List.mem_range.2 hk)
  rw [hz] at this
  simpa using this

theorem build_struct {T : Tbl} {t : TypeId} {i : TI} {fs : List (TypeId × Nat)} {zs : List AVal} {parts : List (Nat × AVal)} (ht : T t = some i) (hd : i.desc = .struct fs) (hz : i.zero = .agg zs) (ha : fs.all (fun g => (T g.1).isSome) = true) (hp : plOk (places T fs) zs)
    (hs : ∀ p ∈ parts, zs[p.1]?.map sz = some (sz p.2)) : vbuild T t parts = some (.agg (setParts zs parts)) := by
  unfold vbuild
  simp only [ht, hd, hz, ha, if_true, fillA_ok hp hs]

theorem build_array {T : Tbl} {t e : TypeId} {i ie : TI} {n : Nat} {zs : List AVal} {parts : List (Nat × AVal)} (ht : T t = some i) (hd : i.desc = .array n e) (he : T e = some ie) (hz : i.zero = .agg zs) (hu : uni ie.size zs = true)
    (hs : ∀ p ∈ parts, zs[p.1]?.map sz = some (sz p.2)) : vbuild T t parts = some (.agg (setParts zs parts)) := by
  unfold vbuild
  have hp : plOk (fun k => some (k * ie.size, ie.size)) zs := fun k z hk => by
    have hl := (List.getElem?_eq_some_iff.1 hk).1
    rw [szs_takeN hu (by omega)]
    simp only [uni, List.all_eq_true, beq_iff_eq] at hu
    rw [hu z (List.mem_of_getElem? hk)]
  simp only [ht, hd, he, hz, fillA_ok hp hs]

/-- One's own list as a row. -/
theorem Sp.ownRow {F0 : List AId} {G0 G : Heap} {ps : List LP} {i n : Nat} {v : AVal} {vs : List AVal} (s : Sp F0 G0 ps G) (hi : ps[i]? = some (OwnL n v vs)) (hne : vs ≠ []) :
    ∃ id cap rest, v = .slice id [] 0 0 vs.length cap ∧ cap = vs.length + rest.length ∧ uni n rest = true ∧ Sp F0 G0 (ps.set i (RowL id (.agg (vs ++ rest)))) G := by
  have ho := OwnL.own s hi
  rcases ho with ⟨_, h⟩ | ⟨id, len, cap, cs, rfl, hg, hc, hl, hu, he⟩
  · exact absurd h hne
  · have hlen : vs.length = len := by rw [he, List.length_take]; omega
    have hcs : cs = vs ++ cs.drop len := by rw [he, List.take_append_drop]
    refine ⟨id, cap, cs.drop len, by rw [hlen], by rw [List.length_drop]; omega, uni_drop hu _, ?_⟩
    rw [← hcs]
    refine s.call hi (RowL id (.agg cs)) fun F h k => ?_
    obtain ⟨_, rfl⟩ := h
    exact k [id] G ⟨hg, rfl⟩ (Ch.refl _ _)
theorem slice_to {T : Tbl} {t e : TypeId} {i ie : TI} (ht : T t = some i) (hd : i.desc = .slice e) (he : T e = some ie) {id : AId} {len cap m : Nat} {k : IntKind} {x : Int} (hx : x = (m : Int)) (hm : m ≤ cap) : vslice T t (.slice id [] 0 0 len cap) none (some (.int k x)) none = some (.slice id [] 0 0 m cap) := by
  subst hx
  simp only [vslice, ht, hd, he]
  rw [sbounds_high hm]
  simp
/-- The first of a row. -/
theorem row_first {G : Heap} {id : AId} {n cap : Nat} {xs ys : List AVal} (hg : G id = some (.own (.agg (xs ++ ys)))) (hu : uni n (xs ++ ys) = true) : IsSl n G (.slice id [] 0 0 xs.length cap) xs := by
  have := isSl_row (len := xs.length) (cap := cap) hg rfl hu (by simp)
  rwa [List.take_left] at this
theorem row_slot {T : Tbl} {t e : TypeId} {i ie : TI} (ht : T t = some i) (hd : i.desc = .slice e) (he : T e = some ie) {id : AId} {len cap j : Nat} {k : IntKind} {x : Int} (hx : x = (j : Int)) (hj : j < len) : viaddr T t (.slice id [] 0 0 len cap) (.int k x) = some (.ptr id [j] (0 + j * ie.size)) := by
  subst hx
  simp only [viaddr, ht, hd, he]
  rw [if_pos ⟨by omega, by omega⟩]
  simp

/-- A list built out of so many. -/
theorem buildL {T : Tbl} {F0 : List AId} {G0 G : Heap} {ps : List LP} {ts e : TypeId} {si ie : TI} {n : Nat} {parts : List (Nat × AVal)} {l : List AVal} {K : AVal → Heap → Prop} (ht : T ts = some si) (hd : si.desc = .slice e) (he : T e = some ie) (hz : sz ie.zero = ie.size)
    (hl : setParts (List.replicate n ie.zero) parts = l) (hu : uni ie.size l = true) (hn : l.length = n) (hs : ∀ p ∈ parts, p.1 < n ∧ sz p.2 = ie.size) (hb : n * ie.size ≤ 16777216) (sp : Sp F0 G0 ps G) (hK : ∀ v G', Sp F0 G0 (OwnL ie.size v l :: ps) G' → K v G') : aBuildSlice T ts n parts G K := by
  have hu0 : uni ie.size (List.replicate n ie.zero) = true := uni_replicate hz
  have hp : plOk (fun k => some (k * ie.size, ie.size)) (List.replicate n ie.zero) := fun k z hk => by
    have hl := (List.getElem?_eq_some_iff.1 hk).1
    rw [szs_takeN hu0 (by omega)]
    simp only [uni, List.all_eq_true, beq_iff_eq] at hu0
    rw [hu0 z (List.mem_of_getElem? hk)]
  have hf := fillA_ok (parts := parts) hp fun p hpm => by
    obtain ⟨h1, h2⟩ := hs p hpm
    rw [List.getElem?_replicate_of_lt h1, Option.map_some, hz, h2]
  unfold aBuildSlice
  simp only [ht, hd, he, hf]
  rw [hl]
  refine ⟨hb, fun id hfr => hK _ _ (sp.new (p := OwnL ie.size _ l) ⟨.inr ⟨id, n, n, l, rfl, Heap.upd_self _ _ _, hn, Nat.le_refl _, hu, by rw [← hn, List.take_length]⟩, rfl⟩ ?_)⟩
  simpa [rowOf] using Ch.new hfr

/-- make: a new list of zeros. -/
theorem mkOwn {T : Tbl} {F0 : List AId} {G0 G : Heap} {ps : List LP} {ts e : TypeId} {si ie : TI} (ht : T ts = some si) (hd : si.desc = .slice e) (he : T e = some ie) (hz : sz ie.zero = ie.size) {k k' : IntKind} {n : Nat} {x y : Int} (hx : x = (n : Int)) (hy : y = (n : Int))
    (hb : ie.bytes * n ≤ 281474976710656) (hn : n ≤ 9223372036854775807) (hs : Sp F0 G0 ps G) {K : AVal → Heap → Prop} (hK : ∀ v G', Sp F0 G0 (OwnL ie.size v (List.replicate n ie.zero) :: ps) G' → K v G') : aMakeSlice T ts (.int k x) (.int k' y) G K := by
  subst hx hy
  unfold aMakeSlice
  simp only [ht, hd, he]
  refine ⟨by omega, by omega, ?_, by omega, fun id hf => ?_⟩
  · have : ((ie.bytes * n : Nat) : Int) ≤ 281474976710656 := by omega
    rwa [Int.natCast_mul] at this
  · simp only [Int.toNat_natCast]
    refine hK _ _ (hs.new (p := OwnL ie.size _ _) ⟨.inr ⟨id, n, n, List.replicate n ie.zero, rfl, Heap.upd_self _ _ _, by simp, Nat.le_refl _, uni_replicate hz, ?_⟩, rfl⟩ ?_)
    · rw [List.take_of_length_le (by simp)]
    · simpa [rowOf] using Ch.new hf

end Go.Esc

/- Own work. Lists in one's own rows: the first of them, with spare room behind; written over by a copy; an element set. -/
set_option linter.unusedSimpArgs false
set_option linter.unusedVariables false
namespace Go.Esc
open Go Go.RowKit

theorem set_same {α : Type} : ∀ {l : List α} {j : Nat} {x : α}, l[j]? = some x → l.set j x = l
  | [], _, _, h => by simp at h
  | a :: l, 0, x, h => by simp at h; simp [h]
  | a :: l, j + 1, x, h => by rw [List.set_cons_succ, set_same (by simpa using h)]
/-- The first m of a list of so many. -/
def LentG (w v : AVal) (m len : Nat) : Prop := (v = .nilSlice ∧ w = .nilSlice ∧ m = 0 ∧ len = 0) ∨ ∃ id cap, v = .slice id [] 0 0 len cap ∧ w = .slice id [] 0 0 m cap ∧ m ≤ len ∧ len ≤ cap

theorem LentG.own {w v : AVal} {m len : Nat} (h : LentG w v m len) {n : Nat} {G : Heap} {vs : List AVal} (hl : vs.length = len) (ho : Own n G v vs) : Own n G w (vs.take m) := by
  rcases h with ⟨rfl, rfl, rfl, rfl⟩ | ⟨id, cap, rfl, rfl, hm, hc⟩
  · have : vs = [] := List.length_eq_zero_iff.1 hl
    subst this
    exact .inl ⟨rfl, rfl⟩
  · rcases ho with ⟨h, _⟩ | ⟨id', len', cap', cs', h1, hg', hc', hl', hu', he'⟩
    · cases h
    · injection h1 with i1 i2 i3 i4 i5 i6
      subst i1 i5 i6
      refine .inr ⟨id, m, cap, cs', rfl, hg', hc', by omega, hu', ?_⟩
      rw [he', List.take_take, Nat.min_eq_left hm]
theorem LentG.leaf {w v : AVal} {m len : Nat} (h : LentG w v m len) : sz w = 1 ∧ w.isAgg = false ∧ okv w = true := by
  rcases h with ⟨_, rfl, _, _⟩ | ⟨id, cap, _, rfl, _⟩ <;> exact ⟨rfl, rfl, rfl⟩
theorem LentG.cap {w v : AVal} {m len : Nat} (h : LentG w v m len) {n : Nat} {G : Heap} {vs : List AVal} (hl : vs.length = len) (ho : Own n G v vs) : CapSl n G w (vs.take m) := by
  rcases h with ⟨rfl, rfl, rfl, rfl⟩ | ⟨id, cap, rfl, rfl, hm, hc⟩
  · exact .inr ⟨rfl, by simp⟩
  · refine .inl ⟨id, [], 0, 0, m, cap, rfl, by omega, ?_⟩
    have := (LentG.own (.inr ⟨id, cap, rfl, rfl, hm, hc⟩ : LentG (.slice id [] 0 0 m cap) (.slice id [] 0 0 len cap) m len) hl ho).is.elems
    exact this

section
variable {T : Tbl} {t e : TypeId} {i ie : TI} (ht : T t = some i) (hd : i.desc = .slice e) (he : T e = some ie)

include ht hd he in
theorem LentG.mk {n : Nat} {G : Heap} {v : AVal} {vs : List AVal} (ho : Own n G v vs) {k : IntKind} {m : Nat} {x : Int} (hx : x = (m : Int)) (hm : m ≤ vs.length) : ∃ w, vslice T t v none (some (.int k x)) none = some w ∧ LentG w v m vs.length := by
  subst hx
  rcases ho with ⟨rfl, rfl⟩ | ⟨id, len, cap, cs, rfl, hg, hc, hl, hu, hv⟩
  · simp at hm
    subst hm
    exact ⟨.nilSlice, by simp [vslice, ht, hd, he, sbounds, sbound], .inl ⟨rfl, rfl, rfl, rfl⟩⟩
  · have hvl : vs.length = len := by rw [hv, List.length_take]; omega
    refine ⟨.slice id [] 0 0 m cap, ?_, .inr ⟨id, cap, by rw [hvl], rfl, hm, by omega⟩⟩
    simp only [vslice, ht, hd, he]
    rw [sbounds_high (by omega)]
    simp
include ht hd he in
theorem LentG.back {w v : AVal} {m len : Nat} (h : LentG w v m len) {k : IntKind} {x : Int} (hx : x = (len : Int)) : vslice T t w none (some (.int k x)) none = some v := by
  subst hx
  rcases h with ⟨rfl, rfl, rfl, rfl⟩ | ⟨id, cap, rfl, rfl, hm, hc⟩
  · simp [vslice, ht, hd, he, sbounds, sbound]
  · simp only [vslice, ht, hd, he]
    rw [sbounds_high (by omega)]
    simp

include ht hd he in
/-- The first of a list, written over. -/
theorem Sp.copyL {F0 : List AId} {G0 G : Heap} {ps : List LP} {j : Nat} {w v x : AVal} {vs xs : List AVal} {m : Nat} {K : AVal → Heap → Prop} (hs : Sp F0 G0 ps G) (hi : ps[j]? = some (OwnL ie.size v vs)) (L : LentG w v m vs.length) (hm : m ≤ vs.length)
    (hx : selems G ie.size x = some xs) (hxl : xs.length = m) (hu : uni ie.size xs = true) (hok : okvs xs = true) (hK : ∀ G', Sp F0 G0 (ps.set j (OwnL ie.size v (xs ++ vs.drop m))) G' → K (.int .i64 (m : Int)) G') : aCopy T G t w x K := by
  have ho := OwnL.own hs hi
  unfold aCopy
  simp only [ht, hd, he, hx]
  rcases L with ⟨rfl, rfl, rfl, hl0⟩ | ⟨id, cap, rfl, rfl, hml, hc⟩
  · have e1 : xs = [] := List.length_eq_zero_iff.1 hxl
    subst e1
    have := hK G (by
      have e : ps.set j (OwnL ie.size .nilSlice ([] ++ vs.drop 0)) = ps := by
        rw [List.nil_append, List.drop_zero]
        exact set_same hi
      rw [e]; exact hs)
    exact this
  · simp only
    rcases ho with ⟨h, _⟩ | ⟨id', len', cap', cs, h1, hg, hcs, hl, hun, hv⟩
    · cases h
    · injection h1 with i1 i2 i3 i4 i5 i6
      subst i1 i5 i6
      rw [List.take_of_length_le (by omega), hxl, Nat.min_self]
      have harr : arrAt G ie.size id [] 0 0 = some cs := by simp [arrAt, vsub, hg, treeOf, sub, hun]
      have hput : ∀ cs', putArr G id [] ie.size 0 0 cs' = some (G.upd id (.own (.agg cs'))) := fun cs' => by simp [putArr, hg, sub, putAt]
      cases xs with
      | nil =>
        have hm0 : m = 0 := by simpa using hxl.symm
        subst hm0
        unfold lay
        refine hK G ?_
        have e : ps.set j (OwnL ie.size (.slice id [] 0 0 vs.length cap) ([] ++ vs.drop 0)) = ps := by
          rw [List.nil_append, List.drop_zero]
          exact set_same hi
        rw [e]; exact hs
      | cons y ys =>
        unfold lay
        rw [harr]
        simp only
        refine ⟨by omega, hok, hu, ?_⟩
        rw [hput]
        refine hK _ ?_
        refine hs.call hi (OwnL ie.size (.slice id [] 0 0 vs.length cap) (y :: ys ++ vs.drop m)) fun F h k => ?_
        obtain ⟨_, rfl⟩ := h
        have h2 : vs.drop m = (cs.drop m).take (vs.length - m) := by
          conv => lhs; rw [hv]
          rw [List.drop_take]
        refine k _ _ ⟨.inr ⟨id, vs.length, cap, y :: ys ++ cs.drop m, rfl, ?_, by rw [List.length_append, List.length_drop]; omega, hc, ?_, ?_⟩, rfl⟩ (by simpa [rowOf] using Go.Esc.M.upd_ch hg (by simp))
        · rw [Heap.upd_self, Nat.add_zero, List.take_zero, List.nil_append, Nat.zero_add, hxl]
        · have h3 := uni_drop hun m
          simp only [Esc.uni, List.all_append, Bool.and_eq_true] at hu h3 ⊢
          exact ⟨hu, h3⟩
        · rw [h2, List.take_append, List.take_of_length_le (l := y :: ys) (by rw [hxl]; omega), hxl]

include ht hd he in
/-- An element of one's own list, set. -/
theorem Sp.setL {F0 : List AId} {G0 G : Heap} {ps : List LP} {j q : Nat} {v : AVal} {vs : List AVal} {c : AVal} {k : IntKind} {x : Int} (hs : Sp F0 G0 ps G) (hi : ps[j]? = some (OwnL ie.size v vs)) (hx : x = (q : Int)) (hq : q < vs.length) (hc : sz c = ie.size) (ha : c.isAgg = ie.desc.isAgg) (hok : okv c = true) :
    ∃ a, viaddr T t v (.int k x) = some a ∧ ∀ K : Heap → Prop, (∀ G', Sp F0 G0 (ps.set j (OwnL ie.size v (vs.set q c))) G' → K G') → wg (vstore T G e a c) K := by
  subst hx
  have ho := OwnL.own hs hi
  rcases ho with ⟨_, h⟩ | ⟨id, len, cap, cs, rfl, hg, hcs, hl, hun, hv⟩
  · rw [h] at hq; simp at hq
  · have hlen : vs.length = len := by rw [hv, List.length_take]; omega
    obtain ⟨a, h1, h2⟩ := own_set ht hd he (cap := cap) (k := k) (j := q) hg hun (by omega) (by omega) hc ha hok
    subst hlen
    refine ⟨a, h1, fun K hK => wg_of h2 (hK _ ?_)⟩
    refine hs.call hi (OwnL ie.size (.slice id [] 0 0 vs.length cap) (vs.set q c)) fun F h k => ?_
    obtain ⟨_, rfl⟩ := h
    refine k _ _ ⟨.inr ⟨id, vs.length, cap, cs.set q c, rfl, Heap.upd_self _ _ _, by simpa using hcs, hl, uni_set hun hc, ?_⟩, rfl⟩ (by simpa [rowOf] using Go.Esc.M.upd_ch hg (by simp))
    have e : (cs.set q c).take vs.length = (cs.take vs.length).set q c := List.take_set
    rw [e, ← hv]

end

end Go.Esc

/- Own work. Chapter 2: words of 32 bits; arrays of them; the sum as a function on lists. -/
set_option linter.unusedSimpArgs false
set_option linter.unusedVariables false
namespace Go.Esc
open Go Go.RowKit

def add32 (a b : Nat) : Nat := (a + b) % 4294967296
def xor32 (a b : Nat) : Nat := (a ^^^ b) % 4294967296
def and32 (a b : Nat) : Nat := (a &&& b) % 4294967296
def or32 (a b : Nat) : Nat := (a ||| b) % 4294967296
def not32 (a : Nat) : Nat := 4294967295 - a % 4294967296
def shl32 (k a : Nat) : Nat := (2 ^ k * a) % 4294967296
def shr32 (k a : Nat) : Nat := a / 2 ^ k
/-- Turned right. -/
def rotr (k a : Nat) : Nat := or32 (shr32 k a) (shl32 (32 - k) a)

theorem or32_comm (a b : Nat) : or32 a b = or32 b a := by unfold or32; rw [Nat.or_comm]

section
variable {T : Tbl} {t : TypeId} {a b : Nat}

theorem bv_of (w a : Nat) : (BitVec.ofInt w (a : Int)).toNat = a % 2 ^ w := by rw [BitVec.ofInt_natCast, BitVec.toNat_ofNat]

theorem u32_add : vbin T .add t (.int .u32 (a : Int)) (.int .u32 (b : Int)) = some (.int .u32 ((add32 a b : Nat) : Int)) := by
  rw [vbin_add, wrapU32]
  congr 2
theorem u32_xor : vbin T .xor t (.int .u32 (a : Int)) (.int .u32 (b : Int)) = some (.int .u32 ((xor32 a b : Nat) : Int)) := by
  have hb : IntKind.u32.bits = 32 := rfl
  rw [vbin_xor, wrapU32, BitVec.toNat_xor, bv_of, bv_of, hb, ← Nat.xor_mod_two_pow]
  congr 2
  have : (a ^^^ b) % 2 ^ 32 = xor32 a b := rfl
  rw [this]
  have : xor32 a b < 4294967296 := Nat.mod_lt _ (by decide)
  omega
theorem u32_and : vbin T .and t (.int .u32 (a : Int)) (.int .u32 (b : Int)) = some (.int .u32 ((and32 a b : Nat) : Int)) := by
  have hb : IntKind.u32.bits = 32 := rfl
  rw [vbin_and, wrapU32, BitVec.toNat_and, bv_of, bv_of, hb, ← Nat.and_mod_two_pow]
  congr 2
  have : (a &&& b) % 2 ^ 32 = and32 a b := rfl
  rw [this]
  have : and32 a b < 4294967296 := Nat.mod_lt _ (by decide)
  omega
theorem u32_or : vbin T .or t (.int .u32 (a : Int)) (.int .u32 (b : Int)) = some (.int .u32 ((or32 a b : Nat) : Int)) := by
  have hb : IntKind.u32.bits = 32 := rfl
  rw [vbin_or, wrapU32, BitVec.toNat_or, bv_of, bv_of, hb, ← Nat.or_mod_two_pow]
  congr 2
  have : (a ||| b) % 2 ^ 32 = or32 a b := rfl
  rw [this]
  have : or32 a b < 4294967296 := Nat.mod_lt _ (by decide)
  omega
theorem u32_not : vun .xor (.int .u32 (a : Int)) = some (.int .u32 ((not32 a : Nat) : Int)) := by
  have h1 : (BitVec.ofInt 32 (4294967295 : Int) ^^^ BitVec.ofInt 32 (a : Int)).toNat = not32 a := by
    have h2 : BitVec.ofInt 32 (4294967295 : Int) = BitVec.allOnes 32 := by decide
    rw [h2, BitVec.allOnes_xor, BitVec.toNat_not, bv_of]
    rfl
  show some (AVal.int .u32 (IntKind.u32.wrap ((BitVec.ofInt 32 (4294967295 : Int) ^^^ BitVec.ofInt 32 (a : Int)).toNat : Nat))) = _
  rw [h1, wrapU32]
  have : not32 a < 4294967296 := by unfold not32; omega
  congr 2
  omega
theorem u32_shr {k : Nat} {n : Int} {kk : IntKind} (hn : n = (k : Int)) (hk : k ≤ 31) : vbin T .shr t (.int .u32 (a : Int)) (.int kk n) = some (.int .u32 ((shr32 k a : Nat) : Int)) := by
  subst hn
  rw [vbin_shr _ _ _ _ _ _ (by omega)]
  have h1 : min ((k : Int)).toNat IntKind.u32.bits = k := by
    have : IntKind.u32.bits = 32 := rfl
    omega
  have h2 : ((2 : Int) ^ k) = ((2 ^ k : Nat) : Int) := by simp
  rw [h1, h2, Int.fdiv_eq_ediv_of_nonneg _ (Int.natCast_nonneg _)]
  congr 2
theorem u32_shl {k : Nat} {n : Int} {kk : IntKind} (hn : n = (k : Int)) (hk : k ≤ 31) : vbin T .shl t (.int .u32 (a : Int)) (.int kk n) = some (.int .u32 ((shl32 k a : Nat) : Int)) := by
  subst hn
  rw [vbin_shl _ _ _ _ _ _ (by omega), wrapU32]
  have h1 : min ((k : Int)).toNat IntKind.u32.bits = k := by
    have : IntKind.u32.bits = 32 := rfl
    omega
  have h2 : ((2 : Int) ^ k) = ((2 ^ k : Nat) : Int) := by simp
  rw [h1, h2]
  congr 2
  unfold shl32
  rw [Int.mul_comm]
  simp

end

/-! ### Arrays of single cells -/

def u32s (ws : List Nat) : List AVal := ws.map fun (n : Nat) => .int .u32 (n : Int)
theorem uni_u32s (ws : List Nat) : uni 1 (u32s ws) = true := by simp [uni, u32s, sz]
theorem okvs_u32s : ∀ l : List Nat, okvs (u32s l) = true
  | [] => rfl
  | b :: l => by have := okvs_u32s l; simp only [u32s] at this; simp [u32s, okvs, okv, this]
theorem length_u32s (l : List Nat) : (u32s l).length = l.length := by simp [u32s]

section
variable {T : Tbl} {ta te : TypeId} {ia ie : TI} {n : Nat} {G : Heap} {i : AId} {cs : List AVal}

theorem arr_addr (hta : T ta = some ia) (hda : ia.desc = .array n te) (hte : T te = some ie) (hz : ie.size = 1) {k : IntKind} {m : Int} {j : Nat} (hm : m = (j : Int)) (hj : j < n) : viaddr T ta (.ptr i [] 0) (.int k m) = some (.ptr i [j] j) := by
  subst hm
  simp only [viaddr, hta, hda, hte]
  rw [if_pos ⟨by omega, by omega⟩]
  simp [hz]
theorem arr_get (hte : T te = some ie) {c : AVal} {j : Nat} (hg : G i = some (.own (.agg cs))) (hu : uni 1 cs = true) (hj : cs[j]? = some c) (hf : vfits ie c = true) : vload T G te (.ptr i [j] j) = some c := by
  have hl := (List.getElem?_eq_some_iff.1 hj).1
  exact vload_fld hg rfl (by rw [szs_uni (n := 1) (uni_take hu j)]; simp; omega) hj hte hf
theorem arr_set (hte : T te = some ie) {c u : AVal} {j : Nat} (hg : G i = some (.own (.agg cs))) (hu : uni 1 cs = true) (hj : cs[j]? = some u) (hf : vfits ie c = true) (hs : sz u = sz c) (hok : okv c = true) :
    vstore T G te (.ptr i [j] j) c = some (G.upd i (.own (.agg (cs.set j c)))) := by
  have hl := (List.getElem?_eq_some_iff.1 hj).1
  exact vstore_fld hg (by rw [szs_uni (n := 1) (uni_take hu j)]; simp; omega) hj hte hf hs hok
theorem arr_whole (hta : T ta = some ia) (hag : ia.desc.isAgg = true) (hn : ia.size = cs.length) (hg : G i = some (.own (.agg cs))) (hu : uni 1 cs = true) : vload T G ta (.ptr i [] 0) = some (.agg cs) := by
  have h1 : szs cs = cs.length := by rw [szs_uni hu, Nat.mul_one]
  simp [vload, vsub, hg, treeOf, sub, hta, vfits, sz, h1, hn, AVal.isAgg, hag]
theorem arr_put {cs' : List AVal} (hta : T ta = some ia) (hag : ia.desc.isAgg = true) (hn : ia.size = cs'.length) (hl : cs.length = cs'.length) (hg : G i = some (.own (.agg cs))) (hu : uni 1 cs = true) (hu' : uni 1 cs' = true) (hok : okvs cs' = true) :
    vstore T G ta (.ptr i [] 0) (.agg cs') = some (G.upd i (.own (.agg cs'))) := by
  have h1 : szs cs = cs.length := by rw [szs_uni hu, Nat.mul_one]
  have h2 : szs cs' = cs'.length := by rw [szs_uni hu', Nat.mul_one]
  simp [vstore, hg, sub, hta, vfits, sz, h1, h2, hn, hl, AVal.isAgg, hag, okv, hok, putAt]

end

/-! ### The sum -/

def sig0 (x : Nat) : Nat := xor32 (xor32 (rotr 7 x) (rotr 18 x)) (shr32 3 x)
def sig1 (y : Nat) : Nat := xor32 (xor32 (rotr 17 y) (rotr 19 y)) (shr32 10 y)
def nextW (ws : List Nat) : Nat :=
  add32 (add32 (add32 (ws.getD (ws.length - 16) 0) (sig0 (ws.getD (ws.length - 15) 0))) (ws.getD (ws.length - 7) 0)) (sig1 (ws.getD (ws.length - 2) 0))
def sched : Nat → List Nat → List Nat
  | 0, ws => ws
  | n + 1, ws => sched n (ws ++ [nextW ws])
/-- A word of a block. -/
def num32 : Nat → List UInt8 → Nat
  | v, [] => v
  | v, b :: l => num32 (v * 256 + b.toNat) l
def word (b : List UInt8) (i : Nat) : Nat := num32 0 ((b.drop (4 * i)).take 4)
def words (b : List UInt8) (n : Nat) : List Nat := (List.range n).map (word b)
def K256 : List Nat := [1116352408, 1899447441, 3049323471, 3921009573, 961987163, 1508970993, 2453635748, 2870763221, 3624381080, 310598401, 607225278, 1426881987, 1925078388, 2162078206, 2614888103, 3248222580, 3835390401, 4022224774, 264347078, 604807628, 770255983, 1249150122, 1555081692, 1996064986, 2554220882, 2821834349, 2952996808, 3210313671, 3336571891, 3584528711, 113926993, 338241895, 666307205, 773529912, 1294757372, 1396182291, 1695183700, 1986661051, 2177026350, 2456956037, 2730485921, 2820302411, 3259730800, 3345764771, 3516065817, 3600352804, 4094571909, 275423344, 430227734, 506948616, 659060556, 883997877, 958139571, 1322822218, 1537002063, 1747873779, 1955562222, 2024104815, 2227730452, 2361852424, 2428436474, 2756734187, 3204031479, 3329325298]
def H256 : List Nat := [1779033703, 3144134277, 1013904242, 2773480762, 1359893119, 2600822924, 528734635, 1541459225]

def rndU (k w e f g h : Nat) : Nat := add32 (add32 (add32 (add32 h (xor32 (xor32 (rotr 6 e) (rotr 11 e)) (rotr 25 e))) (xor32 (and32 e f) (and32 (not32 e) g))) k) w
def rndV (a b c : Nat) : Nat := add32 (xor32 (xor32 (rotr 2 a) (rotr 13 a)) (rotr 22 a)) (xor32 (xor32 (and32 a b) (and32 a c)) (and32 b c))
def rnd (k w : Nat) : List Nat → List Nat
  | [a, b, c, d, e, f, g, h] => [add32 (rndU k w e f g h) (rndV a b c), a, b, c, add32 d (rndU k w e f g h), e, f, g]
  | l => l
def rnds : List Nat → List Nat → List Nat → List Nat
  | k :: ks, w :: ws, r => rnds ks ws (rnd k w r)
  | _, _, r => r
def compress (h : List Nat) (b : List UInt8) : List Nat := List.zipWith add32 (rnds K256 (sched 48 (words b 16)) h) h
def chain : Nat → List Nat → List UInt8 → List Nat
  | 0, h, _ => h
  | n + 1, h, m => chain n (compress h (m.take 64)) (m.drop 64)
def bytesBE : Nat → Nat → List UInt8
  | 0, _ => []
  | k + 1, v => UInt8.ofNat (v / 2 ^ (8 * k)) :: bytesBE k v
def pad (s : List UInt8) : List UInt8 := s ++ 128 :: (List.replicate ((119 - s.length % 64) % 64) 0 ++ bytesBE 8 (8 * s.length))
def digest (h : List Nat) : List UInt8 := (List.range 32).map fun i => UInt8.ofNat (shr32 (24 - 8 * (i % 4)) (h.getD (i / 4) 0))
def sha (s : List UInt8) : List UInt8 := digest (chain ((pad s).length / 64) H256 (pad s))

end Go.Esc

/- Own work. Chapter 2: the sum, in the program. -/
set_option linter.unusedSimpArgs false
set_option linter.unusedVariables false
namespace Go.Esc


/-! Lists of words. -/
theorem getD_some {l : List Nat} {j : Nat} (h : j < l.length) : l[j]? = some (l.getD j 0) := by
  rw [List.getD_eq_getElem?_getD, List.getElem?_eq_getElem h]; rfl

theorem num32_snoc : ∀ (l : List UInt8) (v : Nat) (b : UInt8), num32 v (l ++ [b]) = num32 v l * 256 + b.toNat
  | [], v, b => rfl
  | c :: l, v, b => by rw [List.cons_append, num32, num32, num32_snoc l]
theorem num32_lt : ∀ (l : List UInt8) (v : Nat), num32 v l < (v + 1) * 256 ^ l.length
  | [], v => by simp [num32]
  | b :: l, v => by
    have h := num32_lt l (v * 256 + b.toNat)
    have hb : b.toNat < 256 := b.toNat_lt
    rw [num32, List.length_cons, Nat.pow_succ]
    refine Nat.lt_of_lt_of_le h ?_
    rw [Nat.mul_comm (256 ^ l.length) 256, ← Nat.mul_assoc]
    exact Nat.mul_le_mul_right _ (by omega)

theorem or_low (k n b : Nat) (hb : b < 2 ^ k) (hn : 2 ^ k * n + b < 4294967296) : or32 (shl32 k n) b = 2 ^ k * n + b := by
  unfold or32 shl32
  rw [Nat.mod_eq_of_lt (a := 2 ^ k * n) (by omega), ← Nat.two_pow_add_eq_or_of_lt hb, Nat.mod_eq_of_lt hn]

theorem length_sched : ∀ (n : Nat) (ws : List Nat), (sched n ws).length = ws.length + n
  | 0, ws => rfl
  | n + 1, ws => by rw [sched, length_sched n]; simp; omega
theorem length_words (b : List UInt8) (n : Nat) : (words b n).length = n := by simp [words]
theorem words_succ (b : List UInt8) (n : Nat) : words b (n + 1) = words b n ++ [word b n] := by simp [words, List.range_succ]

theorem set_fill {α : Type} {ws : List α} {z x : α} {n : Nat} (hn : ws.length < n) : (ws ++ List.replicate (n - ws.length) z).set ws.length x = (ws ++ [x]) ++ List.replicate (n - (ws ++ [x]).length) z := by
  rw [List.set_append_right _ _ (Nat.le_refl _), Nat.sub_self, show n - ws.length = (n - (ws ++ [x]).length) + 1 by simp; omega, List.replicate_succ, List.set_cons_zero, List.append_assoc]
  rfl

/-- Words in a row that is filled up with zeros. -/
def filled (n : Nat) (ws : List Nat) : List AVal := u32s ws ++ List.replicate (n - ws.length) (.int .u32 ((0 : Nat) : Int))
theorem uni_filled (n : Nat) (ws : List Nat) : uni 1 (filled n ws) = true := by
  unfold filled
  exact uni_append (uni_u32s ws) (uni_replicate rfl)
theorem length_filled {n : Nat} {ws : List Nat} (h : ws.length ≤ n) : (filled n ws).length = n := by simp [filled, length_u32s]; omega
theorem filled_full {n : Nat} {ws : List Nat} (h : ws.length = n) : filled n ws = u32s ws := by simp [filled, h]
theorem filled_get {n : Nat} {ws : List Nat} {j : Nat} (h : j < ws.length) : (filled n ws)[j]? = some (.int .u32 (ws.getD j 0 : Nat)) := by
  unfold filled
  rw [List.getElem?_append_left (by rw [length_u32s]; exact h), u32s, List.getElem?_map, getD_some h]
  rfl
theorem filled_next {n : Nat} {ws : List Nat} (h : ws.length < n) : (filled n ws)[ws.length]? = some (.int .u32 ((0 : Nat) : Int)) := by
  unfold filled
  rw [List.getElem?_append_right (by rw [length_u32s]; omega), length_u32s, Nat.sub_self, show n - ws.length = (n - ws.length - 1) + 1 by omega, List.replicate_succ]
  rfl
theorem filled_set {n : Nat} {ws : List Nat} {x : Nat} (h : ws.length < n) : (filled n ws).set ws.length (.int .u32 (x : Int)) = filled n (ws ++ [x]) := by
  unfold filled
  have := set_fill (ws := u32s ws) (z := AVal.int .u32 ((0 : Nat) : Int)) (x := .int .u32 (x : Int)) (n := n) (by rw [length_u32s]; exact h)
  rw [length_u32s] at this
  rw [this]
  simp [u32s]
theorem u32s_set (ws : List Nat) (j x : Nat) : (u32s ws).set j (.int .u32 (x : Int)) = u32s (ws.set j x) := by simp [u32s, List.map_set]
theorem u32s_get {ws : List Nat} {j : Nat} (h : j < ws.length) : (u32s ws)[j]? = some (.int .u32 (ws.getD j 0 : Nat)) := by
  rw [u32s, List.getElem?_map, getD_some h]
  rfl

end Go.Esc
namespace Go.Esc.M
open Go Go.Esc

theorem str_at {l : List UInt8} {j : Nat} {m : Int} (hm : m = (j : Int)) (h : j < l.length) : vindex T t_string (.str l) (.int .i64 m) = some (.int .u8 l[j].toNat) := by
  subst hm
  simp [vindex, T_string, ti_string, h]
theorem str_cut {l : List UInt8} {n : Int} (h0 : 0 ≤ n) (h : n ≤ l.length) : vslice T t_string (.str l) none (some (.int .i64 n)) none = some (.str (l.take n.toNat)) := by
  have e : n = (n.toNat : Int) := by omega
  have hb := sbounds_high (len := l.length) (cap := l.length) (m := n.toNat) (k := .i64) (by omega)
  rw [← e] at hb
  simp [vslice, T_string, ti_string, hb]
theorem str_rest {l : List UInt8} {n : Int} (h0 : 0 ≤ n) (h : n ≤ l.length) : vslice T t_string (.str l) (some (.int .i64 n)) none none = some (.str (l.drop n.toNat)) := by
  have e : n = (n.toNat : Int) := by omega
  have hb := sbounds_low (len := l.length) (cap := l.length) (m := n.toNat) (k := .i64) (by omega) (by omega)
  rw [← e] at hb
  simp only [vslice, T_string, ti_string, hb]
  simp
  exact List.take_of_length_le (by simp)

section
variable {G : Heap} {Q : AVal → Heap → Prop}

end
end Go.Esc.M
