/- Own work. Arrays of anything in rows; structs and arrays built. -/
import Derived.Test.YtcceblejaanfaaaDoorLSp
set_option linter.unusedSimpArgs false
set_option linter.unusedVariables false
namespace Go.Esc
open Go Go.RowKit

theorem wv_of {o : Option AVal} {v : AVal} {K : AVal → Prop} (h : o = some v) (k : K v) : wv o K := by rw [h]; exact k
theorem wg_of {o : Option Heap} {v : Heap} {K : Heap → Prop} (h : o = some v) (k : K v) : wg o K := by rw [h]; exact k

section
variable {T : Tbl} {t : TypeId} {ti : TI} {G : Heap} {i : AId} {c z : AVal}
theorem whole_load (ht : T t = some ti) (hg : G i = some (.own c)) (hf : vfits ti c = true) : vload T G t (.ptr i [] 0) = some c := by
  simp [vload, vsub, hg, treeOf, sub, ht, hf]
theorem whole_store (ht : T t = some ti) (hg : G i = some (.own z)) (hf : vfits ti c = true) (hs : sz z = sz c) (hok : okv c = true) : vstore T G t (.ptr i [] 0) c = some (G.upd i (.own c)) := by
  simp [vstore, hg, sub, ht, hf, hs, hok, putAt]

/-- A new variable with a value. -/
theorem newVal {F0 : List AId} {G0 : Heap} {ps : List LP} {K : AId → Heap → Prop} (hs : Sp F0 G0 ps G) (ht : T t = some ti) (hf : vfits ti c = true) (hz : sz z = sz c) (hok : okv c = true) (hK : ∀ i G', Sp F0 G0 (RowL i c :: ps) G' → K i G') :
    aNew G (.own z) fun i G2 => wg (vstore T G2 t (.ptr i [] 0) c) fun G3 => K i G3 := by
  intro i hfr
  have s := hs.row hfr z
  rw [whole_store ht (RowL.own (i := 0) s rfl) hf hz hok, wg_some]
  refine hK _ _ ?_
  refine s.call (i := 0) rfl (RowL i c) fun F h k => ?_
  obtain ⟨h, rfl⟩ := h
  exact k _ _ ⟨Heap.upd_self _ _ _, rfl⟩ ⟨roLe_upd h (by simp), fun j x hj hn => by rw [Heap.upd_ne _ _ (fun e => hn (by simp [e]))]; exact hj, fun j hj => .inl hj⟩
end

theorem IsSl.ch' {n : Nat} {G G' : Heap} {E : List AId} {v : AVal} {vs : List AVal} (h : IsSl n G v vs) (hc : Ch [] G E G') : IsSl n G' v vs := h.le fun j o hj => hc.others j o hj (by simp)

theorem nz0 {T : Tbl} {t : TypeId} {k : IntKind} {n : Int} : vbin T .neq t (.int k n) (.int k n) = some (.bool false) := by rw [vbin_neq, decide_eq_true rfl]; rfl
theorem ez0 {T : Tbl} {t : TypeId} {k : IntKind} {n : Int} : vbin T .eql t (.int k n) (.int k n) = some (.bool true) := by rw [vbin_eql, decide_eq_true rfl]

section
variable {T : Tbl} {ta te : TypeId} {ia ie : TI} {n : Nat} {G : Heap} {i : AId} {cs : List AVal}

theorem arrN_addr (hta : T ta = some ia) (hda : ia.desc = .array n te) (hte : T te = some ie) {p : List Nat} {o : Nat} {k : IntKind} {m : Int} {j : Nat} (hm : m = (j : Int)) (hj : j < n) :
    viaddr T ta (.ptr i p o) (.int k m) = some (.ptr i (p ++ [j]) (o + j * ie.size)) := by
  subst hm
  simp only [viaddr, hta, hda, hte]
  rw [if_pos ⟨by omega, by omega⟩]
  simp
theorem szs_takeN {s : Nat} (hu : uni s cs = true) {j : Nat} (hj : j ≤ cs.length) : szs (cs.take j) = j * s := by
  rw [szs_uni (uni_take hu j), List.length_take, Nat.min_eq_left hj]
theorem arrN_get (hte : T te = some ie) {s : Nat} {c : AVal} {j : Nat} (hg : G i = some (.own (.agg cs))) (hu : uni s cs = true) (hj : cs[j]? = some c) (hf : vfits ie c = true) : vload T G te (.ptr i [j] (0 + j * s)) = some c := by
  have hl := (List.getElem?_eq_some_iff.1 hj).1
  exact vload_fld hg rfl (by rw [szs_takeN hu (by omega), Nat.zero_add]) hj hte hf
theorem arrN_set (hte : T te = some ie) {s : Nat} {c u : AVal} {j : Nat} (hg : G i = some (.own (.agg cs))) (hu : uni s cs = true) (hj : cs[j]? = some u) (hf : vfits ie c = true) (hs : sz u = sz c) (hok : okv c = true) :
    vstore T G te (.ptr i [j] (0 + j * s)) c = some (G.upd i (.own (.agg (cs.set j c)))) := by
  have hl := (List.getElem?_eq_some_iff.1 hj).1
  exact vstore_fld hg (by rw [szs_takeN hu (by omega), Nat.zero_add]) hj hte hf hs hok
theorem fld_addr {t tf : TypeId} {it fi : TI} {fs : List (TypeId × Nat)} {f o : Nat} (ht : T t = some it) (hd : it.desc = .struct fs) (hf : fs[f]? = some (tf, o)) (hft : T tf = some fi) (hz : fi.size ≠ 0) {p : List Nat} {off : Nat} :
    vfaddr T t (.ptr i p off) f = some (.ptr i (p ++ [f]) (off + o)) := by
  simp only [vfaddr, ht, hd, hf, hft]
  rw [if_neg hz]
/-- A field of an element. -/
theorem arrN_getf {tf : TypeId} {fi : TI} {s o f j : Nat} {es : List AVal} {x : AVal} (hg : G i = some (.own (.agg cs))) (hu : uni s cs = true) (hj : cs[j]? = some (.agg es)) (hs : szs (es.take f) = o) (hx : es[f]? = some x) (ht : T tf = some fi) (hf : vfits fi x = true) :
    vload T G tf (.ptr i ([j] ++ [f]) (0 + j * s + o)) = some x := by
  have hl := (List.getElem?_eq_some_iff.1 hj).1
  have h0 : vsub G (.ptr i [] 0) = some (.agg cs) := by simp [vsub, hg, treeOf, sub]
  have h1 := vsub_append h0 (szs_takeN hu (by omega)) hj
  have h2 : vsub G (.ptr i ([j] ++ [f]) (0 + j * s + o)) = some x := vsub_append h1 hs hx
  simp only [vload, h2, ht]
  rw [if_pos hf]
theorem arrN_setf {tf : TypeId} {fi : TI} {s o f j : Nat} {es : List AVal} {x u : AVal} (hg : G i = some (.own (.agg cs))) (hu : uni s cs = true) (hj : cs[j]? = some (.agg es)) (hs : szs (es.take f) = o) (hx : es[f]? = some u) (ht : T tf = some fi) (hf : vfits fi x = true)
    (hsz : sz u = sz x) (hok : okv x = true) : vstore T G tf (.ptr i ([j] ++ [f]) (0 + j * s + o)) x = some (G.upd i (.own (.agg (cs.set j (.agg (es.set f x)))))) := by
  have hl := (List.getElem?_eq_some_iff.1 hj).1
  have e1 : szs (cs.take j) = j * s := szs_takeN hu (by omega)
  have hsub : sub [j, f] (.agg cs) (0 + j * s + o) = some u := by
    simp only [sub, e1, hj, hs, hx, Nat.zero_add]
    rw [if_pos (by omega), if_pos (by omega)]
    simp
  simp only [vstore, hg, List.cons_append, List.nil_append, hsub, ht, hf, hsz, hok, putAt, hj, hx]
  simp

end

theorem u8_or {T : Tbl} {t : TypeId} (a b : UInt8) : vbin T .or t (u8v a) (u8v b) = some (u8v (a ||| b)) := by
  have hb : IntKind.u8.bits = 8 := rfl
  have h1 : a.toNat < 2 ^ 8 := a.toNat_lt
  have h2 : b.toNat < 2 ^ 8 := b.toNat_lt
  have e8 : ∀ x : Nat, (BitVec.ofInt 8 (x : Int)).toNat = x % 2 ^ 8 := fun x => by rw [BitVec.ofInt_natCast, BitVec.toNat_ofNat]
  unfold u8v
  rw [vbin_or, wrapU8, hb, BitVec.toNat_or, e8, e8, Nat.mod_eq_of_lt h1, Nat.mod_eq_of_lt h2, UInt8.toNat_or]
  have : a.toNat ||| b.toNat < 2 ^ 8 := Nat.or_lt_two_pow h1 h2
  congr 2
  omega
/-! ### Lists in one's own rows -/

section
variable {T : Tbl} {ts e tx : TypeId} {si ie xi : TI} (ht : T ts = some si) (hd : si.desc = .slice e) (he : T e = some ie) (hz : sz ie.zero = ie.size) (hb : ie.bytes ≠ 0)
variable {F0 : List AId} {G0 G : Heap} {ps : List LP} {s : AVal} {vs : List AVal} {i : Nat} {K : AVal → Heap → Prop}

include ht hd he hz hb in
/-- A list in one's own row gets a value more. -/
theorem growV {c : AVal} (hs : Sp F0 G0 ps G) (hi : ps[i]? = some (OwnL ie.size s vs)) (hc : sz c = ie.size) (hok : okv c = true) (hie : ie.size ≤ 16777216) (hl : (vs.length + 1) * ie.bytes ≤ 140737488355328)
    (hK : ∀ s' G', Sp F0 G0 (ps.set i (OwnL ie.size s' (vs ++ [c]))) G' → K s' G') : aBuildSlice T ts 1 [(0, c)] G fun v G' => aAppend T G' ts ts s v K := by
  obtain ⟨F, ho, _⟩ := hs.get hi
  refine append1 ht hd he hz hb ho hc hok hie hl fun s' G2 ho2 hk => hK s' G2 ?_
  refine hs.call hi (OwnL ie.size s' (vs ++ [c])) fun F h k => ?_
  obtain ⟨_, rfl⟩ := h
  exact k _ _ ⟨ho2, rfl⟩ hk.ch

include ht hd he hz hb in
/-- A list in one's own row gets values more. -/
theorem growL {x : AVal} {xs : List AVal} (htx : T tx = some xi) (hdx : xi.desc = .string ∨ ∃ e', xi.desc = .slice e') (hs : Sp F0 G0 ps G) (hi : ps[i]? = some (OwnL ie.size s vs)) (hx : selems G ie.size x = some xs) (hu : uni ie.size xs = true) (hok : okvs xs = true)
    (hl : (vs.length + xs.length) * ie.bytes ≤ 140737488355328) (hK : ∀ s' G', Sp F0 G0 (ps.set i (OwnL ie.size s' (vs ++ xs))) G' → K s' G') : aAppend T G ts tx s x K := by
  obtain ⟨F, ho, _⟩ := hs.get hi
  refine own_append ht hd he hz hb htx hdx ho hx hu hok hl fun s' G2 ho2 hk => hK s' G2 ?_
  refine hs.call hi (OwnL ie.size s' (vs ++ xs)) fun F h k => ?_
  obtain ⟨_, rfl⟩ := h
  exact k _ _ ⟨ho2, rfl⟩ hk.ch

include ht hd he hz in
/-- A list of one value. -/
theorem buildV {c : AVal} (hs : Sp F0 G0 ps G) (hc : sz c = ie.size) (hie : ie.size ≤ 16777216) (hK : ∀ s' G', Sp F0 G0 (OwnL ie.size s' [c] :: ps) G' → K s' G') : aBuildSlice T ts 1 [(0, c)] G K := by
  unfold aBuildSlice
  have hf : fillA (fun k => some (k * ie.size, ie.size)) (List.replicate 1 ie.zero) [(0, c)] = some [c] := by simp [fillA, hz, hc, szs]
  simp only [ht, hd, he, hf]
  refine ⟨by omega, fun id hfr => hK _ _ (hs.new (p := OwnL ie.size _ [c]) ⟨.inr ⟨id, 1, 1, [c], rfl, Heap.upd_self _ _ _, rfl, Nat.le_refl _, by simp [Esc.uni, hc], rfl⟩, rfl⟩ ?_)⟩
  simpa [rowOf] using Ch.new hfr

end

theorem Sp.nilL {F0 : List AId} {G0 G : Heap} {ps : List LP} (hs : Sp F0 G0 ps G) (n : Nat) : Sp F0 G0 (OwnL n .nilSlice [] :: ps) G := hs.new (p := OwnL n .nilSlice []) ⟨.inl ⟨rfl, rfl⟩, rfl⟩ (Ch.refl _ _)
theorem OwnL.own {F0 : List AId} {G0 G : Heap} {ps : List LP} {i n : Nat} {v : AVal} {vs : List AVal} (h : Sp F0 G0 ps G) (hi : ps[i]? = some (OwnL n v vs)) : Own n G v vs := by
  obtain ⟨F, h, _⟩ := h.get hi
  exact h

/-! ### Structs and arrays built -/

def plOk (pl : Nat → Option (Nat × Nat)) (zs : List AVal) : Prop := ∀ k z, zs[k]? = some z → pl k = some (szs (zs.take k), sz z)

theorem szs_set {zs : List AVal} {k : Nat} {v z : AVal} (hz : zs[k]? = some z) (hs : sz v = sz z) : szs (zs.set k v) = szs zs := by
  obtain ⟨e1, e2⟩ := set_split zs k z v hz
  rw [e2]
  conv => rhs; rw [e1]
  rw [szs_append, szs_append, szs_cons, szs_cons, hs]

theorem plOk.set {pl : Nat → Option (Nat × Nat)} {zs : List AVal} (h : plOk pl zs) {k : Nat} {v z : AVal} (hz : zs[k]? = some z) (hs : sz v = sz z) : plOk pl (zs.set k v) := by
  intro j y hy
  have hk := (List.getElem?_eq_some_iff.1 hz).1
  have e : szs ((zs.set k v).take j) = szs (zs.take j) := by
    rw [List.take_set]
    by_cases hkj : k < j
    · exact szs_set (by rw [List.getElem?_take_of_lt hkj]; exact hz) hs
    · rw [List.set_eq_of_length_le (by rw [List.length_take]; omega)]
  rw [e]
  by_cases hjk : j = k
  · subst hjk
    rw [List.getElem?_set_self hk] at hy
    injection hy with hy
    subst hy
    rw [h _ z hz, hs]
  · rw [List.getElem?_set_ne (by omega)] at hy
    exact h _ _ hy

def setParts (zs : List AVal) (parts : List (Nat × AVal)) : List AVal := parts.foldl (fun z p => z.set p.1 p.2) zs

theorem fillA_ok {pl : Nat → Option (Nat × Nat)} : ∀ {parts : List (Nat × AVal)} {zs : List AVal}, plOk pl zs → (∀ p ∈ parts, zs[p.1]?.map sz = some (sz p.2)) → fillA pl zs parts = some (setParts zs parts)
  | [], zs, _, _ => rfl
  | (k, v) :: parts, zs, h, hp => by
    have h1 := hp (k, v) (by simp)
    cases hz : zs[k]? with
    | none => rw [hz] at h1; cases h1
    | some z =>
      rw [hz] at h1
      simp only [Option.map_some, Option.some.injEq] at h1
      simp only [fillA, h k z hz, hz, h1, beq_self_eq_true, Bool.and_self, if_true]
      refine fillA_ok (h.set hz h1.symm) fun p hpm => ?_
      rw [← hp p (by simp [hpm])]
      by_cases hpk : p.1 = k
      · rw [hpk, List.getElem?_set_self (List.getElem?_eq_some_iff.1 hz).1, hz]
        simp [h1]
      · rw [List.getElem?_set_ne (by omega)]

theorem plOk_of {pl : Nat → Option (Nat × Nat)} {zs : List AVal} (h : (List.range zs.length).all (fun k => pl k == zs[k]?.map fun z => (szs (zs.take k), sz z)) = true) : plOk pl zs := by
  intro k z hz
  have hk := (List.getElem?_eq_some_iff.1 hz).1
  have := List.all_eq_true.1 h k (List.mem_range.2 hk)
  rw [hz] at this
  simpa using this

theorem build_struct {T : Tbl} {t : TypeId} {i : TI} {fs : List (TypeId × Nat)} {zs : List AVal} {parts : List (Nat × AVal)} (ht : T t = some i) (hd : i.desc = .struct fs) (hz : i.zero = .agg zs) (ha : fs.all (fun g => (T g.1).isSome) = true) (hp : plOk (places T fs) zs)
    (hs : ∀ p ∈ parts, zs[p.1]?.map sz = some (sz p.2)) : vbuild T t parts = some (.agg (setParts zs parts)) := by
  unfold vbuild
  simp only [ht, hd, hz, ha, if_true, fillA_ok hp hs]

theorem build_array {T : Tbl} {t e : TypeId} {i ie : TI} {n : Nat} {zs : List AVal} {parts : List (Nat × AVal)} (ht : T t = some i) (hd : i.desc = .array n e) (he : T e = some ie) (hz : i.zero = .agg zs) (hu : uni ie.size zs = true)
    (hs : ∀ p ∈ parts, zs[p.1]?.map sz = some (sz p.2)) : vbuild T t parts = some (.agg (setParts zs parts)) := by
  unfold vbuild
  have hp : plOk (fun k => some (k * ie.size, ie.size)) zs := fun k z hk => by
    have hl := (List.getElem?_eq_some_iff.1 hk).1
    rw [szs_takeN hu (by omega)]
    simp only [uni, List.all_eq_true, beq_iff_eq] at hu
    rw [hu z (List.mem_of_getElem? hk)]
  simp only [ht, hd, he, hz, fillA_ok hp hs]

/-- One's own list as a row. -/
theorem Sp.ownRow {F0 : List AId} {G0 G : Heap} {ps : List LP} {i n : Nat} {v : AVal} {vs : List AVal} (s : Sp F0 G0 ps G) (hi : ps[i]? = some (OwnL n v vs)) (hne : vs ≠ []) :
    ∃ id cap rest, v = .slice id [] 0 0 vs.length cap ∧ cap = vs.length + rest.length ∧ uni n rest = true ∧ Sp F0 G0 (ps.set i (RowL id (.agg (vs ++ rest)))) G := by
  have ho := OwnL.own s hi
  rcases ho with ⟨_, h⟩ | ⟨id, len, cap, cs, rfl, hg, hc, hl, hu, he⟩
  · exact absurd h hne
  · have hlen : vs.length = len := by rw [he, List.length_take]; omega
    have hcs : cs = vs ++ cs.drop len := by rw [he, List.take_append_drop]
    refine ⟨id, cap, cs.drop len, by rw [hlen], by rw [List.length_drop]; omega, uni_drop hu _, ?_⟩
    rw [← hcs]
    refine s.call hi (RowL id (.agg cs)) fun F h k => ?_
    obtain ⟨_, rfl⟩ := h
    exact k [id] G ⟨hg, rfl⟩ (Ch.refl _ _)
theorem slice_to {T : Tbl} {t e : TypeId} {i ie : TI} (ht : T t = some i) (hd : i.desc = .slice e) (he : T e = some ie) {id : AId} {len cap m : Nat} {k : IntKind} {x : Int} (hx : x = (m : Int)) (hm : m ≤ cap) : vslice T t (.slice id [] 0 0 len cap) none (some (.int k x)) none = some (.slice id [] 0 0 m cap) := by
  subst hx
  simp only [vslice, ht, hd, he]
  rw [sbounds_high hm]
  simp
/-- The first of a row. -/
theorem row_first {G : Heap} {id : AId} {n cap : Nat} {xs ys : List AVal} (hg : G id = some (.own (.agg (xs ++ ys)))) (hu : uni n (xs ++ ys) = true) : IsSl n G (.slice id [] 0 0 xs.length cap) xs := by
  have := isSl_row (len := xs.length) (cap := cap) hg rfl hu (by simp)
  rwa [List.take_left] at this
theorem row_slot {T : Tbl} {t e : TypeId} {i ie : TI} (ht : T t = some i) (hd : i.desc = .slice e) (he : T e = some ie) {id : AId} {len cap j : Nat} {k : IntKind} {x : Int} (hx : x = (j : Int)) (hj : j < len) : viaddr T t (.slice id [] 0 0 len cap) (.int k x) = some (.ptr id [j] (0 + j * ie.size)) := by
  subst hx
  simp only [viaddr, ht, hd, he]
  rw [if_pos ⟨by omega, by omega⟩]
  simp

/-- A list built out of so many. -/
theorem buildL {T : Tbl} {F0 : List AId} {G0 G : Heap} {ps : List LP} {ts e : TypeId} {si ie : TI} {n : Nat} {parts : List (Nat × AVal)} {l : List AVal} {K : AVal → Heap → Prop} (ht : T ts = some si) (hd : si.desc = .slice e) (he : T e = some ie) (hz : sz ie.zero = ie.size)
    (hl : setParts (List.replicate n ie.zero) parts = l) (hu : uni ie.size l = true) (hn : l.length = n) (hs : ∀ p ∈ parts, p.1 < n ∧ sz p.2 = ie.size) (hb : n * ie.size ≤ 16777216) (sp : Sp F0 G0 ps G) (hK : ∀ v G', Sp F0 G0 (OwnL ie.size v l :: ps) G' → K v G') : aBuildSlice T ts n parts G K := by
  have hu0 : uni ie.size (List.replicate n ie.zero) = true := uni_replicate hz
  have hp : plOk (fun k => some (k * ie.size, ie.size)) (List.replicate n ie.zero) := fun k z hk => by
    have hl := (List.getElem?_eq_some_iff.1 hk).1
    rw [szs_takeN hu0 (by omega)]
    simp only [uni, List.all_eq_true, beq_iff_eq] at hu0
    rw [hu0 z (List.mem_of_getElem? hk)]
  have hf := fillA_ok (parts := parts) hp fun p hpm => by
    obtain ⟨h1, h2⟩ := hs p hpm
    rw [List.getElem?_replicate_of_lt h1, Option.map_some, hz, h2]
  unfold aBuildSlice
  simp only [ht, hd, he, hf]
  rw [hl]
  refine ⟨hb, fun id hfr => hK _ _ (sp.new (p := OwnL ie.size _ l) ⟨.inr ⟨id, n, n, l, rfl, Heap.upd_self _ _ _, hn, Nat.le_refl _, hu, by rw [← hn, List.take_length]⟩, rfl⟩ ?_)⟩
  simpa [rowOf] using Ch.new hfr

/-- make: a new list of zeros. -/
theorem mkOwn {T : Tbl} {F0 : List AId} {G0 G : Heap} {ps : List LP} {ts e : TypeId} {si ie : TI} (ht : T ts = some si) (hd : si.desc = .slice e) (he : T e = some ie) (hz : sz ie.zero = ie.size) {k k' : IntKind} {n : Nat} {x y : Int} (hx : x = (n : Int)) (hy : y = (n : Int))
    (hb : ie.bytes * n ≤ 281474976710656) (hn : n ≤ 9223372036854775807) (hs : Sp F0 G0 ps G) {K : AVal → Heap → Prop} (hK : ∀ v G', Sp F0 G0 (OwnL ie.size v (List.replicate n ie.zero) :: ps) G' → K v G') : aMakeSlice T ts (.int k x) (.int k' y) G K := by
  subst hx hy
  unfold aMakeSlice
  simp only [ht, hd, he]
  refine ⟨by omega, by omega, ?_, by omega, fun id hf => ?_⟩
  · have : ((ie.bytes * n : Nat) : Int) ≤ 281474976710656 := by omega
    rwa [Int.natCast_mul] at this
  · simp only [Int.toNat_natCast]
    refine hK _ _ (hs.new (p := OwnL ie.size _ _) ⟨.inr ⟨id, n, n, List.replicate n ie.zero, rfl, Heap.upd_self _ _ _, by simp, Nat.le_refl _, uni_replicate hz, ?_⟩, rfl⟩ ?_)
    · rw [List.take_of_length_le (by simp)]
    · simpa [rowOf] using Ch.new hf

end Go.Esc
