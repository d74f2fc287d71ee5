/- Own work. Arrays of anything in rows; structs and arrays built. -/
import Derived.Test.YtmhhddpkhfohcaaLSp
set_option linter.unusedSimpArgs false
set_option linter.unusedVariables false
namespace Go.Esc
open Go Go.RowKit

section
variable {T : Tbl} {ta te : TypeId} {ia ie : TI} {n : Nat} {G : Heap} {i : AId} {cs : List AVal}

theorem arrN_addr (hta : T ta = some ia) (hda : ia.desc = .array n te) (hte : T te = some ie) {p : List Nat} {o : Nat} {k : IntKind} {m : Int} {j : Nat} (hm : m = (j : Int)) (hj : j < n) :
    viaddr T ta (.ptr i p o) (.int k m) = some (.ptr i (p ++ [j]) (o + j * ie.size)) := by
  subst hm
  simp only [viaddr, hta, hda, hte]
  rw [if_pos ⟨by omega, by omega⟩]
  simp
theorem szs_takeN {s : Nat} (hu : uni s cs = true) {j : Nat} (hj : j ≤ cs.length) : szs (cs.take j) = j * s := by
  rw [szs_uni (uni_take hu j), List.length_take, Nat.min_eq_left hj]
theorem arrN_get (hte : T te = some ie) {s : Nat} {c : AVal} {j : Nat} (hg : G i = some (.own (.agg cs))) (hu : uni s cs = true) (hj : cs[j]? = some c) (hf : vfits ie c = true) : vload T G te (.ptr i [j] (0 + j * s)) = some c := by
  have hl := (List.getElem?_eq_some_iff.1 hj).1
  exact vload_fld hg rfl (by rw [szs_takeN hu (by omega), Nat.zero_add]) hj hte hf
theorem arrN_set (hte : T te = some ie) {s : Nat} {c u : AVal} {j : Nat} (hg : G i = some (.own (.agg cs))) (hu : uni s cs = true) (hj : cs[j]? = some u) (hf : vfits ie c = true) (hs : sz u = sz c) (hok : okv c = true) :
    vstore T G te (.ptr i [j] (0 + j * s)) c = some (G.upd i (.own (.agg (cs.set j c)))) := by
  have hl := (List.getElem?_eq_some_iff.1 hj).1
  exact vstore_fld hg (by rw [szs_takeN hu (by omega), Nat.zero_add]) hj hte hf hs hok
theorem fld_addr {t tf : TypeId} {it fi : TI} {fs : List (TypeId × Nat)} {f o : Nat} (ht : T t = some it) (hd : it.desc = .struct fs) (hf : fs[f]? = some (tf, o)) (hft : T tf = some fi) (hz : fi.size ≠ 0) {p : List Nat} {off : Nat} :
    vfaddr T t (.ptr i p off) f = some (.ptr i (p ++ [f]) (off + o)) := by
  simp only [vfaddr, ht, hd, hf, hft]
  rw [if_neg hz]
/-- A field of an element. -/
theorem arrN_getf {tf : TypeId} {fi : TI} {s o f j : Nat} {es : List AVal} {x : AVal} (hg : G i = some (.own (.agg cs))) (hu : uni s cs = true) (hj : cs[j]? = some (.agg es)) (hs : szs (es.take f) = o) (hx : es[f]? = some x) (ht : T tf = some fi) (hf : vfits fi x = true) :
    vload T G tf (.ptr i ([j] ++ [f]) (0 + j * s + o)) = some x := by
  have hl := (List.getElem?_eq_some_iff.1 hj).1
  have h0 : vsub G (.ptr i [] 0) = some (.agg cs) := by simp [vsub, hg, treeOf, sub]
  have h1 := vsub_append h0 (szs_takeN hu (by omega)) hj
  have h2 : vsub G (.ptr i ([j] ++ [f]) (0 + j * s + o)) = some x := vsub_append h1 hs hx
  simp only [vload, h2, ht]
  rw [if_pos hf]
theorem arrN_setf {tf : TypeId} {fi : TI} {s o f j : Nat} {es : List AVal} {x u : AVal} (hg : G i = some (.own (.agg cs))) (hu : uni s cs = true) (hj : cs[j]? = some (.agg es)) (hs : szs (es.take f) = o) (hx : es[f]? = some u) (ht : T tf = some fi) (hf : vfits fi x = true)
    (hsz : sz u = sz x) (hok : okv x = true) : vstore T G tf (.ptr i ([j] ++ [f]) (0 + j * s + o)) x = some (G.upd i (.own (.agg (cs.set j (.agg (es.set f x)))))) := by
  have hl := (List.getElem?_eq_some_iff.1 hj).1
  have e1 : szs (cs.take j) = j * s := szs_takeN hu (by omega)
  have hsub : sub [j, f] (.agg cs) (0 + j * s + o) = some u := by
    simp only [sub, e1, hj, hs, hx, Nat.zero_add]
    rw [if_pos (by omega), if_pos (by omega)]
    simp
  simp only [vstore, hg, List.cons_append, List.nil_append, hsub, ht, hf, hsz, hok, putAt, hj, hx]
  simp

end

/-! ### Structs and arrays built -/

def plOk (pl : Nat → Option (Nat × Nat)) (zs : List AVal) : Prop := ∀ k z, zs[k]? = some z → pl k = some (szs (zs.take k), sz z)

theorem szs_set {zs : List AVal} {k : Nat} {v z : AVal} (hz : zs[k]? = some z) (hs : sz v = sz z) : szs (zs.set k v) = szs zs := by
  obtain ⟨e1, e2⟩ := set_split zs k z v hz
  rw [e2]
  conv => rhs; rw [e1]
  rw [szs_append, szs_append, szs_cons, szs_cons, hs]

theorem plOk.set {pl : Nat → Option (Nat × Nat)} {zs : List AVal} (h : plOk pl zs) {k : Nat} {v z : AVal} (hz : zs[k]? = some z) (hs : sz v = sz z) : plOk pl (zs.set k v) := by
  intro j y hy
  have hk := (List.getElem?_eq_some_iff.1 hz).1
  have e : szs ((zs.set k v).take j) = szs (zs.take j) := by
    rw [List.take_set]
    by_cases hkj : k < j
    · exact szs_set (by rw [List.getElem?_take_of_lt hkj]; exact hz) hs
    · rw [List.set_eq_of_length_le (by rw [List.length_take]; omega)]
  rw [e]
  by_cases hjk : j = k
  · subst hjk
    rw [List.getElem?_set_self hk] at hy
    injection hy with hy
    subst hy
    rw [h _ z hz, hs]
  · rw [List.getElem?_set_ne (by omega)] at hy
    exact h _ _ hy

def setParts (zs : List AVal) (parts : List (Nat × AVal)) : List AVal := parts.foldl (fun z p => z.set p.1 p.2) zs

theorem fillA_ok {pl : Nat → Option (Nat × Nat)} : ∀ {parts : List (Nat × AVal)} {zs : List AVal}, plOk pl zs → (∀ p ∈ parts, zs[p.1]?.map sz = some (sz p.2)) → fillA pl zs parts = some (setParts zs parts)
  | [], zs, _, _ => rfl
  | (k, v) :: parts, zs, h, hp => by
    have h1 := hp (k, v) (by simp)
    cases hz : zs[k]? with
    | none => rw [hz] at h1; cases h1
    | some z =>
      rw [hz] at h1
      simp only [Option.map_some, Option.some.injEq] at h1
      simp only [fillA, h k z hz, hz, h1, beq_self_eq_true, Bool.and_self, if_true]
      refine fillA_ok (h.set hz h1.symm) fun p hpm => ?_
      rw [← hp p (by simp [hpm])]
      by_cases hpk : p.1 = k
      · rw [hpk, List.getElem?_set_self (List.getElem?_eq_some_iff.1 hz).1, hz]
        simp [h1]
      · rw [List.getElem?_set_ne (by omega)]

theorem plOk_of {pl : Nat → Option (Nat × Nat)} {zs : List AVal} (h : (List.range zs.length).all (fun k => pl k == zs[k]?.map fun z => (szs (zs.take k), sz z)) = true) : plOk pl zs := by
  intro k z hz
  have hk := (List.getElem?_eq_some_iff.1 hz).1
  have := List.all_eq_true.1 h k (List.mem_range.2 hk)
  rw [hz] at this
  simpa using this

theorem build_struct {T : Tbl} {t : TypeId} {i : TI} {fs : List (TypeId × Nat)} {zs : List AVal} {parts : List (Nat × AVal)} (ht : T t = some i) (hd : i.desc = .struct fs) (hz : i.zero = .agg zs) (ha : fs.all (fun g => (T g.1).isSome) = true) (hp : plOk (places T fs) zs)
    (hs : ∀ p ∈ parts, zs[p.1]?.map sz = some (sz p.2)) : vbuild T t parts = some (.agg (setParts zs parts)) := by
  unfold vbuild
  simp only [ht, hd, hz, ha, if_true, fillA_ok hp hs]

theorem build_array {T : Tbl} {t e : TypeId} {i ie : TI} {n : Nat} {zs : List AVal} {parts : List (Nat × AVal)} (ht : T t = some i) (hd : i.desc = .array n e) (he : T e = some ie) (hz : i.zero = .agg zs) (hu : uni ie.size zs = true)
    (hs : ∀ p ∈ parts, zs[p.1]?.map sz = some (sz p.2)) : vbuild T t parts = some (.agg (setParts zs parts)) := by
  unfold vbuild
  have hp : plOk (fun k => some (k * ie.size, ie.size)) zs := fun k z hk => by
    have hl := (List.getElem?_eq_some_iff.1 hk).1
    rw [szs_takeN hu (by omega)]
    simp only [uni, List.all_eq_true, beq_iff_eq] at hu
    rw [hu z (List.mem_of_getElem? hk)]
  simp only [ht, hd, he, hz, fillA_ok hp hs]

end Go.Esc
