/- Own work. From a contract over trees to a law's row. -/
import Derived.Test.YtbckpbdamfhehaaGreatDoorEU
import Derived.Carry
set_option linter.unusedSimpArgs false
set_option linter.unusedVariables false
set_option linter.unusedSectionVars false
namespace Go.Esc
open Go Go.RowKit Go.ChangeShapes Go.WideShapes

def wtl (T : Tbl) (G : Heap) (R d : Nat) : List TypeId → List AVal → List Nat → Prop
  | [], [], [] => True
  | t :: ts, a :: avs, m :: ms => wt T G R d t a m ∧ wtl T G R d ts avs ms
  | _, _, _ => False

section
variable {H : Type} {enc : TypeId × Value → H} {P : Program} {T : Tbl} (hT : TblOk P T) {W : World} {R : Nat}

theorem shape_lt {w : World} {r : Nat} {x : TypeId × Nat} (h : w.shape? r = some x) : r < w.heap.size := by
  unfold World.shape? at h
  split at h
  · rename_i c e fz hc
    exact (Array.getElem?_eq_some_iff.1 hc).1
  · cases h

theorem cell_spot {base : Nat} {u : TypeId} {a : Addr} {len cap : Nat} (h : Cell.okWide P W .any base u (.slice (some a) len cap)) : a.spot = none ∧ a.block < W.heap.size := by
  unfold Cell.okWide at h
  split at h
  all_goals try (rename_i heq; cases heq; done)
  all_goals try (rename_i h1 h2; cases h2; done)
  unfold Cell.ok at h
  split at h <;> try (rename_i h1 h2; cases h2; done)
  all_goals try (exact h.elim)
  rename_i heq
  injection heq with h1 h2 h3
  injection h1 with h1
  subst h1 h2 h3
  obtain ⟨_, hs, row, cells, hsh, _⟩ := h.2.2
  exact ⟨hs, shape_lt hsh⟩

theorem spot_of_okWide {base : Nat} {t : TypeId} {v : Value} (h : Value.okWide P W .any base t v) : SpotOk W none v.cells.toList := by
  intro a len cap hm
  unfold Value.okWide at h
  split at h
  · obtain ⟨cs, rfl, _, ts, _, _, hc⟩ := h
    have hm : Value.slice (some a) len cap ∈ cs.toList := hm
    obtain ⟨i, hi⟩ := List.getElem?_of_mem hm
    obtain ⟨u, _, hu⟩ := hc i _ (by simpa using hi)
    exact cell_spot hu
  · obtain ⟨cs, rfl, _, ts, _, _, hc⟩ := h
    have hm : Value.slice (some a) len cap ∈ cs.toList := hm
    obtain ⟨i, hi⟩ := List.getElem?_of_mem hm
    obtain ⟨u, _, hu⟩ := hc i _ (by simpa using hi)
    exact cell_spot hu
  · cases v <;> try (simp [Value.cells] at hm; done)
    case slice a' l' c' =>
      simp only [Value.cells, List.mem_singleton] at hm
      rw [← hm] at h
      exact cell_spot h
    case agg cs =>
      exfalso
      unfold Cell.okWide at h
      split at h
      all_goals try (rename_i heq; cases heq; done)
      all_goals try (rename_i h1 h2; cases h2; done)
      unfold Cell.ok at h
      split at h <;> first | (rename_i h1 h2; cases h2; done) | exact h.elim

include hT in
theorem cv_of_flat {base : Nat} {t : TypeId} {i : TI} {v : Value} {a : AVal} (ht : T t = some i) (h : Value.okWide P W .any base t v) (hf : flat a = v.cells.toList) (hagg : a.isAgg = i.desc.isAgg) : cv a = v := by
  obtain ⟨D, hD, hdesc⟩ := (hT _ _ ht).und
  unfold Value.okWide at h
  have agg : i.desc.isAgg = true → (∃ cs, v = .agg cs) → cv a = v := by
    rintro hi ⟨cs, rfl⟩
    rw [hi] at hagg
    cases a <;> simp [AVal.isAgg] at hagg
    rename_i l
    rw [flat_agg] at hf
    have : flats l = cs.toList := hf
    simp [cv, this]
  split at h
  · rename_i fs hfs
    rw [hD] at hfs
    injection hfs with hfs
    subst hfs
    obtain ⟨cs, rfl, _⟩ := h
    exact agg (by rw [← hdesc]; rfl) ⟨cs, rfl⟩
  · rename_i n e hfs
    rw [hD] at hfs
    injection hfs with hfs
    subst hfs
    obtain ⟨cs, rfl, _⟩ := h
    exact agg (by rw [← hdesc]; rfl) ⟨cs, rfl⟩
  · rename_i h1 h2
    have hna : a.isAgg = false := by
      rw [hagg, ← hdesc]
      cases D <;> first | rfl | exact absurd hD (h1 _) | exact absurd hD (h2 _ _)
    rw [flat_leaf hna] at hf
    cases v <;> try (simp [Value.cells] at hf; exact hf; done)
    case agg cs =>
      exfalso
      unfold Cell.okWide at h
      split at h
      all_goals try (rename_i heq; cases heq; done)
      all_goals try (rename_i h1 h2; cases h2; done)
      unfold Cell.ok at h
      split at h <;> first | (rename_i h1 h2; cases h2; done) | exact h.elim

include hT in
theorem openArgs {d : Nat} : ∀ {ts : List TypeId} {vs : List Value} {ds : List (DataW H)} {p : List MemPlace}, DataW.TrodAll enc P W 0 (fun _ => true) true ts vs ds p →
    (∀ (j : Nat) t v, ts[j]? = some t → vs[j]? = some v → Value.okWide P W .any 0 t v ∨ ∃ base, Value.okWide P W .any base t v) → ts.all (sup T d true) = true → (∀ n ∈ DataW.weightsEach P ts ds, n ≤ R) →
    ∃ avs ms, vs = cvs avs ∧ wtl T (argHeap W T) R d ts avs ms ∧ ms.sum = bulkAll ds
  | [], [], [], _, h, _, _, _ => ⟨[], [], rfl, trivial, rfl⟩
  | t :: ts, v :: vs, y :: ds, _, ⟨p, q, ⟨fuel, h1⟩, h2, _⟩, hv, hs, hw => by
    simp only [List.all_cons, Bool.and_eq_true] at hs
    simp only [DataW.weightsEach, List.mem_append] at hw
    obtain ⟨base, hok⟩ : ∃ base, Value.okWide P W .any base t v := by
      rcases hv 0 t v rfl rfl with h | h
      · exact ⟨0, h⟩
      · exact h
    obtain ⟨a, r1, r2, r3, r4, r5⟩ := opens hT d true none t hs.1 fuel v.cells.toList _ h1 (fun n h => hw n (.inl h)) (spot_of_okWide hok)
    obtain ⟨avs, ms, rfl, s2, s3⟩ := openArgs h2 (fun j t v a b => hv (j + 1) t v (by simpa using a) (by simpa using b)) hs.2 (fun n h => hw n (.inr h))
    obtain ⟨i, hi⟩ : ∃ i, T t = some i := by
      cases d with
      | zero => simp [sup] at hs
      | succ d =>
        cases ht : T t with
        | none => simp [sup, ht] at hs
        | some i => exact ⟨i, rfl⟩
    exact ⟨a :: avs, bulk y :: ms, by rw [cvs, cv_of_flat hT hi hok r3 (r5 i hi).2], ⟨r2, s2⟩, by simp [bulkAll, s3]⟩

theorem stays {W' : World} (hl : laidOutB P = true) (hb : Below W.heap.size W W') : ∀ {ts : List TypeId} {vs : List Value} {ds : List (DataW H)} {p : List MemPlace}, ts.all (fun t => P.readableRec t && Nat.blt t P.types.size) = true →
    DataW.TrodAll enc P W 0 (fun _ => true) true ts vs ds p → DataW.TrodAll enc P W' 0 (fun b => decide (b < W.heap.size)) true ts vs ds p
  | [], [], [], _, _, h => h
  | t :: ts, v :: vs, y :: ds, _, hr, ⟨p, q, h1, h2, e⟩ => by
    simp only [List.all_cons, Bool.and_eq_true, Nat.blt_eq] at hr
    refine ⟨p, q, Below.trod hl hr.1.1 hr.1.2 h1 hb (fun x hx => ?_), stays hl hb hr.2 h2, e⟩
    obtain ⟨n, hn⟩ := h1
    exact DataW.trod_lt n _ _ _ hn x hx

theorem CallsX.calls {f : FuncId} {fn : Func} (hf : P.funcs[f]? = some fn) (hb : fn.body.isSome = true) (hname : (fn.name == "runtime.NumGoroutine") = false) {args : Array Value} {R : Value → World → Prop}
    (h : CallsX P f args W R) : Calls P f args W fun e W' => ∃ u, e = .returned u ∧ R u W' := by
  obtain ⟨c, hc⟩ := Option.isSome_iff_exists.1 hb
  have hcall : (callFunc f args).run P W = .ok (.enter f args) W := by
    have hn : (fn.name == "runtime.NumGoroutine") = false := hname
    simp [callFunc, hf, hn, hc]
    simp at hn
    simp [hn]
  unfold CallsX at h
  rw [hcall] at h
  exact h

include hT in
/-- A LAW's CALL: what the row asks of it. -/
theorem law_run {R : Nat} {f : FuncId} {fn : Func} {s : ChangeSpec} {d : Nat} {tb : TypeId} (laid : laidOutB P = true) (hf : P.funcs[f]? = some fn) (hb : fn.body.isSome = true) (hname : (fn.name == "runtime.NumGoroutine") = false)
    (hread : fn.params.toList.all (fun t => P.readableRec t && Nat.blt t P.types.size) = true) (hsup : fn.params.toList.all (sup T d true) = true)
    (hvars : s.vars = []) (hres : fn.resultTypes = #[tb]) (htb : P.underlying tb = some .bool)
    {base : Nat} {args : Array Value} {ds gs : List (DataW H)} {before : List MemPlace}
    (hfn : ds.length = fn.params.size → (s.fn H (ds ++ [])).results = [.lit (.bool true)] ∧ (s.fn H (ds ++ [])).args = ds ∧ (s.fn H (ds ++ [])).vars = [])
    (hval : ∀ (j : Nat) t v, fn.params[j]? = some t → args[j]? = some v → Value.okWide P W .any base t v)
    (hW : DataW.Whole enc P fn.params.toList s.vars false W args.toList ds gs before) (hw : ∀ n ∈ DataW.weightsEach P fn.params.toList ds, n ≤ R)
    (law : ∀ avs ms, wtl T (argHeap W T) R d fn.params.toList avs ms → ms.sum = bulkAll ds → ACalls P f avs (argHeap W T) fun v _ => v = .bool true) :
    Calls P f args W fun e W' => ∃ v, e = .returned v ∧ s.post enc P fn false true false false W args v W' := by
  have hW' := hW
  obtain ⟨p, q, hA, hV, rfl, hfz, hnd⟩ := hW
  rw [hvars] at hV
  obtain ⟨rfl, rfl⟩ := trodVars_none hV
  obtain ⟨avs, ms, hvs, hwt, hsum⟩ := openArgs hT hA (fun j t v a b => .inr ⟨base, hval j t v (by simpa using a) (by simpa using b)⟩) hsup hw
  have hargs : args = (cvs avs).toArray := by
    rw [← hvs]
  rw [hargs]
  refine ((law avs ms hwt hsum (argBase W T) W (argRel W T)).calls hf hb hname).mono fun e W' ⟨u, he, v, G', hu, hr, hv⟩ => ?_
  subst hu hv he
  have bel := below_of hr
  have hlen : ds.length = fn.params.size := by
    have : ∀ {ts : List TypeId} {vs : List Value} {ds : List (DataW H)} {p : List MemPlace}, DataW.TrodAll enc P W 0 (fun _ => true) true ts vs ds p → ds.length = ts.length := by
      intro ts
      induction ts with
      | nil =>
        intro vs ds p h
        cases vs <;> cases ds <;> first | rfl | exact h.elim
      | cons t ts ih =>
        intro vs ds p h
        cases vs <;> cases ds <;> try (exact h.elim)
        obtain ⟨_, _, _, h2, _⟩ := h
        simp [ih h2]
    simpa using this hA
  obtain ⟨f1, f2, f3⟩ := hfn hlen
  refine ⟨_, rfl, ds, [], _, [], p, [], by rw [hargs] at hW'; exact hW', ?_, ?_, ?_, bel.frame _, fun h => by cases h⟩
  · rw [f1, hres]
    exact trodAll_mk1 (by
      refine ⟨1, ?_⟩
      simp [DataW.trod, htb, cv, Value.cells])
  · rw [f2]
    rw [hargs] at hA
    exact stays laid bel hread hA
  · rw [f3, hvars]
    exact rfl

end
theorem wtl_cons {T : Tbl} {G : Heap} {R d : Nat} {t : TypeId} {ts : List TypeId} {avs : List AVal} {ms : List Nat} (h : wtl T G R d (t :: ts) avs ms) :
    ∃ a avs' m ms', avs = a :: avs' ∧ ms = m :: ms' ∧ wt T G R d t a m ∧ wtl T G R d ts avs' ms' := by
  cases avs <;> cases ms <;> first | exact h.elim | exact ⟨_, _, _, _, rfl, rfl, h.1, h.2⟩
theorem wtl_nil {T : Tbl} {G : Heap} {R d : Nat} {avs : List AVal} {ms : List Nat} (h : wtl T G R d [] avs ms) : avs = [] ∧ ms = [] := by
  cases avs <;> cases ms <;> first | exact h.elim | exact ⟨rfl, rfl⟩

end Go.Esc
