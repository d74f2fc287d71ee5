/- Own work. Package variables that are laid: rows that nobody turns; a law's call beside them. -/
import Derived.Test.YtcceblejaanfaaaDoorEZ
import Derived.Lib.LaidTab
import Derived.LaidHandle
set_option linter.unusedSimpArgs false
set_option linter.unusedVariables false
set_option linter.unusedSectionVars false
namespace Go.Esc
open Go Go.RowKit Go.ChangeShapes Go.WideShapes

theorem wts_mono {f g : AVal → Nat → Prop} (h : ∀ c m, f c m → g c m) : ∀ {cs : List AVal} {ms : List Nat}, wts f cs ms → wts g cs ms
  | [], [], _ => trivial
  | c :: cs, m :: ms, k => ⟨h _ _ k.1, wts_mono h k.2⟩
theorem wfs_mono {f g : TypeId → AVal → Nat → Prop} (h : ∀ t c m, f t c m → g t c m) : ∀ {fs : List (TypeId × Nat)} {cs : List AVal} {ms : List Nat}, wfs f fs cs ms → wfs g fs cs ms
  | [], [], [], _ => trivial
  | x :: fs, c :: cs, m :: ms, k => ⟨h _ _ _ k.1, wfs_mono h k.2⟩
theorem wt_mono {T : Tbl} {G G' : Heap} (hle : RoLe G G') {R : Nat} : ∀ (d : Nat) {t : TypeId} {v : AVal} {m : Nat}, wt T G R d t v m → wt T G' R d t v m
  | 0, _, _, _, h => h
  | d + 1, t, v, m, h => by
    have ih : ∀ e c n, wt T G R d e c n → wt T G' R d e c n := fun e c n => wt_mono hle d
    rw [wt] at h ⊢
    split at h
    · exact h
    · rename_i i hi
      split at h
      · exact h
      · exact h
      · exact h
      · split at h
        · exact h
        · rcases h with h | ⟨id, len, cap, cs, ms, h1, h2, h3, h4, h5, h6, h7, h8, h9, h10⟩
          · exact .inl h
          · exact .inr ⟨id, len, cap, cs, ms, h1, h2, h3, h4, hle _ _ h5, h6, h7, h8, wts_mono (ih _) h9, h10⟩
      · obtain ⟨cs, ms, h1, h2, h3⟩ := h
        exact ⟨cs, ms, h1, wfs_mono (fun t => ih t) h2, h3⟩
      · obtain ⟨cs, ms, h1, h2, h3, h4⟩ := h
        exact ⟨cs, ms, h1, h2, wts_mono (ih _) h3, h4⟩
      · exact h.elim
theorem wtl_mono {T : Tbl} {G G' : Heap} (hle : RoLe G G') {R d : Nat} : ∀ {ts : List TypeId} {vs : List AVal} {ms : List Nat}, wtl T G R d ts vs ms → wtl T G' R d ts vs ms
  | [], [], [], _ => trivial
  | t :: ts, v :: vs, m :: ms, h => ⟨wt_mono hle d h.1, wtl_mono hle h.2⟩

/-- Rows beside the arguments' own. -/
structure Laid (W : World) where
  row : AId → Option AVal
  ok : ∀ id t, row id = some t → id.win = 0 ∧ id.block < W.heap.size ∧ ∀ j u, (flat t)[j]? = some u → W.cell? ⟨id.block, id.start + j, none⟩ = some u

noncomputable def laidBase (W : World) (T : Tbl) (X : Laid W) : Base where
  w0 := W
  prot := fun b => b < W.heap.size
  lt := fun _ h => h
  ro := fun id => match X.row id with
    | some t => some t
    | none => roW W T id
  cells := fun id t h => by
    split at h
    · rename_i t' ht
      injection h with h
      subst h
      exact (X.ok _ _ ht).2
    · exact (argBase W T).cells id t h
noncomputable def laidHeap (W : World) (T : Tbl) (X : Laid W) : Heap := fun id => ((laidBase W T X).ro id).map .ro
theorem laidRel (W : World) (T : Tbl) (X : Laid W) : Rel (laidBase W T X) (laidHeap W T X) W := by
  refine ⟨rfl, rfl, rfl, Nat.le_refl _, fun _ _ => rfl, fun id o ho => ?_⟩
  simp only [laidHeap, Option.map_eq_some_iff] at ho
  obtain ⟨t, ht, rfl⟩ := ho
  exact ht
theorem laid_le (W : World) (T : Tbl) (X : Laid W) : RoLe (argHeap W T) (laidHeap W T X) := by
  intro id t h
  simp only [argHeap, Option.map_eq_some_iff] at h
  obtain ⟨t', ht, h⟩ := h
  injection h with h
  subst h
  have hx : X.row id = none := by
    cases hx : X.row id with
    | none => rfl
    | some t =>
      have := (X.ok _ _ hx).1
      unfold roW at ht
      rw [this] at ht
      cases ht
  show Option.map _ (match X.row id with | some t => some t | none => roW W T id) = _
  rw [hx]
  simp only [ht, Option.map_some]
theorem laid_row {W : World} {T : Tbl} {X : Laid W} {id : AId} {t : AVal} (h : X.row id = some t) : laidHeap W T X id = some (.ro t) := by
  show Option.map _ (match X.row id with | some t => some t | none => roW W T id) = _
  rw [h]
  rfl
theorem below_laid {W : World} {T : Tbl} {X : Laid W} {G' : Heap} {w' : World} (h : Rel (laidBase W T X) G' w') : Below W.heap.size W w' := ⟨h.os, h.tape, h.output, h.size, fun k hk => h.keep k hk⟩

section
variable {H : Type} {enc : TypeId × Value → H} {P : Program} {T : Tbl} (hT : TblOk P T) {W : World} {R : Nat}
include hT in
/-- A law's call beside laid variables: what the row asks of it. -/
theorem law_laid {R : Nat} {f : FuncId} {fn : Func} {s : ChangeSpec} {d : Nat} {tb : TypeId} (X : Laid W) (laid : laidOutB P = true) (hf : P.funcs[f]? = some fn) (hb : fn.body.isSome = true) (hname : (fn.name == "runtime.NumGoroutine") = false)
    (hread : fn.params.toList.all (fun t => P.readableRec t && Nat.blt t P.types.size) = true) (hsup : fn.params.toList.all (sup T d true) = true)
    (hvars : s.vars = []) (hres : fn.resultTypes = #[tb]) (htb : P.underlying tb = some .bool)
    {base : Nat} {args : Array Value} {ds gs : List (DataW H)} {before : List MemPlace}
    (hfn : ds.length = fn.params.size → (s.fn H (ds ++ [])).results = [.lit (.bool true)] ∧ (s.fn H (ds ++ [])).args = ds ∧ (s.fn H (ds ++ [])).vars = [])
    (hval : ∀ (j : Nat) t v, fn.params[j]? = some t → args[j]? = some v → Value.okWide P W .any base t v)
    (hW : DataW.Whole enc P fn.params.toList s.vars false W args.toList ds gs before) (hw : ∀ n ∈ DataW.weightsEach P fn.params.toList ds, n ≤ R)
    (law : ∀ avs ms, wtl T (laidHeap W T X) R d fn.params.toList avs ms → ms.sum = bulkAll ds → ACalls P f avs (laidHeap W T X) fun v _ => v = .bool true) :
    Calls P f args W fun e W' => ∃ v, e = .returned v ∧ s.post enc P fn false true false false W args v W' := by
  have hW' := hW
  obtain ⟨p, q, hA, hV, rfl, hfz, hnd⟩ := hW
  rw [hvars] at hV
  obtain ⟨rfl, rfl⟩ := trodVars_none hV
  obtain ⟨avs, ms, hvs, hwt, hsum⟩ := openArgs hT hA (fun j t v a b => .inr ⟨base, hval j t v (by simpa using a) (by simpa using b)⟩) hsup hw
  have hargs : args = (cvs avs).toArray := by
    rw [← hvs]
  rw [hargs]
  refine ((law avs ms (wtl_mono (laid_le W T X) hwt) hsum (laidBase W T X) W (laidRel W T X)).calls hf hb hname).mono fun e W' ⟨u, he, v, G', hu, hr, hv⟩ => ?_
  subst hu hv he
  have bel := below_laid hr
  have hlen : ds.length = fn.params.size := by
    have : ∀ {ts : List TypeId} {vs : List Value} {ds : List (DataW H)} {p : List MemPlace}, DataW.TrodAll enc P W 0 (fun _ => true) true ts vs ds p → ds.length = ts.length := by
      intro ts
      induction ts with
      | nil =>
        intro vs ds p h
        cases vs <;> cases ds <;> first | rfl | exact h.elim
      | cons t ts ih =>
        intro vs ds p h
        cases vs <;> cases ds <;> try (exact h.elim)
        obtain ⟨_, _, _, h2, _⟩ := h
        simp [ih h2]
    simpa using this hA
  obtain ⟨f1, f2, f3⟩ := hfn hlen
  refine ⟨_, rfl, ds, [], _, [], p, [], by rw [hargs] at hW'; exact hW', ?_, ?_, ?_, bel.frame _, fun h => by cases h⟩
  · rw [f1, hres]
    exact trodAll_mk1 (by
      refine ⟨1, ?_⟩
      simp [DataW.trod, htb, cv, Value.cells])
  · rw [f2]
    rw [hargs] at hA
    exact stays laid bel hread hA
  · rw [f3, hvars]
    exact rfl

end

/-- A table of bytes in a package variable. -/
def tabV (zs : List Int) : AVal := .agg (zs.map (.int .u8))
theorem flat_tab (zs : List Int) : flat (tabV zs) = zs.map fun z => Value.int .u8 z := by
  rw [tabV, flat_agg, flats_ints]
def tabLaid {P : Program} {W : World} {name : String} {g : Nat} {zs : List Int} (hg : P.globalNamed name = some g) (h : Lib.TabIs P W name .u8 zs) (hz : zs ≠ []) : Laid W where
  row := fun id => if id = ⟨g, 0, 0⟩ then some (tabV zs) else none
  ok := fun id t ht => by
    split at ht
    · rename_i hid
      injection ht with ht
      subst ht hid
      have hc : ∀ i, i < zs.length → W.cell? ⟨g, i, none⟩ = some (.int .u8 (zs.getD i 0)) := fun i hi => h.cell hg i hi
      refine ⟨rfl, ?_, fun j u hu => ?_⟩
      · have := hc 0 (List.length_pos_iff.2 hz)
        exact World.block_lt_of_cell? _ _ this
      · rw [flat_tab, List.getElem?_map] at hu
        cases hz' : zs[j]? with
        | none => rw [hz'] at hu; cases hu
        | some z =>
          rw [hz'] at hu
          injection hu with hu
          subst hu
          have hj := (List.getElem?_eq_some_iff.1 hz').1
          rw [Nat.zero_add, hc j hj, List.getD_eq_getElem?_getD, hz']
          rfl
    · cases ht

end Go.Esc
