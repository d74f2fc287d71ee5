import Derived.Test.YtbckpbdamfhehaaGreatDoorEX
import Derived.Test.YtbckpbdamfhehaaGreatDoorSS
import Derived.Test.YtbckpbdamfhehaaGreatDoorEZ
import Derived.Lib.LaidTab
import Derived.LaidHandle
import Derived.Test.YtbckpbdamfhehaaGreatDoorLLib
/- Own work. Chapter 8: amounts: what each function answers. -/
set_option linter.unusedSimpArgs false
set_option linter.unusedVariables false
set_option maxRecDepth 20000
namespace Go.Esc.M
open Go Go.Esc

/-- An amount: 0 to 2^60. -/
def right (a : Int) : Bool := decide (0 ≤ a ∧ a ≤ 1152921504606846976)

theorem amount_Right.use {a : Int} {G : Heap} {Q : AVal → Heap → Prop} (h : Q (.bool (right a)) G) : ACalls P amount_Right.n [.int .i64 a] G Q := by
  refine amount_Right.sound ?_
  simp only [amount_Right.S, vbin_geq, vbin_leq, wv_some, brB_dec]
  constructor
  · intro h0
    simpa [right, h0] using h
  · intro h0
    simpa [right, h0] using h

/-- A sum and its fault; a difference and its fault. -/
def plus (a b : Int) : Int × Int := if right a = true ∧ right b = true ∧ right (a + b) = true then (a + b, 0) else (0, 80)
def pairV (p : Int × Int) : AVal := .tuple [.int .i64 p.1, .int .i64 p.2]

theorem right_spec {a : Int} : right a = true ↔ 0 ≤ a ∧ a ≤ 1152921504606846976 := by simp [right]

theorem plus_core {a b : Int} {Q : AVal → Prop} (h : Q (pairV (plus a b))) :
    brB (some (.bool (!right a))) (Q (.tuple [.int .i64 0, .int .i64 80])) (brB (some (.bool (!right b))) (Q (.tuple [.int .i64 0, .int .i64 80]))
      (brB (some (.bool (!right (IntKind.i64.wrap (a + b))))) (Q (.tuple [.int .i64 0, .int .i64 80])) (Q (.tuple [.int .i64 (IntKind.i64.wrap (a + b)), .int .i64 0])))) := by
  cases ha : right a with
  | false => simpa [plus, ha, pairV] using h
  | true =>
    cases hb : right b with
    | false => simpa [plus, ha, hb, pairV] using h
    | true =>
      have h1 := right_spec.1 ha
      have h2 := right_spec.1 hb
      rw [i64_in (by omega) (by omega)]
      cases hc : right (a + b) <;> simpa [plus, ha, hb, hc, pairV] using h

theorem amount_Plus.use {a b : Int} {G : Heap} {Q : AVal → Heap → Prop} (h : Q (pairV (plus a b)) G) : ACalls P amount_Plus.n [.int .i64 a, .int .i64 b] G Q := by
  refine amount_Plus.sound ?_
  unfold amount_Plus.S
  refine amount_Right.use ?_
  have key := plus_core (a := a) (b := b) (Q := fun v => Q v G) h
  cases ha : right a with
  | false => simpa [ha] using key
  | true =>
    simp only [vun_not, wv_some, Bool.not_true, brB_false]
    refine amount_Right.use ?_
    cases hb : right b with
    | false => simpa [ha, hb] using key
    | true =>
      simp only [vun_not, wv_some, Bool.not_true, brB_false, vbin_add]
      refine amount_Right.use ?_
      simpa [ha, hb] using key

/-- The sum of a list and its fault. -/
def sumFrom : Int → List Int → Int × Int
  | n, [] => (n, 0)
  | n, x :: xs => if (plus n x).2 = 0 then sumFrom (plus n x).1 xs else (0, (plus n x).2)

theorem pair0 (p : Int × Int) : vextract (pairV p) 0 = some (.int .i64 p.1) := rfl
theorem pair1 (p : Int × Int) : vextract (pairV p) 1 = some (.int .i64 p.2) := rfl

theorem amount_Sum.use {v : AVal} {xs : List Int} {G : Heap} {Q : AVal → Heap → Prop} (hv : IsSl 1 G v (xs.map (.int .i64))) (hm : xs.length ≤ 9223372036854775807) (h : Q (pairV (sumFrom 0 xs)) G) :
    ACalls P amount_Sum.n [v] G Q := by
  refine amount_Sum.sound ?_
  unfold amount_Sum.S
  rw [hv.len (i := ti_sl_int64) T_sl_int64 rfl, wv_some]
  intro R hR
  rw [List.length_map]
  have loop : ∀ (rest : List Int) (n : Int) (j : Nat), xs.drop j = rest → j ≤ xs.length → Q (pairV (sumFrom n rest)) G → R [.int .i64 n, v, .int .i64 xs.length, .int .i64 j] G := by
    intro rest
    induction rest with
    | nil =>
      intro n j hd hj hq
      have : ¬ ((j : Int) < xs.length) := by
        have := List.drop_eq_nil_iff.1 hd
        omega
      refine hR _ _ _ _ _ ?_
      simp only [vbin_lss, wv_some, brB_dec]
      exact ⟨fun h => absurd h this, fun _ => hq⟩
    | cons x rest ih =>
      intro n j hd hj hq
      have hjl : j < xs.length := by
        rcases Nat.lt_or_ge j xs.length with h | h
        · exact h
        · rw [List.drop_eq_nil_iff.2 h] at hd; cases hd
      have hx : xs[j]? = some x := by
        rw [← List.head?_drop, hd]; rfl
      obtain ⟨a, ha, hl⟩ := hv.at_ (k := .i64) (j := j) (c := .int .i64 x) (i := ti_sl_int64) (ie := ti_int64) (T := T) (t := t_sl_int64) (e := t_int64) T_sl_int64 rfl T_int64 (by simp [hx]) rfl
      refine hR _ _ _ _ _ ?_
      simp only [vbin_lss, wv_some, brB_dec, ha, hl]
      refine ⟨fun _ => amount_Plus.use ?_, fun h => absurd (by omega) h⟩
      simp only [pair0, pair1, wv_some, vbin_neq, brB_ndec, vbin_add]
      rw [i64_in (by omega) (by omega)]
      simp only [sumFrom] at hq
      constructor
      · intro h0
        rw [if_neg h0] at hq
        exact hq
      · intro h0
        rw [if_pos h0] at hq
        have := ih (plus n x).1 (j + 1) (by rw [← List.drop_drop, hd]; rfl) (by omega) hq
        simpa using this
  exact loop xs 0 0 rfl (by omega) h

end Go.Esc.M

/- Own work. Package variables that are laid: rows that nobody turns; a law's call beside them. -/
set_option linter.unusedSimpArgs false
set_option linter.unusedVariables false
set_option maxRecDepth 20000
set_option linter.unusedSectionVars false
namespace Go.Esc
open Go Go.RowKit Go.ChangeShapes Go.WideShapes

theorem wts_mono {f g : AVal → Nat → Prop} (h : ∀ c m, f c m → g c m) : ∀ {cs : List AVal} {ms : List Nat}, wts f cs ms → wts g cs ms
  | [], [], _ => trivial
  | c :: cs, m :: ms, k => ⟨h _ _ k.1, wts_mono h k.2⟩
theorem wfs_mono {f g : TypeId → AVal → Nat → Prop} (h : ∀ t c m, f t c m → g t c m) : ∀ {fs : List (TypeId × Nat)} {cs : List AVal} {ms : List Nat}, wfs f fs cs ms → wfs g fs cs ms
  | [], [], [], _ => trivial
  | x :: fs, c :: cs, m :: ms, k => ⟨h _ _ _ k.1, wfs_mono h k.2⟩
theorem wt_mono {T : Tbl} {G G' : Heap} (hle : RoLe G G') {R : Nat} : ∀ (d : Nat) {t : TypeId} {v : AVal} {m : Nat}, wt T G R d t v m → wt T G' R d t v m
  | 0, _, _, _, h => h
  | d + 1, t, v, m, h => by
    have ih : ∀ e c n, wt T G R d e c n → wt T G' R d e c n := fun e c n => wt_mono hle d
    rw [wt] at h ⊢
    split at h
    · exact h
    · rename_i i hi
      split at h
      · exact h
      · exact h
      · exact h
      · split at h
        · exact h
        · rcases h with h | ⟨id, len, cap, cs, ms, h1, h2, h3, h4, h5, h6, h7, h8, h9, h10⟩
          · exact .inl h
          · exact .inr ⟨id, len, cap, cs, ms, h1, h2, h3, h4, hle _ _ h5, h6, h7, h8, wts_mono (ih _) h9, h10⟩
      · obtain ⟨cs, ms, h1, h2, h3⟩ := h
        exact ⟨cs, ms, h1, wfs_mono (fun t => ih t) h2, h3⟩
      · obtain ⟨cs, ms, h1, h2, h3, h4⟩ := h
        exact ⟨cs, ms, h1, h2, wts_mono (ih _) h3, h4⟩
      · exact h.elim
theorem wtl_mono {T : Tbl} {G G' : Heap} (hle : RoLe G G') {R d : Nat} : ∀ {ts : List TypeId} {vs : List AVal} {ms : List Nat}, wtl T G R d ts vs ms → wtl T G' R d ts vs ms
  | [], [], [], _ => trivial
  | t :: ts, v :: vs, m :: ms, h => ⟨wt_mono hle d h.1, wtl_mono hle h.2⟩

/-- Rows beside the arguments' own. -/
structure Laid (W : World) where
  row : AId → Option AVal
  ok : ∀ id t, row id = some t → id.win = 0 ∧ id.block < W.heap.size ∧ ∀ j u, (flat t)[j]? = some u → W.cell? ⟨id.block, id.start + j, none⟩ = some u

noncomputable def laidBase (W : World) (T : Tbl) (X : Laid W) : Base where
  w0 := W
  prot := fun b => b < W.heap.size
  lt := fun _ h => h
  ro := fun id => match X.row id with
    | some t => some t
    | none => roW W T id
  cells := fun id t h => by
    split at h
    · rename_i t' ht
      injection h with h
      subst h
      have hx := X.ok _ _ ht
      exact ⟨hx.2.1, fun j u hj => ⟨AId.hol_0 hx.1, hx.2.2 j u hj⟩⟩
    · exact (argBase W T).cells id t h
noncomputable def laidHeap (W : World) (T : Tbl) (X : Laid W) : Heap := fun id => ((laidBase W T X).ro id).map .ro
theorem laidRel (W : World) (T : Tbl) (X : Laid W) : Rel (laidBase W T X) (laidHeap W T X) W := by
  refine ⟨rfl, rfl, rfl, Nat.le_refl _, fun _ _ => rfl, fun id o ho => ?_⟩
  simp only [laidHeap, Option.map_eq_some_iff] at ho
  obtain ⟨t, ht, rfl⟩ := ho
  exact ht
theorem laid_le (W : World) (T : Tbl) (X : Laid W) : RoLe (argHeap W T) (laidHeap W T X) := by
  intro id t h
  simp only [argHeap, Option.map_eq_some_iff] at h
  obtain ⟨t', ht, h⟩ := h
  injection h with h
  subst h
  have hx : X.row id = none := by
    cases hx : X.row id with
    | none => rfl
    | some t =>
      have := (X.ok _ _ hx).1
      unfold roW at ht
      rw [this] at ht
      cases ht
  show Option.map _ (match X.row id with | some t => some t | none => roW W T id) = _
  rw [hx]
  simp only [ht, Option.map_some]
theorem laid_row {W : World} {T : Tbl} {X : Laid W} {id : AId} {t : AVal} (h : X.row id = some t) : laidHeap W T X id = some (.ro t) := by
  show Option.map _ (match X.row id with | some t => some t | none => roW W T id) = _
  rw [h]
  rfl
theorem below_laid {W : World} {T : Tbl} {X : Laid W} {G' : Heap} {w' : World} (h : Rel (laidBase W T X) G' w') : Below W.heap.size W w' := ⟨h.os, h.tape, h.output, h.size, fun k hk => h.keep k hk⟩

section
variable {H : Type} {enc : TypeId × Value → H} {P : Program} {T : Tbl} (hT : TblOk P T) {W : World} {R : Nat}
include hT in
/-- A law's call beside laid variables: what the row asks of it. -/
theorem law_laid {R : Nat} {f : FuncId} {fn : Func} {s : ChangeSpec} {d : Nat} {tb : TypeId} (X : Laid W) (laid : laidOutB P = true) (hf : P.funcs[f]? = some fn) (hb : fn.body.isSome = true) (hname : (fn.name == "runtime.NumGoroutine") = false)
    (hread : fn.params.toList.all (fun t => P.readableRec t && Nat.blt t P.types.size) = true) (hsup : fn.params.toList.all (sup T d true) = true)
    (hvars : s.vars = []) (hres : fn.resultTypes = #[tb]) (htb : P.underlying tb = some .bool)
    {base : Nat} {args : Array Value} {ds gs : List (DataW H)} {before : List MemPlace}
    (hfn : ds.length = fn.params.size → (s.fn H (ds ++ [])).results = [.lit (.bool true)] ∧ (s.fn H (ds ++ [])).args = ds ∧ (s.fn H (ds ++ [])).vars = [])
    (hval : ∀ (j : Nat) t v, fn.params[j]? = some t → args[j]? = some v → Value.okWide P W .any base t v)
    (hW : DataW.Whole enc P fn.params.toList s.vars false W args.toList ds gs before) (hw : ∀ n ∈ DataW.weightsEach P fn.params.toList ds, n ≤ R)
    (law : ∀ avs ms, wtl T (laidHeap W T X) R d fn.params.toList avs ms → ms.sum = bulkAll ds → ACalls P f avs (laidHeap W T X) fun v _ => v = .bool true) :
    Calls P f args W fun e W' => ∃ v, e = .returned v ∧ s.post enc P fn false true false false W args v W' := by
  have hW' := hW
  obtain ⟨p, q, hA, hV, rfl, hfz, hnd⟩ := hW
  rw [hvars] at hV
  obtain ⟨rfl, rfl⟩ := trodVars_none hV
  obtain ⟨avs, ms, hvs, hwt, hsum⟩ := openArgs hT hA (fun j t v a b => .inr ⟨base, hval j t v (by simpa using a) (by simpa using b)⟩) hsup hw
  have hargs : args = (cvs avs).toArray := by
    rw [← hvs]
  rw [hargs]
  refine ((law avs ms (wtl_mono (laid_le W T X) hwt) hsum (laidBase W T X) W (laidRel W T X)).calls hf hb hname).mono fun e W' ⟨u, he, v, G', hu, hr, hv⟩ => ?_
  subst hu hv he
  have bel := below_laid hr
  have hlen : ds.length = fn.params.size := by
    have : ∀ {ts : List TypeId} {vs : List Value} {ds : List (DataW H)} {p : List MemPlace}, DataW.TrodAll enc P W 0 (fun _ => true) true ts vs ds p → ds.length = ts.length := by
      intro ts
      induction ts with
      | nil =>
        intro vs ds p h
        cases vs <;> cases ds <;> first | rfl | exact h.elim
      | cons t ts ih =>
        intro vs ds p h
        cases vs <;> cases ds <;> try (exact h.elim)
        obtain ⟨_, _, _, h2, _⟩ := h
        simp [ih h2]
    simpa using this hA
  obtain ⟨f1, f2, f3⟩ := hfn hlen
  refine ⟨_, rfl, ds, [], _, [], p, [], by rw [hargs] at hW'; exact hW', ?_, ?_, ?_, bel.frame _, fun h => by cases h⟩
  · rw [f1, hres]
    exact trodAll_mk1 (by
      refine ⟨1, ?_⟩
      simp [DataW.trod, htb, cv, Value.cells])
  · rw [f2]
    rw [hargs] at hA
    exact stays laid bel hread hA
  · rw [f3, hvars]
    exact rfl

end

/-- A table of bytes in a package variable. -/
def tabV (zs : List Int) : AVal := .agg (zs.map (.int .u8))
theorem flat_tab (zs : List Int) : flat (tabV zs) = zs.map fun z => Value.int .u8 z := by
  rw [tabV, flat_agg, flats_ints]
def tabLaid {P : Program} {W : World} {name : String} {g : Nat} {zs : List Int} (hg : P.globalNamed name = some g) (h : Lib.TabIs P W name .u8 zs) (hz : zs ≠ []) : Laid W where
  row := fun id => if id = ⟨g, 0, 0⟩ then some (tabV zs) else none
  ok := fun id t ht => by
    split at ht
    · rename_i hid
      injection ht with ht
      subst ht hid
      have hc : ∀ i, i < zs.length → W.cell? ⟨g, i, none⟩ = some (.int .u8 (zs.getD i 0)) := fun i hi => h.cell hg i hi
      refine ⟨rfl, ?_, fun j u hu => ?_⟩
      · have := hc 0 (List.length_pos_iff.2 hz)
        exact World.block_lt_of_cell? _ _ this
      · rw [flat_tab, List.getElem?_map] at hu
        cases hz' : zs[j]? with
        | none => rw [hz'] at hu; cases hu
        | some z =>
          rw [hz'] at hu
          injection hu with hu
          subst hu
          have hj := (List.getElem?_eq_some_iff.1 hz').1
          rw [Nat.zero_add, hc j hj, List.getD_eq_getElem?_getD, hz']
          rfl
    · cases ht

end Go.Esc

/- Own work. Things in memory, side by side: a list of them; a call on one leaves the others alone. -/
set_option linter.unusedSimpArgs false
set_option linter.unusedVariables false
set_option maxRecDepth 20000
namespace Go.Esc
open Go Go.RowKit

/-- A thing in memory: what holds of its rows, and of no others. -/
structure LP where
  p : Heap → List AId → Prop
  rows : ∀ {G F}, p G F → ∀ j ∈ F, (G j).isSome = true
  loc : ∀ {G G' F}, p G F → (∀ j ∈ F, G' j = G j) → p G' F

def Sps : List LP → List (List AId) → Heap → Prop
  | [], [], _ => True
  | p :: ps, F :: Fs, G => p.p G F ∧ (∀ j ∈ F, j ∉ Fs.flatten) ∧ Sps ps Fs G
  | _, _, _ => False

theorem Sps.rows {ps : List LP} {Fs : List (List AId)} {G : Heap} (h : Sps ps Fs G) : ∀ j ∈ Fs.flatten, (G j).isSome = true := by
  induction ps generalizing Fs with
  | nil => cases Fs with
    | nil => simp
    | cons F Fs => exact h.elim
  | cons p ps ih => cases Fs with
    | nil => exact h.elim
    | cons F Fs =>
      obtain ⟨h1, h2, h3⟩ := h
      intro j hj
      simp only [List.flatten_cons, List.mem_append] at hj
      rcases hj with hj | hj
      · exact p.rows h1 j hj
      · exact ih h3 j hj

theorem Sps.same {ps : List LP} {Fs : List (List AId)} {G G' : Heap} (h : Sps ps Fs G) (hs : ∀ j ∈ Fs.flatten, G' j = G j) : Sps ps Fs G' := by
  induction ps generalizing Fs with
  | nil => cases Fs with
    | nil => trivial
    | cons F Fs => exact h.elim
  | cons p ps ih => cases Fs with
    | nil => exact h.elim
    | cons F Fs =>
      obtain ⟨h1, h2, h3⟩ := h
      exact ⟨p.loc h1 fun j hj => hs j (by simp [hj]), h2, ih h3 fun j hj => hs j (by simp only [List.flatten_cons, List.mem_append]; exact .inr hj)⟩

theorem Sps.step {ps : List LP} {Fs : List (List AId)} {G : Heap} (h : Sps ps Fs G) {i : Nat} {p : LP} (hi : ps[i]? = some p) :
    ∃ F, p.p G F ∧ (∀ j ∈ F, j ∈ Fs.flatten) ∧ ∀ p' F' G', LP.p p' G' F' → Ch F G F' G' → Sps (ps.set i p') (Fs.set i F') G' ∧ ∀ j ∈ (Fs.set i F').flatten, j ∈ F' ∨ j ∈ Fs.flatten := by
  induction ps generalizing Fs i with
  | nil => simp at hi
  | cons q ps ih => cases Fs with
    | nil => exact h.elim
    | cons E Fs =>
      obtain ⟨h1, h2, h3⟩ := h
      cases i with
      | zero =>
        simp only [List.getElem?_cons_zero, Option.some.injEq] at hi
        subst hi
        refine ⟨E, h1, fun j hj => by simp [hj], fun p' F' G' hp' hc => ⟨⟨hp', ?_, h3.same fun j hj => ?_⟩, fun j hj => ?_⟩⟩
        · intro j hj hm
          rcases hc.row j hj with h' | h'
          · exact h2 j h' hm
          · have := h3.rows j hm
            rw [h'] at this; cases this
        · exact hc.same (E := Fs.flatten) h3.rows (fun j hj he => h2 j he hj) j hj
        · simp only [List.set_cons_zero, List.flatten_cons, List.mem_append] at hj ⊢
          exact hj.imp id .inr
      | succ i =>
        simp only [List.getElem?_cons_succ] at hi
        obtain ⟨F, k1, k2, k3⟩ := ih h3 hi
        refine ⟨F, k1, fun j hj => by simp only [List.flatten_cons, List.mem_append]; exact .inr (k2 j hj), fun p' F' G' hp' hc => ?_⟩
        obtain ⟨m1, m2⟩ := k3 p' F' G' hp' hc
        have hEF : ∀ j ∈ E, j ∉ F := fun j hj hm => h2 j hj (k2 j hm)
        refine ⟨⟨q.loc h1 fun j hj => hc.same (E := E) (q.rows h1) hEF j hj, fun j hj hm => ?_, m1⟩, fun j hj => ?_⟩
        · rcases m2 j hm with h' | h'
          · exact hc.apart (E := E) (q.rows h1) hEF j hj h'
          · exact h2 j hj h'
        · simp only [List.set_cons_succ, List.flatten_cons, List.mem_append] at hj ⊢
          rcases hj with hj | hj
          · exact .inr (.inl hj)
          · exact (m2 j hj).imp id .inr

/-- Things side by side, and what has changed since. -/
def Sp (F0 : List AId) (G0 : Heap) (ps : List LP) (G : Heap) : Prop := ∃ Fs, Sps ps Fs G ∧ Ch F0 G0 Fs.flatten G

theorem Sp.nil (G : Heap) : Sp [] G [] G := ⟨[], trivial, Ch.refl _ _⟩
theorem Sp.one {p : LP} {F : List AId} {G : Heap} (h : p.p G F) : Sp F G [p] G := ⟨[F], ⟨h, by simp, trivial⟩, by simpa using Ch.refl _ _⟩

section
variable {F0 : List AId} {G0 G : Heap} {ps : List LP}

/-- A call on the thing in that place. -/
theorem Sp.call {p : LP} {i : Nat} (h : Sp F0 G0 ps G) (hi : ps[i]? = some p) (p' : LP) {X : Prop}
    (hc : ∀ F, p.p G F → (∀ F' G', p'.p G' F' → Ch F G F' G' → Sp F0 G0 (ps.set i p') G') → X) : X := by
  obtain ⟨Fs, h1, h2⟩ := h
  obtain ⟨F, k1, k2, k3⟩ := h1.step hi
  refine hc F k1 fun F' G' hp' hch => ?_
  obtain ⟨m1, m2⟩ := k3 p' F' G' hp' hch
  exact ⟨_, m1, h2.trans (hch.sub k2 m2)⟩

/-- A look at the thing in that place. -/
theorem Sp.get {p : LP} {i : Nat} (h : Sp F0 G0 ps G) (hi : ps[i]? = some p) : ∃ F, p.p G F := by
  obtain ⟨Fs, h1, h2⟩ := h
  obtain ⟨F, k1, _⟩ := h1.step hi
  exact ⟨F, k1⟩

/-- A call that leaves all of them alone. -/
theorem Sp.tmp {G' : Heap} {E : List AId} (h : Sp F0 G0 ps G) (hc : Ch [] G E G') : Sp F0 G0 ps G' := by
  obtain ⟨Fs, h1, h2⟩ := h
  exact ⟨Fs, h1.same fun j hj => hc.same (E := Fs.flatten) h1.rows (by simp) j hj, h2.trans hc.drop.grow⟩

/-- A new thing. -/
theorem Sp.new {p : LP} {F' : List AId} {G' : Heap} (h : Sp F0 G0 ps G) (hp : p.p G' F') (hc : Ch [] G F' G') : Sp F0 G0 (p :: ps) G' := by
  obtain ⟨Fs, h1, h2⟩ := h
  refine ⟨F' :: Fs, ⟨hp, fun j hj hm => ?_, h1.same fun j hj => hc.same (E := Fs.flatten) h1.rows (by simp) j hj⟩, h2.trans ?_⟩
  · rcases hc.row j hj with h' | h'
    · simp at h'
    · have := h1.rows j hm
      rw [h'] at this; cases this
  · have := hc.more (E := Fs.flatten)
    simpa using this

/-- What is in that place is looked at no more. -/
theorem Sps.erase {Fs : List (List AId)} (h : Sps ps Fs G) (i : Nat) : Sps (ps.eraseIdx i) (Fs.eraseIdx i) G := by
  induction ps generalizing Fs i with
  | nil => cases Fs with
    | nil => simpa using h
    | cons F Fs => exact h.elim
  | cons q ps ih => cases Fs with
    | nil => exact h.elim
    | cons E Fs =>
      obtain ⟨h1, h2, h3⟩ := h
      cases i with
      | zero => exact h3
      | succ i => exact ⟨h1, fun j hj hm => h2 j hj (by
          simp only [List.mem_flatten] at hm ⊢
          obtain ⟨l, hl, hj⟩ := hm
          exact ⟨l, List.mem_of_mem_eraseIdx hl, hj⟩), ih h3 i⟩

theorem Sp.erase (h : Sp F0 G0 ps G) (i : Nat) : Sp F0 G0 (ps.eraseIdx i) G := by
  obtain ⟨Fs, h1, h2⟩ := h
  refine ⟨_, h1.erase i, h2.ro, h2.others, fun j hj => h2.row j ?_⟩
  simp only [List.mem_flatten] at hj ⊢
  obtain ⟨l, hl, hj⟩ := hj
  exact ⟨l, List.mem_of_mem_eraseIdx hl, hj⟩

theorem Sp.ro (h : Sp F0 G0 ps G) : RoLe G0 G := h.elim fun _ h => h.2.ro
theorem Sp.ch (h : Sp [] G0 ps G) : Ch [] G0 [] G := h.elim fun _ h => h.2.drop
theorem Sp.out {p : LP} (h : Sp F0 G0 [p] G) : ∃ F, p.p G F ∧ Ch F0 G0 F G := by
  obtain ⟨Fs, h1, h2⟩ := h
  match Fs, h1 with
  | [F], h1 => exact ⟨F, h1.1, by simpa using h2⟩
theorem Sp.start {F : List AId} {G : Heap} {p : LP} (h : p.p G F) : Sp F G [p] G := Sp.one h
theorem Sp.rest (h : Sp F0 G0 ps G) : ∃ F, Ch F0 G0 F G := h.elim fun Fs h => ⟨_, h.2⟩

end

/-- One whole row. -/
def RowL (id : AId) (t : AVal) : LP where
  p := fun G F => G id = some (.own t) ∧ F = [id]
  rows := by rintro G F ⟨h, rfl⟩ j hj; simp at hj; subst hj; simp [h]
  loc := by rintro G G' F ⟨h, rfl⟩ hs; exact ⟨by rw [hs id (by simp)]; exact h, rfl⟩

/-- A list of one's own. -/
def OwnL (n : Nat) (v : AVal) (vs : List AVal) : LP where
  p := fun G F => Own n G v vs ∧ F = (rowOf v).toList
  rows := by
    rintro G F ⟨h, rfl⟩ j hj
    rcases h with ⟨rfl, _⟩ | ⟨id, len, cap, cs, rfl, hg, _⟩
    · simp [rowOf] at hj
    · simp [rowOf] at hj; subst hj; simp [hg]
  loc := by
    rintro G G' F ⟨h, rfl⟩ hs
    refine ⟨?_, rfl⟩
    rcases h with h | ⟨id, len, cap, cs, rfl, hg, h⟩
    · exact .inl h
    · exact .inr ⟨id, len, cap, cs, rfl, by rw [hs id (by simp [rowOf])]; exact hg, h⟩

/-- A writer. -/
def WrL (id : AId) (bs : List UInt8) (f : Int) : LP where
  p := fun G F => WrP id bs f G F
  rows := fun h => h.rows
  loc := fun h hs => h.frame hs

theorem Kept.ch {s s' : AVal} {G G' : Heap} (h : Kept s G s' G') : Ch (rowOf s).toList G (rowOf s').toList G' :=
  ⟨h.ro, fun j o hj hn => h.others j o hj fun e => hn (by simp [e]), fun j hj => (h.row j (by simpa using hj)).imp (fun h => by simp [h]) id⟩

theorem Fresh.ch {G : Heap} {id : AId} {o : AObj} (hf : Fresh G id) : Ch [] G [] (G.upd id o) := (Ch.new hf).drop.less

/-! ### Arguments that are lists -/

def All2 {α : Type} (f : α → Nat → Prop) : List α → List Nat → Prop
  | [], [] => True
  | c :: cs, m :: ms => f c m ∧ All2 f cs ms
  | _, _ => False

theorem All2.take {α : Type} {f : α → Nat → Prop} : ∀ {cs : List α} {ms : List Nat} (k : Nat), All2 f cs ms → All2 f (cs.take k) (ms.take k)
  | [], [], k, _ => by simp [All2]
  | c :: cs, m :: ms, 0, _ => by simp [All2]
  | c :: cs, m :: ms, k + 1, h => ⟨h.1, h.2.take k⟩
theorem All2.get {α : Type} {f : α → Nat → Prop} : ∀ {cs : List α} {ms : List Nat} {i : Nat} {c : α}, All2 f cs ms → cs[i]? = some c → ∃ m, f c m ∧ m ≤ ms.sum
  | [], [], i, c, _, h => by simp at h
  | x :: cs, m :: ms, 0, c, h, e => by simp at e; subst e; exact ⟨m, h.1, by simp⟩
  | x :: cs, m :: ms, i + 1, c, h, e => by
    obtain ⟨m', h1, h2⟩ := h.2.get (by simpa using e)
    exact ⟨m', h1, by simp; omega⟩
theorem All2.mem {α : Type} {f : α → Nat → Prop} {cs : List α} {ms : List Nat} {c : α} (h : All2 f cs ms) (hc : c ∈ cs) : ∃ m, f c m ∧ m ≤ ms.sum := by
  obtain ⟨i, hi⟩ := List.getElem?_of_mem hc
  exact h.get hi
theorem All2.length {α : Type} {f : α → Nat → Prop} (h1 : ∀ c m, f c m → 1 ≤ m) : ∀ {cs : List α} {ms : List Nat}, All2 f cs ms → cs.length ≤ ms.sum
  | [], [], _ => by simp
  | c :: cs, m :: ms, h => by
    have := h.2.length h1
    have := h1 c m h.1
    simp; omega
theorem sum_take_le : ∀ (l : List Nat) (k : Nat), (l.take k).sum ≤ l.sum
  | [], k => by simp
  | x :: l, 0 => by simp
  | x :: l, k + 1 => by have := sum_take_le l k; simp; omega

theorem wts_all {α : Type} {f : AVal → Nat → Prop} {av : α → AVal} {Pr : α → Nat → Prop} (hel : ∀ c m, f c m → ∃ x, c = av x ∧ Pr x m) : ∀ {cs : List AVal} {ms : List Nat}, wts f cs ms → ∃ xs : List α, cs = xs.map av ∧ All2 Pr xs ms
  | [], [], _ => ⟨[], rfl, trivial⟩
  | c :: cs, m :: ms, h => by
    obtain ⟨x, rfl, h1⟩ := hel c m h.1
    obtain ⟨xs, rfl, h2⟩ := wts_all hel h.2
    exact ⟨x :: xs, rfl, h1, h2⟩

/-- An argument that is a list. -/
theorem wt_ro {α : Type} (av : α → AVal) (Pr : α → Nat → Prop) {T : Tbl} {G : Heap} {R d : Nat} {t e : TypeId} {i ie : TI} {v : AVal} {m : Nat} (ht : T t = some i) (hd : i.desc = .slice e) (he : T e = some ie)
    (hel : ∀ c m, wt T G R d e c m → ∃ x, c = av x ∧ Pr x m) (h : wt T G R (d + 1) t v m) :
    ∃ (xs : List α) (ms : List Nat), RoSl ie.size G v (xs.map av) ∧ All2 Pr xs ms ∧ ms.sum + 1 ≤ m ∧ xs.length * ie.bytes ≤ R ∧ xs.length ≤ maxLen := by
  rw [wt] at h
  simp only [ht, hd, he] at h
  rcases h with ⟨rfl, rfl⟩ | ⟨id, len, cap, cs, ms, rfl, hl, hm, hR, hg, hcl, hu, _, hw, rfl⟩
  · exact ⟨[], [], .inr ⟨rfl, rfl⟩, trivial, by simp, by simp, by simp⟩
  · obtain ⟨xs, rfl, h2⟩ := wts_all hel hw
    simp only [List.length_map] at hcl
    refine ⟨xs.take len, ms.take len, .inl ⟨id, [], 0, 0, len, cap, _, rfl, hl, hg, ?_⟩, h2.take _, ?_, ?_, ?_⟩
    · rw [List.map_take]
      exact (isSl_row hg rfl hu (by simp [hcl, hl])).elems
    · have := sum_take_le ms len
      omega
    · rw [List.length_take, Nat.min_eq_left (by omega)]
      exact Nat.le_trans (Nat.mul_le_mul_right _ hl) hR
    · rw [List.length_take, Nat.min_eq_left (by omega)]
      omega

/-- A hash among the arguments. -/
theorem wts_u8 {T : Tbl} {G : Heap} {R d : Nat} {t : TypeId} {i : TI} (ht : T t = some i) (hd : i.desc = .int .u8) : ∀ {cs : List AVal} {ms : List Nat}, wts (wt T G R (d + 1) t) cs ms → ∃ xs : List UInt8, cs = xs.map u8v ∧ ms.sum = xs.length
  | [], [], _ => ⟨[], rfl, rfl⟩
  | c :: cs, m :: ms, ⟨h1, h2⟩ => by
    obtain ⟨xs, rfl, h5⟩ := wts_u8 ht hd h2
    simp only [wt, ht, hd] at h1
    obtain ⟨n, rfl, hw, rfl⟩ := h1
    have := u8_wf.1 hw
    refine ⟨UInt8.ofNat n.toNat :: xs, ?_, by simp [h5]; omega⟩
    simp only [List.map_cons, u8v_ofNat]
    congr 2
    omega
theorem wt_hash {T : Tbl} {G : Heap} {R d : Nat} {t e : TypeId} {i ie : TI} {v : AVal} {m n : Nat} (ht : T t = some i) (hd : i.desc = .array n e) (he : T e = some ie) (hde : ie.desc = .int .u8) (h : wt T G R (d + 2) t v m) :
    ∃ xs : List UInt8, v = .agg (xs.map u8v) ∧ xs.length = n ∧ m = n + 1 := by
  rw [wt] at h
  simp only [ht, hd] at h
  obtain ⟨cs, ms, rfl, hl, hw, rfl⟩ := h
  obtain ⟨xs, rfl, h2⟩ := wts_u8 he hde hw
  simp only [List.length_map] at hl
  exact ⟨xs, rfl, hl, by omega⟩

/-- Fields, one behind the other. -/
theorem wfs_cons {f : TypeId → AVal → Nat → Prop} {g : TypeId × Nat} {fs : List (TypeId × Nat)} {cs : List AVal} {ms : List Nat} (h : wfs f (g :: fs) cs ms) :
    ∃ c cs' m ms', cs = c :: cs' ∧ ms = m :: ms' ∧ f g.1 c m ∧ wfs f fs cs' ms' := by
  cases cs <;> cases ms <;> first | exact h.elim | exact ⟨_, _, _, _, rfl, rfl, h.1, h.2⟩
theorem wfs_nil {f : TypeId → AVal → Nat → Prop} {cs : List AVal} {ms : List Nat} (h : wfs f [] cs ms) : cs = [] ∧ ms = [] := by
  cases cs <;> cases ms <;> first | exact h.elim | exact ⟨rfl, rfl⟩
theorem wt_struct {T : Tbl} {G : Heap} {R d : Nat} {t : TypeId} {i : TI} {fs : List (TypeId × Nat)} {v : AVal} {m : Nat} (ht : T t = some i) (hd : i.desc = .struct fs) (h : wt T G R (d + 1) t v m) :
    ∃ cs ms, v = .agg cs ∧ wfs (wt T G R d) fs cs ms ∧ m = ms.sum + 1 := by
  rw [wt] at h
  simpa only [ht, hd] using h

section
variable {T : Tbl} {t e : TypeId} {i ie : TI} (ht : T t = some i) (hd : i.desc = .slice e) (he : T e = some ie)

include ht hd he in
/-- A field of a list's element. -/
theorem IsSl.fld {fs : List (TypeId × Nat)} {f o : Nat} {tf : TypeId} {fi : TI} (hde : ie.desc = .struct fs) (hf : fs[f]? = some (tf, o)) (hft : T tf = some fi) (hz : fi.size ≠ 0)
    {G : Heap} {v : AVal} {vs cs : List AVal} (h : IsSl ie.size G v vs) {k : IntKind} {j : Nat} {c : AVal} (hj : vs[j]? = some (.agg cs)) (hs : szs (cs.take f) = o) (hc : cs[f]? = some c) (hfit : vfits fi c = true) :
    ∃ a b, viaddr T t v (.int k j) = some a ∧ vfaddr T e a f = some b ∧ vload T G tf b = some c := by
  rcases h with ⟨id, p, st, off, len, cap, rfl, h⟩ | ⟨rfl, rfl⟩
  · obtain ⟨ds, h1, h0, h2, h3, rfl, _⟩ := selems_spec h
    have hjl : j < len := by
      have := (List.getElem?_eq_some_iff.1 hj).1
      simp only [List.length_take, List.length_drop] at this
      omega
    have hcs : ds[st + j]? = some (.agg cs) := by
      rw [List.getElem?_take_of_lt hjl, List.getElem?_drop] at hj
      exact hj
    refine ⟨.ptr id (p ++ [st + j]) (off + j * ie.size), .ptr id (p ++ [st + j] ++ [f]) (off + j * ie.size + o), ?_, ?_, ?_⟩
    · simp only [viaddr, ht, hd, he]
      rw [if_pos ⟨by omega, by omega⟩]
      simp
    · simp only [vfaddr, he, hde, hf, hft]
      rw [if_neg hz]
    · have hlt : st + j < ds.length := (List.getElem?_eq_some_iff.1 hcs).1
      have hsz : szs (ds.take (st + j)) = (st + j) * ie.size := by
        rw [szs_uni (uni_take h2 _), List.length_take, Nat.min_eq_left (by omega)]
      have h4 := vsub_append h1 hsz hcs
      rw [show off - st * ie.size + (st + j) * ie.size = off + j * ie.size by rw [Nat.add_mul]; omega] at h4
      have h5 := vsub_append h4 hs hc
      simp only [vload, h5, hft]
      rw [if_pos hfit]
  · simp at hj

include ht hd he in
theorem RoSl.fld {fs : List (TypeId × Nat)} {f o : Nat} {tf : TypeId} {fi : TI} (hde : ie.desc = .struct fs) (hf : fs[f]? = some (tf, o)) (hft : T tf = some fi) (hz : fi.size ≠ 0)
    {G : Heap} {v : AVal} {vs cs : List AVal} (h : RoSl ie.size G v vs) {k : IntKind} {j : Nat} {c : AVal} (hj : vs[j]? = some (.agg cs)) (hs : szs (cs.take f) = o) (hc : cs[f]? = some c) (hfit : vfits fi c = true) :
    ∃ a b, viaddr T t v (.int k j) = some a ∧ vfaddr T e a f = some b ∧ ∀ G', RoLe G G' → vload T G' tf b = some c := by
  obtain ⟨a, b, h1, h2, _⟩ := h.is.fld (k := k) ht hd he hde hf hft hz hj hs hc hfit
  refine ⟨a, b, h1, h2, fun G' hle => ?_⟩
  obtain ⟨a', b', k1, k2, k3⟩ := (h.mono hle).is.fld (k := k) ht hd he hde hf hft hz hj hs hc hfit
  rw [h1] at k1
  injection k1 with k1; subst k1
  rw [h2] at k2
  injection k2 with k2; subst k2
  exact k3

end

/-! ### Hashes and texts compared -/

theorem eqA_u8 {T : Tbl} {e : TypeId} {ie : TI} (he : T e = some ie) (hde : ie.desc = .int .u8) (hz : ie.size = 1) (d : Nat) : ∀ (n : Nat) (a b : List UInt8), a.length = n → b.length = n →
    eqA ie (veqD T (d + 1) e) n (a.map u8v) (b.map u8v) = some (decide (a = b))
  | 0, [], [], _, _ => rfl
  | n + 1, x :: a, y :: b, ha, hb => by
    have ih := eqA_u8 he hde hz d n a b (by simpa using ha) (by simpa using hb)
    have hv : ∀ z : UInt8, vfits ie (u8v z) = true := fun z => by simp [vfits, u8v, sz, hz, AVal.isAgg, hde, ADesc.isAgg]
    have hq : veqD T (d + 1) e (u8v x) (u8v y) = some (decide (x = y)) := by
      have : ((x.toNat : Int) = (y.toNat : Int)) ↔ x = y := by
        rw [Int.natCast_inj, UInt8.toNat_inj]
      simp only [veqD, he, hde, u8v, if_true]
      simp only [this]
    simp only [List.map_cons, eqA, hv, Bool.and_self, if_true, hq]
    by_cases h : x = y
    · subst h
      simp [ih]
    · simp [h]

theorem veqD_arr {T : Tbl} {t e : TypeId} {i ie : TI} {n : Nat} {xs ys : List AVal} (ht : T t = some i) (hd : i.desc = .array n e) (he : T e = some ie) (d : Nat) : veqD T (d + 1) t (.agg xs) (.agg ys) = eqA ie (veqD T d e) n xs ys := by
  rw [veqD]
  simp only [ht, hd, he]

theorem vbin_heql {T : Tbl} {t e : TypeId} {i ie : TI} {n : Nat} {a b : List UInt8} (ht : T t = some i) (hd : i.desc = .array n e) (he : T e = some ie) (hde : ie.desc = .int .u8) (hz : ie.size = 1) (ha : a.length = n) (hb : b.length = n) :
    vbin T .eql t (.agg (a.map u8v)) (.agg (b.map u8v)) = some (.bool (decide (a = b))) := by
  simp only [vbin, veqD_arr ht hd he, eqA_u8 he hde hz 7 n a b ha hb]
theorem vbin_hneq {T : Tbl} {t e : TypeId} {i ie : TI} {n : Nat} {a b : List UInt8} (ht : T t = some i) (hd : i.desc = .array n e) (he : T e = some ie) (hde : ie.desc = .int .u8) (hz : ie.size = 1) (ha : a.length = n) (hb : b.length = n) :
    vbin T .neq t (.agg (a.map u8v)) (.agg (b.map u8v)) = some (.bool (!decide (a = b))) := by
  simp only [vbin, veqD_arr ht hd he, eqA_u8 he hde hz 7 n a b ha hb]

theorem RowL.own {F0 : List AId} {G0 G : Heap} {ps : List LP} {i : Nat} {id : AId} {t : AVal} (h : Sp F0 G0 ps G) (hi : ps[i]? = some (RowL id t)) : G id = some (.own t) := by
  obtain ⟨F, h, _⟩ := h.get hi
  exact h

/-- A new row of one's own. -/
theorem Sp.row {F0 : List AId} {G0 G : Heap} {ps : List LP} {id : AId} (h : Sp F0 G0 ps G) (hf : Fresh G id) (t : AVal) : Sp F0 G0 (RowL id t :: ps) (G.upd id (.own t)) :=
  h.new (p := RowL id t) ⟨Heap.upd_self _ _ _, rfl⟩ (Ch.new hf)

theorem and_mask (a : Int) (k : Nat) (hk : k ≤ 63) : IntKind.i64.wrap ((BitVec.ofInt IntKind.i64.bits a &&& BitVec.ofInt IntKind.i64.bits ((2 ^ k - 1 : Nat) : Int)).toNat : Nat) = a % ((2 ^ k : Nat) : Int) := by
  have hbits : IntKind.i64.bits = 64 := rfl
  have hp : 2 ^ k ≤ 2 ^ 63 := Nat.pow_le_pow_right (by omega) hk
  have hp0 : 0 < 2 ^ k := Nat.pow_pos (by omega)
  have h1 : (BitVec.ofInt IntKind.i64.bits a &&& BitVec.ofInt IntKind.i64.bits ((2 ^ k - 1 : Nat) : Int)).toNat = (a % ((2 ^ k : Nat) : Int)).toNat := by
    rw [BitVec.toNat_and, BitVec.ofInt_natCast, BitVec.toNat_ofNat, hbits, Nat.mod_eq_of_lt (a := 2 ^ k - 1) (by omega), Nat.and_two_pow_sub_one_eq_mod, BitVec.toNat_ofInt]
    have hd : ((2 ^ k : Nat) : Int) ∣ ((2 ^ 64 : Nat) : Int) := by
      refine Int.natCast_dvd_natCast.2 (Nat.pow_dvd_pow 2 (by omega))
    have h2 : (a % ((2 ^ 64 : Nat) : Int)) % ((2 ^ k : Nat) : Int) = a % ((2 ^ k : Nat) : Int) := Int.emod_emod_of_dvd a hd
    have h3 : 0 ≤ a % ((2 ^ 64 : Nat) : Int) := Int.emod_nonneg _ (by decide)
    have h4 : ((a % ((2 ^ 64 : Nat) : Int)).toNat : Int) = a % ((2 ^ 64 : Nat) : Int) := Int.toNat_of_nonneg h3
    have h5 : (((a % ((2 ^ 64 : Nat) : Int)).toNat % 2 ^ k : Nat) : Int) = a % ((2 ^ k : Nat) : Int) := by
      rw [Int.natCast_emod, h4, h2]
    omega
  rw [h1]
  have h6 : 0 ≤ a % ((2 ^ k : Nat) : Int) := Int.emod_nonneg _ (by omega)
  have h7 : a % ((2 ^ k : Nat) : Int) < ((2 ^ k : Nat) : Int) := Int.emod_lt_of_pos _ (by omega)
  rw [Int.toNat_of_nonneg h6]
  exact i64_in (by omega) (by omega)

end Go.Esc

/- Own work. Hashes: rows of 32 bytes; bytes in rows. -/
set_option linter.unusedSimpArgs false
set_option linter.unusedVariables false
set_option maxRecDepth 20000
namespace Go.Esc.M
open Go Go.Esc

section
variable {G : Heap}
theorem upd_ch {i : AId} {o o' : AObj} (h : G i = some o) (ho : ∀ t, o ≠ .ro t) : Ch [i] G [i] (G.upd i o') :=
  ⟨roLe_upd h ho, fun j x hj hn => by rw [Heap.upd_ne _ _ (fun e => hn (by simp [e]))]; exact hj, fun j hj => .inl hj⟩

/-- A place in the list of things gets another row. -/
theorem Sp.setRow {F0 : List AId} {G0 : Heap} {ps : List LP} {j : Nat} {i : AId} {t : AVal} (h : Sp F0 G0 ps G) (hj : ps[j]? = some (RowL i t)) (t' : AVal) : Sp F0 G0 (ps.set j (RowL i t')) (G.upd i (.own t')) := by
  refine h.call hj (RowL i t') fun F h k => ?_
  obtain ⟨h, rfl⟩ := h
  exact k _ _ ⟨Heap.upd_self _ _ _, rfl⟩ (upd_ch h (by simp))

end

theorem z_hash : z_api_Hash = .agg ((List.replicate 32 (0 : UInt8)).map u8v) := rfl

section
variable {G : Heap}

theorem arr_hash {i : AId} {hs : List UInt8} (hg : G i = some (.own (.agg (hs.map u8v)))) : arrAt G 1 i [] 0 0 = some (hs.map u8v) := by
  simp [arrAt, vsub, hg, treeOf, sub, uni_u8]

theorem vslice_hash {i : AId} : vslice T t_api_Hash (.ptr i [] 0) none none none = some (.slice i [] 0 0 32 32) := by
  have e1 : T t_api_Hash = some ti_api_Hash := T_api_Hash
  have e2 : ti_api_Hash.desc = .array 32 t_uint8 := rfl
  simp [vslice, e1, e2, T_uint8, sbounds, sbound]

theorem load_hash {i : AId} {hs : List UInt8} (hl : hs.length = 32) (hg : G i = some (.own (.agg (hs.map u8v)))) : vload T G t_api_Hash (.ptr i [] 0) = some (.agg (hs.map u8v)) := by
  have h1 : szs (hs.map u8v) = 32 := by rw [szs_uni (n := 1) (uni_u8 hs)]; simp [hl]
  simp [vload, vsub, hg, treeOf, sub, T_api_Hash, ti_api_Hash, vfits, sz, h1, AVal.isAgg, ADesc.isAgg]

theorem store_hash {i : AId} {hs hs' : List UInt8} (hl : hs.length = 32) (hl' : hs'.length = 32) (hg : G i = some (.own (.agg (hs.map u8v)))) : vstore T G t_api_Hash (.ptr i [] 0) (.agg (hs'.map u8v)) = some (G.upd i (.own (.agg (hs'.map u8v)))) := by
  have h1 : szs (hs.map u8v) = 32 := by rw [szs_uni (n := 1) (uni_u8 hs)]; simp [hl]
  have h2 : szs (hs'.map u8v) = 32 := by rw [szs_uni (n := 1) (uni_u8 hs')]; simp [hl']
  simp [vstore, hg, sub, T_api_Hash, ti_api_Hash, vfits, sz, h1, h2, AVal.isAgg, ADesc.isAgg, okv, okvs_u8, putAt]

theorem addr_hash {i : AId} {j : Nat} (h : j < 32) : viaddr T t_api_Hash (.ptr i [] 0) (.int .i64 j) = some (.ptr i [j] (j * 1)) := by
  have e1 : T t_api_Hash = some ti_api_Hash := T_api_Hash
  have e2 : ti_api_Hash.desc = .array 32 t_uint8 := rfl
  simp only [viaddr, e1, e2, T_uint8]
  rw [if_pos ⟨by omega, by omega⟩]
  simp [ti_uint8]

theorem store_byte {i : AId} {hs : List UInt8} {j : Nat} (hj : j < hs.length) {b : UInt8} (hg : G i = some (.own (.agg (hs.map u8v)))) : vstore T G t_uint8 (.ptr i [j] (j * 1)) (u8v b) = some (G.upd i (.own (.agg ((hs.set j b).map u8v)))) := by
  rw [vstore_fld (c := u8v b) (u := u8v hs[j]) hg (by rw [szs_uni (n := 1) (uni_take (uni_u8 hs) j)]; simp; omega) (by simp [hj]) T_uint8 rfl rfl rfl, ← List.map_set]

theorem load_byte {i : AId} {hs : List UInt8} {j : Nat} (hj : j < hs.length) (hg : G i = some (.own (.agg (hs.map u8v)))) : vload T G t_uint8 (.ptr i [j] (j * 1)) = some (u8v hs[j]) :=
  vload_fld hg rfl (by rw [szs_uni (n := 1) (uni_take (uni_u8 hs) j)]; simp; omega) (c := u8v hs[j]) (by simp [hj]) T_uint8 rfl


theorem conv_bytes {T : Tbl} {s d e : TypeId} {si di ie : TI} {v : AVal} {l : List UInt8} (hs : T s = some si) (hsd : si.desc = .slice e) (he : T e = some ie) (hed : ie.desc = .int .u8) (hd : T d = some di) (hdd : di.desc = .string)
    (h : IsSl 1 G v (l.map u8v)) : vconv T G s d v = some (.str l) := by
  rcases h with ⟨id, p, st, off, len, cap, rfl, h⟩ | ⟨rfl, hl⟩
  · simp [vconv, hs, hd, hdd, hsd, he, hed, h, bytesOf_u8]
  · have : l = [] := by simpa using hl
    subst this
    simp [vconv, hs, hd, hdd, hsd, he, hed]

theorem row_is {i : AId} {hs : List UInt8} {n : Nat} (hg : G i = some (.own (.agg (hs.map u8v)))) (hn : hs.length = n) : IsSl 1 G (.slice i [] 0 0 n n) (hs.map u8v) := by
  have := isSl_row (n := 1) (cap := n) (len := n) hg rfl (uni_u8 hs) (by simp [hn])
  rwa [List.take_of_length_le (by simp [hn])] at this

theorem copy_bytes {i : AId} {hs s : List UInt8} {n : Nat} {x : AVal} {K : AVal → Heap → Prop} (hse : selems G 1 x = some (s.map u8v)) (hg : G i = some (.own (.agg (hs.map u8v)))) (hs32 : hs.length = n) (hl : s.length ≤ n)
    (hK : ∀ G', G' i = some (.own (.agg ((s ++ hs.drop s.length).map u8v))) → Ch [i] G [i] G' → K (.int .i64 s.length) G') : aCopy T G t_sl_uint8 (.slice i [] 0 0 n n) x K := by
  have e1 : T t_sl_uint8 = some ti_sl_uint8 := T_sl_uint8
  have e2 : ti_sl_uint8.desc = .slice t_uint8 := rfl
  unfold aCopy
  simp only [e1, e2, T_uint8]
  rw [show ti_uint8.size = 1 from rfl, hse]
  simp only
  rw [List.take_of_length_le (by simpa using hl), List.length_map, Nat.min_eq_left hl]
  unfold lay
  cases s with
  | nil =>
    simp only [List.map_nil]
    exact hK G (by simpa using hg) (Ch.refl _ _)
  | cons b s =>
    simp only [List.map_cons]
    rw [show ti_uint8.size = 1 from rfl, arr_hash hg]
    simp only
    refine ⟨by simp at hl ⊢; omega, by simpa using okvs_u8 (b :: s), by simpa using uni_u8 (b :: s), ?_⟩
    have hp : ∀ cs', putArr G i [] 1 0 0 cs' = some (G.upd i (.own (.agg cs'))) := fun cs' => by simp [putArr, hg, sub, putAt]
    rw [hp]
    refine hK _ ?_ (upd_ch hg (by simp))
    rw [Heap.upd_self]
    simp

end
end Go.Esc.M

/- Own work. Arrays of anything in rows; structs and arrays built. -/
set_option linter.unusedSimpArgs false
set_option linter.unusedVariables false
set_option maxRecDepth 20000
namespace Go.Esc
open Go Go.RowKit

theorem wv_of {o : Option AVal} {v : AVal} {K : AVal → Prop} (h : o = some v) (k : K v) : wv o K := by rw [h]; exact k
theorem wg_of {o : Option Heap} {v : Heap} {K : Heap → Prop} (h : o = some v) (k : K v) : wg o K := by rw [h]; exact k

section
variable {T : Tbl} {t : TypeId} {ti : TI} {G : Heap} {i : AId} {c z : AVal}
theorem whole_load (ht : T t = some ti) (hg : G i = some (.own c)) (hf : vfits ti c = true) : vload T G t (.ptr i [] 0) = some c := by
  simp [vload, vsub, hg, treeOf, sub, ht, hf]
theorem whole_store (ht : T t = some ti) (hg : G i = some (.own z)) (hf : vfits ti c = true) (hs : sz z = sz c) (hok : okv c = true) : vstore T G t (.ptr i [] 0) c = some (G.upd i (.own c)) := by
  simp [vstore, hg, sub, ht, hf, hs, hok, putAt]

/-- A new variable with a value. -/
theorem newVal {F0 : List AId} {G0 : Heap} {ps : List LP} {K : AId → Heap → Prop} (hs : Sp F0 G0 ps G) (ht : T t = some ti) (hf : vfits ti c = true) (hz : sz z = sz c) (hok : okv c = true) (hK : ∀ i G', Sp F0 G0 (RowL i c :: ps) G' → K i G') :
    aNew G (.own z) fun i G2 => wg (vstore T G2 t (.ptr i [] 0) c) fun G3 => K i G3 := by
  intro i hfr
  have s := hs.row hfr z
  rw [whole_store ht (RowL.own (i := 0) s rfl) hf hz hok, wg_some]
  refine hK _ _ ?_
  refine s.call (i := 0) rfl (RowL i c) fun F h k => ?_
  obtain ⟨h, rfl⟩ := h
  exact k _ _ ⟨Heap.upd_self _ _ _, rfl⟩ ⟨roLe_upd h (by simp), fun j x hj hn => by rw [Heap.upd_ne _ _ (fun e => hn (by simp [e]))]; exact hj, fun j hj => .inl hj⟩
end

theorem IsSl.ch' {n : Nat} {G G' : Heap} {E : List AId} {v : AVal} {vs : List AVal} (h : IsSl n G v vs) (hc : Ch [] G E G') : IsSl n G' v vs := h.le fun j o hj => hc.others j o hj (by simp)

theorem nz0 {T : Tbl} {t : TypeId} {k : IntKind} {n : Int} : vbin T .neq t (.int k n) (.int k n) = some (.bool false) := by rw [vbin_neq, decide_eq_true rfl]; rfl
theorem ez0 {T : Tbl} {t : TypeId} {k : IntKind} {n : Int} : vbin T .eql t (.int k n) (.int k n) = some (.bool true) := by rw [vbin_eql, decide_eq_true rfl]

section
variable {T : Tbl} {ta te : TypeId} {ia ie : TI} {n : Nat} {G : Heap} {i : AId} {cs : List AVal}

theorem arrN_addr (hta : T ta = some ia) (hda : ia.desc = .array n te) (hte : T te = some ie) {p : List Nat} {o : Nat} {k : IntKind} {m : Int} {j : Nat} (hm : m = (j : Int)) (hj : j < n) :
    viaddr T ta (.ptr i p o) (.int k m) = some (.ptr i (p ++ [j]) (o + j * ie.size)) := by
  subst hm
  simp only [viaddr, hta, hda, hte]
  rw [if_pos ⟨by omega, by omega⟩]
  simp
theorem szs_takeN {s : Nat} (hu : uni s cs = true) {j : Nat} (hj : j ≤ cs.length) : szs (cs.take j) = j * s := by
  rw [szs_uni (uni_take hu j), List.length_take, Nat.min_eq_left hj]
theorem arrN_get (hte : T te = some ie) {s : Nat} {c : AVal} {j : Nat} (hg : G i = some (.own (.agg cs))) (hu : uni s cs = true) (hj : cs[j]? = some c) (hf : vfits ie c = true) : vload T G te (.ptr i [j] (0 + j * s)) = some c := by
  have hl := (List.getElem?_eq_some_iff.1 hj).1
  exact vload_fld hg rfl (by rw [szs_takeN hu (by omega), Nat.zero_add]) hj hte hf
theorem arrN_set (hte : T te = some ie) {s : Nat} {c u : AVal} {j : Nat} (hg : G i = some (.own (.agg cs))) (hu : uni s cs = true) (hj : cs[j]? = some u) (hf : vfits ie c = true) (hs : sz u = sz c) (hok : okv c = true) :
    vstore T G te (.ptr i [j] (0 + j * s)) c = some (G.upd i (.own (.agg (cs.set j c)))) := by
  have hl := (List.getElem?_eq_some_iff.1 hj).1
  exact vstore_fld hg (by rw [szs_takeN hu (by omega), Nat.zero_add]) hj hte hf hs hok
end

/-! ### Lists in one's own rows -/

section
variable {T : Tbl} {ts e tx : TypeId} {si ie xi : TI} (ht : T ts = some si) (hd : si.desc = .slice e) (he : T e = some ie) (hz : sz ie.zero = ie.size) (hb : ie.bytes ≠ 0 ∧ ie.bytes ≤ 1000000)
variable {F0 : List AId} {G0 G : Heap} {ps : List LP} {s : AVal} {vs : List AVal} {i : Nat} {K : AVal → Heap → Prop}

include ht hd he hz hb in
/-- A list in one's own row gets a value more. -/
theorem growV {c : AVal} (hs : Sp F0 G0 ps G) (hi : ps[i]? = some (OwnL ie.size s vs)) (hc : sz c = ie.size) (hok : okv c = true) (hie : ie.size ≤ 16777216) (hl : (vs.length + 1) * ie.bytes ≤ 220000000000000)
    (hK : ∀ s' G', Sp F0 G0 (ps.set i (OwnL ie.size s' (vs ++ [c]))) G' → K s' G') : aBuildSlice T ts 1 [(0, c)] G fun v G' => aAppend T G' ts ts s v K := by
  obtain ⟨F, ho, _⟩ := hs.get hi
  refine append1 ht hd he hz hb ho hc hok hie hl fun s' G2 ho2 hk => hK s' G2 ?_
  refine hs.call hi (OwnL ie.size s' (vs ++ [c])) fun F h k => ?_
  obtain ⟨_, rfl⟩ := h
  exact k _ _ ⟨ho2, rfl⟩ hk.ch

include ht hd he hz hb in
/-- A list in one's own row gets values more. -/
theorem growL {x : AVal} {xs : List AVal} (htx : T tx = some xi) (hdx : xi.desc = .string ∨ ∃ e', xi.desc = .slice e') (hs : Sp F0 G0 ps G) (hi : ps[i]? = some (OwnL ie.size s vs)) (hx : selems G ie.size x = some xs) (hu : uni ie.size xs = true) (hok : okvs xs = true)
    (hl : (vs.length + xs.length) * ie.bytes ≤ 220000000000000) (hK : ∀ s' G', Sp F0 G0 (ps.set i (OwnL ie.size s' (vs ++ xs))) G' → K s' G') : aAppend T G ts tx s x K := by
  obtain ⟨F, ho, _⟩ := hs.get hi
  refine own_append ht hd he hz hb htx hdx ho hx hu hok hl fun s' G2 ho2 hk => hK s' G2 ?_
  refine hs.call hi (OwnL ie.size s' (vs ++ xs)) fun F h k => ?_
  obtain ⟨_, rfl⟩ := h
  exact k _ _ ⟨ho2, rfl⟩ hk.ch

include ht hd he hz in
/-- A list of one value. -/
theorem buildV {c : AVal} (hs : Sp F0 G0 ps G) (hc : sz c = ie.size) (hie : ie.size ≤ 16777216) (hK : ∀ s' G', Sp F0 G0 (OwnL ie.size s' [c] :: ps) G' → K s' G') : aBuildSlice T ts 1 [(0, c)] G K := by
  unfold aBuildSlice
  have hf : fillA (fun k => some (k * ie.size, ie.size)) (List.replicate 1 ie.zero) [(0, c)] = some [c] := by simp [fillA, hz, hc, szs]
  simp only [ht, hd, he, hf]
  refine ⟨by omega, fun id hfr => hK _ _ (hs.new (p := OwnL ie.size _ [c]) ⟨.inr ⟨id, 1, 1, [c], rfl, Heap.upd_self _ _ _, rfl, Nat.le_refl _, by simp [Esc.uni, hc], rfl⟩, rfl⟩ ?_)⟩
  simpa [rowOf] using Ch.new hfr

end

theorem Sp.nilL {F0 : List AId} {G0 G : Heap} {ps : List LP} (hs : Sp F0 G0 ps G) (n : Nat) : Sp F0 G0 (OwnL n .nilSlice [] :: ps) G := hs.new (p := OwnL n .nilSlice []) ⟨.inl ⟨rfl, rfl⟩, rfl⟩ (Ch.refl _ _)
theorem OwnL.own {F0 : List AId} {G0 G : Heap} {ps : List LP} {i n : Nat} {v : AVal} {vs : List AVal} (h : Sp F0 G0 ps G) (hi : ps[i]? = some (OwnL n v vs)) : Own n G v vs := by
  obtain ⟨F, h, _⟩ := h.get hi
  exact h

/-! ### Structs and arrays built -/

def plOk (pl : Nat → Option (Nat × Nat)) (zs : List AVal) : Prop := ∀ k z, zs[k]? = some z → pl k = some (szs (zs.take k), sz z)

theorem szs_set {zs : List AVal} {k : Nat} {v z : AVal} (hz : zs[k]? = some z) (hs : sz v = sz z) : szs (zs.set k v) = szs zs := by
  obtain ⟨e1, e2⟩ := set_split zs k z v hz
  rw [e2]
  conv => rhs; rw [e1]
  rw [szs_append, szs_append, szs_cons, szs_cons, hs]

theorem plOk.set {pl : Nat → Option (Nat × Nat)} {zs : List AVal} (h : plOk pl zs) {k : Nat} {v z : AVal} (hz : zs[k]? = some z) (hs : sz v = sz z) : plOk pl (zs.set k v) := by
  intro j y hy
  have hk := (List.getElem?_eq_some_iff.1 hz).1
  have e : szs ((zs.set k v).take j) = szs (zs.take j) := by
    rw [List.take_set]
    by_cases hkj : k < j
    · exact szs_set (by rw [List.getElem?_take_of_lt hkj]; exact hz) hs
    · rw [List.set_eq_of_length_le (by rw [List.length_take]; omega)]
  rw [e]
  by_cases hjk : j = k
  · subst hjk
    rw [List.getElem?_set_self hk] at hy
    injection hy with hy
    subst hy
    rw [h _ z hz, hs]
  · rw [List.getElem?_set_ne (by omega)] at hy
    exact h _ _ hy

def setParts (zs : List AVal) (parts : List (Nat × AVal)) : List AVal := parts.foldl (fun z p => z.set p.1 p.2) zs

theorem fillA_ok {pl : Nat → Option (Nat × Nat)} : ∀ {parts : List (Nat × AVal)} {zs : List AVal}, plOk pl zs → (∀ p ∈ parts, zs[p.1]?.map sz = some (sz p.2)) → fillA pl zs parts = some (setParts zs parts)
  | [], zs, _, _ => rfl
  | (k, v) :: parts, zs, h, hp => by
    have h1 := hp (k, v) (by simp)
    cases hz : zs[k]? with
    | none => rw [hz] at h1; cases h1
    | some z =>
      rw [hz] at h1
      simp only [Option.map_some, Option.some.injEq] at h1
      simp only [fillA, h k z hz, hz, h1, beq_self_eq_true, Bool.and_self, if_true]
      refine fillA_ok (h.set hz h1.symm) fun p hpm => ?_
      rw [← hp p (by simp [hpm])]
      by_cases hpk : p.1 = k
      · rw [hpk, List.getElem?_set_self (List.getElem?_eq_some_iff.1 hz).1, hz]
        simp [h1]
      · rw [List.getElem?_set_ne (by omega)]

theorem plOk_of {pl : Nat → Option (Nat × Nat)} {zs : List AVal} (h : (List.range zs.length).all (fun k => pl k == zs[k]?.map fun z => (szs (zs.take k), sz z)) = true) : plOk pl zs := by
  intro k z hz
  have hk := (List.getElem?_eq_some_iff.1 hz).1
  have := List.all_eq_true.1 h k (List.mem_range.2 hk)
  rw [hz] at this
  simpa using this

theorem build_struct {T : Tbl} {t : TypeId} {i : TI} {fs : List (TypeId × Nat)} {zs : List AVal} {parts : List (Nat × AVal)} (ht : T t = some i) (hd : i.desc = .struct fs) (hz : i.zero = .agg zs) (ha : fs.all (fun g => (T g.1).isSome) = true) (hp : plOk (places T fs) zs)
    (hs : ∀ p ∈ parts, zs[p.1]?.map sz = some (sz p.2)) : vbuild T t parts = some (.agg (setParts zs parts)) := by
  unfold vbuild
  simp only [ht, hd, hz, ha, if_true, fillA_ok hp hs]

theorem build_array {T : Tbl} {t e : TypeId} {i ie : TI} {n : Nat} {zs : List AVal} {parts : List (Nat × AVal)} (ht : T t = some i) (hd : i.desc = .array n e) (he : T e = some ie) (hz : i.zero = .agg zs) (hu : uni ie.size zs = true)
    (hs : ∀ p ∈ parts, zs[p.1]?.map sz = some (sz p.2)) : vbuild T t parts = some (.agg (setParts zs parts)) := by
  unfold vbuild
  have hp : plOk (fun k => some (k * ie.size, ie.size)) zs := fun k z hk => by
    have hl := (List.getElem?_eq_some_iff.1 hk).1
    rw [szs_takeN hu (by omega)]
    simp only [uni, List.all_eq_true, beq_iff_eq] at hu
    rw [hu z (List.mem_of_getElem? hk)]
  simp only [ht, hd, he, hz, fillA_ok hp hs]

/-- A list built out of so many. -/
theorem buildL {T : Tbl} {F0 : List AId} {G0 G : Heap} {ps : List LP} {ts e : TypeId} {si ie : TI} {n : Nat} {parts : List (Nat × AVal)} {l : List AVal} {K : AVal → Heap → Prop} (ht : T ts = some si) (hd : si.desc = .slice e) (he : T e = some ie) (hz : sz ie.zero = ie.size)
    (hl : setParts (List.replicate n ie.zero) parts = l) (hu : uni ie.size l = true) (hn : l.length = n) (hs : ∀ p ∈ parts, p.1 < n ∧ sz p.2 = ie.size) (hb : n * ie.size ≤ 16777216) (sp : Sp F0 G0 ps G) (hK : ∀ v G', Sp F0 G0 (OwnL ie.size v l :: ps) G' → K v G') : aBuildSlice T ts n parts G K := by
  have hu0 : uni ie.size (List.replicate n ie.zero) = true := uni_replicate hz
  have hp : plOk (fun k => some (k * ie.size, ie.size)) (List.replicate n ie.zero) := fun k z hk => by
    have hl := (List.getElem?_eq_some_iff.1 hk).1
    rw [szs_takeN hu0 (by omega)]
    simp only [uni, List.all_eq_true, beq_iff_eq] at hu0
    rw [hu0 z (List.mem_of_getElem? hk)]
  have hf := fillA_ok (parts := parts) hp fun p hpm => by
    obtain ⟨h1, h2⟩ := hs p hpm
    rw [List.getElem?_replicate_of_lt h1, Option.map_some, hz, h2]
  unfold aBuildSlice
  simp only [ht, hd, he, hf]
  rw [hl]
  refine ⟨hb, fun id hfr => hK _ _ (sp.new (p := OwnL ie.size _ l) ⟨.inr ⟨id, n, n, l, rfl, Heap.upd_self _ _ _, hn, Nat.le_refl _, hu, by rw [← hn, List.take_length]⟩, rfl⟩ ?_)⟩
  simpa [rowOf] using Ch.new hfr

/-- make: a new list of zeros. -/
theorem mkOwn {T : Tbl} {F0 : List AId} {G0 G : Heap} {ps : List LP} {ts e : TypeId} {si ie : TI} (ht : T ts = some si) (hd : si.desc = .slice e) (he : T e = some ie) (hz : sz ie.zero = ie.size) {k k' : IntKind} {n : Nat} {x y : Int} (hx : x = (n : Int)) (hy : y = (n : Int))
    (hb : ie.bytes * n ≤ 281474976710656) (hn : n ≤ 9223372036854775807) (hs : Sp F0 G0 ps G) {K : AVal → Heap → Prop} (hK : ∀ v G', Sp F0 G0 (OwnL ie.size v (List.replicate n ie.zero) :: ps) G' → K v G') : aMakeSlice T ts (.int k x) (.int k' y) G K := by
  subst hx hy
  unfold aMakeSlice
  simp only [ht, hd, he]
  refine ⟨by omega, by omega, ?_, by omega, fun id hf => ?_⟩
  · have : ((ie.bytes * n : Nat) : Int) ≤ 281474976710656 := by omega
    rwa [Int.natCast_mul] at this
  · simp only [Int.toNat_natCast]
    refine hK _ _ (hs.new (p := OwnL ie.size _ _) ⟨.inr ⟨id, n, n, List.replicate n ie.zero, rfl, Heap.upd_self _ _ _, by simp, Nat.le_refl _, uni_replicate hz, ?_⟩, rfl⟩ ?_)
    · rw [List.take_of_length_le (by simp)]
    · simpa [rowOf] using Ch.new hf

end Go.Esc

/- Own work. Lists in one's own rows: the first of them, with spare room behind; written over by a copy; an element set. -/
set_option linter.unusedSimpArgs false
set_option linter.unusedVariables false
set_option maxRecDepth 20000
namespace Go.Esc
open Go Go.RowKit

theorem Own.capSl {n : Nat} {G : Heap} {v : AVal} {vs : List AVal} (h : Own n G v vs) : CapSl n G v vs := by
  have hs := h.is.elems
  rcases h with ⟨rfl, rfl⟩ | ⟨id, len, cap, cs, rfl, hg, hc, hl, hu, hv⟩
  · exact .inr ⟨rfl, rfl⟩
  · exact .inl ⟨_, _, _, _, _, _, rfl, by omega, hs⟩
theorem CapSl.nil {n : Nat} {G : Heap} : CapSl n G .nilSlice [] := .inr ⟨rfl, rfl⟩

/-- The first m of a list of so many. -/
def LentG (w v : AVal) (m len : Nat) : Prop := (v = .nilSlice ∧ w = .nilSlice ∧ m = 0 ∧ len = 0) ∨ ∃ id cap, v = .slice id [] 0 0 len cap ∧ w = .slice id [] 0 0 m cap ∧ m ≤ len ∧ len ≤ cap

theorem LentG.own {w v : AVal} {m len : Nat} (h : LentG w v m len) {n : Nat} {G : Heap} {vs : List AVal} (hl : vs.length = len) (ho : Own n G v vs) : Own n G w (vs.take m) := by
  rcases h with ⟨rfl, rfl, rfl, rfl⟩ | ⟨id, cap, rfl, rfl, hm, hc⟩
  · have : vs = [] := List.length_eq_zero_iff.1 hl
    subst this
    exact .inl ⟨rfl, rfl⟩
  · rcases ho with ⟨h, _⟩ | ⟨id', len', cap', cs', h1, hg', hc', hl', hu', he'⟩
    · cases h
    · injection h1 with i1 i2 i3 i4 i5 i6
      subst i1 i5 i6
      refine .inr ⟨id, m, cap, cs', rfl, hg', hc', by omega, hu', ?_⟩
      rw [he', List.take_take, Nat.min_eq_left hm]
theorem LentG.leaf {w v : AVal} {m len : Nat} (h : LentG w v m len) : sz w = 1 ∧ w.isAgg = false ∧ okv w = true := by
  rcases h with ⟨_, rfl, _, _⟩ | ⟨id, cap, _, rfl, _⟩ <;> exact ⟨rfl, rfl, rfl⟩
theorem LentG.cap {w v : AVal} {m len : Nat} (h : LentG w v m len) {n : Nat} {G : Heap} {vs : List AVal} (hl : vs.length = len) (ho : Own n G v vs) : CapSl n G w (vs.take m) := by
  rcases h with ⟨rfl, rfl, rfl, rfl⟩ | ⟨id, cap, rfl, rfl, hm, hc⟩
  · exact .inr ⟨rfl, by simp⟩
  · refine .inl ⟨id, [], 0, 0, m, cap, rfl, by omega, ?_⟩
    have := (LentG.own (.inr ⟨id, cap, rfl, rfl, hm, hc⟩ : LentG (.slice id [] 0 0 m cap) (.slice id [] 0 0 len cap) m len) hl ho).is.elems
    exact this

section
variable {T : Tbl} {t e : TypeId} {i ie : TI} (ht : T t = some i) (hd : i.desc = .slice e) (he : T e = some ie)

include ht hd he in
theorem LentG.mk {n : Nat} {G : Heap} {v : AVal} {vs : List AVal} (ho : Own n G v vs) {k : IntKind} {m : Nat} {x : Int} (hx : x = (m : Int)) (hm : m ≤ vs.length) : ∃ w, vslice T t v none (some (.int k x)) none = some w ∧ LentG w v m vs.length := by
  subst hx
  rcases ho with ⟨rfl, rfl⟩ | ⟨id, len, cap, cs, rfl, hg, hc, hl, hu, hv⟩
  · simp at hm
    subst hm
    exact ⟨.nilSlice, by simp [vslice, ht, hd, he, sbounds, sbound], .inl ⟨rfl, rfl, rfl, rfl⟩⟩
  · have hvl : vs.length = len := by rw [hv, List.length_take]; omega
    refine ⟨.slice id [] 0 0 m cap, ?_, .inr ⟨id, cap, by rw [hvl], rfl, hm, by omega⟩⟩
    simp only [vslice, ht, hd, he]
    rw [sbounds_high (by omega)]
    simp
include ht hd he in
theorem LentG.back {w v : AVal} {m len : Nat} (h : LentG w v m len) {k : IntKind} {x : Int} (hx : x = (len : Int)) : vslice T t w none (some (.int k x)) none = some v := by
  subst hx
  rcases h with ⟨rfl, rfl, rfl, rfl⟩ | ⟨id, cap, rfl, rfl, hm, hc⟩
  · simp [vslice, ht, hd, he, sbounds, sbound]
  · simp only [vslice, ht, hd, he]
    rw [sbounds_high (by omega)]
    simp

include ht hd he in
theorem CapSl.drop {G : Heap} {v : AVal} {vs : List AVal} (h : CapSl ie.size G v vs) {k : IntKind} {m : Nat} (hm : m ≤ vs.length) : ∃ v', vslice T t v (some (.int k m)) none none = some v' ∧ IsSl ie.size G v' (vs.drop m) := by
  rcases h with ⟨id, p, st, off, len, cap, rfl, hlc, h⟩ | ⟨rfl, rfl⟩
  · obtain ⟨cs, h1, h0, h2, h3, rfl, harr⟩ := selems_spec h
    have hl : ((cs.drop st).take len).length = len := by rw [List.length_take, List.length_drop]; omega
    rw [hl] at hm
    refine ⟨.slice id p (if cap = m then st else st + m) (if cap = m then off else off + m * ie.size) (len - m) (cap - m), ?_, ?_⟩
    · simp only [vslice, ht, hd, he]
      rw [sbounds_low hm hlc]
    · by_cases hcm : cap = m
      · have hlm : len = m := by omega
        refine .inl ⟨id, p, _, _, _, _, rfl, ?_⟩
        rw [if_pos hcm, if_pos hcm]
        simp only [selems, harr]
        rw [if_pos (by omega), hlm, Nat.sub_self, List.take_zero, List.drop_eq_nil_iff.2 (by simp; omega)]
      · refine .inl ⟨id, p, _, _, _, _, rfl, ?_⟩
        rw [if_neg hcm, if_neg hcm]
        have harr' : arrAt G ie.size id p (st + m) (off + m * ie.size) = some cs := by
          unfold arrAt at harr ⊢
          rw [show off + m * ie.size - (st + m) * ie.size = off - st * ie.size by rw [Nat.add_mul]; omega]
          rw [h1] at harr ⊢
          simp only at harr ⊢
          rw [if_pos]
          simp only [Bool.and_eq_true, decide_eq_true_eq]
          exact ⟨by rw [Nat.add_mul]; omega, h2⟩
        simp only [selems, harr']
        rw [if_pos (by omega), List.drop_take, List.drop_drop]
  · simp at hm
    subst hm
    exact ⟨.nilSlice, by simp [vslice, ht, hd, he, sbounds, sbound], .inr ⟨rfl, by simp⟩⟩

end

end Go.Esc

/- Own work. Chapter 2: words of 32 bits; arrays of them; the sum as a function on lists. -/
set_option linter.unusedSimpArgs false
set_option linter.unusedVariables false
set_option maxRecDepth 20000
namespace Go.Esc
open Go Go.RowKit

def add32 (a b : Nat) : Nat := (a + b) % 4294967296
def xor32 (a b : Nat) : Nat := (a ^^^ b) % 4294967296
def and32 (a b : Nat) : Nat := (a &&& b) % 4294967296
def or32 (a b : Nat) : Nat := (a ||| b) % 4294967296
def not32 (a : Nat) : Nat := 4294967295 - a % 4294967296
def shl32 (k a : Nat) : Nat := (2 ^ k * a) % 4294967296
def shr32 (k a : Nat) : Nat := a / 2 ^ k
/-- Turned right. -/
def rotr (k a : Nat) : Nat := or32 (shr32 k a) (shl32 (32 - k) a)

theorem or32_comm (a b : Nat) : or32 a b = or32 b a := by unfold or32; rw [Nat.or_comm]

section
variable {T : Tbl} {t : TypeId} {a b : Nat}

theorem bv_of (w a : Nat) : (BitVec.ofInt w (a : Int)).toNat = a % 2 ^ w := by rw [BitVec.ofInt_natCast, BitVec.toNat_ofNat]

theorem u32_add : vbin T .add t (.int .u32 (a : Int)) (.int .u32 (b : Int)) = some (.int .u32 ((add32 a b : Nat) : Int)) := by
  rw [vbin_add, wrapU32]
  congr 2
theorem u32_xor : vbin T .xor t (.int .u32 (a : Int)) (.int .u32 (b : Int)) = some (.int .u32 ((xor32 a b : Nat) : Int)) := by
  have hb : IntKind.u32.bits = 32 := rfl
  rw [vbin_xor, wrapU32, BitVec.toNat_xor, bv_of, bv_of, hb, ← Nat.xor_mod_two_pow]
  congr 2
  have : (a ^^^ b) % 2 ^ 32 = xor32 a b := rfl
  rw [this]
  have : xor32 a b < 4294967296 := Nat.mod_lt _ (by decide)
  omega
theorem u32_and : vbin T .and t (.int .u32 (a : Int)) (.int .u32 (b : Int)) = some (.int .u32 ((and32 a b : Nat) : Int)) := by
  have hb : IntKind.u32.bits = 32 := rfl
  rw [vbin_and, wrapU32, BitVec.toNat_and, bv_of, bv_of, hb, ← Nat.and_mod_two_pow]
  congr 2
  have : (a &&& b) % 2 ^ 32 = and32 a b := rfl
  rw [this]
  have : and32 a b < 4294967296 := Nat.mod_lt _ (by decide)
  omega
theorem u32_or : vbin T .or t (.int .u32 (a : Int)) (.int .u32 (b : Int)) = some (.int .u32 ((or32 a b : Nat) : Int)) := by
  have hb : IntKind.u32.bits = 32 := rfl
  rw [vbin_or, wrapU32, BitVec.toNat_or, bv_of, bv_of, hb, ← Nat.or_mod_two_pow]
  congr 2
  have : (a ||| b) % 2 ^ 32 = or32 a b := rfl
  rw [this]
  have : or32 a b < 4294967296 := Nat.mod_lt _ (by decide)
  omega
theorem u32_not : vun .xor (.int .u32 (a : Int)) = some (.int .u32 ((not32 a : Nat) : Int)) := by
  have h1 : (BitVec.ofInt 32 (4294967295 : Int) ^^^ BitVec.ofInt 32 (a : Int)).toNat = not32 a := by
    have h2 : BitVec.ofInt 32 (4294967295 : Int) = BitVec.allOnes 32 := by decide
    rw [h2, BitVec.allOnes_xor, BitVec.toNat_not, bv_of]
    rfl
  show some (AVal.int .u32 (IntKind.u32.wrap ((BitVec.ofInt 32 (4294967295 : Int) ^^^ BitVec.ofInt 32 (a : Int)).toNat : Nat))) = _
  rw [h1, wrapU32]
  have : not32 a < 4294967296 := by unfold not32; omega
  congr 2
  omega
theorem u32_shr {k : Nat} {n : Int} {kk : IntKind} (hn : n = (k : Int)) (hk : k ≤ 31) : vbin T .shr t (.int .u32 (a : Int)) (.int kk n) = some (.int .u32 ((shr32 k a : Nat) : Int)) := by
  subst hn
  rw [vbin_shr _ _ _ _ _ _ (by omega)]
  have h1 : min ((k : Int)).toNat IntKind.u32.bits = k := by
    have : IntKind.u32.bits = 32 := rfl
    omega
  have h2 : ((2 : Int) ^ k) = ((2 ^ k : Nat) : Int) := by simp
  rw [h1, h2, Int.fdiv_eq_ediv_of_nonneg _ (Int.natCast_nonneg _)]
  congr 2
theorem u32_shl {k : Nat} {n : Int} {kk : IntKind} (hn : n = (k : Int)) (hk : k ≤ 31) : vbin T .shl t (.int .u32 (a : Int)) (.int kk n) = some (.int .u32 ((shl32 k a : Nat) : Int)) := by
  subst hn
  rw [vbin_shl _ _ _ _ _ _ (by omega), wrapU32]
  have h1 : min ((k : Int)).toNat IntKind.u32.bits = k := by
    have : IntKind.u32.bits = 32 := rfl
    omega
  have h2 : ((2 : Int) ^ k) = ((2 ^ k : Nat) : Int) := by simp
  rw [h1, h2]
  congr 2
  unfold shl32
  rw [Int.mul_comm]
  simp

end

/-! ### Arrays of single cells -/

def u32s (ws : List Nat) : List AVal := ws.map fun (n : Nat) => .int .u32 (n : Int)
theorem uni_u32s (ws : List Nat) : uni 1 (u32s ws) = true := by simp [uni, u32s, sz]
theorem okvs_u32s : ∀ l : List Nat, okvs (u32s l) = true
  | [] => rfl
  | b :: l => by have := okvs_u32s l; simp only [u32s] at this; simp [u32s, okvs, okv, this]
theorem length_u32s (l : List Nat) : (u32s l).length = l.length := by simp [u32s]

section
variable {T : Tbl} {ta te : TypeId} {ia ie : TI} {n : Nat} {G : Heap} {i : AId} {cs : List AVal}

theorem arr_addr (hta : T ta = some ia) (hda : ia.desc = .array n te) (hte : T te = some ie) (hz : ie.size = 1) {k : IntKind} {m : Int} {j : Nat} (hm : m = (j : Int)) (hj : j < n) : viaddr T ta (.ptr i [] 0) (.int k m) = some (.ptr i [j] j) := by
  subst hm
  simp only [viaddr, hta, hda, hte]
  rw [if_pos ⟨by omega, by omega⟩]
  simp [hz]
theorem arr_get (hte : T te = some ie) {c : AVal} {j : Nat} (hg : G i = some (.own (.agg cs))) (hu : uni 1 cs = true) (hj : cs[j]? = some c) (hf : vfits ie c = true) : vload T G te (.ptr i [j] j) = some c := by
  have hl := (List.getElem?_eq_some_iff.1 hj).1
  exact vload_fld hg rfl (by rw [szs_uni (n := 1) (uni_take hu j)]; simp; omega) hj hte hf
theorem arr_set (hte : T te = some ie) {c u : AVal} {j : Nat} (hg : G i = some (.own (.agg cs))) (hu : uni 1 cs = true) (hj : cs[j]? = some u) (hf : vfits ie c = true) (hs : sz u = sz c) (hok : okv c = true) :
    vstore T G te (.ptr i [j] j) c = some (G.upd i (.own (.agg (cs.set j c)))) := by
  have hl := (List.getElem?_eq_some_iff.1 hj).1
  exact vstore_fld hg (by rw [szs_uni (n := 1) (uni_take hu j)]; simp; omega) hj hte hf hs hok
theorem arr_whole (hta : T ta = some ia) (hag : ia.desc.isAgg = true) (hn : ia.size = cs.length) (hg : G i = some (.own (.agg cs))) (hu : uni 1 cs = true) : vload T G ta (.ptr i [] 0) = some (.agg cs) := by
  have h1 : szs cs = cs.length := by rw [szs_uni hu, Nat.mul_one]
  simp [vload, vsub, hg, treeOf, sub, hta, vfits, sz, h1, hn, AVal.isAgg, hag]
theorem arr_put {cs' : List AVal} (hta : T ta = some ia) (hag : ia.desc.isAgg = true) (hn : ia.size = cs'.length) (hl : cs.length = cs'.length) (hg : G i = some (.own (.agg cs))) (hu : uni 1 cs = true) (hu' : uni 1 cs' = true) (hok : okvs cs' = true) :
    vstore T G ta (.ptr i [] 0) (.agg cs') = some (G.upd i (.own (.agg cs'))) := by
  have h1 : szs cs = cs.length := by rw [szs_uni hu, Nat.mul_one]
  have h2 : szs cs' = cs'.length := by rw [szs_uni hu', Nat.mul_one]
  simp [vstore, hg, sub, hta, vfits, sz, h1, h2, hn, hl, AVal.isAgg, hag, okv, hok, putAt]

end

/-! ### The sum -/

def sig0 (x : Nat) : Nat := xor32 (xor32 (rotr 7 x) (rotr 18 x)) (shr32 3 x)
def sig1 (y : Nat) : Nat := xor32 (xor32 (rotr 17 y) (rotr 19 y)) (shr32 10 y)
def nextW (ws : List Nat) : Nat :=
  add32 (add32 (add32 (ws.getD (ws.length - 16) 0) (sig0 (ws.getD (ws.length - 15) 0))) (ws.getD (ws.length - 7) 0)) (sig1 (ws.getD (ws.length - 2) 0))
def sched : Nat → List Nat → List Nat
  | 0, ws => ws
  | n + 1, ws => sched n (ws ++ [nextW ws])
/-- A word of a block. -/
def num32 : Nat → List UInt8 → Nat
  | v, [] => v
  | v, b :: l => num32 (v * 256 + b.toNat) l
def word (b : List UInt8) (i : Nat) : Nat := num32 0 ((b.drop (4 * i)).take 4)
def words (b : List UInt8) (n : Nat) : List Nat := (List.range n).map (word b)
def K256 : List Nat := [1116352408, 1899447441, 3049323471, 3921009573, 961987163, 1508970993, 2453635748, 2870763221, 3624381080, 310598401, 607225278, 1426881987, 1925078388, 2162078206, 2614888103, 3248222580, 3835390401, 4022224774, 264347078, 604807628, 770255983, 1249150122, 1555081692, 1996064986, 2554220882, 2821834349, 2952996808, 3210313671, 3336571891, 3584528711, 113926993, 338241895, 666307205, 773529912, 1294757372, 1396182291, 1695183700, 1986661051, 2177026350, 2456956037, 2730485921, 2820302411, 3259730800, 3345764771, 3516065817, 3600352804, 4094571909, 275423344, 430227734, 506948616, 659060556, 883997877, 958139571, 1322822218, 1537002063, 1747873779, 1955562222, 2024104815, 2227730452, 2361852424, 2428436474, 2756734187, 3204031479, 3329325298]
def H256 : List Nat := [1779033703, 3144134277, 1013904242, 2773480762, 1359893119, 2600822924, 528734635, 1541459225]

def rndU (k w e f g h : Nat) : Nat := add32 (add32 (add32 (add32 h (xor32 (xor32 (rotr 6 e) (rotr 11 e)) (rotr 25 e))) (xor32 (and32 e f) (and32 (not32 e) g))) k) w
def rndV (a b c : Nat) : Nat := add32 (xor32 (xor32 (rotr 2 a) (rotr 13 a)) (rotr 22 a)) (xor32 (xor32 (and32 a b) (and32 a c)) (and32 b c))
def rnd (k w : Nat) : List Nat → List Nat
  | [a, b, c, d, e, f, g, h] => [add32 (rndU k w e f g h) (rndV a b c), a, b, c, add32 d (rndU k w e f g h), e, f, g]
  | l => l
def rnds : List Nat → List Nat → List Nat → List Nat
  | k :: ks, w :: ws, r => rnds ks ws (rnd k w r)
  | _, _, r => r
def compress (h : List Nat) (b : List UInt8) : List Nat := List.zipWith add32 (rnds K256 (sched 48 (words b 16)) h) h
def chain : Nat → List Nat → List UInt8 → List Nat
  | 0, h, _ => h
  | n + 1, h, m => chain n (compress h (m.take 64)) (m.drop 64)
def bytesBE : Nat → Nat → List UInt8
  | 0, _ => []
  | k + 1, v => UInt8.ofNat (v / 2 ^ (8 * k)) :: bytesBE k v
def pad (s : List UInt8) : List UInt8 := s ++ 128 :: (List.replicate ((119 - s.length % 64) % 64) 0 ++ bytesBE 8 (8 * s.length))
def digest (h : List Nat) : List UInt8 := (List.range 32).map fun i => UInt8.ofNat (shr32 (24 - 8 * (i % 4)) (h.getD (i / 4) 0))
def sha (s : List UInt8) : List UInt8 := digest (chain ((pad s).length / 64) H256 (pad s))

end Go.Esc
