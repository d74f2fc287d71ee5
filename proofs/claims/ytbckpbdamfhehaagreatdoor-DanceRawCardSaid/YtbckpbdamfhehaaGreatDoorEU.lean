/- Own work. A law's arguments: that they read so. -/
import Derived.Test.YtbckpbdamfhehaaGreatDoorES
set_option linter.unusedSimpArgs false
set_option linter.unusedVariables false
set_option linter.unusedSectionVars false
namespace Go.Esc
open Go Go.RowKit

section
variable {H : Type} {enc : TypeId × Value → H} {P : Program} {T : Tbl} (hT : TblOk P T) {W : World} {R : Nat}

theorem cells_spec {base : Nat} {a : Addr} {n : Nat} {cs : List Value} (h : W.cells? base a n = some cs) : cs.length = n ∧ ∀ i, i < n → W.cell? (a.add i) = cs[i]? := by
  unfold World.cells? at h
  split at h
  · exact ⟨by simpa using mapM_some_length h, fun i hi => mapM_some_get h i i (by simp [hi])⟩
  · cases h

/-- What reads so: a tree, its cells, what it holds. -/
def Reads (P : Program) (T : Tbl) (W : World) (R : Nat) (ob : Option Nat) (d : Nat) (t : TypeId) (cs : List Value) {H : Type} (y : DataW H) (v : AVal) : Prop :=
  decT T ob d t cs = some v ∧ wt T (argHeap W T) R d t v (bulk y) ∧ flat v = cs ∧ okv v = true ∧ ∀ i, T t = some i → sz v = i.size ∧ v.isAgg = i.desc.isAgg

/-- What is known of the addresses: that they lie in memory, or that a block does. -/
def SpotOk (W : World) (ob : Option Nat) (cs : List Value) : Prop := match ob with
  | none => ∀ a len cap, Value.slice (some a) len cap ∈ cs → a.spot = none ∧ a.block < W.heap.size
  | some b => b < W.heap.size

theorem SpotOk.sub {ob : Option Nat} {cs cs' : List Value} (h : SpotOk W ob cs) (hs : ∀ x ∈ cs', x ∈ cs) : SpotOk W ob cs' := by
  cases ob with
  | none => exact fun a l c hm => h a l c (hs _ hm)
  | some b => exact h
theorem cells_in {a : Addr} {n : Nat} {cs : List Value} (h : W.cells? 0 a n = some cs) (hn : 0 < n) : a.spot = none ∧ a.block < W.heap.size := by
  obtain ⟨hl, hc⟩ := cells_spec h
  have h0 := hc 0 hn
  rw [show a.add 0 = a from if_pos rfl, List.getElem?_eq_getElem (by omega)] at h0
  unfold World.cell? at h0
  split at h0
  · rename_i c e fz hb
    split at h0
    · cases h0
    · rename_i hs
      refine ⟨?_, (Array.getElem?_eq_some_iff.1 hb).1⟩
      cases hsp : a.spot with
      | none => rfl
      | some s => rw [hsp] at hs; exact absurd rfl hs
  · cases h0

/-- A type's reading, for every cells and fuel. -/
def Opens (enc : TypeId × Value → H) (P : Program) (T : Tbl) (W : World) (R : Nat) (ob : Option Nat) (d : Nat) (t : TypeId) : Prop :=
  ∀ fuel cs x, DataW.trod enc P W 0 (fun _ => true) true fuel t cs = some x → (∀ n ∈ x.1.weights P t, n ≤ R) → SpotOk W ob cs → ∃ v, Reads P T W R ob d t cs x.1 v

include hT in
theorem opens_fields {d : Nat} {sl : Bool} {ob : Option Nat} (ih : ∀ t, sup T d sl t = true → Opens enc P T W R ob d t) {m n : Nat} {cs : List Value} (hn : cs.length = n) (hsp : SpotOk W ob cs) :
    ∀ (fs : List (TypeId × Nat)) (o : Nat) (xs : List (DataW H × List MemPlace)), inRow T fs o n = true → fs.all (fun g => sup T d sl g.1) = true → xs.length = fs.length →
    (∀ (i : Nat) (g : TypeId × Nat), fs[i]? = some g → DataW.trod enc P W 0 (fun _ => true) true m g.1 ((cs.drop g.2).take (P.cellsOf g.1)) = xs[i]?) →
    (∀ w ∈ DataW.weightsEach P (fs.map (·.1)) (xs.map (·.1)), w ≤ R) →
    ∃ l ms, decFs (decT T ob d) T cs fs = some l ∧ wfs (wt T (argHeap W T) R d) fs l ms ∧ ms.sum = bulkAll (xs.map (·.1)) ∧ flats l = cs.drop o ∧ szs l = n - o ∧ okvs l = true
  | [], o, xs, hrow, _, hl, _, _ => by
    have : xs = [] := List.eq_nil_of_length_eq_zero hl
    subst this
    have ho : o = n := Nat.eq_of_beq_eq_true hrow
    exact ⟨[], [], rfl, trivial, by simp [bulkAll], by simp [flats, ho, ← hn], by simp [szs, ho], rfl⟩
  | g :: fs, o, [], _, _, hl, _, _ => by simp at hl
  | g :: fs, o, x :: xs, hrow, hall, hl, hx, hw => by
    simp only [inRow] at hrow
    cases hg : T g.1 with
    | none => simp [hg] at hrow
    | some i =>
      simp only [hg, Bool.and_eq_true] at hrow
      have ho : g.2 = o := Nat.eq_of_beq_eq_true hrow.1
      simp only [List.all_cons, Bool.and_eq_true] at hall
      have hx0 := hx 0 g rfl
      simp only [List.getElem?_cons_zero, cellsOf_eq (hT _ _ hg)] at hx0
      simp only [List.map_cons, DataW.weightsEach, List.mem_append] at hw
      obtain ⟨v, r1, r2, r3, r4, r5⟩ := ih g.1 hall.1 m _ x hx0 (fun w h => hw w (.inl h)) (hsp.sub fun x h => List.mem_of_mem_drop (List.mem_of_mem_take h))
      obtain ⟨l, ms, s1, s2, s3, s4, s5, s6⟩ := opens_fields ih hn hsp fs (o + i.size) xs hrow.2 hall.2 (by simpa using hl) (fun j g' h => by
        have := hx (j + 1) g' (by simpa using h)
        simpa using this) (fun w h => hw w (.inr h))
      refine ⟨v :: l, bulk x.1 :: ms, ?_, ⟨r2, s2⟩, ?_, ?_, ?_, ?_⟩
      · simp only [decFs, hg, r1, s1]
      · simp [bulkAll, s3]
      · rw [flats_cons, r3, s4, ho, ← List.drop_drop, List.take_append_drop]
      · have hsz := (r5 i hg).1
        have h1 : (flat v).length = sz v := length_flat v
        rw [r3] at h1
        simp only [List.length_take, List.length_drop] at h1
        rw [szs_cons, s5]
        have : i.size ≤ n - o := by
          rw [hsz] at h1
          rw [← hn, ← ho]
          omega
        omega
      · simp [okvs, r4, s6]

include hT in
theorem opens_elems {d : Nat} {ob : Option Nat} {e : TypeId} {ie : TI} (he : T e = some ie) (ih : Opens enc P T W R ob d e) {m : Nat} {cs : List Value} (hsp : SpotOk W ob cs) :
    ∀ (n k : Nat) (xs : List (DataW H × List MemPlace)), cs.length = (k + n) * ie.size → xs.length = n →
    (∀ i, i < n → DataW.trod enc P W 0 (fun _ => true) true m e ((cs.drop ((k + i) * ie.size)).take ie.size) = xs[i]?) →
    (∀ w ∈ DataW.weightsAll P e (xs.map (·.1)), w ≤ R) →
    ∃ l ms, decEs (decT T ob d e) ie.size cs k n = some l ∧ l.length = n ∧ wts (wt T (argHeap W T) R d e) l ms ∧ ms.sum = bulkAll (xs.map (·.1)) ∧ flats l = cs.drop (k * ie.size) ∧ uni ie.size l = true ∧ okvs l = true
  | 0, k, xs, hlen, hl, _, _ => by
    have : xs = [] := List.eq_nil_of_length_eq_zero hl
    subst this
    exact ⟨[], [], rfl, rfl, trivial, by simp [bulkAll], by simp [flats, hlen], rfl, rfl⟩
  | n + 1, k, [], _, hl, _, _ => by simp at hl
  | n + 1, k, x :: xs, hlen, hl, hx, hw => by
    have hx0 := hx 0 (by omega)
    simp only [List.getElem?_cons_zero, Nat.add_zero] at hx0
    simp only [List.map_cons, DataW.weightsAll, List.mem_append] at hw
    obtain ⟨v, r1, r2, r3, r4, r5⟩ := ih m _ x hx0 (fun w h => hw w (.inl h)) (hsp.sub fun x h => List.mem_of_mem_drop (List.mem_of_mem_take h))
    obtain ⟨l, ms, s1, s0, s2, s3, s4, s5, s6⟩ := opens_elems he ih hsp n (k + 1) xs (by rw [hlen]; congr 1; omega) (by simpa using hl) (fun j h => by
      have := hx (j + 1) (by omega)
      simp only [List.getElem?_cons_succ] at this
      rw [← this, show k + 1 + j = k + (j + 1) by omega]) (fun w h => hw w (.inr h))
    refine ⟨v :: l, bulk x.1 :: ms, ?_, by simp [s0], ⟨r2, s2⟩, ?_, ?_, ?_, ?_⟩
    · simp only [decEs, r1, s1]
    · simp [bulkAll, s3]
    · rw [flats_cons, r3, s4, Nat.succ_mul, ← List.drop_drop, List.take_append_drop]
    · simp only [uni, List.all_cons, Bool.and_eq_true, beq_iff_eq]
      exact ⟨(r5 ie he).1, s5⟩
    · simp [okvs, r4, s6]

include hT in
theorem opens_rows {d : Nat} {e : TypeId} {ie : TI} {b : Nat} (he : T e = some ie) (ih : Opens enc P T W R (some b) d e) (hblk : b < W.heap.size) {m o : Nat} :
    ∀ (n k : Nat) (xs : List (DataW H × List MemPlace)), xs.length = n →
    (∀ i, i < n → (W.cells? 0 ⟨b, o + (k + i) * ie.size, none⟩ ie.size).bind (DataW.trod enc P W 0 (fun _ => true) true m e) = xs[i]?) →
    (∀ w ∈ DataW.weightsAll P e (xs.map (·.1)), w ≤ R) →
    ∃ l ms, rowEs W T d e ie.size b o k n = some l ∧ l.length = n ∧ wts (wt T (argHeap W T) R d e) l ms ∧ ms.sum = bulkAll (xs.map (·.1)) ∧ uni ie.size l = true ∧ okvs l = true ∧
      ∀ j u, (flats l)[j]? = some u → W.cell? ⟨b, o + k * ie.size + j, none⟩ = some u
  | 0, k, xs, hl, _, _ => by
    have : xs = [] := List.eq_nil_of_length_eq_zero hl
    subst this
    exact ⟨[], [], rfl, rfl, trivial, by simp [bulkAll], rfl, rfl, fun j u h => by simp [flats] at h⟩
  | n + 1, k, [], hl, _, _ => by simp at hl
  | n + 1, k, x :: xs, hl, hx, hw => by
    have hx0 := hx 0 (by omega)
    simp only [List.getElem?_cons_zero, Nat.add_zero] at hx0
    simp only [List.map_cons, DataW.weightsAll, List.mem_append] at hw
    obtain ⟨cs, hcs, hx1⟩ := Option.bind_eq_some_iff.1 hx0
    obtain ⟨v, r1, r2, r3, r4, r5⟩ := ih m _ x hx1 (fun w h => hw w (.inl h)) hblk
    obtain ⟨l, ms, s1, s0, s2, s3, s4, s5, s6⟩ := opens_rows he ih hblk n (k + 1) xs (by simpa using hl) (fun j h => by
      have := hx (j + 1) (by omega)
      simp only [List.getElem?_cons_succ] at this
      rw [← this, show k + 1 + j = k + (j + 1) by omega]) (fun w h => hw w (.inr h))
    obtain ⟨hlen, hcell⟩ := cells_spec hcs
    refine ⟨v :: l, bulk x.1 :: ms, ?_, by simp [s0], ⟨r2, s2⟩, ?_, ?_, ?_, ?_⟩
    · simp only [rowEs, hcs, Option.bind_some, r1, s1]
    · simp [bulkAll, s3]
    · simp only [uni, List.all_cons, Bool.and_eq_true, beq_iff_eq]
      exact ⟨(r5 ie he).1, s4⟩
    · simp [okvs, r4, s5]
    · intro j u hj
      rw [flats_cons, r3] at hj
      by_cases hlt : j < ie.size
      · rw [List.getElem?_append_left (by rw [hlen]; exact hlt), ← hcell j hlt] at hj
        rw [← hj, Addr.add_none]
      · rw [List.getElem?_append_right (by rw [hlen]; omega), hlen] at hj
        have := s6 _ _ hj
        rw [← this]
        congr 2
        rw [Nat.succ_mul]
        omega

theorem descOf_slice {D : TypeDesc} {e : TypeId} (h : descOf D = .slice e) : D = .slice e := by
  cases D <;> simp [descOf] at h
  rw [h]
theorem descOf_int {D : TypeDesc} {k : IntKind} (h : descOf D = .int k) : D = .int k := by
  cases D <;> simp [descOf] at h
  rw [h]
theorem descOf_bool {D : TypeDesc} (h : descOf D = .bool) : D = .bool := by
  cases D <;> simp [descOf] at h
  rfl
theorem descOf_string {D : TypeDesc} (h : descOf D = .string) : D = .string := by
  cases D <;> simp [descOf] at h
  rfl

include hT in
theorem opens : ∀ d sl ob t, sup T d sl t = true → Opens enc P T W R ob d t := by
  intro d
  induction d with
  | zero => intro sl ob t h; simp [sup] at h
  | succ d ih =>
    intro sl ob t hsup fuel cs x htrod hw hsp
    simp only [sup] at hsup
    cases ht : T t with
    | none => simp [ht] at hsup
    | some i =>
      simp only [ht] at hsup
      obtain ⟨D, hD, hdesc⟩ := (hT _ _ ht).und
      have hsz : ∀ v : AVal, sz v = i.size → v.isAgg = i.desc.isAgg → ∀ j, T t = some j → sz v = j.size ∧ v.isAgg = j.desc.isAgg := fun v a b j hj => by
        rw [ht] at hj; injection hj with hj; subst hj; exact ⟨a, b⟩
      cases hd : i.desc <;> simp only [hd] at hsup <;> try (cases hsup; done)
      case int k =>
        rw [hd] at hdesc
        rw [descOf_int hdesc] at hD
        obtain ⟨n, rfl, rfl, hwf⟩ := DataW.trod_int hD htrod
        refine ⟨.int k n, by simp [decT, ht, hd], by simp [wt, ht, hd, bulk, hwf], by simp [flat, cv, Value.cells], rfl, hsz _ ?_ (by rw [hd]; rfl)⟩
        simpa [sz] using (Nat.eq_of_beq_eq_true hsup).symm
      case bool =>
        rw [hd] at hdesc
        rw [descOf_bool hdesc] at hD
        obtain ⟨b, rfl, rfl⟩ := DataW.trod_bool hD htrod
        refine ⟨.bool b, by simp [decT, ht, hd], by simp [wt, ht, hd, bulk], by simp [flat, cv, Value.cells], rfl, hsz _ ?_ (by rw [hd]; rfl)⟩
        simpa [sz] using (Nat.eq_of_beq_eq_true hsup).symm
      case string =>
        rw [hd] at hdesc
        rw [descOf_string hdesc] at hD
        obtain ⟨s, rfl, rfl, hmax⟩ := DataW.trod_string hD htrod
        have hlen : s.data.toList.length ≤ maxLen := by rw [Array.length_toList]; exact hmax
        refine ⟨.str s.data.toList, by simp [decT, ht, hd], ?_, by simp [flat, cv, Value.cells], rfl, hsz _ ?_ (by rw [hd]; rfl)⟩
        · simp only [wt, ht, hd, bulk]
          exact ⟨_, rfl, hw _ (by simp [DataW.weights]), hlen, rfl⟩
        · simpa [sz] using (Nat.eq_of_beq_eq_true hsup).symm
      case slice e =>
        rw [hd] at hdesc
        rw [descOf_slice hdesc] at hD
        simp only [Bool.and_eq_true, Nat.blt_eq] at hsup
        obtain ⟨⟨⟨⟨hone, hd8⟩, heM⟩, hse⟩, hpos⟩ := hsup
        have hone' : 1 = i.size := (Nat.eq_of_beq_eq_true hone).symm
        have hie : ∃ ie, T e = some ie := by
          cases d with
          | zero => simp [sup] at hse
          | succ d =>
            simp only [sup] at hse
            cases hte : T e with
            | none => simp [hte] at hse
            | some ie => exact ⟨ie, rfl⟩
        obtain ⟨ie, hie⟩ := hie
        rw [hie] at hpos
        have hpos : 0 < ie.size := by simpa using hpos
        rcases DataW.trod_slice hD htrod with ⟨rfl, rfl⟩ | ⟨a, len, cap, elems, rest, n, _, rfl, rfl, _, hle, hmax, hel, hels, hrest, _⟩
        · exact ⟨.nilSlice, by simp [decT, ht, hd], by simp [wt, ht, hd, hie, bulk], by simp [flat, cv, Value.cells], rfl, hsz _ (by simpa [sz] using hone') (by rw [hd]; rfl)⟩
        · obtain ⟨hrl, hrest⟩ := hrest rfl
          by_cases hhol : ob.isSome = true ∧ cap = 0
          · obtain ⟨hb, rfl⟩ := hhol
            obtain ⟨b, rfl⟩ := Option.isSome_iff_exists.1 hb
            have hblk : b < W.heap.size := hsp
            have hl0 : len = 0 := by omega
            subst hl0
            have e1 : elems = [] := List.eq_nil_of_length_eq_zero hel
            have e2 : rest = [] := List.eq_nil_of_length_eq_zero (by simpa using hrl)
            subst e1
            subst e2
            have hro : argHeap W T ⟨b, 0, .h a⟩ = some (.ro (.agg [])) := by
              simp only [argHeap, roW]
              rw [if_pos hblk]
              rfl
            refine ⟨.slice ⟨b, 0, .h a⟩ [] 0 0 0 0, by simp [decT, ht, hd], ?_, ?_, rfl, hsz _ (by simpa [sz] using hone') (by rw [hd]; rfl)⟩
            · simp only [wt, ht, hd, hie]
              exact .inr ⟨_, 0, 0, [], [], rfl, Nat.le_refl _, Nat.zero_le _, by simp, hro, rfl, rfl, rfl, trivial, by simp [bulk, bulkAll]⟩
            · have ea : (⟨b, 0, .h a⟩ : AId).addr 0 = a := by
                show a.add 0 = a
                exact if_pos rfl
              simp [flat, cv, Value.cells, ea]
          have hsb : a.spot = none ∧ a.block < W.heap.size := by
            cases ob with
            | none => exact hsp a len cap (by simp)
            | some b =>
              have hc0 : 0 < cap := by
                have : ¬ cap = 0 := fun h => hhol ⟨rfl, h⟩
                omega
              rw [cellsOf_eq (hT _ _ hie)] at hels hrest
              by_cases hl : 0 < len
              · have h0 := hels 0 hl
                rw [Nat.zero_mul, List.getElem?_eq_getElem (by omega)] at h0
                obtain ⟨cs', hcs, _⟩ := Option.bind_eq_some_iff.1 h0
                rw [show a.add 0 = a from if_pos rfl] at hcs
                exact cells_in hcs hpos
              · have h0 := hrest 0 (by omega)
                rw [show len + 0 = 0 by omega, Nat.zero_mul, List.getElem?_eq_getElem (by rw [hrl]; omega)] at h0
                obtain ⟨cs', hcs, _⟩ := Option.bind_eq_some_iff.1 h0
                rw [show a.add 0 = a from if_pos rfl] at hcs
                exact cells_in hcs hpos
          obtain ⟨hspot, hblk⟩ := hsb
          have hdec : decT T ob (d + 1) t [.slice (some a) len cap] = some (.slice ⟨a.block, a.off, .n (winOf d e cap)⟩ [] 0 0 len cap) := by
            cases ob with
            | none => simp [decT, ht, hd]
            | some b => simp [decT, ht, hd, show ¬ cap = 0 from fun h => hhol ⟨rfl, h⟩]
          have hlen : (elems ++ rest).length = cap := by simp [hel, hrl]; omega
          have hall : ∀ i, i < cap → (W.cells? 0 ⟨a.block, a.off + (0 + i) * ie.size, none⟩ ie.size).bind (DataW.trod enc P W 0 (fun _ => true) true n e) = (elems ++ rest)[i]? := by
            intro i hi
            have hadd : ∀ k, a.add k = ⟨a.block, a.off + k, none⟩ := fun k => by
              obtain ⟨ab, ao, asp⟩ := a
              simp only at hspot
              subst hspot
              exact Addr.add_none ab ao k
            rw [cellsOf_eq (hT _ _ hie)] at hels hrest
            rw [Nat.zero_add, ← hadd]
            by_cases hil : i < len
            · rw [List.getElem?_append_left (by rw [hel]; exact hil)]
              exact hels i hil
            · rw [List.getElem?_append_right (by rw [hel]; omega), hel]
              have := hrest (i - len) (by omega)
              rw [show len + (i - len) = i by omega] at this
              exact this
          simp only [DataW.weights, hD, List.mem_cons, List.mem_append] at hw
          have hwall : ∀ (a b : List (DataW H)), DataW.weightsAll P e (a ++ b) = DataW.weightsAll P e a ++ DataW.weightsAll P e b := by
            intro a b
            induction a with
            | nil => rfl
            | cons x a ih => simp [DataW.weightsAll, ih]
          obtain ⟨l, ms, s1, s0, s2, s3, s4, s5, s6⟩ := opens_rows hT hie (ih false (some a.block) e hse) hblk cap 0 (elems ++ rest) hlen hall (fun w h => by
            rw [List.map_append, hwall, List.mem_append] at h
            exact hw w (.inr h))
          obtain ⟨m, hm, m1, m2, m3⟩ := winOf_dec (cap := cap) hd8 heM
          have hro : argHeap W T ⟨a.block, a.off, .n (winOf d e cap)⟩ = some (.ro (.agg l)) := by
            simp only [argHeap, roW, hm, m1, m2, m3, hie, s1]
            rw [if_pos ⟨hblk, fun j u h => by
              rw [flat_agg] at h
              have := s6 j u h
              simpa using this⟩]
            rfl
          refine ⟨.slice ⟨a.block, a.off, .n (winOf d e cap)⟩ [] 0 0 len cap, hdec, ?_, ?_, rfl, hsz _ (by simpa [sz] using hone') (by rw [hd]; rfl)⟩
          · simp only [wt, ht, hd, hie]
            refine .inr ⟨_, len, cap, l, ms, rfl, hle, hmax, ?_, hro, s0, s4, s5, s2, ?_⟩
            · have := hw _ (.inl rfl)
              simp only [List.length_map, bytesOf_eq (hT _ _ hie), hel, hrl] at this
              rw [show len + (cap - len) = cap by omega] at this
              exact this
            · rw [s3, List.map_append, bulkAll_append, bulk]
          · obtain ⟨ab, ao, asp⟩ := a
            simp only at hspot
            subst hspot
            simp [flat, cv, Value.cells, AId.addr_of (id := ⟨ab, ao, .n (winOf d e cap)⟩) rfl]
      case array n e =>
        rw [hd] at hdesc
        rw [desc_array hdesc] at hD
        cases hie : T e with
        | none => simp [hie] at hsup
        | some ie =>
          simp only [hie, Bool.and_eq_true] at hsup
          have hsize : i.size = n * ie.size := Nat.eq_of_beq_eq_true hsup.1
          obtain ⟨xs, m, _, rfl, hlen, hxl, hxs⟩ := trod_array hD htrod
          rw [cellsOf_eq (hT _ _ ht)] at hlen
          rw [cellsOf_eq (hT _ _ hie)] at hxs
          simp only [DataW.weights, hD] at hw
          obtain ⟨l, ms, s1, s0, s2, s3, s4, s5, s6⟩ := opens_elems hT hie (ih sl ob e hsup.2) hsp n 0 xs (by rw [hlen, hsize, Nat.zero_add]) hxl (fun j h => by rw [Nat.zero_add]; exact hxs j h) hw
          refine ⟨.agg l, by simp [decT, ht, hd, hie, s1], ?_, ?_, ?_, hsz _ ?_ (by rw [hd]; rfl)⟩
          · simp only [wt, ht, hd]
            exact ⟨l, ms, rfl, s0, s2, by rw [s3, bulk]⟩
          · rw [flat_agg, s4]; simp
          · simpa [okv] using s6
          · rw [sz_agg, szs_uni s5, s0, hsize]
      case struct fs =>
        rw [hd] at hdesc
        obtain ⟨f, rfl, hfs⟩ := desc_struct hdesc
        simp only [Bool.and_eq_true] at hsup
        obtain ⟨xs, m, _, rfl, hlen, hxl, hxs⟩ := DataW.trod_struct hD htrod
        rw [cellsOf_eq (hT _ _ ht)] at hlen
        simp only [DataW.weights, hD] at hw
        obtain ⟨l, ms, s1, s2, s3, s4, s5, s6⟩ := opens_fields hT (ih sl ob) hlen hsp fs 0 xs hsup.1 hsup.2 (by rw [hxl, hfs]; simp) (fun j g h => by
          rw [hfs] at h
          simp only [List.getElem?_map, Option.map_eq_some_iff] at h
          obtain ⟨g', hg', rfl⟩ := h
          exact hxs j g' (by simpa using hg')) (fun w h => by
          refine hw w ?_
          rw [hfs] at h
          simpa [List.map_map, Function.comp_def] using h)
        refine ⟨.agg l, by simp [decT, ht, hd, s1], ?_, ?_, ?_, hsz _ ?_ (by rw [hd]; rfl)⟩
        · simp only [wt, ht, hd]
          exact ⟨l, ms, rfl, s2, by rw [s3, bulk]⟩
        · rw [flat_agg, s4]; simp
        · simpa [okv] using s6
        · rw [sz_agg, s5]; simp

end
end Go.Esc
