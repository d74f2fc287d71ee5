import Derived.Test.YtooeiljhobdfpaaEX
import Derived.Test.YtooeiljhobdfpaaSS
import Derived.Test.YtooeiljhobdfpaaEZ
/- Own work. Chapter 8: amounts: what each function answers. -/
set_option linter.unusedSimpArgs false
set_option linter.unusedVariables false
namespace Go.Esc.M
open Go Go.Esc

/-- An amount: 0 to 2^60. -/
def right (a : Int) : Bool := decide (0 ≤ a ∧ a ≤ 1152921504606846976)

theorem amount_Right.use {a : Int} {G : Heap} {Q : AVal → Heap → Prop} (h : Q (.bool (right a)) G) : ACalls P amount_Right.n [.int .i64 a] G Q := by
  refine amount_Right.sound ?_
  simp only [amount_Right.S, vbin_geq, vbin_leq, wv_some, brB_dec]
  constructor
  · intro h0
    simpa [right, h0] using h
  · intro h0
    simpa [right, h0] using h

/-- A sum and its fault; a difference and its fault. -/
def plus (a b : Int) : Int × Int := if right a = true ∧ right b = true ∧ right (a + b) = true then (a + b, 0) else (0, 80)
def minus (a b : Int) : Int × Int := if right a = true ∧ right b = true ∧ b ≤ a then (a - b, 0) else (0, 80)

def pairV (p : Int × Int) : AVal := .tuple [.int .i64 p.1, .int .i64 p.2]

theorem right_spec {a : Int} : right a = true ↔ 0 ≤ a ∧ a ≤ 1152921504606846976 := by simp [right]

theorem plus_core {a b : Int} {Q : AVal → Prop} (h : Q (pairV (plus a b))) :
    brB (some (.bool (!right a))) (Q (.tuple [.int .i64 0, .int .i64 80])) (brB (some (.bool (!right b))) (Q (.tuple [.int .i64 0, .int .i64 80]))
      (brB (some (.bool (!right (IntKind.i64.wrap (a + b))))) (Q (.tuple [.int .i64 0, .int .i64 80])) (Q (.tuple [.int .i64 (IntKind.i64.wrap (a + b)), .int .i64 0])))) := by
  cases ha : right a with
  | false => simpa [plus, ha, pairV] using h
  | true =>
    cases hb : right b with
    | false => simpa [plus, ha, hb, pairV] using h
    | true =>
      have h1 := right_spec.1 ha
      have h2 := right_spec.1 hb
      rw [i64_in (by omega) (by omega)]
      cases hc : right (a + b) <;> simpa [plus, ha, hb, hc, pairV] using h

theorem minus_core {a b : Int} {Q : AVal → Prop} (h : Q (pairV (minus a b))) :
    brB (some (.bool (!right a))) (Q (.tuple [.int .i64 0, .int .i64 80])) (brB (some (.bool (!right b))) (Q (.tuple [.int .i64 0, .int .i64 80]))
      (brB (some (.bool (decide (a < b)))) (Q (.tuple [.int .i64 0, .int .i64 80])) (Q (.tuple [.int .i64 (IntKind.i64.wrap (a - b)), .int .i64 0])))) := by
  cases ha : right a with
  | false => simpa [minus, ha, pairV] using h
  | true =>
    cases hb : right b with
    | false => simpa [minus, ha, hb, pairV] using h
    | true =>
      have h1 := right_spec.1 ha
      have h2 := right_spec.1 hb
      rw [i64_in (by omega) (by omega)]
      by_cases hc : a < b
      · have : ¬ b ≤ a := by omega
        simpa [minus, ha, hb, hc, this, pairV] using h
      · have : b ≤ a := by omega
        simpa [minus, ha, hb, hc, this, pairV] using h

theorem amount_Plus.use {a b : Int} {G : Heap} {Q : AVal → Heap → Prop} (h : Q (pairV (plus a b)) G) : ACalls P amount_Plus.n [.int .i64 a, .int .i64 b] G Q := by
  refine amount_Plus.sound ?_
  unfold amount_Plus.S
  refine amount_Right.use ?_
  have key := plus_core (a := a) (b := b) (Q := fun v => Q v G) h
  cases ha : right a with
  | false => simpa [ha] using key
  | true =>
    simp only [vun_not, wv_some, Bool.not_true, brB_false]
    refine amount_Right.use ?_
    cases hb : right b with
    | false => simpa [ha, hb] using key
    | true =>
      simp only [vun_not, wv_some, Bool.not_true, brB_false, vbin_add]
      refine amount_Right.use ?_
      simpa [ha, hb] using key

/-- The sum of a list and its fault. -/
def sumFrom : Int → List Int → Int × Int
  | n, [] => (n, 0)
  | n, x :: xs => if (plus n x).2 = 0 then sumFrom (plus n x).1 xs else (0, (plus n x).2)

theorem pair0 (p : Int × Int) : vextract (pairV p) 0 = some (.int .i64 p.1) := rfl
theorem pair1 (p : Int × Int) : vextract (pairV p) 1 = some (.int .i64 p.2) := rfl

theorem amount_Sum.use {v : AVal} {xs : List Int} {G : Heap} {Q : AVal → Heap → Prop} (hv : IsSl 1 G v (xs.map (.int .i64))) (hm : xs.length ≤ 9223372036854775807) (h : Q (pairV (sumFrom 0 xs)) G) :
    ACalls P amount_Sum.n [v] G Q := by
  refine amount_Sum.sound ?_
  unfold amount_Sum.S
  rw [hv.len (i := ti_sl_int64) T_sl_int64 rfl, wv_some]
  intro R hR
  rw [List.length_map]
  have loop : ∀ (rest : List Int) (n : Int) (j : Nat), xs.drop j = rest → j ≤ xs.length → Q (pairV (sumFrom n rest)) G → R [.int .i64 n, v, .int .i64 xs.length, .int .i64 j] G := by
    intro rest
    induction rest with
    | nil =>
      intro n j hd hj hq
      have : ¬ ((j : Int) < xs.length) := by
        have := List.drop_eq_nil_iff.1 hd
        omega
      refine hR _ _ _ _ _ ?_
      simp only [vbin_lss, wv_some, brB_dec]
      exact ⟨fun h => absurd h this, fun _ => hq⟩
    | cons x rest ih =>
      intro n j hd hj hq
      have hjl : j < xs.length := by
        rcases Nat.lt_or_ge j xs.length with h | h
        · exact h
        · rw [List.drop_eq_nil_iff.2 h] at hd; cases hd
      have hx : xs[j]? = some x := by
        rw [← List.head?_drop, hd]; rfl
      obtain ⟨a, ha, hl⟩ := hv.at_ (k := .i64) (j := j) (c := .int .i64 x) (i := ti_sl_int64) (ie := ti_int64) (T := T) (t := t_sl_int64) (e := t_int64) T_sl_int64 rfl T_int64 (by simp [hx]) rfl
      refine hR _ _ _ _ _ ?_
      simp only [vbin_lss, wv_some, brB_dec, ha, hl]
      refine ⟨fun _ => amount_Plus.use ?_, fun h => absurd (by omega) h⟩
      simp only [pair0, pair1, wv_some, vbin_neq, brB_ndec, vbin_add]
      rw [i64_in (by omega) (by omega)]
      simp only [sumFrom] at hq
      constructor
      · intro h0
        rw [if_neg h0] at hq
        exact hq
      · intro h0
        rw [if_pos h0] at hq
        have := ih (plus n x).1 (j + 1) (by rw [← List.drop_drop, hd]; rfl) (by omega) hq
        simpa using this
  exact loop xs 0 0 rfl (by omega) h

end Go.Esc.M

/- Own work. Things in memory, side by side: a list of them; a call on one leaves the others alone. -/
set_option linter.unusedSimpArgs false
set_option linter.unusedVariables false
namespace Go.Esc
open Go Go.RowKit

/-- A thing in memory: what holds of its rows, and of no others. -/
structure LP where
  p : Heap → List AId → Prop
  rows : ∀ {G F}, p G F → ∀ j ∈ F, (G j).isSome = true
  loc : ∀ {G G' F}, p G F → (∀ j ∈ F, G' j = G j) → p G' F

def Sps : List LP → List (List AId) → Heap → Prop
  | [], [], _ => True
  | p :: ps, F :: Fs, G => p.p G F ∧ (∀ j ∈ F, j ∉ Fs.flatten) ∧ Sps ps Fs G
  | _, _, _ => False

theorem Sps.rows {ps : List LP} {Fs : List (List AId)} {G : Heap} (h : Sps ps Fs G) : ∀ j ∈ Fs.flatten, (G j).isSome = true := by
  induction ps generalizing Fs with
  | nil => cases Fs with
    | nil => simp
    | cons F Fs => exact h.elim
  | cons p ps ih => cases Fs with
    | nil => exact h.elim
    | cons F Fs =>
      obtain ⟨h1, h2, h3⟩ := h
      intro j hj
      simp only [List.flatten_cons, List.mem_append] at hj
      rcases hj with hj | hj
      · exact p.rows h1 j hj
      · exact ih h3 j hj

theorem Sps.same {ps : List LP} {Fs : List (List AId)} {G G' : Heap} (h : Sps ps Fs G) (hs : ∀ j ∈ Fs.flatten, G' j = G j) : Sps ps Fs G' := by
  induction ps generalizing Fs with
  | nil => cases Fs with
    | nil => trivial
    | cons F Fs => exact h.elim
  | cons p ps ih => cases Fs with
    | nil => exact h.elim
    | cons F Fs =>
      obtain ⟨h1, h2, h3⟩ := h
      exact ⟨p.loc h1 fun j hj => hs j (by simp [hj]), h2, ih h3 fun j hj => hs j (by simp only [List.flatten_cons, List.mem_append]; exact .inr hj)⟩

theorem Sps.step {ps : List LP} {Fs : List (List AId)} {G : Heap} (h : Sps ps Fs G) {i : Nat} {p : LP} (hi : ps[i]? = some p) :
    ∃ F, p.p G F ∧ (∀ j ∈ F, j ∈ Fs.flatten) ∧ ∀ p' F' G', LP.p p' G' F' → Ch F G F' G' → Sps (ps.set i p') (Fs.set i F') G' ∧ ∀ j ∈ (Fs.set i F').flatten, j ∈ F' ∨ j ∈ Fs.flatten := by
  induction ps generalizing Fs i with
  | nil => simp at hi
  | cons q ps ih => cases Fs with
    | nil => exact h.elim
    | cons E Fs =>
      obtain ⟨h1, h2, h3⟩ := h
      cases i with
      | zero =>
        simp only [List.getElem?_cons_zero, Option.some.injEq] at hi
        subst hi
        refine ⟨E, h1, fun j hj => by simp [hj], fun p' F' G' hp' hc => ⟨⟨hp', ?_, h3.same fun j hj => ?_⟩, fun j hj => ?_⟩⟩
        · intro j hj hm
          rcases hc.row j hj with h' | h'
          · exact h2 j h' hm
          · have := h3.rows j hm
            rw [h'] at this; cases this
        · exact hc.same (E := Fs.flatten) h3.rows (fun j hj he => h2 j he hj) j hj
        · simp only [List.set_cons_zero, List.flatten_cons, List.mem_append] at hj ⊢
          exact hj.imp id .inr
      | succ i =>
        simp only [List.getElem?_cons_succ] at hi
        obtain ⟨F, k1, k2, k3⟩ := ih h3 hi
        refine ⟨F, k1, fun j hj => by simp only [List.flatten_cons, List.mem_append]; exact .inr (k2 j hj), fun p' F' G' hp' hc => ?_⟩
        obtain ⟨m1, m2⟩ := k3 p' F' G' hp' hc
        have hEF : ∀ j ∈ E, j ∉ F := fun j hj hm => h2 j hj (k2 j hm)
        refine ⟨⟨q.loc h1 fun j hj => hc.same (E := E) (q.rows h1) hEF j hj, fun j hj hm => ?_, m1⟩, fun j hj => ?_⟩
        · rcases m2 j hm with h' | h'
          · exact hc.apart (E := E) (q.rows h1) hEF j hj h'
          · exact h2 j hj h'
        · simp only [List.set_cons_succ, List.flatten_cons, List.mem_append] at hj ⊢
          rcases hj with hj | hj
          · exact .inr (.inl hj)
          · exact (m2 j hj).imp id .inr

/-- Things side by side, and what has changed since. -/
def Sp (F0 : List AId) (G0 : Heap) (ps : List LP) (G : Heap) : Prop := ∃ Fs, Sps ps Fs G ∧ Ch F0 G0 Fs.flatten G

theorem Sp.nil (G : Heap) : Sp [] G [] G := ⟨[], trivial, Ch.refl _ _⟩
theorem Sp.one {p : LP} {F : List AId} {G : Heap} (h : p.p G F) : Sp F G [p] G := ⟨[F], ⟨h, by simp, trivial⟩, by simpa using Ch.refl _ _⟩

section
variable {F0 : List AId} {G0 G : Heap} {ps : List LP}

/-- A call on the thing in that place. -/
theorem Sp.call {p : LP} {i : Nat} (h : Sp F0 G0 ps G) (hi : ps[i]? = some p) (p' : LP) {X : Prop}
    (hc : ∀ F, p.p G F → (∀ F' G', p'.p G' F' → Ch F G F' G' → Sp F0 G0 (ps.set i p') G') → X) : X := by
  obtain ⟨Fs, h1, h2⟩ := h
  obtain ⟨F, k1, k2, k3⟩ := h1.step hi
  refine hc F k1 fun F' G' hp' hch => ?_
  obtain ⟨m1, m2⟩ := k3 p' F' G' hp' hch
  exact ⟨_, m1, h2.trans (hch.sub k2 m2)⟩

/-- A look at the thing in that place. -/
theorem Sp.get {p : LP} {i : Nat} (h : Sp F0 G0 ps G) (hi : ps[i]? = some p) : ∃ F, p.p G F := by
  obtain ⟨Fs, h1, h2⟩ := h
  obtain ⟨F, k1, _⟩ := h1.step hi
  exact ⟨F, k1⟩

/-- A call that leaves all of them alone. -/
theorem Sp.tmp {G' : Heap} {E : List AId} (h : Sp F0 G0 ps G) (hc : Ch [] G E G') : Sp F0 G0 ps G' := by
  obtain ⟨Fs, h1, h2⟩ := h
  exact ⟨Fs, h1.same fun j hj => hc.same (E := Fs.flatten) h1.rows (by simp) j hj, h2.trans hc.drop.grow⟩

/-- A new thing. -/
theorem Sp.new {p : LP} {F' : List AId} {G' : Heap} (h : Sp F0 G0 ps G) (hp : p.p G' F') (hc : Ch [] G F' G') : Sp F0 G0 (p :: ps) G' := by
  obtain ⟨Fs, h1, h2⟩ := h
  refine ⟨F' :: Fs, ⟨hp, fun j hj hm => ?_, h1.same fun j hj => hc.same (E := Fs.flatten) h1.rows (by simp) j hj⟩, h2.trans ?_⟩
  · rcases hc.row j hj with h' | h'
    · simp at h'
    · have := h1.rows j hm
      rw [h'] at this; cases this
  · have := hc.more (E := Fs.flatten)
    simpa using this

/-- What is in that place is looked at no more. -/
theorem Sps.erase {Fs : List (List AId)} (h : Sps ps Fs G) (i : Nat) : Sps (ps.eraseIdx i) (Fs.eraseIdx i) G := by
  induction ps generalizing Fs i with
  | nil => cases Fs with
    | nil => simpa using h
    | cons F Fs => exact h.elim
  | cons q ps ih => cases Fs with
    | nil => exact h.elim
    | cons E Fs =>
      obtain ⟨h1, h2, h3⟩ := h
      cases i with
      | zero => exact h3
      | succ i => exact ⟨h1, fun j hj hm => h2 j hj (by
          simp only [List.mem_flatten] at hm ⊢
          obtain ⟨l, hl, hj⟩ := hm
          exact ⟨l, List.mem_of_mem_eraseIdx hl, hj⟩), ih h3 i⟩

theorem Sp.erase (h : Sp F0 G0 ps G) (i : Nat) : Sp F0 G0 (ps.eraseIdx i) G := by
  obtain ⟨Fs, h1, h2⟩ := h
  refine ⟨_, h1.erase i, h2.ro, h2.others, fun j hj => h2.row j ?_⟩
  simp only [List.mem_flatten] at hj ⊢
  obtain ⟨l, hl, hj⟩ := hj
  exact ⟨l, List.mem_of_mem_eraseIdx hl, hj⟩

theorem Sp.ro (h : Sp F0 G0 ps G) : RoLe G0 G := h.elim fun _ h => h.2.ro
theorem Sp.ch (h : Sp [] G0 ps G) : Ch [] G0 [] G := h.elim fun _ h => h.2.drop
theorem Sp.out {p : LP} (h : Sp F0 G0 [p] G) : ∃ F, p.p G F ∧ Ch F0 G0 F G := by
  obtain ⟨Fs, h1, h2⟩ := h
  match Fs, h1 with
  | [F], h1 => exact ⟨F, h1.1, by simpa using h2⟩
theorem Sp.start {F : List AId} {G : Heap} {p : LP} (h : p.p G F) : Sp F G [p] G := Sp.one h
theorem Sp.rest (h : Sp F0 G0 ps G) : ∃ F, Ch F0 G0 F G := h.elim fun Fs h => ⟨_, h.2⟩

end

/-- One whole row. -/
def RowL (id : AId) (t : AVal) : LP where
  p := fun G F => G id = some (.own t) ∧ F = [id]
  rows := by rintro G F ⟨h, rfl⟩ j hj; simp at hj; subst hj; simp [h]
  loc := by rintro G G' F ⟨h, rfl⟩ hs; exact ⟨by rw [hs id (by simp)]; exact h, rfl⟩

/-- A list of one's own. -/
def OwnL (n : Nat) (v : AVal) (vs : List AVal) : LP where
  p := fun G F => Own n G v vs ∧ F = (rowOf v).toList
  rows := by
    rintro G F ⟨h, rfl⟩ j hj
    rcases h with ⟨rfl, _⟩ | ⟨id, len, cap, cs, rfl, hg, _⟩
    · simp [rowOf] at hj
    · simp [rowOf] at hj; subst hj; simp [hg]
  loc := by
    rintro G G' F ⟨h, rfl⟩ hs
    refine ⟨?_, rfl⟩
    rcases h with h | ⟨id, len, cap, cs, rfl, hg, h⟩
    · exact .inl h
    · exact .inr ⟨id, len, cap, cs, rfl, by rw [hs id (by simp [rowOf])]; exact hg, h⟩

/-- A writer. -/
def WrL (id : AId) (bs : List UInt8) (f : Int) : LP where
  p := fun G F => WrP id bs f G F
  rows := fun h => h.rows
  loc := fun h hs => h.frame hs

theorem Kept.ch {s s' : AVal} {G G' : Heap} (h : Kept s G s' G') : Ch (rowOf s).toList G (rowOf s').toList G' :=
  ⟨h.ro, fun j o hj hn => h.others j o hj fun e => hn (by simp [e]), fun j hj => (h.row j (by simpa using hj)).imp (fun h => by simp [h]) id⟩

theorem Fresh.ch {G : Heap} {id : AId} {o : AObj} (hf : Fresh G id) : Ch [] G [] (G.upd id o) := (Ch.new hf).drop.less

/-! ### Arguments that are lists -/

def All2 {α : Type} (f : α → Nat → Prop) : List α → List Nat → Prop
  | [], [] => True
  | c :: cs, m :: ms => f c m ∧ All2 f cs ms
  | _, _ => False

theorem All2.take {α : Type} {f : α → Nat → Prop} : ∀ {cs : List α} {ms : List Nat} (k : Nat), All2 f cs ms → All2 f (cs.take k) (ms.take k)
  | [], [], k, _ => by simp [All2]
  | c :: cs, m :: ms, 0, _ => by simp [All2]
  | c :: cs, m :: ms, k + 1, h => ⟨h.1, h.2.take k⟩
theorem All2.get {α : Type} {f : α → Nat → Prop} : ∀ {cs : List α} {ms : List Nat} {i : Nat} {c : α}, All2 f cs ms → cs[i]? = some c → ∃ m, f c m ∧ m ≤ ms.sum
  | [], [], i, c, _, h => by simp at h
  | x :: cs, m :: ms, 0, c, h, e => by simp at e; subst e; exact ⟨m, h.1, by simp⟩
  | x :: cs, m :: ms, i + 1, c, h, e => by
    obtain ⟨m', h1, h2⟩ := h.2.get (by simpa using e)
    exact ⟨m', h1, by simp; omega⟩
theorem All2.mem {α : Type} {f : α → Nat → Prop} {cs : List α} {ms : List Nat} {c : α} (h : All2 f cs ms) (hc : c ∈ cs) : ∃ m, f c m ∧ m ≤ ms.sum := by
  obtain ⟨i, hi⟩ := List.getElem?_of_mem hc
  exact h.get hi
theorem All2.length {α : Type} {f : α → Nat → Prop} (h1 : ∀ c m, f c m → 1 ≤ m) : ∀ {cs : List α} {ms : List Nat}, All2 f cs ms → cs.length ≤ ms.sum
  | [], [], _ => by simp
  | c :: cs, m :: ms, h => by
    have := h.2.length h1
    have := h1 c m h.1
    simp; omega
theorem sum_take_le : ∀ (l : List Nat) (k : Nat), (l.take k).sum ≤ l.sum
  | [], k => by simp
  | x :: l, 0 => by simp
  | x :: l, k + 1 => by have := sum_take_le l k; simp; omega

theorem wts_all {α : Type} {f : AVal → Nat → Prop} {av : α → AVal} {Pr : α → Nat → Prop} (hel : ∀ c m, f c m → ∃ x, c = av x ∧ Pr x m) : ∀ {cs : List AVal} {ms : List Nat}, wts f cs ms → ∃ xs : List α, cs = xs.map av ∧ All2 Pr xs ms
  | [], [], _ => ⟨[], rfl, trivial⟩
  | c :: cs, m :: ms, h => by
    obtain ⟨x, rfl, h1⟩ := hel c m h.1
    obtain ⟨xs, rfl, h2⟩ := wts_all hel h.2
    exact ⟨x :: xs, rfl, h1, h2⟩

/-- An argument that is a list. -/
theorem wt_ro {α : Type} (av : α → AVal) (Pr : α → Nat → Prop) {T : Tbl} {G : Heap} {R d : Nat} {t e : TypeId} {i ie : TI} {v : AVal} {m : Nat} (ht : T t = some i) (hd : i.desc = .slice e) (he : T e = some ie)
    (hel : ∀ c m, wt T G R d e c m → ∃ x, c = av x ∧ Pr x m) (h : wt T G R (d + 1) t v m) :
    ∃ (xs : List α) (ms : List Nat), RoSl ie.size G v (xs.map av) ∧ All2 Pr xs ms ∧ ms.sum + 1 ≤ m ∧ xs.length * ie.bytes ≤ R ∧ xs.length ≤ maxLen := by
  rw [wt] at h
  simp only [ht, hd, he] at h
  rcases h with ⟨rfl, rfl⟩ | ⟨id, len, cap, cs, ms, rfl, hl, hm, hR, hg, hcl, hu, _, hw, rfl⟩
  · exact ⟨[], [], .inr ⟨rfl, rfl⟩, trivial, by simp, by simp, by simp⟩
  · obtain ⟨xs, rfl, h2⟩ := wts_all hel hw
    simp only [List.length_map] at hcl
    refine ⟨xs.take len, ms.take len, .inl ⟨id, [], 0, 0, len, cap, _, rfl, hl, hg, ?_⟩, h2.take _, ?_, ?_, ?_⟩
    · rw [List.map_take]
      exact (isSl_row hg rfl hu (by simp [hcl, hl])).elems
    · have := sum_take_le ms len
      omega
    · rw [List.length_take, Nat.min_eq_left (by omega)]
      exact Nat.le_trans (Nat.mul_le_mul_right _ hl) hR
    · rw [List.length_take, Nat.min_eq_left (by omega)]
      omega

/-- A hash among the arguments. -/
theorem wts_u8 {T : Tbl} {G : Heap} {R d : Nat} {t : TypeId} {i : TI} (ht : T t = some i) (hd : i.desc = .int .u8) : ∀ {cs : List AVal} {ms : List Nat}, wts (wt T G R (d + 1) t) cs ms → ∃ xs : List UInt8, cs = xs.map u8v ∧ ms.sum = xs.length
  | [], [], _ => ⟨[], rfl, rfl⟩
  | c :: cs, m :: ms, ⟨h1, h2⟩ => by
    obtain ⟨xs, rfl, h5⟩ := wts_u8 ht hd h2
    simp only [wt, ht, hd] at h1
    obtain ⟨n, rfl, hw, rfl⟩ := h1
    have := u8_wf.1 hw
    refine ⟨UInt8.ofNat n.toNat :: xs, ?_, by simp [h5]; omega⟩
    simp only [List.map_cons, u8v_ofNat]
    congr 2
    omega
theorem wt_hash {T : Tbl} {G : Heap} {R d : Nat} {t e : TypeId} {i ie : TI} {v : AVal} {m n : Nat} (ht : T t = some i) (hd : i.desc = .array n e) (he : T e = some ie) (hde : ie.desc = .int .u8) (h : wt T G R (d + 2) t v m) :
    ∃ xs : List UInt8, v = .agg (xs.map u8v) ∧ xs.length = n ∧ m = n + 1 := by
  rw [wt] at h
  simp only [ht, hd] at h
  obtain ⟨cs, ms, rfl, hl, hw, rfl⟩ := h
  obtain ⟨xs, rfl, h2⟩ := wts_u8 he hde hw
  simp only [List.length_map] at hl
  exact ⟨xs, rfl, hl, by omega⟩

/-- Fields, one behind the other. -/
theorem wfs_cons {f : TypeId → AVal → Nat → Prop} {g : TypeId × Nat} {fs : List (TypeId × Nat)} {cs : List AVal} {ms : List Nat} (h : wfs f (g :: fs) cs ms) :
    ∃ c cs' m ms', cs = c :: cs' ∧ ms = m :: ms' ∧ f g.1 c m ∧ wfs f fs cs' ms' := by
  cases cs <;> cases ms <;> first | exact h.elim | exact ⟨_, _, _, _, rfl, rfl, h.1, h.2⟩
theorem wfs_nil {f : TypeId → AVal → Nat → Prop} {cs : List AVal} {ms : List Nat} (h : wfs f [] cs ms) : cs = [] ∧ ms = [] := by
  cases cs <;> cases ms <;> first | exact h.elim | exact ⟨rfl, rfl⟩
theorem wt_struct {T : Tbl} {G : Heap} {R d : Nat} {t : TypeId} {i : TI} {fs : List (TypeId × Nat)} {v : AVal} {m : Nat} (ht : T t = some i) (hd : i.desc = .struct fs) (h : wt T G R (d + 1) t v m) :
    ∃ cs ms, v = .agg cs ∧ wfs (wt T G R d) fs cs ms ∧ m = ms.sum + 1 := by
  rw [wt] at h
  simpa only [ht, hd] using h

section
variable {T : Tbl} {t e : TypeId} {i ie : TI} (ht : T t = some i) (hd : i.desc = .slice e) (he : T e = some ie)

include ht hd he in
/-- A field of a list's element. -/
theorem IsSl.fld {fs : List (TypeId × Nat)} {f o : Nat} {tf : TypeId} {fi : TI} (hde : ie.desc = .struct fs) (hf : fs[f]? = some (tf, o)) (hft : T tf = some fi) (hz : fi.size ≠ 0)
    {G : Heap} {v : AVal} {vs cs : List AVal} (h : IsSl ie.size G v vs) {k : IntKind} {j : Nat} {c : AVal} (hj : vs[j]? = some (.agg cs)) (hs : szs (cs.take f) = o) (hc : cs[f]? = some c) (hfit : vfits fi c = true) :
    ∃ a b, viaddr T t v (.int k j) = some a ∧ vfaddr T e a f = some b ∧ vload T G tf b = some c := by
  rcases h with ⟨id, p, st, off, len, cap, rfl, h⟩ | ⟨rfl, rfl⟩
  · obtain ⟨ds, h1, h0, h2, h3, rfl, _⟩ := selems_spec h
    have hjl : j < len := by
      have := (List.getElem?_eq_some_iff.1 hj).1
      simp only [List.length_take, List.length_drop] at this
      omega
    have hcs : ds[st + j]? = some (.agg cs) := by
      rw [List.getElem?_take_of_lt hjl, List.getElem?_drop] at hj
      exact hj
    refine ⟨.ptr id (p ++ [st + j]) (off + j * ie.size), .ptr id (p ++ [st + j] ++ [f]) (off + j * ie.size + o), ?_, ?_, ?_⟩
    · simp only [viaddr, ht, hd, he]
      rw [if_pos ⟨by omega, by omega⟩]
      simp
    · simp only [vfaddr, he, hde, hf, hft]
      rw [if_neg hz]
    · have hlt : st + j < ds.length := (List.getElem?_eq_some_iff.1 hcs).1
      have hsz : szs (ds.take (st + j)) = (st + j) * ie.size := by
        rw [szs_uni (uni_take h2 _), List.length_take, Nat.min_eq_left (by omega)]
      have h4 := vsub_append h1 hsz hcs
      rw [show off - st * ie.size + (st + j) * ie.size = off + j * ie.size by rw [Nat.add_mul]; omega] at h4
      have h5 := vsub_append h4 hs hc
      simp only [vload, h5, hft]
      rw [if_pos hfit]
  · simp at hj

include ht hd he in
theorem RoSl.fld {fs : List (TypeId × Nat)} {f o : Nat} {tf : TypeId} {fi : TI} (hde : ie.desc = .struct fs) (hf : fs[f]? = some (tf, o)) (hft : T tf = some fi) (hz : fi.size ≠ 0)
    {G : Heap} {v : AVal} {vs cs : List AVal} (h : RoSl ie.size G v vs) {k : IntKind} {j : Nat} {c : AVal} (hj : vs[j]? = some (.agg cs)) (hs : szs (cs.take f) = o) (hc : cs[f]? = some c) (hfit : vfits fi c = true) :
    ∃ a b, viaddr T t v (.int k j) = some a ∧ vfaddr T e a f = some b ∧ ∀ G', RoLe G G' → vload T G' tf b = some c := by
  obtain ⟨a, b, h1, h2, _⟩ := h.is.fld (k := k) ht hd he hde hf hft hz hj hs hc hfit
  refine ⟨a, b, h1, h2, fun G' hle => ?_⟩
  obtain ⟨a', b', k1, k2, k3⟩ := (h.mono hle).is.fld (k := k) ht hd he hde hf hft hz hj hs hc hfit
  rw [h1] at k1
  injection k1 with k1; subst k1
  rw [h2] at k2
  injection k2 with k2; subst k2
  exact k3

include ht hd he in
theorem RoSl.elem {G : Heap} {v : AVal} {vs : List AVal} (h : RoSl ie.size G v vs) {k : IntKind} {j : Nat} {c : AVal} (hj : vs[j]? = some c) (hc : c.isAgg = ie.desc.isAgg) :
    ∃ a, viaddr T t v (.int k j) = some a ∧ ∀ G', RoLe G G' → vload T G' e a = some c := by
  obtain ⟨a, h1, _⟩ := h.is.at_ (k := k) ht hd he hj hc
  refine ⟨a, h1, fun G' hle => ?_⟩
  obtain ⟨a', k1, k2⟩ := (h.mono hle).is.at_ (k := k) ht hd he hj hc
  rw [h1] at k1
  injection k1 with k1; subst k1
  exact k2

end

/-! ### Hashes and texts compared -/

theorem eqA_u8 {T : Tbl} {e : TypeId} {ie : TI} (he : T e = some ie) (hde : ie.desc = .int .u8) (hz : ie.size = 1) (d : Nat) : ∀ (n : Nat) (a b : List UInt8), a.length = n → b.length = n →
    eqA ie (veqD T (d + 1) e) n (a.map u8v) (b.map u8v) = some (decide (a = b))
  | 0, [], [], _, _ => rfl
  | n + 1, x :: a, y :: b, ha, hb => by
    have ih := eqA_u8 he hde hz d n a b (by simpa using ha) (by simpa using hb)
    have hv : ∀ z : UInt8, vfits ie (u8v z) = true := fun z => by simp [vfits, u8v, sz, hz, AVal.isAgg, hde, ADesc.isAgg]
    have hq : veqD T (d + 1) e (u8v x) (u8v y) = some (decide (x = y)) := by
      have : ((x.toNat : Int) = (y.toNat : Int)) ↔ x = y := by
        rw [Int.natCast_inj, UInt8.toNat_inj]
      simp only [veqD, he, hde, u8v, if_true]
      simp only [this]
    simp only [List.map_cons, eqA, hv, Bool.and_self, if_true, hq]
    by_cases h : x = y
    · subst h
      simp [ih]
    · simp [h]

theorem veqD_arr {T : Tbl} {t e : TypeId} {i ie : TI} {n : Nat} {xs ys : List AVal} (ht : T t = some i) (hd : i.desc = .array n e) (he : T e = some ie) (d : Nat) : veqD T (d + 1) t (.agg xs) (.agg ys) = eqA ie (veqD T d e) n xs ys := by
  rw [veqD]
  simp only [ht, hd, he]

theorem vbin_heql {T : Tbl} {t e : TypeId} {i ie : TI} {n : Nat} {a b : List UInt8} (ht : T t = some i) (hd : i.desc = .array n e) (he : T e = some ie) (hde : ie.desc = .int .u8) (hz : ie.size = 1) (ha : a.length = n) (hb : b.length = n) :
    vbin T .eql t (.agg (a.map u8v)) (.agg (b.map u8v)) = some (.bool (decide (a = b))) := by
  simp only [vbin, veqD_arr ht hd he, eqA_u8 he hde hz 7 n a b ha hb]
theorem vbin_hneq {T : Tbl} {t e : TypeId} {i ie : TI} {n : Nat} {a b : List UInt8} (ht : T t = some i) (hd : i.desc = .array n e) (he : T e = some ie) (hde : ie.desc = .int .u8) (hz : ie.size = 1) (ha : a.length = n) (hb : b.length = n) :
    vbin T .neq t (.agg (a.map u8v)) (.agg (b.map u8v)) = some (.bool (!decide (a = b))) := by
  simp only [vbin, veqD_arr ht hd he, eqA_u8 he hde hz 7 n a b ha hb]

theorem RowL.own {F0 : List AId} {G0 G : Heap} {ps : List LP} {i : Nat} {id : AId} {t : AVal} (h : Sp F0 G0 ps G) (hi : ps[i]? = some (RowL id t)) : G id = some (.own t) := by
  obtain ⟨F, h, _⟩ := h.get hi
  exact h

/-- A new row of one's own. -/
theorem Sp.row {F0 : List AId} {G0 G : Heap} {ps : List LP} {id : AId} (h : Sp F0 G0 ps G) (hf : Fresh G id) (t : AVal) : Sp F0 G0 (RowL id t :: ps) (G.upd id (.own t)) :=
  h.new (p := RowL id t) ⟨Heap.upd_self _ _ _, rfl⟩ (Ch.new hf)

theorem and_mask (a : Int) (k : Nat) (hk : k ≤ 63) : IntKind.i64.wrap ((BitVec.ofInt IntKind.i64.bits a &&& BitVec.ofInt IntKind.i64.bits ((2 ^ k - 1 : Nat) : Int)).toNat : Nat) = a % ((2 ^ k : Nat) : Int) := by
  have hbits : IntKind.i64.bits = 64 := rfl
  have hp : 2 ^ k ≤ 2 ^ 63 := Nat.pow_le_pow_right (by omega) hk
  have hp0 : 0 < 2 ^ k := Nat.pow_pos (by omega)
  have h1 : (BitVec.ofInt IntKind.i64.bits a &&& BitVec.ofInt IntKind.i64.bits ((2 ^ k - 1 : Nat) : Int)).toNat = (a % ((2 ^ k : Nat) : Int)).toNat := by
    rw [BitVec.toNat_and, BitVec.ofInt_natCast, BitVec.toNat_ofNat, hbits, Nat.mod_eq_of_lt (a := 2 ^ k - 1) (by omega), Nat.and_two_pow_sub_one_eq_mod, BitVec.toNat_ofInt]
    have hd : ((2 ^ k : Nat) : Int) ∣ ((2 ^ 64 : Nat) : Int) := by
      refine Int.natCast_dvd_natCast.2 (Nat.pow_dvd_pow 2 (by omega))
    have h2 : (a % ((2 ^ 64 : Nat) : Int)) % ((2 ^ k : Nat) : Int) = a % ((2 ^ k : Nat) : Int) := Int.emod_emod_of_dvd a hd
    have h3 : 0 ≤ a % ((2 ^ 64 : Nat) : Int) := Int.emod_nonneg _ (by decide)
    have h4 : ((a % ((2 ^ 64 : Nat) : Int)).toNat : Int) = a % ((2 ^ 64 : Nat) : Int) := Int.toNat_of_nonneg h3
    have h5 : (((a % ((2 ^ 64 : Nat) : Int)).toNat % 2 ^ k : Nat) : Int) = a % ((2 ^ k : Nat) : Int) := by
      rw [Int.natCast_emod, h4, h2]
    omega
  rw [h1]
  have h6 : 0 ≤ a % ((2 ^ k : Nat) : Int) := Int.emod_nonneg _ (by omega)
  have h7 : a % ((2 ^ k : Nat) : Int) < ((2 ^ k : Nat) : Int) := Int.emod_lt_of_pos _ (by omega)
  rw [Int.toNat_of_nonneg h6]
  exact i64_in (by omega) (by omega)

end Go.Esc

/- Own work. Hashes: rows of 32 bytes; bytes in rows. -/
set_option linter.unusedSimpArgs false
set_option linter.unusedVariables false
namespace Go.Esc.M
open Go Go.Esc

section
variable {G : Heap}
theorem upd_ch {i : AId} {o o' : AObj} (h : G i = some o) (ho : ∀ t, o ≠ .ro t) : Ch [i] G [i] (G.upd i o') :=
  ⟨roLe_upd h ho, fun j x hj hn => by rw [Heap.upd_ne _ _ (fun e => hn (by simp [e]))]; exact hj, fun j hj => .inl hj⟩

/-- A place in the list of things gets another row. -/
theorem Sp.setRow {F0 : List AId} {G0 : Heap} {ps : List LP} {j : Nat} {i : AId} {t : AVal} (h : Sp F0 G0 ps G) (hj : ps[j]? = some (RowL i t)) (t' : AVal) : Sp F0 G0 (ps.set j (RowL i t')) (G.upd i (.own t')) := by
  refine h.call hj (RowL i t') fun F h k => ?_
  obtain ⟨h, rfl⟩ := h
  exact k _ _ ⟨Heap.upd_self _ _ _, rfl⟩ (upd_ch h (by simp))

end

/-- Bytes filled up with zeros. -/
def fill (n : Nat) (s : List UInt8) : List UInt8 := s ++ List.replicate (n - s.length) 0
theorem length_fill {n : Nat} {s : List UInt8} (h : s.length ≤ n) : (fill n s).length = n := by simp [fill]; omega
theorem fill_full {n : Nat} {s : List UInt8} (h : s.length = n) : fill n s = s := by simp [fill, h]
theorem fill_nil (n : Nat) : fill n [] = List.replicate n 0 := by simp [fill]

theorem z_hash : z_api_Hash = .agg ((List.replicate 32 (0 : UInt8)).map u8v) := rfl

theorem putAt_nil (v u : AVal) : putAt [] v u = u := rfl

section
variable {G : Heap}

theorem arr_hash {i : AId} {hs : List UInt8} (hg : G i = some (.own (.agg (hs.map u8v)))) : arrAt G 1 i [] 0 0 = some (hs.map u8v) := by
  simp [arrAt, vsub, hg, treeOf, sub, uni_u8]

theorem vslice_hash {i : AId} : vslice T t_api_Hash (.ptr i [] 0) none none none = some (.slice i [] 0 0 32 32) := by
  have e1 : T t_api_Hash = some ti_api_Hash := T_api_Hash
  have e2 : ti_api_Hash.desc = .array 32 t_uint8 := rfl
  simp [vslice, e1, e2, T_uint8, sbounds, sbound]

theorem load_hash {i : AId} {hs : List UInt8} (hl : hs.length = 32) (hg : G i = some (.own (.agg (hs.map u8v)))) : vload T G t_api_Hash (.ptr i [] 0) = some (.agg (hs.map u8v)) := by
  have h1 : szs (hs.map u8v) = 32 := by rw [szs_uni (n := 1) (uni_u8 hs)]; simp [hl]
  simp [vload, vsub, hg, treeOf, sub, T_api_Hash, ti_api_Hash, vfits, sz, h1, AVal.isAgg, ADesc.isAgg]

theorem store_hash {i : AId} {hs hs' : List UInt8} (hl : hs.length = 32) (hl' : hs'.length = 32) (hg : G i = some (.own (.agg (hs.map u8v)))) : vstore T G t_api_Hash (.ptr i [] 0) (.agg (hs'.map u8v)) = some (G.upd i (.own (.agg (hs'.map u8v)))) := by
  have h1 : szs (hs.map u8v) = 32 := by rw [szs_uni (n := 1) (uni_u8 hs)]; simp [hl]
  have h2 : szs (hs'.map u8v) = 32 := by rw [szs_uni (n := 1) (uni_u8 hs')]; simp [hl']
  simp [vstore, hg, sub, T_api_Hash, ti_api_Hash, vfits, sz, h1, h2, AVal.isAgg, ADesc.isAgg, okv, okvs_u8, putAt]

theorem addr_hash {i : AId} {j : Nat} (h : j < 32) : viaddr T t_api_Hash (.ptr i [] 0) (.int .i64 j) = some (.ptr i [j] (j * 1)) := by
  have e1 : T t_api_Hash = some ti_api_Hash := T_api_Hash
  have e2 : ti_api_Hash.desc = .array 32 t_uint8 := rfl
  simp only [viaddr, e1, e2, T_uint8]
  rw [if_pos ⟨by omega, by omega⟩]
  simp [ti_uint8]

theorem store_byte {i : AId} {hs : List UInt8} {j : Nat} (hj : j < hs.length) {b : UInt8} (hg : G i = some (.own (.agg (hs.map u8v)))) : vstore T G t_uint8 (.ptr i [j] (j * 1)) (u8v b) = some (G.upd i (.own (.agg ((hs.set j b).map u8v)))) := by
  rw [vstore_fld (c := u8v b) (u := u8v hs[j]) hg (by rw [szs_uni (n := 1) (uni_take (uni_u8 hs) j)]; simp; omega) (by simp [hj]) T_uint8 rfl rfl rfl, ← List.map_set]

theorem load_byte {i : AId} {hs : List UInt8} {j : Nat} (hj : j < hs.length) (hg : G i = some (.own (.agg (hs.map u8v)))) : vload T G t_uint8 (.ptr i [j] (j * 1)) = some (u8v hs[j]) :=
  vload_fld hg rfl (by rw [szs_uni (n := 1) (uni_take (uni_u8 hs) j)]; simp; omega) (c := u8v hs[j]) (by simp [hj]) T_uint8 rfl


theorem conv_bytes {T : Tbl} {s d e : TypeId} {si di ie : TI} {v : AVal} {l : List UInt8} (hs : T s = some si) (hsd : si.desc = .slice e) (he : T e = some ie) (hed : ie.desc = .int .u8) (hd : T d = some di) (hdd : di.desc = .string)
    (h : IsSl 1 G v (l.map u8v)) : vconv T G s d v = some (.str l) := by
  rcases h with ⟨id, p, st, off, len, cap, rfl, h⟩ | ⟨rfl, hl⟩
  · simp [vconv, hs, hd, hdd, hsd, he, hed, h, bytesOf_u8]
  · have : l = [] := by simpa using hl
    subst this
    simp [vconv, hs, hd, hdd, hsd, he, hed]

theorem row_is {i : AId} {hs : List UInt8} {n : Nat} (hg : G i = some (.own (.agg (hs.map u8v)))) (hn : hs.length = n) : IsSl 1 G (.slice i [] 0 0 n n) (hs.map u8v) := by
  have := isSl_row (n := 1) (cap := n) (len := n) hg rfl (uni_u8 hs) (by simp [hn])
  rwa [List.take_of_length_le (by simp [hn])] at this

end
end Go.Esc.M
