/- Own work. Things in memory, side by side: a list of them; a call on one leaves the others alone. -/
import Derived.Test.YtdbkngfdaeminaaEZ
set_option linter.unusedSimpArgs false
set_option linter.unusedVariables false
set_option maxRecDepth 20000
namespace Go.Esc
open Go Go.RowKit

/-- A thing in memory: what holds of its rows, and of no others. -/
structure LP where
  p : Heap → List AId → Prop
  rows : ∀ {G F}, p G F → ∀ j ∈ F, (G j).isSome = true
  loc : ∀ {G G' F}, p G F → (∀ j ∈ F, G' j = G j) → p G' F

def Sps : List LP → List (List AId) → Heap → Prop
  | [], [], _ => True
  | p :: ps, F :: Fs, G => p.p G F ∧ (∀ j ∈ F, j ∉ Fs.flatten) ∧ Sps ps Fs G
  | _, _, _ => False

theorem Sps.rows {ps : List LP} {Fs : List (List AId)} {G : Heap} (h : Sps ps Fs G) : ∀ j ∈ Fs.flatten, (G j).isSome = true := by
  induction ps generalizing Fs with
  | nil => cases Fs with
    | nil => simp
    | cons F Fs => exact h.elim
  | cons p ps ih => cases Fs with
    | nil => exact h.elim
    | cons F Fs =>
      obtain ⟨h1, h2, h3⟩ := h
      intro j hj
      simp only [List.flatten_cons, List.mem_append] at hj
      rcases hj with hj | hj
      · exact p.rows h1 j hj
      · exact ih h3 j hj

theorem Sps.same {ps : List LP} {Fs : List (List AId)} {G G' : Heap} (h : Sps ps Fs G) (hs : ∀ j ∈ Fs.flatten, G' j = G j) : Sps ps Fs G' := by
  induction ps generalizing Fs with
  | nil => cases Fs with
    | nil => trivial
    | cons F Fs => exact h.elim
  | cons p ps ih => cases Fs with
    | nil => exact h.elim
    | cons F Fs =>
      obtain ⟨h1, h2, h3⟩ := h
      exact ⟨p.loc h1 fun j hj => hs j (by simp [hj]), h2, ih h3 fun j hj => hs j (by simp only [List.flatten_cons, List.mem_append]; exact .inr hj)⟩

theorem Sps.step {ps : List LP} {Fs : List (List AId)} {G : Heap} (h : Sps ps Fs G) {i : Nat} {p : LP} (hi : ps[i]? = some p) :
    ∃ F, p.p G F ∧ (∀ j ∈ F, j ∈ Fs.flatten) ∧ ∀ p' F' G', LP.p p' G' F' → Ch F G F' G' → Sps (ps.set i p') (Fs.set i F') G' ∧ ∀ j ∈ (Fs.set i F').flatten, j ∈ F' ∨ j ∈ Fs.flatten := by
  induction ps generalizing Fs i with
  | nil => simp at hi
  | cons q ps ih => cases Fs with
    | nil => exact h.elim
    | cons E Fs =>
      obtain ⟨h1, h2, h3⟩ := h
      cases i with
      | zero =>
        simp only [List.getElem?_cons_zero, Option.some.injEq] at hi
        subst hi
        refine ⟨E, h1, fun j hj => by simp [hj], fun p' F' G' hp' hc => ⟨⟨hp', ?_, h3.same fun j hj => ?_⟩, fun j hj => ?_⟩⟩
        · intro j hj hm
          rcases hc.row j hj with h' | h'
          · exact h2 j h' hm
          · have := h3.rows j hm
            rw [h'] at this; cases this
        · exact hc.same (E := Fs.flatten) h3.rows (fun j hj he => h2 j he hj) j hj
        · simp only [List.set_cons_zero, List.flatten_cons, List.mem_append] at hj ⊢
          exact hj.imp id .inr
      | succ i =>
        simp only [List.getElem?_cons_succ] at hi
        obtain ⟨F, k1, k2, k3⟩ := ih h3 hi
        refine ⟨F, k1, fun j hj => by simp only [List.flatten_cons, List.mem_append]; exact .inr (k2 j hj), fun p' F' G' hp' hc => ?_⟩
        obtain ⟨m1, m2⟩ := k3 p' F' G' hp' hc
        have hEF : ∀ j ∈ E, j ∉ F := fun j hj hm => h2 j hj (k2 j hm)
        refine ⟨⟨q.loc h1 fun j hj => hc.same (E := E) (q.rows h1) hEF j hj, fun j hj hm => ?_, m1⟩, fun j hj => ?_⟩
        · rcases m2 j hm with h' | h'
          · exact hc.apart (E := E) (q.rows h1) hEF j hj h'
          · exact h2 j hj h'
        · simp only [List.set_cons_succ, List.flatten_cons, List.mem_append] at hj ⊢
          rcases hj with hj | hj
          · exact .inr (.inl hj)
          · exact (m2 j hj).imp id .inr

/-- Things side by side, and what has changed since. -/
def Sp (F0 : List AId) (G0 : Heap) (ps : List LP) (G : Heap) : Prop := ∃ Fs, Sps ps Fs G ∧ Ch F0 G0 Fs.flatten G

theorem Sp.nil (G : Heap) : Sp [] G [] G := ⟨[], trivial, Ch.refl _ _⟩
theorem Sp.one {p : LP} {F : List AId} {G : Heap} (h : p.p G F) : Sp F G [p] G := ⟨[F], ⟨h, by simp, trivial⟩, by simpa using Ch.refl _ _⟩

section
variable {F0 : List AId} {G0 G : Heap} {ps : List LP}

/-- A call on the thing in that place. -/
theorem Sp.call {p : LP} {i : Nat} (h : Sp F0 G0 ps G) (hi : ps[i]? = some p) (p' : LP) {X : Prop}
    (hc : ∀ F, p.p G F → (∀ F' G', p'.p G' F' → Ch F G F' G' → Sp F0 G0 (ps.set i p') G') → X) : X := by
  obtain ⟨Fs, h1, h2⟩ := h
  obtain ⟨F, k1, k2, k3⟩ := h1.step hi
  refine hc F k1 fun F' G' hp' hch => ?_
  obtain ⟨m1, m2⟩ := k3 p' F' G' hp' hch
  exact ⟨_, m1, h2.trans (hch.sub k2 m2)⟩

/-- A look at the thing in that place. -/
theorem Sp.get {p : LP} {i : Nat} (h : Sp F0 G0 ps G) (hi : ps[i]? = some p) : ∃ F, p.p G F := by
  obtain ⟨Fs, h1, h2⟩ := h
  obtain ⟨F, k1, _⟩ := h1.step hi
  exact ⟨F, k1⟩

/-- A call that leaves all of them alone. -/
theorem Sp.tmp {G' : Heap} {E : List AId} (h : Sp F0 G0 ps G) (hc : Ch [] G E G') : Sp F0 G0 ps G' := by
  obtain ⟨Fs, h1, h2⟩ := h
  exact ⟨Fs, h1.same fun j hj => hc.same (E := Fs.flatten) h1.rows (by simp) j hj, h2.trans hc.drop.grow⟩

/-- A new thing. -/
theorem Sp.new {p : LP} {F' : List AId} {G' : Heap} (h : Sp F0 G0 ps G) (hp : p.p G' F') (hc : Ch [] G F' G') : Sp F0 G0 (p :: ps) G' := by
  obtain ⟨Fs, h1, h2⟩ := h
  refine ⟨F' :: Fs, ⟨hp, fun j hj hm => ?_, h1.same fun j hj => hc.same (E := Fs.flatten) h1.rows (by simp) j hj⟩, h2.trans ?_⟩
  · rcases hc.row j hj with h' | h'
    · simp at h'
    · have := h1.rows j hm
      rw [h'] at this; cases this
  · have := hc.more (E := Fs.flatten)
    simpa using this

/-- What is in that place is looked at no more. -/
theorem Sps.erase {Fs : List (List AId)} (h : Sps ps Fs G) (i : Nat) : Sps (ps.eraseIdx i) (Fs.eraseIdx i) G := by
  induction ps generalizing Fs i with
  | nil => cases Fs with
    | nil => simpa using h
    | cons F Fs => exact h.elim
  | cons q ps ih => cases Fs with
    | nil => exact h.elim
    | cons E Fs =>
      obtain ⟨h1, h2, h3⟩ := h
      cases i with
      | zero => exact h3
      | succ i => exact ⟨h1, fun j hj hm => h2 j hj (by
          simp only [List.mem_flatten] at hm ⊢
          obtain ⟨l, hl, hj⟩ := hm
          exact ⟨l, List.mem_of_mem_eraseIdx hl, hj⟩), ih h3 i⟩

theorem Sp.erase (h : Sp F0 G0 ps G) (i : Nat) : Sp F0 G0 (ps.eraseIdx i) G := by
  obtain ⟨Fs, h1, h2⟩ := h
  refine ⟨_, h1.erase i, h2.ro, h2.others, fun j hj => h2.row j ?_⟩
  simp only [List.mem_flatten] at hj ⊢
  obtain ⟨l, hl, hj⟩ := hj
  exact ⟨l, List.mem_of_mem_eraseIdx hl, hj⟩

theorem Sp.ro (h : Sp F0 G0 ps G) : RoLe G0 G := h.elim fun _ h => h.2.ro
theorem Sp.ch (h : Sp [] G0 ps G) : Ch [] G0 [] G := h.elim fun _ h => h.2.drop
theorem Sp.out {p : LP} (h : Sp F0 G0 [p] G) : ∃ F, p.p G F ∧ Ch F0 G0 F G := by
  obtain ⟨Fs, h1, h2⟩ := h
  match Fs, h1 with
  | [F], h1 => exact ⟨F, h1.1, by simpa using h2⟩
theorem Sp.rest (h : Sp F0 G0 ps G) : ∃ F, Ch F0 G0 F G := h.elim fun Fs h => ⟨_, h.2⟩

end

/-- One whole row. -/
def RowL (id : AId) (t : AVal) : LP where
  p := fun G F => G id = some (.own t) ∧ F = [id]
  rows := by rintro G F ⟨h, rfl⟩ j hj; simp at hj; subst hj; simp [h]
  loc := by rintro G G' F ⟨h, rfl⟩ hs; exact ⟨by rw [hs id (by simp)]; exact h, rfl⟩

/-- A list of one's own. -/
def OwnL (n : Nat) (v : AVal) (vs : List AVal) : LP where
  p := fun G F => Own n G v vs ∧ F = (rowOf v).toList
  rows := by
    rintro G F ⟨h, rfl⟩ j hj
    rcases h with ⟨rfl, _⟩ | ⟨id, len, cap, cs, rfl, hg, _⟩
    · simp [rowOf] at hj
    · simp [rowOf] at hj; subst hj; simp [hg]
  loc := by
    rintro G G' F ⟨h, rfl⟩ hs
    refine ⟨?_, rfl⟩
    rcases h with h | ⟨id, len, cap, cs, rfl, hg, h⟩
    · exact .inl h
    · exact .inr ⟨id, len, cap, cs, rfl, by rw [hs id (by simp [rowOf])]; exact hg, h⟩

/-- A writer. -/
def WrL (id : AId) (bs : List UInt8) (f : Int) : LP where
  p := fun G F => WrP id bs f G F
  rows := fun h => h.rows
  loc := fun h hs => h.frame hs

theorem Kept.ch {s s' : AVal} {G G' : Heap} (h : Kept s G s' G') : Ch (rowOf s).toList G (rowOf s').toList G' :=
  ⟨h.ro, fun j o hj hn => h.others j o hj fun e => hn (by simp [e]), fun j hj => (h.row j (by simpa using hj)).imp (fun h => by simp [h]) id⟩

theorem Fresh.ch {G : Heap} {id : AId} {o : AObj} (hf : Fresh G id) : Ch [] G [] (G.upd id o) := (Ch.new hf).drop.less

/-! ### Arguments that are lists -/

def All2 {α : Type} (f : α → Nat → Prop) : List α → List Nat → Prop
  | [], [] => True
  | c :: cs, m :: ms => f c m ∧ All2 f cs ms
  | _, _ => False

theorem All2.take {α : Type} {f : α → Nat → Prop} : ∀ {cs : List α} {ms : List Nat} (k : Nat), All2 f cs ms → All2 f (cs.take k) (ms.take k)
  | [], [], k, _ => by simp [All2]
  | c :: cs, m :: ms, 0, _ => by simp [All2]
  | c :: cs, m :: ms, k + 1, h => ⟨h.1, h.2.take k⟩
theorem All2.get {α : Type} {f : α → Nat → Prop} : ∀ {cs : List α} {ms : List Nat} {i : Nat} {c : α}, All2 f cs ms → cs[i]? = some c → ∃ m, f c m ∧ m ≤ ms.sum
  | [], [], i, c, _, h => by simp at h
  | x :: cs, m :: ms, 0, c, h, e => by simp at e; subst e; exact ⟨m, h.1, by simp⟩
  | x :: cs, m :: ms, i + 1, c, h, e => by
    obtain ⟨m', h1, h2⟩ := h.2.get (by simpa using e)
    exact ⟨m', h1, by simp; omega⟩
theorem All2.mem {α : Type} {f : α → Nat → Prop} {cs : List α} {ms : List Nat} {c : α} (h : All2 f cs ms) (hc : c ∈ cs) : ∃ m, f c m ∧ m ≤ ms.sum := by
  obtain ⟨i, hi⟩ := List.getElem?_of_mem hc
  exact h.get hi
theorem All2.length {α : Type} {f : α → Nat → Prop} (h1 : ∀ c m, f c m → 1 ≤ m) : ∀ {cs : List α} {ms : List Nat}, All2 f cs ms → cs.length ≤ ms.sum
  | [], [], _ => by simp
  | c :: cs, m :: ms, h => by
    have := h.2.length h1
    have := h1 c m h.1
    simp; omega
section
variable {T : Tbl} {t e : TypeId} {i ie : TI} (ht : T t = some i) (hd : i.desc = .slice e) (he : T e = some ie)

include ht hd he in
/-- A field of a list's element. -/
theorem IsSl.fld {fs : List (TypeId × Nat)} {f o : Nat} {tf : TypeId} {fi : TI} (hde : ie.desc = .struct fs) (hf : fs[f]? = some (tf, o)) (hft : T tf = some fi) (hz : fi.size ≠ 0)
    {G : Heap} {v : AVal} {vs cs : List AVal} (h : IsSl ie.size G v vs) {k : IntKind} {j : Nat} {c : AVal} (hj : vs[j]? = some (.agg cs)) (hs : szs (cs.take f) = o) (hc : cs[f]? = some c) (hfit : vfits fi c = true) :
    ∃ a b, viaddr T t v (.int k j) = some a ∧ vfaddr T e a f = some b ∧ vload T G tf b = some c := by
  rcases h with ⟨id, p, st, off, len, cap, rfl, h⟩ | ⟨rfl, rfl⟩
  · obtain ⟨ds, h1, h0, h2, h3, rfl, _⟩ := selems_spec h
    have hjl : j < len := by
      have := (List.getElem?_eq_some_iff.1 hj).1
      simp only [List.length_take, List.length_drop] at this
      omega
    have hcs : ds[st + j]? = some (.agg cs) := by
      rw [List.getElem?_take_of_lt hjl, List.getElem?_drop] at hj
      exact hj
    refine ⟨.ptr id (p ++ [st + j]) (off + j * ie.size), .ptr id (p ++ [st + j] ++ [f]) (off + j * ie.size + o), ?_, ?_, ?_⟩
    · simp only [viaddr, ht, hd, he]
      rw [if_pos ⟨by omega, by omega⟩]
      simp
    · simp only [vfaddr, he, hde, hf, hft]
      rw [if_neg hz]
    · have hlt : st + j < ds.length := (List.getElem?_eq_some_iff.1 hcs).1
      have hsz : szs (ds.take (st + j)) = (st + j) * ie.size := by
        rw [szs_uni (uni_take h2 _), List.length_take, Nat.min_eq_left (by omega)]
      have h4 := vsub_append h1 hsz hcs
      rw [show off - st * ie.size + (st + j) * ie.size = off + j * ie.size by rw [Nat.add_mul]; omega] at h4
      have h5 := vsub_append h4 hs hc
      simp only [vload, h5, hft]
      rw [if_pos hfit]
  · simp at hj

include ht hd he in
theorem RoSl.fld {fs : List (TypeId × Nat)} {f o : Nat} {tf : TypeId} {fi : TI} (hde : ie.desc = .struct fs) (hf : fs[f]? = some (tf, o)) (hft : T tf = some fi) (hz : fi.size ≠ 0)
    {G : Heap} {v : AVal} {vs cs : List AVal} (h : RoSl ie.size G v vs) {k : IntKind} {j : Nat} {c : AVal} (hj : vs[j]? = some (.agg cs)) (hs : szs (cs.take f) = o) (hc : cs[f]? = some c) (hfit : vfits fi c = true) :
    ∃ a b, viaddr T t v (.int k j) = some a ∧ vfaddr T e a f = some b ∧ ∀ G', RoLe G G' → vload T G' tf b = some c := by
  obtain ⟨a, b, h1, h2, _⟩ := h.is.fld (k := k) ht hd he hde hf hft hz hj hs hc hfit
  refine ⟨a, b, h1, h2, fun G' hle => ?_⟩
  obtain ⟨a', b', k1, k2, k3⟩ := (h.mono hle).is.fld (k := k) ht hd he hde hf hft hz hj hs hc hfit
  rw [h1] at k1
  injection k1 with k1; subst k1
  rw [h2] at k2
  injection k2 with k2; subst k2
  exact k3

end

/-! ### Hashes and texts compared -/

theorem eqA_u8 {T : Tbl} {e : TypeId} {ie : TI} (he : T e = some ie) (hde : ie.desc = .int .u8) (hz : ie.size = 1) (d : Nat) : ∀ (n : Nat) (a b : List UInt8), a.length = n → b.length = n →
    eqA ie (veqD T (d + 1) e) n (a.map u8v) (b.map u8v) = some (decide (a = b))
  | 0, [], [], _, _ => rfl
  | n + 1, x :: a, y :: b, ha, hb => by
    have ih := eqA_u8 he hde hz d n a b (by simpa using ha) (by simpa using hb)
    have hv : ∀ z : UInt8, vfits ie (u8v z) = true := fun z => by simp [vfits, u8v, sz, hz, AVal.isAgg, hde, ADesc.isAgg]
    have hq : veqD T (d + 1) e (u8v x) (u8v y) = some (decide (x = y)) := by
      have : ((x.toNat : Int) = (y.toNat : Int)) ↔ x = y := by
        rw [Int.natCast_inj, UInt8.toNat_inj]
      simp only [veqD, he, hde, u8v, if_true]
      simp only [this]
    simp only [List.map_cons, eqA, hv, Bool.and_self, if_true, hq]
    by_cases h : x = y
    · subst h
      simp [ih]
    · simp [h]

theorem veqD_arr {T : Tbl} {t e : TypeId} {i ie : TI} {n : Nat} {xs ys : List AVal} (ht : T t = some i) (hd : i.desc = .array n e) (he : T e = some ie) (d : Nat) : veqD T (d + 1) t (.agg xs) (.agg ys) = eqA ie (veqD T d e) n xs ys := by
  rw [veqD]
  simp only [ht, hd, he]

theorem vbin_heql {T : Tbl} {t e : TypeId} {i ie : TI} {n : Nat} {a b : List UInt8} (ht : T t = some i) (hd : i.desc = .array n e) (he : T e = some ie) (hde : ie.desc = .int .u8) (hz : ie.size = 1) (ha : a.length = n) (hb : b.length = n) :
    vbin T .eql t (.agg (a.map u8v)) (.agg (b.map u8v)) = some (.bool (decide (a = b))) := by
  simp only [vbin, veqD_arr ht hd he, eqA_u8 he hde hz 7 n a b ha hb]
theorem RowL.own {F0 : List AId} {G0 G : Heap} {ps : List LP} {i : Nat} {id : AId} {t : AVal} (h : Sp F0 G0 ps G) (hi : ps[i]? = some (RowL id t)) : G id = some (.own t) := by
  obtain ⟨F, h, _⟩ := h.get hi
  exact h

/-- A new row of one's own. -/
theorem Sp.row {F0 : List AId} {G0 G : Heap} {ps : List LP} {id : AId} (h : Sp F0 G0 ps G) (hf : Fresh G id) (t : AVal) : Sp F0 G0 (RowL id t :: ps) (G.upd id (.own t)) :=
  h.new (p := RowL id t) ⟨Heap.upd_self _ _ _, rfl⟩ (Ch.new hf)

end Go.Esc
