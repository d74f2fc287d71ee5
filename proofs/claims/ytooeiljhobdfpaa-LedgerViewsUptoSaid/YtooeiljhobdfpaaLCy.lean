import Derived.Test.YtooeiljhobdfpaaLBe
import Derived.Test.YtooeiljhobdfpaaLHh
/- Own work. Chapter 3: the document's readers; hashes read. -/
set_option linter.unusedSimpArgs false
set_option linter.unusedVariables false
namespace Go.Esc.M
open Go Go.Esc

/-- A reader of the program's. -/
def RdL (id : AId) (st : List UInt8 × Int) : LP where
  p := fun G F => Rd id st G ∧ F = [id]
  rows := by rintro G F ⟨h, rfl⟩ j hj; simp at hj; subst hj; exact h.row
  loc := by rintro G G' F ⟨h, rfl⟩ hs; exact ⟨by unfold Rd at h ⊢; rw [hs id (by simp)]; exact h, rfl⟩

/-- A reader of the document's: what is left stays where it is broken. -/
def RdR (id : AId) (st : List UInt8 × Int) (G : Heap) : Prop := ∃ l, G id = some (.own (.agg [.str l, .int .i64 st.2])) ∧ (st.2 = 0 → l = st.1) ∧ (st.2 ≠ 0 → st.1 = [])
def RdRL (id : AId) (st : List UInt8 × Int) : LP where
  p := fun G F => RdR id st G ∧ F = [id]
  rows := by rintro G F ⟨⟨l, h, _⟩, rfl⟩ j hj; simp at hj; subst hj; rw [h]; rfl
  loc := by rintro G G' F ⟨⟨l, h, h'⟩, rfl⟩ hs; exact ⟨⟨l, by rw [hs id (by simp)]; exact h, h'⟩, rfl⟩

section
variable {id : AId} {st : List UInt8 × Int} {G : Heap} {Q : AVal → Heap → Prop}

theorem RdR.fault (h : RdR id st G) : vload T G t_api_Errno (.ptr id [1] 1) = some (.int .i64 st.2) := h.elim fun _ h => vload_fld h.1 rfl rfl rfl T_api_Errno rfl
theorem RdR.rest (h : RdR id st G) (h0 : st.2 = 0) : vload T G t_string (.ptr id [0] 0) = some (.str st.1) := h.elim fun l h => by rw [← h.2.1 h0]; exact vload_fld h.1 rfl rfl rfl T_string rfl
theorem RdR.ch {G' : Heap} {E E' : List AId} (h : RdR id st G) (hc : Ch E G E' G') (hd : id ∉ E) : RdR id st G' := h.elim fun l h => ⟨l, hc.others _ _ h.1 hd, h.2⟩
theorem RdR.row (h : RdR id st G) : (G id).isSome = true := h.elim fun l h => by rw [h.1]; rfl

/-- Broken by this fault, if it wasn't. -/
def brk (st : List UInt8 × Int) (e : Int) : List UInt8 × Int := if st.2 = 0 then ([], e) else st

theorem takes_short {b : List UInt8} {n : Int} (h : (b.length : Int) < n) : takes (b, 0) n = ([], ([], 2)) := by simp [takes, h]
theorem takes_ok {b : List UInt8} {n : Int} (h : ¬ (b.length : Int) < n) : takes (b, 0) n = (b.take n.toNat, (b.drop n.toNat, 0)) := by simp [takes, h]

end

section
variable {id : AId} {st : List UInt8 × Int} {G : Heap} {Q : AVal → Heap → Prop}

theorem takes_len32 (st : List UInt8 × Int) : (takes st 32).1.length ≤ 32 := length_takes st

end
end Go.Esc.M

/- Own work. Chapter 3: values of the statements; a value laid; a step of a reader. -/
set_option linter.unusedSimpArgs false
set_option linter.unusedVariables false
namespace Go.Esc.M
open Go Go.Esc

/-- The statements' Val. -/
structure ValM where
  kind : Int
  u : Nat
  i : Int
  h : List UInt8
  s : List UInt8
  times : Int

def ValM.av (x : ValM) : AVal := .agg [.int .i64 x.kind, .int .u64 x.u, .int .i64 x.i, .agg (x.h.map u8v), .str x.s, .int .i64 x.times]

structure ValM.ok (x : ValM) (m : Nat) : Prop where
  kind : I64 x.kind
  u : x.u < 2 ^ 64
  i : I64 x.i
  h : x.h.length = 32
  times : I64 x.times
  m : x.s.length + 1 ≤ m

/-- The kind, 0 to 7. -/
def ValM.k (x : ValM) : Int := x.kind % 8

theorem and7 (a : Int) : vbin T .and t_int (.int .i64 a) (.int .i64 7) = some (.int .i64 (a % 8)) := by
  rw [vbin_and]
  have := and_mask a 3 (by omega)
  rw [show ((2 ^ 3 - 1 : Nat) : Int) = 7 from rfl, show ((2 ^ 3 : Nat) : Int) = 8 from rfl] at this
  rw [this]

section
variable {G : Heap} {Q : AVal → Heap → Prop}

/-- A text, often behind itself. -/
def grown (s : List UInt8) : Nat → List UInt8 → List UInt8
  | 0, c => c
  | n + 1, c => if c.length < 70000 ∧ c ≠ [] then grown s n (c ++ s) else c
def ValM.text (x : ValM) : List UInt8 := grown x.s (x.times - 1).toNat x.s

theorem length_grown (s : List UInt8) : ∀ n c, (grown s n c).length ≤ max c.length (70000 + s.length)
  | 0, c => by simp [grown]; omega
  | n + 1, c => by
    unfold grown
    split
    · have := length_grown s n (c ++ s)
      simp at this
      omega
    · omega
theorem ValM.length_text (x : ValM) : x.text.length ≤ 70000 + x.s.length := by
  have := length_grown x.s (x.times - 1).toNat x.s
  unfold ValM.text
  omega

/-- What a writer holds behind a value. -/
def layV (st : List UInt8 × Int) (x : ValM) : List UInt8 × Int :=
  if x.k = 0 then laid st (be 1 (x.u % 256)) else if x.k = 1 then laid st (be 2 (x.u % 65536)) else if x.k = 2 then laid st (be 4 (x.u % 4294967296)) else if x.k = 3 then laid st (be 8 x.u)
  else if x.k = 4 then laid st (be 8 (bits64 x.i)) else if x.k = 5 then laid st x.h else if x.k = 6 then laidText st x.text else laid st x.text

theorem length_laidText (st : List UInt8 × Int) (xs : List UInt8) : (laidText st xs).1.length ≤ st.1.length + xs.length + 2 := by
  unfold laidText
  split
  · simp; omega
  · have := length_laid st (be 2 xs.length ++ xs)
    rw [List.length_append, length_be] at this
    omega

theorem length_layV (st : List UInt8 × Int) {x : ValM} {m : Nat} (hx : x.ok m) : (layV st x).1.length ≤ st.1.length + 70002 + m := by
  have h1 := x.length_text
  have h2 := hx.m
  have l1 := length_laid st (be 1 (x.u % 256))
  have l2 := length_laid st (be 2 (x.u % 65536))
  have l3 := length_laid st (be 4 (x.u % 4294967296))
  have l4 := length_laid st (be 8 x.u)
  have l5 := length_laid st (be 8 (bits64 x.i))
  have l6 := length_laid st x.h
  have l7 := length_laidText st x.text
  have l8 := length_laid st x.text
  rw [length_be] at l1 l2 l3 l4 l5
  rw [hx.h] at l6
  unfold layV
  split <;> (try split) <;> (try split) <;> (try split) <;> (try split) <;> (try split) <;> (try split) <;> omega

theorem ValM.k_range (x : ValM) : 0 ≤ x.k ∧ x.k < 8 := by unfold ValM.k; omega

section
variable {id : AId} {st : List UInt8 × Int} {F : List AId} {x : ValM} {m : Nat}

theorem lays_frame {i : AId} {G2 : Heap} (h : Wr id st G F) (hf : Fresh G i) (hc : Ch [] (G.upd i (.own x.av)) [] G2) : Wr id st G2 F ∧ G2 i = some (.own x.av) ∧ Ch F G F G2 := by
  have h1 := h.ch (hf.ch (o := .own x.av)) (by simp)
  exact ⟨h1.ch hc (by simp), hc.others _ _ (Heap.upd_self _ _ _) (by simp), ((hf.ch (o := .own x.av)).trans hc).grow⟩

theorem ValM.fld {G : Heap} {i : AId} (hx : x.ok m) (hg : G i = some (.own x.av)) :
    vload T G t_uint64 (.ptr i [1] 1) = some (.int .u64 x.u) ∧ vload T G t_int64 (.ptr i [2] 2) = some (.int .i64 x.i) ∧ vload T G t_api_Hash (.ptr i [3] 3) = some (.agg (x.h.map u8v)) := by
  have h1 : szs (x.h.map u8v) = 32 := by rw [szs_uni (n := 1) (uni_u8 x.h)]; simp [hx.h]
  refine ⟨vload_fld (c := .int .u64 x.u) hg rfl rfl rfl T_uint64 rfl, vload_fld (c := .int .i64 x.i) hg rfl rfl rfl T_int64 rfl, vload_fld (c := .agg (x.h.map u8v)) hg rfl rfl rfl T_api_Hash ?_⟩
  simp [vfits, sz, h1, ti_api_Hash, AVal.isAgg, ADesc.isAgg]

end

/-- The statements' Op. -/
structure OpM where
  two : Bool
  v : ValM
  kind : Int
  n : Int

def OpM.av (o : OpM) : AVal := .agg [.bool o.two, o.v.av, .int .i64 o.kind, .int .i64 o.n]
structure OpM.ok (o : OpM) (m : Nat) : Prop where
  v : o.v.ok m
  m : 1 ≤ m

theorem ValM.ok.le {x : ValM} {m m' : Nat} (h : x.ok m) (hm : m ≤ m') : x.ok m' := ⟨h.kind, h.u, h.i, h.h, h.times, Nat.le_trans h.m hm⟩

end
end Go.Esc.M
