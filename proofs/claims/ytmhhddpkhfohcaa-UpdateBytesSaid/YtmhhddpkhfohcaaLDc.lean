/- Own work. Chapter 14: commitments read, in the document. -/
import Derived.Test.YtmhhddpkhfohcaaLDb
set_option linter.unusedSimpArgs false
set_option linter.unusedVariables false
namespace Go.Esc.M
open Go Go.Esc

def slice (b : List UInt8) (at_ n : Nat) : List UInt8 := (b.drop at_).take n
theorem length_slice {b : List UInt8} {at_ n : Nat} (h : at_ + n ≤ b.length) : (slice b at_ n).length = n := by
  rw [slice, List.length_take, List.length_drop]; omega
theorem num_slice_one {b : List UInt8} {a : Nat} (h : a < b.length) : num (slice b a 1) = b[a].toNat := by
  have e0 : (slice b a 1) = [b[a]] := by
    rw [slice, List.drop_eq_getElem_cons h]
    rfl
  rw [e0]; simp [num, numA]
def penAt (b : List UInt8) (at_ : Nat) : PenM :=
  ⟨num (slice b at_ 1) == 1, IntKind.i64.wrap (num (slice b (at_ + 1) 8) : Nat), IntKind.i64.wrap (num (slice b (at_ + 9) 8) : Nat), slice b (at_ + 17) 32⟩
def pensAt (b : List UInt8) : Nat → Nat → List PenM
  | _, 0 => []
  | at_, k + 1 => penAt b at_ :: pensAt b (at_ + 49) k
theorem pensAt_succ (b : List UInt8) : ∀ (k at_ : Nat), pensAt b at_ (k + 1) = pensAt b at_ k ++ [penAt b (at_ + 49 * k)]
  | 0, at_ => by simp [pensAt]
  | k + 1, at_ => by
    rw [pensAt, pensAt_succ b k, pensAt, List.cons_append, show at_ + 49 + 49 * k = at_ + 49 * (k + 1) by omega]
theorem length_pensAt (b : List UInt8) : ∀ (k at_ : Nat), (pensAt b at_ k).length = k
  | 0, _ => rfl
  | k + 1, at_ => by rw [pensAt, List.length_cons, length_pensAt b k]
theorem hw64 (n : Int) : I64 (IntKind.i64.wrap n) := i64_wf.1 (wf_wrap .i64 n)
theorem penAt_ok {b : List UInt8} {at_ : Nat} (h : at_ + 49 ≤ b.length) : (penAt b at_).ok := ⟨hw64 _, hw64 _, length_slice (by omega)⟩
theorem pensAt_ok {b : List UInt8} : ∀ (k at_ : Nat), at_ + 49 * k ≤ b.length → ∀ p ∈ pensAt b at_ k, p.ok
  | 0, _, _ => by simp [pensAt]
  | k + 1, at_, h => by
    intro p hp
    rw [pensAt] at hp
    rcases List.mem_cons.1 hp with rfl | hp
    · exact penAt_ok (by omega)
    · exact pensAt_ok k _ (by omega) p hp

theorem takes_at {b : List UInt8} {at_ n : Nat} {nn : Int} (hn : nn = (n : Int)) (h : at_ + n ≤ b.length) : takes (b.drop at_, 0) nn = (slice b at_ n, (b.drop (at_ + n), 0)) := by
  subst hn
  rw [takes_ok (by rw [List.length_drop]; omega), Int.toNat_natCast, List.drop_drop]
  rfl

theorem penR_at {b : List UInt8} {at_ : Nat} (h : at_ + 49 ≤ b.length) : penR (b.drop at_, 0) = (penAt b at_, (b.drop (at_ + 49), 0)) := by
  have e1 := takes_at (b := b) (at_ := at_) (n := 1) (nn := 1) rfl (by omega)
  have e2 := takes_at (b := b) (at_ := at_ + 1) (n := 8) (nn := 8) rfl (by omega)
  have e3 := takes_at (b := b) (at_ := at_ + 1 + 8) (n := 8) (nn := 8) rfl (by omega)
  have e4 := takes_at (b := b) (at_ := at_ + 1 + 8 + 8) (n := 32) (nn := 32) rfl (by omega)
  simp only [penR, e1, e2, e3, e4, fill_full (length_slice (b := b) (at_ := at_ + 1 + 8 + 8) (n := 32) (by omega))]
  rfl

theorem pensR_at {b : List UInt8} : ∀ (k at_ : Nat) (acc : List PenM), at_ + 49 * k ≤ b.length → pensR k (b.drop at_, 0) acc = (acc ++ pensAt b at_ k, (b.drop (at_ + 49 * k), 0))
  | 0, at_, acc, _ => by simp [pensR, pensAt]
  | k + 1, at_, acc, h => by
    rw [pensR, if_pos rfl, penR_at (by omega), pensR_at k _ _ (by omega), pensAt]
    simp only [List.append_assoc, List.singleton_append, show at_ + 49 + 49 * k = at_ + 49 * (k + 1) by omega]

theorem headR_at {b : List UInt8} (h : 59 ≤ b.length) : headR b = ((((num (slice b 0 1) : Nat) : Int), IntKind.i64.wrap (num (slice b 1 8) : Nat), slice b 9 32, IntKind.i64.wrap (num (slice b 41 8) : Nat), IntKind.i64.wrap (num (slice b 49 8) : Nat), num (slice b 57 2)), (b.drop 59, 0)) := by
  have e1 := takes_at (b := b) (at_ := 0) (n := 1) (nn := 1) rfl (by omega)
  have e2 := takes_at (b := b) (at_ := 0 + 1) (n := 8) (nn := 8) rfl (by omega)
  have e3 := takes_at (b := b) (at_ := 0 + 1 + 8) (n := 32) (nn := 32) rfl (by omega)
  have e4 := takes_at (b := b) (at_ := 0 + 1 + 8 + 32) (n := 8) (nn := 8) rfl (by omega)
  have e5 := takes_at (b := b) (at_ := 0 + 1 + 8 + 32 + 8) (n := 8) (nn := 8) rfl (by omega)
  have e6 := takes_at (b := b) (at_ := 0 + 1 + 8 + 32 + 8 + 8) (n := 2) (nn := 2) rfl (by omega)
  rw [List.drop_zero] at e1
  simp only [headR, e1, e2, e3, e4, e5, e6, fill_full (length_slice (b := b) (at_ := 0 + 1 + 8) (n := 32) (by omega))]

/-- What the document makes of a text, of a fitting length. -/
def comD (b : List UInt8) : Com := ⟨((num (slice b 0 1) : Nat) : Int), IntKind.i64.wrap (num (slice b 1 8) : Nat), slice b 9 32, IntKind.i64.wrap (num (slice b 41 8) : Nat), IntKind.i64.wrap (num (slice b 49 8) : Nat), pensAt b 59 ((b.length - 59) / 49)⟩

theorem length_text {c : Com} (h : c.Valid) : c.text.length = 59 + 49 * c.l.length := by
  simp only [Com.text, textB, List.length_append, length_be, h.point, length_pens h.ok]
  omega

theorem comD_text {c : Com} (h : c.Valid) : comD c.text = c := by
  have hl := length_text h
  have e := comR_text h []
  rw [List.append_nil] at e
  have hn : (headR c.text).1.2.2.2.2.2 = c.l.length := by
    rw [headR_at (by omega)]
    dsimp only
    have hx := h.arg
    have hl966 := soundP_length h.sound
    have : slice c.text 57 2 = be 2 c.l.length := by
      have e1 : c.text = (be 1 c.owner.toNat ++ be 8 (bits64 c.index) ++ c.point ++ be 8 (bits64 c.o) ++ be 8 (bits64 c.q)) ++ (be 2 c.l.length ++ c.l.flatMap PenM.bytes) := by simp [Com.text, textB]
      have e2 : (be 1 c.owner.toNat ++ be 8 (bits64 c.index) ++ c.point ++ be 8 (bits64 c.o) ++ be 8 (bits64 c.q)).length = 57 := by simp [length_be, h.point]
      rw [slice, e1, List.drop_left' e2, List.take_left' (length_be _ _)]
    rw [this, num_be2 (by omega)]
  simp only [comR, hn] at e
  have e1 : (c.text.length - 59) / 49 = c.l.length := by rw [hl]; omega
  rw [headR_at (by omega), pensR_at _ _ _ (by omega)] at e
  simp only [Prod.mk.injEq, List.nil_append] at e
  rw [comD, e1]
  exact e.1

section
variable {F0 : List AId} {G0 G : Heap} {ps : List LP} {Q : AVal → Heap → Prop}

theorem fill_set {x : List UInt8} {n j : Nat} (hx : x.length = n) (hj : j < n) : (fill n (x.take j)).set j (x[j]'(by omega)) = fill n (x.take (j + 1)) := by
  have e : x.take (j + 1) = x.take j ++ [x[j]'(by omega)] := by rw [List.take_add_one, List.getElem?_eq_getElem (by omega)]; rfl
  have h1 : (x.take j).length = j := by rw [List.length_take]; omega
  have h2 : (x.take j ++ [x[j]'(by omega)]).length = j + 1 := by rw [List.length_append, h1]; rfl
  rw [e, fill, fill, h1, h2, List.set_append_right _ _ (by omega), h1, Nat.sub_self, show n - j = (n - (j + 1)) + 1 by omega, List.replicate_succ, List.set_cons_zero, List.append_assoc]
  rfl

end
end Go.Esc.M
