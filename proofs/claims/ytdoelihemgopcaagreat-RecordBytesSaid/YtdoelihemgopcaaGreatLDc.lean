import Derived.Test.YtdoelihemgopcaaGreatLCq
import Derived.Test.YtdoelihemgopcaaGreatLBe
/- Own work. Chapter 14: the document's texts, walked. -/
set_option linter.unusedSimpArgs false
set_option linter.unusedVariables false
set_option maxRecDepth 20000
namespace Go.Esc.M
open Go Go.Esc

section
variable {F0 : List AId} {G0 G : Heap} {ps : List LP} {Q : AVal → Heap → Prop}

end
end Go.Esc.M

/- Own work. Chapter 14: commitments read, in the program. -/
set_option linter.unusedSimpArgs false
set_option linter.unusedVariables false
set_option maxRecDepth 20000
namespace Go.Esc.M
open Go Go.Esc

structure Com where
  owner : Int
  index : Int
  point : List UInt8
  o : Int
  q : Int
  l : List PenM
def Com.text (c : Com) : List UInt8 := textB c.owner c.index c.point c.o c.q c.l
structure Com.Valid (c : Com) : Prop where
  arg : ¬ argBad c.owner c.index
  sound : soundP c.o c.q c.l = true
  point : c.point.length = 32
  ok : ∀ p ∈ c.l, p.ok

section
variable {F0 : List AId} {G0 G : Heap} {ps : List LP} {Q : AVal → Heap → Prop}

/-- A reader among other things. -/
theorem rd {id : AId} {st st' : List UInt8 × Int} {out : AVal} {n : FuncId} {args : List AVal} {i : Nat} {K : AVal → Heap → Prop} (hs : Sp F0 G0 ps G) (hi : ps[i]? = some (RdL id st))
    (huse : ∀ {G : Heap} {Q : AVal → Heap → Prop}, Rd id st G → (∀ G', Rd id st' G' → Ch [id] G [id] G' → Q out G') → ACalls P n args G Q)
    (hK : ∀ G', Sp F0 G0 (ps.set i (RdL id st')) G' → K out G') : ACalls P n args G K := by
  refine hs.call hi (RdL id st') fun F h k => ?_
  obtain ⟨h, rfl⟩ := h
  exact huse h fun G' r c => hK _ (k _ _ ⟨r, rfl⟩ c)

theorem RdL.rd {id : AId} {st : List UInt8 × Int} {i : Nat} (h : Sp F0 G0 ps G) (hi : ps[i]? = some (RdL id st)) : Rd id st G := by
  obtain ⟨F, h, _⟩ := h.get hi
  exact h

theorem hash_store {i : Nat} {id : AId} {h h' : List UInt8} (hs : Sp F0 G0 ps G) (hi : ps[i]? = some (RowL id (.agg (h.map u8v)))) (hl : h.length = 32) (hl' : h'.length = 32) {K : Heap → Prop} (hK : ∀ G', Sp F0 G0 (ps.set i (RowL id (.agg (h'.map u8v)))) G' → K G') :
    wg (vstore T G t_api_Hash (.ptr id [] 0) (.agg (h'.map u8v))) K := by
  refine wg_of (store_hash hl hl' (RowL.own hs hi)) ?_
  exact hK _ (Sp.setRow hs hi _)
theorem zh_len : (List.replicate 32 (0 : UInt8)).length = 32 := rfl

end
end Go.Esc.M

/- Own work. Chapter 14: commitments read, in the document. -/
set_option linter.unusedSimpArgs false
set_option linter.unusedVariables false
set_option maxRecDepth 20000
namespace Go.Esc.M
open Go Go.Esc

def slice (b : List UInt8) (at_ n : Nat) : List UInt8 := (b.drop at_).take n
theorem length_slice {b : List UInt8} {at_ n : Nat} (h : at_ + n ≤ b.length) : (slice b at_ n).length = n := by
  rw [slice, List.length_take, List.length_drop]; omega
theorem num_slice_one {b : List UInt8} {a : Nat} (h : a < b.length) : num (slice b a 1) = b[a].toNat := by
  have e0 : (slice b a 1) = [b[a]] := by
    rw [slice, List.drop_eq_getElem_cons h]
    rfl
  rw [e0]; simp [num, numA]
theorem hw64 (n : Int) : I64 (IntKind.i64.wrap n) := i64_wf.1 (wf_wrap .i64 n)
theorem takes_at {b : List UInt8} {at_ n : Nat} {nn : Int} (hn : nn = (n : Int)) (h : at_ + n ≤ b.length) : takes (b.drop at_, 0) nn = (slice b at_ n, (b.drop (at_ + n), 0)) := by
  subst hn
  rw [takes_ok (by rw [List.length_drop]; omega), Int.toNat_natCast, List.drop_drop]
  rfl

section
variable {F0 : List AId} {G0 G : Heap} {ps : List LP} {Q : AVal → Heap → Prop}

theorem fill_set {x : List UInt8} {n j : Nat} (hx : x.length = n) (hj : j < n) : (fill n (x.take j)).set j (x[j]'(by omega)) = fill n (x.take (j + 1)) := by
  have e : x.take (j + 1) = x.take j ++ [x[j]'(by omega)] := by rw [List.take_add_one, List.getElem?_eq_getElem (by omega)]; rfl
  have h1 : (x.take j).length = j := by rw [List.length_take]; omega
  have h2 : (x.take j ++ [x[j]'(by omega)]).length = j + 1 := by rw [List.length_append, h1]; rfl
  rw [e, fill, fill, h1, h2, List.set_append_right _ _ (by omega), h1, Nat.sub_self, show n - j = (n - (j + 1)) + 1 by omega, List.replicate_succ, List.set_cons_zero, List.append_assoc]
  rfl

end
end Go.Esc.M
