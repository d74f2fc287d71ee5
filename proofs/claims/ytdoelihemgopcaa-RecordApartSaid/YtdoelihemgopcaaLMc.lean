import Derived.Test.YtdoelihemgopcaaLFq
import Derived.Test.YtdoelihemgopcaaLDg
import Derived.Test.YtdoelihemgopcaaLSh
import Derived.Test.YtdoelihemgopcaaLFa
import Derived.Test.YtdoelihemgopcaaLRS
import Derived.Test.YtdoelihemgopcaaLUf
/- Own work. Chapter 13: what Fold answers: plain. -/
set_option linter.unusedSimpArgs false
set_option linter.unusedVariables false
set_option maxRecDepth 20000
namespace Go.Esc.M
open Go Go.Esc

structure FoldM where
  o : Int
  q : Int
  l : List PenM
  e : Int
def FoldM.no (e : Int) : FoldM := ⟨0, 0, [], e⟩
def inC (co cp : Int) (ours peers : List UpdM) : Prop := 0 ≤ co ∧ co ≤ ours.length ∧ 0 ≤ cp ∧ cp ≤ peers.length
instance (co cp : Int) (ours peers : List UpdM) : Decidable (inC co cp ours peers) := by unfold inC; infer_instance
instance (a : Int) : Decidable (amt a) := by unfold amt; infer_instance
end Go.Esc.M

/- Own work. Chapter 13: plain laws: the other side's view; nothing is lost. -/
set_option linter.unusedSimpArgs false
set_option linter.unusedVariables false
set_option maxRecDepth 20000
namespace Go.Esc.M
open Go Go.Esc

/-- What is open: mine first, each part by ID; amounts of 1 and more. -/
structure WholeP (left : Int) (l : List PenM) : Prop where
  one : ∀ p ∈ l, 1 ≤ p.amount
  sum : (l.map (·.amount)).sum = left
  ord : ∀ j p q, l[j]? = some p → l[j + 1]? = some q → ¬ (q.ours = true ∧ p.ours = false) ∧ (q.ours = p.ours → p.id ≤ q.id)
end Go.Esc.M

/- Own work. Chapter 13: plain laws: two lists that grow: nobody ever falls below 0. -/
set_option linter.unusedSimpArgs false
set_option linter.unusedVariables false
set_option maxRecDepth 20000
namespace Go.Esc.M
open Go Go.Esc

theorem sumF_append (f : UpdM → Bool) (a b : List UpdM) : sumF f (a ++ b) = sumF f a + sumF f b := by
  unfold sumF
  rw [List.filter_append, List.map_append, List.sum_append]
theorem sumF_nn {f : UpdM → Bool} {l : List UpdM} (h : ∀ u ∈ l, 0 ≤ u.amount) : 0 ≤ sumF f l := by
  unfold sumF
  induction l with
  | nil => simp
  | cons u l ih =>
    have ih := ih fun x hx => h x (by simp [hx])
    have := h u (by simp)
    simp only [List.filter_cons]
    split
    · simp only [List.map_cons, List.sum_cons]; omega
    · exact ih
theorem sumF_zero {f : UpdM → Bool} {l : List UpdM} (h : ∀ u ∈ l, f u = false) : sumF f l = 0 := by
  unfold sumF
  rw [List.filter_eq_nil_iff.2 fun u hu => by rw [h u hu]; decide]
  rfl
theorem valid_nn {u : UpdM} (h : validU u = true) : 0 ≤ u.amount := by
  have := (valid_spec h).2.2
  omega

def addsN (l : List UpdM) : Nat := (l.filter fun u => decide (u.kind = 1)).length
def SB (base : Int) (mine others : List UpdM) (fm fo : Nat) : Int := base - sumF (stays (others.take fo)) mine + sumF (paid (mine.take fm)) others
/-- Each add's number is how many stand ahead of it. -/
def idsOk (l : List UpdM) : Prop := ∀ j u, l[j]? = some u → u.kind = 1 → u.id = ((addsN (l.take j) : Nat) : Int)
/-- Each removal speaks of an add among the other side's first. -/
def remsOk (mine others : List UpdM) (fo : Nat) : Prop := ∀ u ∈ mine, u.kind ≠ 1 → ∃ w ∈ others.take fo, w.kind = 1 ∧ w.id = u.id
structure BookI (b0 b1 : Int) (l0 l1 : List UpdM) (f0 f1 : Nat) : Prop where
  ok0 : ∀ u ∈ l0, u.ok
  ok1 : ∀ u ∈ l1, u.ok
  v0 : ∀ u ∈ l0, validU u = true
  v1 : ∀ u ∈ l1, validU u = true
  le0 : f0 ≤ l0.length
  le1 : f1 ≤ l1.length
  m0 : l0.length ≤ 2048
  m1 : l1.length ≤ 2048
  i0 : idsOk l0
  i1 : idsOk l1
  r0 : remsOk l0 l1 f1
  r1 : remsOk l1 l0 f0
  s0 : 0 ≤ SB b0 l0 l1 f0 f1
  s1 : 0 ≤ SB b1 l1 l0 f1 f0
  b0n : 0 ≤ b0
  b1n : 0 ≤ b1
  bs : b0 + b1 ≤ 1152921504606846976
theorem BookI.swap {b0 b1 : Int} {l0 l1 : List UpdM} {f0 f1 : Nat} (h : BookI b0 b1 l0 l1 f0 f1) : BookI b1 b0 l1 l0 f1 f0 :=
  ⟨h.ok1, h.ok0, h.v1, h.v0, h.le1, h.le0, h.m1, h.m0, h.i1, h.i0, h.r1, h.r0, h.s1, h.s0, h.b1n, h.b0n, by have := h.bs; omega⟩

theorem take_snoc (l : List UpdM) (u : UpdM) {n : Nat} (h : n ≤ l.length) : (l ++ [u]).take n = l.take n := by
  rw [List.take_append_of_le_length h]
theorem ids_snoc {l : List UpdM} {u : UpdM} (h : idsOk l) (hu : u.kind = 1 → u.id = ((addsN l : Nat) : Int)) : idsOk (l ++ [u]) := by
  intro j w hj hw
  by_cases hjl : j < l.length
  · rw [List.getElem?_append_left hjl] at hj
    rw [take_snoc l u (by omega)]
    exact h j w hj hw
  · have hb := (List.getElem?_eq_some_iff.1 hj).1
    rw [List.length_append, List.length_singleton] at hb
    have : j = l.length := by omega
    subst this
    rw [List.getElem?_append_right (by omega)] at hj
    simp at hj
    subst hj
    rw [take_snoc l u (Nat.le_refl _), List.take_length]
    exact hu hw
theorem rems_snoc {mine others : List UpdM} {fo : Nat} {u : UpdM} (h : remsOk mine others fo) (hu : u.kind ≠ 1 → ∃ w ∈ others.take fo, w.kind = 1 ∧ w.id = u.id) : remsOk (mine ++ [u]) others fo := by
  intro x hx hk
  rcases List.mem_append.1 hx with hx | hx
  · exact h x hx hk
  · rw [List.mem_singleton.1 hx] at hk ⊢
    exact hu hk
theorem mem_snoc {α : Type} {Pr : α → Prop} {l : List α} {u : α} (h : ∀ x ∈ l, Pr x) (hu : Pr u) : ∀ x ∈ l ++ [u], Pr x := by
  intro x hx
  rcases List.mem_append.1 hx with hx | hx
  · exact h x hx
  · rw [List.mem_singleton.1 hx]; exact hu

/-- An add of what is spendable. -/
theorem BookI.add {b0 b1 : Int} {l0 l1 : List UpdM} {f0 f1 : Nat} (h : BookI b0 b1 l0 l1 f0 f1) (hl : l0.length < 2048) {u : UpdM} (hk : u.kind = 1) (hid : u.id = ((addsN l0 : Nat) : Int)) (ho : u.ok) (hv : validU u = true) (ha : u.amount ≤ SB b0 l0 l1 f0 f1) : BookI b0 b1 (l0 ++ [u]) l1 f0 f1 := by
  have hnn := valid_nn hv
  refine ⟨mem_snoc h.ok0 ho, h.ok1, mem_snoc h.v0 hv, h.v1, by rw [List.length_append]; have := h.le0; omega, h.le1, by rw [List.length_append, List.length_singleton]; omega, h.m1, ids_snoc h.i0 fun _ => hid, h.i1, rems_snoc h.r0 fun hh => absurd hk hh, ?_, ?_, ?_, h.b0n, h.b1n, h.bs⟩
  · rw [remsOk, take_snoc l0 u h.le0]; exact h.r1
  · unfold SB at ha ⊢
    rw [take_snoc l0 u h.le0, sumF_append]
    have : sumF (stays (l1.take f1)) [u] ≤ u.amount := by
      unfold sumF
      simp only [List.filter_cons, List.filter_nil]
      split
      · simp
      · simp; exact hnn
    omega
  · have h1 := h.s1
    unfold SB at h1 ⊢
    rw [take_snoc l0 u h.le0, sumF_append]
    have := sumF_nn (f := paid (l1.take f1)) (l := [u]) fun x hx => by rw [List.mem_singleton.1 hx]; exact hnn
    omega
/-- A removal of what is irrevocable. -/
theorem BookI.rem {b0 b1 : Int} {l0 l1 : List UpdM} {f0 f1 : Nat} (h : BookI b0 b1 l0 l1 f0 f1) (hl : l0.length < 2048) {u : UpdM} (hk : u.kind ≠ 1) (hr : ∃ w ∈ l1.take f1, w.kind = 1 ∧ w.id = u.id) (ho : u.ok) (hv : validU u = true) : BookI b0 b1 (l0 ++ [u]) l1 f0 f1 := by
  refine ⟨mem_snoc h.ok0 ho, h.ok1, mem_snoc h.v0 hv, h.v1, by rw [List.length_append]; have := h.le0; omega, h.le1, by rw [List.length_append, List.length_singleton]; omega, h.m1, ids_snoc h.i0 fun hh => absurd hh hk, h.i1, rems_snoc h.r0 fun _ => hr, ?_, ?_, ?_, h.b0n, h.b1n, h.bs⟩
  · rw [remsOk, take_snoc l0 u h.le0]; exact h.r1
  · have h1 := h.s0
    unfold SB at h1 ⊢
    rw [take_snoc l0 u h.le0, sumF_append, sumF_zero (l := [u]) fun x hx => by rw [List.mem_singleton.1 hx]; simp [stays, hk]]
    omega
  · have h1 := h.s1
    unfold SB at h1 ⊢
    rw [take_snoc l0 u h.le0, sumF_append, sumF_zero (l := [u]) fun x hx => by rw [List.mem_singleton.1 hx]; simp [paid, hk]]
    omega
end Go.Esc.M

/- Own work. Chapter 13: what the laws themselves do: lists lent, kept, changed; ledgers compared. -/
set_option linter.unusedSimpArgs false
set_option linter.unusedVariables false
set_option maxRecDepth 20000
namespace Go.Esc.M
open Go Go.Esc

section
variable {F0 : List AId} {G0 G : Heap} {ps : List LP} {Q : AVal → Heap → Prop}

def u7 : UpdM := ⟨-7, 0, 0, h0, []⟩
end

end Go.Esc.M

/- Own work. Chapter 13: Fold. -/
set_option linter.unusedSimpArgs false
set_option linter.unusedVariables false
set_option maxRecDepth 20000
namespace Go.Esc.M
open Go Go.Esc

section
variable {F0 : List AId} {G0 G : Heap} {ps : List LP} {Q : AVal → Heap → Prop}

end

end Go.Esc.M

/- Own work. Chapter 13: the document's Fold. -/
set_option linter.unusedSimpArgs false
set_option linter.unusedVariables false
set_option maxRecDepth 20000
namespace Go.Esc.M
open Go Go.Esc

section
variable {F0 : List AId} {G0 G : Heap} {ps : List LP} {Q : AVal → Heap → Prop}

end

end Go.Esc.M

/- Own work. Chapter 16: messages. -/
set_option linter.unusedSimpArgs false
set_option linter.unusedVariables false
set_option maxRecDepth 20000
namespace Go.Esc.M
open Go Go.Esc

structure MsgM where
  kind : Int
  id : Int
  amount : Int
  index : Int
  next : Int
  hash : List UInt8
  secret : List UInt8
  note : List UInt8
  deriving DecidableEq

def MsgM.cs (u : MsgM) : List AVal := [.int .i64 u.kind, .int .i64 u.id, .int .i64 u.amount, .int .i64 u.index, .int .i64 u.next, .agg (u.hash.map u8v), .agg (u.secret.map u8v), .str u.note]
def MsgM.av (u : MsgM) : AVal := .agg u.cs
def MsgM.zero : MsgM := ⟨0, 0, 0, 0, 0, h0, h0, []⟩
structure MsgM.ok (u : MsgM) : Prop where
  kind : I64 u.kind
  id : I64 u.id
  amount : I64 u.amount
  index : I64 u.index
  next : I64 u.next
  hash : u.hash.length = 32
  secret : u.secret.length = 32
  note : u.note.length ≤ 9223372036854775807
theorem MsgM.zero_ok : MsgM.zero.ok := ⟨i64_0, i64_0, i64_0, i64_0, i64_0, rfl, rfl, by decide⟩
theorem MsgM.sz {u : MsgM} (h : u.ok) : Esc.sz u.av = 70 := by simp [MsgM.av, MsgM.cs, Esc.sz, szs, szh h.hash, szh h.secret]
theorem MsgM.okv (u : MsgM) : Esc.okv u.av = true := by simp [MsgM.av, MsgM.cs, Esc.okv, okvs, okvs_u8]
section
variable {F0 : List AId} {G0 G : Heap} {ps : List LP} {i : Nat} {id : AId} {u : MsgM} {Q : AVal → Heap → Prop}

end
end Go.Esc.M

/- Own work. Chapter 16: messages written. -/
set_option linter.unusedSimpArgs false
set_option linter.unusedVariables false
set_option maxRecDepth 20000
namespace Go.Esc.M
open Go Go.Esc

section
variable {F0 : List AId} {G0 G : Heap} {ps : List LP} {i : Nat} {id : AId} {u : MsgM} {Q : AVal → Heap → Prop}

end
end Go.Esc.M

/- Own work. Chapter 16: messages compared, named. -/
set_option linter.unusedSimpArgs false
set_option linter.unusedVariables false
set_option maxRecDepth 20000
namespace Go.Esc.M
open Go Go.Esc

section
variable {F0 : List AId} {G0 G : Heap} {ps : List LP} {Q : AVal → Heap → Prop}

end
end Go.Esc.M
