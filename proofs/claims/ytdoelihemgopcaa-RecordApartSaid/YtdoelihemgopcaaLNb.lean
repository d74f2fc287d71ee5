import Derived.Test.YtdoelihemgopcaaLMc
import Derived.Test.YtdoelihemgopcaaLRS
import Derived.Test.YtdoelihemgopcaaLUf
import Derived.Test.YtdoelihemgopcaaLSe
import Derived.Test.YtdoelihemgopcaaLSh
import Derived.Test.YtdoelihemgopcaaLFa
/- Own work. Chapter 16: messages written, in the program. -/
set_option linter.unusedSimpArgs false
set_option linter.unusedVariables false
set_option maxRecDepth 20000
namespace Go.Esc.M
open Go Go.Esc

def isK (m : MsgM) : Prop := m.kind = 1 ∨ m.kind = 2 ∨ m.kind = 3
instance (m : MsgM) : Decidable (isK m) := inferInstanceAs (Decidable (_ ∨ _ ∨ _))
section
variable {F0 : List AId} {G0 G : Heap} {ps : List LP} {Q : AVal → Heap → Prop}

end
end Go.Esc.M

/- Own work. Chapter 16: messages written, in the document. -/
set_option linter.unusedSimpArgs false
set_option linter.unusedVariables false
set_option maxRecDepth 20000
namespace Go.Esc.M
open Go Go.Esc

section
variable {F0 : List AId} {G0 G : Heap} {ps : List LP} {Q : AVal → Heap → Prop}

end
end Go.Esc.M

/- Own work. Chapter 16: the document's bytes. -/
set_option linter.unusedSimpArgs false
set_option linter.unusedVariables false
set_option maxRecDepth 20000
namespace Go.Esc.M
open Go Go.Esc

section
variable {F0 : List AId} {G0 G : Heap} {ps : List LP} {Q : AVal → Heap → Prop}

end
end Go.Esc.M

/- Own work. Chapter 15: states and records: what the calls answer, first part. -/
set_option linter.unusedSimpArgs false
set_option linter.unusedVariables false
set_option maxRecDepth 20000
namespace Go.Esc.M
open Go Go.Esc

/-- A state whole: its numbers and its lists. -/
structure StF where
  s : StM
  o : List UpdM
  p : List UpdM
  h : List SlotM
structure StIn (G : Heap) (f : StF) (vo vp vh : AVal) : Prop where
  ok : f.s.ok
  o : CapSl 36 G vo (f.o.map UpdM.av)
  p : CapSl 36 G vp (f.p.map UpdM.av)
  h : CapSl 34 G vh (f.h.map SlotM.av)
  oko : ∀ u ∈ f.o, u.ok
  okp : ∀ u ∈ f.p, u.ok
  okh : ∀ x ∈ f.h, x.ok
  lo : f.o.length ≤ 1048576
  lp : f.p.length ≤ 1048576
  lh : f.h.length * 48 ≤ 140737488351232
theorem capLeaf {n : Nat} {G : Heap} {v : AVal} {vs : List AVal} (h : CapSl n G v vs) : Leaf v := by
  rcases h with ⟨_, _, _, _, _, _, rfl, _⟩ | ⟨rfl, _⟩ <;> exact ⟨rfl, rfl, rfl⟩
theorem StIn.lv {G : Heap} {f : StF} {vo vp vh : AVal} (h : StIn G f vo vp vh) : Leaf vo ∧ Leaf vp ∧ Leaf vh := ⟨capLeaf h.o, capLeaf h.p, capLeaf h.h⟩
theorem StIn.mv {G G' : Heap} {E : List AId} {f : StF} {vo vp vh : AVal} (h : StIn G f vo vp vh) (hc : Ch [] G E G') : StIn G' f vo vp vh :=
  ⟨h.ok, h.o.mv hc, h.p.mv hc, h.h.mv hc, h.oko, h.okp, h.okh, h.lo, h.lp, h.lh⟩

def RcM.zero : RcM := ⟨0, UpdM.zero, 0, 0, 0, h0, h0, h0, 0⟩
theorem RcM.zero_ok : RcM.zero.ok := ⟨i64_0, UpdM.zero_ok, i64_0, i64_0, i64_0, rfl, rfl, rfl, i64_0⟩
def rcZ : List AVal := RcM.zero.cs .nilSlice
theorem zRec : z_api_Record = RcM.zero.av .nilSlice := rfl
theorem build_rc {parts : List (Nat × AVal)} {r : RcM} {v : AVal} (hs : ∀ p ∈ parts, rcZ[p.1]?.map Esc.sz = some (Esc.sz p.2)) (he : setParts rcZ parts = r.cs v) : vbuild T t_api_Record parts = some (r.av v) := by
  refine (build_struct (zs := rcZ) T_api_Record rfl rfl rfl (plOk_of rfl) hs).trans ?_
  rw [he]; rfl
theorem build_rc0 : vbuild T t_api_Record [] = some (RcM.zero.av .nilSlice) := rfl

def recOurs (u : UpdM) : RcM := { RcM.zero with kind := 1, upd := u }
theorem i64_n (n : Int) (h0 : -9223372036854775808 ≤ n) (h1 : n ≤ 9223372036854775807) : I64 n := ⟨h0, h1⟩
section
variable {F0 : List AId} {G0 G : Heap} {ps : List LP} {Q : AVal → Heap → Prop}

theorem build_ours {u : UpdM} (h : u.ok) : vbuild T t_api_Record [(0, .int .i64 1), (1, u.av)] = some ((recOurs u).av .nilSlice) := by
  refine build_rc (fun p hp => ?_) rfl
  simp only [List.mem_cons, List.not_mem_nil, or_false] at hp
  rcases hp with rfl | rfl
  · rfl
  · show some (Esc.sz UpdM.zero.av) = some (Esc.sz u.av)
    rw [UpdM.sz h, UpdM.sz UpdM.zero_ok]

end

end Go.Esc.M

/- Own work. Chapter 15: Offer, Settle, Refuse, Sign, Heard, in the program. -/
set_option linter.unusedSimpArgs false
set_option linter.unusedVariables false
set_option maxRecDepth 20000
namespace Go.Esc.M
open Go Go.Esc

theorem pair_eq {t : TypeId} (a b c d : Int) : vbin T .eql t_api_Counts (pairW a b) (pairW c d) = some (.bool (decide (a = c ∧ b = d))) := by
  have : veqD T 9 t_api_Counts (pairW a b) (pairW c d) = some (decide (a = c) && decide (b = d)) := by
    by_cases h1 : a = c <;> by_cases h2 : b = d <;> simp [pairW, veqD, eqF, T_api_Counts, ti_api_Counts, T_int, ti_int, h1, h2, vfits, sz, szs, AVal.isAgg, ADesc.isAgg]
  simp [vbin, pairW] at this ⊢
  rw [this]

section
variable {F0 : List AId} {G0 G : Heap} {ps : List LP} {Q : AVal → Heap → Prop}

end

end Go.Esc.M
