import Derived.Test.YtooeiljhobdfpaaLHd
import Derived.Test.YtooeiljhobdfpaaEZ
import Derived.Test.YtooeiljhobdfpaaSS
/- Own work. Chapter 2: the document's sum. -/
set_option linter.unusedSimpArgs false
set_option linter.unusedVariables false
namespace Go.Esc.M
open Go Go.Esc

section
variable {G : Heap} {Q : AVal → Heap → Prop}

end
end Go.Esc.M

/- Own work. Chapter 2: the document's sum, texts and keys. -/
set_option linter.unusedSimpArgs false
set_option linter.unusedVariables false
namespace Go.Esc.M
open Go Go.Esc

section
variable {G : Heap} {Q : AVal → Heap → Prop}

theorem Sp.nilOwn {F0 : List AId} {G0 : Heap} {ps : List LP} (hs : Sp F0 G0 ps G) (n : Nat) : Sp F0 G0 (OwnL n .nilSlice [] :: ps) G := hs.new (p := OwnL n .nilSlice []) ⟨.inl ⟨rfl, rfl⟩, rfl⟩ (Ch.refl _ _)

end
end Go.Esc.M

/- Own work. Chapter 3: the writers. -/
set_option linter.unusedSimpArgs false
set_option linter.unusedVariables false
namespace Go.Esc.M
open Go Go.Esc

/-- A number's bytes, the greatest first. -/
def be : Nat → Nat → List UInt8
  | 0, _ => []
  | k + 1, v => UInt8.ofNat (v / 2 ^ (8 * k)) :: be k v

theorem length_be (v : Nat) : ∀ k, (be k v).length = k
  | 0 => rfl
  | k + 1 => by simp [be, length_be v k]

theorem shr_byte (v i : Nat) (hi : i ≤ 7) : IntKind.u8.wrap ((v : Int).fdiv (2 ^ min ((8 : Int) * (i : Int)).toNat IntKind.u64.bits)) = ((v / 2 ^ (8 * i) % 256 : Nat) : Int) := by
  have h1 : min ((8 : Int) * (i : Int)).toNat IntKind.u64.bits = 8 * i := by
    have : IntKind.u64.bits = 64 := rfl
    omega
  rw [h1, IntKind.wrap_u8]
  have h2 : ((2 : Int) ^ (8 * i)) = ((2 ^ (8 * i) : Nat) : Int) := by simp
  rw [h2, Int.fdiv_eq_ediv_of_nonneg _ (Int.natCast_nonneg _)]
  simp

/-- What a writer holds behind more bytes: nothing more once it is broken. -/
def laid (st : List UInt8 × Int) (xs : List UInt8) : List UInt8 × Int := if st.2 = 0 then (st.1 ++ xs, 0) else st

def Wr (id : AId) (st : List UInt8 × Int) (G : Heap) (F : List AId) : Prop := WrP id st.1 st.2 G F

theorem WrP.fault {id : AId} {bs : List UInt8} {f : Int} {G : Heap} {F : List AId} (h : WrP id bs f G F) : vload T G t_api_Errno (.ptr id [1] 1) = some (.int .i64 f) := by
  obtain ⟨s, hg, ho, _⟩ := h
  exact vload_fld hg rfl (by simp [szs, ho.leaf.1]) rfl T_api_Errno rfl

end Go.Esc.M
