import Derived.Test.YtooeiljhobdfpaaLHe
import Derived.Test.YtooeiljhobdfpaaEZ
import Derived.Test.YtooeiljhobdfpaaSS
/- Own work. Chapter 2: the document's sum, texts and keys. -/
set_option linter.unusedSimpArgs false
set_option linter.unusedVariables false
namespace Go.Esc.M
open Go Go.Esc

section
variable {G : Heap} {Q : AVal → Heap → Prop}

theorem Sp.nilOwn {F0 : List AId} {G0 : Heap} {ps : List LP} (hs : Sp F0 G0 ps G) (n : Nat) : Sp F0 G0 (OwnL n .nilSlice [] :: ps) G := hs.new (p := OwnL n .nilSlice []) ⟨.inl ⟨rfl, rfl⟩, rfl⟩ (Ch.refl _ _)

end
end Go.Esc.M

/- Own work. Chapter 3: the writers. -/
set_option linter.unusedSimpArgs false
set_option linter.unusedVariables false
namespace Go.Esc.M
open Go Go.Esc

/-- A number's bytes, the greatest first. -/
def be : Nat → Nat → List UInt8
  | 0, _ => []
  | k + 1, v => UInt8.ofNat (v / 2 ^ (8 * k)) :: be k v

theorem length_be (v : Nat) : ∀ k, (be k v).length = k
  | 0 => rfl
  | k + 1 => by simp [be, length_be v k]

theorem shr_byte (v i : Nat) (hi : i ≤ 7) : IntKind.u8.wrap ((v : Int).fdiv (2 ^ min ((8 : Int) * (i : Int)).toNat IntKind.u64.bits)) = ((v / 2 ^ (8 * i) % 256 : Nat) : Int) := by
  have h1 : min ((8 : Int) * (i : Int)).toNat IntKind.u64.bits = 8 * i := by
    have : IntKind.u64.bits = 64 := rfl
    omega
  rw [h1, IntKind.wrap_u8]
  have h2 : ((2 : Int) ^ (8 * i)) = ((2 ^ (8 * i) : Nat) : Int) := by simp
  rw [h2, Int.fdiv_eq_ediv_of_nonneg _ (Int.natCast_nonneg _)]
  simp

/-- What a writer holds behind more bytes: nothing more once it is broken. -/
def laid (st : List UInt8 × Int) (xs : List UInt8) : List UInt8 × Int := if st.2 = 0 then (st.1 ++ xs, 0) else st

def Wr (id : AId) (st : List UInt8 × Int) (G : Heap) (F : List AId) : Prop := WrP id st.1 st.2 G F

theorem WrP.fault {id : AId} {bs : List UInt8} {f : Int} {G : Heap} {F : List AId} (h : WrP id bs f G F) : vload T G t_api_Errno (.ptr id [1] 1) = some (.int .i64 f) := by
  obtain ⟨s, hg, ho, _⟩ := h
  exact vload_fld hg rfl (by simp [szs, ho.leaf.1]) rfl T_api_Errno rfl

end Go.Esc.M

/- Own work. Chapter 3: the writers, all of their functions. -/
set_option linter.unusedSimpArgs false
set_option linter.unusedVariables false
namespace Go.Esc.M
open Go Go.Esc

theorem vconv_bytes {T : Tbl} {G : Heap} {s d e : TypeId} {si di ie : TI} {v : AVal} {l : List UInt8} (hs : T s = some si) (hsd : si.desc = .slice e) (he : T e = some ie) (hed : ie.desc = .int .u8) (hd : T d = some di) (hdd : di.desc = .string)
    (h : IsSl 1 G v (l.map u8v)) : vconv T G s d v = some (.str l) := by
  rcases h with ⟨id, p, st, off, len, cap, rfl, h⟩ | ⟨rfl, hl⟩
  · simp [vconv, hs, hd, hdd, hsd, he, hed, h, bytesOf_u8]
  · have : l = [] := by simpa using hl
    subst this
    simp [vconv, hs, hd, hdd, hsd, he, hed]

theorem Wr.ch {id : AId} {st : List UInt8 × Int} {G G' : Heap} {F E E' : List AId} (h : Wr id st G F) (hc : Ch E G E' G') (hd : ∀ j ∈ F, j ∉ E) : Wr id st G' F := WrP.frame h (hc.same (WrP.rows h) hd)

theorem laid_append (st : List UInt8 × Int) (xs ys : List UInt8) : laid (laid st xs) ys = laid st (xs ++ ys) := by
  unfold laid
  by_cases h : st.2 = 0 <;> simp [h]
theorem length_laid (st : List UInt8 × Int) (xs : List UInt8) : (laid st xs).1.length ≤ st.1.length + xs.length := by
  unfold laid
  by_cases h : st.2 = 0 <;> simp [h]

/-- A text of a writer's: its length in two bytes and itself, or the fault. -/
def laidText (st : List UInt8 × Int) (xs : List UInt8) : List UInt8 × Int := if st.2 = 0 ∧ 65535 < xs.length then (st.1, 3) else laid st (be 2 xs.length ++ xs)

theorem WrP.setFault {id : AId} {bs : List UInt8} {f g : Int} {G : Heap} {F : List AId} (h : WrP id bs f G F) : ∃ G', vstore T G t_api_Errno (.ptr id [1] 1) (.int .i64 g) = some G' ∧ WrP id bs g G' F ∧ Ch F G F G' := by
  obtain ⟨s, hg, ho, hne, rfl⟩ := h
  refine ⟨_, vstore_fld hg (by simp [szs, ho.leaf.1]) rfl T_api_Errno rfl rfl rfl, ⟨s, Heap.upd_self _ _ _, ho.upd hne, hne, rfl⟩, ⟨roLe_upd hg (by simp), fun j o hj hn => ?_, fun j hj => .inl hj⟩⟩
  rw [Heap.upd_ne _ _ (fun e => hn (by simp [e]))]
  exact hj

section
variable {id : AId} {st : List UInt8 × Int} {G : Heap} {F : List AId} {Q : AVal → Heap → Prop}

/-- A signed number's bits, as a number. -/
def bits64 (n : Int) : Nat := (n % 18446744073709551616).toNat
theorem bits64_lt (n : Int) : bits64 n < 2 ^ 64 := by
  unfold bits64
  omega
theorem wrap_bits64 (n : Int) : IntKind.u64.wrap n = (bits64 n : Int) := by
  rw [wrapU64]
  unfold bits64
  omega

end
end Go.Esc.M

/- Own work. Chapter 3: the document's writers. -/
set_option linter.unusedSimpArgs false
set_option linter.unusedVariables false
namespace Go.Esc.M
open Go Go.Esc

section
variable {id : AId} {st : List UInt8 × Int} {G : Heap} {F : List AId} {Q : AVal → Heap → Prop}

theorem laid_nil (st : List UInt8 × Int) : laid st [] = st := by
  obtain ⟨a, b⟩ := st
  by_cases h : b = 0 <;> simp [laid, h]

theorem be1 (b : UInt8) : be 1 b.toNat = [b] := by simp [be]

end
end Go.Esc.M
