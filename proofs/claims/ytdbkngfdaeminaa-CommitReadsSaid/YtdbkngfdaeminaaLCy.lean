/- Own work. Chapter 3: values of the statements; a value laid; a step of a reader. -/
import Derived.Test.YtdbkngfdaeminaaLCx
set_option linter.unusedSimpArgs false
set_option linter.unusedVariables false
set_option maxRecDepth 20000
namespace Go.Esc.M
open Go Go.Esc

/-- The statements' Val. -/
structure ValM where
  kind : Int
  u : Nat
  i : Int
  h : List UInt8
  s : List UInt8
  times : Int

def ValM.av (x : ValM) : AVal := .agg [.int .i64 x.kind, .int .u64 x.u, .int .i64 x.i, .agg (x.h.map u8v), .str x.s, .int .i64 x.times]

structure ValM.ok (x : ValM) (m : Nat) : Prop where
  kind : I64 x.kind
  u : x.u < 2 ^ 64
  i : I64 x.i
  h : x.h.length = 32
  times : I64 x.times
  m : x.s.length + 1 ≤ m

/-- The kind, 0 to 7. -/
def ValM.k (x : ValM) : Int := x.kind % 8

section
variable {G : Heap} {Q : AVal → Heap → Prop}

/-- A text, often behind itself. -/
def grown (s : List UInt8) : Nat → List UInt8 → List UInt8
  | 0, c => c
  | n + 1, c => if c.length < 70000 ∧ c ≠ [] then grown s n (c ++ s) else c
def ValM.text (x : ValM) : List UInt8 := grown x.s (x.times - 1).toNat x.s

theorem length_grown (s : List UInt8) : ∀ n c, (grown s n c).length ≤ max c.length (70000 + s.length)
  | 0, c => by simp [grown]; omega
  | n + 1, c => by
    unfold grown
    split
    · have := length_grown s n (c ++ s)
      simp at this
      omega
    · omega
theorem ValM.length_text (x : ValM) : x.text.length ≤ 70000 + x.s.length := by
  have := length_grown x.s (x.times - 1).toNat x.s
  unfold ValM.text
  omega

section
variable {id : AId} {st : List UInt8 × Int} {F : List AId} {x : ValM} {m : Nat}

theorem ValM.fld {G : Heap} {i : AId} (hx : x.ok m) (hg : G i = some (.own x.av)) :
    vload T G t_uint64 (.ptr i [1] 1) = some (.int .u64 x.u) ∧ vload T G t_int64 (.ptr i [2] 2) = some (.int .i64 x.i) ∧ vload T G t_api_Hash (.ptr i [3] 3) = some (.agg (x.h.map u8v)) := by
  have h1 : szs (x.h.map u8v) = 32 := by rw [szs_uni (n := 1) (uni_u8 x.h)]; simp [hx.h]
  refine ⟨vload_fld (c := .int .u64 x.u) hg rfl rfl rfl T_uint64 rfl, vload_fld (c := .int .i64 x.i) hg rfl rfl rfl T_int64 rfl, vload_fld (c := .agg (x.h.map u8v)) hg rfl rfl rfl T_api_Hash ?_⟩
  simp [vfits, sz, h1, ti_api_Hash, AVal.isAgg, ADesc.isAgg]

end

/-- The statements' Op. -/
structure OpM where
  two : Bool
  v : ValM
  kind : Int
  n : Int

def OpM.av (o : OpM) : AVal := .agg [.bool o.two, o.v.av, .int .i64 o.kind, .int .i64 o.n]
structure OpM.ok (o : OpM) (m : Nat) : Prop where
  v : o.v.ok m
  m : 1 ≤ m

theorem ValM.ok.le {x : ValM} {m m' : Nat} (h : x.ok m) (hm : m ≤ m') : x.ok m' := ⟨h.kind, h.u, h.i, h.h, h.times, Nat.le_trans h.m hm⟩

end
end Go.Esc.M
