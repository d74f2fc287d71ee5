import Derived.Test.YtdoelihemgopcaaLCx
import Derived.Test.YtdoelihemgopcaaLSh
/- Own work. Chapter 3: values of the statements; a value laid; a step of a reader. -/
set_option linter.unusedSimpArgs false
set_option linter.unusedVariables false
set_option maxRecDepth 20000
namespace Go.Esc.M
open Go Go.Esc

/-- The statements' Val. -/
structure ValM where
  kind : Int
  u : Nat
  i : Int
  h : List UInt8
  s : List UInt8
  times : Int

def ValM.av (x : ValM) : AVal := .agg [.int .i64 x.kind, .int .u64 x.u, .int .i64 x.i, .agg (x.h.map u8v), .str x.s, .int .i64 x.times]

structure ValM.ok (x : ValM) (m : Nat) : Prop where
  kind : I64 x.kind
  u : x.u < 2 ^ 64
  i : I64 x.i
  h : x.h.length = 32
  times : I64 x.times
  m : x.s.length + 1 ≤ m

/-- The kind, 0 to 7. -/
def ValM.k (x : ValM) : Int := x.kind % 8

section
variable {G : Heap} {Q : AVal → Heap → Prop}

/-- A text, often behind itself. -/
def grown (s : List UInt8) : Nat → List UInt8 → List UInt8
  | 0, c => c
  | n + 1, c => if c.length < 70000 ∧ c ≠ [] then grown s n (c ++ s) else c
def ValM.text (x : ValM) : List UInt8 := grown x.s (x.times - 1).toNat x.s

section
variable {id : AId} {st : List UInt8 × Int} {F : List AId} {x : ValM} {m : Nat}

theorem ValM.fld {G : Heap} {i : AId} (hx : x.ok m) (hg : G i = some (.own x.av)) :
    vload T G t_uint64 (.ptr i [1] 1) = some (.int .u64 x.u) ∧ vload T G t_int64 (.ptr i [2] 2) = some (.int .i64 x.i) ∧ vload T G t_api_Hash (.ptr i [3] 3) = some (.agg (x.h.map u8v)) := by
  have h1 : szs (x.h.map u8v) = 32 := by rw [szs_uni (n := 1) (uni_u8 x.h)]; simp [hx.h]
  refine ⟨vload_fld (c := .int .u64 x.u) hg rfl rfl rfl T_uint64 rfl, vload_fld (c := .int .i64 x.i) hg rfl rfl rfl T_int64 rfl, vload_fld (c := .agg (x.h.map u8v)) hg rfl rfl rfl T_api_Hash ?_⟩
  simp [vfits, sz, h1, ti_api_Hash, AVal.isAgg, ADesc.isAgg]

end

/-- The statements' Op. -/
structure OpM where
  two : Bool
  v : ValM
  kind : Int
  n : Int

def OpM.av (o : OpM) : AVal := .agg [.bool o.two, o.v.av, .int .i64 o.kind, .int .i64 o.n]
structure OpM.ok (o : OpM) (m : Nat) : Prop where
  v : o.v.ok m
  m : 1 ≤ m

theorem ValM.ok.le {x : ValM} {m m' : Nat} (h : x.ok m) (hm : m ≤ m') : x.ok m' := ⟨h.kind, h.u, h.i, h.h, h.times, Nat.le_trans h.m hm⟩

end
end Go.Esc.M

/- Own work. Chapter 14: ledgers; which are sound. -/
set_option linter.unusedSimpArgs false
set_option linter.unusedVariables false
set_option maxRecDepth 20000
namespace Go.Esc
open Go Go.RowKit

/-- A map's row. -/
def MapL (id : AId) (es : List (AVal × AVal)) : LP where
  p := fun G F => G id = some (.map es) ∧ F = [id]
  rows := by rintro G F ⟨h, rfl⟩ j hj; simp at hj; subst hj; simp [h]
  loc := by rintro G G' F ⟨h, rfl⟩ hs; exact ⟨by rw [hs id (by simp)]; exact h, rfl⟩
theorem MapL.own {F0 : List AId} {G0 G : Heap} {ps : List LP} {i : Nat} {id : AId} {es : List (AVal × AVal)} (h : Sp F0 G0 ps G) (hi : ps[i]? = some (MapL id es)) : G id = some (.map es) := by
  obtain ⟨F, h, _⟩ := h.get hi
  exact h
section
variable {T : Tbl} {t kt et : TypeId} {i ki ei : TI} (ht : T t = some i) (hd : i.desc = .map kt et) (hk : T kt = some ki) (hkd : ki.desc = .bool) (he : T et = some ei) (hez : ei.zero = .int .i64 0) {G : Heap} {id : AId}

end

end Go.Esc
namespace Go.Esc.M
open Go Go.Esc

structure PenM where
  ours : Bool
  id : Int
  amount : Int
  hash : List UInt8
  deriving DecidableEq

def PenM.av (p : PenM) : AVal := .agg [.bool p.ours, .int .i64 p.id, .int .i64 p.amount, .agg (p.hash.map u8v)]
structure PenM.ok (p : PenM) : Prop where
  id : I64 p.id
  amount : I64 p.amount
  hash : p.hash.length = 32

theorem PenM.sz {p : PenM} (h : p.ok) : sz p.av = 35 := by
  have h1 : szs (p.hash.map u8v) = 32 := by rw [szs_uni (n := 1) (uni_u8 p.hash)]; simp [h.hash]
  simp [PenM.av, Esc.sz, szs, h1]
theorem PenM.okv (p : PenM) : okv p.av = true := by simp [PenM.av, Esc.okv, okvs, okvs_u8]
theorem PenM.fld {G : Heap} {i : AId} {p : PenM} (h : p.ok) (hg : G i = some (.own p.av)) :
    vload T G t_bool (.ptr i [0] 0) = some (.bool p.ours) ∧ vload T G t_int64 (.ptr i [1] 1) = some (.int .i64 p.id) ∧ vload T G t_int64 (.ptr i [2] 2) = some (.int .i64 p.amount) ∧ vload T G t_api_Hash (.ptr i [3] 3) = some (.agg (p.hash.map u8v)) := by
  have h1 : szs (p.hash.map u8v) = 32 := by rw [szs_uni (n := 1) (uni_u8 p.hash)]; simp [h.hash]
  refine ⟨vload_fld (c := .bool p.ours) hg rfl rfl rfl T_bool rfl, vload_fld (c := .int .i64 p.id) hg rfl rfl rfl T_int64 rfl, vload_fld (c := .int .i64 p.amount) hg rfl rfl rfl T_int64 rfl, vload_fld (c := .agg (p.hash.map u8v)) hg rfl rfl rfl T_api_Hash ?_⟩
  simp [vfits, Esc.sz, h1, ti_api_Hash, AVal.isAgg, ADesc.isAgg]

def maxAmount : Int := 1152921504606846976

def scanP : Int → Int → Nat → Nat → List PenM → Option (Nat × Nat)
  | _, _, ct, cf, [] => some (ct, cf)
  | lt, lf, ct, cf, p :: l =>
    if p.amount < 1 ∨ maxAmount < p.amount ∨ p.id ≤ (bif p.ours then lt else lf) ∨ (p.ours = true ∧ 0 < cf) then none
    else bif p.ours then scanP p.id lf (ct + 1) cf l else scanP lt p.id ct (cf + 1) l
def few (r : Option (Nat × Nat)) : Bool :=
  match r with
  | none => false
  | some (a, b) => decide (a ≤ 483) && decide (b ≤ 483)
def soundP (o q : Int) (l : List PenM) : Bool := decide (0 ≤ o) && decide (o ≤ maxAmount) && decide (0 ≤ q) && decide (q ≤ maxAmount) && few (scanP (-1) (-1) 0 0 l)

section
variable {G : Heap} {Q : AVal → Heap → Prop}

end
end Go.Esc.M

/- Own work. Chapter 14: a commitment's bytes, in the program. -/
set_option linter.unusedSimpArgs false
set_option linter.unusedVariables false
set_option maxRecDepth 20000
namespace Go.Esc.M
open Go Go.Esc

def PenM.bytes (p : PenM) : List UInt8 := be 1 (bif p.ours then 1 else 0) ++ (be 8 (bits64 p.id) ++ (be 8 (bits64 p.amount) ++ p.hash))
def textB (owner index : Int) (point : List UInt8) (o q : Int) (l : List PenM) : List UInt8 :=
  be 1 owner.toNat ++ (be 8 (bits64 index) ++ (point ++ (be 8 (bits64 o) ++ (be 8 (bits64 q) ++ (be 2 l.length ++ l.flatMap PenM.bytes)))))
def maxIndex : Int := 281474976710655
def argBad (owner index : Int) : Prop := owner < 0 ∨ 1 < owner ∨ index < 0 ∨ maxIndex < index
instance (owner index : Int) : Decidable (argBad owner index) := inferInstanceAs (Decidable (_ ∨ _ ∨ _ ∨ _))
section
variable {F0 : List AId} {G0 G : Heap} {ps : List LP} {Q : AVal → Heap → Prop}

/-- A value laid by a writer that is not broken. -/
theorem wr {id : AId} {bs xs : List UInt8} {n : FuncId} {args : List AVal} {i : Nat} {K : AVal → Heap → Prop} (hs : Sp F0 G0 ps G) (hi : ps[i]? = some (WrL id bs 0))
    (huse : ∀ {G : Heap} {F : List AId} {Q : AVal → Heap → Prop}, Wr id (bs, 0) G F → (∀ F' G', Wr id (laid (bs, 0) xs) G' F' → Ch F G F' G' → Q (.tuple []) G') → ACalls P n args G Q)
    (hK : ∀ G', Sp F0 G0 (ps.set i (WrL id (bs ++ xs) 0)) G' → K (.tuple []) G') : ACalls P n args G K := by
  refine hs.call hi (WrL id (bs ++ xs) 0) fun F h k => ?_
  exact huse h fun F' G' w c => hK _ (k F' G' w c)

theorem u8_conv (n : Int) (h0 : 0 ≤ n) (h1 : n ≤ 255) : vconv T G t_int t_uint8 (.int .i64 n) = some (.int .u8 (n.toNat : Nat)) := by
  rw [vconv_int T_int T_uint8 rfl, u8_in h0 h1]
  congr 2
  omega

end
end Go.Esc.M

/- Own work. Chapter 14: the document's texts. -/
set_option linter.unusedSimpArgs false
set_option linter.unusedVariables false
set_option maxRecDepth 20000
namespace Go.Esc
open Go Go.RowKit

end Go.Esc
namespace Go.Esc.M
open Go Go.Esc

/-- May it stand behind these? -/
structure Okp (pre : List PenM) (p : PenM) : Prop where
  id : 0 ≤ p.id
  amount : 1 ≤ p.amount
  most : p.amount ≤ maxAmount
  pair : ∀ q ∈ pre, ¬ (p.ours = true ∧ q.ours = false) ∧ ¬ (p.ours = q.ours ∧ p.id ≤ q.id)
def Okl : List PenM → List PenM → Prop
  | _, [] => True
  | pre, p :: l => Okp pre p ∧ Okl (pre ++ [p]) l

def cnt (b : Bool) (l : List PenM) : Nat := (l.filter (fun p => p.ours == b)).length
structure Inv (pre : List PenM) (lt lf : Int) (cf : Nat) : Prop where
  lt1 : -1 ≤ lt
  lf1 : -1 ≤ lf
  lt0 : lt = -1 ∨ ∃ q ∈ pre, q.ours = true ∧ q.id = lt
  lf0 : lf = -1 ∨ ∃ q ∈ pre, q.ours = false ∧ q.id = lf
  ltm : ∀ q ∈ pre, q.ours = true → q.id ≤ lt
  lfm : ∀ q ∈ pre, q.ours = false → q.id ≤ lf
  cf0 : 0 < cf ↔ ∃ q ∈ pre, q.ours = false

theorem Okl.split : ∀ {l pre : List PenM} (j : Nat), Okl pre l ↔ Okl pre (l.take j) ∧ Okl (pre ++ l.take j) (l.drop j)
  | [], pre, j => by simp [Okl]
  | p :: l, pre, 0 => by simp [Okl]
  | p :: l, pre, j + 1 => by
    simp only [Okl, List.take_succ_cons, List.drop_succ_cons]
    rw [Okl.split (l := l) (pre := pre ++ [p]) j, and_assoc, List.append_assoc]
    rfl

theorem Okl.mem : ∀ {l pre : List PenM}, Okl pre l → ∀ p ∈ l, 0 ≤ p.id ∧ 1 ≤ p.amount ∧ p.amount ≤ maxAmount
  | q :: l, pre, h, p, hp => by
    rcases List.mem_cons.1 hp with rfl | hp
    · exact ⟨h.1.id, h.1.amount, h.1.most⟩
    · exact Okl.mem h.2 p hp

/-- Sound, in the document's words. -/
structure SoundD (o q : Int) (l : List PenM) : Prop where
  o0 : 0 ≤ o
  o1 : o ≤ maxAmount
  q0 : 0 ≤ q
  q1 : q ≤ maxAmount
  t : cnt true l ≤ 483
  f : cnt false l ≤ 483
  l : Okl [] l

end Go.Esc.M

/- Own work. Chapter 14: the document's texts, walked. -/
set_option linter.unusedSimpArgs false
set_option linter.unusedVariables false
set_option maxRecDepth 20000
namespace Go.Esc.M
open Go Go.Esc

section
variable {F0 : List AId} {G0 G : Heap} {ps : List LP} {Q : AVal → Heap → Prop}

end
end Go.Esc.M
