import Derived.Test.YtooeiljhobdfpaaLUb
import Derived.Test.YtooeiljhobdfpaaLCx
/- Own work. Chapter 12: updates read. -/
set_option linter.unusedSimpArgs false
set_option linter.unusedVariables false
namespace Go.Esc.M
open Go Go.Esc

def okU (u : UpdM) (n : Nat) : UpdM × Int × Int := bif validU u then (u, (n : Int), 0) else (UpdM.zero, 0, 120)
def idU (b : List UInt8) : Int := ((num (slice b 1 2) : Nat) : Int)
/-- What bytes begin with: an update, its length, the fault. -/
def readU (b : List UInt8) : UpdM × Int × Int :=
  if b = [] then (UpdM.zero, 0, 2)
  else if num (slice b 0 1) = 1 then (if b.length < 43 then (UpdM.zero, 0, 2) else okU ⟨1, idU b, IntKind.i64.wrap (num (slice b 3 8) : Nat), slice b 11 32, []⟩ 43)
  else if num (slice b 0 1) = 2 then (if b.length < 35 then (UpdM.zero, 0, 2) else okU ⟨2, idU b, 0, slice b 3 32, []⟩ 35)
  else if num (slice b 0 1) = 3 then (if b.length < 5 then (UpdM.zero, 0, 2) else if 64 < num (slice b 3 2) then (UpdM.zero, 0, 120) else if b.length < 5 + num (slice b 3 2) then (UpdM.zero, 0, 2)
    else okU ⟨3, idU b, 0, h0, slice b 5 (num (slice b 3 2))⟩ (5 + num (slice b 3 2)))
  else (UpdM.zero, 0, 120)

theorem mkok {k i a : Int} {h n : List UInt8} (hk : I64 k) (hi : I64 i) (ha : I64 a) (hh : h.length = 32) (hn : n.length ≤ 9223372036854775807) : (⟨k, i, a, h, n⟩ : UpdM).ok := ⟨hk, hi, ha, hh, hn⟩
theorem i64_0 : I64 0 := ⟨by decide, by decide⟩
theorem i64_small {n : Int} (h0 : 0 ≤ n) (h1 : n ≤ 65536) : I64 n := ⟨by omega, by omega⟩
theorem tk {b : List UInt8} {a n : Nat} {nn : Int} (hn : nn = (n : Int)) (ha : a ≤ b.length) : takes (b.drop a, 0) nn = if a + n ≤ b.length then (slice b a n, (b.drop (a + n), 0)) else ([], ([], 2)) := by
  by_cases h : a + n ≤ b.length
  · rw [if_pos h, takes_at hn h]
  · rw [if_neg h, takes_short (by rw [List.length_drop]; omega)]
theorem tkb {nn : Int} : takes ([], 2) nn = ([], ([], 2)) := takes_broken (by decide)
theorem zUpd : z_api_Update = UpdM.zero.av := rfl
theorem build_kind {n : Int} : vbuild T t_api_Update [(0, .int .i64 n)] = some ({ UpdM.zero with kind := n } : UpdM).av := rfl
theorem build_none : vbuild T t_api_Update [] = some UpdM.zero.av := rfl
theorem num1_lt {b : List UInt8} : num (slice b 0 1) < 256 := num_lt_of (k := 1) (List.length_take_le _ _)
theorem num2_lt {b : List UInt8} {a : Nat} : num (slice b a 2) < 65536 := num_lt_of (k := 2) (List.length_take_le _ _)

section
variable {F0 : List AId} {G0 G : Heap} {ps : List LP} {Q : AVal → Heap → Prop}

def tupU (x : UpdM × Int × Int) : AVal := .tuple [x.1.av, .int .i64 x.2.1, .int .i64 x.2.2]

end
end Go.Esc.M

/- Own work. Chapter 12: updates read, in the document. -/
set_option linter.unusedSimpArgs false
set_option linter.unusedVariables false
namespace Go.Esc.M
open Go Go.Esc

def sizeU (b : List UInt8) : Int :=
  if num (slice b 0 1) = 1 then 43 else if num (slice b 0 1) = 2 then 35 else if num (slice b 0 1) ≠ 3 then -1 else if b.length < 5 then 0 else if 64 < num (slice b 3 2) then -1 else ((5 + num (slice b 3 2) : Nat) : Int)

theorem str_mid {b : List UInt8} {k k' : IntKind} {lo hi : Int} (a n : Nat) (ha : lo = (a : Int)) (hn : hi = ((a + n : Nat) : Int)) (h : a + n ≤ b.length) : vslice T t_string (.str b) (some (.int k lo)) (some (.int k' hi)) none = some (.str (slice b a n)) := by
  subst ha hn
  have hb : sbounds b.length b.length (some (.int k ((a : Nat) : Int))) (some (.int k' ((a + n : Nat) : Int))) none = some (a, a + n, b.length) := by
    have h0 : (0 : Int) ≤ ((a + n : Nat) : Int) ∧ ((a + n : Nat) : Int) ≤ ((b.length : Nat) : Int) := by omega
    have h1 : (0 : Int) ≤ ((a : Nat) : Int) ∧ ((a : Nat) : Int) ≤ ((a + n : Nat) : Int) := by omega
    simp only [sbounds, sbound, if_pos h0, Int.toNat_natCast]
    simp only [Option.isNone_some, Bool.false_and, Bool.false_eq_true, if_false, if_pos h1]
  simp only [vslice, T_string, ti_string, hb]
  simp [slice]

theorem idx0 {b : List UInt8} (h : b ≠ []) : vindex T t_string (.str b) (.int .i64 0) = some (.int .u8 (num (slice b 0 1) : Nat)) := by
  have hl : 0 < b.length := by cases b with | nil => exact absurd rfl h | cons x b => simp
  have := vindex_str (l := b) (j := 0) hl
  rw [show ((0 : Nat) : Int) = 0 from rfl] at this
  rw [this, num_slice_one hl]

theorem build_two {k i : Int} : vbuild T t_api_Update [(0, .int .i64 k), (1, .int .i64 i)] = some (⟨k, i, 0, h0, []⟩ : UpdM).av := rfl

section
variable {F0 : List AId} {G0 G : Heap} {ps : List LP} {Q : AVal → Heap → Prop}

end
end Go.Esc.M

/- Own work. Chapter 12: finds; adds; UpdateBytes. -/
set_option linter.unusedSimpArgs false
set_option linter.unusedVariables false
namespace Go.Esc.M
open Go Go.Esc

def hits (rm : Bool) (id : Int) (u : UpdM) : Bool := decide (u.id = id) && bif rm then decide (u.kind = 2) || decide (u.kind = 3) else decide (u.kind = 1)
def firstU (rm : Bool) (id : Int) (l : List UpdM) : Option UpdM := l.find? (hits rm id)
def optU (o : Option UpdM) : AVal := .tuple [(o.getD UpdM.zero).av, .bool o.isSome]
def addsU (l : List UpdM) : Nat := (l.filter (fun u => decide (u.kind = 1))).length
theorem firstU_ok {rm : Bool} {id : Int} {l : List UpdM} (h : ∀ u ∈ l, u.ok) : ((firstU rm id l).getD UpdM.zero).ok := by
  cases hf : firstU rm id l with
  | none => exact UpdM.zero_ok
  | some u => exact h u (List.mem_of_find?_eq_some hf)
theorem addsU_take {l : List UpdM} {j : Nat} {u : UpdM} (h : l[j]? = some u) : addsU (l.take (j + 1)) = addsU (l.take j) + (if u.kind = 1 then 1 else 0) := by
  rw [List.take_add_one, h]
  unfold addsU
  rw [List.filter_append, List.length_append]
  by_cases hk : u.kind = 1 <;> simp [hk]
theorem addsU_le (l : List UpdM) : addsU l ≤ l.length := List.length_filter_le _ _

section
variable {F0 : List AId} {G0 G : Heap} {ps : List LP} {Q : AVal → Heap → Prop}

theorem upd_at {v : AVal} {l : List UpdM} {j : Nat} {u : UpdM} (h : IsSl 36 G v (l.map UpdM.av)) (hj : l[j]? = some u) : ∃ a, viaddr T t_sl_api_Update v (.int .i64 (j : Int)) = some a ∧ vload T G t_api_Update a = some u.av :=
  h.at_ (k := .i64) (i := ti_sl_api_Update) (ie := ti_api_Update) (T := T) (t := t_sl_api_Update) (e := t_api_Update) T_sl_api_Update rfl T_api_Update (by rw [List.getElem?_map, hj]; rfl) rfl
theorem upd_len {v : AVal} {l : List UpdM} (h : IsSl 36 G v (l.map UpdM.av)) : vlen T G t_sl_api_Update v = some (.int .i64 (l.length : Nat)) := by
  rw [h.len (i := ti_sl_api_Update) T_sl_api_Update rfl, List.length_map]
theorem newU {u : UpdM} {K : AId → Heap → Prop} (hs : Sp F0 G0 ps G) (hu : u.ok) (hK : ∀ i G', Sp F0 G0 (RowL i u.av :: ps) G' → K i G') : aNew G (.own z_api_Update) fun i G2 => wg (vstore T G2 t_api_Update (.ptr i [] 0) u.av) fun G3 => K i G3 :=
  newVal hs T_api_Update (UpdM.fits hu) (by rw [UpdM.sz hu]; rfl) (UpdM.okv u) hK

theorem opt0 (o : Option UpdM) : vextract (optU o) 0 = some (o.getD UpdM.zero).av := rfl
theorem opt1 (o : Option UpdM) : vextract (optU o) 1 = some (.bool o.isSome) := rfl

/-- May an update stand behind a list? Where no sum is asked for. -/
def nextA (mine : List UpdM) (u : UpdM) : Int := if 2048 ≤ mine.length then 6 else if validU u = false then 120 else if u.id = (addsU mine : Nat) then 0 else 120
end
end Go.Esc.M
