/- Own work. A law's arguments, read out of the caller's memory: trees, and a heap that nobody may turn. -/
import Derived.Test.YtbckpbdamfhehaaGreatDoorER
import Derived.ChangeArms
import Derived.ProofKit
import Derived.OpenShut
import Derived.ShutString
import Derived.ChangeOld
import Derived.Below
import Derived.JoinedCond
import Derived.SizedLaws
import Derived.KernelRfl
set_option linter.unusedSimpArgs false
set_option linter.unusedVariables false
set_option linter.unusedSectionVars false
namespace Go.Esc
open Go Go.RowKit

/-! ### How much a reading holds -/
mutual
def bulk {H : Type} : DataW H → Nat
  | .lit (.string bytes) => bytes.length + 1
  | .lit _ => 1
  | .nil => 1
  | .ptr d => bulk d + 1
  | .slice elems spare => bulkAll elems + bulkAll spare + 1
  | .agg parts => bulkAll parts + 1
  | .iface _ d => bulk d + 1
  | .map entries => bulkEntries entries + 1
  | .held _ => 1
def bulkAll {H : Type} : List (DataW H) → Nat
  | [] => 0
  | d :: r => bulk d + bulkAll r
def bulkEntries {H : Type} : List (Lit × DataW H) → Nat
  | [] => 0
  | x :: r => bulkEntry x + bulkEntries r
def bulkEntry {H : Type} : Lit × DataW H → Nat
  | (.string bytes, d) => bytes.length + bulk d + 1
  | (_, d) => bulk d + 1
end

theorem bulkAll_append {H : Type} : ∀ (a b : List (DataW H)), bulkAll (a ++ b) = bulkAll a + bulkAll b
  | [], b => by simp [bulkAll]
  | x :: a, b => by simp [bulkAll, bulkAll_append a b]; omega

/-! ### Trees out of cells -/

def codeM : Nat := 4294967296

/-- A window's number: element type, places, depth. -/
def winOf (d e cap : Nat) : Nat := 8 * (codeM * cap + e) + d + 1

def decFs (f : TypeId → List Value → Option AVal) (T : Tbl) (cs : List Value) : List (TypeId × Nat) → Option (List AVal)
  | [] => some []
  | g :: fs => match T g.1 with
    | some i => match f g.1 ((cs.drop g.2).take i.size), decFs f T cs fs with
      | some v, some l => some (v :: l)
      | _, _ => none
    | none => none

def decEs (f : List Value → Option AVal) (s : Nat) (cs : List Value) : Nat → Nat → Option (List AVal)
  | _, 0 => some []
  | k, n + 1 => match f ((cs.drop (k * s)).take s), decEs f s cs (k + 1) n with
    | some v, some l => some (v :: l)
    | _, _ => none

/-- 'ob': none where the slices' addresses are known to lie in memory; else a block that does (a list without any room may have any address: it is read as a hollow one). -/
def decT (T : Tbl) (ob : Option Nat) : Nat → TypeId → List Value → Option AVal
  | 0, _, _ => none
  | d + 1, t, cs => match T t with
    | none => none
    | some i => match i.desc with
      | .bool => match cs with
        | [.bool b] => some (.bool b)
        | _ => none
      | .int k => match cs with
        | [.int k' n] => if k' = k then some (.int k n) else none
        | _ => none
      | .string => match cs with
        | [.string s] => some (.str s.data.toList)
        | _ => none
      | .slice e => match cs with
        | [.slice none 0 0] => some .nilSlice
        | [.slice (some a) len cap] => match ob with
          | none => some (.slice ⟨a.block, a.off, .n (winOf d e cap)⟩ [] 0 0 len cap)
          | some b => if cap = 0 then some (.slice ⟨b, 0, .h a⟩ [] 0 0 0 0) else some (.slice ⟨a.block, a.off, .n (winOf d e cap)⟩ [] 0 0 len cap)
        | _ => none
      | .struct fs => match decFs (decT T ob d) T cs fs with
        | some l => some (.agg l)
        | none => none
      | .array n e => match T e with
        | some ie => match decEs (decT T ob d e) ie.size cs 0 n with
          | some l => some (.agg l)
          | none => none
        | none => none
      | _ => none

/-- The elements of a window. -/
def rowEs (W : World) (T : Tbl) (d : Nat) (e : TypeId) (s b o : Nat) : Nat → Nat → Option (List AVal)
  | _, 0 => some []
  | k, n + 1 => match (W.cells? 0 ⟨b, o + k * s, none⟩ s).bind (decT T (some b) d e), rowEs W T d e s b o (k + 1) n with
    | some v, some l => some (v :: l)
    | _, _ => none

open Classical in
noncomputable def roW (W : World) (T : Tbl) (id : AId) : Option AVal :=
  match id.win with
  | .h _ => if id.block < W.heap.size then some (.agg []) else none
  | .n 0 => none
  | .n (m + 1) =>
    match T (m / 8 % codeM) with
    | some ie => match rowEs W T (m % 8) (m / 8 % codeM) ie.size id.block id.start 0 (m / 8 / codeM) with
      | some cs => if id.block < W.heap.size ∧ ∀ j u, (flat (.agg cs))[j]? = some u → W.cell? ⟨id.block, id.start + j, none⟩ = some u then some (.agg cs) else none
      | none => none
    | none => none

theorem winOf_dec {d e cap : Nat} (hd : d < 8) (he : e < codeM) : ∃ m, winOf d e cap = m + 1 ∧ m % 8 = d ∧ m / 8 % codeM = e ∧ m / 8 / codeM = cap := by
  refine ⟨8 * (codeM * cap + e) + d, rfl, by omega, ?_, ?_⟩
  · have : (8 * (codeM * cap + e) + d) / 8 = codeM * cap + e := by omega
    rw [this]
    unfold codeM at *
    omega
  · have : (8 * (codeM * cap + e) + d) / 8 = codeM * cap + e := by omega
    rw [this]
    unfold codeM at *
    omega

noncomputable def argBase (W : World) (T : Tbl) : Base where
  w0 := W
  prot := fun b => b < W.heap.size
  lt := fun _ h => h
  ro := roW W T
  cells := fun id t h => by
    unfold roW at h
    split at h
    · split at h
      · rename_i hb
        injection h with h; subst h
        exact ⟨hb, fun j u hj => by simp [flat_agg, flats] at hj⟩
      · cases h
    · cases h
    · rename_i hw
      split at h
      · split at h
        · split at h
          · rename_i hc
            injection h with h; subst h
            exact ⟨hc.1, fun j u hj => ⟨by unfold AId.hol; rw [hw], hc.2 j u hj⟩⟩
          · cases h
        · cases h
      · cases h

noncomputable def argHeap (W : World) (T : Tbl) : Heap := fun id => (roW W T id).map .ro

theorem argRel (W : World) (T : Tbl) : Rel (argBase W T) (argHeap W T) W := by
  refine ⟨rfl, rfl, rfl, Nat.le_refl _, fun _ _ => rfl, fun id o ho => ?_⟩
  simp only [argHeap, Option.map_eq_some_iff] at ho
  obtain ⟨t, ht, rfl⟩ := ho
  exact ht

theorem below_of {W : World} {T : Tbl} {G' : Heap} {w' : World} (h : Rel (argBase W T) G' w') : Below W.heap.size W w' :=
  ⟨h.os, h.tape, h.output, h.size, fun k hk => h.keep k hk⟩

/-! ### What an argument is -/

def wts (f : AVal → Nat → Prop) : List AVal → List Nat → Prop
  | [], [] => True
  | c :: cs, m :: ms => f c m ∧ wts f cs ms
  | _, _ => False

def wfs (f : TypeId → AVal → Nat → Prop) : List (TypeId × Nat) → List AVal → List Nat → Prop
  | [], [], [] => True
  | g :: fs, c :: cs, m :: ms => f g.1 c m ∧ wfs f fs cs ms
  | _, _, _ => False

/-- A value of its type: 'm': how much it holds; R: bytes that no text and no row passes. -/
def wt (T : Tbl) (G : Heap) (R : Nat) : Nat → TypeId → AVal → Nat → Prop
  | 0, _, _, _ => False
  | d + 1, t, v, m => match T t with
    | none => False
    | some i => match i.desc with
      | .bool => ∃ b, v = .bool b ∧ m = 1
      | .int k => ∃ n, v = .int k n ∧ (Lit.int k n).wf = true ∧ m = 1
      | .string => ∃ l, v = .str l ∧ l.length ≤ R ∧ l.length ≤ maxLen ∧ m = l.length + 1
      | .slice e => match T e with
        | none => False
        | some ie => (v = .nilSlice ∧ m = 1) ∨ ∃ id len cap cs ms, v = .slice id [] 0 0 len cap ∧ len ≤ cap ∧ cap ≤ maxLen ∧ cap * ie.bytes ≤ R ∧
          G id = some (.ro (.agg cs)) ∧ cs.length = cap ∧ uni ie.size cs = true ∧ okvs cs = true ∧ wts (wt T G R d e) cs ms ∧ m = ms.sum + 1
      | .struct fs => ∃ cs ms, v = .agg cs ∧ wfs (wt T G R d) fs cs ms ∧ m = ms.sum + 1
      | .array n e => ∃ cs ms, v = .agg cs ∧ cs.length = n ∧ wts (wt T G R d e) cs ms ∧ m = ms.sum + 1
      | _ => False

/-- Fields one behind the other. -/
def inRow (T : Tbl) : List (TypeId × Nat) → Nat → Nat → Bool
  | [], o, n => Nat.beq o n
  | g :: fs, o, n => match T g.1 with
    | some i => Nat.beq g.2 o && inRow T fs (o + i.size) n
    | none => false

/-- May the type be read so? 'sl': slices too. -/
def sup (T : Tbl) : Nat → Bool → TypeId → Bool
  | 0, _, _ => false
  | d + 1, sl, t => match T t with
    | none => false
    | some i => match i.desc with
      | .bool | .int _ | .string => Nat.beq i.size 1
      | .slice e => Nat.beq i.size 1 && Nat.blt d 8 && Nat.blt e codeM && sup T d false e && (match T e with | some ie => Nat.blt 0 ie.size | none => false)
      | .struct fs => inRow T fs 0 i.size && fs.all fun g => sup T d sl g.1
      | .array n e => match T e with
        | some ie => Nat.beq i.size (n * ie.size) && sup T d sl e
        | none => false
      | _ => false

section
variable {H : Type} {enc : TypeId × Value → H} {P : Program} {T : Tbl} (hT : TblOk P T) {W : World}

theorem trod_array {base : Nat} {spare : Nat → Bool} {held : Bool} {fuel n : Nat} {t e : TypeId} {cs : List Value} {x : DataW H × List MemPlace} (ht : P.underlying t = some (.array n e)) (h : DataW.trod enc P W base spare held fuel t cs = some x) :
    ∃ (xs : List (DataW H × List MemPlace)) (m : Nat), fuel = m + 1 ∧ x = (.agg (xs.map (·.1)), xs.flatMap (·.2)) ∧ cs.length = P.cellsOf t ∧ xs.length = n ∧
      ∀ i, i < n → DataW.trod enc P W base spare held m e ((cs.drop (i * P.cellsOf e)).take (P.cellsOf e)) = xs[i]? := by
  cases fuel with
  | zero => simp [DataW.trod] at h
  | succ m =>
    unfold DataW.trod at h
    rw [ht] at h
    split at h <;> simp_all
    obtain ⟨hl, xs, hp, hd⟩ := h
    exact ⟨xs, hd.symm, by simpa using mapM_some_length hp, fun i hi => mapM_some_get hp i i (by simp [hi])⟩

theorem cellsOf_eq {t : TypeId} {i : TI} (h : TyOk P t i) : P.cellsOf t = i.size := by
  obtain ⟨inf, h1, h2, _⟩ := h.info
  simp [Program.cellsOf, h1, h2]

theorem bytesOf_eq {t : TypeId} {i : TI} (h : TyOk P t i) : P.bytesOf t = i.bytes := by
  obtain ⟨inf, h1, _, h2, _⟩ := h.info
  simp [Program.bytesOf, h1, h2]

end
end Go.Esc
