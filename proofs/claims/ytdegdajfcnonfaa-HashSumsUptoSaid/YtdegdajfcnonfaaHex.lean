/- Printed by lib.py (own work): Hex, walked with the kit's tools. -/
import Derived.Test.YtdegdajfcnonfaaLib
import Derived.Test.YtdegdajfcnonfaaLHh
import Derived.WalkKit
import Derived.WalkSpells
import Derived.BigCall
namespace Go.Proofs
open Go Go.RowKit
def Lib.digits : List UInt8 := [48, 49, 50, 51, 52, 53, 54, 55, 56, 57, 97, 98, 99, 100, 101, 102]
def Lib.hexOf (l : List UInt8) : List UInt8 := l.flatMap fun b => [Lib.digits.getD (b.toNat / 16) 0, Lib.digits.getD (b.toNat % 16) 0]
theorem wpList_load {P : Program} (w : World) {ops : Array Oper} {rest : List Oper} {o : Oper} {a : Act} {Q : Exit → Act → World → Prop} (hg : o.guard = none) (t : TypeId) (x : Operand) (hop : o.op = Op.load t x) (v : Value)
    (hrun : (Instr.loadAt t (a.eval x)).run P w = .ok v w) (hK : wpList P ops Q rest (a.put o.dst v) w) : wpList P ops Q (o :: rest) a w := by
  refine wpList_plain hg fun K hK' => ?_
  unfold Oper.wp
  simp [execOp, hop, hrun, Result.andThen]
  exact hK' _ _ hK
theorem wpList_index {P : Program} (w : World) {ops : Array Oper} {rest : List Oper} {o : Oper} {a : Act} {Q : Exit → Act → World → Prop} (hg : o.guard = none) (t : TypeId) (x y : Operand) (hop : o.op = Op.index t x y) (v : Value)
    (hrun : (Instr.index t (a.eval x) (a.eval y)).run P w = .ok v w) (hK : wpList P ops Q rest (a.put o.dst v) w) : wpList P ops Q (o :: rest) a w := by
  refine wpList_plain hg fun K hK' => ?_
  unfold Oper.wp
  simp [execOp, hop, hrun, Result.andThen]
  exact hK' _ _ hK
set_option maxHeartbeats 4000000 in
set_option maxRecDepth 1000000 in
theorem Try.hex_walk (cells : Array Value) (l : List UInt8) (hl : l.length = 32) (hld : ∀ W : World, W.heap[W.heap.size - 2]? = some (.cells cells 26 (0, 0)) → 2 ≤ W.heap.size → (Instr.loadAt 26 (.pointer (some ⟨W.heap.size - 2, 0, none⟩))).run Try.prog W = .ok (.agg cells) W)
    (hix : ∀ (W : World) (j : Nat) (h : j < 32), (Instr.index 26 (.agg cells) (.int .i64 j)).run Try.prog W = .ok (.int .u8 (l[j].toNat : Int)) W) (hdig : ∀ (W : World) (k : Nat), k < 16 → (Instr.index 9 (.string ⟨#[48, 49, 50, 51, 52, 53, 54, 55, 56, 57, 97, 98, 99, 100, 101, 102]⟩) (.int .u8 (k : Int))).run Try.prog W = .ok (.int .u8 ((Lib.digits.getD k 0).toNat : Int)) W)
    (hW : ∀ (B b : Nat) (c : Nat) (bs : List Value) {W : World}, Lib.IsBuilder 54 5 B b bs W → bs.length + 1 ≤ 140737488355328 → B ≤ W.heap.size → Calls Try.prog 29 #[.pointer (some ⟨b, 0, none⟩), .int .u8 c] W fun e w' => e = .returned .nilIface ∧ (Lib.BuilderAt 54 5 B b (.pointer (some ⟨b, 0, none⟩)) (bs ++ [.int .u8 c]) w' ∧ Below B W w'))
    (hS : ∀ (B b : Nat) (l : List UInt8) {W : World}, Lib.IsBuilder 54 5 B b (Lib.byteCells l) W → B ≤ W.heap.size → Calls Try.prog 30 #[.pointer (some ⟨b, 0, none⟩)] W fun e w' => e = .returned (.string ⟨l.toArray⟩) ∧ Below B W w')
    (w : World) :
    Calls Try.prog 16 #[.agg cells] w fun e w' => e = .returned (.string ⟨(Lib.hexOf l).toArray⟩) ∧ Below w.heap.size w w' := by
  have hl1 : (Instr.loadAt 26 (.pointer (some ⟨w.heap.size, 0, none⟩))).run Try.prog ((w.alloc (Obj.cells cells 26)).alloc (Obj.cells #[Value.pointer none, Value.slice none 0 0] 54)) = .ok (.agg cells) ((w.alloc (Obj.cells cells 26)).alloc (Obj.cells #[Value.pointer none, Value.slice none 0 0] 54)) := by
    have := hld ((w.alloc (Obj.cells cells 26)).alloc (Obj.cells #[Value.pointer none, Value.slice none 0 0] 54))
    have e : ((w.alloc (Obj.cells cells 26)).alloc (Obj.cells #[Value.pointer none, Value.slice none 0 0] 54)).heap.size - 2 = w.heap.size := by simp
    rw [e] at this
    refine this ?_ (by simp)
    rw [Below.heap_alloc _ _ _ (by simp)]
    show (w.heap.push _)[w.heap.size]? = _
    simp
  clear hld
  go_enter Try.func16, Try.ntmps16
  go_wp2_with (first | (refine wpList_load _ rfl 26 _ rfl (.agg cells) hl1 ?_) | go_in)
  clear hl1
  go_loopw [7] (fun tv wr => ∃ j : Nat, j ≤ 32 ∧ tv = .int .i64 (j : Int) ∧ Lib.IsBuilder 54 5 (w.heap.size + 1) (w.heap.size + 1) (Lib.byteCells (Lib.hexOf (l.take j))) wr ∧ Below w.heap.size w wr) (fun tv _ => 32 - (Lib.intOf tv).toNat)
  case atStart =>
    refine ⟨0, by omega, rfl, ?_, ((Below.refl _ w).alloc (Nat.le_refl _) _).alloc (by simp) _⟩
    have := Lib.fresh_isBuilder 54 5 (w.alloc (Obj.cells cells 26))
    have e : (w.alloc (Obj.cells cells 26)).heap.size = w.heap.size + 1 := by simp
    rw [e] at this
    exact this
  case round =>
    obtain ⟨j, hj, rfl, hI, hbw⟩ := hrel
    have hsz : w.heap.size + 1 < wr.heap.size := by
      rcases hI with h | h <;> exact h.lt
    by_cases hj32 : j < 32
    · have hx := fun W => hix W j hj32
      clear hix
      obtain ⟨b, hb⟩ : ∃ b, b = l[j] := ⟨_, rfl⟩
      have htk : Lib.hexOf (l.take (j + 1)) = Lib.hexOf (l.take j) ++ [Lib.digits.getD (b.toNat / 16) 0] ++ [Lib.digits.getD (b.toNat % 16) 0] := by
        rw [List.take_add_one, List.getElem?_eq_getElem (by omega), ← hb]
        simp [Lib.hexOf]
      have hlen : (Lib.hexOf (l.take j)).length ≤ 100 := by
        have : ∀ l : List UInt8, (Lib.hexOf l).length = 2 * l.length := by
          intro l
          induction l with
          | nil => rfl
          | cons x l ih => simp only [Lib.hexOf, List.flatMap_cons, List.length_append] at ih ⊢; rw [ih]; simp; omega
        rw [this, List.length_take]
        omega
      rw [← hb] at hx
      clear hb
      have hb8 : b.toNat < 256 := b.toNat_lt
      have hd1 := fun W => hdig W (b.toNat / 16) (by omega)
      have hd2 := fun W => hdig W (b.toNat % 16) (by omega)
      clear hdig
      rw [Int.natCast_ediv] at hd1
      rw [Int.natCast_emod] at hd2
      generalize Lib.digits.getD (b.toNat / 16) 0 = x1 at hd1 htk
      generalize Lib.digits.getD (b.toNat % 16) 0 = x2 at hd2 htk
      generalize Lib.hexOf (l.take j) = acc at hI htk hlen
      go_wp2_with (first | (refine wpList_index _ rfl 26 _ _ rfl _ (hx _) ?_) | (refine wpList_index _ rfl 9 _ _ rfl _ (hd1 _) ?_))
      refine (hW _ _ x1.toNat _ hI (by rw [Lib.byteCells_length]; omega) (by omega)).mono ?_
      rintro e W1 ⟨rfl, h1, b1⟩
      have hI1 : Lib.IsBuilder 54 5 (w.heap.size + 1) (w.heap.size + 1) (Lib.byteCells (acc ++ [x1])) W1 := by
        rw [Lib.byteCells_append]
        exact Or.inr h1
      have hs1 := b1.size
      have hb1 : Below w.heap.size w W1 := hbw.trans (b1.mono (by omega))
      clear h1 b1 hI hbw hd1
      go_wp2_with (first | (refine wpList_index _ rfl 9 _ _ rfl _ (hd2 _) ?_))
      refine (hW _ _ x2.toNat _ hI1 (by rw [Lib.byteCells_length]; simp; omega) (by omega)).mono ?_
      rintro e W2 ⟨rfl, h2, b2⟩
      have hI2 : Lib.IsBuilder 54 5 (w.heap.size + 1) (w.heap.size + 1) (Lib.byteCells (acc ++ [x1] ++ [x2])) W2 := by
        rw [Lib.byteCells_append _ [x2]]
        exact Or.inr h2
      have hb2 : Below w.heap.size w W2 := hb1.trans (b2.mono (by omega))
      clear h2 b2 hI1 hb1 hd2
      go_wp2
      go_roundw
      case rel => exact ⟨j + 1, by omega, by simp, by rw [htk]; exact hI2, hb2⟩
      case measure => simp [Lib.intOf]; omega
    · have hj' : j = 32 := by omega
      subst hj'
      rw [List.take_of_length_le (by omega)] at hI
      clear hix hdig hW
      go_wp2_with fail
      refine (hS _ _ _ hI (by omega)).mono ?_
      rintro e W1 ⟨rfl, b1⟩
      go_wp2
      go_ret
      exact ⟨rfl, hbw.trans (b1.mono (by omega))⟩
end Go.Proofs
namespace Go.Esc.M
open Go Go.Esc Go.Proofs Go.RowKit

theorem hex_load {l : List UInt8} (hl : l.length = 32) (W : World) (k : Nat) (h : W.heap[k]? = some (.cells (flats (l.map u8v)).toArray t_api_Hash (0, 0))) : (Instr.loadAt t_api_Hash (.pointer (some ⟨k, 0, none⟩))).run P W = .ok (.agg (flats (l.map u8v)).toArray) W := by
  let B : Base := { w0 := W, prot := fun _ => False, lt := fun _ h => h.elim, ro := fun _ => none, cells := fun _ _ h => by cases h }
  let G : Heap := fun id => if id = ⟨k, 0, 0⟩ then some (.own (.agg (l.map u8v))) else none
  have hr : Rel B G W := by
    refine ⟨rfl, rfl, rfl, Nat.le_refl _, fun _ _ => rfl, fun id o ho => ?_⟩
    by_cases hid : id = ⟨k, 0, 0⟩
    · simp only [G, hid, if_true, Option.some.injEq] at ho
      subst ho
      subst hid
      refine ⟨rfl, rfl, fun h => h, t_api_Hash, (0, 0), ?_, FzOk.zero _⟩
      rw [flat_agg]
      exact h
    · simp only [G, hid, if_false] at ho
      cases ho
  have hg : G ⟨k, 0, 0⟩ = some (.own (.agg (l.map u8v))) := by simp [G]
  have := vload_sound (P := P) tblOk hr (load_hash hl hg)
  simpa [cv] using this

theorem hash_Hex.use {G : Heap} {Q : AVal → Heap → Prop} {l : List UInt8} (hl : l.length = 32) (hQ : Q (.str (Lib.hexOf l)) G) : ACalls P hash_Hex.n [.agg (l.map u8v)] G Q := by
  refine ACalls_of_calls Try.func16 (by kernel_rfl) (by kernel_rfl) fun B w hr => ?_
  have hargs : (cvs [AVal.agg (l.map u8v)]).toArray = #[.agg (flats (l.map u8v)).toArray] := by simp [cvs, cv]
  rw [hargs]
  refine (Try.hex_walk (flats (l.map u8v)).toArray l hl (fun W h h2 => hex_load hl W _ h) (fun W j hj => ?_) (fun W k hk => ?_) (fun B b c bs W h h1 h2 => ?_) (fun B b l W h h2 => ?_) w).mono ?_
  · have : vindex T t_api_Hash (.agg (l.map u8v)) (.int .i64 (j : Int)) = some (u8v (l[j]'(by omega))) := by
      have e1 : ti_api_Hash.desc = .array 32 t_uint8 := rfl
      simp only [vindex, T_api_Hash, e1, T_uint8]
      rw [if_pos ⟨by omega, by omega⟩]
      simp only [Int.toNat_natCast, List.getElem?_map, List.getElem?_eq_getElem (show j < l.length by omega), Option.map_some]
      rw [show ti_uint8.size = 1 from rfl, uni_u8]
      rfl
    have := vindex_sound (P := P) tblOk this W
    simp only [cv, u8v] at this
    exact this
  · have h16 : k < Lib.digits.length := hk
    have : vindex T t_string (.str Lib.digits) (.int .u8 (k : Int)) = some (.int .u8 ((Lib.digits.getD k 0).toNat : Int)) := by
      have e1 : ti_string.desc = .string := rfl
      simp only [vindex, T_string, e1]
      rw [if_pos (by omega), Int.toNat_natCast, List.getElem?_eq_getElem h16, List.getD_eq_getElem?_getD, List.getElem?_eq_getElem h16]
      rfl
    have := vindex_sound (P := P) tblOk this W
    simp only [cv] at this
    exact this
  · exact Any.Builder_WriteByte Try.lays167 Try.extra167 B b bs (c : Int) W h h1 h2
  · exact Any.Builder_String_any Try.lays169 Try.extra169 B b l W h h2
  · rintro e w' ⟨he, hb⟩
    exact ⟨_, by rw [he]; simp [cv], hb, hQ⟩
end Go.Esc.M
