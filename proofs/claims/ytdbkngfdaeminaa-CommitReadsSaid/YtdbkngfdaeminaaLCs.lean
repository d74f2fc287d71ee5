/- Own work. Chapter 3: the readers, all of their functions. -/
import Derived.Test.YtdbkngfdaeminaaLCr
set_option linter.unusedSimpArgs false
set_option linter.unusedVariables false
set_option maxRecDepth 20000
namespace Go.Esc.M
open Go Go.Esc

theorem numA_lt : ∀ (l : List UInt8) (v : Nat), numA v l < (v + 1) * 256 ^ l.length
  | [], v => by simp [numA]
  | b :: l, v => by
    have h := numA_lt l (v * 256 + b.toNat)
    have hb : b.toNat < 256 := b.toNat_lt
    rw [numA, List.length_cons, Nat.pow_succ]
    refine Nat.lt_of_lt_of_le h ?_
    rw [Nat.mul_comm (256 ^ l.length) 256, ← Nat.mul_assoc]
    exact Nat.mul_le_mul_right _ (by omega)
theorem num_lt (l : List UInt8) : num l < 256 ^ l.length := by
  have := numA_lt l 0
  simpa [num] using this
theorem num_lt_of {l : List UInt8} {k : Nat} (h : l.length ≤ k) : num l < 256 ^ k := Nat.lt_of_lt_of_le (num_lt l) (Nat.pow_le_pow_right (by omega) h)

theorem length_takes (st : List UInt8 × Int) {n : Int} : (takes st n).1.length ≤ n.toNat := by
  unfold takes
  split
  · split
    · simp
    · simp; omega
  · simp

/-- The fault, or that bytes are left. -/
def dones (st : List UInt8 × Int) : Int := if st.2 = 0 ∧ st.1 ≠ [] then 4 else st.2

section
variable {id : AId} {st : List UInt8 × Int} {G : Heap} {Q : AVal → Heap → Prop}

theorem cursor_Reader_U8.use (h : Rd id st G) (hQ : ∀ G', Rd id (takes st 1).2 G' → Ch [id] G [id] G' → Q (.int .u8 (num (takes st 1).1 : Nat)) G') : ACalls P cursor_Reader_U8.n [.ptr id [] 0] G Q := by
  refine cursor_Reader_U8.sound ?_
  unfold cursor_Reader_U8.S
  refine cursor_Reader_take.use (fun _ => by omega) h fun G1 h1 c1 => ?_
  have hl : (takes st 1).1.length ≤ 1 := length_takes st
  refine cursor_value_uint8.use (by omega) ?_
  have := num_lt_of hl
  rw [Nat.mod_eq_of_lt (by omega)]
  exact hQ G1 h1 c1
theorem cursor_Reader_U16.use (h : Rd id st G) (hQ : ∀ G', Rd id (takes st 2).2 G' → Ch [id] G [id] G' → Q (.int .u16 (num (takes st 2).1 : Nat)) G') : ACalls P cursor_Reader_U16.n [.ptr id [] 0] G Q := by
  refine cursor_Reader_U16.sound ?_
  unfold cursor_Reader_U16.S
  refine cursor_Reader_take.use (fun _ => by omega) h fun G1 h1 c1 => ?_
  have hl : (takes st 2).1.length ≤ 2 := length_takes st
  refine cursor_value_uint16.use (by omega) ?_
  have := num_lt_of hl
  rw [Nat.mod_eq_of_lt (by omega)]
  exact hQ G1 h1 c1
theorem cursor_Reader_I64.use (h : Rd id st G) (hQ : ∀ G', Rd id (takes st 8).2 G' → Ch [id] G [id] G' → Q (.int .i64 (IntKind.i64.wrap (num (takes st 8).1 : Nat))) G') : ACalls P cursor_Reader_I64.n [.ptr id [] 0] G Q := by
  refine cursor_Reader_I64.sound ?_
  unfold cursor_Reader_I64.S
  refine cursor_Reader_take.use (fun _ => by omega) h fun G1 h1 c1 => ?_
  have hl : (takes st 8).1.length ≤ 8 := length_takes st
  refine cursor_value_uint64.use (by omega) ?_
  rw [vconv_int T_uint64 T_int64 rfl, wv_some]
  exact hQ G1 h1 c1

theorem cursor_Reader_Err.use (h : Rd id st G) (hQ : Q (.int .i64 st.2) G) : ACalls P cursor_Reader_Err.n [.ptr id [] 0] G Q := by
  refine cursor_Reader_Err.sound ?_
  unfold cursor_Reader_Err.S
  show wv (vload T G t_api_Errno (.ptr id [1] 1)) _
  rw [h.fault]
  exact hQ
theorem cursor_Reader_Done.use (h : Rd id st G) (hQ : Q (.int .i64 (dones st)) G) : ACalls P cursor_Reader_Done.n [.ptr id [] 0] G Q := by
  refine cursor_Reader_Done.sound ?_
  unfold cursor_Reader_Done.S
  show wv (vload T G t_api_Errno (.ptr id [1] 1)) _
  rw [h.fault]
  simp -zeta only [wv_some, vbin_eql, brB_dec]
  refine ⟨fun h0 => ?_, fun h0 => ?_⟩
  · show wv (vload T G t_string (.ptr id [0] 0)) _
    rw [h.rest]
    simp -zeta only [wv_some, vbin_sneq, brB_ndec]
    refine ⟨fun h1 => ?_, fun h1 => ?_⟩
    · simpa [dones, h0, h1] using hQ
    · show wv (vload T G t_api_Errno (.ptr id [1] 1)) _
      rw [h.fault]
      simpa [dones, h0, h1] using hQ
  · show wv (vload T G t_api_Errno (.ptr id [1] 1)) _
    rw [h.fault]
    simpa [dones, h0] using hQ

end

theorem Rd.ch {id : AId} {st : List UInt8 × Int} {G G' : Heap} {E E' : List AId} (h : Rd id st G) (hc : Ch E G E' G') (hd : id ∉ E) : Rd id st G' := hc.others _ _ h hd
theorem Rd.row {id : AId} {st : List UInt8 × Int} {G : Heap} (h : Rd id st G) : (G id).isSome = true := by rw [h]; rfl

end Go.Esc.M
