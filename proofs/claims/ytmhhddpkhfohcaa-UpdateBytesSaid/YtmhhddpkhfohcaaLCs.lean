/- Own work. Chapter 3: the readers, all of their functions. -/
import Derived.Test.YtmhhddpkhfohcaaLCr
set_option linter.unusedSimpArgs false
set_option linter.unusedVariables false
namespace Go.Esc.M
open Go Go.Esc

theorem numA_lt : ∀ (l : List UInt8) (v : Nat), numA v l < (v + 1) * 256 ^ l.length
  | [], v => by simp [numA]
  | b :: l, v => by
    have h := numA_lt l (v * 256 + b.toNat)
    have hb : b.toNat < 256 := b.toNat_lt
    rw [numA, List.length_cons, Nat.pow_succ]
    refine Nat.lt_of_lt_of_le h ?_
    rw [Nat.mul_comm (256 ^ l.length) 256, ← Nat.mul_assoc]
    exact Nat.mul_le_mul_right _ (by omega)
theorem num_lt (l : List UInt8) : num l < 256 ^ l.length := by
  have := numA_lt l 0
  simpa [num] using this
theorem num_lt_of {l : List UInt8} {k : Nat} (h : l.length ≤ k) : num l < 256 ^ k := Nat.lt_of_lt_of_le (num_lt l) (Nat.pow_le_pow_right (by omega) h)

theorem length_takes (st : List UInt8 × Int) {n : Int} : (takes st n).1.length ≤ n.toNat := by
  unfold takes
  split
  · split
    · simp
    · simp; omega
  · simp

/-- A text of a reader's. -/
def texts (st : List UInt8 × Int) (most : Int) : List UInt8 × (List UInt8 × Int) :=
  if st.2 = 0 ∧ 2 ≤ st.1.length ∧ most < num (st.1.take 2) then ([], ([], 3)) else takes (takes st 2).2 (num (takes st 2).1)

def raws (st : List UInt8 × Int) (n : Int) : List UInt8 × (List UInt8 × Int) := if st.2 = 0 ∧ n < 0 then ([], ([], 1)) else takes st n

/-- The fault, or that bytes are left. -/
def dones (st : List UInt8 × Int) : Int := if st.2 = 0 ∧ st.1 ≠ [] then 4 else st.2

section
variable {id : AId} {st : List UInt8 × Int} {G : Heap} {Q : AVal → Heap → Prop}

theorem cursor_Reader_U8.use (h : Rd id st G) (hQ : ∀ G', Rd id (takes st 1).2 G' → Ch [id] G [id] G' → Q (.int .u8 (num (takes st 1).1 : Nat)) G') : ACalls P cursor_Reader_U8.n [.ptr id [] 0] G Q := by
  refine cursor_Reader_U8.sound ?_
  unfold cursor_Reader_U8.S
  refine cursor_Reader_take.use (fun _ => by omega) h fun G1 h1 c1 => ?_
  have hl : (takes st 1).1.length ≤ 1 := length_takes st
  refine cursor_value_uint8.use (by omega) ?_
  have := num_lt_of hl
  rw [Nat.mod_eq_of_lt (by omega)]
  exact hQ G1 h1 c1
theorem cursor_Reader_U16.use (h : Rd id st G) (hQ : ∀ G', Rd id (takes st 2).2 G' → Ch [id] G [id] G' → Q (.int .u16 (num (takes st 2).1 : Nat)) G') : ACalls P cursor_Reader_U16.n [.ptr id [] 0] G Q := by
  refine cursor_Reader_U16.sound ?_
  unfold cursor_Reader_U16.S
  refine cursor_Reader_take.use (fun _ => by omega) h fun G1 h1 c1 => ?_
  have hl : (takes st 2).1.length ≤ 2 := length_takes st
  refine cursor_value_uint16.use (by omega) ?_
  have := num_lt_of hl
  rw [Nat.mod_eq_of_lt (by omega)]
  exact hQ G1 h1 c1
theorem cursor_Reader_I64.use (h : Rd id st G) (hQ : ∀ G', Rd id (takes st 8).2 G' → Ch [id] G [id] G' → Q (.int .i64 (IntKind.i64.wrap (num (takes st 8).1 : Nat))) G') : ACalls P cursor_Reader_I64.n [.ptr id [] 0] G Q := by
  refine cursor_Reader_I64.sound ?_
  unfold cursor_Reader_I64.S
  refine cursor_Reader_take.use (fun _ => by omega) h fun G1 h1 c1 => ?_
  have hl : (takes st 8).1.length ≤ 8 := length_takes st
  refine cursor_value_uint64.use (by omega) ?_
  rw [vconv_int T_uint64 T_int64 rfl, wv_some]
  exact hQ G1 h1 c1

theorem cursor_Reader_Err.use (h : Rd id st G) (hQ : Q (.int .i64 st.2) G) : ACalls P cursor_Reader_Err.n [.ptr id [] 0] G Q := by
  refine cursor_Reader_Err.sound ?_
  unfold cursor_Reader_Err.S
  show wv (vload T G t_api_Errno (.ptr id [1] 1)) _
  rw [h.fault]
  exact hQ
theorem cursor_Reader_Rest.use (h : Rd id st G) (hQ : Q (.str st.1) G) : ACalls P cursor_Reader_Rest.n [.ptr id [] 0] G Q := by
  refine cursor_Reader_Rest.sound ?_
  unfold cursor_Reader_Rest.S
  show wv (vload T G t_string (.ptr id [0] 0)) _
  rw [h.rest]
  exact hQ
theorem cursor_Reader_Text.use {most : Int} (h : Rd id st G) (hQ : ∀ G', Rd id (texts st most).2 G' → Ch [id] G [id] G' → Q (.str (texts st most).1) G') : ACalls P cursor_Reader_Text.n [.ptr id [] 0, .int .i64 most] G Q := by
  refine cursor_Reader_Text.sound ?_
  unfold cursor_Reader_Text.S
  intro J
  have two : ∀ (st' : List UInt8 × Int) (G1 : Heap), Rd id st' G1 → Ch [id] G [id] G1 → texts st most = takes (takes st' 2).2 (num (takes st' 2).1) →
      ACalls P cursor_Reader_take.n [.ptr id [] 0, .int .i64 2] G1 fun v37 G38 => ACalls P cursor_value_uint16.n [v37] G38 fun v39 G40 => wv (vconv T G40 t_uint16 t_int v39) fun v41 => ACalls P cursor_Reader_take.n [.ptr id [] 0, v41] G40 fun v42 G43 => Q v42 G43 := by
    intro st' G1 h1 c1 he
    refine cursor_Reader_take.use (fun _ => by omega) h1 fun G2 h2 c2 => ?_
    have hl : (takes st' 2).1.length ≤ 2 := length_takes st'
    have hlt := num_lt_of hl
    refine cursor_value_uint16.use (by omega) ?_
    rw [Nat.mod_eq_of_lt (by omega), vconv_int T_uint16 T_int rfl, wv_some, i64_in (by omega) (by omega)]
    refine cursor_Reader_take.use (fun _ => by omega) h2 fun G3 h3 c3 => ?_
    rw [← he] at h3 ⊢
    exact hQ G3 h3 ((c1.trans c2).trans c3)
  have hno : ¬ (st.2 = 0 ∧ 2 ≤ st.1.length ∧ most < num (st.1.take 2)) → J (.bool false) G := by
    intro hn
    simp -zeta only [J, brB_false]
    exact two st G h (Ch.refl _ _) (by rw [texts, if_neg hn])
  show wv (vload T G t_api_Errno (.ptr id [1] 1)) _
  rw [h.fault]
  simp -zeta only [wv_some, vbin_eql, brB_dec]
  refine ⟨fun h0 => ?_, fun h0 => hno fun hh => h0 hh.1⟩
  show wv (vload T G t_string (.ptr id [0] 0)) _
  rw [h.rest, wv_some]
  show wv (some (.int .i64 st.1.length)) _
  simp -zeta only [wv_some, vbin_geq, brB_dec]
  refine ⟨fun h2 => ?_, fun h2 => hno fun hh => h2 (by omega)⟩
  show wv (vload T G t_string (.ptr id [0] 0)) _
  rw [h.rest, wv_some, str_take (by omega) (by omega), wv_some]
  have hl : (st.1.take 2).length ≤ 2 := by simp; omega
  have hlt := num_lt_of hl
  refine cursor_value_uint16.use (s := st.1.take 2) (by omega) ?_
  rw [Nat.mod_eq_of_lt (by omega), vconv_int T_uint16 T_int rfl, wv_some, i64_in (by omega) (by omega), vbin_gtr, wv_some]
  by_cases hm : most < num (st.1.take 2)
  · have hyes : J (.bool true) G := by
      simp -zeta only [J, brB_true]
      refine cursor_Reader_breaks.use h fun G1 h1 c1 => ?_
      refine two ([], 3) G1 h1 c1 ?_
      rw [texts, if_pos ⟨h0, by omega, hm⟩]
      rfl
    have hd : decide (most < (num (st.1.take 2) : Int)) = true := by simp [hm]
    rw [hd]
    exact hyes
  · have hd : decide (most < (num (st.1.take 2) : Int)) = false := by simp; omega
    rw [hd]
    exact hno fun hh => hm hh.2.2

end

theorem vbin_ptrnil {T : Tbl} {t e : TypeId} {i : TI} {id : AId} {p : List Nat} {o : Nat} (ht : T t = some i) (hd : i.desc = .pointer e) : vbin T .eql t (.ptr id p o) .nilPtr = some (.bool false) := by
  simp [vbin, veqD, ht, hd]

theorem Rd.ch {id : AId} {st : List UInt8 × Int} {G G' : Heap} {E E' : List AId} (h : Rd id st G) (hc : Ch E G E' G') (hd : id ∉ E) : Rd id st G' := hc.others _ _ h hd
theorem Rd.row {id : AId} {st : List UInt8 × Int} {G : Heap} (h : Rd id st G) : (G id).isSome = true := by rw [h]; rfl

end Go.Esc.M
