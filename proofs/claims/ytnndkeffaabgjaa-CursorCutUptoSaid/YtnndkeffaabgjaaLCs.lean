/- Own work. Chapter 3: the readers, all of their functions. -/
import Derived.Test.YtnndkeffaabgjaaLCr
set_option linter.unusedSimpArgs false
set_option linter.unusedVariables false
namespace Go.Esc.M
open Go Go.Esc

theorem numA_lt : ∀ (l : List UInt8) (v : Nat), numA v l < (v + 1) * 256 ^ l.length
  | [], v => by simp [numA]
  | b :: l, v => by
    have h := numA_lt l (v * 256 + b.toNat)
    have hb : b.toNat < 256 := b.toNat_lt
    rw [numA, List.length_cons, Nat.pow_succ]
    refine Nat.lt_of_lt_of_le h ?_
    rw [Nat.mul_comm (256 ^ l.length) 256, ← Nat.mul_assoc]
    exact Nat.mul_le_mul_right _ (by omega)
theorem num_lt (l : List UInt8) : num l < 256 ^ l.length := by
  have := numA_lt l 0
  simpa [num] using this
theorem num_lt_of {l : List UInt8} {k : Nat} (h : l.length ≤ k) : num l < 256 ^ k := Nat.lt_of_lt_of_le (num_lt l) (Nat.pow_le_pow_right (by omega) h)

theorem length_takes (st : List UInt8 × Int) {n : Int} : (takes st n).1.length ≤ n.toNat := by
  unfold takes
  split
  · split
    · simp
    · simp; omega
  · simp

/-- A text of a reader's. -/
def texts (st : List UInt8 × Int) (most : Int) : List UInt8 × (List UInt8 × Int) :=
  if st.2 = 0 ∧ 2 ≤ st.1.length ∧ most < num (st.1.take 2) then ([], ([], 3)) else takes (takes st 2).2 (num (takes st 2).1)

def raws (st : List UInt8 × Int) (n : Int) : List UInt8 × (List UInt8 × Int) := if st.2 = 0 ∧ n < 0 then ([], ([], 1)) else takes st n

/-- The fault, or that bytes are left. -/
def dones (st : List UInt8 × Int) : Int := if st.2 = 0 ∧ st.1 ≠ [] then 4 else st.2

section
variable {id : AId} {st : List UInt8 × Int} {G : Heap} {Q : AVal → Heap → Prop}

theorem cursor_Reader_U8.use (h : Rd id st G) (hQ : ∀ G', Rd id (takes st 1).2 G' → Ch [id] G [id] G' → Q (.int .u8 (num (takes st 1).1 : Nat)) G') : ACalls P cursor_Reader_U8.n [.ptr id [] 0] G Q := by
  refine cursor_Reader_U8.sound ?_
  unfold cursor_Reader_U8.S
  refine cursor_Reader_take.use (fun _ => by omega) h fun G1 h1 c1 => ?_
  have hl : (takes st 1).1.length ≤ 1 := length_takes st
  refine cursor_value_uint8.use (by omega) ?_
  have := num_lt_of hl
  rw [Nat.mod_eq_of_lt (by omega)]
  exact hQ G1 h1 c1
theorem cursor_Reader_U16.use (h : Rd id st G) (hQ : ∀ G', Rd id (takes st 2).2 G' → Ch [id] G [id] G' → Q (.int .u16 (num (takes st 2).1 : Nat)) G') : ACalls P cursor_Reader_U16.n [.ptr id [] 0] G Q := by
  refine cursor_Reader_U16.sound ?_
  unfold cursor_Reader_U16.S
  refine cursor_Reader_take.use (fun _ => by omega) h fun G1 h1 c1 => ?_
  have hl : (takes st 2).1.length ≤ 2 := length_takes st
  refine cursor_value_uint16.use (by omega) ?_
  have := num_lt_of hl
  rw [Nat.mod_eq_of_lt (by omega)]
  exact hQ G1 h1 c1
theorem cursor_Reader_U32.use (h : Rd id st G) (hQ : ∀ G', Rd id (takes st 4).2 G' → Ch [id] G [id] G' → Q (.int .u32 (num (takes st 4).1 : Nat)) G') : ACalls P cursor_Reader_U32.n [.ptr id [] 0] G Q := by
  refine cursor_Reader_U32.sound ?_
  unfold cursor_Reader_U32.S
  refine cursor_Reader_take.use (fun _ => by omega) h fun G1 h1 c1 => ?_
  have hl : (takes st 4).1.length ≤ 4 := length_takes st
  refine cursor_value_uint32.use (by omega) ?_
  have := num_lt_of hl
  rw [Nat.mod_eq_of_lt (by omega)]
  exact hQ G1 h1 c1
theorem cursor_Reader_U64.use (h : Rd id st G) (hQ : ∀ G', Rd id (takes st 8).2 G' → Ch [id] G [id] G' → Q (.int .u64 (num (takes st 8).1 : Nat)) G') : ACalls P cursor_Reader_U64.n [.ptr id [] 0] G Q := by
  refine cursor_Reader_U64.sound ?_
  unfold cursor_Reader_U64.S
  refine cursor_Reader_take.use (fun _ => by omega) h fun G1 h1 c1 => ?_
  have hl : (takes st 8).1.length ≤ 8 := length_takes st
  exact cursor_value_uint64.use (by omega) (hQ G1 h1 c1)
theorem cursor_Reader_I64.use (h : Rd id st G) (hQ : ∀ G', Rd id (takes st 8).2 G' → Ch [id] G [id] G' → Q (.int .i64 (IntKind.i64.wrap (num (takes st 8).1 : Nat))) G') : ACalls P cursor_Reader_I64.n [.ptr id [] 0] G Q := by
  refine cursor_Reader_I64.sound ?_
  unfold cursor_Reader_I64.S
  refine cursor_Reader_take.use (fun _ => by omega) h fun G1 h1 c1 => ?_
  have hl : (takes st 8).1.length ≤ 8 := length_takes st
  refine cursor_value_uint64.use (by omega) ?_
  rw [vconv_int T_uint64 T_int64 rfl, wv_some]
  exact hQ G1 h1 c1

theorem cursor_Reader_Err.use (h : Rd id st G) (hQ : Q (.int .i64 st.2) G) : ACalls P cursor_Reader_Err.n [.ptr id [] 0] G Q := by
  refine cursor_Reader_Err.sound ?_
  unfold cursor_Reader_Err.S
  show wv (vload T G t_api_Errno (.ptr id [1] 1)) _
  rw [h.fault]
  exact hQ
theorem cursor_Reader_Rest.use (h : Rd id st G) (hQ : Q (.str st.1) G) : ACalls P cursor_Reader_Rest.n [.ptr id [] 0] G Q := by
  refine cursor_Reader_Rest.sound ?_
  unfold cursor_Reader_Rest.S
  show wv (vload T G t_string (.ptr id [0] 0)) _
  rw [h.rest]
  exact hQ
theorem cursor_Reader_Done.use (h : Rd id st G) (hQ : Q (.int .i64 (dones st)) G) : ACalls P cursor_Reader_Done.n [.ptr id [] 0] G Q := by
  refine cursor_Reader_Done.sound ?_
  unfold cursor_Reader_Done.S
  show wv (vload T G t_api_Errno (.ptr id [1] 1)) _
  rw [h.fault]
  simp -zeta only [wv_some, vbin_eql, brB_dec]
  refine ⟨fun h0 => ?_, fun h0 => ?_⟩
  · show wv (vload T G t_string (.ptr id [0] 0)) _
    rw [h.rest]
    simp -zeta only [wv_some, vbin_sneq, brB_ndec]
    refine ⟨fun h1 => ?_, fun h1 => ?_⟩
    · simpa [dones, h0, h1] using hQ
    · show wv (vload T G t_api_Errno (.ptr id [1] 1)) _
      rw [h.fault]
      simpa [dones, h0, h1] using hQ
  · show wv (vload T G t_api_Errno (.ptr id [1] 1)) _
    rw [h.fault]
    simpa [dones, h0] using hQ

theorem cursor_Reader_Raw.use {n : Int} (h : Rd id st G) (hQ : ∀ G', Rd id (raws st n).2 G' → Ch [id] G [id] G' → Q (.str (raws st n).1) G') : ACalls P cursor_Reader_Raw.n [.ptr id [] 0, .int .i64 n] G Q := by
  refine cursor_Reader_Raw.sound ?_
  unfold cursor_Reader_Raw.S
  show wv (vload T G t_api_Errno (.ptr id [1] 1)) _
  rw [h.fault]
  simp -zeta only [wv_some, vbin_eql, brB_dec, vbin_lss]
  refine ⟨fun h0 => ⟨fun hn => ?_, fun hn => ?_⟩, fun h0 => ?_⟩
  · refine cursor_Reader_breaks.use h fun G1 h1 c1 => ?_
    refine cursor_Reader_take.use (fun e => absurd e (by simp)) h1 fun G2 h2 c2 => ?_
    have := hQ G2 (by simpa [raws, h0, hn, takes] using h2) (c1.trans c2)
    simpa [raws, h0, hn, takes] using this
  · refine cursor_Reader_take.use (fun _ => by omega) h fun G2 h2 c2 => ?_
    have := hQ G2 (by simpa [raws, hn] using h2) c2
    simpa [raws, hn] using this
  · refine cursor_Reader_take.use (fun e => absurd e h0) h fun G2 h2 c2 => ?_
    have := hQ G2 (by simpa [raws, h0] using h2) c2
    simpa [raws, h0] using this

theorem cursor_Reader_Text.use {most : Int} (h : Rd id st G) (hQ : ∀ G', Rd id (texts st most).2 G' → Ch [id] G [id] G' → Q (.str (texts st most).1) G') : ACalls P cursor_Reader_Text.n [.ptr id [] 0, .int .i64 most] G Q := by
  refine cursor_Reader_Text.sound ?_
  unfold cursor_Reader_Text.S
  intro J
  have two : ∀ (st' : List UInt8 × Int) (G1 : Heap), Rd id st' G1 → Ch [id] G [id] G1 → texts st most = takes (takes st' 2).2 (num (takes st' 2).1) →
      ACalls P cursor_Reader_take.n [.ptr id [] 0, .int .i64 2] G1 fun v37 G38 => ACalls P cursor_value_uint16.n [v37] G38 fun v39 G40 => wv (vconv T G40 t_uint16 t_int v39) fun v41 => ACalls P cursor_Reader_take.n [.ptr id [] 0, v41] G40 fun v42 G43 => Q v42 G43 := by
    intro st' G1 h1 c1 he
    refine cursor_Reader_take.use (fun _ => by omega) h1 fun G2 h2 c2 => ?_
    have hl : (takes st' 2).1.length ≤ 2 := length_takes st'
    have hlt := num_lt_of hl
    refine cursor_value_uint16.use (by omega) ?_
    rw [Nat.mod_eq_of_lt (by omega), vconv_int T_uint16 T_int rfl, wv_some, i64_in (by omega) (by omega)]
    refine cursor_Reader_take.use (fun _ => by omega) h2 fun G3 h3 c3 => ?_
    rw [← he] at h3 ⊢
    exact hQ G3 h3 ((c1.trans c2).trans c3)
  have hno : ¬ (st.2 = 0 ∧ 2 ≤ st.1.length ∧ most < num (st.1.take 2)) → J (.bool false) G := by
    intro hn
    simp -zeta only [J, brB_false]
    exact two st G h (Ch.refl _ _) (by rw [texts, if_neg hn])
  show wv (vload T G t_api_Errno (.ptr id [1] 1)) _
  rw [h.fault]
  simp -zeta only [wv_some, vbin_eql, brB_dec]
  refine ⟨fun h0 => ?_, fun h0 => hno fun hh => h0 hh.1⟩
  show wv (vload T G t_string (.ptr id [0] 0)) _
  rw [h.rest, wv_some]
  show wv (some (.int .i64 st.1.length)) _
  simp -zeta only [wv_some, vbin_geq, brB_dec]
  refine ⟨fun h2 => ?_, fun h2 => hno fun hh => h2 (by omega)⟩
  show wv (vload T G t_string (.ptr id [0] 0)) _
  rw [h.rest, wv_some, str_take (by omega) (by omega), wv_some]
  have hl : (st.1.take 2).length ≤ 2 := by simp; omega
  have hlt := num_lt_of hl
  refine cursor_value_uint16.use (s := st.1.take 2) (by omega) ?_
  rw [Nat.mod_eq_of_lt (by omega), vconv_int T_uint16 T_int rfl, wv_some, i64_in (by omega) (by omega), vbin_gtr, wv_some]
  by_cases hm : most < num (st.1.take 2)
  · have hyes : J (.bool true) G := by
      simp -zeta only [J, brB_true]
      refine cursor_Reader_breaks.use h fun G1 h1 c1 => ?_
      refine two ([], 3) G1 h1 c1 ?_
      rw [texts, if_pos ⟨h0, by omega, hm⟩]
      rfl
    have hd : decide (most < (num (st.1.take 2) : Int)) = true := by simp [hm]
    rw [hd]
    exact hyes
  · have hd : decide (most < (num (st.1.take 2) : Int)) = false := by simp; omega
    rw [hd]
    exact hno fun hh => hm hh.2.2

end

theorem vbin_ptrnil {T : Tbl} {t e : TypeId} {i : TI} {id : AId} {p : List Nat} {o : Nat} (ht : T t = some i) (hd : i.desc = .pointer e) : vbin T .eql t (.ptr id p o) .nilPtr = some (.bool false) := by
  simp [vbin, veqD, ht, hd]

theorem Rd.ch {id : AId} {st : List UInt8 × Int} {G G' : Heap} {E E' : List AId} (h : Rd id st G) (hc : Ch E G E' G') (hd : id ∉ E) : Rd id st G' := hc.others _ _ h hd
theorem Rd.row {id : AId} {st : List UInt8 × Int} {G : Heap} (h : Rd id st G) : (G id).isSome = true := by rw [h]; rfl

/-- Examples 1 to 3 of the document. -/
theorem escrowlaw03_head.use {G : Heap} {Q : AVal → Heap → Prop} (h : ∀ G', Ch [] G [] G' → Q (.bool true) G') : ACalls P escrowlaw03_head.n [] G Q := by
  refine escrowlaw03_head.sound ?_
  unfold escrowlaw03_head.S
  refine cursor_New.use fun iw G1 hw1 c1 => ?_
  refine cursor_Open.use fun ir G2 hr2 c2 => ?_
  have hw2 : Wr iw ([], 0) G2 [iw] := hw1.ch c2 (by simp)
  have hne : ir ∉ [iw] := fun hm => c2.apart (E := [iw]) (WrP.rows hw1) (by simp) iw (by simp) (by simp at hm; simp [hm])
  intro J47
  have h47 : J47 (.bool false) G2 := by
    simp -zeta only [J47, brB_false]
    refine cursor_Writer_U8.use (v := 1) (by omega) hw2 (by decide) fun F3 G3 hw3 c3 => ?_
    have hr3 := hr2.ch c3 hne
    have n3 : ir ∉ F3 := c3.apart (E := [ir]) (by simp [hr2.row]) (by simpa using hne) ir (by simp)
    refine cursor_Writer_U16.use (v := 258) (by omega) hw3 (by decide) fun F4 G4 hw4 c4 => ?_
    have hr4 := hr3.ch c4 n3
    have n4 : ir ∉ F4 := c4.apart (E := [ir]) (by simp [hr3.row]) (by simpa using n3) ir (by simp)
    refine cursor_Writer_Text.use hw4 (by decide) fun F5 G5 hw5 c5 => ?_
    have hr5 := hr4.ch c5 n4
    have e5 : laidText (laid (laid ([], 0) (be 1 1)) (be 2 258)) [97, 98] = ([1, 1, 2, 0, 2, 97, 98], 0) := by decide
    rw [e5] at hw5
    refine cursor_Writer_Out.use hw5 ?_
    simp -zeta only [vext0, vext1, wv_some, if_true]
    intro J46
    have h46 : J46 (.bool false) G5 := by
      simp -zeta only [J46, brB_false]
      refine cursor_Reader_Text.use hr5 fun G6 h6 c6 => ?_
      have t6 : texts ([0, 2, 97, 98, 7], 0) 2 = ([97, 98], ([7], 0)) := by decide
      rw [t6] at h6 ⊢
      simp -zeta only [vbin_seql, wv_some, decide_true, brB_true]
      refine cursor_Reader_Rest.use h6 ?_
      simp -zeta only [vbin_seql, wv_some, decide_true, brB_true]
      refine cursor_Reader_Done.use h6 ?_
      have d6 : dones ([7], 0) = 4 := by decide
      rw [d6]
      simp -zeta only [vbin_eql, wv_some, decide_true, brB_true]
      refine cursor_Reader_U16.use h6 fun G7 h7 c7 => ?_
      have t7 : takes ([7], 0) 2 = ([], ([], 2)) := by decide
      rw [t7] at h7 ⊢
      have n7 : ((num [] : Nat) : Int) = 0 := rfl
      rw [n7]
      simp -zeta only [vbin_eql, wv_some, decide_true, brB_true]
      refine cursor_Reader_Err.use h7 ?_
      simp -zeta only [vbin_eql, wv_some, decide_true, brB_true]
      refine cursor_Reader_Rest.use h7 ?_
      simp -zeta only [vbin_seql, wv_some, decide_true]
      refine h G7 ?_
      have k2 : Ch [] G [ir, iw] G2 := c1.trans (c2.sub (E := [iw]) (E' := [ir, iw]) (by simp) (by simp))
      have k5 : Ch [iw] G2 F5 G5 := (c3.trans c4).trans c5
      have k7 : Ch [ir] G5 [ir] G7 := c6.trans c7
      have m5 : Ch [ir, iw] G2 (ir :: F5) G5 := k5.sub (by simp) (by
        intro j hj
        rcases List.mem_cons.1 hj with rfl | hj
        · exact .inr (by simp)
        · exact .inl hj)
      have m7 : Ch (ir :: F5) G5 (ir :: F5) G7 := k7.sub (by simp) (fun j hj => .inr hj)
      exact ((k2.trans m5).trans m7).drop
    have e1 : ([1, 1, 2, 0, 2, 97, 98] : List UInt8) = [1, 1, 2, 0, 2, 97, 98] := rfl
    simp -zeta only [vbin_sneq, wv_some, decide_true, Bool.not_true, brB_false, vbin_neq]
    refine cursor_Writer_Len.use hw5 ?_
    have e7 : ((if (0 : Int) = 0 then ([1, 1, 2, 0, 2, 97, 98] : List UInt8).length else 0 : Nat) : Int) = 7 := by decide
    show wv (vbin T .neq t_int (.int .i64 ((if (0 : Int) = 0 then ([1, 1, 2, 0, 2, 97, 98] : List UInt8).length else 0 : Nat) : Int)) (.int .i64 7)) _
    rw [e7]
    simp -zeta only [vbin_neq, wv_some, decide_true, Bool.not_true]
    exact h46
  rw [vbin_ptrnil T_pt_cursor_Writer rfl, wv_some, brB_false, vbin_ptrnil T_pt_cursor_Reader rfl, wv_some]
  exact h47

end Go.Esc.M
