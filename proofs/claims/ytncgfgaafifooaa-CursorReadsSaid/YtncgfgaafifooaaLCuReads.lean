/- Own work. Chapter 3: CursorReads. -/
import Derived.Test.YtncgfgaafifooaaLCuWrites
set_option linter.unusedSimpArgs false
set_option linter.unusedVariables false
namespace Go.Esc.M
open Go Go.Esc

section
variable {F0 : List AId} {G0 G : Heap} {Q : AVal → Heap → Prop} {ps : List LP} {i j : Nat} {p q : AId} {st : List UInt8 × Int}

theorem length_takes_rest (st : List UInt8 × Int) (n : Int) : (takes st n).2.1.length ≤ st.1.length := by
  unfold takes
  split
  · split
    · simp
    · simp
  · simp
theorem length_texts_rest (st : List UInt8 × Int) (n : Int) : (texts st n).2.1.length ≤ st.1.length := by
  unfold texts
  split
  · simp
  · exact Nat.le_trans (length_takes_rest _ _) (length_takes_rest _ _)
theorem length_raws_rest (st : List UInt8 × Int) (n : Int) : (raws st n).2.1.length ≤ st.1.length := by
  unfold raws
  split
  · simp
  · exact length_takes_rest _ _

/-- A step of both. -/
theorem both {st' : List UInt8 × Int} {n1 n2 : FuncId} {l1 l2 : List AVal} {ra rb : AVal} {X : AVal → Heap → Prop → Prop}
    (hs : Sp F0 G0 ps G) (hi : ps[i]? = some (RdL p st)) (hj : ps[j]? = some (RdRL q st)) (hij : i ≠ j)
    (h1 : ∀ {G : Heap} {Q : AVal → Heap → Prop}, Rd p st G → (∀ G', Rd p st' G' → Ch [p] G [p] G' → Q ra G') → ACalls P n1 l1 G Q)
    (h2 : ∀ {G : Heap} {Q : AVal → Heap → Prop}, RdR q st G → (∀ G', RdR q st' G' → Ch [q] G [q] G' → Q rb G') → ACalls P n2 l2 G Q)
    {K : AVal → AVal → Heap → Prop} (hQ : ∀ G', Sp F0 G0 ((ps.set i (RdL p st')).set j (RdRL q st')) G' → K ra rb G')
    (hXs : ∀ G', Sp F0 G0 (ps.set i (RdL p st')) G' → ∀ Y, Y → X ra G' Y) :
    ACalls P n1 l1 G fun v5 G6 => X v5 G6 (ACalls P n2 l2 G6 fun v7 G8 => K v5 v7 G8) := by
  refine hs.call hi (RdL p st') fun F h k => ?_
  obtain ⟨h, rfl⟩ := h
  refine h1 h fun G1 r1 c1 => ?_
  have s1 := k _ _ ⟨r1, rfl⟩ c1
  refine hXs G1 s1 _ ?_
  refine s1.call (i := j) (p := RdRL q st) (by rw [List.getElem?_set_ne hij]; exact hj) (RdRL q st') fun F h k => ?_
  obtain ⟨h, rfl⟩ := h
  refine h2 h fun G2 r2 c2 => ?_
  exact hQ _ (k _ _ ⟨r2, rfl⟩ c2)


theorem set_cons1 {α : Type} (a b : α) (l : List α) (i : Nat) : (a :: l).set (i + 1) b = a :: l.set i b := rfl

theorem escrowlaw03_reads.use {o : OpM} {m : Nat} (ho : o.ok m) (hs : Sp F0 G0 ps G) (hi : ps[i]? = some (RdL p st)) (hj : ps[j]? = some (RdRL q st)) (hij : i ≠ j) (hbig : st.1.length ≤ 9223372036854775807)
    (hQ : ∀ st' G', st'.1.length ≤ st.1.length → Sp F0 G0 ((ps.set i (RdL p st')).set j (RdRL q st')) G' → Q (.bool true) G') : ACalls P escrowlaw03_reads.n [.ptr p [] 0, .ptr q [] 0, o.av] G Q := by
  refine escrowlaw03_reads.sound ?_
  unfold escrowlaw03_reads.S
  intro i1 f1
  have hh32 : szs (o.v.h.map u8v) = 32 := by rw [szs_uni (n := 1) (uni_u8 o.v.h)]; simp [ho.v.h]
  have s1 := hs.new (p := RowL i1 o.av) ⟨Heap.upd_self _ _ _, rfl⟩ (Ch.new f1)
  revert s1
  generalize G.upd i1 (.own o.av) = G2
  intro s1
  have hg : ∀ {ps' : List LP} {G' : Heap}, Sp F0 G0 (RowL i1 o.av :: ps') G' → vload T G' t_int (.ptr i1 [2] 38) = some (.int .i64 o.kind) ∧ vload T G' t_int (.ptr i1 [3] 39) = some (.int .i64 o.n) := by
    intro ps' G' h
    have h := RowL.own (i := 0) h rfl
    exact ⟨vload_fld (c := .int .i64 o.kind) h rfl (by simp [szs, sz, ValM.av, hh32]) rfl T_int rfl, vload_fld (c := .int .i64 o.n) h rfl (by simp [szs, sz, ValM.av, hh32]) rfl T_int rfl⟩
  have hi' : (RowL i1 o.av :: ps)[i + 1]? = some (RdL p st) := by simpa using hi
  have hj' : (RowL i1 o.av :: ps)[j + 1]? = some (RdRL q st) := by simpa using hj
  have fin : ∀ {st' : List UInt8 × Int} {G' : Heap} {b : Bool}, b = true → st'.1.length ≤ st.1.length → Sp F0 G0 (((RowL i1 o.av :: ps).set (i + 1) (RdL p st')).set (j + 1) (RdRL q st')) G' → Q (.bool b) G' := by
    intro st' G' b hb hle h
    subst hb
    exact hQ st' G' hle (by simpa using h.erase 0)
  have same : Sp F0 G0 (((RowL i1 o.av :: ps).set (i + 1) (RdL p st)).set (j + 1) (RdRL q st)) G2 → Q (.bool true) G2 := fun h => fin rfl (Nat.le_refl _) h
  have hset : ((RowL i1 o.av :: ps).set (i + 1) (RdL p st)).set (j + 1) (RdRL q st) = RowL i1 o.av :: ps := by
    have e1 : ps.set i (RdL p st) = ps := by
      apply List.ext_getElem?
      intro n
      rw [List.getElem?_set]
      split
      · rename_i h; subst h
        split
        · exact hi.symm
        · rename_i h; rw [List.getElem?_eq_none (by omega)]
      · rfl
    have e2 : ps.set j (RdRL q st) = ps := by
      apply List.ext_getElem?
      intro n
      rw [List.getElem?_set]
      split
      · rename_i h; subst h
        split
        · exact hj.symm
        · rename_i h; rw [List.getElem?_eq_none (by omega)]
      · rfl
    rw [set_cons1, set_cons1, e1, e2]
  have ne' : i + 1 ≠ j + 1 := by omega
  rw [(hg s1).1]
  simp -zeta only [vbin_eql, wv_some, brB_dec]
  refine ⟨fun h0 => ?_, fun h0 => ⟨fun h1 => ?_, fun h1 => ⟨fun h2 => ?_, fun h2 => ⟨fun h3 => ?_, fun h3 => ⟨fun h4 => ?_, fun h4 => ⟨fun h5 => ?_, fun h5 => ⟨fun h6 => ?_, fun h6 => ⟨fun h7 => ?_, fun h7 => ⟨fun h8 => ?_, fun h8 => ⟨fun h9 => ?_, fun h9 => ⟨fun h10 => ?_, fun h10 => ?_⟩⟩⟩⟩⟩⟩⟩⟩⟩⟩⟩
  · refine both (X := fun _ _ Y => Y) s1 hi' hj' ne' (fun h k => cursor_Reader_U8.use h k) (fun h k => escrowref03_Reader_U8.use h k) (K := fun v w G => wv (vbin T .eql t_uint8 v w) fun v => Q v G) (fun G' h => ?_) (fun _ _ _ h => h)
    rw [vbin_eql, wv_some]
    exact fin (by simp) (length_takes_rest _ _) h
  · refine both (X := fun _ _ Y => Y) s1 hi' hj' ne' (fun h k => cursor_Reader_U16.use h k) (fun h k => escrowref03_Reader_U16.use h k) (K := fun v w G => wv (vbin T .eql t_uint16 v w) fun v => Q v G) (fun G' h => ?_) (fun _ _ _ h => h)
    rw [vbin_eql, wv_some]
    exact fin (by simp) (length_takes_rest _ _) h
  · refine both (X := fun _ _ Y => Y) s1 hi' hj' ne' (fun h k => cursor_Reader_U32.use h k) (fun h k => escrowref03_Reader_U32.use h k) (K := fun v w G => wv (vbin T .eql t_uint32 v w) fun v => Q v G) (fun G' h => ?_) (fun _ _ _ h => h)
    rw [vbin_eql, wv_some]
    exact fin (by simp) (length_takes_rest _ _) h
  · refine both (X := fun _ _ Y => Y) s1 hi' hj' ne' (fun h k => cursor_Reader_U64.use h k) (fun h k => escrowref03_Reader_U64.use h k) (K := fun v w G => wv (vbin T .eql t_uint64 v w) fun v => Q v G) (fun G' h => ?_) (fun _ _ _ h => h)
    rw [vbin_eql, wv_some]
    exact fin (by simp) (length_takes_rest _ _) h
  · refine both (X := fun _ _ Y => Y) s1 hi' hj' ne' (fun h k => cursor_Reader_I64.use h k) (fun h k => escrowref03_Reader_I64.use h k) (K := fun v w G => wv (vbin T .eql t_int64 v w) fun v => Q v G) (fun G' h => ?_) (fun _ _ _ h => h)
    rw [vbin_eql, wv_some]
    exact fin (by simp) (length_takes_rest _ _) h
  · refine both (X := fun _ _ Y => Y) s1 hi' hj' ne' (fun h k => cursor_Reader_Hash.use h k) (fun h k => escrowref03_Reader_Hash.use h k) (K := fun v w G => wv (vbin T .eql t_api_Hash v w) fun v => Q v G) (fun G' h => ?_) (fun _ _ _ h => h)
    have hl := length_fill (n := 32) (takes_len32 st)
    rw [vbin_heql T_api_Hash rfl T_uint8 rfl rfl hl hl, wv_some]
    exact fin (by simp) (length_takes_rest _ _) h
  · rw [(hg s1).2]
    simp -zeta only [wv_some]
    refine both (X := fun _ G Y => (vload T G t_int (.ptr i1 [3] 39) = some (.int .i64 o.n) ∧ True) ∧ Y) s1 hi' hj' ne' (fun h k => cursor_Reader_Text.use h k) (fun h k => escrowref03_Reader_Text.use hbig h k) (K := fun v w G => wv (vbin T .eql t_string v w) fun v => Q v G) (fun G' h => ?_) (fun G' h Y y => ⟨⟨(hg (ps' := ps.set i _) h).2, trivial⟩, y⟩)
    rw [vbin_seql, wv_some]
    exact fin (by simp) (length_texts_rest _ _) h
  · rw [(hg s1).2]
    simp -zeta only [wv_some]
    refine both (X := fun _ G Y => (vload T G t_int (.ptr i1 [3] 39) = some (.int .i64 o.n) ∧ True) ∧ Y) s1 hi' hj' ne' (fun h k => cursor_Reader_Raw.use h k) (fun h k => escrowref03_Reader_Raw.use h k) (K := fun v w G => wv (vbin T .eql t_string v w) fun v => Q v G) (fun G' h => ?_) (fun G' h Y y => ⟨⟨(hg (ps' := ps.set i _) h).2, trivial⟩, y⟩)
    rw [vbin_seql, wv_some]
    exact fin (by simp) (length_raws_rest _ _) h
  · obtain ⟨F, r1, _⟩ := s1.get hi'
    obtain ⟨F', r2, _⟩ := s1.get hj'
    refine cursor_Reader_Err.use r1 ?_
    refine escrowref03_Reader_Err.use r2 ?_
    simp -zeta only [vbin_eql, wv_some, decide_true]
    exact same (by rw [hset]; exact s1)
  · obtain ⟨F, r1, _⟩ := s1.get hi'
    obtain ⟨F', r2, _⟩ := s1.get hj'
    refine cursor_Reader_Rest.use r1 ?_
    refine escrowref03_Reader_Rest.use r2 ?_
    simp -zeta only [vbin_seql, wv_some, decide_true]
    exact same (by rw [hset]; exact s1)
  · obtain ⟨F, r1, _⟩ := s1.get hi'
    obtain ⟨F', r2, _⟩ := s1.get hj'
    refine cursor_Reader_Done.use r1 ?_
    refine escrowref03_Reader_Done.use r2 ?_
    simp -zeta only [vbin_eql, wv_some, decide_true]
    exact same (by rw [hset]; exact s1)
  · exact same (by rw [hset]; exact s1)

end

def fourR (a0 a1 b0 b1 i9 i17 : AId) (s : (List UInt8 × Int) × (List UInt8 × Int)) : List LP :=
  [RowL i17 (two b0 b1), RdRL b1 s.2, RdRL b0 s.1, RowL i9 (two a0 a1), RdL a1 s.2, RdL a0 s.1]

set_option maxRecDepth 20000 in
theorem law_CursorReads {R : Nat} {G : Heap} {x y l : AVal} {mx my ml : Nat} (hx : wt T G R 6 t_string x mx) (hy : wt T G R 6 t_string y my) (hl : wt T G R 6 t_sl_escrowlaw03_Op l ml) :
    ACalls P escrowlaw03_CursorReads.n [x, y, l] G fun v _ => v = .bool true := by
  obtain ⟨x, rfl, _, hxl, _⟩ := wt_str T_string rfl hx
  obtain ⟨y, rfl, _, hyl, _⟩ := wt_str T_string rfl hy
  unfold maxLen at hxl hyl
  obtain ⟨os, ms, hro, hall, hms, _, hmax⟩ := wt_ro OpM.av OpM.ok T_sl_escrowlaw03_Op rfl T_escrowlaw03_Op (fun c m h => wt_Op h) hl
  have hmax' : os.length ≤ 9223372036854775807 := by unfold maxLen at hmax; omega
  refine escrowlaw03_CursorReads.sound ?_
  unfold escrowlaw03_CursorReads.S
  refine escrowlaw03_head.use fun G2 c2 => ?_
  simp -zeta only [vun_not, wv_some, Bool.not_true, brB_false]
  have s2 : Sp [] G [] G2 := (Sp.nil G).tmp c2
  refine cursor_Open.use fun a0 G5 w5 c5 => ?_
  have s5 := s2.new (p := RdL a0 (x, 0)) ⟨w5, rfl⟩ c5
  refine cursor_Open.use fun a1 G7 w7 c7 => ?_
  have s7 := s5.new (p := RdL a1 (y, 0)) ⟨w7, rfl⟩ c7
  show wv (some (two a0 a1)) _
  rw [wv_some]
  intro i9 f9
  have s10 := s7.new (p := RowL i9 z_ar2_cursor_Reader) ⟨Heap.upd_self _ _ _, rfl⟩ (Ch.new f9)
  refine s10.call (i := 0) rfl (RowL i9 (two a0 a1)) fun F h k => ?_
  obtain ⟨h, rfl⟩ := h
  rw [two_store T_ar2_cursor_Reader rfl rfl rfl h, wg_some]
  have s11 := k _ _ ⟨Heap.upd_self _ _ _, rfl⟩ (ch_upd h (by simp))
  refine escrowref03_Open.use fun b0 G13 w13 c13 => ?_
  have s13 := s11.new (p := RdRL b0 (x, 0)) ⟨w13, rfl⟩ c13
  refine escrowref03_Open.use fun b1 G15 w15 c15 => ?_
  have s15 := s13.new (p := RdRL b1 (y, 0)) ⟨w15, rfl⟩ c15
  show wv (some (two b0 b1)) _
  rw [wv_some]
  intro i17 f17
  have s18 := s15.new (p := RowL i17 z_ar2_escrowref03_Reader) ⟨Heap.upd_self _ _ _, rfl⟩ (Ch.new f17)
  refine s18.call (i := 0) rfl (RowL i17 (two b0 b1)) fun F h k => ?_
  obtain ⟨h, rfl⟩ := h
  rw [two_store T_ar2_escrowref03_Reader rfl rfl rfl h, wg_some]
  have s19 : Sp [] G (fourR a0 a1 b0 b1 i9 i17 ((x, 0), (y, 0))) _ := k _ _ ⟨Heap.upd_self _ _ _, rfl⟩ (ch_upd h (by simp))
  revert s19
  generalize Heap.upd _ i17 (.own (two b0 b1)) = G19
  intro s19 J92
  have h92 : J92 (.bool false) G19 := by
    simp -zeta only [J92, brB_false]
    intro R28 hR28
    have loop : ∀ (n j : Nat) (s : (List UInt8 × Int) × (List UInt8 × Int)) (G' : Heap), os.length - j = n → j ≤ os.length → Sp [] G (fourR a0 a1 b0 b1 i9 i17 s) G' → s.1.1.length ≤ 9223372036854775807 → s.2.1.length ≤ 9223372036854775807 →
        R28 [l, .ptr i9 [] 0, .ptr i17 [] 0, .int .i64 j] G' := by
      intro n
      induction n with
      | zero =>
        intro j s G' hn hj hs g1 g2
        refine hR28 _ _ _ _ _ ?_
        rw [(hro.mono hs.ro).is.len (i := ti_sl_escrowlaw03_Op) T_sl_escrowlaw03_Op rfl, List.length_map]
        simp -zeta only [wv_some, vbin_lss, brB_dec]
        exact ⟨fun h => absurd h (by omega), fun _ => trivial⟩
      | succ n ih =>
        intro j s G' hn hj hs g1 g2
        have hjl : j < os.length := by omega
        obtain ⟨o, ho⟩ : ∃ o, os[j]? = some o := ⟨_, List.getElem?_eq_getElem hjl⟩
        obtain ⟨m, hom, hmle⟩ := hall.get ho
        refine hR28 _ _ _ _ _ ?_
        rw [(hro.mono hs.ro).is.len (i := ti_sl_escrowlaw03_Op) T_sl_escrowlaw03_Op rfl, List.length_map]
        simp -zeta only [wv_some, vbin_lss, brB_dec]
        refine ⟨fun _ => ?_, fun h => absurd (by omega) h⟩
        have hoj : (os.map OpM.av)[j]? = some o.av := by rw [List.getElem?_map, ho]; rfl
        obtain ⟨a, b, e1, e2, e3⟩ := hro.fld (k := .i64) (f := 0) (c := .bool o.two) T_sl_escrowlaw03_Op rfl T_escrowlaw03_Op rfl rfl T_bool (by decide) hoj rfl rfl rfl
        obtain ⟨a', f1, f2⟩ := hro.elem (k := .i64) T_sl_escrowlaw03_Op rfl T_escrowlaw03_Op hoj rfl
        rw [e1] at f1
        injection f1 with f1; subst f1
        rw [e1, wv_some, e2, wv_some, e3 _ hs.ro, wv_some]
        intro J90
        have h90 : ∀ k : Nat, k < 2 → J90 (.int .i64 k) G' := by
          intro k hk
          simp -zeta only [J90]
          obtain ⟨F, h9, rfl⟩ := hs.get (i := 3) rfl
          obtain ⟨F, h17, rfl⟩ := hs.get (i := 0) rfl
          obtain ⟨p0, q1, q2⟩ := two_at (k := k) T_ar2_cursor_Reader rfl T_pt_cursor_Reader rfl rfl h9 hk
          obtain ⟨p2, u1, u2⟩ := two_at (k := k) T_ar2_escrowref03_Reader rfl T_pt_escrowref03_Reader rfl rfl h17 hk
          rw [q1, wv_some, q2, wv_some, u1, wv_some, u2, wv_some, wv_some, f2 _ hs.ro, wv_some]
          have go : ∀ (K : AVal → Heap → Prop), (∀ s' G', Sp [] G (fourR a0 a1 b0 b1 i9 i17 s') G' → s'.1.1.length ≤ 9223372036854775807 → s'.2.1.length ≤ 9223372036854775807 → K (.bool true) G') → ACalls P escrowlaw03_reads.n [.ptr (if k = 0 then a0 else a1) [] 0, .ptr (if k = 0 then b0 else b1) [] 0, o.av] G' K := by
            intro K hK
            have hk01 : k = 0 ∨ k = 1 := by omega
            rcases hk01 with rfl | rfl
            · exact escrowlaw03_reads.use hom hs (i := 5) (j := 2) rfl rfl (by decide) g1 fun st' G' hle h => hK (st', s.2) G' h (Nat.le_trans hle g1) g2
            · exact escrowlaw03_reads.use hom hs (i := 4) (j := 1) rfl rfl (by decide) g2 fun st' G' hle h => hK (s.1, st') G' h g1 (Nat.le_trans hle g2)
          refine go _ fun s' G48 s48 g1' g2' => ?_
          simp -zeta only [vun_not, wv_some, Bool.not_true, brB_false]
          intro R50 hR50
          obtain ⟨F, h9, rfl⟩ := s48.get (i := 3) rfl
          obtain ⟨F, h17, rfl⟩ := s48.get (i := 0) rfl
          have one : ∀ q : Nat, q < 2 → R50 [l, .ptr i9 [] 0, .ptr i17 [] 0, .int .i64 j, .int .i64 ((q + 1 : Nat) : Int)] G48 → R50 [l, .ptr i9 [] 0, .ptr i17 [] 0, .int .i64 j, .int .i64 (q : Int)] G48 := by
            intro q hq hnext
            refine hR50 _ _ _ _ _ _ ?_
            simp -zeta only [wv_some, vbin_lss, brB_dec]
            refine ⟨fun _ => ?_, fun h => absurd (by omega) h⟩
            obtain ⟨p1, u1, u2⟩ := two_at (k := q) T_ar2_cursor_Reader rfl T_pt_cursor_Reader rfl rfl h9 hq
            obtain ⟨p2, u3, u4⟩ := two_at (k := q) T_ar2_escrowref03_Reader rfl T_pt_escrowref03_Reader rfl rfl h17 hq
            have wa : Rd (if q = 0 then a0 else a1) (pick q s') G48 := by
              have : q = 0 ∨ q = 1 := by omega
              rcases this with rfl | rfl
              · exact (s48.get (i := 5) rfl).elim fun _ h => h.1
              · exact (s48.get (i := 4) rfl).elim fun _ h => h.1
            have wb : RdR (if q = 0 then b0 else b1) (pick q s') G48 := by
              have : q = 0 ∨ q = 1 := by omega
              rcases this with rfl | rfl
              · exact (s48.get (i := 2) rfl).elim fun _ h => h.1
              · exact (s48.get (i := 1) rfl).elim fun _ h => h.1
            rw [u1, wv_some, u2, wv_some, u3, wv_some, u4, wv_some]
            refine cursor_Reader_Err.use wa ⟨⟨u4, trivial⟩, ?_⟩
            refine escrowref03_Reader_Err.use wb ?_
            simp -zeta only [wv_some, vbin_neq, decide_true, Bool.not_true, brB_false]
            rw [u2, wv_some, u4, wv_some]
            refine cursor_Reader_Rest.use wa ⟨⟨u4, trivial⟩, ?_⟩
            refine escrowref03_Reader_Rest.use wb ?_
            simp -zeta only [wv_some, vbin_sneq, decide_true, Bool.not_true, brB_false]
            rw [u2, wv_some, u4, wv_some]
            refine cursor_Reader_Done.use wa ⟨⟨u4, trivial⟩, ?_⟩
            refine escrowref03_Reader_Done.use wb ?_
            simp -zeta only [wv_some, vbin_neq, decide_true, Bool.not_true, brB_false, vbin_add]
            rw [i64_in (by omega) (by omega)]
            exact hnext
          refine one 0 (by omega) (one 1 (by omega) ?_)
          refine hR50 _ _ _ _ _ _ ?_
          simp -zeta only [wv_some, vbin_lss, brB_dec]
          refine ⟨fun h => absurd h (by decide), fun _ => ?_⟩
          simp -zeta only [wv_some, vbin_add]
          rw [i64_in (by omega) (by omega)]
          exact ih (j + 1) s' G48 (by omega) (by omega) s48 g1' g2'
        simp -zeta only [brB_bool]
        exact ⟨fun _ => h90 1 (by omega), fun _ => h90 0 (by omega)⟩
    exact loop _ 0 _ _ rfl (by omega) s19 (by simp only; omega) (by simp only; omega)
  obtain ⟨F, hi, rfl⟩ := s19.get (i := 3) rfl
  obtain ⟨p0, e0, l0⟩ := two_at (k := 0) T_ar2_cursor_Reader rfl T_pt_cursor_Reader rfl rfl hi (by omega)
  obtain ⟨p1, e1, l1⟩ := two_at (k := 1) T_ar2_cursor_Reader rfl T_pt_cursor_Reader rfl rfl hi (by omega)
  show wv (viaddr T t_ar2_cursor_Reader (.ptr i9 [] 0) (.int .i64 ((0 : Nat) : Int))) _
  rw [e0, wv_some, l0, wv_some, vbin_ptrnil T_pt_cursor_Reader rfl, wv_some, brB_false]
  show wv (viaddr T t_ar2_cursor_Reader (.ptr i9 [] 0) (.int .i64 ((1 : Nat) : Int))) _
  rw [e1, wv_some, l1, wv_some, vbin_ptrnil T_pt_cursor_Reader rfl, wv_some]
  exact h92

end Go.Esc.M
