/- Own work. Chapter 3: CursorWrites. -/
import Derived.Test.YtncgfgaafifooaaLCy
set_option linter.unusedSimpArgs false
set_option linter.unusedVariables false
namespace Go.Esc.M
open Go Go.Esc

/-- Two pointers in an array. -/
def two (a b : AId) : AVal := .agg [.ptr a [] 0, .ptr b [] 0]

section
variable {G : Heap}

theorem two_at {ta te : TypeId} {ia ie : TI} {i a b : AId} (hta : T ta = some ia) (hda : ia.desc = .array 2 te) (hte : T te = some ie) (hz : ie.size = 1) (hag : ie.desc.isAgg = false) (hg : G i = some (.own (two a b))) {k : Nat} (hk : k < 2) :
    ∃ p, viaddr T ta (.ptr i [] 0) (.int .i64 k) = some p ∧ vload T G te p = some (.ptr (if k = 0 then a else b) [] 0) := by
  refine ⟨.ptr i [k] k, ?_, ?_⟩
  · simp only [viaddr, hta, hda, hte]
    rw [if_pos ⟨by omega, by omega⟩]
    simp [hz]
  · have : k = 0 ∨ k = 1 := by omega
    rcases this with rfl | rfl
    · exact vload_fld (c := .ptr a [] 0) hg rfl rfl rfl hte (by simp [vfits, sz, hz, AVal.isAgg, hag])
    · exact vload_fld (c := .ptr b [] 0) hg rfl rfl rfl hte (by simp [vfits, sz, hz, AVal.isAgg, hag])

theorem two_store {ta : TypeId} {ia : TI} {i a b : AId} {z : AVal} (hta : T ta = some ia) (hz : ia.size = 2) (hag : ia.desc.isAgg = true) (hzz : sz z = 2) (hg : G i = some (.own z)) : vstore T G ta (.ptr i [] 0) (two a b) = some (G.upd i (.own (two a b))) := by
  simp [vstore, hg, sub, hta, vfits, two, sz, szs, hz, hzz, AVal.isAgg, hag, okv, okvs, putAt]

end

/-- What two writers hold. -/
def duo (k : Nat) (s : List UInt8 × Int) (p : (List UInt8 × Int) × (List UInt8 × Int)) : (List UInt8 × Int) × (List UInt8 × Int) := if k = 0 then (s, p.2) else (p.1, s)
def pick (k : Nat) (p : (List UInt8 × Int) × (List UInt8 × Int)) : List UInt8 × Int := if k = 0 then p.1 else p.2

/-- The four writers and the two arrays. -/
def four (a0 a1 b0 b1 i9 i17 : AId) (s : (List UInt8 × Int) × (List UInt8 × Int)) : List LP :=
  [RowL i17 (two b0 b1), WrL b1 s.2.1 s.2.2, WrL b0 s.1.1 s.1.2, RowL i9 (two a0 a1), WrL a1 s.2.1 s.2.2, WrL a0 s.1.1 s.1.2]

set_option maxRecDepth 20000 in
theorem law_CursorWrites {R : Nat} {G : Heap} {l : AVal} {ml : Nat} (hl : wt T G R 6 t_sl_escrowlaw03_Op l ml) (hb : ml ≤ 1048576) :
    ACalls P escrowlaw03_CursorWrites.n [l] G fun v _ => v = .bool true := by
  obtain ⟨os, ms, hro, hall, hms, _, _⟩ := wt_ro OpM.av OpM.ok T_sl_escrowlaw03_Op rfl T_escrowlaw03_Op (fun c m h => wt_Op h) hl
  have hlen : os.length ≤ 1048576 := by
    have := hall.length fun c m h => h.m
    omega
  refine escrowlaw03_CursorWrites.sound ?_
  unfold escrowlaw03_CursorWrites.S
  refine escrowlaw03_head.use fun G2 c2 => ?_
  simp -zeta only [vun_not, wv_some, Bool.not_true, brB_false]
  have s2 : Sp [] G [] G2 := (Sp.nil G).tmp c2
  refine cursor_New.use fun a0 G5 w5 c5 => ?_
  have s5 := s2.new (p := WrL a0 [] 0) w5 c5
  refine cursor_New.use fun a1 G7 w7 c7 => ?_
  have s7 := s5.new (p := WrL a1 [] 0) w7 c7
  show wv (some (two a0 a1)) _
  rw [wv_some]
  intro i9 f9
  have s10 := s7.new (p := RowL i9 z_ar2_cursor_Writer) ⟨Heap.upd_self _ _ _, rfl⟩ (Ch.new f9)
  refine s10.call (i := 0) rfl (RowL i9 (two a0 a1)) fun F h k => ?_
  obtain ⟨h, rfl⟩ := h
  rw [two_store T_ar2_cursor_Writer rfl rfl rfl h, wg_some]
  have s11 := k _ _ ⟨Heap.upd_self _ _ _, rfl⟩ (ch_upd h (by simp))
  refine escrowref03_New.use fun b0 G13 w13 c13 => ?_
  have s13 := s11.new (p := WrL b0 [] 0) w13 c13
  refine escrowref03_New.use fun b1 G15 w15 c15 => ?_
  have s15 := s13.new (p := WrL b1 [] 0) w15 c15
  show wv (some (two b0 b1)) _
  rw [wv_some]
  intro i17 f17
  have s18 := s15.new (p := RowL i17 z_ar2_escrowref03_Writer) ⟨Heap.upd_self _ _ _, rfl⟩ (Ch.new f17)
  refine s18.call (i := 0) rfl (RowL i17 (two b0 b1)) fun F h k => ?_
  obtain ⟨h, rfl⟩ := h
  rw [two_store T_ar2_escrowref03_Writer rfl rfl rfl h, wg_some]
  have s19 : Sp [] G (four a0 a1 b0 b1 i9 i17 (([], 0), ([], 0))) _ := k _ _ ⟨Heap.upd_self _ _ _, rfl⟩ (ch_upd h (by simp))
  revert s19
  generalize Heap.upd _ i17 (.own (two b0 b1)) = G19
  intro s19 J93
  have h93 : J93 (.bool false) G19 := by
    simp -zeta only [J93, brB_false]
    intro R28 hR28
    have loop : ∀ (n j : Nat) (s : (List UInt8 × Int) × (List UInt8 × Int)) (G' : Heap), os.length - j = n → j ≤ os.length → Sp [] G (four a0 a1 b0 b1 i9 i17 s) G' → s.1.1.length ≤ j * 1200000 → s.2.1.length ≤ j * 1200000 →
        R28 [l, .ptr i9 [] 0, .ptr i17 [] 0, .int .i64 j] G' := by
      intro n
      induction n with
      | zero =>
        intro j s G' hn hj hs h1 h2
        refine hR28 _ _ _ _ _ ?_
        rw [(hro.mono hs.ro).is.len (i := ti_sl_escrowlaw03_Op) T_sl_escrowlaw03_Op rfl, List.length_map]
        simp -zeta only [wv_some, vbin_lss, brB_dec]
        exact ⟨fun h => absurd h (by omega), fun _ => trivial⟩
      | succ n ih =>
        intro j s G' hn hj hs h1 h2
        have hjl : j < os.length := by omega
        obtain ⟨o, ho⟩ : ∃ o, os[j]? = some o := ⟨_, List.getElem?_eq_getElem hjl⟩
        obtain ⟨m, hom, hmle⟩ := hall.get ho
        have hov := hom.v.le (m' := 1048576) (by omega)
        refine hR28 _ _ _ _ _ ?_
        rw [(hro.mono hs.ro).is.len (i := ti_sl_escrowlaw03_Op) T_sl_escrowlaw03_Op rfl, List.length_map]
        simp -zeta only [wv_some, vbin_lss, brB_dec]
        refine ⟨fun _ => ?_, fun h => absurd (by omega) h⟩
        have hoj : (os.map OpM.av)[j]? = some o.av := by rw [List.getElem?_map, ho]; rfl
        have hh32 : szs (o.v.h.map u8v) = 32 := by rw [szs_uni (n := 1) (uni_u8 o.v.h)]; simp [hov.h]
        obtain ⟨a, b, e1, e2, e3⟩ := hro.fld (k := .i64) (f := 0) (c := .bool o.two) T_sl_escrowlaw03_Op rfl T_escrowlaw03_Op rfl rfl T_bool (by decide) hoj rfl rfl rfl
        obtain ⟨a', b', f1, f2, f3⟩ := hro.fld (k := .i64) (f := 1) (c := o.v.av) T_sl_escrowlaw03_Op rfl T_escrowlaw03_Op rfl rfl T_escrowlaw03_Val (by decide) hoj rfl rfl (by simp [vfits, ValM.av, sz, szs, hh32, ti_escrowlaw03_Val, AVal.isAgg, ADesc.isAgg])
        rw [e1] at f1
        injection f1 with f1; subst f1
        rw [e1, wv_some, e2, wv_some, e3 _ hs.ro, wv_some]
        intro J91
        have h91 : ∀ k : Nat, k < 2 → J91 (.int .i64 k) G' := by
          intro k hk
          simp -zeta only [J91]
          have hst : (pick k s).1.length ≤ j * 1200000 := by unfold pick; split <;> assumption
          obtain ⟨F, h9, rfl⟩ := hs.get (i := 3) rfl
          obtain ⟨p0, q1, q2⟩ := two_at (k := k) T_ar2_cursor_Writer rfl T_pt_cursor_Writer rfl rfl h9 hk
          rw [q1, wv_some, q2, wv_some, wv_some, f2, wv_some, f3 _ hs.ro, wv_some]
          let s' := duo k (layV (pick k s) o.v) s
          have hlen' : (layV (pick k s) o.v).1.length ≤ (j + 1) * 1200000 := by
            have := length_layV (pick k s) hov
            omega
          have hs1 : s'.1.1.length ≤ (j + 1) * 1200000 := by
            by_cases hk0 : k = 0
            · simp only [s', duo, if_pos hk0]; exact hlen'
            · simp only [s', duo, if_neg hk0]; exact Nat.le_trans h1 (Nat.mul_le_mul_right _ (Nat.le_succ j))
          have hs2 : s'.2.1.length ≤ (j + 1) * 1200000 := by
            by_cases hk0 : k = 0
            · simp only [s', duo, if_pos hk0]; exact Nat.le_trans h2 (Nat.mul_le_mul_right _ (Nat.le_succ j))
            · simp only [s', duo, if_neg hk0]; exact hlen'
          have hk01 : k = 0 ∨ k = 1 := by omega
          have fin : ∀ G54, Sp [] G (four a0 a1 b0 b1 i9 i17 s') G54 → ∀ R55 : List AVal → Heap → Prop, (∀ (x57 x58 x59 x60 x61 : AVal) (G56 : Heap), (wv (vbin T .lss t_int x61 (.int .i64 2)) fun v62 => brB (some v62)
  (wv (viaddr T t_ar2_cursor_Writer x58 x61) fun v63 => wv (vload T G56 t_pt_cursor_Writer v63) fun v64 => ACalls P cursor_Writer_Out.n [v64] G56 fun v65 G66 => wv (vextract v65 0) fun v67 => wv (vextract v65 1) fun v68 => wv (viaddr T t_ar2_escrowref03_Writer x59 x61) fun v69 => wv (vload T G66 t_pt_escrowref03_Writer v69) fun v70 => ACalls P escrowref03_Writer_Out.n [v70] G66 fun v71 G72 => wv (vextract v71 0) fun v73 => wv (vextract v71 1) fun v74 => wv (vbin T .neq t_string v67 v73) fun v75 => brB (some v75)
  (AVal.bool false = .bool true)
  (wv (vbin T .neq t_api_Errno v68 v74) fun v76 => brB (some v76)
  (AVal.bool false = .bool true)
  (wv (viaddr T t_ar2_cursor_Writer x58 x61) fun v77 => wv (vload T G72 t_pt_cursor_Writer v77) fun v78 => wv (viaddr T t_ar2_escrowref03_Writer x59 x61) fun v79 => wv (vload T G72 t_pt_escrowref03_Writer v79) fun v80 => ACalls P cursor_Writer_Len.n [v78] G72 fun v81 G82 => (vload T G82 t_pt_escrowref03_Writer v79 = some v80 ∧ True) ∧ (ACalls P escrowref03_Writer_Len.n [v80] G82 fun v83 G84 => wv (vbin T .neq t_int v81 v83) fun v85 => brB (some v85)
  (AVal.bool false = .bool true)
  (wv (vbin T .add t_int x61 (.int .i64 1)) fun v90 => R55 [x57, x58, x59, x60, v90] G84)))))
  (wv (vbin T .add t_int x60 (.int .i64 1)) fun v92 => R28 [x57, x58, x59, v92] G56)) → R55 [x57, x58, x59, x60, x61] G56) → R55 [l, .ptr i9 [] 0, .ptr i17 [] 0, .int .i64 j, .int .i64 ((0 : Nat) : Int)] G54 := by
            intro G54 s54 R55 hR55
            obtain ⟨F, h9, rfl⟩ := s54.get (i := 3) rfl
            obtain ⟨F, h17, rfl⟩ := s54.get (i := 0) rfl
            have one : ∀ q : Nat, q < 2 → R55 [l, .ptr i9 [] 0, .ptr i17 [] 0, .int .i64 j, .int .i64 ((q + 1 : Nat) : Int)] G54 → R55 [l, .ptr i9 [] 0, .ptr i17 [] 0, .int .i64 j, .int .i64 (q : Int)] G54 := by
              intro q hq hnext
              refine hR55 _ _ _ _ _ _ ?_
              simp -zeta only [wv_some, vbin_lss, brB_dec]
              refine ⟨fun _ => ?_, fun h => absurd (by omega) h⟩
              obtain ⟨p1, u1, u2⟩ := two_at (k := q) T_ar2_cursor_Writer rfl T_pt_cursor_Writer rfl rfl h9 hq
              obtain ⟨p2, u3, u4⟩ := two_at (k := q) T_ar2_escrowref03_Writer rfl T_pt_escrowref03_Writer rfl rfl h17 hq
              have wa : ∃ F, Wr (if q = 0 then a0 else a1) (pick q s') G54 F := by
                have : q = 0 ∨ q = 1 := by omega
                rcases this with rfl | rfl
                · exact s54.get (i := 5) rfl
                · exact s54.get (i := 4) rfl
              have wb : ∃ F, Wr (if q = 0 then b0 else b1) (pick q s') G54 F := by
                have : q = 0 ∨ q = 1 := by omega
                rcases this with rfl | rfl
                · exact s54.get (i := 2) rfl
                · exact s54.get (i := 1) rfl
              obtain ⟨Fa, wa⟩ := wa
              obtain ⟨Fb, wb⟩ := wb
              rw [u1, wv_some, u2, wv_some]
              refine cursor_Writer_Out.use wa ?_
              simp -zeta only [vext0, vext1, wv_some]
              rw [u3, wv_some, u4, wv_some]
              refine escrowref03_Writer_Out.use wb ?_
              simp -zeta only [vext0, vext1, wv_some, vbin_sneq, vbin_neq, decide_true, Bool.not_true, brB_false]
              rw [u2, wv_some, u4, wv_some]
              refine cursor_Writer_Len.use wa ⟨⟨u4, trivial⟩, ?_⟩
              refine escrowref03_Writer_Len.use wb ?_
              simp -zeta only [wv_some, vbin_neq, decide_true, Bool.not_true, brB_false, vbin_add]
              rw [i64_in (by omega) (by omega)]
              exact hnext
            refine one 0 (by omega) (one 1 (by omega) ?_)
            refine hR55 _ _ _ _ _ _ ?_
            simp -zeta only [wv_some, vbin_lss, brB_dec]
            refine ⟨fun h => absurd h (by decide), fun _ => ?_⟩
            simp -zeta only [wv_some, vbin_add]
            rw [i64_in (by omega) (by omega)]
            exact ih (j + 1) s' G54 (by omega) (by omega) s54 hs1 hs2
          have goB : ∀ G47, (∃ F, Wr (if k = 0 then a0 else a1) (layV (pick k s) o.v) G47 F) → Sp [] G (if k = 0 then [RowL i17 (two b0 b1), WrL b1 s.2.1 s.2.2, WrL b0 s.1.1 s.1.2, RowL i9 (two a0 a1), WrL a1 s.2.1 s.2.2, WrL a0 (layV s.1 o.v).1 (layV s.1 o.v).2]
              else [RowL i17 (two b0 b1), WrL b1 s.2.1 s.2.2, WrL b0 s.1.1 s.1.2, RowL i9 (two a0 a1), WrL a1 (layV s.2 o.v).1 (layV s.2 o.v).2, WrL a0 s.1.1 s.1.2]) G47 →
              ACalls P escrowlaw03_wants.n [.ptr (if k = 0 then b0 else b1) [] 0, o.v.av] G47 fun v53 G54 => Sp [] G (four a0 a1 b0 b1 i9 i17 s') G54 := by
            intro G47 _ s47
            rcases hk01 with rfl | rfl
            · refine s47.call (i := 2) rfl (WrL b0 (layV s.1 o.v).1 (layV s.1 o.v).2) fun F h k => ?_
              exact escrowlaw03_wants.use (st := s.1) hov (by omega) h (by simp only [pick, if_true] at hst; omega) fun F' G' w c => k _ _ w c
            · refine s47.call (i := 1) rfl (WrL b1 (layV s.2 o.v).1 (layV s.2 o.v).2) fun F h k => ?_
              exact escrowlaw03_wants.use (st := s.2) hov (by omega) h (by simp only [pick] at hst; rw [if_neg (by decide)] at hst; omega) fun F' G' w c => k _ _ w c
          have goA : ∀ (K : AVal → Heap → Prop), (∀ v G47, Sp [] G (if k = 0 then [RowL i17 (two b0 b1), WrL b1 s.2.1 s.2.2, WrL b0 s.1.1 s.1.2, RowL i9 (two a0 a1), WrL a1 s.2.1 s.2.2, WrL a0 (layV s.1 o.v).1 (layV s.1 o.v).2]
              else [RowL i17 (two b0 b1), WrL b1 s.2.1 s.2.2, WrL b0 s.1.1 s.1.2, RowL i9 (two a0 a1), WrL a1 (layV s.2 o.v).1 (layV s.2 o.v).2, WrL a0 s.1.1 s.1.2]) G47 → (∃ F, Wr (if k = 0 then a0 else a1) (layV (pick k s) o.v) G47 F) → K v G47) →
              ACalls P escrowlaw03_lays.n [.ptr (if k = 0 then a0 else a1) [] 0, o.v.av] G' K := by
            intro K hK
            rcases hk01 with rfl | rfl
            · refine hs.call (i := 5) rfl (WrL a0 (layV s.1 o.v).1 (layV s.1 o.v).2) fun F h k => ?_
              exact escrowlaw03_lays.use (st := s.1) hov (by omega) h (by simp only [pick, if_true] at hst; omega) fun F' G' w c => hK _ _ (k _ _ w c) ⟨_, w⟩
            · refine hs.call (i := 4) rfl (WrL a1 (layV s.2 o.v).1 (layV s.2 o.v).2) fun F h k => ?_
              exact escrowlaw03_lays.use (st := s.2) hov (by omega) h (by simp only [pick] at hst; rw [if_neg (by decide)] at hst; omega) fun F' G' w c => hK _ _ (k _ _ w c) ⟨_, w⟩
          refine goA _ fun v46 G47 s47 hw47 => ?_
          have h17 : G47 i17 = some (.own (two b0 b1)) ∧ RoLe G G47 := by
            rcases hk01 with rfl | rfl
            · exact ⟨(s47.get (i := 0) rfl).elim fun _ h => h.1, s47.ro⟩
            · exact ⟨(s47.get (i := 0) rfl).elim fun _ h => h.1, s47.ro⟩
          obtain ⟨p2, u3, u4⟩ := two_at (k := k) T_ar2_escrowref03_Writer rfl T_pt_escrowref03_Writer rfl rfl h17.1 hk
          rw [u3, wv_some, u4, wv_some, wv_some, f2, wv_some, f3 _ h17.2, wv_some]
          refine (goB G47 hw47 s47).mono fun v53 G54 s54 => ?_
          exact fin G54 s54
        simp -zeta only [brB_bool]
        exact ⟨fun _ => h91 1 (by omega), fun _ => h91 0 (by omega)⟩
    exact loop _ 0 _ _ rfl (by omega) s19 (by simp) (by simp)
  obtain ⟨F, hi, rfl⟩ := s19.get (i := 3) rfl
  obtain ⟨p0, e0, l0⟩ := two_at (k := 0) T_ar2_cursor_Writer rfl T_pt_cursor_Writer rfl rfl hi (by omega)
  obtain ⟨p1, e1, l1⟩ := two_at (k := 1) T_ar2_cursor_Writer rfl T_pt_cursor_Writer rfl rfl hi (by omega)
  show wv (viaddr T t_ar2_cursor_Writer (.ptr i9 [] 0) (.int .i64 ((0 : Nat) : Int))) _
  rw [e0, wv_some, l0, wv_some, vbin_ptrnil T_pt_cursor_Writer rfl, wv_some, brB_false]
  show wv (viaddr T t_ar2_cursor_Writer (.ptr i9 [] 0) (.int .i64 ((1 : Nat) : Int))) _
  rw [e1, wv_some, l1, wv_some, vbin_ptrnil T_pt_cursor_Writer rfl, wv_some]
  exact h93

end Go.Esc.M
