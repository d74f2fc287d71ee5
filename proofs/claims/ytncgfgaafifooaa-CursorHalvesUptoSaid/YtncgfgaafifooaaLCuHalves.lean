/- Own work. Chapter 3: CursorHalves. -/
import Derived.Test.YtncgfgaafifooaaLBe
set_option linter.unusedSimpArgs false
set_option linter.unusedVariables false
namespace Go.Esc.M
open Go Go.Esc

theorem Own.ch {n : Nat} {G G' : Heap} {v : AVal} {vs : List AVal} {E E' : List AId} (h : Own n G v vs) (hc : Ch E G E' G') (hd : ∀ j, rowOf v = some j → j ∉ E) : Own n G' v vs := by
  rcases h with h | ⟨id, len, cap, cs, rfl, hg, h⟩
  · exact .inl h
  · exact .inr ⟨id, len, cap, cs, rfl, hc.others _ _ hg (hd _ rfl), h⟩

theorem Own.row {n : Nat} {G : Heap} {v : AVal} {vs : List AVal} (h : Own n G v vs) : ∀ j ∈ (rowOf v).toList, (G j).isSome = true := by
  intro j hj
  rcases h with ⟨rfl, _⟩ | ⟨id, len, cap, cs, rfl, hg, _⟩
  · simp [rowOf] at hj
  · simp [rowOf] at hj
    subst hj
    rw [hg]; rfl

theorem be_u32 {v : Nat} (h : v < 2 ^ 64) : be 4 (v / 2 ^ 32) ++ be 4 (v % 2 ^ 32) = be 8 v := by
  rw [be_mod v 4 4 (by omega)]
  exact (be_split v 4 4).symm

theorem shr_two (v i : Nat) (hi : i ≤ 3) : IntKind.u16.wrap ((v : Int).fdiv (2 ^ min ((16 : Int) * (i : Int)).toNat IntKind.u64.bits)) = ((v / 2 ^ (8 * (2 * i)) % 2 ^ 16 : Nat) : Int) := by
  have h1 : min ((16 : Int) * (i : Int)).toNat IntKind.u64.bits = 8 * (2 * i) := by
    have : IntKind.u64.bits = 64 := rfl
    omega
  rw [h1, wrapU16]
  have h2 : ((2 : Int) ^ (8 * (2 * i))) = ((2 ^ (8 * (2 * i)) : Nat) : Int) := by simp
  rw [h2, Int.fdiv_eq_ediv_of_nonneg _ (Int.natCast_nonneg _)]
  simp

theorem be8_parts (v : Nat) : be 8 v = be 4 (v / 2 ^ 32) ++ (be 2 (v / 2 ^ 16) ++ (be 1 (v / 2 ^ 8) ++ (be 1 v ++ []))) := by
  have h1 := be_split v 4 4
  have h2 := be_split v 2 2
  have h3 := be_split v 1 1
  simp only [Nat.reduceAdd, Nat.reduceMul] at h1 h2 h3
  rw [h1, h2, h3, List.append_nil]

theorem or_two {A a b k C : Nat} (hA : A = a * 2 ^ k) (hb : b < 2 ^ k) (hC : C = A + b) (hlt : C < 2 ^ 64) : vbin T .or t_uint64 (.int .u64 (A : Int)) (.int .u64 (b : Int)) = some (.int .u64 (C : Int)) := by
  subst hA hC
  rw [vbin_or, or_beside a b k hb hlt]

theorem shl_u64 {n k A : Nat} (hk : k ≤ 64) (hA : A = n * 2 ^ k) (hlt : A < 2 ^ 64) : vbin T .shl t_uint64 (.int .u64 n) (.int .u64 (k : Int)) = some (.int .u64 (A : Int)) := by
  rw [vbin_shl _ _ _ _ _ _ (by omega), wrapU64]
  have h1 : min ((k : Int)).toNat IntKind.u64.bits = k := by
    have : IntKind.u64.bits = 64 := rfl
    omega
  have h2 : ((2 : Int) ^ k) = ((2 ^ k : Nat) : Int) := by simp
  rw [h1, h2, ← Int.natCast_mul, ← hA]
  congr 2
  omega

theorem to_u64 {G : Heap} {n : Nat} {k : IntKind} {t : TypeId} {i : TI} (ht : T t = some i) (hn : n < 2 ^ 64) : vconv T G t t_uint64 (.int k n) = some (.int .u64 n) := by
  rw [vconv_int ht T_uint64 rfl, u64_in (by omega) (by omega)]

theorem halves_or {G : Heap} {v h m n o : Nat} (hv : v < 2 ^ 64) (eh : h = v / 2 ^ 32) (em : m = v / 2 ^ 16 % 65536) (en : n = v / 2 ^ 8 % 256) (eo : o = v % 256) {K : AVal → Prop} (hK : K (.int .u64 v)) :
    wv (vconv T G t_uint32 t_uint64 (.int .u32 h)) fun v161 => wv (vbin T .shl t_uint64 v161 (.int .u64 32)) fun v162 => wv (vconv T G t_uint16 t_uint64 (.int .u16 m)) fun v163 => wv (vbin T .shl t_uint64 v163 (.int .u64 16)) fun v164 => wv (vbin T .or t_uint64 v162 v164) fun v165 =>
      wv (vconv T G t_uint8 t_uint64 (.int .u8 n)) fun v166 => wv (vbin T .shl t_uint64 v166 (.int .u64 8)) fun v167 => wv (vbin T .or t_uint64 v165 v167) fun v168 => wv (vconv T G t_uint8 t_uint64 (.int .u8 o)) fun v169 => wv (vbin T .or t_uint64 v168 v169) fun v170 => K v170 := by
  obtain ⟨a, ha⟩ : ∃ a, a = h * 4294967296 := ⟨_, rfl⟩
  obtain ⟨b, hb⟩ : ∃ b, b = m * 65536 := ⟨_, rfl⟩
  obtain ⟨c, hc⟩ : ∃ c, c = n * 256 := ⟨_, rfl⟩
  obtain ⟨d, hd⟩ : ∃ d, d = a + b := ⟨_, rfl⟩
  obtain ⟨e, he⟩ : ∃ e, e = d + c := ⟨_, rfl⟩
  obtain ⟨q, hq⟩ : ∃ q, q = v / 2 ^ 16 := ⟨_, rfl⟩
  obtain ⟨r, hr⟩ : ∃ r, r = v / 2 ^ 8 := ⟨_, rfl⟩
  have s32 : vbin T .shl t_uint64 (.int .u64 h) (.int .u64 ((32 : Nat) : Int)) = some (.int .u64 (a : Int)) := shl_u64 (by omega) (by omega) (by omega)
  have s16 : vbin T .shl t_uint64 (.int .u64 m) (.int .u64 ((16 : Nat) : Int)) = some (.int .u64 (b : Int)) := shl_u64 (by omega) (by omega) (by omega)
  have s8 : vbin T .shl t_uint64 (.int .u64 n) (.int .u64 ((8 : Nat) : Int)) = some (.int .u64 (c : Int)) := shl_u64 (by omega) (by omega) (by omega)
  have o1 : vbin T .or t_uint64 (.int .u64 (a : Int)) (.int .u64 (b : Int)) = some (.int .u64 (d : Int)) := or_two (a := h) (k := 32) (by omega) (by omega) hd (by omega)
  have o2 : vbin T .or t_uint64 (.int .u64 (d : Int)) (.int .u64 (c : Int)) = some (.int .u64 (e : Int)) := or_two (a := q) (k := 16) (by omega) (by omega) he (by omega)
  have o3 : vbin T .or t_uint64 (.int .u64 (e : Int)) (.int .u64 (o : Int)) = some (.int .u64 (v : Int)) := or_two (a := r) (k := 8) (by omega) (by omega) (by omega) hv
  rw [to_u64 T_uint32 (by omega), wv_some]
  rw [show (32 : Int) = ((32 : Nat) : Int) from rfl, s32, wv_some, to_u64 T_uint16 (by omega), wv_some]
  rw [show (16 : Int) = ((16 : Nat) : Int) from rfl, s16, wv_some, o1, wv_some, to_u64 T_uint8 (by omega), wv_some]
  rw [show (8 : Int) = ((8 : Nat) : Int) from rfl, s8, wv_some, o2, wv_some, to_u64 T_uint8 (by omega), wv_some, o3, wv_some]
  exact hK

theorem halves_tail {v : Nat} (hv64 : v < 2 ^ 64) {i1 i2 : AId} {H2 : Heap} {Q : AVal → Heap → Prop} (hne : i2 ≠ i1) (r1 : Rd i1 (be 8 v, 0) H2) (r2 : Rd i2 (be 8 v, 0) H2) (hQ : ∀ G, Q (.bool true) G) :
    ACalls P cursor_Reader_U32.n [.ptr i1 [] 0] H2 fun v149 G150 => ACalls P cursor_Reader_U16.n [.ptr i1 [] 0] G150 fun v151 G152 => ACalls P cursor_Reader_U8.n [.ptr i1 [] 0] G152 fun v153 G154 => ACalls P cursor_Reader_U8.n [.ptr i1 [] 0] G154 fun v155 G156 => ACalls P cursor_Reader_I64.n [.ptr i2 [] 0] G156 fun v157 G158 => wv (vconv T G158 t_uint64 t_int64 (.int .u64 v)) fun v159 => wv (vbin T .eql t_int64 v157 v159) fun v160 => brB (some v160)
  (wv (vconv T G158 t_uint32 t_uint64 v149) fun v161 => wv (vbin T .shl t_uint64 v161 (.int .u64 32)) fun v162 => wv (vconv T G158 t_uint16 t_uint64 v151) fun v163 => wv (vbin T .shl t_uint64 v163 (.int .u64 16)) fun v164 => wv (vbin T .or t_uint64 v162 v164) fun v165 => wv (vconv T G158 t_uint8 t_uint64 v153) fun v166 => wv (vbin T .shl t_uint64 v166 (.int .u64 8)) fun v167 => wv (vbin T .or t_uint64 v165 v167) fun v168 => wv (vconv T G158 t_uint8 t_uint64 v155) fun v169 => wv (vbin T .or t_uint64 v168 v169) fun v170 => wv (vbin T .eql t_uint64 v170 (.int .u64 v)) fun v171 => brB (some v171)
  (ACalls P cursor_Reader_Done.n [.ptr i1 [] 0] G158 fun v172 G173 => wv (vbin T .eql t_api_Errno v172 (.int .i64 0)) fun v174 => brB (some v174)
  (ACalls P cursor_Reader_Done.n [.ptr i2 [] 0] G173 fun v175 G176 => wv (vbin T .eql t_api_Errno v175 (.int .i64 0)) fun v177 => Q v177 G176)
  (Q (.bool false) G173))
  (Q (.bool false) G158))
  (Q (.bool false) G158) := by
  have n4 : num (be 4 (v / 2 ^ 32)) = v / 2 ^ 32 := num_be_lt (by omega)
  have n2 : num (be 2 (v / 2 ^ 16)) = v / 2 ^ 16 % 65536 := num_be _ 2
  have n1 : num (be 1 (v / 2 ^ 8)) = v / 2 ^ 8 % 256 := num_be _ 1
  have n0 : num (be 1 v) = v % 256 := num_be _ 1
  have n8 : num (be 8 v) = v := num_be_lt (by omega)
  have hsp := be8_parts v
  have l4 : (be 4 (v / 2 ^ 32)).length = 4 := length_be _ _
  have l2 : (be 2 (v / 2 ^ 16)).length = 2 := length_be _ _
  have l1 : (be 1 (v / 2 ^ 8)).length = 1 := length_be _ _
  have l0 : (be 1 v).length = 1 := length_be _ _
  have l8 : (be 8 v).length = 8 := length_be _ _
  revert hsp n4 n2 n1 n0 n8 l4 l2 l1 l0 l8 r1 r2
  generalize be 4 (v / 2 ^ 32) = b4
  generalize be 2 (v / 2 ^ 16) = b2
  generalize be 1 (v / 2 ^ 8) = b1
  generalize be 1 v = b0
  generalize be 8 v = b8
  intro r1 r2 n4 n2 n1 n0 n8 hsp l4 l2 l1 l0 l8
  have d0 : dones ([], 0) = 0 := by decide
  have r1' := r1
  rw [hsp] at r1'
  refine cursor_Reader_U32.use r1' fun H3 r3 d3 => ?_
  rw [takes_app (n := 4) (by rw [l4]; rfl)] at r3 ⊢
  refine cursor_Reader_U16.use r3 fun H4 r4 d4 => ?_
  rw [takes_app (n := 2) (by rw [l2]; rfl)] at r4 ⊢
  refine cursor_Reader_U8.use r4 fun H5 r5 d5 => ?_
  rw [takes_app (n := 1) (by rw [l1]; rfl)] at r5 ⊢
  refine cursor_Reader_U8.use r5 fun H6 r6 d6 => ?_
  rw [takes_app (n := 1) (by rw [l0]; rfl)] at r6 ⊢
  have r2' : Rd i2 (b8 ++ [], 0) H6 := by
    rw [List.append_nil]
    exact (((r2.ch d3 (by simpa using hne)).ch d4 (by simpa using hne)).ch d5 (by simpa using hne)).ch d6 (by simpa using hne)
  refine cursor_Reader_I64.use r2' fun H7 r7 d7 => ?_
  rw [takes_app (n := 8) (by rw [l8]; rfl)] at r7 ⊢
  simp only
  rw [n8, vconv_int T_uint64 T_int64 rfl, wv_some, vbin_eql, wv_some, brB_dec]
  refine ⟨fun _ => ?_, fun h => (h rfl).elim⟩
  refine halves_or hv64 n4 n2 n1 n0 ?_
  rw [vbin_eql, wv_some, brB_dec]
  refine ⟨fun _ => ?_, fun h => (h rfl).elim⟩
  have r6' := r6.ch d7 (by simpa using Ne.symm hne)
  refine cursor_Reader_Done.use r6' ?_
  rw [d0, vbin_eql, wv_some, brB_dec]
  refine ⟨fun _ => ?_, fun h => (h rfl).elim⟩
  refine cursor_Reader_Done.use r7 ?_
  rw [d0, vbin_eql, wv_some, decide_eq_true rfl]
  exact hQ _

theorem laid_ok (a xs : List UInt8) : laid (a, 0) xs = (a ++ xs, 0) := rfl

set_option maxRecDepth 20000 in
theorem law_CursorHalves {R : Nat} {G : Heap} {v s : AVal} {mv ms : Nat} (hv : wt T G R 4 t_uint64 v mv) (hs : wt T G R 4 t_string s ms) (hb : mv + ms ≤ 1048576) :
    ACalls P escrowlaw03_CursorHalves.n [v, s] G fun v _ => v = .bool true := by
  obtain ⟨vi, rfl, hvw, _⟩ := wt_int T_uint64 rfl hv
  obtain ⟨s, rfl, _, _, hms⟩ := wt_str T_string rfl hs
  have hsl : s.length ≤ 1048576 := by omega
  obtain ⟨v, rfl⟩ : ∃ v : Nat, vi = v := ⟨vi.toNat, by have := u64_wf.1 hvw; omega⟩
  have hv64 : v < 2 ^ 64 := by
    have := u64_wf.1 hvw
    omega
  have hlen : ∀ G (l : List UInt8), vlen T G t_string (.str l) = some (.int .i64 l.length) := fun _ _ => rfl
  have hb8 : (be 8 v).length = 8 := length_be v 8
  refine escrowlaw03_CursorHalves.sound ?_
  unfold escrowlaw03_CursorHalves.S
  refine escrowlaw03_head.use fun G2 _ => ?_
  simp -zeta only [vun_not, wv_some, Bool.not_true, brB_false]
  intro Rr hR
  have loop : ∀ (m k : Nat) (out : AVal) (G5 : Heap), 5 - k = m → k ≤ 5 → Own 1 G5 out (List.replicate k (.str (be 8 v))) → Rr [.int .u64 v, .str s, out, .int .i64 k] G5 := by
    intro m
    induction m with
    | zero =>
      intro k out G5 hm hk ho
      have : k = 5 := by omega
      subst this
      refine hR _ _ _ _ _ ?_
      simp -zeta only [vbin_lss, wv_some, brB_dec]
      refine ⟨fun h => absurd h (by decide), fun _ => ?_⟩
      intro R3 hR3
      have hat : ∀ j : Nat, j < 5 → ∃ a, viaddr T t_sl_string out (.int .i64 j) = some a ∧ vload T G5 t_string a = some (.str (be 8 v)) := fun j hj =>
        ho.is.at_ (k := .i64) (j := j) (c := .str (be 8 v)) (i := ti_sl_string) (ie := ti_string) (T := T) (t := t_sl_string) (e := t_string) T_sl_string rfl T_string (by rw [List.getElem?_replicate, if_pos hj]) rfl
      obtain ⟨a0, ha0, hl0⟩ := hat 0 (by omega)
      have lp : ∀ (n j : Nat), 5 - j = n → j ≤ 5 → R3 [.int .u64 v, out, .int .i64 j] G5 := by
        intro n
        induction n with
        | succ n ihn =>
          intro j hn hj
          refine hR3 _ _ _ _ ?_
          rw [ho.is.len (i := ti_sl_string) T_sl_string rfl, List.length_replicate]
          simp -zeta only [wv_some, vbin_lss, brB_dec]
          refine ⟨fun _ => ?_, fun h => absurd (by omega) h⟩
          obtain ⟨a, ha, hl⟩ := hat j (by omega)
          rw [ha, wv_some, hl, wv_some]
          show wv (viaddr T t_sl_string out (.int .i64 ((0 : Nat) : Int))) _
          rw [ha0, wv_some, hl0]
          simp -zeta only [wv_some, vbin_sneq, decide_true, Bool.not_true, brB_false, vbin_add]
          rw [i64_in (by omega) (by omega)]
          exact ihn (j + 1) (by omega) (by omega)
        | zero =>
          intro j hn hj
          have : j = 5 := by omega
          subst this
          refine hR3 _ _ _ _ ?_
          rw [ho.is.len (i := ti_sl_string) T_sl_string rfl, List.length_replicate]
          simp -zeta only [wv_some, vbin_lss, brB_dec]
          refine ⟨fun h => absurd h (by decide), fun _ => ?_⟩
          show wv (viaddr T t_sl_string out (.int .i64 ((0 : Nat) : Int))) _
          rw [ha0, wv_some, hl0, wv_some]
          refine cursor_Open.use fun i1 H1 r1 d1 => ?_
          have hl1 : vload T H1 t_string a0 = some (.str (be 8 v)) := by
            obtain ⟨a, ha, hl⟩ := (Own.ch ho d1 (by simp)).is.at_ (k := .i64) (j := 0) (c := .str (be 8 v)) (i := ti_sl_string) (ie := ti_string) (T := T) (t := t_sl_string) (e := t_string) T_sl_string rfl T_string (by rw [List.getElem?_replicate, if_pos (by omega)]) rfl
            rw [ha0] at ha
            injection ha with ha
            subst ha
            exact hl
          show wv (viaddr T t_sl_string out (.int .i64 ((0 : Nat) : Int))) _
          rw [ha0, wv_some, hl1, wv_some]
          refine cursor_Open.use fun i2 H2 r2 d2 => ?_
          have hne : i2 ≠ i1 := fun e => by
            have := d2.apart (E := [i1]) (by simp [r1.row]) (by simp) i1 (by simp)
            simp [e] at this
          have r1 := r1.ch d2 (by simp)
          intro J180
          have h180 : J180 (.bool false) H2 := by
            simp -zeta only [J180, brB_false]
            exact halves_tail hv64 hne r1 r2 fun _ => rfl
          rw [vbin_ptrnil T_pt_cursor_Reader rfl, wv_some, brB_false, vbin_ptrnil T_pt_cursor_Reader rfl, wv_some]
          exact h180
      exact lp 5 0 rfl (by omega)
    | succ m ih =>
      intro k out G5 hm hk ho
      have hk5 : k < 5 := by omega
      refine hR _ _ _ _ _ ?_
      simp -zeta only [vbin_lss, wv_some, brB_dec]
      refine ⟨fun _ => ?_, fun h => absurd (by omega) h⟩
      refine cursor_New.use fun iw G6 w6 c6 => ?_
      rw [vbin_ptrnil T_pt_cursor_Writer rfl, wv_some, brB_false]
      refine cursor_Writer_Raw.use w6 (by simp; omega) fun F7 G7 w7 c7 => ?_
      have e7 : laid ([], 0) s = (s, 0) := by simp [laid]
      rw [e7] at w7
      have ho6 : Own 1 G6 out (List.replicate k (.str (be 8 v))) := Own.ch ho c6 (by simp)
      have hne6 : ∀ j, rowOf out = some j → j ∉ [iw] := fun j hj hm => by
        have := c6.apart (E := (rowOf out).toList) (Own.row ho) (by simp) j (by simp [hj])
        exact this hm
      have ho7 : Own 1 G7 out (List.replicate k (.str (be 8 v))) := Own.ch ho6 c7 hne6
      have hne7 : ∀ j, rowOf out = some j → j ∉ F7 := fun j hj => c7.apart (E := (rowOf out).toList) (Own.row ho6) (fun j hj => hne6 j (by simpa using hj)) j (by simp [hj])
      intro J122
      have h122 : ∀ (F8 : List AId) (G8 : Heap), Wr iw (s ++ be 8 v, 0) G8 F8 → Ch F7 G7 F8 G8 → J122 (.int .u64 v) (.str s) out (.int .i64 k) (.ptr iw [] 0) G8 := by
        intro F8 G8 w8 c8
        have ho8 := Own.ch ho7 c8 hne7
        simp -zeta only [J122]
        refine cursor_Writer_Out.use w8 ?_
        simp -zeta only [vext0, vext1, wv_some, if_true]
        intro J121
        have h121 : J121 (.bool false) G8 := by
          simp -zeta only [J121, brB_false, hlen, wv_some]
          rw [str_drop (by omega) (by rw [List.length_append]; omega), wv_some]
          have ed : (s ++ be 8 v).drop ((s.length : Int)).toNat = be 8 v := by simp
          rw [ed]
          refine append1 (T := T) (ts := t_sl_string) (e := t_string) (si := ti_sl_string) (ie := ti_string) T_sl_string rfl T_string rfl (by decide) ho8 rfl rfl (by decide) ?_ fun s' G9 h9 k9 => ?_
          · simp only [List.length_replicate, ti_string]
            omega
          · simp -zeta only [vbin_add, wv_some]
            rw [i64_in (by omega) (by omega)]
            refine ih (k + 1) s' G9 (by omega) (by omega) ?_
            rw [List.replicate_succ']
            exact h9
        simp -zeta only [vbin_neq, wv_some, decide_true, Bool.not_true, brB_false, hlen, vbin_add]
        rw [i64_in (by omega) (by omega)]
        have el : (((s ++ be 8 v).length : Nat) : Int) = (s.length : Int) + 8 := by rw [List.length_append, hb8]; omega
        rw [el]
        simp -zeta only [decide_true, Bool.not_true, brB_false, hlen, wv_some]
        rw [str_take (by omega) (by rw [List.length_append]; omega), wv_some]
        have et : (s ++ be 8 v).take ((s.length : Int)).toNat = s := by simp
        rw [et]
        simp -zeta only [vbin_sneq, wv_some, decide_true, Bool.not_true]
        exact h121
      have hst : (s, (0 : Int)).1.length + 8 ≤ 140737488355328 := by simp; omega
      simp -zeta only [vbin_eql, wv_some, brB_dec]
      refine ⟨fun h0 => ?_, fun h0 => ⟨fun h1 => ?_, fun h1 => ⟨fun h2 => ?_, fun h2 => ⟨fun h3 => ?_, fun h3 => ⟨fun h4 => ?_, fun h4 => absurd (by omega) h4⟩⟩⟩⟩⟩
      · refine cursor_Writer_U64.use hv64 w7 hst fun F8 G8 w8 c8 => ?_
        exact h122 F8 G8 w8 c8
      · rw [vconv_int T_uint64 T_int64 rfl, wv_some]
        refine cursor_Writer_I64.use w7 hst fun F8 G8 w8 c8 => ?_
        rw [bits64_wrap hv64] at w8
        exact h122 F8 G8 w8 c8
      · have h1 : IntKind.u32.wrap ((v : Int).fdiv (2 ^ min (Int.toNat 32) IntKind.u64.bits)) = ((v / 2 ^ 32 : Nat) : Int) := by
          have : min (Int.toNat 32) IntKind.u64.bits = 32 := rfl
          rw [this, wrapU32, Int.fdiv_eq_ediv_of_nonneg _ (by omega)]
          omega
        have h2 : IntKind.u32.wrap (v : Int) = ((v % 2 ^ 32 : Nat) : Int) := by
          rw [wrapU32]
          omega
        rw [vbin_shr _ _ _ _ _ _ (by omega), wv_some, vconv_int T_uint64 T_uint32 rfl, wv_some, h1]
        refine cursor_Writer_U32.use (by omega) w7 hst fun F8 G8 w8 c8 => ?_
        rw [vconv_int T_uint64 T_uint32 rfl, wv_some, h2]
        rw [laid_ok] at w8
        refine cursor_Writer_U32.use (by omega) w8 (by simp [length_be]; omega) fun F9 G9 w9 c9 => ?_
        rw [laid_ok, List.append_assoc, be_u32 hv64] at w9
        exact h122 F9 G9 w9 (c8.trans c9)
      · intro R2 hR2
        have lp : ∀ (i : Nat) (X : List UInt8) (F8 : List AId) (G8 : Heap), i ≤ 4 → X.length + 2 * i = 8 → Wr iw (s ++ X, 0) G8 F8 → Ch F7 G7 F8 G8 → X ++ be (2 * i) v = be 8 v →
            R2 [.int .u64 v, .str s, out, .int .i64 k, .ptr iw [] 0, .int .i64 ((i : Int) - 1)] G8 := by
          intro i
          induction i with
          | zero =>
            intro X F8 G8 _ _ w8 c8 he
            refine hR2 _ _ _ _ _ _ _ ?_
            simp -zeta only [vbin_geq, wv_some, brB_dec]
            refine ⟨fun h => absurd h (by omega), fun _ => ?_⟩
            have : X = be 8 v := by simpa [be] using he
            rw [this] at w8
            exact h122 F8 G8 w8 c8
          | succ i ihi =>
            intro X F8 G8 hi hX w8 c8 he
            refine hR2 _ _ _ _ _ _ _ ?_
            have ei : ((i + 1 : Nat) : Int) - 1 = (i : Int) := by omega
            rw [ei]
            simp -zeta only [vbin_geq, wv_some, brB_dec]
            refine ⟨fun _ => ?_, fun h => absurd (by omega) h⟩
            rw [vconv_int T_int T_uint rfl, wv_some, u64_in (by omega) (by omega), vbin_mul, wv_some, u64_in (by omega) (by omega), vbin_shr _ _ _ _ _ _ (by omega), wv_some, vconv_int T_uint64 T_uint16 rfl, wv_some, shr_two v i (by omega)]
            refine cursor_Writer_U16.use (Nat.mod_lt _ (by decide)) w8 (by simp; omega) fun F9 G9 w9 c9 => ?_
            simp -zeta only [vbin_sub, wv_some]
            rw [i64_in (by omega) (by omega)]
            have hbm : be 2 (v / 2 ^ (8 * (2 * i)) % 2 ^ 16) = be 2 (v / 2 ^ (8 * (2 * i))) := be_mod _ 2 2 (Nat.le_refl _)
            rw [laid_ok, List.append_assoc, hbm] at w9
            refine ihi (X ++ be 2 (v / 2 ^ (8 * (2 * i)))) F9 G9 (by omega) (by simp [length_be]; omega) w9 (c8.trans c9) ?_
            rw [List.append_assoc, ← be_split, ← he]
            congr 2
            omega
        exact lp 4 [] F7 G7 (Nat.le_refl _) (by simp) (by simpa using w7) (Ch.refl _ _) rfl
      · intro R2 hR2
        have lp : ∀ (i : Nat) (X : List UInt8) (F8 : List AId) (G8 : Heap), i ≤ 8 → X.length + 1 * i = 8 → Wr iw (s ++ X, 0) G8 F8 → Ch F7 G7 F8 G8 → X ++ be (1 * i) v = be 8 v →
            R2 [.int .u64 v, .str s, out, .int .i64 k, .ptr iw [] 0, .int .i64 ((i : Int) - 1)] G8 := by
          intro i
          induction i with
          | zero =>
            intro X F8 G8 _ _ w8 c8 he
            refine hR2 _ _ _ _ _ _ _ ?_
            simp -zeta only [vbin_geq, wv_some, brB_dec]
            refine ⟨fun h => absurd h (by omega), fun _ => ?_⟩
            have : X = be 8 v := by simpa [be] using he
            rw [this] at w8
            exact h122 F8 G8 w8 c8
          | succ i ihi =>
            intro X F8 G8 hi hX w8 c8 he
            refine hR2 _ _ _ _ _ _ _ ?_
            have ei : ((i + 1 : Nat) : Int) - 1 = (i : Int) := by omega
            rw [ei]
            simp -zeta only [vbin_geq, wv_some, brB_dec]
            refine ⟨fun _ => ?_, fun h => absurd (by omega) h⟩
            rw [vconv_int T_int T_uint rfl, wv_some, u64_in (by omega) (by omega), vbin_mul, wv_some, u64_in (by omega) (by omega), vbin_shr _ _ _ _ _ _ (by omega), wv_some, vconv_int T_uint64 T_uint8 rfl, wv_some, shr_byte v i (by omega)]
            refine cursor_Writer_U8.use (Nat.mod_lt _ (by decide)) w8 (by simp; omega) fun F9 G9 w9 c9 => ?_
            simp -zeta only [vbin_sub, wv_some]
            rw [i64_in (by omega) (by omega)]
            have hbm : be 1 (v / 2 ^ (8 * i) % 256) = be 1 (v / 2 ^ (8 * (1 * i))) := by
              rw [Nat.one_mul]
              exact be_mod _ 1 1 (Nat.le_refl _)
            rw [laid_ok, List.append_assoc, hbm] at w9
            refine ihi (X ++ be 1 (v / 2 ^ (8 * (1 * i)))) F9 G9 (by omega) (by simp [length_be]; omega) w9 (c8.trans c9) ?_
            rw [List.append_assoc, ← be_split, ← he]
            congr 2
            omega
        exact lp 8 [] F7 G7 (Nat.le_refl _) (by simp) (by simpa using w7) (Ch.refl _ _) rfl
  exact loop 5 0 .nilSlice G2 rfl (by omega) (.inl ⟨rfl, rfl⟩)

end Go.Esc.M
