import Derived.Test.YteoakmejaeopmaaLTa
/- Own work. Chapter 17: same; lists of records among the arguments. -/
set_option linter.unusedSimpArgs false
set_option linter.unusedVariables false
set_option maxRecDepth 20000
namespace Go.Esc.M
open Go Go.Esc

/-- A record with its list's value. -/
structure RwM where
  r : RcM
  w : AVal
  l : List UpdM
def RwM.av (x : RwM) : AVal := x.r.av x.w
structure RwM.good (G : Heap) (x : RwM) : Prop where
  ok : x.r.ok
  lf : Leaf x.w
  is : IsSl 36 G x.w (x.l.map UpdM.av)
  us : ∀ u ∈ x.l, u.ok
  len : x.l.length ≤ 140737488351232
theorem wt_Records {G : Heap} {d : Nat} {v : AVal} {m : Nat} (h : wt T G reachBytes (d + 6) t_sl_api_Record v m) : ∃ l : List RwM, RoSl 138 G v (l.map RwM.av) ∧ ∀ x ∈ l, x.good G := by
  obtain ⟨xs, ms, hro, hall, hms, hR, _⟩ := wt_ro RwM.av (fun x m => x.good G) T_sl_api_Record rfl T_api_Record (fun c m h => by
    obtain ⟨r, w, l, hv, ho, hi, hu, hR⟩ := wt_Record h
    have hR : l.length * 72 ≤ 140737488351232 := hR
    exact ⟨⟨r, w, l⟩, hv, ho, capLeaf hi.cap, hi.is, hu, by show l.length ≤ _; omega⟩) h
  refine ⟨xs, hro, fun x hx => ?_⟩
  obtain ⟨m, hm, _⟩ := hall.mem hx
  exact hm

section
variable {F0 : List AId} {G0 G : Heap} {ps : List LP} {Q : AVal → Heap → Prop}

theorem RwM.good.mv {G' : Heap} {x : RwM} {E : List AId} (h : x.good G) (hc : Ch [] G E G') : x.good G' := ⟨h.ok, h.lf, h.is.ch' hc, h.us, h.len⟩
theorem rec_at {v : AVal} {l : List RwM} {j : Nat} {x : RwM} (h : IsSl 138 G v (l.map RwM.av)) (hj : l[j]? = some x) : ∃ a, viaddr T t_sl_api_Record v (.int .i64 (j : Int)) = some a ∧ vload T G t_api_Record a = some (x.r.av x.w) :=
  h.at_ (k := .i64) (i := ti_sl_api_Record) (ie := ti_api_Record) (T := T) (t := t_sl_api_Record) (e := t_api_Record) T_sl_api_Record rfl T_api_Record (by rw [List.getElem?_map, hj]; rfl) rfl
theorem rec_len {v : AVal} {l : List RwM} (h : IsSl 138 G v (l.map RwM.av)) : vlen T G t_sl_api_Record v = some (.int .i64 (l.length : Nat)) := by
  rw [h.len (i := ti_sl_api_Record) T_sl_api_Record rfl, List.length_map]
theorem rec_more {i : Nat} {v : AVal} {l : List RwM} {x : RwM} {K : AVal → Heap → Prop} (hs : Sp F0 G0 ps G) (hi : ps[i]? = some (OwnL 138 v (l.map RwM.av))) (ho : x.r.ok) (hw : Leaf x.w) (hl : l.length ≤ 1000)
    (hK : ∀ v' G', Sp F0 G0 (ps.set i (OwnL 138 v' ((l ++ [x]).map RwM.av))) G' → K v' G') : aBuildSlice T t_sl_api_Record 1 [(0, x.r.av x.w)] G fun u G' => aAppend T G' t_sl_api_Record t_sl_api_Record v u K := by
  have hb : ti_api_Record.bytes ≤ 10000 := by decide
  refine growV (T := T) (ts := t_sl_api_Record) (e := t_api_Record) (si := ti_sl_api_Record) (ie := ti_api_Record) T_sl_api_Record rfl T_api_Record rfl (by decide) hs hi (RcM.sz ho hw) (RcM.okv hw) (by decide) ?_ fun s' G' s => hK s' G' ?_
  · rw [List.length_map]
    have := Nat.mul_le_mul (show l.length + 1 ≤ 1001 by omega) hb
    omega
  · rw [List.map_append]
    exact s

set_option maxHeartbeats 1000000 in
theorem escrowlaw17_same.use {r r' : RcM} {v v' : AVal} {l l' : List UpdM} (hr : r.ok) (hr' : r'.ok) (hl : IsSl 36 G v (l.map UpdM.av)) (hl' : IsSl 36 G v' (l'.map UpdM.av)) (lv : Leaf v) (lv' : Leaf v') (ok : ∀ u ∈ l, u.ok) (ok' : ∀ u ∈ l', u.ok) (len : l.length ≤ 140737488351232) (len' : l'.length ≤ 140737488351232)
    (hQ : ∀ G', Ch [] G [] G' → Q (.bool (decide (r = r' ∧ l = l'))) G') : ACalls P escrowlaw17_same.n [r.av v, r'.av v'] G Q := by
  refine escrowlaw17_same.sound ?_
  unfold escrowlaw17_same.S
  intro i1 f1
  have s1 := (Sp.nil G).row f1 (r.av v)
  intro i3 f3
  have s3 := s1.row f3 (r'.av v')
  revert s3
  generalize Heap.upd _ i3 _ = G4
  intro s3
  have hg := RowL.own (i := 1) s3 rfl
  have hk := RowL.own (i := 0) s3 rfl
  have no : ¬ (r = r' ∧ l = l') → Q (.bool false) G4 := fun h => by
    have := hQ _ s3.ch
    rwa [decide_eq_false h] at this
  refine wv_of (Rc.ld_kind hg hr lv) ?_
  refine wv_of (Rc.ld_kind hk hr' lv') ?_
  rw [vbin_eql, wv_some, brB_dec]
  refine ⟨fun e1 => ?_, fun e => no (by rintro ⟨rfl, _⟩; exact e rfl)⟩
  refine wv_of (Rc.ld_upd hg hr lv) ?_
  refine wv_of (Rc.ld_upd hk hr' lv') ?_
  rw [vbin_ueql hr.upd hr'.upd, wv_some, brB_dec]
  refine ⟨fun e2 => ?_, fun e => no (by rintro ⟨rfl, _⟩; exact e rfl)⟩
  refine wv_of (Rc.ld_index hg hr lv) ?_
  refine wv_of (Rc.ld_index hk hr' lv') ?_
  rw [vbin_eql, wv_some, brB_dec]
  refine ⟨fun e4 => ?_, fun e => no (by rintro ⟨rfl, _⟩; exact e rfl)⟩
  refine wv_of (Rc.ld_cnt hg hr lv) ?_
  refine wv_of (Rc.ld_cnt hk hr' lv') ?_
  rw [pair_eq (t := t_api_Counts), wv_some, brB_dec]
  refine ⟨fun e5 => ?_, fun e => no (by rintro ⟨rfl, _⟩; exact e ⟨rfl, rfl⟩)⟩
  refine wv_of (Rc.ld_sig hg hr lv) ?_
  refine wv_of (Rc.ld_sig hk hr' lv') ?_
  rw [hash_eql2 hr.sig hr'.sig, wv_some, brB_dec]
  refine ⟨fun e6 => ?_, fun e => no (by rintro ⟨rfl, _⟩; exact e rfl)⟩
  refine wv_of (Rc.ld_secret hg hr lv) ?_
  refine wv_of (Rc.ld_secret hk hr' lv') ?_
  rw [hash_eql2 hr.secret hr'.secret, wv_some, brB_dec]
  refine ⟨fun e7 => ?_, fun e => no (by rintro ⟨rfl, _⟩; exact e rfl)⟩
  refine wv_of (Rc.ld_point hg hr lv) ?_
  refine wv_of (Rc.ld_point hk hr' lv') ?_
  rw [hash_eql2 hr.point hr'.point, wv_some, brB_dec]
  refine ⟨fun e8 => ?_, fun e => no (by rintro ⟨rfl, _⟩; exact e rfl)⟩
  refine wv_of (Rc.ld_code hg hr lv) ?_
  refine wv_of (Rc.ld_code hk hr' lv') ?_
  rw [vbin_eql, wv_some, brB_dec]
  refine ⟨fun e9 => ?_, fun e => no (by rintro ⟨rfl, _⟩; exact e rfl)⟩
  refine wv_of (Rc.ld_upds hg hr lv) ?_
  refine wv_of (Rc.ld_upds hk hr' lv') ?_
  refine escrowlaw17_sameList.use (hl.ch' s3.ch) (hl'.ch' s3.ch) ok ok' len len' ?_
  have : r = r' := by
    cases r; cases r'
    simp only at e1 e2 e4 e5 e6 e7 e8 e9
    simp [e1, e2, e4, e5, e6, e7, e8, e9]
  have h := hQ _ s3.ch
  by_cases hll : l = l'
  · rw [decide_eq_true ⟨this, hll⟩] at h
    rw [decide_eq_true hll]
    exact h
  · rw [decide_eq_false hll]
    exact no (fun h => hll h.2)

theorem bytesR_le {r : RcM} {l : List UpdM} (hr : r.ok) (ho : ∀ u ∈ l, u.ok) (hv : validR r l = true) : (bytesR r l).length ≤ 100000 ∧ 1 ≤ (bytesR r l).length := by
  obtain ⟨hk, hvk, hn, hl⟩ := valR_spec hv
  have h1 := hr.sig
  have h2 := hr.secret
  have h3 := hr.point
  unfold bytesR bytesK
  unfold validK at hvk
  rw [List.length_append, length_be]
  refine ⟨?_, by omega⟩
  split at hvk
  · rename_i e
    rw [if_pos e]
    have := bytesU_len hvk hr.upd
    omega
  · rename_i e
    rw [if_neg e]
    split
    · simp only [List.length_append, length_be]; omega
    · rename_i e2
      rw [if_neg e2] at hvk
      split
      · rename_i e3
        rw [if_pos e3] at hvk
        simp only [Bool.and_eq_true, decide_eq_true_eq, List.all_eq_true] at hvk
        obtain ⟨_, h5, ha⟩ := hvk
        have := bytesL_len ha ho
        simp only [List.length_append, length_be, h1]
        omega
      · split
        · simp only [List.length_append, length_be, h2, h3]; omega
        · split
          · rw [length_be]; omega
          · rw [length_be]; omega

end
end Go.Esc.M

/- Own work. Chapter 17: RecordBack. -/
set_option linter.unusedSimpArgs false
set_option linter.unusedVariables false
set_option maxRecDepth 20000
namespace Go.Esc.M
open Go Go.Esc

def catR (l : List RwM) : List UInt8 := (l.map fun x => bytesR x.r x.l).flatten
theorem catR_cons (x : RwM) (l : List RwM) : catR (x :: l) = bytesR x.r x.l ++ catR l := by simp [catR]
theorem catR_more (x : RwM) (l : List RwM) : catR (l ++ [x]) = catR l ++ bytesR x.r x.l := by simp [catR]
theorem catR_le {G : Heap} : ∀ {l : List RwM}, (∀ x ∈ l, x.good G ∧ validR x.r x.l = true) → (catR l).length ≤ 100000 * l.length
  | [], _ => by simp [catR]
  | x :: l, h => by
    rw [catR_cons, List.length_append, List.length_cons]
    have h1 := catR_le (l := l) fun y hy => h y (by simp [hy])
    obtain ⟨g, v⟩ := h x (by simp)
    have h2 := (bytesR_le g.ok g.us v).1
    omega
theorem wr_ok {r : RcM} {l : List UpdM} (h : validR r l = true) : wrR r l = (bytesR r l, 0) := by unfold wrR; rw [h]; rfl
theorem wr_no {r : RcM} {l : List UpdM} (h : validR r l = false) : wrR r l = ([], 170) := by unfold wrR; rw [h]; rfl

section
variable {F0 : List AId} {G0 G : Heap} {ps : List LP} {Q : AVal → Heap → Prop}

set_option maxHeartbeats 8000000 in
theorem law_RecordBack {G : Heap} {a b c d : AVal} {m1 m2 m3 m4 : Nat} (h1 : wt T G reachBytes 6 t_sl_api_Record a m1) (h2 : wt T G reachBytes 6 t_string b m2) (h3 : wt T G reachBytes 6 t_int c m3) (h4 : wt T G reachBytes 6 t_string d m4) :
    ACalls P escrowlaw17_RecordBack.n [a, b, c, d] G fun v _ => v = .bool true := by
  obtain ⟨l, hro, hgood⟩ := wt_Records h1
  obtain ⟨bh, rfl, hbh, _⟩ := wt_str T_string rfl h2
  obtain ⟨at_, rfl, hat, _⟩ := wt_int T_int rfl h3
  obtain ⟨bs, rfl, hbs, _⟩ := wt_str T_string rfl h4
  have hbh : bh.length ≤ 140737488351232 := hbh
  have hbs : bs.length ≤ 140737488351232 := hbs
  have hl := hro.is
  have ez : ∀ {t : TypeId} (n : Int), vbin T .eql t (.int .i64 n) (.int .i64 n) = some (.bool true) := fun n => ez0
  have hnil : ∀ G' : Heap, IsSl 36 G' .nilSlice (([] : List UpdM).map UpdM.av) := fun _ => .inr ⟨rfl, rfl⟩
  have nl : ∀ u ∈ ([] : List UpdM), u.ok := fun u hu => by cases hu
  have n0 : ([] : List UpdM).length ≤ 140737488351232 := by simp
  refine escrowlaw17_RecordBack.sound ?_
  unfold escrowlaw17_RecordBack.S
  refine escrowlaw17_head.use fun G2 c2 => ?_
  have s2 := (Sp.nil G).tmp c2
  rw [vun_not, wv_some, Bool.not_true, brB_false]
  intro R4 hR4
  have step : ∀ (j : Nat) (D : List RwM) (w : AVal) (L : List UInt8) (G5 : Heap), j ≤ 12 → (∀ x ∈ D, x.good G ∧ validR x.r x.l = true) → D.length ≤ j → (L = [] ∨ ∃ x ∈ D, L = bytesR x.r x.l) →
      Sp [] G [OwnL 138 w (D.map RwM.av)] G5 → (∀ (D' : List RwM) (w' : AVal) (L' : List UInt8) (G' : Heap), j < 12 → (∀ x ∈ D', x.good G ∧ validR x.r x.l = true) → D'.length ≤ j + 1 → (L' = [] ∨ ∃ x ∈ D', L' = bytesR x.r x.l) →
      Sp [] G [OwnL 138 w' (D'.map RwM.av)] G' → R4 [a, .str bh, .int .i64 at_, .str bs, .str (catR D'), w', .str L', .int .i64 ((j + 1 : Nat) : Int)] G') → R4 [a, .str bh, .int .i64 at_, .str bs, .str (catR D), w, .str L, .int .i64 (j : Int)] G5 := by
    intro j D w L G5 hj hD hDj hL s5 ih
    have l1 := catR_le hD
    refine hR4 _ _ _ _ _ _ _ _ _ ?_
    intro J44
    have rest : J44 (.bool false) G5 := by
      simp -zeta only [J44, brB_false]
      refine wv_of (vbin_sadd _ _ (by omega)) ?_
      intro R46 hR46
      have back : ∀ (n i : Nat) (G47 : Heap), D.length - i = n → i ≤ D.length → Sp [] G [OwnL 138 w (D.map RwM.av)] G47 → R46 [.str bh, .int .i64 at_, .str bs, w, .str L, .str (catR (D.drop i) ++ bh), .int .i64 (i : Int)] G47 := by
        intro n
        induction n with
        | zero =>
          intro i G47 hn hi s47
          refine hR46 _ _ _ _ _ _ _ _ ?_
          refine wv_of (rec_len (OwnL.own (i := 0) s47 rfl).is) ?_
          rw [vbin_lss, wv_some, brB_dec]
          refine ⟨fun h => absurd h (by omega), fun _ => ?_⟩
          rw [show catR (D.drop i) ++ bh = bh by rw [List.drop_eq_nil_of_le (by omega)]; rfl]
          rw [vbin_sneq, wv_some, decide_eq_true rfl, Bool.not_true, brB_false]
          refine wv_of (vbin_sneq _ _ _ _) ?_
          intro J139
          have fin : ∀ G109, Sp [] G [OwnL 138 w (D.map RwM.av)] G109 → J139 G109 := by
            intro G109 s109
            simp -zeta only [J139]
            obtain ⟨xo, lo, xl⟩ := readR_ok (b := bs) (by omega)
            rcases readR_cases (b := bs) (by omega) with hb0 | ⟨r, l', t, hb0, hv', hsp⟩
            · have x1 : (readR bs).x = RcM.zero := by rw [hb0]
              have x2 : (readR bs).l = [] := by rw [hb0]
              have x3 : (readR bs).n = 0 := by rw [hb0]
              have x4 : (readR bs).e = 170 := by rw [hb0]
              refine record_Read.use (by omega) fun w1 G111 t111 => ?_
              rw [x1, x3, x4]
              rw [x2] at t111
              obtain ⟨F, o, c⟩ := t111.out
              have s111 := s109.new o c
              have lw := (OwnL.own (i := 0) s111 rfl).leaf
              refine wv_of t30 ?_
              refine wv_of t31 ?_
              refine wv_of t32 ?_
              refine Rc.nw s111 RcM.zero_ok lw fun i115 G117 s117 => ?_
              rw [vbin_neq, wv_some, brB_ndec]
              refine ⟨fun _ => ?_, fun h => absurd h (by decide)⟩
              refine wv_of (ez 170) ?_
              rw [brB_true]
              refine wv_of (ez 0) ?_
              rw [brB_true]
              refine wv_of (Rc.ld (RowL.own (i := 0) s117 rfl) RcM.zero_ok lw) ?_
              refine wv_of build_rc0 ?_
              refine escrowlaw17_same.use RcM.zero_ok RcM.zero_ok (OwnL.own (i := 1) s117 rfl).is (hnil _) lw Leaf.nil nl nl n0 n0 fun G124 c124 => ?_
              exact congrArg AVal.bool (decide_eq_true ⟨rfl, rfl⟩)
            · have x1 : (readR bs).x = r := by rw [hb0]
              have x2 : (readR bs).l = l' := by rw [hb0]
              have x3 : (readR bs).n = (((bytesR r l').length : Nat) : Int) := by rw [hb0]
              have x4 : (readR bs).e = 0 := by rw [hb0]
              rw [x1] at xo
              rw [x2] at lo xl
              refine record_Read.use (by omega) fun w1 G111 t111 => ?_
              rw [x1, x3, x4]
              rw [x2] at t111
              obtain ⟨F, o, c⟩ := t111.out
              have s111 := s109.new o c
              have lw := (OwnL.own (i := 0) s111 rfl).leaf
              refine wv_of t30 ?_
              refine wv_of t31 ?_
              refine wv_of t32 ?_
              refine Rc.nw s111 xo lw fun i115 G117 s117 => ?_
              refine wv_of nz0 ?_
              rw [brB_false]
              refine wv_of (Rc.ld (RowL.own (i := 0) s117 rfl) xo lw) ?_
              refine record_Write.use xo lw (OwnL.own (i := 1) s117 rfl).is lo xl fun G129 c129 => ?_
              rw [wr_ok hv']
              refine wv_of (tv0 _ _) ?_
              refine wv_of (tv1 _ _) ?_
              refine wv_of (ez 0) ?_
              rw [brB_true]
              refine wv_of (v := .int .i64 (bs.length : Nat)) rfl ?_
              have hle : (bytesR r l').length ≤ bs.length := by rw [hsp, List.length_append]; omega
              rw [vbin_leq, wv_some, decide_eq_true (by omega), brB_true]
              refine wv_of (str_take (by omega) (by omega)) ?_
              rw [vbin_seql, wv_some]
              exact congrArg AVal.bool (decide_eq_true (by rw [Int.toNat_natCast, hsp, List.take_left]))
          rw [brB_ndec]
          refine ⟨fun hL0 => ?_, fun _ => fin G47 s47⟩
          obtain ⟨x, hxD, hLx⟩ := hL.resolve_left hL0
          obtain ⟨gx, vx⟩ := hD x hxD
          have bx := bytesR_le gx.ok gx.us vx
          have part := fun (k : Nat) (hk : k < (bytesR x.r x.l).length) => read_part gx.ok gx.us vx (by omega) hk
          rw [← hLx] at bx part
          refine wv_of (v := .int .i64 (L.length : Nat)) rfl ?_
          rw [vbin_rem _ _ _ _ _ (by omega), wv_some]
          have hT := Int.natAbs_tmod at_ (L.length : Int)
          have hT2 : at_.natAbs % ((L.length : Int)).natAbs < L.length := by
            rw [Int.natAbs_natCast]
            exact Nat.mod_lt _ (by omega)
          obtain ⟨T', hT'⟩ : ∃ k, k = at_.tmod (L.length : Int) := ⟨_, rfl⟩
          rw [← hT'] at hT ⊢
          rw [vbin_lss, wv_some]
          intro J108
          have cut : ∀ k : Int, 0 ≤ k → k < L.length → J108 (.int .i64 k) G47 := by
            intro k k0 k1
            simp -zeta only [J108]
            refine wv_of (str_take k0 (by omega)) ?_
            have hp := part k.toNat (by omega)
            have x1 : (readR (L.take k.toNat)).x = RcM.zero := by rw [hp]
            have x2 : (readR (L.take k.toNat)).l = [] := by rw [hp]
            have x3 : (readR (L.take k.toNat)).n = 0 := by rw [hp]
            have x4 : (readR (L.take k.toNat)).e = 170 := by rw [hp]
            refine record_Read.use (by rw [List.length_take]; omega) fun w1 G92 t92 => ?_
            rw [x1, x3, x4]
            rw [x2] at t92
            obtain ⟨F, o, c⟩ := t92.out
            have s92 := s47.new o c
            have lw := (OwnL.own (i := 0) s92 rfl).leaf
            refine wv_of t30 ?_
            refine wv_of t31 ?_
            refine wv_of t32 ?_
            refine Rc.nw s92 RcM.zero_ok lw fun i96 G98 s98 => ?_
            refine wv_of nz0 ?_
            rw [brB_false]
            refine wv_of nz0 ?_
            rw [brB_false]
            refine wv_of (Rc.ld (RowL.own (i := 0) s98 rfl) RcM.zero_ok lw) ?_
            refine wv_of build_rc0 ?_
            refine escrowlaw17_same.use RcM.zero_ok RcM.zero_ok (OwnL.own (i := 1) s98 rfl).is (hnil _) lw Leaf.nil nl nl n0 n0 fun G104 c104 => ?_
            rw [decide_eq_true ⟨rfl, rfl⟩, vun_not, wv_some, Bool.not_true, brB_false]
            have s104 := s98.tmp c104
            exact fin _ ((s104.erase 0).erase 0)
          rw [brB_dec]
          refine ⟨fun hneg => ?_, fun hpos => cut _ (by omega) (by omega)⟩
          rw [vun_neg, i64_in (by omega) (by omega), wv_some]
          exact cut _ (by omega) (by omega)
        | succ n ih2 =>
          intro i G47 hn hi s47
          obtain ⟨x, hx⟩ : ∃ x, D[i]? = some x := ⟨_, List.getElem?_eq_getElem (by omega)⟩
          obtain ⟨gx, vx⟩ := hD x (List.mem_of_getElem? hx)
          have bx := bytesR_le gx.ok gx.us vx
          have hcat : catR (D.drop i) = bytesR x.r x.l ++ catR (D.drop (i + 1)) := by
            obtain ⟨hi', e⟩ := List.getElem?_eq_some_iff.1 hx
            rw [List.drop_eq_getElem_cons hi', catR_cons, e]
          have lc := catR_le (l := D.drop (i + 1)) fun y hy => hD y (List.mem_of_mem_drop hy)
          rw [List.length_drop] at lc
          refine hR46 _ _ _ _ _ _ _ _ ?_
          refine wv_of (rec_len (OwnL.own (i := 0) s47 rfl).is) ?_
          rw [vbin_lss, wv_some, brB_dec]
          refine ⟨fun _ => ?_, fun h => absurd (by omega) h⟩
          rw [hcat, List.append_assoc]
          obtain ⟨t, ht⟩ : ∃ t, t = catR (D.drop (i + 1)) ++ bh := ⟨_, rfl⟩
          have lt : t.length = (catR (D.drop (i + 1))).length + bh.length := by rw [ht, List.length_append]
          rw [← ht]
          have hrd := read_bytes (t := t) gx.ok gx.us vx
          obtain ⟨B, hB⟩ : ∃ B, B = bytesR x.r x.l := ⟨_, rfl⟩
          rw [← hB] at hrd bx ⊢
          have x1 : (readR (B ++ t)).x = x.r := by rw [hrd]
          have x2 : (readR (B ++ t)).l = x.l := by rw [hrd]
          have x3 : (readR (B ++ t)).n = ((B.length : Nat) : Int) := by rw [hrd]
          have x4 : (readR (B ++ t)).e = 0 := by rw [hrd]
          have lBt : (B ++ t).length = B.length + t.length := List.length_append
          refine record_Read.use (by omega) fun w1 G58 t58 => ?_
          rw [x1, x3, x4]
          rw [x2] at t58
          obtain ⟨F, o, c⟩ := t58.out
          have s58 := s47.new o c
          have lw := (OwnL.own (i := 0) s58 rfl).leaf
          refine wv_of t30 ?_
          refine wv_of t31 ?_
          refine wv_of t32 ?_
          refine Rc.nw s58 gx.ok lw fun i62 G64 s64 => ?_
          intro J80
          refine wv_of nz0 ?_
          rw [brB_false]
          refine wv_of (Rc.ld (RowL.own (i := 0) s64 rfl) gx.ok lw) ?_
          obtain ⟨p, p1, p2⟩ := rec_at (OwnL.own (i := 2) s64 rfl).is hx
          refine wv_of p1 ?_
          refine wv_of p2 ?_
          refine escrowlaw17_same.use gx.ok gx.ok (OwnL.own (i := 1) s64 rfl).is (gx.is.ch' s64.ch) lw gx.lf gx.us gx.us gx.len gx.len fun G70 c70 => ?_
          have s70 := s64.tmp c70
          rw [decide_eq_true ⟨rfl, rfl⟩, vun_not, wv_some, Bool.not_true, brB_false]
          rw [vbin_lss, wv_some, brB_dec]
          refine ⟨fun h => absurd h (by omega), fun _ => ?_⟩
          refine wv_of (v := .int .i64 ((B ++ t).length : Nat)) rfl ?_
          refine wv_of (v := .int .i64 (bh.length : Nat)) rfl ?_
          rw [vbin_sub, i64_in (by omega) (by omega), wv_some, vbin_gtr, wv_some, decide_eq_false (by omega)]
          simp -zeta only [J80, brB_false]
          refine wv_of (str_drop (by omega) (by omega)) ?_
          rw [Int.toNat_natCast, List.drop_left, vbin_add, i64_in (by omega) (by omega), wv_some, ht]
          exact ih2 (i + 1) G70 (by omega) (by omega) ((s70.erase 0).erase 0)
      exact back D.length 0 G5 rfl (by omega) s5
    refine wv_of (rec_len (hl.ch' s5.ch)) ?_
    rw [vbin_lss, wv_some, brB_dec]
    refine ⟨fun hjl => ?_, fun _ => rest⟩
    rw [vbin_lss, wv_some]
    by_cases hj12 : j = 12
    · rw [decide_eq_false (by omega)]
      exact rest
    rw [decide_eq_true (by omega)]
    clear rest
    simp -zeta only [J44, brB_true]
    obtain ⟨x, hx⟩ : ∃ x, l[j]? = some x := ⟨_, List.getElem?_eq_getElem (by omega)⟩
    have gx := hgood x (List.mem_of_getElem? hx)
    obtain ⟨p, p1, p2⟩ := rec_at (hl.ch' s5.ch) hx
    refine wv_of p1 ?_
    refine wv_of p2 ?_
    refine record_Write.use gx.ok gx.lf (gx.is.ch' s5.ch) gx.us gx.len fun G22 c22 => ?_
    have s22 := s5.tmp c22
    cases hv : validR x.r x.l with
    | false =>
      rw [wr_no hv]
      refine wv_of (tv0 _ _) ?_
      refine wv_of (tv1 _ _) ?_
      rw [vbin_neq, wv_some, brB_ndec]
      refine ⟨fun _ => ?_, fun h => absurd h (by decide)⟩
      rw [vbin_sneq, wv_some, decide_eq_true rfl, Bool.not_true, brB_false]
      refine wv_of nz0 ?_
      rw [brB_false]
      rw [vbin_add, i64_in (by omega) (by omega), wv_some]
      exact ih D w L G22 (by omega) hD (by omega) hL s22
    | true =>
      rw [wr_ok hv]
      refine wv_of (tv0 _ _) ?_
      refine wv_of (tv1 _ _) ?_
      refine wv_of nz0 ?_
      rw [brB_false]
      have l2 := bytesR_le gx.ok gx.us hv
      refine wv_of (vbin_sadd _ _ (x := catR D) (y := bytesR x.r x.l) (by omega)) ?_
      obtain ⟨q, q1, q2⟩ := rec_at (hl.ch' s22.ch) hx
      refine wv_of q1 ?_
      refine wv_of q2 ?_
      refine rec_more (i := 0) s22 rfl gx.ok gx.lf (by omega) fun w' G36 s36 => ?_
      rw [vbin_add, i64_in (by omega) (by omega), wv_some, ← catR_more]
      refine ih (D ++ [x]) w' _ G36 (by omega) (fun y hy => ?_) (by simp; omega) (.inr ⟨x, by simp, rfl⟩) s36
      rcases List.mem_append.1 hy with hy | hy
      · exact hD y hy
      · rw [List.mem_singleton.1 hy]; exact ⟨gx, hv⟩
  have loop : ∀ (n j : Nat) (D : List RwM) (w : AVal) (L : List UInt8) (G5 : Heap), 12 - j = n → j ≤ 12 → (∀ x ∈ D, x.good G ∧ validR x.r x.l = true) → D.length ≤ j → (L = [] ∨ ∃ x ∈ D, L = bytesR x.r x.l) →
      Sp [] G [OwnL 138 w (D.map RwM.av)] G5 → R4 [a, .str bh, .int .i64 at_, .str bs, .str (catR D), w, .str L, .int .i64 (j : Int)] G5 := by
    intro n
    induction n with
    | zero => exact fun j D w L G5 hn hj hD hDj hL s5 => step j D w L G5 hj hD hDj hL s5 fun D' w' L' G' h => absurd h (by omega)
    | succ n ih => exact fun j D w L G5 hn hj hD hDj hL s5 => step j D w L G5 hj hD hDj hL s5 fun D' w' L' G' h hD' hDj' hL' s' => ih (j + 1) D' w' L' G' (by omega) (by omega) hD' hDj' hL' s'
  exact loop 12 0 [] .nilSlice [] G2 rfl (by omega) (fun x hx => by cases hx) (by simp) (.inl rfl) (s2.nilL 138)

end
end Go.Esc.M
