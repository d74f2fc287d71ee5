/- Own work. Chapter 14: the document's texts, walked. -/
import Derived.Test.YtdbkngfdaeminaaLCq
set_option linter.unusedSimpArgs false
set_option linter.unusedVariables false
set_option maxRecDepth 20000
namespace Go.Esc.M
open Go Go.Esc

theorem cnt_le (b : Bool) (l : List PenM) : cnt b l ≤ l.length := List.length_filter_le _ _
theorem cnt_take {b : Bool} {l : List PenM} {j : Nat} {p : PenM} (h : l[j]? = some p) : cnt b (l.take (j + 1)) = cnt b (l.take j) + (if p.ours = b then 1 else 0) := by
  rw [List.take_add_one, h]
  unfold cnt
  rw [List.filter_append, List.length_append]
  cases ho : p.ours <;> cases b <;> simp [ho]

section
variable {F0 : List AId} {G0 G : Heap} {ps : List LP} {Q : AVal → Heap → Prop}

theorem pen_fldA {v : AVal} {l : List PenM} {j f o : Nat} {p : PenM} {tf : TypeId} {fi : TI} {c : AVal} (h : IsSl 35 G v (l.map PenM.av)) (hj : l[j]? = some p) (hf : [(t_bool, 0), (t_int64, 1), (t_int64, 2), (t_api_Hash, 3)][f]? = some (tf, o)) (hft : T tf = some fi) (hz : fi.size ≠ 0)
    (hs : szs (([.bool p.ours, .int .i64 p.id, .int .i64 p.amount, .agg (p.hash.map u8v)] : List AVal).take f) = o) (hc : ([.bool p.ours, .int .i64 p.id, .int .i64 p.amount, .agg (p.hash.map u8v)] : List AVal)[f]? = some c) (hfit : vfits fi c = true) :
    ∃ a b, viaddr T t_sl_api_Pending v (.int .i64 (j : Int)) = some a ∧ vfaddr T t_api_Pending a f = some b ∧ vload T G tf b = some c :=
  IsSl.fld (k := .i64) (i := ti_sl_api_Pending) (ie := ti_api_Pending) T_sl_api_Pending rfl T_api_Pending rfl hf hft hz h (by rw [List.getElem?_map, hj]; rfl) hs hc hfit

theorem escrowref14_count.use {v : AVal} {l : List PenM} {b : Bool} (hl : IsSl 35 G v (l.map PenM.av)) (hok : ∀ p ∈ l, p.ok) (hlen : l.length ≤ 9223372036854775807) (hQ : Q (.int .i64 (cnt b l : Nat)) G) : ACalls P escrowref14_count.n [v, .bool b] G Q := by
  refine escrowref14_count.sound ?_
  unfold escrowref14_count.S
  intro R hR
  have loop : ∀ (n j : Nat), l.length - j = n → j ≤ l.length → R [v, .bool b, .int .i64 (cnt b (l.take j) : Nat), .int .i64 (j : Int)] G := by
    intro n
    induction n with
    | zero =>
      intro j hn hj
      have : j = l.length := by omega
      subst this
      refine hR _ _ _ _ _ ?_
      rw [hl.len (i := ti_sl_api_Pending) T_sl_api_Pending rfl, List.length_map, wv_some, vbin_lss, wv_some, brB_dec]
      refine ⟨fun h => absurd h (by omega), fun _ => ?_⟩
      rw [List.take_length]
      exact hQ
    | succ n ih =>
      intro j hn hj
      obtain ⟨p, hp⟩ : ∃ p, l[j]? = some p := ⟨_, List.getElem?_eq_getElem (by omega)⟩
      obtain ⟨a, b', ha, hb', hla⟩ := pen_fldA (f := 0) (o := 0) (tf := t_bool) (fi := ti_bool) hl hp rfl T_bool (by decide) rfl rfl rfl
      have hcl := cnt_le b (l.take j)
      have hjl : (l.take j).length ≤ j := List.length_take_le _ _
      have ht := cnt_take (b := b) hp
      refine hR _ _ _ _ _ ?_
      rw [hl.len (i := ti_sl_api_Pending) T_sl_api_Pending rfl, List.length_map, wv_some, vbin_lss, wv_some, brB_dec]
      refine ⟨fun _ => ?_, fun h => absurd (by omega) h⟩
      rw [ha, wv_some, hb', wv_some, hla, wv_some, vbin_beql T_bool rfl, wv_some, brB_bool]
      refine ⟨fun h => ?_, fun h => ?_⟩
      · rw [if_pos (by simpa using h)] at ht
        rw [vbin_add, wv_some, i64_in (by omega) (by omega), vbin_add, wv_some, i64_in (by omega) (by omega), show ((cnt b (l.take j) : Nat) : Int) + 1 = ((cnt b (l.take (j + 1)) : Nat) : Int) by omega]
        exact ih (j + 1) (by omega) (by omega)
      · rw [if_neg (by simpa using h)] at ht
        rw [vbin_add, wv_some, i64_in (by omega) (by omega), show cnt b (l.take j) = cnt b (l.take (j + 1)) by omega]
        exact ih (j + 1) (by omega) (by omega)
  exact loop _ 0 rfl (by omega)

set_option maxHeartbeats 1000000 in
theorem escrowref14_Sound.use {o q : Int} {v : AVal} {l : List PenM} (hl : IsSl 35 G v (l.map PenM.av)) (hok : ∀ p ∈ l, p.ok) (hlen : l.length ≤ 9223372036854775807) (hQ : ∀ G', Ch [] G [] G' → Q (.bool (soundP o q l)) G') :
    ACalls P escrowref14_Sound.n [ledV o q v] G Q := by
  obtain ⟨hv1, hv2, _⟩ := sl_leaf hl
  refine escrowref14_Sound.sound ?_
  unfold escrowref14_Sound.S
  obtain ⟨mA, hmA⟩ : ∃ m, m = (1152921504606846976 : Int) := ⟨_, rfl⟩
  rw [← hmA]
  have hmax : maxAmount = mA := by rw [hmA]; rfl
  intro i1 f1
  have s1 := (Sp.nil G).row f1 (ledV o q v)
  revert s1
  generalize G.upd i1 (.own (ledV o q v)) = G2
  intro s1
  obtain ⟨f0, f1', f2, _⟩ := led_fld hv1 hv2 (RowL.own (i := 0) s1 rfl)
  intro J85
  have hno : ¬ SoundD o q l → ∀ G', Ch [] G [] G' → Q (.bool false) G' := fun h G' c => by
    have := hQ G' c
    rwa [Bool.eq_false_iff.2 (fun hh => h ((soundP_iff o q l).1 hh))] at this
  have hyes : SoundD o q l → ∀ G', Ch [] G [] G' → Q (.bool true) G' := fun h G' c => by
    have := hQ G' c
    rwa [(soundP_iff o q l).2 h] at this
  have hbad : ¬ SoundD o q l → J85 (.bool true) G2 := by
    intro h
    simp -zeta only [J85, brB_true]
    exact hno h _ s1.ch
  have hgood : (Okl [] l → SoundD o q l) → J85 (.bool false) G2 := by
    intro hall
    simp -zeta only [J85, brB_false]
    intro R21 hR21
    have outer : ∀ (n j : Nat) (G' : Heap), l.length - j = n → j ≤ l.length → Okl [] (l.take j) → Sp [] G [RowL i1 (ledV o q v)] G' → R21 [.ptr i1 [] 0, .int .i64 (j : Int)] G' := by
      intro n
      induction n with
      | zero =>
        intro j G' hn hj hk hs
        have : j = l.length := by omega
        subst this
        rw [List.take_length] at hk
        obtain ⟨_, _, f2, _⟩ := led_fld hv1 hv2 (RowL.own (i := 0) hs rfl)
        refine hR21 _ _ _ ?_
        show wv (vload T G' t_sl_api_Pending (.ptr i1 [2] 2)) _
        rw [f2, wv_some, (hl.ch' hs.ch).len (i := ti_sl_api_Pending) T_sl_api_Pending rfl, List.length_map, wv_some, vbin_lss, wv_some, brB_dec]
        exact ⟨fun h => absurd h (by omega), fun _ => hyes (hall hk) _ hs.ch⟩
      | succ n ih =>
        intro j G' hn hj hk hs
        obtain ⟨p, hp⟩ : ∃ p, l[j]? = some p := ⟨_, List.getElem?_eq_getElem (by omega)⟩
        have hpo := hok p (List.mem_of_getElem? hp)
        have hjl : j < l.length := by omega
        obtain ⟨_, _, f2, _⟩ := led_fld hv1 hv2 (RowL.own (i := 0) hs rfl)
        obtain ⟨a, ha, hla⟩ := pen_at (hl.ch' hs.ch) hp
        have hdr : l.drop j = p :: l.drop (j + 1) := by
          obtain ⟨hx, rfl⟩ := List.getElem?_eq_some_iff.1 hp
          exact List.drop_eq_getElem_cons hx
        have hsplit := Okl.split (l := l) (pre := []) j
        rw [hdr, List.nil_append] at hsplit
        have hbadp : ¬ Okp (l.take j) p → ¬ SoundD o q l := fun h hh => h (hsplit.1 hh.l).2.1
        have hnext : Okp (l.take j) p → Okl [] (l.take (j + 1)) := fun h => by
          have h2 := (Okl.split (l := l.take (j + 1)) (pre := []) j)
          rw [h2]
          have e1 : (l.take (j + 1)).take j = l.take j := by rw [List.take_take, Nat.min_eq_left (by omega)]
          have e2 : (l.take (j + 1)).drop j = [p] := by
            rw [List.drop_take, hdr]
            simp
          rw [e1, e2]
          exact ⟨hk, h, trivial⟩
        refine hR21 _ _ _ ?_
        show wv (vload T G' t_sl_api_Pending (.ptr i1 [2] 2)) _
        rw [f2, wv_some, (hl.ch' hs.ch).len (i := ti_sl_api_Pending) T_sl_api_Pending rfl, List.length_map, wv_some, vbin_lss, wv_some, brB_dec]
        refine ⟨fun _ => ?_, fun h => absurd (by omega) h⟩
        show wv (vload T G' t_sl_api_Pending (.ptr i1 [2] 2)) _
        rw [f2, wv_some, ha, wv_some, hla, wv_some]
        refine newVal hs T_api_Pending (PenM.fits hpo) (by rw [PenM.sz hpo]; rfl) (PenM.okv p) fun i33 G35 s35 => ?_
        obtain ⟨k0, k1, k2, _⟩ := PenM.fld hpo (RowL.own (i := 0) s35 rfl)
        intro J83
        have jbad : ¬ SoundD o q l → J83 (.bool true) G35 := by
          intro h
          simp -zeta only [J83, brB_true]
          exact hno h _ s35.ch
        have jgood : (0 ≤ p.id ∧ 1 ≤ p.amount ∧ p.amount ≤ maxAmount) → J83 (.bool false) G35 := by
          intro hfine
          simp -zeta only [J83, brB_false]
          intro R44 hR44
          have inner : ∀ (m x : Nat) (G' : Heap), j - x = m → x ≤ j → (∀ q ∈ l.take x, ¬ (p.ours = true ∧ q.ours = false) ∧ ¬ (p.ours = q.ours ∧ p.id ≤ q.id)) → Sp [] G [RowL i33 p.av, RowL i1 (ledV o q v)] G' →
              R44 [.ptr i1 [] 0, .int .i64 (j : Int), .ptr i33 [] 0, .int .i64 (x : Int)] G' := by
            intro m
            induction m with
            | zero =>
              intro x G' hm hx hall2 hs
              have : x = j := by omega
              subst this
              refine hR44 _ _ _ _ _ ?_
              rw [vbin_lss, wv_some, brB_dec]
              refine ⟨fun h => absurd h (by omega), fun _ => ?_⟩
              rw [vbin_add, wv_some, i64_in (by omega) (by omega)]
              exact ih (x + 1) G' (by omega) (by omega) (hnext ⟨hfine.1, hfine.2.1, hfine.2.2, hall2⟩) (hs.erase 0)
            | succ m ihm =>
              intro x G' hm hx hall2 hs
              obtain ⟨y, hy⟩ : ∃ y, l[x]? = some y := ⟨_, List.getElem?_eq_getElem (by omega)⟩
              have hyo := hok y (List.mem_of_getElem? hy)
              obtain ⟨_, _, f2, _⟩ := led_fld hv1 hv2 (RowL.own (i := 1) hs rfl)
              obtain ⟨b, hb, hlb⟩ := pen_at (hl.ch' hs.ch) hy
              have hymem : y ∈ l.take j := List.mem_of_getElem? (i := x) (by rw [List.getElem?_take_of_lt (by omega)]; exact hy)
              refine hR44 _ _ _ _ _ ?_
              rw [vbin_lss, wv_some, brB_dec]
              refine ⟨fun _ => ?_, fun h => absurd (by omega) h⟩
              intro J82
              show wv (vload T G' t_sl_api_Pending (.ptr i1 [2] 2)) _
              rw [f2, wv_some, hb, wv_some, hlb, wv_some]
              refine newVal hs T_api_Pending (PenM.fits hyo) (by rw [PenM.sz hyo]; rfl) (PenM.okv y) fun i55 G57 s57 => ?_
              obtain ⟨y0, y1, y2, _⟩ := PenM.fld hyo (RowL.own (i := 0) s57 rfl)
              obtain ⟨p0, p1, p2, _⟩ := PenM.fld hpo (RowL.own (i := 1) s57 rfl)
              have go : ¬ (p.ours = true ∧ y.ours = false) → ¬ (p.ours = y.ours ∧ p.id ≤ y.id) → J82 G57 := by
                intro h1 h2
                simp -zeta only [J82]
                rw [vbin_add, wv_some, i64_in (by omega) (by omega)]
                refine ihm (x + 1) G57 (by omega) (by omega) (fun q hq => ?_) (s57.erase 0)
                rw [List.take_add_one, hy] at hq
                rcases List.mem_append.1 hq with hq | hq
                · exact hall2 q hq
                · have : q = y := by simpa using hq
                  subst this
                  exact ⟨h1, h2⟩
              have stop : ((p.ours = true ∧ y.ours = false) ∨ (p.ours = y.ours ∧ p.id ≤ y.id)) → Q (.bool false) G57 := fun h => by
                refine hno (hbadp fun hk => ?_) _ s57.ch
                have := hk.pair y hymem
                rcases h with h | h
                · exact this.1 h
                · exact this.2 h
              have tail : ¬ (p.ours = true ∧ y.ours = false) → (wv (vload T G57 t_bool (.ptr i33 [0] 0)) fun v63 => wv (vload T G57 t_bool (.ptr i55 [0] 0)) fun v64 => wv (vbin T .eql t_bool v63 v64) fun v65 => brB (some v65)
                  (wv (vload T G57 t_int64 (.ptr i55 [1] 1)) fun v66 => wv (vload T G57 t_int64 (.ptr i33 [1] 1)) fun v68 => wv (vbin T .geq t_int64 v66 v68) fun v69 => brB (some v69) (Q (.bool false) G57) (J82 G57)) (J82 G57)) := by
                intro hn
                rw [p0, wv_some, y0, wv_some, vbin_beql T_bool rfl, wv_some, brB_bool]
                refine ⟨fun h => ?_, fun h => go hn fun hh => by rw [hh.1] at h; simp at h⟩
                rw [y1, wv_some, p1, wv_some, vbin_geq, wv_some, brB_dec]
                exact ⟨fun h2 => stop (.inr ⟨by simpa using h, h2⟩), fun h2 => go hn fun hh => h2 hh.2⟩
              show wv (vload T G57 t_bool (.ptr i33 [0] 0)) _
              rw [p0, wv_some, brB_bool]
              refine ⟨fun h => ?_, fun h => ?_⟩
              · refine wv_of y0 ?_
                rw [vun_not, wv_some, brB_bool]
                refine ⟨fun h2 => stop (.inl ⟨h, by simpa using h2⟩), fun h2 => tail fun hh => by rw [hh.2] at h2; cases h2⟩
              · exact tail fun hh => by rw [h] at hh; cases hh.1
          exact inner _ 0 G35 rfl (by omega) (by simp) s35
        rw [k1, wv_some, vbin_lss, wv_some, brB_dec]
        refine ⟨fun h => jbad (hbadp fun hk => by have := hk.id; omega), fun h1 => ?_⟩
        rw [k2, wv_some, vbin_lss, wv_some, brB_dec]
        refine ⟨fun h => jbad (hbadp fun hk => by have := hk.amount; omega), fun h2 => ?_⟩
        rw [wv_some, vbin_gtr, wv_some]
        by_cases h3 : mA < p.amount
        · rw [decide_eq_true h3]
          exact jbad (hbadp fun hk => by have := hk.most; omega)
        · rw [decide_eq_false h3]
          exact jgood ⟨by omega, by omega, by omega⟩
    exact outer _ 0 G2 rfl (by omega) trivial s1
  rw [f0, wv_some, vbin_lss, wv_some, brB_dec]
  refine ⟨fun h => hbad fun hh => by have := hh.o0; omega, fun h0 => ?_⟩
  rw [wv_some, vbin_gtr, wv_some, brB_dec]
  refine ⟨fun h => hbad fun hh => by have := hh.o1; omega, fun h1 => ?_⟩
  rw [f1', wv_some, vbin_lss, wv_some, brB_dec]
  refine ⟨fun h => hbad fun hh => by have := hh.q0; omega, fun h2 => ?_⟩
  rw [wv_some, vbin_gtr, wv_some, brB_dec]
  refine ⟨fun h => hbad fun hh => by have := hh.q1; omega, fun h3 => ?_⟩
  rw [f2, wv_some]
  refine escrowref14_count.use (hl.ch' s1.ch) hok hlen ?_
  rw [vbin_gtr, wv_some, brB_dec]
  refine ⟨fun h => hbad fun hh => by have := hh.t; omega, fun h4 => ?_⟩
  refine wv_of f2 ?_
  refine escrowref14_count.use (hl.ch' s1.ch) hok hlen ?_
  rw [vbin_gtr, wv_some]
  by_cases h5 : (483 : Int) < (cnt false l : Nat)
  · rw [decide_eq_true h5]
    exact hbad fun hh => by have := hh.f; omega
  · rw [decide_eq_false h5]
    exact hgood fun hk => ⟨by omega, by omega, by omega, by omega, by omega, by omega, hk⟩

theorem escrowref14_number.use {bs : List UInt8} {s : AVal} {v n i : Nat} (hs : Sp F0 G0 ps G) (hi : ps[i]? = some (OwnL 1 s (bs.map u8v))) (hn : n ≤ 8) (hl : bs.length + n ≤ 220000000000000) (hv : v < 2 ^ 63)
    (hQ : ∀ s' G', Sp F0 G0 (ps.set i (OwnL 1 s' ((bs ++ be n v).map u8v))) G' → Q s' G') : ACalls P escrowref14_number.n [s, .int .i64 (v : Int), .int .i64 (n : Int)] G Q := by
  refine escrowref14_number.sound ?_
  unfold escrowref14_number.S
  rw [vbin_sub, wv_some, i64_in (by omega) (by omega)]
  intro R hR
  have loop : ∀ (m : Nat) (bs' : List UInt8) (s' : AVal) (ps' : List LP) (G' : Heap), m ≤ n → bs' ++ be m v = bs ++ be n v → bs'.length + m ≤ bs.length + n → ps' = ps.set i (OwnL 1 s' (bs'.map u8v)) → i < ps.length → Sp F0 G0 ps' G' → R [s', .int .i64 (v : Int), .int .i64 ((m : Int) - 1)] G' := by
    intro m
    induction m with
    | zero =>
      intro bs' s' ps' G' hm he hln hps hil hs
      subst hps
      refine hR _ _ _ _ ?_
      rw [vbin_geq, wv_some, brB_dec]
      refine ⟨fun h => absurd h (by omega), fun _ => ?_⟩
      rw [be, List.append_nil] at he
      subst he
      exact hQ _ _ hs
    | succ m ih =>
      intro bs' s' ps' G' hm he hln hps hil hs
      refine hR _ _ _ _ ?_
      have ei : ((m + 1 : Nat) : Int) - 1 = (m : Int) := by omega
      rw [ei, vbin_geq, wv_some, brB_dec]
      refine ⟨fun _ => ?_, fun h => absurd (by omega) h⟩
      rw [vbin_mul, wv_some, i64_in (by omega) (by omega), vbin_shr _ _ _ _ _ _ (by omega), wv_some, vconv_int T_int64 T_uint8 rfl, wv_some, show IntKind.i64.bits = IntKind.u64.bits from rfl, shr_byte v m (by omega), ← u8v_ofNat]
      have hi' : ps'[i]? = some (OwnL 1 s' (bs'.map u8v)) := by rw [hps, List.getElem?_set_self hil]
      refine growV (T := T) (ts := t_sl_uint8) (e := t_uint8) (si := ti_sl_uint8) (ie := ti_uint8) T_sl_uint8 rfl T_uint8 rfl (by decide) hs hi' rfl rfl (by decide) ?_ fun s2 G2 hs2 => ?_
      · simp only [List.length_map, ti_uint8]
        omega
      · rw [vbin_sub, wv_some, i64_in (by omega) (by omega)]
        refine ih (bs' ++ [UInt8.ofNat (v / 2 ^ (8 * m))]) s2 _ G2 (by omega) ?_ (by simp; omega) ?_ hil hs2
        · rw [← he, be]
          simp
        · rw [hps, List.set_set, List.map_append]
          rfl
  have hil : i < ps.length := (List.getElem?_eq_some_iff.1 hi).1
  refine loop n bs s ps G (Nat.le_refl _) rfl (Nat.le_refl _) ?_ hil hs
  obtain ⟨hx, e⟩ := List.getElem?_eq_some_iff.1 hi
  rw [← e, List.set_getElem_self]

theorem num_use {bs : List UInt8} {s : AVal} {x nn : Int} {i : Nat} (n : Nat) (hnn : nn = (n : Int)) (h0 : 0 ≤ x) (h1 : x ≤ 9223372036854775807) (hs : Sp F0 G0 ps G) (hi : ps[i]? = some (OwnL 1 s (bs.map u8v))) (hn : n ≤ 8) (hl : bs.length + n ≤ 220000000000000)
    (hQ : ∀ s' G', Sp F0 G0 (ps.set i (OwnL 1 s' ((bs ++ be n (bits64 x)).map u8v))) G' → Q s' G') : ACalls P escrowref14_number.n [s, .int .i64 x, .int .i64 nn] G Q := by
  subst hnn
  have e : x = ((bits64 x : Nat) : Int) ∧ bits64 x < 2 ^ 63 := by unfold bits64; omega
  have := escrowref14_number.use (Q := Q) hs hi hn hl e.2 hQ
  rwa [← e.1] at this
/-- A hash behind bytes. -/
theorem growH {s : AVal} {l hs' : List UInt8} {i : Nat} {K : AVal → Heap → Prop} {x : AVal} (hs : Sp F0 G0 ps G) (hi : ps[i]? = some (OwnL 1 s (l.map u8v))) (hx : selems G 1 x = some (hs'.map u8v)) (hl : l.length + hs'.length ≤ 220000000000000)
    (hK : ∀ s' G', Sp F0 G0 (ps.set i (OwnL 1 s' ((l ++ hs').map u8v))) G' → K s' G') : aAppend T G t_sl_uint8 t_sl_uint8 s x K := by
  refine growL (T := T) (ts := t_sl_uint8) (e := t_uint8) (si := ti_sl_uint8) (ie := ti_uint8) (tx := t_sl_uint8) (xi := ti_sl_uint8) T_sl_uint8 rfl T_uint8 rfl (by decide) T_sl_uint8 (.inr ⟨_, rfl⟩) hs hi hx (uni_u8 _) (okvs_u8 _) ?_ fun s' G' h => hK s' G' ?_
  · simp only [List.length_map, ti_uint8]
    omega
  · rw [List.map_append]
    exact h
theorem slice_pen {i : AId} {p : PenM} (h : p.ok) (hg : G i = some (.own p.av)) : ∃ x, vslice T t_api_Hash (.ptr i [3] 3) none none none = some x ∧ selems G 1 x = some (p.hash.map u8v) := by
  have e1 : T t_api_Hash = some ti_api_Hash := T_api_Hash
  have e2 : ti_api_Hash.desc = .array 32 t_uint8 := rfl
  refine ⟨.slice i [3] 0 3 32 32, by simp [vslice, e1, e2, T_uint8, sbounds, sbound, ti_uint8], ?_⟩
  have hh := h.hash
  have ha : arrAt G 1 i [3] 0 3 = some (p.hash.map u8v) := by
    simp [arrAt, vsub, hg, treeOf, PenM.av, sub, szs, Esc.sz, uni_u8]
  rw [selems, ha]
  simp [hh, List.take_of_length_le]
theorem slice_hash {i : AId} {hs : List UInt8} (hl : hs.length = 32) (hg : G i = some (.own (.agg (hs.map u8v)))) : selems G 1 (.slice i [] 0 0 32 32) = some (hs.map u8v) := (row_is hg hl).elems

set_option maxHeartbeats 1000000 in
theorem escrowref14_Text.use {owner index o q : Int} {point : List UInt8} {v : AVal} {l : List PenM} (hp : point.length = 32) (hl : IsSl 35 G v (l.map PenM.av)) (hok : ∀ p ∈ l, p.ok) (hlen : l.length ≤ 9223372036854775807)
    (hQ : ∀ G', Ch [] G [] G' → Q (.tuple [.str (textR owner index point o q l).1, .int .i64 (textR owner index point o q l).2]) G') :
    ACalls P escrowref14_Text.n [.int .i64 owner, .int .i64 index, .agg (point.map u8v), ledV o q v] G Q := by
  obtain ⟨hv1, hv2, _⟩ := sl_leaf hl
  refine escrowref14_Text.sound ?_
  unfold escrowref14_Text.S
  obtain ⟨mI, hmI⟩ : ∃ m, m = (281474976710655 : Int) := ⟨_, rfl⟩
  rw [← hmI]
  have hmax : maxIndex = mI := by rw [hmI]; rfl
  intro i1 f1
  have s1 := (Sp.nil G).row f1 (.agg (point.map u8v))
  intro i3 f3
  have s3 := s1.row f3 (ledV o q v)
  revert s3
  generalize Heap.upd _ i3 (.own (ledV o q v)) = G4
  intro s3 J68
  have hbad : argBad owner index → J68 (.bool true) G4 := by
    intro h
    simp -zeta only [J68, brB_true]
    have := hQ _ s3.ch
    rw [textR, if_pos h] at this
    exact this
  have hgood : ¬ argBad owner index → J68 (.bool false) G4 := by
    intro h
    rw [textR, if_neg h] at hQ
    have ho : 0 ≤ owner ∧ owner ≤ 1 ∧ 0 ≤ index ∧ index ≤ 281474976710655 := by
      unfold argBad at h
      rw [hmax, hmI] at h
      omega
    clear hmax hmI hbad
    simp -zeta only [J68, brB_false]
    refine wv_of (led_fld hv1 hv2 (RowL.own (i := 0) s3 rfl)).2.2.2 ?_
    refine escrowref14_Sound.use (hl.ch' s3.ch) hok hlen fun G13 c13 => ?_
    have s13 := s3.tmp c13
    rw [vun_not, wv_some]
    cases hsd : soundP o q l with
    | false =>
      rw [Bool.not_false, brB_true]
      have := hQ _ s13.ch
      rw [hsd] at this
      exact this
    | true =>
      rw [Bool.not_true, brB_false]
      have hl966 := soundP_length hsd
      have hsD := (soundP_iff _ _ _).1 hsd
      have hoq : 0 ≤ o ∧ o ≤ 1152921504606846976 ∧ 0 ≤ q ∧ q ≤ 1152921504606846976 := ⟨hsD.o0, hsD.o1, hsD.q0, hsD.q1⟩
      have hmem : ∀ p ∈ l, 0 ≤ p.id ∧ 1 ≤ p.amount ∧ p.amount ≤ 1152921504606846976 := fun p hp => hsD.l.mem p hp
      have hb64 : ∀ x : Int, 0 ≤ x → x ≤ 9223372036854775807 → x = ((bits64 x : Nat) : Int) ∧ bits64 x < 2 ^ 63 := fun x h0 h1 => by
        unfold bits64
        omega
      simp only [hsd, cond_true] at hQ
      refine wv_of (u8_conv owner (by omega) (by omega)) ?_
      have eu : AVal.int .u8 ((owner.toNat : Nat) : Int) = u8v (UInt8.ofNat owner.toNat) := by
        rw [u8v_ofNat]
        congr 1
        omega
      rw [eu]
      refine buildV (T := T) (ts := t_sl_uint8) (e := t_uint8) (si := ti_sl_uint8) (ie := ti_uint8) T_sl_uint8 rfl T_uint8 rfl s13 rfl (by decide) fun v16 G17 s17 => ?_
      have s17 : Sp [] G [OwnL 1 v16 ((be 1 owner.toNat).map u8v), RowL i3 (ledV o q v), RowL i1 (.agg (point.map u8v))] G17 := by
        have e : [u8v (UInt8.ofNat owner.toNat)] = (be 1 owner.toNat).map u8v := by simp [be]
        rw [← e]
        exact s17
      refine num_use 8 rfl (by omega) (by omega) s17 (i := 0) rfl (by omega) (by simp [length_be]) fun v18 G19 s19 => ?_
      rw [vslice_hash, wv_some]
      refine growH (i := 0) s19 rfl (slice_hash hp (RowL.own (i := 2) s19 rfl)) (by simp [length_be, hp]) fun v21 G22 s22 => ?_
      refine wv_of (led_fld hv1 hv2 (RowL.own (i := 1) s22 rfl)).1 ?_
      refine num_use 8 rfl (by omega) (by omega) s22 (i := 0) rfl (by omega) (by simp [length_be, hp]) fun v24 G25 s25 => ?_
      refine wv_of (led_fld hv1 hv2 (RowL.own (i := 1) s25 rfl)).2.1 ?_
      refine num_use 8 rfl (by omega) (by omega) s25 (i := 0) rfl (by omega) (by simp [length_be, hp]) fun v27 G28 s28 => ?_
      refine wv_of (led_fld hv1 hv2 (RowL.own (i := 1) s28 rfl)).2.2.1 ?_
      have hlen' : ∀ G', Ch [] G [] G' → vlen T G' t_sl_api_Pending v = some (.int .i64 (l.length : Nat)) := fun G' c => by
        rw [(hl.ch' c).len (i := ti_sl_api_Pending) T_sl_api_Pending rfl, List.length_map]
      refine wv_of (hlen' _ s28.ch) ?_
      refine num_use 2 rfl (by omega) (by omega) s28 (i := 0) rfl (by omega) (by simp [length_be, hp]) fun v31 G32 s32 => ?_
      have e2 : bits64 ((l.length : Nat) : Int) = l.length := by unfold bits64; omega
      rw [e2] at s32
      obtain ⟨H, hH, hHl⟩ : ∃ H : List UInt8, be 1 owner.toNat ++ be 8 (bits64 index) ++ point ++ be 8 (bits64 o) ++ be 8 (bits64 q) ++ be 2 l.length = H ∧ H.length = 59 := ⟨_, rfl, by simp [length_be, hp]⟩
      have htb : textB owner index point o q l = H ++ l.flatMap PenM.bytes := by rw [← hH]; simp [textB]
      have s32 : Sp [] G [OwnL 1 v31 (H.map u8v), RowL i3 (ledV o q v), RowL i1 (.agg (point.map u8v))] G32 := by
        rw [← hH]
        exact s32
      have hfm : ∀ j, ((l.take j).flatMap PenM.bytes).length ≤ 49 * l.length := by
        intro j
        rw [length_pens (fun p hp => hok p (List.mem_of_mem_take hp)), List.length_take]
        omega
      intro R33 hR33
      have loop : ∀ (n j : Nat) (w : AVal) (G' : Heap), l.length - j = n → j ≤ l.length → Sp [] G [OwnL 1 w ((H ++ (l.take j).flatMap PenM.bytes).map u8v), RowL i3 (ledV o q v), RowL i1 (.agg (point.map u8v))] G' →
          R33 [.ptr i3 [] 0, w, .int .i64 (j : Int)] G' := by
        intro n
        induction n with
        | zero =>
          intro j w G' hn hj hs
          have : j = l.length := by omega
          subst this
          rw [List.take_of_length_le (Nat.le_refl _), ← htb] at hs
          refine hR33 _ _ _ _ ?_
          show wv (vload T G' t_sl_api_Pending (.ptr i3 [2] 2)) _
          refine wv_of (led_fld hv1 hv2 (RowL.own (i := 1) hs rfl)).2.2.1 ?_
          refine wv_of (hlen' _ hs.ch) ?_
          rw [vbin_lss, wv_some, brB_dec]
          refine ⟨fun h => absurd h (by omega), fun _ => ?_⟩
          rw [conv_bytes (si := ti_sl_uint8) (ie := ti_uint8) (di := ti_string) T_sl_uint8 rfl T_uint8 rfl T_string rfl (OwnL.own (i := 0) hs rfl).is, wv_some]
          exact hQ _ hs.ch
        | succ n ih =>
          intro j w G' hn hj hs
          obtain ⟨p, hp'⟩ : ∃ p, l[j]? = some p := ⟨_, List.getElem?_eq_getElem (by omega)⟩
          have hpo := hok p (List.mem_of_getElem? hp')
          have hpm := hmem p (List.mem_of_getElem? hp')
          obtain ⟨a, ha, hla⟩ := pen_at (hl.ch' hs.ch) hp'
          have hfj := hfm j
          refine hR33 _ _ _ _ ?_
          show wv (vload T G' t_sl_api_Pending (.ptr i3 [2] 2)) _
          refine wv_of (led_fld hv1 hv2 (RowL.own (i := 1) hs rfl)).2.2.1 ?_
          refine wv_of (hlen' _ hs.ch) ?_
          rw [vbin_lss, wv_some, brB_dec]
          refine ⟨fun _ => ?_, fun h => absurd (by omega) h⟩
          show wv (vload T G' t_sl_api_Pending (.ptr i3 [2] 2)) _
          refine wv_of (led_fld hv1 hv2 (RowL.own (i := 1) hs rfl)).2.2.1 ?_
          rw [ha, wv_some, hla, wv_some]
          refine newVal hs T_api_Pending (PenM.fits hpo) (by rw [PenM.sz hpo]; rfl) (PenM.okv p) fun i47 G49 s49 => ?_
          refine wv_of (PenM.fld hpo (RowL.own (i := 0) s49 rfl)).1 ?_
          intro J65
          have h65 : ∀ (x : UInt8), [x] = be 1 (bif p.ours then 1 else 0) → J65 (u8v x) G49 := by
            intro x hx
            simp -zeta only [J65]
            refine growV (T := T) (ts := t_sl_uint8) (e := t_uint8) (si := ti_sl_uint8) (ie := ti_uint8) (i := 1) T_sl_uint8 rfl T_uint8 rfl (by decide) s49 rfl rfl rfl (by decide) (by simp only [List.length_map, List.length_append, ti_uint8]; omega) fun v54 G55 s55 => ?_
            have s55 : Sp [] G [RowL i47 p.av, OwnL 1 v54 ((H ++ (l.take j).flatMap PenM.bytes ++ [x]).map u8v), RowL i3 (ledV o q v), RowL i1 (.agg (point.map u8v))] G55 := by
              rw [List.map_append]
              exact s55
            rw [hx] at s55
            refine wv_of (PenM.fld hpo (RowL.own (i := 0) s55 rfl)).2.1 ?_
            refine num_use 8 rfl (by omega) (hpo.id.2) s55 (i := 1) rfl (by omega) (by simp only [List.length_append, length_be]; omega) fun v57 G58 s58 => ?_
            refine wv_of (PenM.fld hpo (RowL.own (i := 0) s58 rfl)).2.2.1 ?_
            refine num_use 8 rfl (by omega) (hpo.amount.2) s58 (i := 1) rfl (by omega) (by simp only [List.length_append, length_be]; omega) fun v60 G61 s61 => ?_
            obtain ⟨y, hy1, hy2⟩ := slice_pen hpo (RowL.own (i := 0) s61 rfl)
            refine wv_of hy1 ?_
            have hph := hpo.hash
            refine growH (i := 1) s61 rfl hy2 (by simp only [List.length_append, length_be]; omega) fun v63 G64 s64 => ?_
            rw [vbin_add, wv_some, i64_in (by omega) (by omega)]
            refine ih (j + 1) v63 G64 (by omega) (by omega) ?_
            have e : H ++ (l.take (j + 1)).flatMap PenM.bytes = H ++ (l.take j).flatMap PenM.bytes ++ be 1 (bif p.ours then 1 else 0) ++ be 8 (bits64 p.id) ++ be 8 (bits64 p.amount) ++ p.hash := by
              rw [List.take_add_one, hp']
              simp [PenM.bytes]
            rw [e]
            exact s64.erase 0
          rw [brB_bool]
          refine ⟨fun h => h65 1 (by rw [h]; rfl), fun h => h65 0 (by rw [h]; rfl)⟩
      exact loop _ 0 v31 G32 rfl (by omega) (by simpa using s32)
  rw [vbin_lss, wv_some, brB_dec]
  refine ⟨fun h => hbad (.inl h), fun h0 => ?_⟩
  rw [vbin_gtr, wv_some, brB_dec]
  refine ⟨fun h => hbad (.inr (.inl h)), fun h1 => ?_⟩
  rw [vbin_lss, wv_some, brB_dec]
  refine ⟨fun h => hbad (.inr (.inr (.inl h))), fun h2 => ?_⟩
  rw [vbin_gtr, wv_some]
  by_cases h3 : mI < index
  · rw [decide_eq_true h3]
    exact hbad (.inr (.inr (.inr (by rw [hmax]; exact h3))))
  · rw [decide_eq_false h3]
    refine hgood fun h => ?_
    rcases h with h | h | h | h
    · exact h0 h
    · exact h1 h
    · exact h2 h
    · exact h3 (by rw [← hmax]; exact h)

end
end Go.Esc.M
