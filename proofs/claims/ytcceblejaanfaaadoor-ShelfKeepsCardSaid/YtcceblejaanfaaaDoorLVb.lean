/- Own work. Chapter 10: the program's shelf. -/
import Derived.Test.YtcceblejaanfaaaDoorLVa
set_option linter.unusedSimpArgs false
set_option linter.unusedVariables false
namespace Go.Esc.M
open Go Go.Esc

theorem set_range {f : Nat → SlotM} {j : Nat} {x : SlotM} : ((List.range 49).map f).set j x = (List.range 49).map fun q => if q = j then x else f q := by
  refine List.ext_getElem? fun i => ?_
  rw [List.getElem?_map]
  by_cases hi : i < 49
  · rw [List.getElem?_range hi, Option.map_some]
    by_cases hij : i = j
    · subst hij
      rw [List.getElem?_set_self (by simpa using hi), if_pos rfl]
    · rw [List.getElem?_set_ne (fun h => hij h.symm), List.getElem?_map, List.getElem?_range hi, Option.map_some, if_neg hij]
  · rw [List.getElem?_eq_none (by simp; omega), List.getElem?_eq_none (by simp; omega)]
    rfl
theorem tup0 (v : AVal) (e : AVal) : vextract (.tuple [v, e]) 0 = some v := rfl
theorem tup1 (v : AVal) (e : AVal) : vextract (.tuple [v, e]) 1 = some e := rfl
theorem level_ok' (a : Int) : (levelS a).2 = if okN a = true then 0 else 90 := by
  unfold levelS
  cases okN a <;> rfl

section
variable {F0 : List AId} {G0 G : Heap} {ps : List LP} {Q : AVal → Heap → Prop}

/-- What is laid out by and by. -/
def partS (l : List SlotM) (j : Nat) : List SlotM := (List.range 49).map fun q => if q < j then atS l q else zeroS
theorem partS_len (l : List SlotM) (j : Nat) : (partS l j).length = 49 := by simp [partS]
theorem partS_zero (l : List SlotM) : partS l 0 = List.replicate 49 zeroS := by
  unfold partS
  refine List.ext_getElem? fun i => ?_
  by_cases hi : i < 49
  · rw [List.getElem?_map, List.getElem?_range hi, List.getElem?_replicate_of_lt hi]
    rfl
  · rw [List.getElem?_eq_none (by simp; omega), List.getElem?_eq_none (by simp; omega)]
theorem partS_next (l : List SlotM) (j : Nat) : (partS l j).set j (atS l j) = partS l (j + 1) := by
  unfold partS
  rw [set_range]
  refine List.map_congr_left fun q _ => ?_
  by_cases h1 : q = j
  · subst h1; rw [if_pos rfl, if_pos (by omega)]
  · rw [if_neg h1]
    by_cases h2 : q < j
    · rw [if_pos h2, if_pos (by omega)]
    · rw [if_neg h2, if_neg (by omega)]
theorem partS_skip {l : List SlotM} {j : Nat} (h : atS l j = zeroS) : partS l j = partS l (j + 1) := by
  unfold partS
  refine List.map_congr_left fun q _ => ?_
  by_cases h1 : q = j
  · subst h1; rw [if_neg (by omega), if_pos (by omega), h]
  · by_cases h2 : q < j
    · rw [if_pos h2, if_pos (by omega)]
    · rw [if_neg h2, if_neg (by omega)]
theorem partS_all (l : List SlotM) (n : Int) (secret : List UInt8) : (partS l l.length).set (level (pl n)) ⟨n, secret, true⟩ = laidS l n secret := by
  unfold partS laidS
  rw [set_range]
  refine List.map_congr_left fun q _ => ?_
  by_cases h1 : q = level (pl n)
  · rw [if_pos h1, if_pos h1]
  · rw [if_neg h1, if_neg h1]
    by_cases h2 : q < l.length
    · rw [if_pos h2]
    · rw [if_neg h2, atS_none (by omega)]

set_option maxHeartbeats 2000000 in
theorem shelf_Put.use {v : AVal} {l : List SlotM} {n : Int} {secret : List UInt8} (hT : Tab G) (hl : IsSl 34 G v (l.map SlotM.av)) (hok : ∀ s ∈ l, s.ok) (hlen : l.length * 48 ≤ 140737488351232) (hs : secret.length = 32)
    (hQ : ∀ w G', Sp [] G [OwnL 34 w ((putS l n secret).1.map SlotM.av)] G' → Q (.tuple [w, .int .i64 (putS l n secret).2]) G') : ACalls P shelf_Put.n [v, .int .i64 n, .agg (secret.map u8v)] G Q := by
  refine shelf_Put.sound ?_
  unfold shelf_Put.S
  intro i1 f1
  have s1 := (Sp.nil G).row f1 (.agg (secret.map u8v))
  refine wv_of (slots_len (hl.ch' s1.ch)) ?_
  unfold putS at hQ
  rw [vbin_gtr, wv_some, brB_dec]
  refine ⟨fun h => ?_, fun h => ?_⟩
  · rw [if_pos (by omega)] at hQ
    exact hQ _ _ ((s1.nilL 34).erase 1)
  rw [if_neg (by omega)] at hQ
  refine seed_Level.use (hT.mono s1.ro) ?_
  refine wv_of (ii0 _) ?_
  refine wv_of (ii1 _) ?_
  cases hn : okN n with
  | false =>
    rw [hn, if_neg (by simp)] at hQ
    have : (levelS n).2 = 90 := by rw [level_ok', hn]; rfl
    rw [this]
    refine wv_of (v := .bool true) rfl ?_
    rw [brB_true]
    exact hQ _ _ ((s1.nilL 34).erase 1)
  | true =>
    rw [hn, if_pos rfl] at hQ
    rw [level_ok hn, nz0, wv_some, brB_false]
    have hlv := level_le (pl n)
    obtain ⟨lv, hlve⟩ : ∃ k, k = level (pl n) := ⟨_, rfl⟩
    refine mkOwn (n := 49) T_sl_api_Slot rfl T_api_Slot (SlotM.sz zeroS_ok) rfl rfl (by decide) (by decide) s1 fun w G11 s11 => ?_
    have s11 : Sp [] G [OwnL 34 w (List.replicate 49 zeroS.av), RowL i1 (.agg (secret.map u8v))] G11 := s11
    have e0 : List.replicate 49 zeroS.av = (partS l 0).map SlotM.av := by rw [partS_zero, List.map_replicate]
    rw [e0] at s11
    refine wv_of (slots_len (hl.ch' s11.ch)) ?_
    intro R hR
    have loop : ∀ (m j : Nat) (G' : Heap), l.length - j = m → j ≤ l.length → (∀ q, q < j → q < level (pl n) → badS secret n (atS l q) = false) → Sp [] G [OwnL 34 w ((partS l j).map SlotM.av), RowL i1 (.agg (secret.map u8v))] G' →
        R [v, .int .i64 n, .ptr i1 [] 0, .int .i64 ((level (pl n) : Nat) : Int), w, .int .i64 (l.length : Int), .int .i64 (j : Int)] G' := by
      intro m
      induction m with
      | zero =>
        intro j G' hm hj hb sp
        have hjl : j = l.length := by omega
        subst hjl
        have hall : okputS l n secret = true := by
          rw [okputS_iff]
          intro q hq
          by_cases hql : q < l.length
          · exact hb q hql hq
          · rw [atS_none (by omega)]
            rfl
        rw [hall, if_pos rfl] at hQ
        refine hR _ _ _ _ _ _ _ _ ?_
        rw [vbin_lss, wv_some, decide_eq_false (by omega), brB_false]
        refine wv_of (load_hash hs (RowL.own (i := 1) sp rfl)) ?_
        refine wv_of (build_slot hs true) ?_
        obtain ⟨a, e1, e2⟩ := slot_put (i := 0) (j := level (pl n)) (s := ⟨n, secret, true⟩) (x := ((level (pl n) : Nat) : Int)) rfl sp rfl (by rw [partS_len]; omega) hs
        refine wv_of e1 ?_
        refine e2 _ fun G59 s59 => ?_
        rw [partS_all] at s59
        exact hQ _ _ (s59.erase 1)
      | succ m ih =>
        intro j G' hm hj hb sp
        obtain ⟨s, hsj⟩ : ∃ s, l[j]? = some s := ⟨_, List.getElem?_eq_getElem (by omega)⟩
        have hso := hok s (List.mem_of_getElem? hsj)
        have hat := atS_some hsj
        refine hR _ _ _ _ _ _ _ _ ?_
        rw [vbin_lss, wv_some, decide_eq_true (by omega), brB_true]
        obtain ⟨a, b, e1, e2, e3⟩ := slot_full (hl.ch' sp.ch) rfl hsj hso
        refine wv_of e1 ?_
        refine wv_of e2 ?_
        refine wv_of e3 ?_
        rw [vun_not, wv_some]
        have ev : vbin T .add t_int (.int .i64 (j : Int)) (.int .i64 1) = some (.int .i64 ((j + 1 : Nat) : Int)) := by
          rw [vbin_add, i64_in (by omega) (by omega)]
          rfl
        cases hf : s.full with
        | false =>
          rw [Bool.not_false, brB_true]
          rw [hf, if_neg (by simp)] at hat
          refine wv_of ev ?_
          rw [partS_skip hat] at sp
          refine ih (j + 1) G' (by omega) (by omega) (fun q hq hq2 => ?_) sp
          by_cases hqj : q = j
          · subst hqj; rw [hat]; rfl
          · exact hb q (by omega) hq2
        | true =>
          rw [Bool.not_true, brB_false]
          rw [hf, if_pos rfl] at hat
          obtain ⟨a, e1, e2⟩ := slot_at (hl.ch' sp.ch) rfl hsj
          refine wv_of e1 ?_
          refine wv_of e2 ?_
          obtain ⟨a, e1, e2⟩ := slot_put (i := 0) (j := j) (s := s) (x := (j : Int)) rfl sp rfl (by rw [partS_len]; omega) hso
          refine wv_of e1 ?_
          refine e2 _ fun G30 s30 => ?_
          have s30 : Sp [] G [OwnL 34 w (((partS l j).set j s).map SlotM.av), RowL i1 (.agg (secret.map u8v))] G30 := s30
          rw [← hat, partS_next, ] at s30
          rw [vbin_geq, wv_some, brB_dec]
          refine ⟨fun hge => ?_, fun hlt => ?_⟩
          · refine wv_of ev ?_
            refine ih (j + 1) G30 (by omega) (by omega) (fun q hq hq2 => ?_) s30
            exact hb q (by omega) hq2
          · refine wv_of (load_hash hs (RowL.own (i := 1) s30 rfl)) ?_
            obtain ⟨a, b, e1, e2, e3⟩ := slot_index (hl.ch' s30.ch) rfl hsj
            refine wv_of e1 ?_
            refine wv_of e2 ?_
            refine wv_of e3 ?_
            refine seed_Derive.use (hT.mono s30.ro) hs fun G37 c37 => ?_
            have s37 := s30.tmp c37
            refine wv_of (hi0 _) ?_
            refine wv_of (hi1 _) ?_
            have hdl := len_derive hs n s.index
            have hbadj : badS secret n (atS l j) = !decide (deriveS secret n s.index = (s.secret, 0)) := by rw [hat]; unfold badS; rw [hf, Bool.true_and]
            refine newH s37 hdl fun i40 G42 s42 => ?_
            have fail : badS secret n (atS l j) = true → Q (.tuple [.nilSlice, .int .i64 100]) G42 := by
              intro hbad
              have : okputS l n secret = false := by
                refine Bool.eq_false_iff.2 fun h => ?_
                rw [okputS_iff] at h
                rw [h j (by omega)] at hbad
                cases hbad
              rw [this, if_neg (by simp)] at hQ
              exact hQ _ _ ((((s42.nilL 34).erase 1).erase 1).erase 1)
            rw [vbin_neq, wv_some]
            by_cases hz : (deriveS secret n s.index).2 = 0
            · rw [decide_eq_true hz, Bool.not_true, brB_false]
              refine wv_of (load_hash hdl (RowL.own (i := 0) s42 rfl)) ?_
              obtain ⟨a, b, e1, e2, e3⟩ := slot_secret (hl.ch' s42.ch) rfl hsj hso
              refine wv_of e1 ?_
              refine wv_of e2 ?_
              refine wv_of e3 ?_
              refine wv_of (hash_neq2 hdl hso) ?_
              by_cases hd : (deriveS secret n s.index).1 = s.secret
              · rw [decide_eq_true hd, Bool.not_true, brB_false]
                refine wv_of ev ?_
                refine ih (j + 1) G42 (by omega) (by omega) (fun q hq hq2 => ?_) (s42.erase 0)
                by_cases hqj : q = j
                · subst hqj
                  rw [hbadj, decide_eq_true (Prod.ext hd hz)]
                  rfl
                · exact hb q (by omega) hq2
              · rw [decide_eq_false hd, Bool.not_false, brB_true]
                refine fail ?_
                rw [hbadj, decide_eq_false fun h => hd (by rw [h])]
                rfl
            · rw [decide_eq_false hz, Bool.not_false, brB_true]
              refine fail ?_
              rw [hbadj, decide_eq_false fun h => hz (by rw [h])]
              rfl
    exact loop l.length 0 G11 rfl (by omega) (fun q hq => by omega) s11

set_option maxHeartbeats 1000000 in
theorem shelf_Get.use {v : AVal} {l : List SlotM} {n : Int} (hT : Tab G) (hl : IsSl 34 G v (l.map SlotM.av)) (hok : ∀ s ∈ l, s.ok) (hlen : l.length * 48 ≤ 140737488351232)
    (hQ : ∀ G', Ch [] G [] G' → Q (tupHI (getS l n)) G') : ACalls P shelf_Get.n [v, .int .i64 n] G Q := by
  refine shelf_Get.sound ?_
  unfold shelf_Get.S
  rw [z_hash]
  intro i1 f1
  have s1 := (Sp.nil G).row f1 (.agg ((List.replicate 32 (0 : UInt8)).map u8v))
  have z1 : zero32.length = 32 := rfl
  unfold getS at hQ
  have out : ∀ (h h' : List UInt8) (e : Int) (G' : Heap), h.length = 32 → h'.length = 32 → Sp [] G [RowL i1 (.agg (h'.map u8v))] G' → (∀ G', Ch [] G [] G' → Q (tupHI (h, e)) G') →
      wg (vstore T G' t_api_Hash (.ptr i1 [] 0) (.agg (h.map u8v))) fun G6 => wv (vload T G6 t_api_Hash (.ptr i1 [] 0)) fun v7 => Q (.tuple [v7, .int .i64 e]) G6 := by
    intro h h' e G' hh hh' sp hk
    refine wg_of (store_hash hh' hh (RowL.own (i := 0) sp rfl)) ?_
    have s2 := Sp.setRow (j := 0) sp rfl (.agg (h.map u8v))
    refine wv_of (load_hash hh (RowL.own (i := 0) s2 rfl)) ?_
    exact hk _ s2.ch
  refine wv_of (slots_len (hl.ch' s1.ch)) ?_
  rw [vbin_gtr, wv_some, brB_dec]
  refine ⟨fun h => ?_, fun h => ?_⟩
  · rw [if_pos (by omega)] at hQ
    refine wv_of zero_hash2 ?_
    exact out _ _ _ _ (by simp) (by simp) s1 hQ
  rw [if_neg (by omega)] at hQ
  intro J52
  have bad : okN n = false → J52 (.bool true) (G.upd i1 (.own (.agg ((List.replicate 32 (0 : UInt8)).map u8v)))) := by
    intro hn
    rw [hn, if_neg (by simp)] at hQ
    simp -zeta only [J52, brB_true]
    refine wv_of zero_hash2 ?_
    exact out _ _ _ _ (by simp) (by simp) s1 hQ
  have good : okN n = true → J52 (.bool false) (G.upd i1 (.own (.agg ((List.replicate 32 (0 : UInt8)).map u8v)))) := by
    intro hn
    rw [hn, if_pos rfl] at hQ
    simp -zeta only [J52, brB_false]
    refine wv_of (slots_len (hl.ch' s1.ch)) ?_
    intro R hR
    have loop : ∀ (m j : Nat) (G' : Heap), l.length - j = m → j ≤ l.length → getL n l = getL n (l.drop j) → Sp [] G [RowL i1 (.agg ((List.replicate 32 (0 : UInt8)).map u8v))] G' →
        R [v, .int .i64 n, .ptr i1 [] 0, .int .i64 (l.length : Int), .int .i64 (j : Int)] G' := by
      intro m
      induction m with
      | zero =>
        intro j G' hm hj he sp
        refine hR _ _ _ _ _ _ ?_
        rw [vbin_lss, wv_some, decide_eq_false (by omega), brB_false]
        rw [List.drop_eq_nil_of_le (by omega)] at he
        rw [he] at hQ
        refine wv_of zero_hash2 ?_
        exact out _ _ _ _ (by simp) (by simp) sp hQ
      | succ m ih =>
        intro j G' hm hj he sp
        obtain ⟨s, hsj⟩ : ∃ s, l[j]? = some s := ⟨_, List.getElem?_eq_getElem (by omega)⟩
        have hso := hok s (List.mem_of_getElem? hsj)
        have hdr : l.drop j = s :: l.drop (j + 1) := by
          rw [List.drop_eq_getElem_cons (by omega)]
          rw [List.getElem?_eq_getElem (by omega)] at hsj
          injection hsj with hsj
          rw [hsj]
        rw [hdr, getL] at he
        refine hR _ _ _ _ _ _ ?_
        rw [vbin_lss, wv_some, decide_eq_true (by omega), brB_true]
        obtain ⟨a, b, e1, e2, e3⟩ := slot_full (hl.ch' sp.ch) rfl hsj hso
        refine wv_of e1 ?_
        refine wv_of e2 ?_
        refine wv_of e3 ?_
        rw [vun_not, wv_some]
        have ev : vbin T .add t_int (.int .i64 (j : Int)) (.int .i64 1) = some (.int .i64 ((j + 1 : Nat) : Int)) := by
          rw [vbin_add, i64_in (by omega) (by omega)]
          rfl
        cases hf : s.full with
        | false =>
          rw [hf, if_neg (by simp)] at he
          rw [Bool.not_false, brB_true]
          exact wv_of ev (ih (j + 1) G' (by omega) (by omega) he sp)
        | true =>
          rw [Bool.not_true, brB_false]
          obtain ⟨a, b, e1, e2, e3⟩ := slot_secret (hl.ch' sp.ch) rfl hsj hso
          refine wv_of e1 ?_
          refine wv_of e2 ?_
          refine wv_of e3 ?_
          obtain ⟨a, b, e1, e2, e3⟩ := slot_index (hl.ch' sp.ch) rfl hsj
          refine wv_of e1 ?_
          refine wv_of e2 ?_
          refine wv_of e3 ?_
          refine seed_Derive.use (hT.mono sp.ro) hso fun G35 c35 => ?_
          have s35 := sp.tmp c35
          refine wv_of (hi0 _) ?_
          refine wv_of (hi1 _) ?_
          have hdl := len_derive (s := s.secret) hso s.index n
          refine newH s35 hdl fun i38 G40 s40 => ?_
          rw [vbin_eql, wv_some]
          by_cases hz : (deriveS s.secret s.index n).2 = 0
          · rw [if_pos ⟨hf, hz⟩] at he
            rw [he] at hQ
            rw [decide_eq_true hz, brB_true]
            refine wv_of (load_hash hdl (RowL.own (i := 0) s40 rfl)) ?_
            exact out _ _ _ _ hdl (by simp) (s40.erase 0) hQ
          · rw [if_neg (fun h => hz h.2)] at he
            rw [decide_eq_false hz, brB_false]
            exact wv_of ev (ih (j + 1) G40 (by omega) (by omega) he (s40.erase 0))
    exact loop l.length 0 _ rfl (by omega) rfl s1
  have hiff := okN_iff (n := n)
  rw [vbin_lss, wv_some, brB_dec]
  refine ⟨fun h => bad (Bool.eq_false_iff.2 fun hh => ?_), fun h => ?_⟩
  · have := hiff.1 hh
    omega
  · rw [vbin_gtr, wv_some]
    by_cases h2 : n > 281474976710655
    · rw [decide_eq_true h2]
      exact bad (Bool.eq_false_iff.2 fun hh => by have := hiff.1 hh; omega)
    · rw [decide_eq_false h2]
      exact good (hiff.2 ⟨by omega, by omega⟩)

end

end Go.Esc.M
