/- Own work. Chapter 10: ShelfAgrees. -/
import Derived.Test.YtcceblejaanfaaaDoorLVf
set_option linter.unusedSimpArgs false
set_option linter.unusedVariables false
namespace Go.Esc.M
open Go Go.Esc

theorem pl_inj {a b : Int} (ha : okN a = true) (hb : okN b = true) (h : pl a = pl b) : a = b := by
  have h1 := (pl_eq ha).1
  have h2 := (pl_eq hb).1
  omega
theorem derive_inv {s h : List UInt8} {a b : Int} (hd : deriveS s a b = (h, 0)) : okN a = true ∧ okN b = true ∧ pl a / 2 ^ level (pl a) = pl b / 2 ^ level (pl a) ∧ h = downS (pl b) (level (pl a)) s := by
  unfold deriveS at hd
  cases ha : okN a with
  | false =>
    rw [ha] at hd
    have := congrArg Prod.snd hd
    cases this
  | true =>
    cases hb : okN b with
    | false =>
      rw [ha, hb] at hd
      have := congrArg Prod.snd hd
      cases this
    | true =>
      rw [ha, hb, Bool.and_self, cond_true] at hd
      by_cases hh : pl a / 2 ^ level (pl a) = pl b / 2 ^ level (pl a)
      · rw [if_pos hh] at hd
        exact ⟨rfl, rfl, hh, (congrArg Prod.fst hd).symm⟩
      · rw [if_neg hh] at hd
        have := congrArg Prod.snd hd
        cases this
theorem derive_self {s : List UInt8} {a : Int} (ha : okN a = true) : deriveS s a a = (s, 0) := by
  rw [derive_ok ha ha rfl, down_none (level_dvd _) _ _ (Nat.le_refl _)]
theorem derive_zero {s : List UInt8} {a b : Int} (h : (deriveS s a b).2 = 0) : deriveS s a b = ((deriveS s a b).1, 0) := Prod.ext rfl h

/-- What has just been laid is told. -/
theorem get_laid {l : List SlotM} {n : Int} {s : List UInt8} (hn : okN n = true) (hp : okputS l n s = true) : getS (laidS l n s) n = (s, 0) := by
  have hlv := level_le (pl n)
  have ha : atS (laidS l n s) (level (pl n)) = ⟨n, s, true⟩ := by rw [atS_laid, if_pos (by omega), if_pos rfl]
  unfold getS
  rw [if_neg (by rw [laidS_len]; omega), if_pos hn]
  obtain ⟨j, hj, ht, hno, he⟩ := getL_some (n := n) (l := laidS l n s) (q := level (pl n)) (by rw [ha]; exact ⟨rfl, by rw [derive_self hn]⟩)
  rw [he]
  by_cases hjl : j = level (pl n)
  · subst hjl
    rw [ha]
    dsimp only
    rw [derive_self hn]
  · have hat : atS (laidS l n s) j = atS l j := by rw [atS_laid, if_pos (by omega), if_neg hjl]
    rw [hat] at ht ⊢
    have hb := okputS_iff.1 hp j (by omega)
    unfold badS at hb
    rw [ht.1, Bool.true_and] at hb
    have hd : deriveS s n (atS l j).index = ((atS l j).secret, 0) := by
      by_cases h : deriveS s n (atS l j).index = ((atS l j).secret, 0)
      · exact h
      · rw [decide_eq_false h] at hb
        cases hb
    obtain ⟨_, hi, h1, h2⟩ := derive_inv hd
    have hd2 := derive_zero ht.2
    obtain ⟨_, _, h3, h4⟩ := derive_inv hd2
    have e1 := (near_iff (level_dvd _)).1 h1
    have e2 := (near_iff (level_dvd _)).1 h3
    have hidx : (atS l j).index = n := pl_inj hi hn (by omega)
    rw [hidx] at hd ⊢
    rw [derive_self hn] at hd
    have := congrArg Prod.fst hd
    dsimp only at this
    rw [← this, derive_self hn]

theorem bool_eql {T : Tbl} {t : TypeId} {i : TI} (ht : T t = some i) (hd : i.desc = .bool) (a b : Bool) : vbin T .eql t (.bool a) (.bool b) = some (.bool (a == b)) := by
  have : veqD T 9 t (.bool a) (.bool b) = some (a == b) := by
    rw [veqD]
    simp only [ht, hd]
  simp only [vbin, this]

set_option maxHeartbeats 4000000 in
theorem law_ShelfAgrees {G : Heap} (hT : Tab G) {v n s : AVal} {m1 m2 m3 : Nat} (h1 : wt T G reachBytes 4 t_sl_api_Slot v m1) (h2 : wt T G reachBytes 4 t_int64 n m2) (h3 : wt T G reachBytes 4 t_api_Hash s m3) :
    ACalls P escrowlaw10_ShelfAgrees.n [v, n, s] G fun v _ => v = .bool true := by
  obtain ⟨l, hro, hok, hR⟩ := wt_Slots h1
  obtain ⟨n, rfl, _, _⟩ := wt_int T_int64 rfl h2
  obtain ⟨s, rfl, hs, _⟩ := wt_hash T_api_Hash rfl T_uint8 rfl h3
  have hR : l.length * 48 ≤ 140737488351232 := hR
  have hl := hro.is
  refine escrowlaw10_ShelfAgrees.sound ?_
  unfold escrowlaw10_ShelfAgrees.S
  intro i1 f1
  have s1 := (Sp.nil G).row f1 (.agg (s.map u8v))
  refine escrowlaw10_first.use (hT.mono s1.ro) fun G4 c4 => ?_
  have s4 := s1.tmp c4
  rw [vun_not, wv_some, Bool.not_true, brB_false]
  refine wv_of (load_hash hs (RowL.own (i := 0) s4 rfl)) ?_
  refine shelf_Put.use (hT.mono s4.ro) (hl.ch' s4.ch) hok hR hs fun w G8 t8 => ?_
  obtain ⟨F8, o8, c8⟩ := t8.out
  have s8 := s4.new o8 c8
  refine wv_of (tup0 _ _) ?_
  refine wv_of (tup1 _ _) ?_
  refine seed_Level.use (hT.mono s8.ro) ?_
  refine wv_of (ii0 _) ?_
  refine wv_of (ii1 _) ?_
  have hw := (OwnL.own (i := 0) s8 rfl).is
  have hl8 := hl.ch' s8.ch
  have lv := level_ok' n
  have bb : ∀ a b : Bool, vbin T .eql t_bool (.bool a) (.bool b) = some (.bool (a == b)) := bool_eql T_bool rfl
  by_cases h49 : 49 < l.length
  · have e : putS l n s = ([], 1) := by unfold putS; rw [if_pos h49]
    rw [e] at hw ⊢
    have h0 : vlen T G8 t_sl_api_Slot w = some (.int .i64 0) := slots_len hw
    refine wv_of (v := .bool true) rfl ?_
    rw [brB_true]
    refine wv_of h0 ?_
    refine wv_of (v := .bool true) rfl ?_
    rw [brB_true]
    refine wv_of (v := .bool true) rfl ?_
    refine wv_of (slots_len hl8) ?_
    rw [vbin_gtr, wv_some, decide_eq_true (by omega)]
    refine wv_of (bb _ _) ?_
    rw [beq_self_eq_true, brB_true]
    refine wv_of (v := .bool false) rfl ?_
    refine wv_of (slots_len hl8) ?_
    rw [vbin_leq, wv_some, decide_eq_false (by omega), brB_false]
    refine wv_of (bb _ _) ?_
    rw [beq_self_eq_true, brB_true]
    refine wv_of (v := .bool true) rfl ?_
    rw [brB_true]
  · cases hn : okN n with
    | false =>
      have e : putS l n s = ([], 90) := by unfold putS; rw [if_neg h49, hn, if_neg (by simp)]
      rw [hn, if_neg (by simp)] at lv
      rw [e] at hw ⊢
      rw [lv]
      have h0 : vlen T G8 t_sl_api_Slot w = some (.int .i64 0) := slots_len hw
      refine wv_of (v := .bool true) rfl ?_
      rw [brB_true]
      refine wv_of h0 ?_
      refine wv_of (v := .bool true) rfl ?_
      rw [brB_true]
      refine wv_of (v := .bool false) rfl ?_
      refine wv_of (slots_len hl8) ?_
      rw [vbin_gtr, wv_some, decide_eq_false (by omega)]
      refine wv_of (bb _ _) ?_
      rw [beq_self_eq_true, brB_true]
      refine wv_of (v := .bool true) rfl ?_
      refine wv_of (slots_len hl8) ?_
      rw [vbin_leq, wv_some, decide_eq_true (by omega), brB_true]
      refine wv_of (v := .bool true) rfl ?_
      refine wv_of (bb _ _) ?_
      rw [beq_self_eq_true, brB_true]
      refine wv_of (v := .bool false) rfl ?_
      rw [brB_false]
      refine wv_of (v := .bool true) rfl ?_
      rw [brB_true]
    | true =>
      rw [hn, if_pos rfl] at lv
      rw [lv]
      cases hp : okputS l n s with
      | false =>
        have e : putS l n s = ([], 100) := by unfold putS; rw [if_neg h49, hn, if_pos rfl, hp, if_neg (by simp)]
        rw [e] at hw ⊢
        have h0 : vlen T G8 t_sl_api_Slot w = some (.int .i64 0) := slots_len hw
        refine wv_of (v := .bool true) rfl ?_
        rw [brB_true]
        refine wv_of h0 ?_
        refine wv_of (v := .bool true) rfl ?_
        rw [brB_true]
        refine wv_of (v := .bool false) rfl ?_
        refine wv_of (slots_len hl8) ?_
        rw [vbin_gtr, wv_some, decide_eq_false (by omega)]
        refine wv_of (bb _ _) ?_
        rw [beq_self_eq_true, brB_true]
        refine wv_of (v := .bool false) rfl ?_
        refine wv_of (slots_len hl8) ?_
        rw [vbin_leq, wv_some, decide_eq_true (by omega), brB_true]
        refine wv_of (v := .bool false) rfl ?_
        refine wv_of (bb _ _) ?_
        rw [beq_self_eq_true, brB_true]
        refine wv_of (v := .bool false) rfl ?_
        rw [brB_false]
        refine wv_of (v := .bool false) rfl ?_
        rw [brB_false]
        refine wv_of (v := .bool true) rfl ?_
        rfl
      | true =>
        have e : putS l n s = (laidS l n s, 0) := by unfold putS; rw [if_neg h49, hn, if_pos rfl, hp, if_pos rfl]
        rw [e] at hw s8 ⊢
        have lv1 : (levelS n).1 = ((level (pl n) : Nat) : Int) := by rw [level_ok hn]
        rw [lv1]
        have hlv := level_le (pl n)
        have hLo := laidS_ok hok hs (n := n)
        have hLl := laidS_len l n s
        refine wv_of (v := .bool false) rfl ?_
        rw [brB_false]
        intro J120
        have h120 : J120 (.bool false) G8 := by
          simp -zeta only [J120, brB_false]
          intro R hR'
          have loop : ∀ (m j : Nat) (G' : Heap), 49 - j = m → j ≤ 49 → Sp [] G [OwnL 34 w ((laidS l n s).map SlotM.av), RowL i1 (.agg (s.map u8v))] G' → R [v, .int .i64 n, .ptr i1 [] 0, w, .int .i64 ((level (pl n) : Nat) : Int), .int .i64 (j : Int)] G' := by
            intro m
            induction m with
            | zero =>
              intro j G' hm hj sp
              refine hR' _ _ _ _ _ _ _ ?_
              rw [vbin_lss, wv_some, decide_eq_false (by omega), brB_false]
              refine shelf_Get.use (hT.mono sp.ro) (OwnL.own (i := 0) sp rfl).is hLo (by rw [hLl]; decide) fun G108 c108 => ?_
              have s108 := sp.tmp c108
              rw [get_laid hn hp]
              refine wv_of (hi0 _) ?_
              refine wv_of (hi1 _) ?_
              refine newH s108 hs fun i111 G113 s113 => ?_
              refine wv_of (v := .bool true) rfl ?_
              rw [brB_true]
              refine wv_of (load_hash hs (RowL.own (i := 0) s113 rfl)) ?_
              refine wv_of (load_hash hs (RowL.own (i := 2) s113 rfl)) ?_
              refine wv_of (hash_eql2 hs hs) ?_
              rw [decide_eq_true rfl]
            | succ m ih =>
              intro j G' hm hj sp
              refine hR' _ _ _ _ _ _ _ ?_
              rw [vbin_lss, wv_some, decide_eq_true (by omega), brB_true]
              have ev : vbin T .add t_int (.int .i64 (j : Int)) (.int .i64 1) = some (.int .i64 ((j + 1 : Nat) : Int)) := by
                rw [vbin_add, i64_in (by omega) (by omega)]
                rfl
              refine wv_of build_zero ?_
              refine newS sp zeroS_ok fun i58 G60 s60 => ?_
              have hmj : (laidS l n s)[j]? = some (if j = level (pl n) then ⟨n, s, true⟩ else atS l j) := by
                unfold laidS
                rw [List.getElem?_map, List.getElem?_range (by omega)]
                rfl
              have hao := atS_ok hok j
              intro J102
              have h101 : ∀ (G71 : Heap), Sp [] G [RowL i58 (atS l j).av, OwnL 34 w ((laidS l n s).map SlotM.av), RowL i1 (.agg (s.map u8v))] G71 → J102 = J102 → (J102 (.bool false) G71 ∨ True) := fun _ _ _ => .inr trivial
              have key : ∀ (b : Bool) (G66 : Heap) (x : SlotM), Sp [] G [RowL i58 x.av, OwnL 34 w ((laidS l n s).map SlotM.av), RowL i1 (.agg (s.map u8v))] G66 → x.ok → ((b = false ∧ x = atS l j) ∨ (b = true ∧ j < l.length ∧ l[j]? = some (atS l j))) → J102 (.bool b) G66 := by
                intro b G66 x s66 hxo hb
                simp -zeta only [J102]
                intro J101
                have h101 : ∀ (G71 : Heap), Sp [] G [RowL i58 (atS l j).av, OwnL 34 w ((laidS l n s).map SlotM.av), RowL i1 (.agg (s.map u8v))] G71 → J101 G71 := by
                  intro G71 s71
                  simp -zeta only [J101]
                  intro J100
                  have h100 : J100 (.bool false) G71 := by
                    simp -zeta only [J100, brB_false]
                    intro J99
                    have h99 : J99 (.bool false) G71 := by
                      simp -zeta only [J99, brB_false]
                      exact wv_of ev (ih (j + 1) G71 (by omega) (by omega) (s71.erase 0))
                    rw [vbin_lss, wv_some, brB_dec]
                    refine ⟨fun hjl => ?_, fun _ => h99⟩
                    have hjl : j < level (pl n) := by omega
                    obtain ⟨l0, l1, l2, l3⟩ := slot_row (i := 0) s71 rfl hao
                    refine wv_of l2 ?_
                    cases hf : (atS l j).full with
                    | false => exact h99
                    | true =>
                      simp -zeta only [J99, brB_true]
                      have hbd := okputS_iff.1 hp j hjl
                      unfold badS at hbd
                      rw [hf, Bool.true_and] at hbd
                      have hd : deriveS s n (atS l j).index = ((atS l j).secret, 0) := by
                        by_cases h : deriveS s n (atS l j).index = ((atS l j).secret, 0)
                        · exact h
                        · rw [decide_eq_false h] at hbd
                          cases hbd
                      refine wv_of (load_hash hs (RowL.own (i := 2) s71 rfl)) ?_
                      refine wv_of l0 ?_
                      refine seed_Derive.use (hT.mono s71.ro) hs fun G86 c86 => ?_
                      have s86 := s71.tmp c86
                      rw [hd]
                      refine wv_of (hi0 _) ?_
                      refine wv_of (hi1 _) ?_
                      refine newH s86 hao fun i89 G91 s91 => ?_
                      refine wv_of (load_hash hao (RowL.own (i := 0) s91 rfl)) ?_
                      refine wv_of (slot_row (i := 1) s91 rfl hao).2.1 ?_
                      refine wv_of (hash_neq2 hao hao) ?_
                      rw [decide_eq_true rfl, Bool.not_true, brB_false, nz0, wv_some, brB_false]
                      exact wv_of ev (ih (j + 1) G91 (by omega) (by omega) ((s91.erase 0).erase 0))
                  rw [vbin_neq, wv_some]
                  by_cases hjl : (j : Int) = ((level (pl n) : Nat) : Int)
                  · rw [decide_eq_true hjl, Bool.not_true, brB_false]
                    exact h100
                  · rw [decide_eq_false hjl, Bool.not_false, brB_true]
                    rw [if_neg (by omega)] at hmj
                    obtain ⟨a, e1, e2⟩ := slot_at (OwnL.own (i := 1) s71 rfl).is rfl hmj
                    refine wv_of e1 ?_
                    refine wv_of e2 ?_
                    refine wv_of (slot_row (i := 0) s71 rfl hao).2.2.2 ?_
                    refine wv_of (slot_neq hao hao) ?_
                    rw [decide_eq_true rfl, Bool.not_true]
                    exact h100
                rcases hb with ⟨rfl, rfl⟩ | ⟨rfl, hjl, hlj⟩
                · rw [brB_false]
                  exact h101 G66 s66
                · rw [brB_true]
                  obtain ⟨a, e1, e2⟩ := slot_at (hl.ch' s66.ch) rfl hlj
                  refine wv_of e1 ?_
                  refine wv_of e2 ?_
                  refine slot_store (i := 0) s66 rfl hxo hao fun G70 s70 => ?_
                  exact h101 G70 s70
              refine wv_of (slots_len (hl.ch' s60.ch)) ?_
              rw [vbin_lss, wv_some, brB_dec]
              refine ⟨fun h => ?_, fun h => key false G60 zeroS s60 zeroS_ok (.inl ⟨rfl, (atS_none (by omega)).symm⟩)⟩
              obtain ⟨x, hsj⟩ : ∃ s, l[j]? = some s := ⟨_, List.getElem?_eq_getElem (by omega)⟩
              have hso := hok x (List.mem_of_getElem? hsj)
              have hat := atS_some hsj
              obtain ⟨a, b, e1, e2, e3⟩ := slot_full (hl.ch' s60.ch) rfl hsj hso
              refine wv_of e1 ?_
              refine wv_of e2 ?_
              refine wv_of e3 ?_
              cases hf : x.full with
              | false =>
                rw [hf, if_neg (by simp)] at hat
                exact key false G60 zeroS s60 zeroS_ok (.inl ⟨rfl, hat.symm⟩)
              | true =>
                rw [hf, if_pos rfl] at hat
                exact key true G60 zeroS s60 zeroS_ok (.inr ⟨rfl, by omega, by rw [hat]; exact hsj⟩)
          exact loop 49 0 G8 rfl (by omega) s8
        rw [nz0, wv_some, brB_false]
        refine wv_of (slots_len hw) ?_
        rw [hLl]
        refine wv_of (v := .bool false) rfl ?_
        rw [brB_false]
        refine wv_of (slots_len hl8) ?_
        rw [vbin_gtr, wv_some, decide_eq_false (by omega), brB_false]
        have hml : (laidS l n s)[level (pl n)]? = some ⟨n, s, true⟩ := by
          unfold laidS
          rw [List.getElem?_map, List.getElem?_range (by omega), Option.map_some, if_pos rfl]
        obtain ⟨a, e1, e2⟩ := slot_at hw rfl hml
        refine wv_of e1 ?_
        refine wv_of e2 ?_
        refine wv_of (load_hash hs (RowL.own (i := 1) s8 rfl)) ?_
        refine wv_of (build_slot hs true) ?_
        refine wv_of (slot_neq (a := ⟨n, s, true⟩) (b := ⟨n, s, true⟩) hs hs) ?_
        rw [decide_eq_true rfl, Bool.not_true]
        exact h120

end Go.Esc.M
