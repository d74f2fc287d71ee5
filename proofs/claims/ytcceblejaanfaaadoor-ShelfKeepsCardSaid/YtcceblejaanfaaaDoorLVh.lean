/- Own work. Chapter 10: ShelfGets, ShelfPuts. -/
import Derived.Test.YtcceblejaanfaaaDoorLVg
set_option linter.unusedSimpArgs false
set_option linter.unusedVariables false
namespace Go.Esc.M
open Go Go.Esc

/-- A list that is turned by and by. -/
def curS (f : SlotM → SlotM) (l : List SlotM) (j : Nat) : List SlotM := (l.take j).map f ++ l.drop j
theorem curS_len (f : SlotM → SlotM) (l : List SlotM) (j : Nat) : (curS f l j).length = l.length := by
  simp [curS]
  omega
theorem curS_zero (f : SlotM → SlotM) (l : List SlotM) : curS f l 0 = l := by simp [curS]
theorem curS_all (f : SlotM → SlotM) (l : List SlotM) : curS f l l.length = l.map f := by simp [curS]
theorem curS_at {f : SlotM → SlotM} {l : List SlotM} {j : Nat} (hj : j < l.length) : (curS f l j)[j]? = l[j]? := by
  unfold curS
  rw [List.getElem?_append_right (by simp; omega)]
  simp only [List.length_map, List.length_take, Nat.min_eq_left (Nat.le_of_lt hj), Nat.sub_self]
  rw [List.getElem?_drop]
  rfl
theorem take_next {f : SlotM → SlotM} {l : List SlotM} {j : Nat} {s : SlotM} (h : l[j]? = some s) : (l.take j).map f ++ [f s] = (l.take (j + 1)).map f := by
  rw [List.take_add_one, h, List.map_append]
  rfl
theorem curS_next {f : SlotM → SlotM} {l : List SlotM} {j : Nat} {s : SlotM} (h : l[j]? = some s) : (curS f l j).set j (f s) = curS f l (j + 1) := by
  obtain ⟨hj, he⟩ := List.getElem?_eq_some_iff.1 h
  unfold curS
  have hl : ((l.take j).map f).length = j := by simp; omega
  rw [List.set_append_right _ _ (by omega), hl, Nat.sub_self, List.drop_eq_getElem_cons hj, List.set_cons_zero, ← take_next h, List.append_assoc]
  rfl
theorem curS_ok {f : SlotM → SlotM} {l : List SlotM} (hf : ∀ s, s.ok → (f s).ok) (h : ∀ s ∈ l, s.ok) (j : Nat) : ∀ s ∈ curS f l j, s.ok := by
  intro s hs
  rcases List.mem_append.1 hs with hs | hs
  · obtain ⟨x, hx, rfl⟩ := List.mem_map.1 hs
    exact hf x (h x (List.mem_of_mem_take hx))
  · exact h s (List.mem_of_mem_drop hs)
theorem map_ok {f : SlotM → SlotM} {l : List SlotM} (hf : ∀ s, s.ok → (f s).ok) (h : ∀ s ∈ l, s.ok) : ∀ s ∈ l.map f, s.ok := by
  intro s hs
  obtain ⟨x, hx, rfl⟩ := List.mem_map.1 hs
  exact hf x (h x hx)
theorem lentL_set {w : List SlotM} {rest : List AVal} {j : Nat} {s : SlotM} (hj : j < w.length) : (lentL w rest).set j s.av = lentL (w.set j s) rest := by
  unfold lentL
  rw [List.set_append_left _ _ (by simpa using hj), List.map_set]
theorem lentL_at {w : List SlotM} {rest : List AVal} {j : Nat} {s : SlotM} (h : w[j]? = some s) : (lentL w rest)[j]? = some (.agg s.cs) := by
  unfold lentL
  rw [List.getElem?_append_left (by simpa using (List.getElem?_eq_some_iff.1 h).1)]
  exact map_slots w h

def flipF (s : SlotM) : SlotM := { s with full := !s.full }
def flipK (s : SlotM) : SlotM := { s with secret := s.secret.set 0 ((s.secret.getD 0 0) ^^^ 1) }
theorem flipF_ok (s : SlotM) (h : s.ok) : (flipF s).ok := h
theorem flipK_ok (s : SlotM) (h : s.ok) : (flipK s).ok := by
  show (s.secret.set 0 _).length = 32
  rw [List.length_set]
  exact h

section
variable {F0 : List AId} {G0 G : Heap} {ps : List LP} {Q : AVal → Heap → Prop}

/-- A byte of an element's hash. -/
theorem byte_get {id : AId} {w : List SlotM} {rest : List AVal} {j : Nat} {s : SlotM} (hg : G id = some (.own (.agg (lentL w rest)))) (hw : ∀ s ∈ w, s.ok) (hu : uni 34 rest = true) (hj : w[j]? = some s) : vload T G t_uint8 (.ptr id ([j] ++ [1] ++ [0]) (0 + j * 34 + 1 + 0 * 1)) = some (u8v (s.secret.getD 0 0)) := by
  have hso := hw s (List.mem_of_getElem? hj)
  have hl := (List.getElem?_eq_some_iff.1 (lentL_at (rest := rest) hj)).1
  have h0 : vsub G (.ptr id [] 0) = some (.agg (lentL w rest)) := by simp [vsub, hg, treeOf, sub]
  have h1 := vsub_append h0 (szs_takeN (uni_lentL hw hu) (Nat.le_of_lt hl)) (lentL_at hj)
  have h2 : vsub G (.ptr id ([j] ++ [1]) (0 + j * 34 + 1)) = some (.agg (s.secret.map u8v)) := vsub_append h1 rfl rfl
  have h3 : vsub G (.ptr id ([j] ++ [1] ++ [0]) (0 + j * 34 + 1 + 0 * 1)) = some (u8v (s.secret.getD 0 0)) := vsub_append h2 rfl (by
    have : s.secret.length = 32 := hso
    rw [List.getElem?_map, List.getD_eq_getElem?_getD, List.getElem?_eq_getElem (by omega)]
    rfl)
  simp only [vload, h3, T_uint8]
  rfl
theorem byte_set {id : AId} {w : List SlotM} {rest : List AVal} {j : Nat} {s : SlotM} {b : UInt8} (hg : G id = some (.own (.agg (lentL w rest)))) (hw : ∀ s ∈ w, s.ok) (hu : uni 34 rest = true) (hj : w[j]? = some s) :
    vstore T G t_uint8 (.ptr id ([j] ++ [1] ++ [0]) (0 + j * 34 + 1 + 0 * 1)) (u8v b) = some (G.upd id (.own (.agg (lentL (w.set j { s with secret := s.secret.set 0 b }) rest)))) := by
  have hso : s.secret.length = 32 := hw s (List.mem_of_getElem? hj)
  have hl := (List.getElem?_eq_some_iff.1 (lentL_at (rest := rest) hj)).1
  have hjw := (List.getElem?_eq_some_iff.1 hj).1
  have e1 : szs ((lentL w rest).take j) = j * 34 := szs_takeN (uni_lentL hw hu) (Nat.le_of_lt hl)
  have hat := lentL_at (rest := rest) hj
  have hx : s.cs[1]? = some (.agg (s.secret.map u8v)) := rfl
  have hy : (s.secret.map u8v)[0]? = some (u8v (s.secret.getD 0 0)) := by
    rw [List.getElem?_map, List.getD_eq_getElem?_getD, List.getElem?_eq_getElem (by omega)]
    rfl
  have hz : szs (s.cs.take 1) = 1 := rfl
  have hsub : sub [j, 1, 0] (.agg (lentL w rest)) (0 + j * 34 + 1 + 0 * 1) = some (u8v (s.secret.getD 0 0)) := by
    simp only [sub, e1, hat, hz, hx, hy, Nat.zero_add, List.take_zero, szs]
    rw [if_pos (by omega), if_pos (by omega), if_pos (by omega)]
    simp
  have hfit : vfits ti_uint8 (u8v b) = true := rfl
  have hsz : sz (u8v (s.secret.getD 0 0)) = sz (u8v b) := rfl
  have hok : okv (u8v b) = true := rfl
  simp only [vstore, hg, List.cons_append, List.nil_append, hsub, T_uint8, hfit, hsz, hok, putAt, hat, hx, hy]
  simp only [beq_self_eq_true, Bool.and_self, if_true, Option.some.injEq]
  congr 3
  rw [← lentL_set hjw]
  congr 1
  show _ = AVal.agg _
  congr 1
  show _ = [AVal.int .i64 s.index, AVal.agg ((s.secret.set 0 b).map u8v), AVal.bool s.full]
  rw [List.map_set]
  rfl

set_option maxHeartbeats 4000000 in
theorem law_ShelfGets {G : Heap} (hT : Tab G) {v n : AVal} {m1 m2 : Nat} (h1 : wt T G reachBytes 4 t_sl_api_Slot v m1) (h2 : wt T G reachBytes 4 t_int64 n m2) :
    ACalls P escrowlaw10_ShelfGets.n [v, n] G fun v _ => v = .bool true := by
  obtain ⟨l, hro, hok, hR⟩ := wt_Slots h1
  obtain ⟨n, rfl, _, _⟩ := wt_int T_int64 rfl h2
  have hR : l.length * 48 ≤ 140737488351232 := hR
  have hl := hro.is
  refine escrowlaw10_ShelfGets.sound ?_
  unfold escrowlaw10_ShelfGets.S
  refine escrowlaw10_first.use hT fun G2 c2 => ?_
  have s2 := (Sp.nil G).tmp c2
  rw [vun_not, wv_some, Bool.not_true, brB_false]
  refine escrowlaw10_lend.use (hro.mono s2.ro) hok hR fun id cap rest G5 hcap hu t5 => ?_
  obtain ⟨F5, o5, c5⟩ := t5.out
  have s5 := s2.new o5 c5
  refine shelf_Get.use (hT.mono s5.ro) (lentL_is hok (RowL.own (i := 0) s5 rfl) hu rfl) hok hR fun G7 c7 => ?_
  have s7 := s5.tmp c7
  have hgl := getS_len (n := n) hok
  refine wv_of (hi0 _) ?_
  refine wv_of (hi1 _) ?_
  refine newH s7 hgl fun i10 G12 s12 => ?_
  refine escrowref10_Get.use (hl.ch' s12.ch) hok hR fun G14 c14 => ?_
  have s14 := s12.tmp c14
  refine wv_of (hi0 _) ?_
  refine wv_of (hi1 _) ?_
  refine newH s14 hgl fun i17 G19 s19 => ?_
  intro J71
  have h71 : J71 (.bool false) G19 := by
    simp -zeta only [J71, brB_false]
    intro R hR'
    have loop : ∀ (m j : Nat) (now : AVal) (G' : Heap), l.length - j = m → j ≤ l.length → Sp [] G [OwnL 34 now (((l.take j).map flipK).map SlotM.av), RowL i17 (.agg ((getS l n).1.map u8v)), RowL i10 (.agg ((getS l n).1.map u8v)), RowL id (.agg (lentL (curS flipK l j) rest))] G' →
        R [.int .i64 n, .slice id [] 0 0 l.length cap, .ptr i10 [] 0, .ptr i17 [] 0, now, .int .i64 (j : Int)] G' := by
      intro m
      induction m with
      | zero =>
        intro j now G' hm hj sp
        have hjl : j = l.length := by omega
        subst hjl
        rw [curS_all, List.take_length] at sp
        have hmo := map_ok flipK_ok hok
        have hml : (l.map flipK).length * 48 ≤ 140737488351232 := by rw [List.length_map]; exact hR
        have hgl2 := getS_len (n := n) hmo
        refine hR' _ _ _ _ _ _ _ ?_
        refine wv_of (v := .int .i64 (l.length : Nat)) ?_ ?_
        · rw [slots_len (lentL_is (cap := cap) hmo (RowL.own (i := 3) sp rfl) hu (by simp)), List.length_map]
        rw [vbin_lss, wv_some, decide_eq_false (by omega), brB_false]
        refine shelf_Get.use (hT.mono sp.ro) (lentL_is hmo (RowL.own (i := 3) sp rfl) hu (by simp)) hmo hml fun G56 c56 => ?_
        have s56 := sp.tmp c56
        refine wv_of (hi0 _) ?_
        refine wv_of (hi1 _) ?_
        refine wg_of (store_hash hgl hgl2 (RowL.own (i := 2) s56 rfl)) ?_
        have s59 := Sp.setRow (j := 2) s56 rfl (.agg ((getS (l.map flipK) n).1.map u8v))
        refine escrowref10_Get.use (OwnL.own (i := 0) s59 rfl).is hmo hml fun G61 c61 => ?_
        have s61 := s59.tmp c61
        refine wv_of (hi0 _) ?_
        refine wv_of (hi1 _) ?_
        refine wg_of (store_hash hgl hgl2 (RowL.own (i := 1) s61 rfl)) ?_
        have s64 := Sp.setRow (j := 1) s61 rfl (.agg ((getS (l.map flipK) n).1.map u8v))
        refine wv_of (load_hash hgl2 (RowL.own (i := 2) s64 rfl)) ?_
        refine wv_of (load_hash hgl2 (RowL.own (i := 1) s64 rfl)) ?_
        refine wv_of (hash_eql2 hgl2 hgl2) ?_
        rw [decide_eq_true rfl, brB_true, ez0, wv_some]
      | succ m ih =>
        intro j now G' hm hj sp
        obtain ⟨s, hsj⟩ : ∃ s, l[j]? = some s := ⟨_, List.getElem?_eq_getElem (by omega)⟩
        have hco := curS_ok flipK_ok hok j
        have hcj : (curS flipK l j)[j]? = some s := by rw [curS_at (by omega), hsj]
        have hso := hok s (List.mem_of_getElem? hsj)
        have hg := RowL.own (i := 3) sp rfl
        refine hR' _ _ _ _ _ _ _ ?_
        refine wv_of (v := .int .i64 (l.length : Nat)) ?_ ?_
        · rw [slots_len (lentL_is (cap := cap) hco hg hu (by rw [curS_len])), curS_len]
        rw [vbin_lss, wv_some, decide_eq_true (by omega), brB_true]
        have ad : viaddr T t_sl_api_Slot (.slice id [] 0 0 l.length cap) (.int .i64 (j : Int)) = some (.ptr id [j] (0 + j * 34)) := row_slot T_sl_api_Slot rfl T_api_Slot rfl (by omega)
        have fa : vfaddr T t_api_Slot (.ptr id [j] (0 + j * 34)) 1 = some (.ptr id ([j] ++ [1]) (0 + j * 34 + 1)) := fld_addr (fs := [(t_int64, 0), (t_api_Hash, 1), (t_bool, 33)]) T_api_Slot rfl rfl T_api_Hash (by decide)
        have ba : viaddr T t_api_Hash (.ptr id ([j] ++ [1]) (0 + j * 34 + 1)) (.int .i64 0) = some (.ptr id ([j] ++ [1] ++ [0]) (0 + j * 34 + 1 + 0 * 1)) := arrN_addr T_api_Hash rfl T_uint8 rfl (by decide)
        refine wv_of ad ?_
        refine wv_of fa ?_
        refine wv_of ba ?_
        refine wv_of (byte_get hg hco hu hcj) ?_
        refine wv_of (u8_xor (s.secret.getD 0 0) 1) ?_
        refine wv_of ad ?_
        refine wv_of fa ?_
        refine wv_of ba ?_
        refine wg_of (byte_set hg hco hu hcj) ?_
        have s47 := Sp.setRow (j := 3) sp rfl (.agg (lentL ((curS flipK l j).set j (flipK s)) rest))
        rw [curS_next hsj] at s47
        have hcj2 : (curS flipK l (j + 1))[j]? = some (flipK s) := by
          rw [← curS_next hsj, List.getElem?_set_self (by rw [curS_len]; omega)]
        have e47 : (curS flipK l j).set j { s with secret := s.secret.set 0 (s.secret.getD 0 0 ^^^ 1) } = curS flipK l (j + 1) := curS_next hsj
        rw [e47]
        refine wv_of ad ?_
        refine wv_of (arrN_get (s := 34) (c := (flipK s).av) T_api_Slot (RowL.own (i := 3) s47 rfl) (uni_lentL (curS_ok flipK_ok hok (j + 1)) hu) (lentL_at hcj2) (SlotM.fits (flipK_ok s hso))) ?_
        refine grow_slot (i := 0) s47 rfl (flipK_ok s hso) (by simp; omega) fun v' G53 s53 => ?_
        rw [take_next hsj] at s53
        rw [vbin_add, i64_in (by omega) (by omega), wv_some]
        exact ih (j + 1) v' G53 (by omega) (by omega) s53
    refine loop l.length 0 .nilSlice G19 rfl (by omega) ?_
    rw [curS_zero]
    exact s19.nilL 34
  refine wv_of (load_hash hgl (RowL.own (i := 1) s19 rfl)) ?_
  refine wv_of (load_hash hgl (RowL.own (i := 0) s19 rfl)) ?_
  refine wv_of (hash_neq2 hgl hgl) ?_
  rw [decide_eq_true rfl, Bool.not_true, brB_false, nz0, wv_some, brB_false]
  refine escrowlaw10_kept.use (RowL.own (i := 2) s19 rfl) hu hok (by omega) (hl.ch' s19.ch) hR ?_
  rw [vun_not, wv_some, Bool.not_true]
  exact h71

set_option maxHeartbeats 4000000 in
theorem law_ShelfPuts {G : Heap} (hT : Tab G) {v n s : AVal} {m1 m2 m3 : Nat} (h1 : wt T G reachBytes 4 t_sl_api_Slot v m1) (h2 : wt T G reachBytes 4 t_int64 n m2) (h3 : wt T G reachBytes 4 t_api_Hash s m3) :
    ACalls P escrowlaw10_ShelfPuts.n [v, n, s] G fun v _ => v = .bool true := by
  obtain ⟨l, hro, hok, hR⟩ := wt_Slots h1
  obtain ⟨n, rfl, _, _⟩ := wt_int T_int64 rfl h2
  obtain ⟨s, rfl, hs, _⟩ := wt_hash T_api_Hash rfl T_uint8 rfl h3
  have hR : l.length * 48 ≤ 140737488351232 := hR
  have hl := hro.is
  refine escrowlaw10_ShelfPuts.sound ?_
  unfold escrowlaw10_ShelfPuts.S
  intro i1 f1
  have s1 := (Sp.nil G).row f1 (.agg (s.map u8v))
  refine escrowlaw10_first.use (hT.mono s1.ro) fun G4 c4 => ?_
  have s4 := s1.tmp c4
  rw [vun_not, wv_some, Bool.not_true, brB_false]
  refine escrowlaw10_lend.use (hro.mono s4.ro) hok hR fun id cap rest G7 hcap hu t7 => ?_
  obtain ⟨F7, o7, c7⟩ := t7.out
  have s7 := s4.new o7 c7
  have hpo := putS_ok hok hs (n := n)
  have hpl := putS_len l n s
  refine wv_of (load_hash hs (RowL.own (i := 1) s7 rfl)) ?_
  refine shelf_Put.use (hT.mono s7.ro) (lentL_is hok (RowL.own (i := 0) s7 rfl) hu rfl) hok hR hs fun a G10 t10 => ?_
  obtain ⟨F10, o10, c10⟩ := t10.out
  have s10 := s7.new o10 c10
  refine wv_of (tup0 _ _) ?_
  refine wv_of (tup1 _ _) ?_
  refine wv_of (load_hash hs (RowL.own (i := 2) s10 rfl)) ?_
  refine shelf_Put.use (hT.mono s10.ro) (lentL_is hok (RowL.own (i := 1) s10 rfl) hu rfl) hok hR hs fun b G15 t15 => ?_
  obtain ⟨F15, o15, c15⟩ := t15.out
  have s15 := s10.new o15 c15
  refine wv_of (tup0 _ _) ?_
  refine wv_of (tup1 _ _) ?_
  refine wv_of (load_hash hs (RowL.own (i := 3) s15 rfl)) ?_
  refine escrowref10_Put.use (hl.ch' s15.ch) hok hR hs fun want G20 t20 => ?_
  obtain ⟨F20, o20, c20⟩ := t20.out
  have s20 := s15.new o20 c20
  refine wv_of (tup0 _ _) ?_
  refine wv_of (tup1 _ _) ?_
  obtain ⟨W, hW⟩ : ∃ W, W = (putS l n s).1 := ⟨_, rfl⟩
  rw [← hW] at s20 hpo hpl
  have hWl : W.length * 48 ≤ 140737488355328 := by omega
  have s20 : Sp [] G [OwnL 34 want (W.map SlotM.av), OwnL 34 b (W.map SlotM.av), OwnL 34 a (W.map SlotM.av), RowL id (.agg (lentL l rest)), RowL i1 (.agg (s.map u8v))] G20 := s20
  have hw := (OwnL.own (i := 0) s20 rfl).is
  have hb := (OwnL.own (i := 1) s20 rfl).is
  have ha := (OwnL.own (i := 2) s20 rfl).is
  intro J103
  have h103 : J103 (.bool false) G20 := by
    simp -zeta only [J103, brB_false]
    intro R hR'
    have loop : ∀ (m j : Nat) (A : List SlotM) (G' : Heap), A.length - j = m → j ≤ A.length → A.length = W.length → (∀ s ∈ A, s.ok) → Sp [] G [OwnL 34 want (W.map SlotM.av), OwnL 34 b (W.map SlotM.av), OwnL 34 a (A.map SlotM.av), RowL id (.agg (lentL l rest)), RowL i1 (.agg (s.map u8v))] G' →
        R [.int .i64 n, .ptr i1 [] 0, .slice id [] 0 0 l.length cap, a, b, want, .int .i64 (j : Int)] G' := by
      intro m
      induction m with
      | zero =>
        intro j A G' hm hj hAl hAo sp
        refine hR' _ _ _ _ _ _ _ _ ?_
        refine wv_of (slots_len (OwnL.own (i := 2) sp rfl).is) ?_
        rw [vbin_lss, wv_some, decide_eq_false (by omega), brB_false]
        refine wv_of (build_index (-2)) ?_
        refine grow_slot (i := 2) (s := ⟨-2, zero32, false⟩) sp rfl rfl (by omega) fun long G55 s55 => ?_
        have s55 : Sp [] G [OwnL 34 want (W.map SlotM.av), OwnL 34 b (W.map SlotM.av), OwnL 34 long ((A ++ [(⟨-2, zero32, false⟩ : SlotM)]).map SlotM.av), RowL id (.agg (lentL l rest)), RowL i1 (.agg (s.map u8v))] G55 := s55
        intro R2 hR2
        have loop2 : ∀ (m j : Nat) (now : AVal) (G' : Heap), l.length - j = m → j ≤ l.length → Sp [] G [OwnL 34 now (((l.take j).map flipF).map SlotM.av), OwnL 34 want (W.map SlotM.av), OwnL 34 b (W.map SlotM.av), OwnL 34 long ((A ++ [(⟨-2, zero32, false⟩ : SlotM)]).map SlotM.av), RowL id (.agg (lentL (curS flipF l j) rest)), RowL i1 (.agg (s.map u8v))] G' →
            R2 [.int .i64 n, .ptr i1 [] 0, .slice id [] 0 0 l.length cap, b, want, long, now, .int .i64 (j : Int)] G' := by
          intro m
          induction m with
          | zero =>
            intro j now G' hm hj sp
            have hjl : j = l.length := by omega
            subst hjl
            rw [curS_all, List.take_length] at sp
            have hmo := map_ok flipF_ok hok
            have hml : (l.map flipF).length * 48 ≤ 140737488351232 := by rw [List.length_map]; exact hR
            have hpo2 := putS_ok hmo hs (n := n)
            have hpl2 := putS_len (l.map flipF) n s
            refine hR2 _ _ _ _ _ _ _ _ _ ?_
            refine wv_of (v := .int .i64 (l.length : Nat)) ?_ ?_
            · rw [slots_len (lentL_is (cap := cap) hmo (RowL.own (i := 4) sp rfl) hu (by simp)), List.length_map]
            rw [vbin_lss, wv_some, decide_eq_false (by omega), brB_false]
            refine wv_of (load_hash hs (RowL.own (i := 5) sp rfl)) ?_
            refine shelf_Put.use (hT.mono sp.ro) (lentL_is hmo (RowL.own (i := 4) sp rfl) hu (by simp)) hmo hml hs fun c G84 t84 => ?_
            obtain ⟨F84, o84, c84⟩ := t84.out
            have s84 := sp.new o84 c84
            refine wv_of (tup0 _ _) ?_
            refine wv_of (tup1 _ _) ?_
            refine wv_of (load_hash hs (RowL.own (i := 6) s84 rfl)) ?_
            refine escrowref10_Put.use (OwnL.own (i := 1) s84 rfl).is hmo hml hs fun last G89 t89 => ?_
            obtain ⟨F89, o89, c89⟩ := t89.out
            have s89 := s84.new o89 c89
            refine wv_of (tup0 _ _) ?_
            refine wv_of (tup1 _ _) ?_
            have hlong := (OwnL.own (i := 5) s89 rfl).is
            have hwant := (OwnL.own (i := 3) s89 rfl).is
            have hbb := (OwnL.own (i := 4) s89 rfl).is
            have hcc := (OwnL.own (i := 1) s89 rfl).is
            have hlast := (OwnL.own (i := 0) s89 rfl).is
            refine wv_of (slots_len hlong) ?_
            refine wv_of (slots_len hwant) ?_
            rw [vbin_add, i64_in (by omega) (by omega), wv_some]
            rw [vbin_eql, wv_some, decide_eq_true (by simp; omega), brB_true]
            refine escrowlaw10_same.use hbb hwant hpo hpo hWl ?_
            rw [decide_eq_true rfl, brB_true]
            refine escrowlaw10_same.use hcc hlast hpo2 hpo2 (by omega) ?_
            rw [decide_eq_true rfl, brB_true, ez0, wv_some]
          | succ m ih =>
            intro j now G' hm hj sp
            obtain ⟨x, hsj⟩ : ∃ s, l[j]? = some s := ⟨_, List.getElem?_eq_getElem (by omega)⟩
            have hco := curS_ok flipF_ok hok j
            have hcj : (curS flipF l j)[j]? = some x := by rw [curS_at (by omega), hsj]
            have hso := hok x (List.mem_of_getElem? hsj)
            have hg := RowL.own (i := 4) sp rfl
            refine hR2 _ _ _ _ _ _ _ _ _ ?_
            refine wv_of (v := .int .i64 (l.length : Nat)) ?_ ?_
            · rw [slots_len (lentL_is (cap := cap) hco hg hu (by rw [curS_len])), curS_len]
            rw [vbin_lss, wv_some, decide_eq_true (by omega), brB_true]
            have ad : viaddr T t_sl_api_Slot (.slice id [] 0 0 l.length cap) (.int .i64 (j : Int)) = some (.ptr id [j] (0 + j * 34)) := row_slot T_sl_api_Slot rfl T_api_Slot rfl (by omega)
            have fa : vfaddr T t_api_Slot (.ptr id [j] (0 + j * 34)) 2 = some (.ptr id ([j] ++ [2]) (0 + j * 34 + 33)) := fld_addr (fs := [(t_int64, 0), (t_api_Hash, 1), (t_bool, 33)]) T_api_Slot rfl rfl T_bool (by decide)
            have hs33 : szs (x.cs.take 2) = 33 := by
              have h1 : szs (x.secret.map u8v) = 32 := by rw [szs_uni (n := 1) (uni_u8 _)]; simp [show x.secret.length = 32 from hso]
              simp [SlotM.cs, szs, Esc.sz, h1]
            refine wv_of ad ?_
            refine wv_of fa ?_
            refine wv_of (arrN_getf (x := .bool x.full) hg (uni_lentL hco hu) (lentL_at hcj) hs33 rfl T_bool rfl) ?_
            rw [vun_not, wv_some]
            refine wv_of ad ?_
            refine wv_of fa ?_
            refine wg_of (arrN_setf (x := .bool !x.full) (u := .bool x.full) hg (uni_lentL hco hu) (lentL_at hcj) hs33 rfl T_bool rfl rfl rfl) ?_
            have e47 : (lentL (curS flipF l j) rest).set j (.agg (x.cs.set 2 (.bool !x.full))) = lentL (curS flipF l (j + 1)) rest := by
              rw [← curS_next hsj, ← lentL_set (by rw [curS_len]; omega)]
              rfl
            rw [e47]
            have s47 := Sp.setRow (j := 4) sp rfl (.agg (lentL (curS flipF l (j + 1)) rest))
            have hcj2 : (curS flipF l (j + 1))[j]? = some (flipF x) := by
              rw [← curS_next hsj, List.getElem?_set_self (by rw [curS_len]; omega)]
            refine wv_of ad ?_
            refine wv_of (arrN_get (s := 34) (c := (flipF x).av) T_api_Slot (RowL.own (i := 4) s47 rfl) (uni_lentL (curS_ok flipF_ok hok (j + 1)) hu) (lentL_at hcj2) (SlotM.fits (flipF_ok x hso))) ?_
            refine grow_slot (i := 0) s47 rfl (flipF_ok x hso) (by simp; omega) fun v' G53 s53 => ?_
            rw [take_next hsj] at s53
            rw [vbin_add, i64_in (by omega) (by omega), wv_some]
            exact ih (j + 1) v' G53 (by omega) (by omega) s53
        refine loop2 l.length 0 .nilSlice G55 rfl (by omega) ?_
        rw [curS_zero]
        exact s55.nilL 34
      | succ m ih =>
        intro j A G' hm hj hAl hAo sp
        refine hR' _ _ _ _ _ _ _ _ ?_
        refine wv_of (slots_len (OwnL.own (i := 2) sp rfl).is) ?_
        rw [vbin_lss, wv_some, decide_eq_true (by omega), brB_true]
        refine wv_of (build_index (-1)) ?_
        obtain ⟨p, e1, e2⟩ := slot_put (i := 2) (j := j) (s := ⟨-1, zero32, false⟩) (x := (j : Int)) rfl sp rfl (by omega) rfl
        refine wv_of e1 ?_
        refine e2 _ fun G49 s49 => ?_
        rw [vbin_add, i64_in (by omega) (by omega), wv_some]
        refine ih (j + 1) (A.set j ⟨-1, zero32, false⟩) G49 (by simp; omega) (by simp; omega) (by simpa using hAl) (fun y hy => ?_) s49
        rcases List.mem_or_eq_of_mem_set hy with hy | rfl
        · exact hAo y hy
        · rfl
    exact loop W.length 0 W G20 rfl (by omega) rfl hpo s20
  refine escrowlaw10_same.use ha hw hpo hpo hWl ?_
  rw [decide_eq_true rfl, vun_not, wv_some, Bool.not_true, brB_false]
  refine escrowlaw10_same.use hb hw hpo hpo hWl ?_
  rw [decide_eq_true rfl, vun_not, wv_some, Bool.not_true, brB_false, nz0, wv_some, brB_false, wv_some, brB_false]
  refine escrowlaw10_kept.use (RowL.own (i := 3) s20 rfl) hu hok (by omega) (hl.ch' s20.ch) hR ?_
  rw [vun_not, wv_some, Bool.not_true]
  exact h103

end

end Go.Esc.M
