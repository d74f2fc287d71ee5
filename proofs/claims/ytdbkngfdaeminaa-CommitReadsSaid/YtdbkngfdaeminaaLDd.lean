/- Own work. Chapter 14: ledgers compared and turned. -/
import Derived.Test.YtdbkngfdaeminaaLDb
set_option linter.unusedSimpArgs false
set_option linter.unusedVariables false
set_option maxRecDepth 20000
namespace Go.Esc
open Go Go.RowKit
section
variable {T : Tbl} {ts e : TypeId} {si ie : TI} (ht : T ts = some si) (hd : si.desc = .slice e) (he : T e = some ie) (hz : sz ie.zero = ie.size)
variable {F0 : List AId} {G0 G : Heap} {ps : List LP} {K : AVal → Heap → Prop}
include ht hd he hz in
theorem buildV2 {a b : AVal} (hs : Sp F0 G0 ps G) (ha : sz a = ie.size) (hb : sz b = ie.size) (hie : 2 * ie.size ≤ 16777216) (hK : ∀ s' G', Sp F0 G0 (OwnL ie.size s' [a, b] :: ps) G' → K s' G') : aBuildSlice T ts 2 [(0, a), (1, b)] G K := by
  unfold aBuildSlice
  have hf : fillA (fun k => some (k * ie.size, ie.size)) (List.replicate 2 ie.zero) [(0, a), (1, b)] = some [a, b] := by simp [fillA, hz, ha, hb, szs, List.replicate]
  simp only [ht, hd, he, hf]
  refine ⟨by omega, fun id hfr => hK _ _ (hs.new (p := OwnL ie.size _ [a, b]) ⟨.inr ⟨id, 2, 2, [a, b], rfl, Heap.upd_self _ _ _, rfl, Nat.le_refl _, by simp [Esc.uni, ha, hb], rfl⟩, rfl⟩ ?_)⟩
  simpa [rowOf] using Ch.new hfr
end
end Go.Esc
namespace Go.Esc.M
open Go Go.Esc

theorem veq_hash {a b : List UInt8} (ha : a.length = 32) (hb : b.length = 32) : veqD T 8 t_api_Hash (.agg (a.map u8v)) (.agg (b.map u8v)) = some (decide (a = b)) := by
  rw [veqD_arr (i := ti_api_Hash) T_api_Hash rfl T_uint8, eqA_u8 (ie := ti_uint8) T_uint8 rfl rfl 6 32 a b ha hb]

theorem eqF_pen {p p' : PenM} (h : p.ok) (h' : p'.ok) : eqF T (veqD T 8) [(t_bool, 0), (t_int64, 1), (t_int64, 2), (t_api_Hash, 3)] [.bool p.ours, .int .i64 p.id, .int .i64 p.amount, .agg (p.hash.map u8v)] [.bool p'.ours, .int .i64 p'.id, .int .i64 p'.amount, .agg (p'.hash.map u8v)] 0 = some (decide (p = p')) := by
  have z : ∀ {x : List UInt8}, x.length = 32 → vfits ti_api_Hash (.agg (x.map u8v)) = true := fun {x} hx => by
    have h1 : szs (x.map u8v) = 32 := by rw [szs_uni (n := 1) (uni_u8 x)]; simp [hx]
    simp [vfits, sz, h1, ti_api_Hash, AVal.isAgg, ADesc.isAgg]
  have z1 := z h.hash
  have z2 := z h'.hash
  have q1 : veqD T 8 t_bool (.bool p.ours) (.bool p'.ours) = some (p.ours == p'.ours) := by
    rw [veqD]; simp only [T_bool]; rfl
  have q2 : ∀ m n : Int, veqD T 8 t_int64 (.int .i64 m) (.int .i64 n) = some (decide (m = n)) := fun m n => by
    rw [veqD]; simp only [T_int64]; rfl
  have v1 : ∀ b : Bool, vfits ti_bool (.bool b) = true := fun b => rfl
  have v2 : ∀ m : Int, vfits ti_int64 (.int .i64 m) = true := fun m => rfl
  have s1 : ti_bool.size = 1 := rfl
  have s2 : ti_int64.size = 1 := rfl
  obtain ⟨a, b, c, d⟩ := p
  obtain ⟨a', b', c', d'⟩ := p'
  dsimp only at *
  have q3 := veq_hash h.hash h'.hash
  dsimp only at q3
  simp only [eqF, T_bool, T_int64, T_api_Hash, v1, v2, z1, z2, s1, s2, Nat.zero_add, q1, q2, q3, beq_self_eq_true, Bool.and_self, Nat.reduceAdd, if_true]
  by_cases h1 : a = a'
  · subst h1
    by_cases h2 : b = b'
    · subst h2
      by_cases h3 : c = c'
      · subst h3
        by_cases h4 : d = d'
        · subst h4; simp
        · simp [h4]
      · simp [h3]
    · simp [h2]
  · have : (a == a') = false := by simpa using h1
    simp [this, h1]

theorem veq_pen {p p' : PenM} (h : p.ok) (h' : p'.ok) : veqD T 9 t_api_Pending p.av p'.av = some (decide (p = p')) := by
  rw [← eqF_pen h h', veqD]
  have e1 : ti_api_Pending.desc = .struct [(t_bool, 0), (t_int64, 1), (t_int64, 2), (t_api_Hash, 3)] := rfl
  simp only [T_api_Pending, e1]
  rfl

theorem vbin_pneq {p p' : PenM} (h : p.ok) (h' : p'.ok) : vbin T .neq t_api_Pending p.av p'.av = some (.bool (!decide (p = p'))) := by
  have := veq_pen h h'
  unfold PenM.av at this ⊢
  simp only [vbin, this]

/-- A ledger's list, turned so that its entries of the other side stand on this. -/
def turnS (b : Bool) (l : List PenM) : List PenM := (l.filter (fun p => p.ours != b)).map (fun p => { p with ours := b })
def turnL (l : List PenM) : List PenM := turnS true l ++ turnS false l
theorem turnS_take {b : Bool} {l : List PenM} {j : Nat} {p : PenM} (h : l[j]? = some p) : turnS b (l.take (j + 1)) = turnS b (l.take j) ++ (if p.ours = b then [] else [{ p with ours := b }]) := by
  rw [List.take_add_one, h]
  unfold turnS
  rw [List.filter_append, List.map_append]
  congr 1
  cases ho : p.ours <;> cases b <;> simp [ho]
theorem length_turnS (b : Bool) (l : List PenM) : (turnS b l).length ≤ l.length := by
  rw [turnS, List.length_map]; exact List.length_filter_le _ _
theorem turnS_le (b : Bool) (l : List PenM) (j : Nat) : (turnS b (l.take j)).length ≤ (turnS b l).length := by
  rw [turnS, turnS, List.length_map, List.length_map]
  exact ((List.take_sublist j l).filter _).length_le
theorem PenM.ok.side {p : PenM} (h : p.ok) (b : Bool) : ({ p with ours := b } : PenM).ok := ⟨h.id, h.amount, h.hash⟩
theorem turnS_ok {b : Bool} {l : List PenM} (h : ∀ p ∈ l, p.ok) : ∀ p ∈ turnS b l, p.ok := by
  intro p hp
  rw [turnS] at hp
  obtain ⟨q, hq, rfl⟩ := List.mem_map.1 hp
  exact (h q (List.mem_filter.1 hq).1).side b
theorem turnL_ok {l : List PenM} (h : ∀ p ∈ l, p.ok) : ∀ p ∈ turnL l, p.ok := by
  intro p hp
  rcases List.mem_append.1 hp with hp | hp
  · exact turnS_ok h p hp
  · exact turnS_ok h p hp
theorem length_turnL (l : List PenM) : (turnL l).length = l.length := by
  induction l with
  | nil => rfl
  | cons p l ih =>
    have : ∀ b, (turnS b (p :: l)).length = (turnS b l).length + (if p.ours = b then 0 else 1) := by
      intro b
      unfold turnS
      cases ho : p.ours <;> cases b <;> simp [ho]
    rw [turnL, List.length_append] at ih ⊢
    rw [this, this, List.length_cons]
    cases ho : p.ours <;> simp [ho] <;> omega

section
variable {F0 : List AId} {G0 G : Heap} {ps : List LP} {Q : AVal → Heap → Prop}

set_option maxHeartbeats 1000000 in
theorem escrowlaw14_same.use {o q o' q' : Int} {v v' : AVal} {l l' : List PenM} (hl : IsSl 35 G v (l.map PenM.av)) (hl' : IsSl 35 G v' (l'.map PenM.av)) (hok : ∀ p ∈ l, p.ok) (hok' : ∀ p ∈ l', p.ok) (hlen : l.length ≤ 9223372036854775807)
    (hQ : ∀ b G', (b = true ↔ o = o' ∧ q = q' ∧ l = l') → Ch [] G [] G' → Q (.bool b) G') : ACalls P escrowlaw14_same.n [ledV o q v, ledV o' q' v'] G Q := by
  have hv := sl_leaf hl
  have hv' := sl_leaf hl'
  refine escrowlaw14_same.sound ?_
  unfold escrowlaw14_same.S
  intro i1 f1
  have s1 := (Sp.nil G).row f1 (ledV o q v)
  intro i3 f3
  have s3 := s1.row f3 (ledV o' q' v')
  revert s3
  generalize Heap.upd _ i3 (.own (ledV o' q' v')) = G4
  intro s3 J37
  obtain ⟨a0, a1, a2, _⟩ := led_load (i := 1) s3 rfl hv
  obtain ⟨b0, b1, b2, _⟩ := led_load (i := 0) s3 rfl hv'
  have ln : ∀ {G' : Heap}, Ch [] G [] G' → vlen T G' t_sl_api_Pending v = some (.int .i64 (l.length : Nat)) := fun c => by
    rw [(hl.ch' c).len (i := ti_sl_api_Pending) T_sl_api_Pending rfl, List.length_map]
  have ln' : ∀ {G' : Heap}, Ch [] G [] G' → vlen T G' t_sl_api_Pending v' = some (.int .i64 (l'.length : Nat)) := fun c => by
    rw [(hl'.ch' c).len (i := ti_sl_api_Pending) T_sl_api_Pending rfl, List.length_map]
  have bad : ¬ (o = o' ∧ q = q' ∧ l = l') → J37 (.bool true) G4 := by
    intro h
    simp -zeta only [J37, brB_true]
    exact hQ false _ (by simp [h]) s3.ch
  have good : o = o' → q = q' → l.length = l'.length → J37 (.bool false) G4 := by
    intro h1 h2 h3
    simp -zeta only [J37, brB_false]
    intro R18 hR18
    have loop : ∀ (n j : Nat), l.length - j = n → j ≤ l.length → l.take j = l'.take j → R18 [.ptr i1 [] 0, .ptr i3 [] 0, .int .i64 (j : Int)] G4 := by
      intro n
      induction n with
      | zero =>
        intro j hn hj he
        have : j = l.length := by omega
        subst this
        rw [List.take_length, h3, List.take_length] at he
        refine hR18 _ _ _ _ ?_
        show wv (vload T G4 t_sl_api_Pending (.ptr i1 [2] 2)) _
        rw [a2, wv_some, ln s3.ch, wv_some, vbin_lss, wv_some, brB_dec]
        exact ⟨fun h => absurd h (by omega), fun _ => hQ true _ (by simp [h1, h2, he]) s3.ch⟩
      | succ n ih =>
        intro j hn hj he
        obtain ⟨p, hp⟩ : ∃ p, l[j]? = some p := ⟨_, List.getElem?_eq_getElem (by omega)⟩
        obtain ⟨p', hp'⟩ : ∃ p, l'[j]? = some p := ⟨_, List.getElem?_eq_getElem (by omega)⟩
        obtain ⟨a, ha, hla⟩ := pen_at (hl.ch' s3.ch) hp
        obtain ⟨a', ha', hla'⟩ := pen_at (hl'.ch' s3.ch) hp'
        refine hR18 _ _ _ _ ?_
        show wv (vload T G4 t_sl_api_Pending (.ptr i1 [2] 2)) _
        rw [a2, wv_some, ln s3.ch, wv_some, vbin_lss, wv_some, brB_dec]
        refine ⟨fun _ => ?_, fun h => absurd (by omega) h⟩
        show wv (vload T G4 t_sl_api_Pending (.ptr i1 [2] 2)) _
        rw [a2, wv_some, ha, wv_some, hla, wv_some]
        show wv (vload T G4 t_sl_api_Pending (.ptr i3 [2] 2)) _
        rw [b2, wv_some, ha', wv_some, hla', wv_some, vbin_pneq (hok p (List.mem_of_getElem? hp)) (hok' p' (List.mem_of_getElem? hp')), wv_some, brB_ndec]
        refine ⟨fun h => hQ false _ ?_ s3.ch, fun h => ?_⟩
        · refine ⟨fun hh => absurd hh (by decide), fun hh => absurd ?_ h⟩
          have h4 := hh.2.2
          subst h4
          rw [hp] at hp'
          injection hp'
        · subst h
          rw [vbin_add, wv_some, i64_in (by omega) (by omega)]
          refine ih (j + 1) (by omega) (by omega) ?_
          rw [List.take_add_one, List.take_add_one, hp, hp', he]
    exact loop _ 0 rfl (by omega) rfl
  rw [a0, wv_some, b0, wv_some, vbin_neq, wv_some, brB_ndec]
  refine ⟨fun h => bad fun hh => h hh.1, fun h1 => ?_⟩
  rw [a1, wv_some, b1, wv_some, vbin_neq, wv_some, brB_ndec]
  refine ⟨fun h => bad fun hh => h hh.2.1, fun h2 => ?_⟩
  rw [a2, wv_some, ln s3.ch, wv_some, b2, wv_some, ln' s3.ch, wv_some, vbin_neq, wv_some]
  by_cases h3 : ((l.length : Nat) : Int) = ((l'.length : Nat) : Int)
  · rw [decide_eq_true h3]
    exact good h1 h2 (by omega)
  · rw [decide_eq_false h3]
    exact bad fun hh => h3 (by rw [hh.2.2])

theorem pen_side {i : Nat} {id : AId} {p : PenM} (hs : Sp F0 G0 ps G) (hi : ps[i]? = some (RowL id p.av)) (b : Bool) {K : Heap → Prop} (hK : ∀ G', Sp F0 G0 (ps.set i (RowL id ({ p with ours := b } : PenM).av)) G' → K G') : wg (vstore T G t_bool (.ptr id [0] 0) (.bool b)) K := by
  refine wg_of (vstore_fld (c := .bool b) (u := .bool p.ours) (RowL.own hs hi) rfl rfl T_bool rfl rfl rfl) ?_
  exact hK _ (Sp.setRow hs hi _)

set_option maxHeartbeats 2000000 in
theorem commit_Turn.use {o q : Int} {v : AVal} {l : List PenM} (hl : IsSl 35 G v (l.map PenM.av)) (hok : ∀ p ∈ l, p.ok) (hlen : l.length * 56 ≤ 220000000000000) (hQ : ∀ s G', Sp [] G [OwnL 35 s ((turnL l).map PenM.av)] G' → Q (ledV q o s) G') :
    ACalls P commit_Turn.n [ledV o q v] G Q := by
  have hv := sl_leaf hl
  refine commit_Turn.sound ?_
  unfold commit_Turn.S
  rw [zLed]
  intro i1 f1
  have s1 := (Sp.nil G).row f1 (ledV o q v)
  intro i3 f3
  have s3 := s1.row f3 (ledV 0 0 .nilSlice)
  refine wv_of (led_load (i := 1) s3 rfl hv).2.1 ?_
  refine wv_of (led_load (i := 1) s3 rfl hv).1 ?_
  refine wv_of (v := ledV q o .nilSlice) rfl ?_
  intro i8 f8
  have s8 := s3.row f8 (ledV 0 0 .nilSlice)
  refine led_store (i := 0) s8 rfl rfl nil_leaf fun G10 s10 => ?_
  refine buildV2 (T := T) (ts := t_sl_bool) (e := t_bool) (si := ti_sl_bool) (ie := ti_bool) T_sl_bool rfl T_bool rfl s10 rfl rfl (by decide) fun v11 G12 s12 => ?_
  have s12 : Sp [] G [OwnL 1 v11 [.bool true, .bool false], RowL i8 (ledV q o .nilSlice), RowL i3 (ledV 0 0 .nilSlice), RowL i1 (ledV o q v)] G12 := s12
  have bl : ∀ {G' : Heap}, Own 1 G' v11 [.bool true, .bool false] → vlen T G' t_sl_bool v11 = some (.int .i64 2) := fun h => h.is.len (i := ti_sl_bool) T_sl_bool rfl
  refine wv_of (bl (OwnL.own (i := 0) s12 rfl)) ?_
  have s12 := s12.nilL 35
  have ln : ∀ {G' : Heap}, Ch [] G [] G' → vlen T G' t_sl_api_Pending v = some (.int .i64 (l.length : Nat)) := fun c => by
    rw [(hl.ch' c).len (i := ti_sl_api_Pending) T_sl_api_Pending rfl, List.length_map]
  intro R14 hR14
  have inner : ∀ (side : Bool) (acc : List PenM) (y : Int) (G' : Heap) (s : AVal), acc.length + (turnS side l).length ≤ l.length →
      Sp [] G [OwnL 35 s (acc.map PenM.av), OwnL 1 v11 [.bool true, .bool false], RowL i8 (ledV q o s), RowL i3 (ledV 0 0 .nilSlice), RowL i1 (ledV o q v)] G' →
      (∀ (G' : Heap) (s : AVal), Sp [] G [OwnL 35 s ((acc ++ turnS side l).map PenM.av), OwnL 1 v11 [.bool true, .bool false], RowL i8 (ledV q o s), RowL i3 (ledV 0 0 .nilSlice), RowL i1 (ledV o q v)] G' → R14 [.ptr i1 [] 0, .ptr i3 [] 0, .ptr i8 [] 0, v11, .int .i64 2, .int .i64 (IntKind.i64.wrap (y + 1))] G') →
      wv (some (.bool side)) fun v24 => wv (vfaddr T t_api_Ledger (.ptr i1 [] 0) 2) fun v25 => wv (vload T G' t_sl_api_Pending v25) fun v26 => wv (vlen T G' t_sl_api_Pending v26) fun v27 => ∀ R28 : List AVal → Heap → Prop,
  (∀ (x30 x31 x32 x33 x34 x35 x36 x37 x38 x39 : AVal) (G29 : Heap), (wv (vbin T .lss t_int x39 x38) fun v40 => brB (some v40)
  (wv (viaddr T t_sl_api_Pending x37 x39) fun v41 => wv (vload T G29 t_api_Pending v41) fun v42 => aNew G29 (.own (z_api_Pending)) fun i43 G44 => wg (vstore T G44 t_api_Pending (.ptr i43 [] 0) v42) fun G45 => wv (vload T G45 t_bool (.ptr i43 [0] 0)) fun v46 => wv (vbin T .neq t_bool v46 x33) fun v47 => brB (some v47)
  (wg (vstore T G45 t_bool (.ptr i43 [0] 0) x33) fun G48 => wv (vfaddr T t_api_Ledger x32 2) fun v49 => wv (vload T G48 t_sl_api_Pending v49) fun v50 => wv (vload T G48 t_api_Pending (.ptr i43 [] 0)) fun v51 => aBuildSlice T t_sl_api_Pending 1 [(0, v51)] G48 fun v52 G53 => aAppend T G53 t_sl_api_Pending t_sl_api_Pending v50 v52 fun v54 G55 => wv (vfaddr T t_api_Ledger x32 2) fun v56 => wg (vstore T G55 t_sl_api_Pending v56 v54) fun G57 => wv (vbin T .add t_int x39 (.int .i64 1)) fun v61 => R28 [x30, x31, x32, x33, x34, x35, x36, x37, x38, v61] G57)
  (wv (vbin T .add t_int x39 (.int .i64 1)) fun v62 => R28 [x30, x31, x32, x33, x34, x35, x36, x37, x38, v62] G45))
  (wv (vbin T .add t_int x36 (.int .i64 1)) fun v63 => R14 [x30, x31, x32, x34, x35, v63] G29)) → R28 [x30, x31, x32, x33, x34, x35, x36, x37, x38, x39] G29) →
  R28 [.ptr i1 [] 0, .ptr i3 [] 0, .ptr i8 [] 0, v24, v11, .int .i64 2, .int .i64 y, v26, v27, .int .i64 0] G' := by
    intro side acc y G' s hacc hs hnext
    rw [wv_some]
    show wv (vload T G' t_sl_api_Pending (.ptr i1 [2] 2)) _
    refine wv_of (led_load (i := 4) hs rfl hv).2.2.1 ?_
    refine wv_of (ln hs.ch) ?_
    intro R28 hR28
    have lp : ∀ (n x : Nat) (s : AVal) (G' : Heap), l.length - x = n → x ≤ l.length → Sp [] G [OwnL 35 s ((acc ++ turnS side (l.take x)).map PenM.av), OwnL 1 v11 [.bool true, .bool false], RowL i8 (ledV q o s), RowL i3 (ledV 0 0 .nilSlice), RowL i1 (ledV o q v)] G' →
        R28 [.ptr i1 [] 0, .ptr i3 [] 0, .ptr i8 [] 0, .bool side, v11, .int .i64 2, .int .i64 y, v, .int .i64 (l.length : Nat), .int .i64 (x : Int)] G' := by
      intro n
      induction n with
      | zero =>
        intro x s G' hn hx hs
        have : x = l.length := by omega
        subst this
        rw [List.take_length] at hs
        refine hR28 _ _ _ _ _ _ _ _ _ _ _ ?_
        rw [vbin_lss, wv_some, brB_dec]
        refine ⟨fun h => absurd h (by omega), fun _ => ?_⟩
        rw [vbin_add, wv_some]
        exact hnext _ _ hs
      | succ n ih =>
        intro x s G' hn hx hs
        obtain ⟨p, hp⟩ : ∃ p, l[x]? = some p := ⟨_, List.getElem?_eq_getElem (by omega)⟩
        have hpo := hok p (List.mem_of_getElem? hp)
        obtain ⟨a, ha, hla⟩ := pen_at (hl.ch' hs.ch) hp
        have htt := turnS_take (b := side) hp
        refine hR28 _ _ _ _ _ _ _ _ _ _ _ ?_
        rw [vbin_lss, wv_some, brB_dec]
        refine ⟨fun _ => ?_, fun h => absurd (by omega) h⟩
        rw [ha, wv_some, hla, wv_some]
        refine newVal hs T_api_Pending (PenM.fits hpo) (by rw [PenM.sz hpo]; rfl) (PenM.okv p) fun i43 G45 s45 => ?_
        refine wv_of (PenM.fld hpo (RowL.own (i := 0) s45 rfl)).1 ?_
        rw [vbin_bneq T_bool rfl, wv_some, brB_bool]
        refine ⟨fun h => ?_, fun h => ?_⟩
        · have hne : p.ours ≠ side := by simpa using h
          rw [if_neg hne] at htt
          refine pen_side (i := 0) s45 rfl side fun G48 s48 => ?_
          have hpo2 := hpo.side side
          have ho0 := OwnL.own (i := 1) s48 rfl
          show wv (vload T G48 t_sl_api_Pending (.ptr i8 [2] 2)) _
          refine wv_of (led_load (i := 3) s48 rfl ho0.leaf).2.2.1 ?_
          refine wv_of (whole_load T_api_Pending (RowL.own (i := 0) s48 rfl) (PenM.fits hpo2)) ?_
          refine growV (T := T) (ts := t_sl_api_Pending) (e := t_api_Pending) (si := ti_sl_api_Pending) (ie := ti_api_Pending) (i := 1) T_sl_api_Pending rfl T_api_Pending rfl (by decide) s48 rfl (PenM.sz hpo2) (PenM.okv _) (by decide) ?_ fun s57 G58 s58 => ?_
          · have : ti_api_Pending.bytes = 56 := rfl
            have h2 := turnS_le side l (x + 1)
            rw [htt, List.length_append, List.length_singleton] at h2
            rw [List.length_map, this, List.length_append]
            omega
          show wg (vstore T G58 t_sl_api_Pending (.ptr i8 [2] 2) s57) _
          refine led_set (i := 3) s58 rfl ho0.leaf.1 (OwnL.own (i := 1) s58 rfl).leaf fun G60 s60 => ?_
          rw [vbin_add, wv_some, i64_in (by omega) (by omega)]
          refine ih (x + 1) s57 G60 (by omega) (by omega) ?_
          rw [htt, ← List.append_assoc, List.map_append]
          exact s60.erase 0
        · have hne : p.ours = side := by simpa using h
          rw [if_pos hne, List.append_nil] at htt
          rw [vbin_add, wv_some, i64_in (by omega) (by omega)]
          refine ih (x + 1) s G45 (by omega) (by omega) ?_
          rw [htt]
          exact s45.erase 0
    refine lp _ 0 s G' rfl (by omega) ?_
    simpa [turnS] using hs
  have at_ : ∀ {G' : Heap} {j : Nat} {b : Bool}, Own 1 G' v11 [.bool true, .bool false] → [AVal.bool true, .bool false][j]? = some (.bool b) → ∃ a, viaddr T t_sl_bool v11 (.int .i64 (j : Nat)) = some a ∧ vload T G' t_bool a = some (.bool b) := fun h hj =>
    h.is.at_ (k := .i64) (i := ti_sl_bool) (ie := ti_bool) (T := T) (t := t_sl_bool) (e := t_bool) T_sl_bool rfl T_bool hj rfl
  refine hR14 _ _ _ _ _ _ _ ?_
  rw [vbin_lss, wv_some, brB_dec]
  refine ⟨fun _ => ?_, fun h => absurd (by decide) h⟩
  obtain ⟨a, ha, hla⟩ := at_ (j := 0) (OwnL.own (i := 1) s12 rfl) rfl
  refine wv_of ha ?_
  rw [hla]
  refine inner true [] 0 G12 .nilSlice (by simpa using length_turnS true l) s12 fun G' s hs => ?_
  refine hR14 _ _ _ _ _ _ _ ?_
  rw [vbin_lss, wv_some, brB_dec]
  refine ⟨fun _ => ?_, fun h => absurd (by decide) h⟩
  obtain ⟨a, ha, hla⟩ := at_ (j := 1) (OwnL.own (i := 1) hs rfl) rfl
  refine wv_of ha ?_
  rw [hla]
  refine inner false ([] ++ turnS true l) (IntKind.i64.wrap (0 + 1)) G' s (by have := length_turnL l; rw [turnL, List.length_append] at this; simp; omega) hs fun G' s hs => ?_
  refine hR14 _ _ _ _ _ _ _ ?_
  rw [vbin_lss, wv_some, brB_dec]
  refine ⟨fun h => absurd h (by decide), fun _ => ?_⟩
  have ho0 := OwnL.own (i := 0) hs rfl
  refine wv_of (led_load (i := 2) hs rfl ho0.leaf).2.2.2 ?_
  refine led_store (i := 3) hs rfl rfl ho0.leaf fun G65 s65 => ?_
  refine wv_of (led_load (i := 3) s65 rfl ho0.leaf).2.2.2 ?_
  exact hQ s _ ((((s65.erase 1).erase 1).erase 1).erase 1)

end
end Go.Esc.M
