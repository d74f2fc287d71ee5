import Derived.Test.YtdoelihemgopcaaLSe
import Derived.Test.YtdoelihemgopcaaLTb
import Derived.Test.YtdoelihemgopcaaLSh
/- Own work. Chapters 9 and 10 whatever Go's table holds: Level, Derive and Put end, and a shelf has 49 places. -/
set_option linter.unusedSimpArgs false
set_option linter.unusedVariables false
set_option maxRecDepth 20000
namespace Go.Esc.M
open Go Go.Esc

/-- A table of 64 bytes lies there. -/
def TabAny (G : Heap) : Prop := ∃ zs : List Int, zs.length = 64 ∧ (∀ z ∈ zs, 0 ≤ z ∧ z ≤ 255) ∧ G g_math_bits_deBruijn64tab = some (.ro (tabV zs))
theorem TabAny.mono {G G' : Heap} (h : TabAny G) (hle : RoLe G G') : TabAny G' := by
  obtain ⟨zs, h1, h2, h3⟩ := h
  exact ⟨zs, h1, h2, hle _ _ h3⟩

section
variable {F0 : List AId} {G0 G : Heap} {ps : List LP} {Q : AVal → Heap → Prop}

theorem bits_TrailingZeros64.useA {x : Nat} (hx : x < 2 ^ 48) (hT : TabAny G) (hQ : ∀ k : Nat, k ≤ 255 → Q (.int .i64 (k : Int)) G) : ACalls P bits_TrailingZeros64.n [.int .u64 (x : Int)] G Q := by
  obtain ⟨zs, hz1, hz2, hT⟩ := hT
  refine bits_TrailingZeros64.sound ?_
  unfold bits_TrailingZeros64.S
  rw [vbin_eql, wv_some, brB_dec]
  refine ⟨fun h0 => hQ 64 (by decide), fun h0 => ?_⟩
  have hx0 : x ≠ 0 := by omega
  obtain ⟨m, hm⟩ := level_form hx0 hx
  have hl := level_pos hx0 hx
  have hp48 : (2 : Nat) ^ 48 ≤ 2 ^ 64 := by decide
  have e64 : (2 : Nat) ^ 64 = 18446744073709551616 := by decide
  rw [vun_neg, wv_some, wrapU64]
  have hneg : (0 - (x : Int)) % 18446744073709551616 = ((2 ^ 64 - x : Nat) : Int) := by omega
  rw [hneg, u64_and (by omega) (by omega), wv_some]
  have hand : x &&& (2 ^ 64 - x) = 2 ^ level x := by
    have := and_neg (k := level x) (m := m) (by rw [← hm]; omega)
    rwa [← hm] at this
  rw [hand]
  obtain ⟨k, hk⟩ : ∃ k, k = level x := ⟨_, rfl⟩
  rw [← hk] at hl ⊢
  obtain ⟨idx, hidx⟩ : ∃ i, i = (2 ^ k * 0x03f79d71b4ca8b09 % 18446744073709551616) / 288230376151711744 := ⟨_, rfl⟩
  have hi64 : idx < 64 := by rw [hidx]; omega
  rw [vbin_mul, wv_some, wrapU64]
  have hmul : (((2 ^ k : Nat) : Int) * 285870213051353865) % 18446744073709551616 = ((2 ^ k * 0x03f79d71b4ca8b09 % 18446744073709551616 : Nat) : Int) := by omega
  rw [hmul]
  have hshr : vbin T .shr t_uint64 (.int .u64 ((2 ^ k * 0x03f79d71b4ca8b09 % 18446744073709551616 : Nat) : Int)) (.int .u64 58) = some (.int .u64 (idx : Int)) := by
    rw [vbin_shr _ _ _ _ _ _ (by decide)]
    have h1 : min (58 : Int).toNat IntKind.u64.bits = 58 := rfl
    have h2 : ((2 : Int) ^ 58) = ((288230376151711744 : Nat) : Int) := by decide
    rw [h1, h2, Int.fdiv_eq_ediv_of_nonneg _ (Int.natCast_nonneg _), hidx]
    congr 2
  refine wv_of hshr ?_
  refine wv_of (arrN_addr (j := idx) T_ar64_uint8 rfl T_uint8 rfl (by omega)) ?_
  obtain ⟨z, hzi⟩ : ∃ z, zs[idx]? = some z := ⟨_, List.getElem?_eq_getElem (by omega)⟩
  obtain ⟨z0, z1⟩ := hz2 z (List.mem_of_getElem? hzi)
  have hld : vload T G t_uint8 (.ptr g_math_bits_deBruijn64tab ([] ++ [idx]) (0 + idx * ti_uint8.size)) = some (.int .u8 z) := by
    have hz : (zs.map (AVal.int .u8))[idx]? = some (.int .u8 z) := by rw [List.getElem?_map, hzi]; rfl
    have hu : uni 1 (zs.map (AVal.int .u8)) = true := by simp [uni, sz]
    have hs : szs ((zs.map (AVal.int .u8)).take idx) = idx := by
      have := szs_takeN hu (j := idx) (by have := (List.getElem?_eq_some_iff.1 hz).1; omega)
      rw [this, Nat.mul_one]
    have hsub : vsub G (.ptr g_math_bits_deBruijn64tab [idx] idx) = some (.int .u8 z) := by
      simp only [vsub, hT, treeOf, tabV, sub, hs, Nat.le_refl, if_true, hz, Nat.sub_self]
    show vload T G t_uint8 (.ptr g_math_bits_deBruijn64tab [idx] (0 + idx * 1)) = _
    rw [Nat.zero_add, Nat.mul_one]
    simp only [vload, hsub, T_uint8]
    rfl
  refine wv_of hld ?_
  rw [vconv_int T_uint8 T_int rfl, i64_in (by omega) (by omega), wv_some]
  have := hQ z.toNat (by omega)
  rwa [show ((z.toNat : Nat) : Int) = z by omega] at this

theorem seed_Level.useA {n : Int} (hT : TabAny G) (hno : okN n = false → Q (tupII (0, 90)) G) (hQ : okN n = true → ∀ lv : Nat, lv ≤ 48 → Q (tupII ((lv : Int), 0)) G) : ACalls P seed_Level.n [.int .i64 n] G Q := by
  refine seed_Level.sound ?_
  unfold seed_Level.S
  refine seed_right.use ?_
  rw [vun_not, wv_some]
  cases hn : okN n with
  | false => exact hno hn
  | true =>
    rw [Bool.not_true, brB_false]
    obtain ⟨h1, h2⟩ := pl_eq hn
    have e48 : (2 : Nat) ^ 48 = 281474976710656 := by decide
    refine seed_place.use hn ?_
    rw [vconv_int T_int64 T_uint64 rfl, u64_in (by omega) (by omega), wv_some]
    refine bits_TrailingZeros64.useA h2 hT fun k hk => ?_
    have hmin : vmin2 (.int .i64 48) (.int .i64 (k : Int)) = some (.int .i64 ((min 48 k : Nat) : Int)) := by
      simp only [vmin2]
      congr 2
      split <;> omega
    refine wv_of hmin ?_
    exact hQ hn _ (by omega)

set_option maxHeartbeats 1000000 in
theorem seed_Derive.useA {s : List UInt8} {a b : Int} (hT : TabAny G) (hl : s.length = 32) (hQ : ∀ (h : List UInt8) (e : Int) G', h.length = 32 → Ch [] G [] G' → Q (tupHI (h, e)) G') : ACalls P seed_Derive.n [.agg (s.map u8v), .int .i64 a, .int .i64 b] G Q := by
  refine seed_Derive.sound ?_
  unfold seed_Derive.S
  rw [z_hash]
  intro i1 f1
  have s1 := (Sp.nil G).row f1 (.agg (s.map u8v))
  intro i3 f3
  have s3 := s1.row f3 (.agg ((List.replicate 32 (0 : UInt8)).map u8v))
  revert s3
  generalize Heap.upd _ i3 _ = G4
  intro s3
  have s3 : Sp [] G [RowL i3 (.agg (zero32.map u8v)), RowL i1 (.agg (s.map u8v))] G4 := s3
  have none : ∀ e : Int, (wv (vbuild T t_api_Hash []) fun v15 => wg (vstore T G4 t_api_Hash (.ptr i3 [] 0) v15) fun G16 => wv (vload T G16 t_api_Hash (.ptr i3 [] 0)) fun v17 => Q (.tuple [v17, .int .i64 e]) G16) := by
    intro e
    refine wv_of zero_hash2 ?_
    refine wg_of (store_hash (hs' := zero32) rfl rfl (RowL.own (i := 0) s3 rfl)) ?_
    have s9 := Sp.setRow (j := 0) s3 rfl (.agg (zero32.map u8v))
    refine wv_of (load_hash rfl (RowL.own (i := 0) s9 rfl)) ?_
    exact hQ zero32 e _ rfl s9.ch
  refine seed_Level.useA (hT.mono s3.ro) (fun ha => ?_) (fun ha lv hlv => ?_)
  · refine wv_of (ii0 _) ?_
    refine wv_of (ii1 _) ?_
    intro J28
    rw [vbin_neq, wv_some, decide_eq_false (by decide), Bool.not_false, brB_true]
    simp -zeta only [J28, brB_true]
    exact none 90
  · refine wv_of (ii0 _) ?_
    refine wv_of (ii1 _) ?_
    intro J28
    refine wv_of nz0 ?_
    rw [brB_false]
    refine seed_right.use ?_
    rw [vun_not, wv_some]
    cases hb : okN b with
    | false =>
      simp -zeta only [J28, Bool.not_false, brB_true]
      exact none 90
    | true =>
      simp -zeta only [J28, Bool.not_true, brB_false]
      refine seed_place.use ha ?_
      refine wv_of (shrN (by omega)) ?_
      refine seed_place.use hb ?_
      refine wv_of (shrN (by omega)) ?_
      rw [vbin_neq, wv_some, brB_ndec]
      refine ⟨fun hne => none 5, fun heq => ?_⟩
      refine wv_of (load_hash hl (RowL.own (i := 1) s3 rfl)) ?_
      refine seed_place.use hb ?_
      refine ⟨⟨load_hash hl (RowL.own (i := 1) s3 rfl), trivial⟩, ?_⟩
      refine seed_down.use hl (pl_eq hb).2 hlv fun G33 c33 => ?_
      have s33 := s3.tmp c33
      have hD := length_down (pl := pl b) lv hl
      refine wg_of (store_hash (hs' := downS (pl b) lv s) rfl hD (RowL.own (i := 0) s33 rfl)) ?_
      have s34 := Sp.setRow (j := 0) s33 rfl (.agg ((downS (pl b) lv s).map u8v))
      refine wv_of (load_hash hD (RowL.own (i := 0) s34 rfl)) ?_
      exact hQ _ 0 _ hD s34.ch

/-- What Put answers whatever the table holds. -/
def putOk (l : List SlotM) (n : Int) (w : Option (List SlotM)) : Prop :=
  (∀ h, w = some h → h.length = 49 ∧ ∀ x ∈ h, x.ok) ∧ (l = [] → okN n = true → w.isSome = true)
theorem putOk_any (l : List SlotM) (n : Int) : putOk l n (some (List.replicate 49 zeroS)) := by
  refine ⟨fun h e => ?_, fun _ _ => rfl⟩
  injection e with e
  subst e
  exact ⟨by simp, fun x hx => by rw [List.eq_of_mem_replicate hx]; exact zeroS_ok⟩

set_option maxHeartbeats 2000000 in
theorem shelf_Put.useA {v : AVal} {l : List SlotM} {n : Int} {secret : List UInt8} (hT : TabAny G) (hl : IsSl 34 G v (l.map SlotM.av)) (hok : ∀ s ∈ l, s.ok) (hlen : l.length * 48 ≤ 140737488351232) (hs : secret.length = 32)
    (hno : putOk l n none → ∀ e G', e ≠ 0 → Ch [] G [] G' → Q (.tuple [.nilSlice, .int .i64 e]) G')
    (hQ : ∀ h w G', putOk l n (some h) → Sp [] G [OwnL 34 w (h.map SlotM.av)] G' → Q (.tuple [w, .int .i64 0]) G') : ACalls P shelf_Put.n [v, .int .i64 n, .agg (secret.map u8v)] G Q := by
  refine shelf_Put.sound ?_
  unfold shelf_Put.S
  intro i1 f1
  have s1 := (Sp.nil G).row f1 (.agg (secret.map u8v))
  refine wv_of (slots_len (hl.ch' s1.ch)) ?_
  have pno : l ≠ [] ∨ okN n = false → putOk l n none := by
    intro h
    refine ⟨fun h e => (by cases e), fun h1 h2 => ?_⟩
    rcases h with h | h
    · exact absurd h1 h
    · rw [h] at h2; cases h2
  rw [vbin_gtr, wv_some, brB_dec]
  refine ⟨fun h => ?_, fun h => ?_⟩
  · exact hno (pno (.inl fun e => by rw [e] at h; simp at h)) 1 _ (by decide) s1.ch
  refine seed_Level.useA (hT.mono s1.ro) (fun hn => ?_) (fun hn lv hlv => ?_)
  · refine wv_of (ii0 _) ?_
    refine wv_of (ii1 _) ?_
    refine wv_of (v := .bool true) rfl ?_
    rw [brB_true]
    exact hno (pno (.inr hn)) 90 _ (by decide) s1.ch
  refine wv_of (ii0 _) ?_
  refine wv_of (ii1 _) ?_
  refine wv_of nz0 ?_
  rw [brB_false]
  refine mkOwn (n := 49) T_sl_api_Slot rfl T_api_Slot (SlotM.sz zeroS_ok) rfl rfl (by decide) (by decide) s1 fun w G11 s11 => ?_
  have s11 : Sp [] G [OwnL 34 w (List.replicate 49 zeroS.av), RowL i1 (.agg (secret.map u8v))] G11 := s11
  have e0 : List.replicate 49 zeroS.av = (List.replicate 49 zeroS).map SlotM.av := by rw [List.map_replicate]
  rw [e0] at s11
  refine wv_of (slots_len (hl.ch' s11.ch)) ?_
  intro R hR
  have loop : ∀ (m j : Nat) (h : List SlotM) (G' : Heap), l.length - j = m → j ≤ l.length → h.length = 49 → (∀ x ∈ h, x.ok) → Sp [] G [OwnL 34 w (h.map SlotM.av), RowL i1 (.agg (secret.map u8v))] G' →
      R [v, .int .i64 n, .ptr i1 [] 0, .int .i64 (lv : Int), w, .int .i64 (l.length : Int), .int .i64 (j : Int)] G' := by
    intro m
    induction m with
    | zero =>
      intro j h G' hm hj hh ho sp
      refine hR _ _ _ _ _ _ _ _ ?_
      rw [vbin_lss, wv_some, decide_eq_false (by omega), brB_false]
      refine wv_of (load_hash hs (RowL.own (i := 1) sp rfl)) ?_
      refine wv_of (build_slot hs true) ?_
      obtain ⟨a, e1, e2⟩ := slot_put (i := 0) (j := lv) (s := ⟨n, secret, true⟩) (x := (lv : Int)) rfl sp rfl (by omega) hs
      refine wv_of e1 ?_
      refine e2 _ fun G59 s59 => ?_
      refine hQ (h.set lv ⟨n, secret, true⟩) w _ ⟨fun h' e => ?_, fun _ _ => rfl⟩ (s59.erase 1)
      injection e with e
      subst e
      refine ⟨by rw [List.length_set, hh], fun x hx => ?_⟩
      rcases List.mem_or_eq_of_mem_set hx with hx | rfl
      · exact ho x hx
      · exact hs
    | succ m ih =>
      intro j h G' hm hj hh ho sp
      obtain ⟨s, hsj⟩ : ∃ s, l[j]? = some s := ⟨_, List.getElem?_eq_getElem (by omega)⟩
      have hso := hok s (List.mem_of_getElem? hsj)
      have hne : putOk l n none := pno (.inl fun e => by rw [e] at hsj; simp at hsj)
      refine hR _ _ _ _ _ _ _ _ ?_
      rw [vbin_lss, wv_some, decide_eq_true (by omega), brB_true]
      obtain ⟨a, b, e1, e2, e3⟩ := slot_full (hl.ch' sp.ch) rfl hsj hso
      refine wv_of e1 ?_
      refine wv_of e2 ?_
      refine wv_of e3 ?_
      rw [vun_not, wv_some]
      have ev : vbin T .add t_int (.int .i64 (j : Int)) (.int .i64 1) = some (.int .i64 ((j + 1 : Nat) : Int)) := by
        rw [vbin_add, i64_in (by omega) (by omega)]
        rfl
      cases hf : s.full with
      | false =>
        rw [Bool.not_false, brB_true]
        refine wv_of ev ?_
        exact ih (j + 1) h G' (by omega) (by omega) hh ho sp
      | true =>
        rw [Bool.not_true, brB_false]
        obtain ⟨a, e1, e2⟩ := slot_at (hl.ch' sp.ch) rfl hsj
        refine wv_of e1 ?_
        refine wv_of e2 ?_
        obtain ⟨a, e1, e2⟩ := slot_put (i := 0) (j := j) (s := s) (x := (j : Int)) rfl sp rfl (by omega) hso
        refine wv_of e1 ?_
        refine e2 _ fun G30 s30 => ?_
        have s30 : Sp [] G [OwnL 34 w ((h.set j s).map SlotM.av), RowL i1 (.agg (secret.map u8v))] G30 := s30
        have hh2 : (h.set j s).length = 49 := by rw [List.length_set, hh]
        have ho2 : ∀ x ∈ h.set j s, x.ok := fun x hx => by
          rcases List.mem_or_eq_of_mem_set hx with hx | rfl
          · exact ho x hx
          · exact hso
        rw [vbin_geq, wv_some, brB_dec]
        refine ⟨fun hge => ?_, fun hlt => ?_⟩
        · refine wv_of ev ?_
          exact ih (j + 1) _ G30 (by omega) (by omega) hh2 ho2 s30
        · refine wv_of (load_hash hs (RowL.own (i := 1) s30 rfl)) ?_
          obtain ⟨a, b, e1, e2, e3⟩ := slot_index (hl.ch' s30.ch) rfl hsj
          refine wv_of e1 ?_
          refine wv_of e2 ?_
          refine wv_of e3 ?_
          refine seed_Derive.useA (hT.mono s30.ro) hs fun d e G37 hdl c37 => ?_
          have s37 := s30.tmp c37
          refine wv_of (hi0 _) ?_
          refine wv_of (hi1 _) ?_
          refine newH s37 hdl fun i40 G42 s42 => ?_
          have fail : Q (.tuple [.nilSlice, .int .i64 100]) G42 := hno hne 100 _ (by decide) s42.ch
          rw [vbin_neq, wv_some, brB_ndec]
          refine ⟨fun _ => fail, fun _ => ?_⟩
          refine wv_of (load_hash hdl (RowL.own (i := 0) s42 rfl)) ?_
          obtain ⟨a, b, e1, e2, e3⟩ := slot_secret (hl.ch' s42.ch) rfl hsj hso
          refine wv_of e1 ?_
          refine wv_of e2 ?_
          refine wv_of e3 ?_
          refine wv_of (hash_neq2 hdl hso) ?_
          rw [brB_ndec]
          refine ⟨fun _ => fail, fun _ => ?_⟩
          refine wv_of ev ?_
          exact ih (j + 1) _ G42 (by omega) (by omega) hh2 ho2 (s42.erase 0)
  exact loop l.length 0 _ G11 rfl (by omega) (by simp) (fun x hx => by rw [List.eq_of_mem_replicate hx]; exact zeroS_ok) s11

end
end Go.Esc.M

/- Own work. Chapter 17: what a record makes of a state, of every kind, whatever Go's table holds. -/
set_option linter.unusedSimpArgs false
set_option linter.unusedVariables false
set_option maxRecDepth 20000
namespace Go.Esc.M
open Go Go.Esc

def okC (o : List UpdM) : List UpdM → List UpdM → Bool
  | c, [] => true
  | c, u :: t => decide (nextU c o u = 0) && okC o (c ++ [u]) t
def cameB (f : StF) (r : RcM) : Prop := r.index ≠ IntKind.i64.wrap (f.s.loc + 1) ∨ f.s.atB < 0 ∨ (f.p.length : Nat) < f.s.atB
instance (f : StF) (r : RcM) : Decidable (cameB f r) := by unfold cameB; infer_instance
def heldP (f : StF) : List UpdM := f.p.take f.s.atB.toNat
def revB (f : StF) (r : RcM) : Prop := f.s.rem ≠ IntKind.i64.wrap (f.s.ack + 1) ∨ r.index ≠ f.s.ack
instance (f : StF) (r : RcM) : Decidable (revB f r) := by unfold revB; infer_instance
/-- What a record makes of a state; 'pt': what Put answers. -/
def applyG (f : StF) (r : RcM) (l : List UpdM) (pt : Option (List SlotM)) : StF × Bool :=
  if r.kind = 1 then (if nextU f.o f.p r.upd = 0 then (⟨f.s, f.o ++ [r.upd], f.p, f.h⟩, true) else (f, false))
  else if r.kind = 2 then (if signB f r then (f, false) else (⟨{ f.s with rem := r.index, sgnA := r.cntA, sgnB := r.cntB, behind := true }, f.o, f.p, f.h⟩, true))
  else if r.kind = 3 then (if cameB f r ∨ okC f.o (heldP f) l = false then (f, false) else (⟨{ f.s with loc := r.index, sig := r.sig, behind := false, atA := f.s.heldA, atB := ((heldP f ++ l).length : Nat) }, f.o, heldP f ++ l, f.h⟩, true))
  else if r.kind = 4 then (if revB f r then (f, false) else match pt with
    | none => (f, false)
    | some h => (⟨{ f.s with ack := IntKind.i64.wrap (f.s.ack + 1), heldA := f.s.sgnA, heldB := f.s.sgnB, ptsA := f.s.ptsB, ptsB := r.point }, f.o, f.p, h⟩, true))
  else if r.kind = 5 then ((if f.s.failed = 0 then ⟨{ f.s with failed := r.code }, f.o, f.p, f.h⟩ else f), true)
  else (if r.index ≠ f.s.loc then (f, false) else (⟨{ f.s with closed := r.index }, f.o, f.p, f.h⟩, true))

theorem nextU_small17 {A X : List UpdM} {u : UpdM} (h : nextU A X u = 0) : A.length < 2048 := by
  unfold nextU at h
  split at h
  · cases h
  · omega

section
variable {F0 : List AId} {G0 G : Heap} {ps : List LP} {Q : AVal → Heap → Prop}

theorem own_cut {i k : Nat} {w : AVal} {l : List UpdM} {x : Int} (hs : Sp F0 G0 ps G) (hi : ps[i]? = some (OwnL 36 w (l.map UpdM.av))) (hx : x = (k : Int)) (hk : k ≤ l.length) :
    ∃ w', vslice T t_sl_api_Update w none (some (.int .i64 x)) none = some w' ∧ Sp F0 G0 (ps.set i (OwnL 36 w' ((l.take k).map UpdM.av))) G := by
  have ho := OwnL.own hs hi
  rcases ho with ⟨rfl, h⟩ | ⟨id, len, cap, cs, rfl, hg, hcap, hl, hu, hv⟩
  · have hl : l = [] := by simpa using h
    subst hl
    have hk0 : k = 0 := by simpa using hk
    subst hk0
    subst hx
    refine ⟨.nilSlice, rfl, ?_⟩
    refine hs.call hi (OwnL 36 .nilSlice (([] : List UpdM).map UpdM.av)) fun F h k => ?_
    exact k F G h (Ch.refl _ _)
  · have hlen : l.length = len := by
      have := congrArg List.length hv
      rw [List.length_map, List.length_take] at this
      omega
    refine ⟨.slice id [] 0 0 k cap, slice_to (i := ti_sl_api_Update) (ie := ti_api_Update) T_sl_api_Update rfl T_api_Update hx (by omega), ?_⟩
    refine hs.call hi (OwnL 36 (.slice id [] 0 0 k cap) ((l.take k).map UpdM.av)) fun F h kk => ?_
    obtain ⟨_, rfl⟩ := h
    refine kk _ G ⟨.inr ⟨id, k, cap, cs, rfl, hg, hcap, by omega, hu, ?_⟩, rfl⟩ (Ch.refl _ _)
    rw [List.map_take, hv, List.take_take, Nat.min_eq_left (by omega)]
theorem build_h2e {p q : List UInt8} (hp : p.length = 32) (hq : q.length = 32) : vbuild T t_ar2_api_Hash [(0, .agg (p.map u8v)), (1, .agg (q.map u8v))] = some (hash2V p q) := by
  refine (build_array (zs := [.agg (h0.map u8v), .agg (h0.map u8v)]) T_ar2_api_Hash rfl T_api_Hash rfl ?_ fun r hr => ?_).trans rfl
  · simp [Esc.uni, Esc.sz, szh h0_len, ti_api_Hash]
  · simp only [List.mem_cons, List.not_mem_nil, or_false] at hr
    rcases hr with rfl | rfl
    · exact szHash hp
    · exact szHash hq

set_option maxHeartbeats 8000000 in
theorem chg_applyG {f : StF} {r : RcM} {l : List UpdM} {v wo wp wh : AVal} {i1 : AId} {L3 L4 : LP} (hT : TabAny G0) (hr : r.ok) (hv : Leaf v) (hl : IsSl 36 G0 v (l.map UpdM.av)) (hok : ∀ u ∈ l, u.ok) (hlen : l.length ≤ 1000) (hk : kindK r) (ho : f.s.ok) (oko : ∀ u ∈ f.o, u.ok) (okp : ∀ u ∈ f.p, u.ok) (okh : ∀ x ∈ f.h, x.ok)
    (lo : f.o.length * 72 ≤ 140737488351232) (lp : f.p.length * 72 ≤ 140737488351232) (lh : f.h.length * 48 ≤ 140737488351232)
    (hs : Sp [] G0 [OwnL 34 wh (f.h.map SlotM.av), OwnL 36 wp (f.p.map UpdM.av), OwnL 36 wo (f.o.map UpdM.av), L3, L4, RowL i1 (f.s.av wo wp wh)] G)
    (hno : ∀ pt, putOk f.h r.index pt → (applyG f r l pt).2 = false → ∀ wp' X G', Sp [] G0 [OwnL 34 wh (f.h.map SlotM.av), OwnL 36 wp' X, OwnL 36 wo (f.o.map UpdM.av), L3, L4, RowL i1 (f.s.av wo wp wh)] G' → Q (.bool false) G')
    (hQ : ∀ pt, putOk f.h r.index pt → (applyG f r l pt).2 = true → ∀ wo' wp' wh' G', Sp [] G0 [OwnL 34 wh' ((applyG f r l pt).1.h.map SlotM.av), OwnL 36 wp' ((applyG f r l pt).1.p.map UpdM.av), OwnL 36 wo' ((applyG f r l pt).1.o.map UpdM.av), L3, L4, RowL i1 ((applyG f r l pt).1.s.av wo' wp' wh')] G' → Q (.bool true) G') :
    aInvoke cx (chgV r v) "escrow/record.apply" [.ptr i1 [] 0] G Q := by
  have lfo := (OwnL.own (i := 2) hs rfl).leaf
  have lfp := (OwnL.own (i := 1) hs rfl).leaf
  have lfh := (OwnL.own (i := 0) hs rfl).leaf
  have lv : Leaf wo ∧ Leaf wp ∧ Leaf wh := ⟨lfo, lfp, lfh⟩
  have any := putOk_any f.h r.index
  unfold chgV
  rcases hk with h | h | h | h | h | h
  · have e : ∀ pt, applyG f r l pt = if nextU f.o f.p r.upd = 0 then (⟨f.s, f.o ++ [r.upd], f.p, f.h⟩, true) else (f, false) := fun pt => by unfold applyG; rw [if_pos h]
    replace hno := hno _ any
    replace hQ := hQ _ any
    rw [e] at hno hQ
    rw [if_pos h]
    refine inv_record_ours_apply ?_
    refine record_ours_apply.sound ?_
    unfold record_ours_apply.S
    intro i2 f2
    have s2 := hs.row f2 (.agg [r.upd.av])
    refine wv_of (v := .ptr i1 [] 0) rfl ?_
    refine wv_of (v := .ptr i1 [4] 4) rfl ?_
    refine wv_of (St.ld_ours (RowL.own (i := 6) s2 rfl) ho lv) ?_
    refine wv_of (v := .ptr i1 [] 0) rfl ?_
    refine wv_of (v := .ptr i1 [5] 5) rfl ?_
    refine wv_of (St.ld_peers (RowL.own (i := 6) s2 rfl) ho lv) ?_
    refine wv_of (ow_ld hr.upd (RowL.own (i := 0) s2 rfl)) ?_
    refine update_Next.use (OwnL.own (i := 3) s2 rfl).is (OwnL.own (i := 2) s2 rfl).is oko okp (by omega) (by omega) hr.upd fun G11 c11 => ?_
    have s11 := s2.tmp c11
    rw [vbin_neq, wv_some, brB_ndec]
    refine ⟨fun h1 => ?_, fun h1 => ?_⟩
    · rw [if_neg h1] at hno
      exact hno rfl wp _ _ (s11.erase 0)
    · rw [if_pos h1] at hQ
      refine wv_of (v := .ptr i1 [] 0) rfl ?_
      refine wv_of (v := .ptr i1 [4] 4) rfl ?_
      refine wv_of (St.ld_ours (RowL.own (i := 6) s11 rfl) ho lv) ?_
      refine wv_of (ow_ld hr.upd (RowL.own (i := 0) s11 rfl)) ?_
      refine growV (T := T) (ts := t_sl_api_Update) (e := t_api_Update) (si := ti_sl_api_Update) (ie := ti_api_Update) (i := 3) (vs := f.o.map UpdM.av) T_sl_api_Update rfl T_api_Update rfl (by decide) s11 rfl (UpdM.sz hr.upd) (UpdM.okv _) (by decide) (by rw [List.length_map]; simp only [ti_api_Update]; omega) fun w' G20 s20 => ?_
      have lw' := (OwnL.own (i := 3) s20 rfl).leaf
      refine wv_of (v := .ptr i1 [] 0) rfl ?_
      refine wv_of (v := .ptr i1 [4] 4) rfl ?_
      refine St.st_ours (i := 6) s20 rfl ho lv lw' fun G23 s23 => ?_
      refine hQ rfl w' wp wh _ ?_
      have := s23.erase 0
      rw [List.map_append]
      exact this
  · have e : ∀ pt, applyG f r l pt = if signB f r then (f, false) else (⟨{ f.s with rem := r.index, sgnA := r.cntA, sgnB := r.cntB, behind := true }, f.o, f.p, f.h⟩, true) := fun pt => by unfold applyG; rw [if_neg (by omega), if_pos h]
    replace hno := hno _ any
    replace hQ := hQ _ any
    rw [e] at hno hQ
    rw [if_neg (by omega), if_pos h]
    refine inv_record_signed_apply ?_
    refine record_signed_apply.sound ?_
    unfold record_signed_apply.S
    intro i2 f2
    have s2 := hs.row f2 (.agg [.int .i64 r.index, pairW r.cntA r.cntB])
    revert s2
    generalize Heap.upd _ i2 _ = G2
    intro s2
    have hg := RowL.own (i := 6) s2 rfl
    obtain ⟨l0, l1, l2, l3⟩ := sg_ld (RowL.own (i := 0) s2 rfl)
    intro J47
    have bad : signB f r → J47 (.bool true) G2 := by
      intro hb
      rw [if_pos hb] at hno
      simp -zeta only [J47, brB_true]
      exact hno rfl wp _ _ (s2.erase 0)
    have good : ¬ signB f r → J47 (.bool false) G2 := by
      intro hb
      rw [if_neg hb] at hQ
      simp -zeta only [J47, brB_false]
      refine wv_of l0 ?_
      refine wv_of l1 ?_
      refine wv_of (v := .ptr i1 [] 0) rfl ?_
      refine wv_of (v := .ptr i1 [7] 7) rfl ?_
      refine St.st_rem (i := 6) s2 rfl ho lv _ fun G40 s40 => ?_
      have o1 : ({ f.s with rem := r.index } : StM).ok := ⟨ho.side, ho.cap, ho.bo, ho.bp, ho.loc, hr.index, ho.ack, ho.atA, ho.atB, ho.sgnA, ho.sgnB, ho.heldA, ho.heldB, ho.ptsA, ho.ptsB, ho.sig, ho.failed, ho.closed⟩
      refine ⟨⟨(sg_ld (RowL.own (i := 0) s40 rfl)).2.1, trivial⟩, ?_⟩
      refine wv_of (v := .ptr i1 [] 0) rfl ?_
      refine wv_of (v := .ptr i1 [10] 11) rfl ?_
      refine St.st_sgn (s := { f.s with rem := r.index }) (i := 6) s40 rfl o1 lv _ _ fun G43 s43 => ?_
      have o2 : ({ f.s with rem := r.index, sgnA := r.cntA, sgnB := r.cntB } : StM).ok := ⟨ho.side, ho.cap, ho.bo, ho.bp, ho.loc, hr.index, ho.ack, ho.atA, ho.atB, hr.cntA, hr.cntB, ho.heldA, ho.heldB, ho.ptsA, ho.ptsB, ho.sig, ho.failed, ho.closed⟩
      refine wv_of (v := .ptr i1 [] 0) rfl ?_
      refine wv_of (v := .ptr i1 [12] 15) rfl ?_
      refine St.st_behind (s := { f.s with rem := r.index, sgnA := r.cntA, sgnB := r.cntB }) (i := 6) s43 rfl o2 lv _ fun G46 s46 => ?_
      exact hQ rfl wo wp wh _ (s46.erase 0)
    refine wv_of (v := .ptr i1 [] 0) rfl ?_
    refine wv_of (v := .ptr i1 [7] 7) rfl ?_
    refine wv_of (St.ld_rem hg ho lv) ?_
    refine wv_of (v := .ptr i1 [] 0) rfl ?_
    refine wv_of (v := .ptr i1 [8] 8) rfl ?_
    refine wv_of (St.ld_ack hg ho lv) ?_
    rw [vbin_neq, wv_some, brB_ndec]
    refine ⟨fun h1 => bad (.inl h1), fun h1 => ?_⟩
    refine wv_of l0 ?_
    refine wv_of (v := .ptr i1 [] 0) rfl ?_
    refine wv_of (v := .ptr i1 [7] 7) rfl ?_
    refine wv_of (St.ld_rem hg ho lv) ?_
    rw [vbin_add, wv_some, vbin_neq, wv_some, brB_ndec]
    refine ⟨fun h2 => bad (.inr (.inl h2)), fun h2 => ?_⟩
    refine wv_of l3 ?_
    refine wv_of (v := .ptr i1 [] 0) rfl ?_
    refine wv_of (v := .ptr i1 [9] 9) rfl ?_
    refine wv_of (v := .ptr i1 [9, 1] 10) rfl ?_
    refine wv_of (St.ld_atB hg ho lv) ?_
    rw [vbin_neq, wv_some, brB_ndec]
    refine ⟨fun h3 => bad (.inr (.inr (.inl h3))), fun h3 => ?_⟩
    refine wv_of l2 ?_
    refine wv_of (v := .ptr i1 [] 0) rfl ?_
    refine wv_of (v := .ptr i1 [10] 11) rfl ?_
    refine wv_of (v := .ptr i1 [10, 0] 11) rfl ?_
    refine wv_of (St.ld_sgnA hg ho lv) ?_
    rw [vbin_lss, wv_some, brB_dec]
    refine ⟨fun h4 => bad (.inr (.inr (.inr (.inl h4)))), fun h4 => ?_⟩
    refine wv_of l2 ?_
    refine wv_of (v := .ptr i1 [] 0) rfl ?_
    refine wv_of (v := .ptr i1 [4] 4) rfl ?_
    refine wv_of (St.ld_ours hg ho lv) ?_
    refine wv_of (upd_len (OwnL.own (i := 3) s2 rfl).is) ?_
    rw [vbin_gtr, wv_some]
    by_cases h5 : (f.o.length : Nat) < r.cntA
    · rw [decide_eq_true (by omega)]; exact bad (.inr (.inr (.inr (.inr h5))))
    · rw [decide_eq_false (by omega)]
      exact good (by rintro (x | x | x | x | x); exact x h1; exact x h2; exact x h3; exact h4 x; exact h5 x)
  · have e : ∀ pt, applyG f r l pt = if cameB f r ∨ okC f.o (heldP f) l = false then (f, false) else (⟨{ f.s with loc := r.index, sig := r.sig, behind := false, atA := f.s.heldA, atB := ((heldP f ++ l).length : Nat) }, f.o, heldP f ++ l, f.h⟩, true) := fun pt => by unfold applyG; rw [if_neg (by omega), if_neg (by omega), if_pos h]
    replace hno := hno _ any
    replace hQ := hQ _ any
    rw [e] at hno hQ
    rw [if_neg (by omega), if_neg (by omega), if_pos h]
    refine inv_record_came_apply ?_
    refine record_came_apply.sound ?_
    unfold record_came_apply.S
    intro i2 f2
    have s2 := hs.row f2 (.agg [.int .i64 r.index, v, .agg (r.sig.map u8v)])
    revert s2
    generalize Heap.upd _ i2 _ = G2
    intro s2
    have hg := RowL.own (i := 6) s2 rfl
    obtain ⟨l0, l1, l2⟩ := cm_ld hv hr.sig (RowL.own (i := 0) s2 rfl)
    intro J87
    have bad : cameB f r → J87 (.bool true) G2 := by
      intro hb
      rw [if_pos (.inl hb)] at hno
      simp -zeta only [J87, brB_true]
      exact hno rfl wp _ _ (s2.erase 0)
    have good : ¬ cameB f r → J87 (.bool false) G2 := by
      intro hb
      simp -zeta only [J87, brB_false]
      have hb2 : 0 ≤ f.s.atB ∧ f.s.atB ≤ (f.p.length : Nat) := by
        unfold cameB at hb
        omega
      refine wv_of (v := .ptr i1 [] 0) rfl ?_
      refine wv_of (v := .ptr i1 [5] 5) rfl ?_
      refine wv_of (St.ld_peers hg ho lv) ?_
      refine wv_of (v := .ptr i1 [] 0) rfl ?_
      refine wv_of (v := .ptr i1 [9] 9) rfl ?_
      refine wv_of (v := .ptr i1 [9, 1] 10) rfl ?_
      refine wv_of (St.ld_atB hg ho lv) ?_
      obtain ⟨w0, e0, s3⟩ := own_cut (i := 2) (k := f.s.atB.toNat) (l := f.p) (x := f.s.atB) s2 rfl (by omega) (by omega)
      refine wv_of e0 ?_
      refine wv_of l1 ?_
      refine wv_of (upd_len (hl.ch' s3.ch)) ?_
      have hHl : (heldP f).length ≤ f.p.length := by unfold heldP; rw [List.length_take]; omega
      have hHo : ∀ u ∈ heldP f, u.ok := fun u hu => okp u (List.mem_of_mem_take hu)
      intro R hR
      have loop : ∀ (n j : Nat) (c : List UpdM) (w : AVal) (G' : Heap), l.length - j = n → j ≤ l.length → c = heldP f ++ l.take j → okC f.o c (l.drop j) = okC f.o (heldP f) l →
          Sp [] G0 [RowL i2 (.agg [.int .i64 r.index, v, .agg (r.sig.map u8v)]), OwnL 34 wh (f.h.map SlotM.av), OwnL 36 w (c.map UpdM.av), OwnL 36 wo (f.o.map UpdM.av), L3, L4, RowL i1 (f.s.av wo wp wh)] G' →
          R [.ptr i1 [] 0, .ptr i2 [] 0, w, v, .int .i64 (l.length : Nat), .int .i64 (j : Int)] G' := by
        intro n
        induction n with
        | zero =>
          intro j c w G' hn hj hc hC s
          have hjl : j = l.length := by omega
          subst hjl
          rw [List.take_length] at hc
          rw [List.drop_length] at hC
          have hC : okC f.o (heldP f) l = true := hC.symm
          rw [if_neg (by rw [hC]; simp [hb])] at hQ
          refine hR _ _ _ _ _ _ _ ?_
          rw [vbin_lss, wv_some, decide_eq_false (by omega), brB_false]
          have hgs := RowL.own (i := 6) s rfl
          have lw := (OwnL.own (i := 2) s rfl).leaf
          refine wv_of (v := .ptr i2 [0] 0) rfl ?_
          refine wv_of (cm_ld hv hr.sig (RowL.own (i := 0) s rfl)).1 ?_
          refine wv_of (v := .ptr i2 [2] 2) rfl ?_
          refine wv_of (cm_ld hv hr.sig (RowL.own (i := 0) s rfl)).2.2 ?_
          refine wv_of (v := .ptr i1 [] 0) rfl ?_
          refine wv_of (v := .ptr i1 [5] 5) rfl ?_
          refine St.st_peers (i := 6) s rfl ho lv lw fun G68 s68 => ?_
          have lv2 : Leaf wo ∧ Leaf w ∧ Leaf wh := ⟨lfo, lw, lfh⟩
          refine ⟨⟨(cm_ld hv hr.sig (RowL.own (i := 0) s68 rfl)).2.2, (cm_ld hv hr.sig (RowL.own (i := 0) s68 rfl)).1, trivial⟩, ?_⟩
          refine wv_of (v := .ptr i1 [] 0) rfl ?_
          refine wv_of (v := .ptr i1 [6] 6) rfl ?_
          refine St.st_loc (i := 6) s68 rfl ho lv2 _ fun G71 s71 => ?_
          have o1 : ({ f.s with loc := r.index } : StM).ok := ⟨ho.side, ho.cap, ho.bo, ho.bp, hr.index, ho.rem, ho.ack, ho.atA, ho.atB, ho.sgnA, ho.sgnB, ho.heldA, ho.heldB, ho.ptsA, ho.ptsB, ho.sig, ho.failed, ho.closed⟩
          refine ⟨⟨(cm_ld hv hr.sig (RowL.own (i := 0) s71 rfl)).2.2, trivial⟩, ?_⟩
          refine wv_of (v := .ptr i1 [] 0) rfl ?_
          refine wv_of (v := .ptr i1 [14] 80) rfl ?_
          refine St.st_sig (s := { f.s with loc := r.index }) (i := 6) s71 rfl o1 lv2 hr.sig fun G74 s74 => ?_
          have o2 : ({ f.s with loc := r.index, sig := r.sig } : StM).ok := ⟨ho.side, ho.cap, ho.bo, ho.bp, hr.index, ho.rem, ho.ack, ho.atA, ho.atB, ho.sgnA, ho.sgnB, ho.heldA, ho.heldB, ho.ptsA, ho.ptsB, hr.sig, ho.failed, ho.closed⟩
          refine wv_of (v := .ptr i1 [] 0) rfl ?_
          refine wv_of (v := .ptr i1 [12] 15) rfl ?_
          refine St.st_behind (s := { f.s with loc := r.index, sig := r.sig }) (i := 6) s74 rfl o2 lv2 _ fun G77 s77 => ?_
          have o3 : ({ f.s with loc := r.index, sig := r.sig, behind := false } : StM).ok := ⟨ho.side, ho.cap, ho.bo, ho.bp, hr.index, ho.rem, ho.ack, ho.atA, ho.atB, ho.sgnA, ho.sgnB, ho.heldA, ho.heldB, ho.ptsA, ho.ptsB, hr.sig, ho.failed, ho.closed⟩
          refine wv_of (v := .ptr i1 [] 0) rfl ?_
          refine wv_of (v := .ptr i1 [11] 13) rfl ?_
          refine wv_of (v := .ptr i1 [11, 0] 13) rfl ?_
          refine wv_of (St.ld_heldA (s := { f.s with loc := r.index, sig := r.sig, behind := false }) (RowL.own (i := 6) s77 rfl) o3 lv2) ?_
          refine wv_of (upd_len (OwnL.own (i := 2) s77 rfl).is) ?_
          refine wv_of (v := pairW f.s.heldA ((c.length : Nat) : Int)) rfl ?_
          refine wv_of (v := .ptr i1 [] 0) rfl ?_
          refine wv_of (v := .ptr i1 [9] 9) rfl ?_
          refine St.st_at (s := { f.s with loc := r.index, sig := r.sig, behind := false }) (i := 6) s77 rfl o3 lv2 _ _ fun G86 s86 => ?_
          rw [hc] at s86
          exact hQ rfl wo w wh _ (s86.erase 0)
        | succ n ih =>
          intro j c w G' hn hj hc hC s
          obtain ⟨u, hu⟩ : ∃ u, l[j]? = some u := ⟨_, List.getElem?_eq_getElem (by omega)⟩
          have huo := hok u (List.mem_of_getElem? hu)
          have hd : l.drop j = u :: l.drop (j + 1) := by
            obtain ⟨hj', e⟩ := List.getElem?_eq_some_iff.1 hu
            rw [List.drop_eq_getElem_cons hj', e]
          have hco : ∀ x ∈ c, x.ok := fun x hx => by
            rw [hc] at hx
            rcases List.mem_append.1 hx with hx | hx
            · exact hHo x hx
            · exact hok x (List.mem_of_mem_take hx)
          have hcl : c.length ≤ f.p.length + 1000 := by
            rw [hc, List.length_append, List.length_take]
            omega
          rw [hd] at hC
          refine hR _ _ _ _ _ _ _ ?_
          rw [vbin_lss, wv_some, decide_eq_true (by omega), brB_true]
          obtain ⟨p, p1, p2⟩ := upd_at (hl.ch' s.ch) hu
          refine wv_of p1 ?_
          refine wv_of p2 ?_
          refine newU s huo fun i46 G48 s48 => ?_
          have hgs := RowL.own (i := 7) s48 rfl
          refine wv_of (v := .ptr i1 [] 0) rfl ?_
          refine wv_of (v := .ptr i1 [4] 4) rfl ?_
          refine wv_of (St.ld_ours hgs ho lv) ?_
          refine wv_of (whole_load T_api_Update (RowL.own (i := 0) s48 rfl) (UpdM.fits huo)) ?_
          refine update_Next.use (OwnL.own (i := 3) s48 rfl).is (OwnL.own (i := 4) s48 rfl).is hco oko (by omega) (by omega) huo fun G54 c54 => ?_
          have s54 := s48.tmp c54
          rw [vbin_neq, wv_some, brB_ndec]
          refine ⟨fun h1 => ?_, fun h1 => ?_⟩
          · have hf : okC f.o (heldP f) l = false := by
              rw [← hC, okC, decide_eq_false h1, Bool.false_and]
            rw [if_pos (.inr hf)] at hno
            exact hno rfl w _ _ ((s54.erase 0).erase 0)
          · have hcs := nextU_small17 h1
            refine wv_of (whole_load T_api_Update (RowL.own (i := 0) s54 rfl) (UpdM.fits huo)) ?_
            refine growV (T := T) (ts := t_sl_api_Update) (e := t_api_Update) (si := ti_sl_api_Update) (ie := ti_api_Update) (i := 3) (vs := c.map UpdM.av) T_sl_api_Update rfl T_api_Update rfl (by decide) s54 rfl (UpdM.sz huo) (UpdM.okv _) (by decide) (by rw [List.length_map]; simp only [ti_api_Update]; omega) fun w' G60 s60 => ?_
            rw [vbin_add, i64_in (by omega) (by omega), wv_some]
            rw [okC, decide_eq_true h1, Bool.true_and] at hC
            refine ih (j + 1) (c ++ [u]) w' G60 (by omega) (by omega) ?_ hC ?_
            · rw [hc, List.take_add_one, hu, List.append_assoc]; rfl
            · have := s60.erase 0
              rw [List.map_append]
              exact this
      exact loop l.length 0 (heldP f) w0 G2 rfl (by omega) (by simp) (by simp) s3
    refine wv_of l0 ?_
    refine wv_of (v := .ptr i1 [] 0) rfl ?_
    refine wv_of (v := .ptr i1 [6] 6) rfl ?_
    refine wv_of (St.ld_loc hg ho lv) ?_
    rw [vbin_add, wv_some, vbin_neq, wv_some, brB_ndec]
    refine ⟨fun h1 => bad (.inl h1), fun h1 => ?_⟩
    refine wv_of (v := .ptr i1 [] 0) rfl ?_
    refine wv_of (v := .ptr i1 [9] 9) rfl ?_
    refine wv_of (v := .ptr i1 [9, 1] 10) rfl ?_
    refine wv_of (St.ld_atB hg ho lv) ?_
    rw [vbin_lss, wv_some, brB_dec]
    refine ⟨fun h2 => bad (.inr (.inl h2)), fun h2 => ?_⟩
    refine wv_of (v := .ptr i1 [] 0) rfl ?_
    refine wv_of (v := .ptr i1 [9] 9) rfl ?_
    refine wv_of (v := .ptr i1 [9, 1] 10) rfl ?_
    refine wv_of (St.ld_atB hg ho lv) ?_
    refine wv_of (v := .ptr i1 [] 0) rfl ?_
    refine wv_of (v := .ptr i1 [5] 5) rfl ?_
    refine wv_of (St.ld_peers hg ho lv) ?_
    refine wv_of (upd_len (OwnL.own (i := 2) s2 rfl).is) ?_
    rw [vbin_gtr, wv_some]
    by_cases h5 : (f.p.length : Nat) < f.s.atB
    · rw [decide_eq_true (by omega)]; exact bad (.inr (.inr h5))
    · rw [decide_eq_false (by omega)]
      exact good (by rintro (x | x | x); exact x h1; exact h2 x; exact h5 x)
  · have e : ∀ pt, applyG f r l pt = if revB f r then (f, false) else match pt with
        | none => (f, false)
        | some h => (⟨{ f.s with ack := IntKind.i64.wrap (f.s.ack + 1), heldA := f.s.sgnA, heldB := f.s.sgnB, ptsA := f.s.ptsB, ptsB := r.point }, f.o, f.p, h⟩, true) := fun pt => by unfold applyG; rw [if_neg (by omega), if_neg (by omega), if_neg (by omega), if_pos h]
    rw [if_neg (by omega), if_neg (by omega), if_neg (by omega), if_pos h]
    refine inv_record_revoked_apply ?_
    refine record_revoked_apply.sound ?_
    unfold record_revoked_apply.S
    intro i2 f2
    have s2 := hs.row f2 (.agg [.int .i64 r.index, .agg (r.secret.map u8v), .agg (r.point.map u8v)])
    revert s2
    generalize Heap.upd _ i2 _ = G2
    intro s2
    have hg := RowL.own (i := 6) s2 rfl
    obtain ⟨l0, l1, l2⟩ := rv_ld hr.secret hr.point (RowL.own (i := 0) s2 rfl)
    intro J53
    have bad : revB f r → J53 (.bool true) G2 := by
      intro hb
      simp -zeta only [J53, brB_true]
      refine hno _ any ?_ wp _ _ (s2.erase 0)
      rw [e, if_pos hb]
    have good : ¬ revB f r → J53 (.bool false) G2 := by
      intro hb
      simp -zeta only [J53, brB_false]
      refine wv_of (v := .ptr i1 [] 0) rfl ?_
      refine wv_of (v := .ptr i1 [15] 112) rfl ?_
      refine wv_of (St.ld_shelf hg ho lv) ?_
      refine wv_of l0 ?_
      refine wv_of l1 ?_
      refine shelf_Put.useA (hT.mono s2.ro) (OwnL.own (i := 1) s2 rfl).is okh lh hr.secret (fun hp e' G24 he c24 => ?_) (fun h' w G24 hp t24 => ?_)
      · refine wv_of (vtup0 _ _) ?_
        refine wv_of (vtup1 _ _) ?_
        rw [vbin_neq, wv_some, brB_ndec]
        refine ⟨fun _ => ?_, fun h => absurd h he⟩
        refine hno none hp ?_ wp _ _ ((s2.tmp c24).erase 0)
        rw [e, if_neg hb]
      · refine wv_of (vtup0 _ _) ?_
        refine wv_of (vtup1 _ _) ?_
        refine wv_of nz0 ?_
        rw [brB_false]
        obtain ⟨F24, o24, c24⟩ := t24.out
        have s24 := s2.new o24 c24
        have lw := (OwnL.own (i := 0) s24 rfl).leaf
        have lv2 : Leaf wo ∧ Leaf wp ∧ Leaf w := ⟨lfo, lfp, lw⟩
        have hg := RowL.own (i := 7) s24 rfl
        refine wv_of (v := .ptr i1 [] 0) rfl ?_
        refine wv_of (v := .ptr i1 [8] 8) rfl ?_
        refine wv_of (St.ld_ack hg ho lv) ?_
        rw [vbin_add, wv_some]
        refine wv_of (v := .ptr i1 [] 0) rfl ?_
        refine wv_of (v := .ptr i1 [10] 11) rfl ?_
        refine wv_of (St.ld_sgn hg ho lv) ?_
        refine wv_of (v := .ptr i1 [] 0) rfl ?_
        refine wv_of (v := .ptr i1 [15] 112) rfl ?_
        refine St.st_shelf (i := 7) s24 rfl ho lv lw fun G37 s37 => ?_
        refine wv_of (v := .ptr i1 [] 0) rfl ?_
        refine wv_of (v := .ptr i1 [8] 8) rfl ?_
        refine St.st_ack (i := 7) s37 rfl ho lv2 _ fun G40 s40 => ?_
        have hw : I64 (IntKind.i64.wrap (f.s.ack + 1)) := hw64 _
        have o1 : ({ f.s with ack := IntKind.i64.wrap (f.s.ack + 1) } : StM).ok := ⟨ho.side, ho.cap, ho.bo, ho.bp, ho.loc, ho.rem, hw, ho.atA, ho.atB, ho.sgnA, ho.sgnB, ho.heldA, ho.heldB, ho.ptsA, ho.ptsB, ho.sig, ho.failed, ho.closed⟩
        refine wv_of (v := .ptr i1 [] 0) rfl ?_
        refine wv_of (v := .ptr i1 [11] 13) rfl ?_
        refine St.st_held (s := { f.s with ack := IntKind.i64.wrap (f.s.ack + 1) }) (i := 7) s40 rfl o1 lv2 _ _ fun G43 s43 => ?_
        have o2 : ({ f.s with ack := IntKind.i64.wrap (f.s.ack + 1), heldA := f.s.sgnA, heldB := f.s.sgnB } : StM).ok := ⟨ho.side, ho.cap, ho.bo, ho.bp, ho.loc, ho.rem, hw, ho.atA, ho.atB, ho.sgnA, ho.sgnB, ho.sgnA, ho.sgnB, ho.ptsA, ho.ptsB, ho.sig, ho.failed, ho.closed⟩
        refine wv_of (v := .ptr i1 [] 0) rfl ?_
        refine wv_of (v := .ptr i1 [13] 16) rfl ?_
        refine wv_of (arrN_addr (j := 1) T_ar2_api_Hash rfl T_api_Hash rfl (by decide)) ?_
        refine wv_of (St.ld_ptsB (s := { f.s with ack := IntKind.i64.wrap (f.s.ack + 1), heldA := f.s.sgnA, heldB := f.s.sgnB }) (RowL.own (i := 7) s43 rfl) o2 lv2) ?_
        refine wv_of (rv_ld hr.secret hr.point (RowL.own (i := 1) s43 rfl)).2.2 ?_
        refine wv_of (build_h2e ho.ptsB hr.point) ?_
        refine wv_of (v := .ptr i1 [] 0) rfl ?_
        refine wv_of (v := .ptr i1 [13] 16) rfl ?_
        refine St.st_pts (s := { f.s with ack := IntKind.i64.wrap (f.s.ack + 1), heldA := f.s.sgnA, heldB := f.s.sgnB }) (i := 7) s43 rfl o2 lv2 ho.ptsB hr.point fun G52 s52 => ?_
        have hQ' := hQ (some h') hp
        rw [e, if_neg hb] at hQ'
        exact hQ' rfl wo wp w _ ((s52.erase 1).erase 1)
    refine wv_of (v := .ptr i1 [] 0) rfl ?_
    refine wv_of (v := .ptr i1 [7] 7) rfl ?_
    refine wv_of (St.ld_rem hg ho lv) ?_
    refine wv_of (v := .ptr i1 [] 0) rfl ?_
    refine wv_of (v := .ptr i1 [8] 8) rfl ?_
    refine wv_of (St.ld_ack hg ho lv) ?_
    rw [vbin_add, wv_some, vbin_neq, wv_some, brB_ndec]
    refine ⟨fun h1 => bad (.inl h1), fun h1 => ?_⟩
    refine wv_of l0 ?_
    refine wv_of (v := .ptr i1 [] 0) rfl ?_
    refine wv_of (v := .ptr i1 [8] 8) rfl ?_
    refine wv_of (St.ld_ack hg ho lv) ?_
    rw [vbin_neq, wv_some]
    by_cases h5 : r.index = f.s.ack
    · rw [decide_eq_true h5]
      exact good (by rintro (x | x); exact x h1; exact x h5)
    · rw [decide_eq_false h5]
      exact bad (.inr h5)
  · have e : ∀ pt, applyG f r l pt = ((if f.s.failed = 0 then ⟨{ f.s with failed := r.code }, f.o, f.p, f.h⟩ else f), true) := fun pt => by unfold applyG; rw [if_neg (by omega), if_neg (by omega), if_neg (by omega), if_neg (by omega), if_pos h]
    replace hQ := hQ _ any
    rw [e] at hQ
    rw [if_neg (by omega), if_neg (by omega), if_neg (by omega), if_neg (by omega), if_pos h]
    refine inv_record_failed_apply ?_
    refine record_failed_apply.sound ?_
    unfold record_failed_apply.S
    intro i2 f2
    have s2 := hs.row f2 (.agg [.int .i64 r.code])
    refine wv_of (v := .ptr i1 [] 0) rfl ?_
    refine wv_of (v := .ptr i1 [16] 113) rfl ?_
    refine wv_of (St.ld_failed (RowL.own (i := 6) s2 rfl) ho lv) ?_
    rw [vbin_eql, wv_some, brB_dec]
    refine ⟨fun h1 => ?_, fun h1 => ?_⟩
    · rw [if_pos h1] at hQ
      refine wv_of (fl_ld (RowL.own (i := 0) s2 rfl)) ?_
      refine wv_of (v := .ptr i1 [] 0) rfl ?_
      refine wv_of (v := .ptr i1 [16] 113) rfl ?_
      refine St.st_failed (i := 6) s2 rfl ho lv _ fun G10 s10 => ?_
      exact hQ rfl wo wp wh _ (s10.erase 0)
    · rw [if_neg h1] at hQ
      exact hQ rfl wo wp wh _ (s2.erase 0)
  · have e : ∀ pt, applyG f r l pt = if r.index ≠ f.s.loc then (f, false) else (⟨{ f.s with closed := r.index }, f.o, f.p, f.h⟩, true) := fun pt => by unfold applyG; rw [if_neg (by omega), if_neg (by omega), if_neg (by omega), if_neg (by omega), if_neg (by omega)]
    replace hno := hno _ any
    replace hQ := hQ _ any
    rw [e] at hno hQ
    rw [if_neg (by omega), if_neg (by omega), if_neg (by omega), if_neg (by omega), if_neg (by omega), if_pos h]
    refine inv_record_closed_apply ?_
    refine record_closed_apply.sound ?_
    unfold record_closed_apply.S
    intro i2 f2
    have s2 := hs.row f2 (.agg [.int .i64 r.index])
    refine wv_of (cl_ld (RowL.own (i := 0) s2 rfl)) ?_
    refine wv_of (v := .ptr i1 [] 0) rfl ?_
    refine wv_of (v := .ptr i1 [6] 6) rfl ?_
    refine wv_of (St.ld_loc (RowL.own (i := 6) s2 rfl) ho lv) ?_
    rw [vbin_neq, wv_some, brB_ndec]
    refine ⟨fun h1 => ?_, fun h1 => ?_⟩
    · rw [if_pos h1] at hno
      exact hno rfl wp _ _ (s2.erase 0)
    · rw [if_neg (by simp [h1])] at hQ
      refine wv_of (cl_ld (RowL.own (i := 0) s2 rfl)) ?_
      refine wv_of (v := .ptr i1 [] 0) rfl ?_
      refine wv_of (v := .ptr i1 [17] 114) rfl ?_
      refine St.st_closed (i := 6) s2 rfl ho lv _ fun G11 s11 => ?_
      exact hQ rfl wo wp wh _ (s11.erase 0)

end
end Go.Esc.M

/- Own work. Chapter 17: Apply of every record, whatever Go's table holds. -/
set_option linter.unusedSimpArgs false
set_option linter.unusedVariables false
set_option maxRecDepth 20000
namespace Go.Esc.M
open Go Go.Esc

/-- A state handed in: lists of any length. -/
structure StJ (G : Heap) (f : StF) (vo vp vh : AVal) : Prop where
  ok : f.s.ok
  o : IsSl 36 G vo (f.o.map UpdM.av)
  p : IsSl 36 G vp (f.p.map UpdM.av)
  h : IsSl 34 G vh (f.h.map SlotM.av)
  lv : Leaf vo ∧ Leaf vp ∧ Leaf vh
  oko : ∀ u ∈ f.o, u.ok
  okp : ∀ u ∈ f.p, u.ok
  okh : ∀ x ∈ f.h, x.ok
  lo : f.o.length * 72 ≤ 140737488351232
  lp : f.p.length * 72 ≤ 140737488351232
  lh : f.h.length * 48 ≤ 140737488351232
theorem StJ.mv {G G' : Heap} {E : List AId} {f : StF} {vo vp vh : AVal} (h : StJ G f vo vp vh) (hc : Ch [] G E G') : StJ G' f vo vp vh :=
  ⟨h.ok, h.o.ch' hc, h.p.ch' hc, h.h.ch' hc, h.lv, h.oko, h.okp, h.okh, h.lo, h.lp, h.lh⟩
def apG (f : StF) (r : RcM) (l : List UpdM) (pt : Option (List SlotM)) : Bool := validR r l && (applyG f r l pt).2

theorem validR_len {r : RcM} {l : List UpdM} (h : validR r l = true) : l.length ≤ 512 := by
  obtain ⟨_, hv, _, hl⟩ := valR_spec h
  unfold listK at hl
  split at hl
  · rename_i h3
    unfold validK at hv
    rw [if_neg (by omega), if_neg (by omega), if_pos h3] at hv
    simp only [Bool.and_eq_true, decide_eq_true_eq] at hv
    exact hv.2.1
  · rw [← hl]; simp
theorem applyG_ok {f : StF} {r : RcM} {l : List UpdM} {pt : Option (List SlotM)} (ho : f.s.ok) (hr : r.ok) (hl : l.length ≤ 512) (lp : f.p.length * 72 ≤ 140737488351232) : (applyG f r l pt).1.s.ok := by
  have hw : I64 (IntKind.i64.wrap (f.s.ack + 1)) := hw64 _
  have hH : (heldP f).length ≤ f.p.length := by unfold heldP; rw [List.length_take]; omega
  have hn : I64 (((heldP f ++ l).length : Nat) : Int) := by
    rw [List.length_append]
    exact i64_n _ (by omega) (by omega)
  unfold applyG
  split
  · split <;> exact ho
  split
  · split
    · exact ho
    · exact ⟨ho.side, ho.cap, ho.bo, ho.bp, ho.loc, hr.index, ho.ack, ho.atA, ho.atB, hr.cntA, hr.cntB, ho.heldA, ho.heldB, ho.ptsA, ho.ptsB, ho.sig, ho.failed, ho.closed⟩
  split
  · split
    · exact ho
    · exact ⟨ho.side, ho.cap, ho.bo, ho.bp, hr.index, ho.rem, ho.ack, ho.heldA, hn, ho.sgnA, ho.sgnB, ho.heldA, ho.heldB, ho.ptsA, ho.ptsB, hr.sig, ho.failed, ho.closed⟩
  split
  · split
    · exact ho
    · cases pt with
      | none => exact ho
      | some h => exact ⟨ho.side, ho.cap, ho.bo, ho.bp, ho.loc, ho.rem, hw, ho.atA, ho.atB, ho.sgnA, ho.sgnB, ho.sgnA, ho.sgnB, ho.ptsB, hr.point, ho.sig, ho.failed, ho.closed⟩
  split
  · show (if f.s.failed = 0 then _ else f : StF).s.ok
    split
    · exact ⟨ho.side, ho.cap, ho.bo, ho.bp, ho.loc, ho.rem, ho.ack, ho.atA, ho.atB, ho.sgnA, ho.sgnB, ho.heldA, ho.heldB, ho.ptsA, ho.ptsB, ho.sig, hr.code, ho.closed⟩
    · exact ho
  · split
    · exact ho
    · exact ⟨ho.side, ho.cap, ho.bo, ho.bp, ho.loc, ho.rem, ho.ack, ho.atA, ho.atB, ho.sgnA, ho.sgnB, ho.heldA, ho.heldB, ho.ptsA, ho.ptsB, ho.sig, ho.failed, hr.index⟩

section
variable {F0 : List AId} {G0 G : Heap} {ps : List LP} {Q : AVal → Heap → Prop}

theorem clone_updB.use {v : AVal} {l : List UpdM} (hl : IsSl 36 G v (l.map UpdM.av)) (hok : ∀ u ∈ l, u.ok) (hlen : l.length * 72 ≤ 140737488351232) (hQ : ∀ w G', Sp [] G [OwnL 36 w (l.map UpdM.av)] G' → Q w G') : ACalls P slices_Clone_escrow_api_Update_escrow_api_Update.n [v] G Q := by
  refine slices_Clone_escrow_api_Update_escrow_api_Update.sound ?_
  unfold slices_Clone_escrow_api_Update_escrow_api_Update.S
  rcases nil_test T_sl_api_Update rfl hl with ⟨rfl, h2, h3⟩ | h3
  · refine wv_of h3 ?_
    rw [brB_true]
    have s := (Sp.nil G).nilL 36
    rw [← h2] at s
    exact hQ _ _ s
  · refine wv_of h3 ?_
    rw [brB_false]
    refine buildL (T := T) (ts := t_sl_api_Update) (e := t_api_Update) (si := ti_sl_api_Update) (ie := ti_api_Update) (n := 0) (l := []) T_sl_api_Update rfl T_api_Update rfl rfl rfl rfl (by simp) (by decide) (Sp.nil G) fun v2 G3 s3 => ?_
    refine growL (T := T) (ts := t_sl_api_Update) (e := t_api_Update) (si := ti_sl_api_Update) (ie := ti_api_Update) (tx := t_sl_api_Update) (xi := ti_sl_api_Update) (i := 0) (vs := []) (xs := l.map UpdM.av) T_sl_api_Update rfl T_api_Update rfl (by decide) T_sl_api_Update (.inr ⟨_, rfl⟩) s3 rfl (hl.ch' s3.ch).elems (upds_uni hok).1 (upds_uni hok).2 (by rw [show ti_api_Update.bytes = 72 from rfl, List.length_map]; simp; omega) fun w G5 s5 => ?_
    exact hQ _ _ s5

set_option maxHeartbeats 4000000 in
theorem record_Apply.useG {f : StF} {r : RcM} {l : List UpdM} {v vo vp vh : AVal} (hT : TabAny G) (hS : StJ G f vo vp vh) (hr : r.ok) (hv : Leaf v) (hl : IsSl 36 G v (l.map UpdM.av)) (hok : ∀ u ∈ l, u.ok) (hlen : l.length ≤ 140737488351232)
    (hno : ∀ pt, putOk f.h r.index pt → apG f r l pt = false → ∀ G', Ch [] G [] G' → Q (.tuple [StM.zero.av .nilSlice .nilSlice .nilSlice, .int .i64 170]) G')
    (hQ : ∀ pt, putOk f.h r.index pt → apG f r l pt = true → ∀ wo wp wh G', Sp [] G [OwnL 34 wh ((applyG f r l pt).1.h.map SlotM.av), OwnL 36 wp ((applyG f r l pt).1.p.map UpdM.av), OwnL 36 wo ((applyG f r l pt).1.o.map UpdM.av)] G' → Q (.tuple [(applyG f r l pt).1.s.av wo wp wh, .int .i64 0]) G') : ACalls P record_Apply.n [f.s.av vo vp vh, r.av v] G Q := by
  have ho := hS.ok
  have lv := hS.lv
  refine record_Apply.sound ?_
  unfold record_Apply.S
  rw [zSta]
  unfold apG at hno hQ
  intro i1 f1
  have s1 := (Sp.nil G).row f1 (f.s.av vo vp vh)
  intro i3 f3
  have s3 := s1.row f3 (r.av v)
  intro i5 f5
  have s5 := s3.row f5 (StM.zero.av .nilSlice .nilSlice .nilSlice)
  revert s5
  generalize Heap.upd _ i5 _ = G6
  intro s5
  refine wv_of (Rc.ld (RowL.own (i := 1) s5 rfl) hr hv) ?_
  refine record_changed.use hr hv (hl.ch' s5.ch) hok hlen fun G9 c9 => ?_
  have s9 := s5.tmp c9
  have s9 : Sp [] G [RowL i5 (StM.zero.av .nilSlice .nilSlice .nilSlice), RowL i3 (r.av v), RowL i1 (f.s.av vo vp vh)] G9 := s9
  cases hval : validR r l with
  | false =>
    rw [hval] at hno
    refine wv_of nil_nil ?_
    rw [brB_true]
    refine wv_of (v := StM.zero.av .nilSlice .nilSlice .nilSlice) rfl ?_
    refine St.st (i := 0) s9 rfl StM.zero_ok lv0 StM.zero_ok lv0 fun G12 s12 => ?_
    refine wv_of (St.ld (RowL.own (i := 0) s12 rfl) StM.zero_ok lv0) ?_
    exact hno _ (putOk_any _ _) rfl _ s12.ch
  | true =>
  rw [hval] at hno hQ
  have hl5 := validR_len hval
  refine wv_of (nil_chg (kind_of (valR_spec hval).1)) ?_
  rw [brB_false]
  have hg := RowL.own (i := 2) s9 rfl
  refine wv_of (St.ld_ours hg ho lv) ?_
  refine wv_of (St.ld_peers hg ho lv) ?_
  refine wv_of (St.ld_shelf hg ho lv) ?_
  refine clone_updB.use (hS.o.ch' s9.ch) hS.oko hS.lo fun wo G18 t18 => ?_
  obtain ⟨F18, o18, c18⟩ := t18.out
  have s18 := s9.new o18 c18
  have hg := RowL.own (i := 3) s18 rfl
  refine ⟨⟨St.ld_shelf hg ho lv, St.ld_peers hg ho lv, trivial⟩, ?_⟩
  refine clone_updB.use (hS.p.ch' s18.ch) hS.okp hS.lp fun wp G20 t20 => ?_
  obtain ⟨F20, o20, c20⟩ := t20.out
  have s20 := s18.new o20 c20
  have hg := RowL.own (i := 4) s20 rfl
  refine ⟨⟨St.ld_shelf hg ho lv, trivial⟩, ?_⟩
  refine clone_slot.use (hS.h.ch' s20.ch) hS.okh hS.lh fun wh G22 t22 => ?_
  obtain ⟨F22, o22, c22⟩ := t22.out
  have s22 := s20.new o22 c22
  have lo := (OwnL.own (i := 2) s22 rfl).leaf
  have lp := (OwnL.own (i := 1) s22 rfl).leaf
  have lh := (OwnL.own (i := 0) s22 rfl).leaf
  refine St.st_ours (i := 5) s22 rfl ho lv lo fun G23 s23 => ?_
  refine St.st_peers (i := 5) s23 rfl ho ⟨lo, lv.2.1, lv.2.2⟩ lp fun G24 s24 => ?_
  refine St.st_shelf (i := 5) s24 rfl ho ⟨lo, lp, lv.2.2⟩ lh fun G25 s25 => ?_
  have s25 : Sp [] G [OwnL 34 wh (f.h.map SlotM.av), OwnL 36 wp (f.p.map UpdM.av), OwnL 36 wo (f.o.map UpdM.av), RowL i5 (StM.zero.av .nilSlice .nilSlice .nilSlice), RowL i3 (r.av v), RowL i1 (f.s.av wo wp wh)] G25 := s25
  refine chg_applyG hT hr hv hl hok (by omega) (kind_of (valR_spec hval).1) ho hS.oko hS.okp hS.okh hS.lo hS.lp hS.lh s25 (fun pt hp hap wp' X G27 s27 => ?_) (fun pt hp hap wo' wp' wh' G27 s27 => ?_)
  · rw [vun_not, wv_some, Bool.not_false, brB_true]
    refine wv_of (v := StM.zero.av .nilSlice .nilSlice .nilSlice) rfl ?_
    refine St.st (i := 3) s27 rfl StM.zero_ok lv0 StM.zero_ok lv0 fun G30 s30 => ?_
    refine wv_of (St.ld (RowL.own (i := 3) s30 rfl) StM.zero_ok lv0) ?_
    exact hno pt hp (by rw [hap]; rfl) _ s30.ch
  · have lo' := (OwnL.own (i := 2) s27 rfl).leaf
    have lp' := (OwnL.own (i := 1) s27 rfl).leaf
    have lh' := (OwnL.own (i := 0) s27 rfl).leaf
    have hso := applyG_ok (pt := pt) ho hr hl5 hS.lp
    rw [vun_not, wv_some, Bool.not_true, brB_false]
    refine wv_of (St.ld (RowL.own (i := 5) s27 rfl) hso ⟨lo', lp', lh'⟩) ?_
    refine St.st (i := 3) s27 rfl StM.zero_ok lv0 hso ⟨lo', lp', lh'⟩ fun G33 s33 => ?_
    refine wv_of (St.ld (RowL.own (i := 3) s33 rfl) hso ⟨lo', lp', lh'⟩) ?_
    exact hQ pt hp (by rw [hap]; rfl) wo' wp' wh' _ (((s33.erase 3).erase 3).erase 3)

end
end Go.Esc.M

/- Own work. Chapter 17: RecordApart. -/
set_option linter.unusedSimpArgs false
set_option linter.unusedVariables false
set_option maxRecDepth 20000
namespace Go.Esc.M
open Go Go.Esc

/-- What RecordApart has in memory: two states and the one handed in. -/
abbrev raL (i41 i32 i23 i17 : AId) (c : Int) (wo wp wh wo1 wp1 wh1 wo2 wp2 wh2 : AVal) (O P : List UpdM) (H : List SlotM) (o1 p1 : List UpdM) (h1 : List SlotM) (o2 p2 : List UpdM) (h2 : List SlotM) : List LP :=
  [RowL i41 ((sCA c).av wo2 wp2 wh2), OwnL 34 wh2 (h2.map SlotM.av), OwnL 36 wp2 (p2.map UpdM.av), OwnL 36 wo2 (o2.map UpdM.av), RowL i32 ((sCA c).av wo1 wp1 wh1), OwnL 34 wh1 (h1.map SlotM.av), OwnL 36 wp1 (p1.map UpdM.av), OwnL 36 wo1 (o1.map UpdM.av),
    RowL i23 ((r5A c).av .nilSlice), RowL i17 (s0A.av wo wp wh), OwnL 34 wh (H.map SlotM.av), OwnL 36 wp (P.map UpdM.av), OwnL 36 wo (O.map UpdM.av)]
theorem at_end {α : Type} (l : List α) (x : α) {n : Nat} (h : n = l.length) : (l ++ [x])[n]? = some x := by
  subst h
  rw [List.getElem?_append_right (Nat.le_refl _), Nat.sub_self]; rfl

section
variable {F0 : List AId} {G0 G : Heap} {ps : List LP} {Q : AVal → Heap → Prop}

theorem growU {v x : AVal} {l : List UpdM} {i : Nat} {u : UpdM} {K : AVal → Heap → Prop} (hs : Sp F0 G0 ps G) (hi : ps[i]? = some (OwnL 36 v (l.map UpdM.av))) (hu : u.ok) (hl : l.length * 72 ≤ 140737488351232) (hK : ∀ w G', Sp F0 G0 (ps.set i (OwnL 36 w ((l ++ [u]).map UpdM.av))) G' → K w G') :
    aBuildSlice T t_sl_api_Update 1 [(0, u.av)] G fun v2 G' => aAppend T G' t_sl_api_Update t_sl_api_Update v v2 K :=
  growV (T := T) (ts := t_sl_api_Update) (e := t_api_Update) (si := ti_sl_api_Update) (ie := ti_api_Update) (i := i) (vs := l.map UpdM.av) T_sl_api_Update rfl T_api_Update rfl (by decide) hs hi (UpdM.sz hu) (UpdM.okv _) (by decide) (by rw [List.length_map]; simp only [ti_api_Update]; omega) fun w G' s => hK w G' (by rw [List.map_append]; exact s)
theorem growS {v x : AVal} {l : List SlotM} {i : Nat} {u : SlotM} {K : AVal → Heap → Prop} (hs : Sp F0 G0 ps G) (hi : ps[i]? = some (OwnL 34 v (l.map SlotM.av))) (hu : u.ok) (hl : l.length * 48 ≤ 140737488351232) (hK : ∀ w G', Sp F0 G0 (ps.set i (OwnL 34 w ((l ++ [u]).map SlotM.av))) G' → K w G') :
    aBuildSlice T t_sl_api_Slot 1 [(0, u.av)] G fun v2 G' => aAppend T G' t_sl_api_Slot t_sl_api_Slot v v2 K :=
  growV (T := T) (ts := t_sl_api_Slot) (e := t_api_Slot) (si := ti_sl_api_Slot) (ie := ti_api_Slot) (i := i) (vs := l.map SlotM.av) T_sl_api_Slot rfl T_api_Slot rfl (by decide) hs hi (SlotM.sz hu) (SlotM.okv _) (by decide) (by rw [List.length_map]; simp only [ti_api_Slot]; omega) fun w G' s => hK w G' (by rw [List.map_append]; exact s)

set_option maxHeartbeats 16000000 in
theorem law_RecordApart {a b c d : AVal} {m1 m2 m3 m4 : Nat} (hT : TabAny G) (h1 : wt T G reachBytes 6 t_sl_api_Update a m1) (h2 : wt T G reachBytes 6 t_sl_api_Update b m2) (h3 : wt T G reachBytes 6 t_sl_api_Slot c m3) (h4 : wt T G reachBytes 6 t_int d m4) :
    ACalls P escrowlaw17_RecordApart.n [a, b, c, d] G fun v _ => v = .bool true := by
  obtain ⟨O, roO, okO, lO⟩ := wt_Upds h1
  obtain ⟨P, roP, okP, lP⟩ := wt_Upds h2
  obtain ⟨H, roH, okH, lH⟩ := wt_Slots h3
  obtain ⟨code, rfl, hcode, _⟩ := wt_int T_int rfl h4
  have hO : O.length * 72 ≤ 140737488351232 := lO
  have hP : P.length * 72 ≤ 140737488351232 := lP
  have hH : H.length * 48 ≤ 140737488351232 := lH
  clear lO lP lH
  have iO : ∀ {E : List AId} {G' : Heap}, Ch [] G E G' → IsSl 36 G' a (O.map UpdM.av) := fun h => roO.is.ch' h
  have iP : ∀ {E : List AId} {G' : Heap}, Ch [] G E G' → IsSl 36 G' b (P.map UpdM.av) := fun h => roP.is.ch' h
  have iH : ∀ {E : List AId} {G' : Heap}, Ch [] G E G' → IsSl 34 G' c (H.map SlotM.av) := fun h => roH.is.ch' h
  refine escrowlaw17_RecordApart.sound ?_
  unfold escrowlaw17_RecordApart.S
  refine escrowlaw17_head.use fun G2 c2 => ?_
  have s2 := (Sp.nil G).tmp c2
  rw [vun_not, wv_some, Bool.not_true, brB_false]
  have grow : ∀ {ps : List LP} {G1 : Heap} {x : AVal} {l : List UpdM} {K : AVal → Heap → Prop}, Sp [] G ps G1 → IsSl 36 G x (l.map UpdM.av) → (∀ u ∈ l, u.ok) → l.length * 72 ≤ 140737488351232 → (∀ w G2, Sp [] G (OwnL 36 w (l.map UpdM.av) :: ps) G2 → K w G2) → aBuildSlice T t_sl_api_Update 0 [] G1 fun v G2 => aAppend T G2 t_sl_api_Update t_sl_api_Update v x K := by
    intro ps G1 x l K s hx hok hlen hK
    refine buildL (T := T) (ts := t_sl_api_Update) (e := t_api_Update) (si := ti_sl_api_Update) (ie := ti_api_Update) (n := 0) (l := []) T_sl_api_Update rfl T_api_Update rfl rfl rfl rfl (by simp) (by decide) s fun v2 G3 s3 => ?_
    refine growL (T := T) (ts := t_sl_api_Update) (e := t_api_Update) (si := ti_sl_api_Update) (ie := ti_api_Update) (tx := t_sl_api_Update) (xi := ti_sl_api_Update) (i := 0) (vs := []) (xs := l.map UpdM.av) T_sl_api_Update rfl T_api_Update rfl (by decide) T_sl_api_Update (.inr ⟨_, rfl⟩) s3 rfl (hx.ch' s3.ch).elems (upds_uni hok).1 (upds_uni hok).2 (by rw [show ti_api_Update.bytes = 72 from rfl, List.length_map]; simp; omega) fun w G5 s5 => ?_
    exact hK w G5 s5
  refine grow s2 roO.is okO hO fun wo G7 s7 => ?_
  refine grow s7 roP.is okP hP fun wp G11 s11 => ?_
  refine buildL (T := T) (ts := t_sl_api_Slot) (e := t_api_Slot) (si := ti_sl_api_Slot) (ie := ti_api_Slot) (n := 0) (l := []) T_sl_api_Slot rfl T_api_Slot rfl rfl rfl rfl (by simp) (by decide) s11 fun v12 G13 s13 => ?_
  refine growL (T := T) (ts := t_sl_api_Slot) (e := t_api_Slot) (si := ti_sl_api_Slot) (ie := ti_api_Slot) (tx := t_sl_api_Slot) (xi := ti_sl_api_Slot) (i := 0) (vs := []) (xs := H.map SlotM.av) T_sl_api_Slot rfl T_api_Slot rfl (by decide) T_sl_api_Slot (.inr ⟨_, rfl⟩) s13 rfl (iH s13.ch).elems (uni_slots okH) (okvs_slots H) (by rw [show ti_api_Slot.bytes = 48 from rfl, List.length_map]; simp; omega) fun wh G15 s15 => ?_
  have s15 : Sp [] G [OwnL 34 wh (H.map SlotM.av), OwnL 36 wp (P.map UpdM.av), OwnL 36 wo (O.map UpdM.av)] G15 := s15
  have lh := (OwnL.own (i := 0) s15 rfl).leaf
  have lp := (OwnL.own (i := 1) s15 rfl).leaf
  have lo := (OwnL.own (i := 2) s15 rfl).leaf
  refine wv_of (build_s0 lo lp lh) ?_
  refine St.nw s15 s0A_ok ⟨lo, lp, lh⟩ fun i17 G19 s19 => ?_
  refine wv_of (and15 code) ?_
  rw [vbin_add, i64_in (by omega) (by omega), wv_some]
  obtain ⟨cd, hcd⟩ : ∃ cd, cd = 1 + code % 32768 := ⟨_, rfl⟩
  have hcd1 : 1 ≤ cd := by omega
  have hcd2 : cd ≤ 65535 := by omega
  rw [← hcd]
  have icd : I64 cd := i64_n cd (by omega) (by omega)
  have rok := r5A_ok icd
  have sok := sCA_ok icd
  refine wv_of (build_r5 cd) ?_
  refine Rc.nw s19 rok Leaf.nil fun i23 G25 s25 => ?_
  have s25 : Sp [] G [RowL i23 ((r5A cd).av .nilSlice), RowL i17 (s0A.av wo wp wh), OwnL 34 wh (H.map SlotM.av), OwnL 36 wp (P.map UpdM.av), OwnL 36 wo (O.map UpdM.av)] G25 := s25
  have l0 : Leaf wo ∧ Leaf wp ∧ Leaf wh := ⟨lo, lp, lh⟩
  have app : ∀ {ps : List LP} {G1 : Heap} {K : AVal → Heap → Prop} {j : Nat}, Sp [] G ps G1 → StJ G1 ⟨s0A, O, P, H⟩ wo wp wh → (∀ xo xp xh G2, Sp [] G (OwnL 34 xh (H.map SlotM.av) :: OwnL 36 xp (P.map UpdM.av) :: OwnL 36 xo (O.map UpdM.av) :: ps) G2 → K (.tuple [(sCA cd).av xo xp xh, .int .i64 0]) G2) →
      ACalls Go.Esc.M.P record_Apply.n [s0A.av wo wp wh, (r5A cd).av .nilSlice] G1 K := by
    intro ps G1 K j s hS hK
    have eA : ∀ pt, applyG ⟨s0A, O, P, H⟩ (r5A cd) [] pt = (⟨sCA cd, O, P, H⟩, true) := fun pt => by
      unfold applyG
      rw [if_neg (show ¬ (r5A cd).kind = 1 from (by decide : ¬ (5 : Int) = 1)), if_neg (show ¬ (r5A cd).kind = 2 from (by decide : ¬ (5 : Int) = 2)), if_neg (show ¬ (r5A cd).kind = 3 from (by decide : ¬ (5 : Int) = 3)), if_neg (show ¬ (r5A cd).kind = 4 from (by decide : ¬ (5 : Int) = 4)), if_pos (show (r5A cd).kind = 5 from rfl)]
      rfl
    have hval := r5_val hcd1 hcd2
    refine record_Apply.useG (f := ⟨s0A, O, P, H⟩) (l := []) (hT.mono s.ro) hS rok Leaf.nil (.inr ⟨rfl, rfl⟩) (by simp) (by simp) (fun pt hp h => ?_) fun pt hp h xo xp xh G2 t => ?_
    · unfold apG at h
      rw [hval, eA] at h
      cases h
    · rw [eA] at t ⊢
      exact hK xo xp xh G2 (sp_app17 s t)
  have inn : ∀ {ps : List LP} {G1 : Heap} {i j k : Nat}, Sp [] G ps G1 → ps[i]? = some (OwnL 36 wo (O.map UpdM.av)) → ps[j]? = some (OwnL 36 wp (P.map UpdM.av)) → ps[k]? = some (OwnL 34 wh (H.map SlotM.av)) → StJ G1 ⟨s0A, O, P, H⟩ wo wp wh := by
    intro ps G1 i j k s hi hj hk
    exact ⟨s0A_ok, (OwnL.own s hi).is, (OwnL.own s hj).is, (OwnL.own s hk).is, l0, okO, okP, okH, hO, hP, hH⟩
  refine wv_of (St.ld (RowL.own (i := 1) s25 rfl) s0A_ok l0) ?_
  refine wv_of (Rc.ld (RowL.own (i := 0) s25 rfl) rok Leaf.nil) ?_
  refine app (j := 0) s25 (inn (i := 4) (j := 3) (k := 2) s25 rfl rfl rfl) fun wo1 wp1 wh1 G29 s29 => ?_
  have l1 : Leaf wo1 ∧ Leaf wp1 ∧ Leaf wh1 := ⟨(OwnL.own (i := 2) s29 rfl).leaf, (OwnL.own (i := 1) s29 rfl).leaf, (OwnL.own (i := 0) s29 rfl).leaf⟩
  refine wv_of (tv0 _ _) ?_
  refine wv_of (tv1 _ _) ?_
  refine St.nw s29 sok l1 fun i32 G34 s34 => ?_
  refine wv_of (St.ld (RowL.own (i := 5) s34 rfl) s0A_ok l0) ?_
  refine wv_of (Rc.ld (RowL.own (i := 4) s34 rfl) rok Leaf.nil) ?_
  refine app (j := 0) s34 (inn (i := 8) (j := 7) (k := 6) s34 rfl rfl rfl) fun wo2 wp2 wh2 G38 s38 => ?_
  have l2 : Leaf wo2 ∧ Leaf wp2 ∧ Leaf wh2 := ⟨(OwnL.own (i := 2) s38 rfl).leaf, (OwnL.own (i := 1) s38 rfl).leaf, (OwnL.own (i := 0) s38 rfl).leaf⟩
  refine wv_of (tv0 _ _) ?_
  refine wv_of (tv1 _ _) ?_
  refine St.nw s38 sok l2 fun i41 G43 s43 => ?_
  have s43 : Sp [] G (raL i41 i32 i23 i17 cd wo wp wh wo1 wp1 wh1 wo2 wp2 wh2 O P H O P H O P H) G43 := s43
  intro J44 hJ44 J46 hJ46 J76
  refine wv_of nz0 ?_
  rw [brB_false]
  refine wv_of nz0 ?_
  rw [brB_false]
  refine wv_of (St.ld_ours (RowL.own (i := 4) s43 rfl) sok l1) ?_
  refine escrowlaw17_sameList.use (OwnL.own (i := 7) s43 rfl).is (iO s43.ch) okO okO (by omega) (by omega) ?_
  rw [decide_eq_true rfl, vun_not, wv_some, Bool.not_true, brB_false]
  refine wv_of (St.ld_peers (RowL.own (i := 4) s43 rfl) sok l1) ?_
  refine escrowlaw17_sameList.use (OwnL.own (i := 6) s43 rfl).is (iP s43.ch) okP okP (by omega) (by omega) ?_
  rw [decide_eq_true rfl, vun_not, wv_some, Bool.not_true, brB_false]
  refine wv_of (St.ld_ours (RowL.own (i := 0) s43 rfl) sok l2) ?_
  refine escrowlaw17_sameList.use (OwnL.own (i := 3) s43 rfl).is (iO s43.ch) okO okO (by omega) (by omega) ?_
  rw [decide_eq_true rfl, vun_not, wv_some, Bool.not_true, brB_false]
  refine wv_of (St.ld_peers (RowL.own (i := 0) s43 rfl) sok l2) ?_
  refine escrowlaw17_sameList.use (OwnL.own (i := 2) s43 rfl).is (iP s43.ch) okP okP (by omega) (by omega) ?_
  rw [decide_eq_true rfl, vun_not, wv_some, Bool.not_true, brB_false]
  refine wv_of (St.ld_shelf (RowL.own (i := 4) s43 rfl) sok l1) ?_
  refine wv_of (slots_len (OwnL.own (i := 5) s43 rfl).is) ?_
  refine wv_of (slots_len (iH s43.ch)) ?_
  refine wv_of nz0 ?_
  rw [brB_false]
  refine wv_of (St.ld_shelf (RowL.own (i := 0) s43 rfl) sok l2) ?_
  refine wv_of (slots_len (OwnL.own (i := 1) s43 rfl).is) ?_
  refine wv_of (slots_len (iH s43.ch)) ?_
  refine wv_of nz0 ?_
  simp -zeta only [J76]
  refine hJ46 _ _ _ _ _ _ _ _ ?_
  rw [brB_false]
  refine hJ44 _ _ _ _ _ _ _ ?_
  clear hJ44 hJ46 J46 J76
  have u1 : (mkU (-1)).ok := mkU_ok (i64_n (-1) (by decide) (by decide))
  have u2 : (mkU (-2)).ok := mkU_ok (i64_n (-2) (by decide) (by decide))
  have u4 : (mkU (-4)).ok := mkU_ok (i64_n (-4) (by decide) (by decide))
  have u5 : (mkU (-5)).ok := mkU_ok (i64_n (-5) (by decide) (by decide))
  have u7 : (mkU (-7)).ok := mkU_ok (i64_n (-7) (by decide) (by decide))
  have u8 : (mkU (-8)).ok := mkU_ok (i64_n (-8) (by decide) (by decide))
  intro J90 hJ90 R92 hR92
  have loop1 : ∀ (k j : Nat) (G' : Heap), O.length - j = k → j ≤ O.length → Sp [] G (raL i41 i32 i23 i17 cd wo wp wh wo1 wp1 wh1 wo2 wp2 wh2 O P H (List.replicate j (mkU (-1)) ++ O.drop j) P H O P H) G' →
      (∀ G', Sp [] G (raL i41 i32 i23 i17 cd wo wp wh wo1 wp1 wh1 wo2 wp2 wh2 O P H (List.replicate O.length (mkU (-1))) P H O P H) G' → J90 [a, b, c, .ptr i17 [] 0, .ptr i32 [] 0, .ptr i41 [] 0] G') →
      R92 [a, b, c, .ptr i17 [] 0, .ptr i32 [] 0, .ptr i41 [] 0, .int .i64 (j : Int)] G' := by
    intro k
    induction k with
    | zero =>
      intro j G' hk hj s hd
      have hjm : j = O.length := by omega
      refine hR92 _ _ _ _ _ _ _ _ ?_
      refine wv_of (St.ld_ours (RowL.own (i := 4) s rfl) sok l1) ?_
      refine wv_of (upd_len (OwnL.own (i := 7) s rfl).is) ?_
      rw [over_len hj, vbin_lss, wv_some, brB_dec]
      refine ⟨fun h => absurd h (by omega), fun _ => ?_⟩
      rw [hjm, over_all] at s
      exact hd G' s
    | succ k ih =>
      intro j G' hk hj s hd
      refine hR92 _ _ _ _ _ _ _ _ ?_
      refine wv_of (St.ld_ours (RowL.own (i := 4) s rfl) sok l1) ?_
      refine wv_of (upd_len (OwnL.own (i := 7) s rfl).is) ?_
      rw [over_len hj, vbin_lss, wv_some, brB_dec]
      refine ⟨fun _ => ?_, fun h => absurd (show (j : Int) < (O.length : Nat) by omega) h⟩
      refine wv_of (St.ld_ours (RowL.own (i := 4) s rfl) sok l1) ?_
      refine wv_of (build_mkU _) ?_
      obtain ⟨p, a1, a2⟩ := Sp.setL (T := T) (t := t_sl_api_Update) (e := t_api_Update) (i := ti_sl_api_Update) (ie := ti_api_Update) (j := 7) (q := j) (k := .i64) (c := (mkU (-1)).av) (vs := (List.replicate j (mkU (-1)) ++ O.drop j).map UpdM.av) T_sl_api_Update rfl T_api_Update s rfl rfl (by rw [List.length_map, over_len hj]; omega) (UpdM.sz u1) rfl (UpdM.okv _)
      refine wv_of a1 ?_
      refine a2 _ fun G80 s80 => ?_
      rw [vbin_add, i64_in (by omega) (by omega), wv_some]
      refine ih (j + 1) G80 (by omega) (by omega) ?_ hd
      rw [← List.map_set, set_next (by omega)] at s80
      exact s80
  refine loop1 O.length 0 G43 (by omega) (by omega) (by simpa using s43) fun G91 s91 => ?_
  clear loop1 hR92
  refine hJ90 _ _ _ _ _ _ _ ?_
  intro J115 hJ115 R117 hR117
  obtain ⟨o1, ho1⟩ : ∃ o1, o1 = List.replicate O.length (mkU (-1)) := ⟨_, rfl⟩
  rw [← ho1] at s91
  have loop2 : ∀ (k j : Nat) (G' : Heap), P.length - j = k → j ≤ P.length → Sp [] G (raL i41 i32 i23 i17 cd wo wp wh wo1 wp1 wh1 wo2 wp2 wh2 O P H o1 (List.replicate j (mkU (-2)) ++ P.drop j) H O P H) G' →
      (∀ G', Sp [] G (raL i41 i32 i23 i17 cd wo wp wh wo1 wp1 wh1 wo2 wp2 wh2 O P H o1 (List.replicate P.length (mkU (-2))) H O P H) G' → J115 [a, b, c, .ptr i17 [] 0, .ptr i32 [] 0, .ptr i41 [] 0] G') →
      R117 [a, b, c, .ptr i17 [] 0, .ptr i32 [] 0, .ptr i41 [] 0, .int .i64 (j : Int)] G' := by
    intro k
    induction k with
    | zero =>
      intro j G' hk hj s hd
      have hjm : j = P.length := by omega
      refine hR117 _ _ _ _ _ _ _ _ ?_
      refine wv_of (St.ld_peers (RowL.own (i := 4) s rfl) sok l1) ?_
      refine wv_of (upd_len (OwnL.own (i := 6) s rfl).is) ?_
      rw [over_len hj, vbin_lss, wv_some, brB_dec]
      refine ⟨fun h => absurd h (by omega), fun _ => ?_⟩
      rw [hjm, over_all] at s
      exact hd G' s
    | succ k ih =>
      intro j G' hk hj s hd
      refine hR117 _ _ _ _ _ _ _ _ ?_
      refine wv_of (St.ld_peers (RowL.own (i := 4) s rfl) sok l1) ?_
      refine wv_of (upd_len (OwnL.own (i := 6) s rfl).is) ?_
      rw [over_len hj, vbin_lss, wv_some, brB_dec]
      refine ⟨fun _ => ?_, fun h => absurd (show (j : Int) < (P.length : Nat) by omega) h⟩
      refine wv_of (St.ld_peers (RowL.own (i := 4) s rfl) sok l1) ?_
      refine wv_of (build_mkU _) ?_
      obtain ⟨p, a1, a2⟩ := Sp.setL (T := T) (t := t_sl_api_Update) (e := t_api_Update) (i := ti_sl_api_Update) (ie := ti_api_Update) (j := 6) (q := j) (k := .i64) (c := (mkU (-2)).av) (vs := (List.replicate j (mkU (-2)) ++ P.drop j).map UpdM.av) T_sl_api_Update rfl T_api_Update s rfl rfl (by rw [List.length_map, over_len hj]; omega) (UpdM.sz u2) rfl (UpdM.okv _)
      refine wv_of a1 ?_
      refine a2 _ fun G80 s80 => ?_
      rw [vbin_add, i64_in (by omega) (by omega), wv_some]
      refine ih (j + 1) G80 (by omega) (by omega) ?_ hd
      rw [← List.map_set, set_next (by omega)] at s80
      exact s80
  refine loop2 P.length 0 G91 (by omega) (by omega) (by simpa using s91) fun G116 s116 => ?_
  clear loop2 hR117
  refine hJ115 _ _ _ _ _ _ _ ?_
  intro J140 hJ140 R142 hR142
  obtain ⟨p1, hp1⟩ : ∃ p1, p1 = List.replicate P.length (mkU (-2)) := ⟨_, rfl⟩
  rw [← hp1] at s116
  have loop3 : ∀ (k j : Nat) (G' : Heap), H.length - j = k → j ≤ H.length → Sp [] G (raL i41 i32 i23 i17 cd wo wp wh wo1 wp1 wh1 wo2 wp2 wh2 O P H o1 p1 (List.replicate j (mkS (-3)) ++ H.drop j) O P H) G' →
      (∀ G', Sp [] G (raL i41 i32 i23 i17 cd wo wp wh wo1 wp1 wh1 wo2 wp2 wh2 O P H o1 p1 (List.replicate H.length (mkS (-3))) O P H) G' → J140 [a, b, c, .ptr i17 [] 0, .ptr i32 [] 0, .ptr i41 [] 0] G') →
      R142 [a, b, c, .ptr i17 [] 0, .ptr i32 [] 0, .ptr i41 [] 0, .int .i64 (j : Int)] G' := by
    intro k
    induction k with
    | zero =>
      intro j G' hk hj s hd
      have hjm : j = H.length := by omega
      refine hR142 _ _ _ _ _ _ _ _ ?_
      refine wv_of (St.ld_shelf (RowL.own (i := 4) s rfl) sok l1) ?_
      refine wv_of (slots_len (OwnL.own (i := 5) s rfl).is) ?_
      rw [over_len hj, vbin_lss, wv_some, brB_dec]
      refine ⟨fun h => absurd h (by omega), fun _ => ?_⟩
      rw [hjm, over_all] at s
      exact hd G' s
    | succ k ih =>
      intro j G' hk hj s hd
      refine hR142 _ _ _ _ _ _ _ _ ?_
      refine wv_of (St.ld_shelf (RowL.own (i := 4) s rfl) sok l1) ?_
      refine wv_of (slots_len (OwnL.own (i := 5) s rfl).is) ?_
      rw [over_len hj, vbin_lss, wv_some, brB_dec]
      refine ⟨fun _ => ?_, fun h => absurd (show (j : Int) < (H.length : Nat) by omega) h⟩
      refine wv_of (St.ld_shelf (RowL.own (i := 4) s rfl) sok l1) ?_
      refine wv_of (build_index _) ?_
      obtain ⟨p, a1, a2⟩ := Sp.setL (T := T) (t := t_sl_api_Slot) (e := t_api_Slot) (i := ti_sl_api_Slot) (ie := ti_api_Slot) (j := 5) (q := j) (k := .i64) (c := (mkS (-3)).av) (vs := (List.replicate j (mkS (-3)) ++ H.drop j).map SlotM.av) T_sl_api_Slot rfl T_api_Slot s rfl rfl (by rw [List.length_map, over_len hj]; omega) (SlotM.sz (mkS_ok _)) rfl (SlotM.okv _)
      refine wv_of a1 ?_
      refine a2 _ fun G80 s80 => ?_
      rw [vbin_add, i64_in (by omega) (by omega), wv_some]
      refine ih (j + 1) G80 (by omega) (by omega) ?_ hd
      rw [← List.map_set, set_next (by omega)] at s80
      exact s80
  refine loop3 H.length 0 G116 (by omega) (by omega) (by simpa using s116) fun G141 s141 => ?_
  clear loop3 hR142
  obtain ⟨h1, hh1⟩ : ∃ h1, h1 = List.replicate H.length (mkS (-3)) := ⟨_, rfl⟩
  rw [← hh1] at s141
  have lo1 : o1.length = O.length := by rw [ho1, List.length_replicate]
  have lp1 : p1.length = P.length := by rw [hp1, List.length_replicate]
  have lh1 : h1.length = H.length := by rw [hh1, List.length_replicate]
  refine hJ140 _ _ _ _ _ _ _ ?_
  refine wv_of (St.ld_ours (RowL.own (i := 4) s141 rfl) sok l1) ?_
  refine wv_of (build_mkU _) ?_
  refine growU (i := 7) (x := a) s141 rfl u4 (by omega) fun wo1' G170 s170 => ?_
  have k1 := (OwnL.own (i := 7) s170 rfl).leaf
  refine St.st_ours (i := 4) s170 rfl sok l1 k1 fun G171 s171 => ?_
  have l1 : Leaf wo1' ∧ Leaf wp1 ∧ Leaf wh1 := ⟨k1, l1.2⟩
  refine wv_of (St.ld_peers (RowL.own (i := 4) s171 rfl) sok l1) ?_
  refine wv_of (build_mkU _) ?_
  refine growU (i := 6) (x := a) s171 rfl u5 (by omega) fun wp1' G177 s177 => ?_
  have k2 := (OwnL.own (i := 6) s177 rfl).leaf
  refine St.st_peers (i := 4) s177 rfl sok l1 k2 fun G178 s178 => ?_
  have l1 : Leaf wo1' ∧ Leaf wp1' ∧ Leaf wh1 := ⟨k1, k2, l1.2.2⟩
  refine wv_of (St.ld_shelf (RowL.own (i := 4) s178 rfl) sok l1) ?_
  refine wv_of (build_index _) ?_
  refine growS (i := 5) (x := a) s178 rfl (mkS_ok (-6)) (by omega) fun wh1' G184 s184 => ?_
  have k3 := (OwnL.own (i := 5) s184 rfl).leaf
  refine St.st_shelf (i := 4) s184 rfl sok l1 k3 fun G185 s185 => ?_
  have l1 : Leaf wo1' ∧ Leaf wp1' ∧ Leaf wh1' := ⟨k1, k2, k3⟩
  refine wv_of (St.ld_ours (RowL.own (i := 0) s185 rfl) sok l2) ?_
  refine wv_of (build_mkU _) ?_
  refine growU (i := 3) (x := a) s185 rfl u7 (by omega) fun wo2' G191 s191 => ?_
  have k1 := (OwnL.own (i := 3) s191 rfl).leaf
  refine St.st_ours (i := 0) s191 rfl sok l2 k1 fun G192 s192 => ?_
  have l2 : Leaf wo2' ∧ Leaf wp2 ∧ Leaf wh2 := ⟨k1, l2.2⟩
  refine wv_of (St.ld_peers (RowL.own (i := 0) s192 rfl) sok l2) ?_
  refine wv_of (build_mkU _) ?_
  refine growU (i := 2) (x := a) s192 rfl u8 (by omega) fun wp2' G198 s198 => ?_
  have k2 := (OwnL.own (i := 2) s198 rfl).leaf
  refine St.st_peers (i := 0) s198 rfl sok l2 k2 fun G199 s199 => ?_
  have l2 : Leaf wo2' ∧ Leaf wp2' ∧ Leaf wh2 := ⟨k1, k2, l2.2.2⟩
  refine wv_of (St.ld_shelf (RowL.own (i := 0) s199 rfl) sok l2) ?_
  refine wv_of (build_index _) ?_
  refine growS (i := 1) (x := a) s199 rfl (mkS_ok (-9)) (by omega) fun wh2' G205 s205 => ?_
  have k3 := (OwnL.own (i := 1) s205 rfl).leaf
  refine St.st_shelf (i := 0) s205 rfl sok l2 k3 fun G206 s206 => ?_
  have l2 : Leaf wo2' ∧ Leaf wp2' ∧ Leaf wh2' := ⟨k1, k2, k3⟩
  have s206 : Sp [] G (raL i41 i32 i23 i17 cd wo wp wh wo1' wp1' wh1' wo2' wp2' wh2' O P H (o1 ++ [mkU (-4)]) (p1 ++ [mkU (-5)]) (h1 ++ [mkS (-6)]) (O ++ [mkU (-7)]) (P ++ [mkU (-8)]) (H ++ [mkS (-9)])) G206 := s206
  refine wv_of (upd_len (iO s206.ch)) ?_
  refine wv_of (upd_len (iP s206.ch)) ?_
  refine wv_of (slots_len (iH s206.ch)) ?_
  intro J210 hJ210 J212 hJ212 J246
  refine wv_of (St.ld_ours (RowL.own (i := 4) s206 rfl) sok l1) ?_
  obtain ⟨p, q, a1, a2, a3⟩ := upd_kindA (p := mkU (-4)) (OwnL.own (i := 7) s206 rfl).is (at_end _ _ lo1.symm)
  refine wv_of a1 ?_
  refine wv_of a2 ?_
  refine wv_of a3 ?_
  refine wv_of nz0 ?_
  rw [brB_false]
  refine wv_of (St.ld_peers (RowL.own (i := 4) s206 rfl) sok l1) ?_
  obtain ⟨p, q, a1, a2, a3⟩ := upd_kindA (p := mkU (-5)) (OwnL.own (i := 6) s206 rfl).is (at_end _ _ lp1.symm)
  refine wv_of a1 ?_
  refine wv_of a2 ?_
  refine wv_of a3 ?_
  refine wv_of nz0 ?_
  rw [brB_false]
  refine wv_of (St.ld_shelf (RowL.own (i := 4) s206 rfl) sok l1) ?_
  obtain ⟨p, q, a1, a2, a3⟩ := slot_index (s := mkS (-6)) (OwnL.own (i := 5) s206 rfl).is rfl (at_end _ _ lh1.symm)
  refine wv_of a1 ?_
  refine wv_of a2 ?_
  refine wv_of a3 ?_
  refine wv_of nz0 ?_
  rw [brB_false]
  refine wv_of (St.ld_ours (RowL.own (i := 0) s206 rfl) sok l2) ?_
  obtain ⟨p, q, a1, a2, a3⟩ := upd_kindA (p := mkU (-7)) (OwnL.own (i := 3) s206 rfl).is (at_end _ _ rfl)
  refine wv_of a1 ?_
  refine wv_of a2 ?_
  refine wv_of a3 ?_
  refine wv_of nz0 ?_
  rw [brB_false]
  refine wv_of (St.ld_peers (RowL.own (i := 0) s206 rfl) sok l2) ?_
  obtain ⟨p, q, a1, a2, a3⟩ := upd_kindA (p := mkU (-8)) (OwnL.own (i := 2) s206 rfl).is (at_end _ _ rfl)
  refine wv_of a1 ?_
  refine wv_of a2 ?_
  refine wv_of a3 ?_
  refine wv_of nz0 ?_
  rw [brB_false]
  refine wv_of (St.ld_shelf (RowL.own (i := 0) s206 rfl) sok l2) ?_
  obtain ⟨p, q, a1, a2, a3⟩ := slot_index (s := mkS (-9)) (OwnL.own (i := 1) s206 rfl).is rfl (at_end _ _ rfl)
  refine wv_of a1 ?_
  refine wv_of a2 ?_
  refine wv_of a3 ?_
  refine wv_of nz0 ?_
  simp -zeta only [J246]
  refine hJ212 _ _ _ _ _ _ _ _ _ _ _ ?_
  rw [brB_false]
  refine hJ210 _ _ _ _ _ _ _ _ _ _ ?_
  clear hJ210 hJ212 J212 J246
  intro J266 hJ266 R268 hR268
  have fin : J266 [a, b, .ptr i17 [] 0, .ptr i32 [] 0, .ptr i41 [] 0, .int .i64 (O.length : Nat), .int .i64 (P.length : Nat)] G206 := by
    refine hJ266 _ _ _ _ _ _ _ _ ?_
    intro J333 hJ333
    have good : ∀ {G2 : Heap}, J333 [.bool true] G2 := fun {G2} => hJ333 _ _ rfl
    refine wv_of (St.ld_ours (RowL.own (i := 0) s206 rfl) sok l2) ?_
    obtain ⟨x, x1, x2⟩ := CapSl.take (ie := ti_api_Update) (k := .i64) (m := O.length) T_sl_api_Update rfl T_api_Update (Own.capSl (OwnL.own (i := 3) s206 rfl)) rfl (by rw [List.length_map, List.length_append]; omega)
    refine wv_of x1 ?_
    rw [← List.map_take, List.take_left] at x2
    refine escrowlaw17_sameList.use x2.isSl (iO s206.ch) okO okO (by omega) (by omega) ?_
    rw [decide_eq_true rfl, brB_true]
    refine wv_of (St.ld_peers (RowL.own (i := 0) s206 rfl) sok l2) ?_
    obtain ⟨x, x1, x2⟩ := CapSl.take (ie := ti_api_Update) (k := .i64) (m := P.length) T_sl_api_Update rfl T_api_Update (Own.capSl (OwnL.own (i := 2) s206 rfl)) rfl (by rw [List.length_map, List.length_append]; omega)
    refine wv_of x1 ?_
    rw [← List.map_take, List.take_left] at x2
    refine escrowlaw17_sameList.use x2.isSl (iP s206.ch) okP okP (by omega) (by omega) ?_
    rw [decide_eq_true rfl, brB_true]
    refine wv_of (St.ld_ours (RowL.own (i := 9) s206 rfl) s0A_ok l0) ?_
    refine escrowlaw17_sameList.use (OwnL.own (i := 12) s206 rfl).is (iO s206.ch) okO okO (by omega) (by omega) ?_
    rw [decide_eq_true rfl, brB_true]
    refine wv_of (St.ld_peers (RowL.own (i := 9) s206 rfl) s0A_ok l0) ?_
    refine escrowlaw17_sameList.use (OwnL.own (i := 11) s206 rfl).is (iP s206.ch) okP okP (by omega) (by omega) ?_
    rw [decide_eq_true rfl, brB_true]
    have rest : wv (vbin T .eql t_int (.int .i64 (P.length : Nat)) (.int .i64 0)) fun v350 => brB (some v350)
        (ACalls Go.Esc.M.P escrowlaw17_readApart.n [.int .i64 (O.length : Nat)] G206 fun v351 G352 => J333 [v351] G352)
        (wv (vload T G206 t_sl_api_Update (.ptr i32 [5] 5)) fun v353 => wv (viaddr T t_sl_api_Update v353 (.int .i64 0)) fun v354 => wv (vfaddr T t_api_Update v354 0) fun v355 => wv (vload T G206 t_int v355) fun v356 => wv (vbin T .eql t_int v356 (.int .i64 (-2))) fun v357 => brB (some v357)
        (ACalls Go.Esc.M.P escrowlaw17_readApart.n [.int .i64 (O.length : Nat)] G206 fun v358 G359 => J333 [v358] G359)
        (J333 [.bool false] G206)) := by
      have rd : ACalls Go.Esc.M.P escrowlaw17_readApart.n [.int .i64 (O.length : Nat)] G206 fun v351 G352 => J333 [v351] G352 := escrowlaw17_readApart.use (by omega) fun G' _ => good
      rw [vbin_eql, wv_some, brB_dec]
      refine ⟨fun _ => rd, fun hne => ?_⟩
      refine wv_of (St.ld_peers (RowL.own (i := 4) s206 rfl) sok l1) ?_
      obtain ⟨p, q, a1, a2, a3⟩ := upd_kindA (j := 0) (p := mkU (-2)) (OwnL.own (i := 6) s206 rfl).is (by rw [List.getElem?_append_left (by omega), hp1, List.getElem?_replicate_of_lt (by omega)])
      refine wv_of a1 ?_
      refine wv_of a2 ?_
      refine wv_of a3 ?_
      refine wv_of nk ?_
      rw [brB_true]
      exact rd
    rw [vbin_eql, wv_some, brB_dec]
    refine ⟨fun _ => rest, fun hne => ?_⟩
    refine wv_of (St.ld_ours (RowL.own (i := 4) s206 rfl) sok l1) ?_
    obtain ⟨p, q, a1, a2, a3⟩ := upd_kindA (j := 0) (p := mkU (-1)) (OwnL.own (i := 7) s206 rfl).is (by rw [List.getElem?_append_left (by omega), ho1, List.getElem?_replicate_of_lt (by omega)])
    refine wv_of a1 ?_
    refine wv_of a2 ?_
    refine wv_of a3 ?_
    refine wv_of nk ?_
    rw [brB_true]
    exact rest
  have loop4 : ∀ (k j : Nat), H.length - j = k → j ≤ H.length → R268 [a, b, c, .ptr i17 [] 0, .ptr i32 [] 0, .ptr i41 [] 0, .int .i64 (O.length : Nat), .int .i64 (P.length : Nat), .int .i64 (H.length : Nat), .int .i64 (j : Int)] G206 := by
    intro k
    induction k with
    | zero =>
      intro j hk hj
      refine hR268 _ _ _ _ _ _ _ _ _ _ _ ?_
      rw [vbin_lss, wv_some, brB_dec]
      refine ⟨fun h => absurd h (by omega), fun _ => ?_⟩
      exact fin
    | succ k ih =>
      intro j hk hj
      obtain ⟨x, hx⟩ : ∃ x, H[j]? = some x := ⟨_, List.getElem?_eq_getElem (by omega)⟩
      have xo := okH x (List.mem_of_getElem? hx)
      refine hR268 _ _ _ _ _ _ _ _ _ _ _ ?_
      rw [vbin_lss, wv_some, brB_dec]
      refine ⟨fun _ => ?_, fun h => absurd (by omega) h⟩
      intro J281 hJ281 J283 hJ283
      have ne : ∀ {t : TypeId}, vbin T .neq t_api_Slot x.av x.av = some (.bool false) := fun {t} => by rw [slot_neq xo xo, decide_eq_true rfl]; rfl
      refine wv_of (St.ld_shelf (RowL.own (i := 0) s206 rfl) sok l2) ?_
      obtain ⟨p, p1, p2⟩ := slot_at (s := x) (OwnL.own (i := 1) s206 rfl).is (rfl : (j : Int) = (j : Int)) (by rw [List.getElem?_append_left (by omega)]; exact hx)
      refine wv_of p1 ?_
      refine wv_of p2 ?_
      obtain ⟨q, q1, q2⟩ := slot_at (s := x) (iH s206.ch) (rfl : (j : Int) = (j : Int)) hx
      refine wv_of q1 ?_
      refine wv_of q2 ?_
      refine wv_of (ne (t := 0)) ?_
      rw [brB_false]
      refine wv_of (St.ld_shelf (RowL.own (i := 9) s206 rfl) s0A_ok l0) ?_
      obtain ⟨p, p1, p2⟩ := slot_at (s := x) (OwnL.own (i := 10) s206 rfl).is (rfl : (j : Int) = (j : Int)) hx
      refine wv_of p1 ?_
      refine wv_of p2 ?_
      refine wv_of q1 ?_
      refine wv_of q2 ?_
      refine wv_of (ne (t := 0)) ?_
      rw [brB_false]
      refine wv_of (St.ld_shelf (RowL.own (i := 4) s206 rfl) sok l1) ?_
      obtain ⟨p, q, a1, a2, a3⟩ := slot_index (s := mkS (-3)) (OwnL.own (i := 5) s206 rfl).is (rfl : (j : Int) = (j : Int)) (by rw [List.getElem?_append_left (by omega), hh1, List.getElem?_replicate_of_lt (by omega)])
      refine wv_of a1 ?_
      refine wv_of a2 ?_
      refine wv_of a3 ?_
      refine wv_of nz0 ?_
      refine hJ283 _ _ _ _ _ _ _ _ _ _ _ _ ?_
      rw [brB_false]
      refine hJ281 _ _ _ _ _ _ _ _ _ _ _ ?_
      rw [vbin_add, i64_in (by omega) (by omega), wv_some]
      exact ih (j + 1) (by omega) (by omega)
  exact loop4 H.length 0 (by omega) (by omega)

end
end Go.Esc.M
