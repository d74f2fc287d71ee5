import Derived.Test.YtgpogcmcaknjiaaGreatDoorLNc
import Derived.Test.YtgpogcmcaknjiaaGreatDoorLRD
import Derived.Test.YtgpogcmcaknjiaaGreatDoorLSf
import Derived.Test.YtgpogcmcaknjiaaGreatDoorLFb
/- Own work. Chapter 15: beginnings; copies; the first answers; DanceRaw. -/
set_option linter.unusedSimpArgs false
set_option linter.unusedVariables false
set_option maxRecDepth 20000
namespace Go.Esc.M
open Go Go.Esc

def stZ : List AVal := StM.zero.cs .nilSlice .nilSlice .nilSlice
theorem build_st {parts : List (Nat × AVal)} {r : StM} {a b c : AVal} (hs : ∀ p ∈ parts, stZ[p.1]?.map Esc.sz = some (Esc.sz p.2)) (he : setParts stZ parts = r.cs a b c) : vbuild T t_api_State parts = some (r.av a b c) := by
  refine (build_struct (zs := stZ) T_api_State rfl rfl rfl (plOk_of rfl) hs).trans ?_
  rw [he]; rfl
theorem sz_hash2 {a b c d : List UInt8} (ha : a.length = 32) (hb : b.length = 32) (hc : c.length = 32) (hd : d.length = 32) : some (Esc.sz (hash2V a b)) = some (Esc.sz (hash2V c d)) := by
  simp [hash2V, Esc.sz, szs, szh ha, szh hb, szh hc, szh hd]
theorem build_start {a b c d : Int} {x y : List UInt8} (hx : x.length = 32) (hy : y.length = 32) : vbuild T t_api_State [(0, .int .i64 a), (1, .int .i64 b), (2, .int .i64 c), (3, .int .i64 d), (13, hash2V x y), (17, .int .i64 (-1))] = some (({ StM.zero with side := a, cap := b, bo := c, bp := d, ptsA := x, ptsB := y, closed := -1 } : StM).av .nilSlice .nilSlice .nilSlice) := by
  refine build_st (fun p hp => ?_) rfl
  simp only [List.mem_cons, List.not_mem_nil, or_false] at hp
  rcases hp with rfl | rfl | rfl | rfl | rfl | rfl
  · rfl
  · rfl
  · rfl
  · rfl
  · exact sz_hash2 h0_len h0_len hx hy
  · rfl
theorem startS_ok {c : CfM} (h : c.ok) : (startS c).1.ok := by
  unfold startS
  by_cases hb : startB c
  · rw [if_pos hb]; exact StM.zero_ok
  · rw [if_neg hb]
    have h1 : ¬ right c.cap = false := fun hh => hb (.inr (.inr (.inr (.inl hh))))
    have h2 : right c.cap = true := by simpa using h1
    have h3 := right_spec.1 h2
    have h4 : ¬ c.ours < 0 := fun hh => hb (.inr (.inr (.inr (.inr (.inl hh)))))
    have h5 : ¬ c.cap < c.ours := fun hh => hb (.inr (.inr (.inr (.inr (.inr hh)))))
    exact ⟨h.side, h.cap, h.ours, i64_n (c.cap - c.ours) (by omega) (by omega), i64_0, i64_0, i64_0, i64_0, i64_0, i64_0, i64_0, i64_0, i64_0, h.ptsA, h.ptsB, rfl, i64_0, i64_n (-1) (by decide) (by decide)⟩

section
variable {F0 : List AId} {G0 G : Heap} {ps : List LP} {Q : AVal → Heap → Prop}

set_option maxHeartbeats 2000000 in
theorem dance_Start.use {c : CfM} (hc : c.ok) (hQ : ∀ G', Ch [] G [] G' → Q (.tuple [(startS c).1.av .nilSlice .nilSlice .nilSlice, .int .i64 (startS c).2]) G') : ACalls P dance_Start.n [c.av] G Q := by
  refine dance_Start.sound ?_
  unfold dance_Start.S
  rw [zSta]
  have hok := startS_ok hc
  intro i1 f1
  have s1 := (Sp.nil G).row f1 c.av
  intro i3 f3
  have s3 := s1.row f3 (StM.zero.av .nilSlice .nilSlice .nilSlice)
  revert s3
  generalize Heap.upd _ i3 _ = G4
  intro s3
  have hg := RowL.own (i := 1) s3 rfl
  intro J35
  have bad : startB c → J35 (.bool true) G4 := by
    intro hb
    unfold startS at hQ
    rw [if_pos hb] at hQ
    simp -zeta only [J35, brB_true]
    refine wv_of (v := StM.zero.av .nilSlice .nilSlice .nilSlice) rfl ?_
    refine St.st (i := 0) s3 rfl StM.zero_ok lv0 StM.zero_ok lv0 fun G23 s23 => ?_
    refine wv_of (St.ld (RowL.own (i := 0) s23 rfl) StM.zero_ok lv0) ?_
    exact hQ _ s23.ch
  have good : ¬ startB c → J35 (.bool false) G4 := by
    intro hb
    have h2 : right c.cap = true := by
      have h1 : ¬ right c.cap = false := fun hh => hb (.inr (.inr (.inr (.inl hh))))
      simpa using h1
    have h3 := right_spec.1 h2
    have h4 : ¬ c.ours < 0 := fun hh => hb (.inr (.inr (.inr (.inr (.inl hh)))))
    have h5 : ¬ c.cap < c.ours := fun hh => hb (.inr (.inr (.inr (.inr (.inr hh)))))
    unfold startS at hQ hok
    rw [if_neg hb] at hQ hok
    simp -zeta only [J35, brB_false]
    refine wv_of (Cf.ld_side hg hc) ?_
    refine wv_of (Cf.ld_cap hg hc) ?_
    refine wv_of (Cf.ld_ours hg hc) ?_
    refine wv_of (Cf.ld_cap hg hc) ?_
    refine wv_of (Cf.ld_ours hg hc) ?_
    rw [vbin_sub, i64_in (by omega) (by omega), wv_some]
    refine wv_of (Cf.ld_pts hg hc) ?_
    refine wv_of (build_start hc.ptsA hc.ptsB) ?_
    refine St.st (i := 0) s3 rfl StM.zero_ok lv0 hok lv0 fun G33 s33 => ?_
    refine wv_of (St.ld (RowL.own (i := 0) s33 rfl) hok lv0) ?_
    exact hQ _ s33.ch
  refine wv_of (Cf.ld_side hg hc) ?_
  rw [vbin_lss, wv_some, brB_dec]
  refine ⟨fun h => bad (.inl h), fun h1 => ?_⟩
  refine wv_of (Cf.ld_side hg hc) ?_
  rw [vbin_gtr, wv_some, brB_dec]
  refine ⟨fun h => bad (.inr (.inl h)), fun h2 => ?_⟩
  refine wv_of (Cf.ld_cap hg hc) ?_
  rw [vbin_lss, wv_some, brB_dec]
  refine ⟨fun h => bad (.inr (.inr (.inl h))), fun h3 => ?_⟩
  refine wv_of (Cf.ld_cap hg hc) ?_
  refine amount_Right.use ?_
  rw [vun_not, wv_some]
  cases h4 : right c.cap with
  | false => exact bad (.inr (.inr (.inr (.inl h4))))
  | true =>
    rw [Bool.not_true, brB_false]
    refine wv_of (Cf.ld_ours hg hc) ?_
    rw [vbin_lss, wv_some, brB_dec]
    refine ⟨fun h => bad (.inr (.inr (.inr (.inr (.inl h))))), fun h5 => ?_⟩
    refine wv_of (Cf.ld_ours hg hc) ?_
    refine wv_of (Cf.ld_cap hg hc) ?_
    rw [vbin_gtr, wv_some]
    by_cases h6 : c.cap < c.ours
    · rw [decide_eq_true h6]
      exact bad (.inr (.inr (.inr (.inr (.inr h6)))))
    · rw [decide_eq_false h6]
      exact good (by rintro (h | h | h | h | h | h); exact h1 h; exact h2 h; exact h3 h; (rw [h4] at h; cases h); exact h5 h; exact h6 h)

theorem escrowlaw15_Copy.use {f : StF} {vo vp vh : AVal} (hS : StIn G f vo vp vh) (hQ : ∀ wo wp wh G', Sp [] G [OwnL 34 wh (f.h.map SlotM.av), OwnL 36 wp (f.p.map UpdM.av), OwnL 36 wo (f.o.map UpdM.av)] G' → Q (f.s.av wo wp wh) G') : ACalls P escrowlaw15_Copy.n [f.s.av vo vp vh] G Q := by
  have ho := hS.ok
  have hl := hS.lv
  have hlo := hS.lo
  have hlp := hS.lp
  have hlh := hS.lh
  refine escrowlaw15_Copy.sound ?_
  unfold escrowlaw15_Copy.S
  rw [zSta]
  intro i1 f1
  have s1 := (Sp.nil G).row f1 (f.s.av vo vp vh)
  intro i3 f3
  have s3 := s1.row f3 (StM.zero.av .nilSlice .nilSlice .nilSlice)
  revert s3
  generalize Heap.upd _ i3 _ = G4
  intro s3
  refine wv_of (St.ld_ours (RowL.own (i := 1) s3 rfl) ho hl) ?_
  have grow : ∀ {ps : List LP} {G1 : Heap} {x : AVal} {l : List UpdM} {K : AVal → Heap → Prop}, Sp [] G ps G1 → IsSl 36 G x (l.map UpdM.av) → (∀ u ∈ l, u.ok) → l.length ≤ 1048576 → (∀ w G2, Sp [] G (OwnL 36 w (l.map UpdM.av) :: ps) G2 → K w G2) → aAppend T G1 t_sl_api_Update t_sl_api_Update .nilSlice x K := by
    intro ps G1 x l K s hx hok hlen hK
    refine growL (T := T) (ts := t_sl_api_Update) (e := t_api_Update) (si := ti_sl_api_Update) (ie := ti_api_Update) (tx := t_sl_api_Update) (xi := ti_sl_api_Update) (i := 0) (vs := []) (xs := l.map UpdM.av) T_sl_api_Update rfl T_api_Update rfl (by decide) T_sl_api_Update (.inr ⟨_, rfl⟩) (s.nilL 36) rfl (hx.ch' s.ch).elems (upds_uni hok).1 (upds_uni hok).2 (by rw [show ti_api_Update.bytes = 72 from rfl, List.length_map]; simp; omega) fun w G5 s5 => ?_
    exact hK w G5 s5
  refine grow s3 hS.o.isSl hS.oko hS.lo fun wo G7 s7 => ?_
  have lo : Leaf wo := (OwnL.own (i := 0) s7 rfl).leaf
  refine St.st_ours (i := 2) s7 rfl ho hl lo fun G8 s8 => ?_
  refine wv_of (St.ld_peers (RowL.own (i := 2) s8 rfl) ho ⟨lo, hl.2.1, hl.2.2⟩) ?_
  refine grow s8 hS.p.isSl hS.okp hS.lp fun wp G11 s11 => ?_
  have lp : Leaf wp := (OwnL.own (i := 0) s11 rfl).leaf
  refine St.st_peers (i := 3) s11 rfl ho ⟨lo, hl.2.1, hl.2.2⟩ lp fun G12 s12 => ?_
  refine wv_of (St.ld_shelf (RowL.own (i := 3) s12 rfl) ho ⟨lo, lp, hl.2.2⟩) ?_
  refine growL (T := T) (ts := t_sl_api_Slot) (e := t_api_Slot) (si := ti_sl_api_Slot) (ie := ti_api_Slot) (tx := t_sl_api_Slot) (xi := ti_sl_api_Slot) (i := 0) (vs := []) (xs := f.h.map SlotM.av) T_sl_api_Slot rfl T_api_Slot rfl (by decide) T_sl_api_Slot (.inr ⟨_, rfl⟩) (s12.nilL 34) rfl (hS.h.isSl.ch' s12.ch).elems (uni_slots hS.okh) (okvs_slots f.h) (by rw [show ti_api_Slot.bytes = 48 from rfl, List.length_map]; simp; omega) fun wh G15 s15 => ?_
  have lh : Leaf wh := (OwnL.own (i := 0) s15 rfl).leaf
  refine St.st_shelf (i := 4) s15 rfl ho ⟨lo, lp, hl.2.2⟩ lh fun G16 s16 => ?_
  refine wv_of (St.ld (RowL.own (i := 4) s16 rfl) ho ⟨lo, lp, lh⟩) ?_
  refine St.st (i := 3) s16 rfl StM.zero_ok lv0 ho ⟨lo, lp, lh⟩ fun G18 s18 => ?_
  refine wv_of (St.ld (RowL.own (i := 3) s18 rfl) ho ⟨lo, lp, lh⟩) ?_
  exact hQ wo wp wh G18 ((s18.erase 3).erase 3)

/-- What a copy is. -/
theorem StIn.copy {f : StF} {vo vp vh wo wp wh : AVal} {G1 : Heap} {i j k : Nat} (hS : StIn G f vo vp vh) (s : Sp F0 G0 ps G1) (ho : ps[i]? = some (OwnL 36 wo (f.o.map UpdM.av))) (hp : ps[j]? = some (OwnL 36 wp (f.p.map UpdM.av))) (hh : ps[k]? = some (OwnL 34 wh (f.h.map SlotM.av))) : StIn G1 f wo wp wh :=
  ⟨hS.ok, Own.capSl (OwnL.own s ho), Own.capSl (OwnL.own s hp), Own.capSl (OwnL.own s hh), hS.oko, hS.okp, hS.okh, hS.lo, hS.lp, hS.lh⟩

def pointS (s : List UInt8) (n : Int) : List UInt8 := sha (secretS s n).1
theorem pointS_len (s : List UInt8) (n : Int) : (pointS s n).length = 32 := length_sha' _
theorem escrowlaw15_Point.use {s : List UInt8} {n : Int} (hs : s.length = 32) (hQ : ∀ G', Ch [] G [] G' → Q (.agg ((pointS s n).map u8v)) G') : ACalls P escrowlaw15_Point.n [.agg (s.map u8v), .int .i64 n] G Q := by
  refine escrowlaw15_Point.sound ?_
  unfold escrowlaw15_Point.S
  rw [z_hash]
  intro i1 f1
  have s1 := (Sp.nil G).row f1 (.agg (s.map u8v))
  intro i3 f3
  have s3 := s1.row f3 (.agg ((List.replicate 32 (0 : UInt8)).map u8v))
  rw [← z_hash]
  refine wv_of (load_hash hs (RowL.own (i := 1) s3 rfl)) ?_
  refine escrowref09_Secret.use hs fun G7 c7 => ?_
  have s7 := s3.tmp c7
  have hx := secretS_len hs n
  refine wv_of (hi0 _) ?_
  refine wv_of (hi1 _) ?_
  refine newHash s7 hx fun i10 G12 s12 => ?_
  refine wv_of (load_hash hx (RowL.own (i := 0) s12 rfl)) ?_
  refine escrowref09_Point.use hx fun G15 c15 => ?_
  have s15 := s12.tmp c15
  have hz : (sha (secretS s n).1).length = 32 := length_sha' _
  refine hash_store (i := 1) s15 rfl (by simp) hz fun G16 s16 => ?_
  refine wv_of (load_hash hz (RowL.own (i := 1) s16 rfl)) ?_
  exact hQ _ s16.ch

def cf2V (a b : CfM) : AVal := .agg [a.av, b.av]
def CfM.zero : CfM := ⟨0, 0, 0, h0, h0, h0, h0, h0, 0⟩
theorem CfM.zero_ok : CfM.zero.ok := ⟨i64_0, i64_0, i64_0, rfl, rfl, rfl, rfl, rfl, i64_0⟩
def cfZ : List AVal := CfM.zero.cs
theorem cf2_szl {a b : CfM} (ha : a.ok) (hb : b.ok) : [a.av, b.av].map Esc.sz = [164, 164] := by simp [CfM.sz ha, CfM.sz hb]
theorem cf2_fits {a b : CfM} (ha : a.ok) (hb : b.ok) : vfits ti_ar2_api_Config (cf2V a b) = true := by
  simp [vfits, cf2V, Esc.sz, szs, CfM.sz ha, CfM.sz hb, ti_ar2_api_Config, AVal.isAgg, ADesc.isAgg]
theorem cf2_sz {a b : CfM} (ha : a.ok) (hb : b.ok) : Esc.sz (cf2V a b) = 328 := by simp [cf2V, Esc.sz, szs, CfM.sz ha, CfM.sz hb]
theorem cf2_okv (a b : CfM) : Esc.okv (cf2V a b) = true := by simp [cf2V, Esc.okv, okvs, CfM.okv]
theorem zCf2 : z_ar2_api_Config = cf2V CfM.zero CfM.zero := rfl
theorem build_cf {a b c : Int} {x y z p q : List UInt8} (hx : x.length = 32) (hy : y.length = 32) (hz : z.length = 32) (hp : p.length = 32) (hq : q.length = 32) :
    vbuild T t_api_Config [(0, .int .i64 a), (1, .int .i64 b), (2, .int .i64 c), (3, .agg (x.map u8v)), (4, .agg (y.map u8v)), (5, .agg (z.map u8v)), (6, hash2V p q), (7, .int .i64 4096)] = some (CfM.av ⟨a, b, c, x, y, z, p, q, 4096⟩) := by
  refine (build_struct (zs := cfZ) T_api_Config rfl rfl rfl (plOk_of rfl) fun r hr => ?_).trans rfl
  simp only [List.mem_cons, List.not_mem_nil, or_false] at hr
  rcases hr with rfl | rfl | rfl | rfl | rfl | rfl | rfl | rfl
  · rfl
  · rfl
  · rfl
  · exact szHash hx
  · exact szHash hy
  · exact szHash hz
  · exact sz_hash2 h0_len h0_len hp hq
  · rfl
theorem build_h2 {p q : List UInt8} (hp : p.length = 32) (hq : q.length = 32) : vbuild T t_ar2_api_Hash [(0, .agg (p.map u8v)), (1, .agg (q.map u8v))] = some (hash2V p q) := by
  refine (build_array (zs := [.agg (h0.map u8v), .agg (h0.map u8v)]) T_ar2_api_Hash rfl T_api_Hash rfl ?_ fun r hr => ?_).trans rfl
  · simp [Esc.uni, Esc.sz, szh h0_len, ti_api_Hash]
  · simp only [List.mem_cons, List.not_mem_nil, or_false] at hr
    rcases hr with rfl | rfl
    · exact szHash hp
    · exact szHash hq
/-- Both sides' configs. -/
def cfg0 (d : DlM) : CfM := ⟨0, d.cap, d.ours, d.seedsA, d.keysA, d.keysB, pointS d.seedsB 0, pointS d.seedsB 1, 4096⟩
def cfg1 (d : DlM) : CfM := ⟨1, d.cap, IntKind.i64.wrap (d.cap - d.ours), d.seedsB, d.keysB, d.keysA, pointS d.seedsA 0, pointS d.seedsA 1, 4096⟩
theorem cfg0_ok {d : DlM} (h : d.ok) : (cfg0 d).ok := ⟨i64_0, h.cap, h.ours, h.seedsA, h.keysA, h.keysB, pointS_len _ _, pointS_len _ _, i64_n 4096 (by decide) (by decide)⟩
theorem cfg1_ok {d : DlM} (h : d.ok) : (cfg1 d).ok := ⟨i64_n 1 (by decide) (by decide), h.cap, hw64 _, h.seedsB, h.keysB, h.keysA, pointS_len _ _, pointS_len _ _, i64_n 4096 (by decide) (by decide)⟩

set_option maxHeartbeats 4000000 in
theorem escrowlaw15_Configs.use {d : DlM} (hd : d.ok) (hQ : ∀ G', Ch [] G [] G' → Q (cf2V (cfg0 d) (cfg1 d)) G') : ACalls P escrowlaw15_Configs.n [d.av] G Q := by
  refine escrowlaw15_Configs.sound ?_
  unfold escrowlaw15_Configs.S
  rw [zCf2]
  intro i1 f1
  have s1 := (Sp.nil G).row f1 d.av
  intro i3 f3
  have s3 := s1.row f3 (cf2V CfM.zero CfM.zero)
  intro i5 f5
  have s5 := s3.row f5 (cf2V CfM.zero CfM.zero)
  revert s5
  generalize Heap.upd _ i5 _ = G6
  intro s5
  have o0 := cfg0_ok hd
  have o1 := cfg1_ok hd
  obtain ⟨C0, hC0⟩ : ∃ C, C = cfg0 d := ⟨_, rfl⟩
  obtain ⟨C1, hC1⟩ : ∃ C, C = cfg1 d := ⟨_, rfl⟩
  obtain ⟨b0, hb0⟩ : ∃ z, z = pointS d.seedsB 0 := ⟨_, rfl⟩
  obtain ⟨b1, hb1⟩ : ∃ z, z = pointS d.seedsB 1 := ⟨_, rfl⟩
  obtain ⟨a0, ha0⟩ : ∃ z, z = pointS d.seedsA 0 := ⟨_, rfl⟩
  obtain ⟨a1, ha1⟩ : ∃ z, z = pointS d.seedsA 1 := ⟨_, rfl⟩
  have lb0 : b0.length = 32 := by rw [hb0]; exact pointS_len _ _
  have lb1 : b1.length = 32 := by rw [hb1]; exact pointS_len _ _
  have la0 : a0.length = 32 := by rw [ha0]; exact pointS_len _ _
  have la1 : a1.length = 32 := by rw [ha1]; exact pointS_len _ _
  have e0 : C0 = ⟨0, d.cap, d.ours, d.seedsA, d.keysA, d.keysB, b0, b1, 4096⟩ := by rw [hC0, hb0, hb1]; rfl
  have e1 : C1 = ⟨1, d.cap, IntKind.i64.wrap (d.cap - d.ours), d.seedsB, d.keysB, d.keysA, a0, a1, 4096⟩ := by rw [hC1, ha0, ha1]; rfl
  rw [← hC0, ← hC1] at hQ
  rw [← hC0] at o0
  rw [← hC1] at o1
  have zo := CfM.zero_ok
  intro R7 hR7
  refine hR7 _ _ _ _ _ ?_
  rw [vbin_lss, wv_some, decide_eq_true (by decide), brB_true]
  have hg := RowL.own (i := 2) s5 rfl
  refine wv_of (v := .ptr i1 [1] 1) rfl ?_
  refine wv_of (Dl.ld_ours hg hd) ?_
  rw [vbin_eql, wv_some, decide_eq_false (by decide)]
  intro J52
  rw [brB_false]
  simp -zeta only [J52]
  refine wv_of (v := .ptr i1 [0] 0) rfl ?_
  refine wv_of (Dl.ld_cap hg hd) ?_
  refine wv_of (v := .ptr i1 [2] 2) rfl ?_
  refine wv_of (v := .ptr i1 [2, 0] 2) rfl ?_
  refine wv_of (Dl.ld_seedsA hg hd) ?_
  refine wv_of (v := .ptr i1 [3] 66) rfl ?_
  refine wv_of (v := .ptr i1 [3, 0] 66) rfl ?_
  refine wv_of (Dl.ld_keysA hg hd) ?_
  rw [vbin_sub, i64_in (by decide) (by decide), wv_some]
  refine wv_of (v := .ptr i1 [3] 66) rfl ?_
  refine wv_of (v := .ptr i1 [3, 1] 98) rfl ?_
  refine wv_of (Dl.ld_keysB hg hd) ?_
  rw [wv_some]
  refine wv_of (v := .ptr i1 [2] 2) rfl ?_
  refine wv_of (v := .ptr i1 [2, 1] 34) rfl ?_
  refine wv_of (Dl.ld_seedsB hg hd) ?_
  rw [wv_some]
  refine wv_of (v := .ptr i1 [2] 2) rfl ?_
  refine wv_of (v := .ptr i1 [2, 1] 34) rfl ?_
  refine wv_of (Dl.ld_seedsB hg hd) ?_
  refine escrowlaw15_Point.use hd.seedsB fun G45 c45 => ?_
  rw [← hb0]
  have s45 := s5.tmp c45
  have hg := RowL.own (i := 2) s45 rfl
  refine ⟨⟨Dl.ld_seedsB hg hd, Dl.ld_keysB hg hd, Dl.ld_keysA hg hd, Dl.ld_seedsA hg hd, Dl.ld_cap hg hd, trivial⟩, ?_⟩
  refine escrowlaw15_Point.use hd.seedsB fun G47 c47 => ?_
  rw [← hb1]
  have s47 := s45.tmp c47
  have hg := RowL.own (i := 2) s47 rfl
  refine ⟨⟨Dl.ld_keysB hg hd, Dl.ld_keysA hg hd, Dl.ld_seedsA hg hd, Dl.ld_cap hg hd, trivial⟩, ?_⟩
  refine wv_of (build_h2 lb0 lb1) ?_
  refine wv_of (build_cf hd.seedsA hd.keysA hd.keysB lb0 lb1) ?_
  rw [← e0]
  refine wv_of (v := .ptr i5 [0] 0) rfl ?_
  refine wg_of (st1 (c := C0.av) (RowL.own (i := 0) s47 rfl) (cf2_szl zo zo) rfl rfl T_api_Config (CfM.fits o0) (by rw [CfM.sz o0, CfM.sz zo]) (CfM.okv)) ?_
  have s51 := Sp.setRow (j := 0) s47 rfl (cf2V C0 CfM.zero)
  revert s51
  show Sp [] G _ (Heap.upd G47 i5 (.own (.agg ([CfM.zero.av, CfM.zero.av].set 0 C0.av)))) → _
  generalize Heap.upd G47 i5 _ = G51
  intro s51
  refine wv_of (v := .int .i64 1) rfl ?_
  refine hR7 _ _ _ _ _ ?_
  rw [vbin_lss, wv_some, decide_eq_true (by decide), brB_true]
  have hg := RowL.own (i := 2) s51 rfl
  refine wv_of (v := .ptr i1 [1] 1) rfl ?_
  refine wv_of (Dl.ld_ours hg hd) ?_
  rw [vbin_eql, wv_some, decide_eq_true (by decide)]
  intro J52
  rw [brB_true]
  refine wv_of (v := .ptr i1 [0] 0) rfl ?_
  refine wv_of (Dl.ld_cap hg hd) ?_
  refine wv_of (v := .ptr i1 [1] 1) rfl ?_
  refine wv_of (Dl.ld_ours hg hd) ?_
  rw [vbin_sub, wv_some]
  simp -zeta only [J52]
  refine wv_of (v := .ptr i1 [0] 0) rfl ?_
  refine wv_of (Dl.ld_cap hg hd) ?_
  refine wv_of (v := .ptr i1 [2] 2) rfl ?_
  refine wv_of (v := .ptr i1 [2, 1] 34) rfl ?_
  refine wv_of (Dl.ld_seedsB hg hd) ?_
  refine wv_of (v := .ptr i1 [3] 66) rfl ?_
  refine wv_of (v := .ptr i1 [3, 1] 98) rfl ?_
  refine wv_of (Dl.ld_keysB hg hd) ?_
  rw [vbin_sub, i64_in (n := 1 - 1) (by decide) (by decide), wv_some]
  refine wv_of (v := .ptr i1 [3] 66) rfl ?_
  refine wv_of (v := .ptr i1 [3, 0] 66) rfl ?_
  refine wv_of (Dl.ld_keysA hg hd) ?_
  rw [wv_some]
  refine wv_of (v := .ptr i1 [2] 2) rfl ?_
  refine wv_of (v := .ptr i1 [2, 0] 2) rfl ?_
  refine wv_of (Dl.ld_seedsA hg hd) ?_
  rw [wv_some]
  refine wv_of (v := .ptr i1 [2] 2) rfl ?_
  refine wv_of (v := .ptr i1 [2, 0] 2) rfl ?_
  refine wv_of (Dl.ld_seedsA hg hd) ?_
  refine escrowlaw15_Point.use hd.seedsA fun G45 c45 => ?_
  rw [← ha0]
  have s45 := s51.tmp c45
  have hg := RowL.own (i := 2) s45 rfl
  refine ⟨⟨Dl.ld_seedsA hg hd, Dl.ld_keysA hg hd, Dl.ld_keysB hg hd, Dl.ld_seedsB hg hd, Dl.ld_cap hg hd, trivial⟩, ?_⟩
  refine escrowlaw15_Point.use hd.seedsA fun G47 c47 => ?_
  rw [← ha1]
  have s47 := s45.tmp c47
  have hg := RowL.own (i := 2) s47 rfl
  refine ⟨⟨Dl.ld_keysA hg hd, Dl.ld_keysB hg hd, Dl.ld_seedsB hg hd, Dl.ld_cap hg hd, trivial⟩, ?_⟩
  refine wv_of (build_h2 la0 la1) ?_
  refine wv_of (build_cf hd.seedsB hd.keysB hd.keysA la0 la1) ?_
  rw [← e1]
  refine wv_of (v := .ptr i5 [1] 164) rfl ?_
  refine wg_of (st1 (c := C1.av) (RowL.own (i := 0) s47 rfl) (cf2_szl o0 zo) rfl rfl T_api_Config (CfM.fits o1) (by rw [CfM.sz o1, CfM.sz zo]) (CfM.okv)) ?_
  have s51 := Sp.setRow (j := 0) s47 rfl (cf2V C0 C1)
  revert s51
  show Sp [] G _ (Heap.upd G47 i5 (.own (.agg ([C0.av, CfM.zero.av].set 1 C1.av)))) → _
  generalize Heap.upd G47 i5 _ = G51
  intro s51
  refine wv_of (v := .int .i64 2) rfl ?_
  refine hR7 _ _ _ _ _ ?_
  rw [vbin_lss, wv_some, decide_eq_false (by decide), brB_false]
  refine wv_of (whole_load T_ar2_api_Config (RowL.own (i := 0) s51 rfl) (cf2_fits o0 o1)) ?_
  refine wg_of (whole_store (c := cf2V C0 C1) T_ar2_api_Config (RowL.own (i := 1) s51 rfl) (cf2_fits o0 o1) (by rw [cf2_sz zo zo, cf2_sz o0 o1]) (cf2_okv _ _)) ?_
  have s55 := Sp.setRow (j := 1) s51 rfl (cf2V C0 C1)
  refine wv_of (whole_load T_ar2_api_Config (RowL.own (i := 1) s55 rfl) (cf2_fits o0 o1)) ?_
  exact hQ _ s55.ch

end

end Go.Esc.M

/- Own work. Chapter 15: the first answers; DanceRaw. -/
set_option linter.unusedSimpArgs false
set_option linter.unusedVariables false
set_option maxRecDepth 20000
namespace Go.Esc.M
open Go Go.Esc

def d15 : DlM := ⟨1000, 700, h0, h0, h0, h0⟩
theorem d15_ok : d15.ok := ⟨i64_n 1000 (by decide) (by decide), i64_n 700 (by decide) (by decide), rfl, rfl, rfl, rfl⟩
def c15 (a b : List UInt8) : CfM := ⟨0, 1000, 700, h0, h0, h0, a, b, 4096⟩
def s15 (a b : List UInt8) : StM := { StM.zero with side := 0, cap := 1000, bo := 700, bp := 300, ptsA := a, ptsB := b, closed := -1 }
def f15 (a b : List UInt8) : StF := ⟨s15 a b, [], [], []⟩
def h1M : List UInt8 := 1 :: List.replicate 31 0
def u15 : UpdM := ⟨1, 0, 600, h1M, []⟩
theorem u15_ok : u15.ok := ⟨i64_n 1 (by decide) (by decide), i64_0, i64_n 600 (by decide) (by decide), rfl, by decide⟩
theorem start_15 (a b : List UInt8) : startS (c15 a b) = (s15 a b, 0) := rfl
theorem start_no : startS CfM.zero = (StM.zero, 1) := rfl
theorem spendO_15 (a b : List UInt8) : spendO (f15 a b) = 700 := rfl
theorem spendP_15 (a b : List UInt8) : spendP (f15 a b) = 300 := rfl
theorem offer_1 (a b : List UInt8) : offerS (f15 a b) 701 h0 = noR 130 := rfl
theorem offer_2 (a b : List UInt8) : offerS (f15 a b) 0 h0 = noR 80 := rfl
theorem offer_3 (a b : List UInt8) : offerS (f15 a b) 600 h1M = (recOurs u15, 0) := rfl
theorem sign_15 (a b : List UInt8) : signS (f15 a b) = noR 8 := rfl
theorem came_15 (a b : List UInt8) : cameS (c15 a b) (f15 a b) { MsgM.zero with kind := 4, index := 2 } = noC 90 := rfl
theorem rev_15 (a b : List UInt8) : revokedS (f15 a b) { MsgM.zero with kind := 5 } = noR 90 := rfl

section
variable {F0 : List AId} {G0 G : Heap} {ps : List LP} {Q : AVal → Heap → Prop}

theorem f15_in {a b : List UInt8} (ha : a.length = 32) (hb : b.length = 32) (G : Heap) : StIn G (f15 a b) .nilSlice .nilSlice .nilSlice :=
  ⟨⟨i64_0, i64_n 1000 (by decide) (by decide), i64_n 700 (by decide) (by decide), i64_n 300 (by decide) (by decide), i64_0, i64_0, i64_0, i64_0, i64_0, i64_0, i64_0, i64_0, i64_0, ha, hb, rfl, i64_0, i64_n (-1) (by decide) (by decide)⟩, CapSl.nil, CapSl.nil, CapSl.nil, by simp [f15], by simp [f15], by simp [f15], by simp [f15], by simp [f15], by simp [f15]⟩
theorem cf_index {a b : CfM} (ha : a.ok) (hb : b.ok) : vindex T t_ar2_api_Config (cf2V a b) (.int .i64 0) = some a.av := by
  have h1 : Esc.uni 164 [a.av, b.av] = true := by simp [Esc.uni, CfM.sz ha, CfM.sz hb]
  have h2 := CfM.fits ha
  simp only [vindex, cf2V, T_ar2_api_Config, show ti_ar2_api_Config.desc = .array 2 t_api_Config from rfl, T_api_Config]
  have h3 : Esc.uni ti_api_Config.size [a.av, b.av] = true := h1
  simp [h2, h3]
theorem m15_ok : ({ MsgM.zero with kind := 4, index := 2 } : MsgM).ok := ⟨i64_n 4 (by decide) (by decide), i64_0, i64_0, i64_n 2 (by decide) (by decide), i64_0, rfl, rfl, by simp [MsgM.zero]⟩
theorem m16_ok : ({ MsgM.zero with kind := 5 } : MsgM).ok := ⟨i64_n 5 (by decide) (by decide), i64_0, i64_0, i64_0, i64_0, rfl, rfl, by simp [MsgM.zero]⟩

set_option maxHeartbeats 4000000 in
theorem escrowlaw15_fixed.use (hT : Tab G) (hQ : ∀ G', Ch [] G [] G' → Q (.bool true) G') : ACalls P escrowlaw15_fixed.n [] G Q := by
  refine escrowlaw15_fixed.sound ?_
  unfold escrowlaw15_fixed.S
  refine wv_of (v := d15.av) rfl ?_
  refine escrowlaw15_Configs.use d15_ok fun G3 c3 => ?_
  have s3 := (Sp.nil G).tmp c3
  obtain ⟨x, hx⟩ : ∃ z, z = pointS h0 0 := ⟨_, rfl⟩
  obtain ⟨y, hy⟩ : ∃ z, z = pointS h0 1 := ⟨_, rfl⟩
  have lx : x.length = 32 := by rw [hx]; exact pointS_len _ _
  have ly : y.length = 32 := by rw [hy]; exact pointS_len _ _
  have e0 : cfg0 d15 = c15 x y := by rw [hx, hy]; rfl
  obtain ⟨C1, hC1⟩ : ∃ C, C = cfg1 d15 := ⟨_, rfl⟩
  rw [e0, ← hC1]
  have hc : (c15 x y).ok := by rw [← e0]; exact cfg0_ok d15_ok
  have hS := f15_in lx ly
  have hso := (hS G).ok
  refine wv_of (cf_index hc (by rw [hC1]; exact cfg1_ok d15_ok)) ?_
  refine Cf.nw s3 hc fun i5 G7 s7 => ?_
  refine wv_of (Cf.ld (RowL.own (i := 0) s7 rfl) hc) ?_
  refine dance_Start.use hc fun G10 c10 => ?_
  have s10 := s7.tmp c10
  rw [start_15]
  refine wv_of (tv0 _ _) ?_
  refine wv_of (tv1 _ _) ?_
  refine St.nw s10 hso lv0 fun i13 G15 s15 => ?_
  refine wv_of (v := CfM.zero.av) rfl ?_
  refine dance_Start.use CfM.zero_ok fun G18 c18 => ?_
  have s18 := s15.tmp c18
  rw [start_no]
  refine wv_of (tv0 _ _) ?_
  refine wv_of (tv1 _ _) ?_
  refine St.nw s18 StM.zero_ok lv0 fun i21 G23 s23 => ?_
  have s23 : Sp [] G [RowL i21 (StM.zero.av .nilSlice .nilSlice .nilSlice), RowL i13 ((f15 x y).s.av .nilSlice .nilSlice .nilSlice), RowL i5 (c15 x y).av] G23 := s23
  intro J111
  have go : ∀ G2, Sp [] G [RowL i21 (StM.zero.av .nilSlice .nilSlice .nilSlice), RowL i13 ((f15 x y).s.av .nilSlice .nilSlice .nilSlice), RowL i5 (c15 x y).av] G2 → J111 (.bool false) G2 := by
    intro G40 s40
    simp -zeta only [J111, brB_false]
    refine wv_of (St.ld (RowL.own (i := 1) s40 rfl) hso lv0) ?_
    refine wv_of (v := .agg (h0.map u8v)) rfl ?_
    refine dance_Offer.use (hS _) h0_len fun G45 c45 => ?_
    have s45 := s40.tmp c45
    rw [offer_1]
    refine wv_of (tr0 _) ?_
    refine wv_of (tr1 _) ?_
    refine Rc.nw s45 RcM.zero_ok Leaf.nil fun i48 G50 s50 => ?_
    refine wv_of (St.ld (RowL.own (i := 2) s50 rfl) hso lv0) ?_
    refine wv_of (v := .agg (h0.map u8v)) rfl ?_
    refine dance_Offer.use (hS _) h0_len fun G54 c54 => ?_
    have s54 := s50.tmp c54
    rw [offer_2]
    refine wv_of (tr0 _) ?_
    refine wv_of (tr1 _) ?_
    refine Rc.nw s54 RcM.zero_ok Leaf.nil fun i57 G59 s59 => ?_
    refine wv_of (St.ld (RowL.own (i := 3) s59 rfl) hso lv0) ?_
    refine wv_of (v := .agg (h1M.map u8v)) rfl ?_
    refine dance_Offer.use (hS _) (by rfl) fun G63 c63 => ?_
    have s63 := s59.tmp c63
    rw [offer_3]
    refine wv_of (tr0 _) ?_
    refine wv_of (tr1 _) ?_
    refine Rc.nw s63 (recOurs_ok u15_ok) Leaf.nil fun i66 G68 s68 => ?_
    refine wv_of (Cf.ld (RowL.own (i := 5) s68 rfl) hc) ?_
    refine wv_of (St.ld (RowL.own (i := 4) s68 rfl) hso lv0) ?_
    refine dance_Sign.use (hS _) fun G72 c72 => ?_
    have s72 := s68.tmp c72
    rw [sign_15]
    refine wv_of (tr0 _) ?_
    refine wv_of (tr1 _) ?_
    refine Rc.nw s72 RcM.zero_ok Leaf.nil fun i75 G77 s77 => ?_
    refine wv_of (Cf.ld (RowL.own (i := 6) s77 rfl) hc) ?_
    refine wv_of (St.ld (RowL.own (i := 5) s77 rfl) hso lv0) ?_
    refine wv_of (v := ({ MsgM.zero with kind := 4, index := 2 } : MsgM).av) rfl ?_
    refine dance_Came.use (hS _) hc m15_ok fun w G82 t82 => ?_
    rw [came_15] at t82 ⊢
    have s82 := s77.tmp t82.ch
    have lw : Leaf w := (OwnL.own (i := 0) t82 rfl).leaf
    refine wv_of (tv0 _ _) ?_
    refine wv_of (tv1 _ _) ?_
    refine Rc.nw s82 RcM.zero_ok lw fun i85 G87 s87 => ?_
    refine wv_of (St.ld (RowL.own (i := 6) s87 rfl) hso lv0) ?_
    refine wv_of (v := ({ MsgM.zero with kind := 5 } : MsgM).av) rfl ?_
    refine dance_Revoked.use (hT.mono s87.ro) (hS _) m16_ok fun G91 c91 => ?_
    have s91 := s87.tmp c91
    rw [rev_15]
    refine wv_of (tr0 _) ?_
    refine wv_of (tr1 _) ?_
    refine Rc.nw s91 RcM.zero_ok Leaf.nil fun i94 G96 s96 => ?_
    have e3 : ∀ n : Int, vbin T .eql t_api_Errno (.int .i64 n) (.int .i64 n) = some (.bool true) := fun n => ez0
    refine wv_of (e3 130) ?_
    rw [brB_true]
    refine wv_of (e3 80) ?_
    rw [brB_true]
    refine wv_of (e3 0) ?_
    rw [brB_true]
    have hg := RowL.own (i := 3) s96 rfl
    refine wv_of (Rc.ld_kind hg (recOurs_ok u15_ok) Leaf.nil) ?_
    refine wv_of (v := .bool true) rfl ?_
    rw [brB_true]
    refine wv_of (Rc.ld_upd hg (recOurs_ok u15_ok) Leaf.nil) ?_
    refine wv_of (v := .agg (h1M.map u8v)) rfl ?_
    refine wv_of (v := u15.av) rfl ?_
    refine wv_of (v := .bool true) ?_ ?_
    · show vbin T .eql t_api_Update u15.av u15.av = _
      rw [vbin_ueql u15_ok u15_ok, decide_eq_true rfl]
    rw [brB_true]
    refine wv_of (e3 8) ?_
    rw [brB_true]
    refine wv_of (e3 90) ?_
    rw [brB_true]
    refine wv_of (e3 90) ?_
    exact hQ _ s96.ch
  have ne : ∀ {t : TypeId} (n : Int), vbin T .neq t (.int .i64 n) (.int .i64 n) = some (.bool false) := fun n => nz0
  refine wv_of (ne 0) ?_
  rw [brB_false]
  refine wv_of (ne 1) ?_
  rw [brB_false]
  have hg := RowL.own (i := 1) s23 rfl
  refine wv_of (St.ld_bo hg hso lv0) ?_
  refine wv_of (ne 700) ?_
  rw [brB_false]
  refine wv_of (St.ld_bp hg hso lv0) ?_
  refine wv_of (ne 300) ?_
  rw [brB_false]
  refine wv_of (St.ld_closed hg hso lv0) ?_
  refine wv_of (ne (-1)) ?_
  rw [brB_false]
  refine wv_of (St.ld hg hso lv0) ?_
  refine dance_Spendable.use (hS _) fun G34 c34 => ?_
  have s34 := s23.tmp c34
  rw [spendO_15]
  refine wv_of (ne 700) ?_
  rw [brB_false]
  refine wv_of (St.ld (RowL.own (i := 1) s34 rfl) hso lv0) ?_
  refine dance_PeerSpendable.use (hS _) fun G38 c38 => ?_
  have s38 := s34.tmp c38
  rw [spendP_15]
  refine wv_of (ne 300) ?_
  exact go _ s38

end

theorem wt_hash2 {G : Heap} {R d : Nat} {v : AVal} {m : Nat} (h : wt T G R (d + 3) t_ar2_api_Hash v m) : ∃ a b : List UInt8, v = hash2V a b ∧ a.length = 32 ∧ b.length = 32 := by
  rw [wt] at h
  simp only [T_ar2_api_Hash, show ti_ar2_api_Hash.desc = .array 2 t_api_Hash from rfl] at h
  obtain ⟨cs, ms, rfl, hl, hw, _⟩ := h
  match cs, ms, hl, hw with
  | [a, b], [m1, m2], _, ⟨h1, h2, _⟩ =>
    obtain ⟨x, rfl, lx, _⟩ := wt_hash T_api_Hash rfl T_uint8 rfl h1
    obtain ⟨y, rfl, ly, _⟩ := wt_hash T_api_Hash rfl T_uint8 rfl h2
    exact ⟨x, y, rfl, lx, ly⟩
theorem wt_Config {G : Heap} {R d : Nat} {v : AVal} {m : Nat} (h : wt T G R (d + 4) t_api_Config v m) : ∃ c : CfM, v = c.av ∧ c.ok := by
  obtain ⟨cs, ms, rfl, hf, rfl⟩ := wt_struct T_api_Config rfl h
  obtain ⟨c1, cs, m1, ms, rfl, rfl, h1, hf⟩ := wfs_cons hf
  obtain ⟨c2, cs, m2, ms, rfl, rfl, h2, hf⟩ := wfs_cons hf
  obtain ⟨c3, cs, m3, ms, rfl, rfl, h3, hf⟩ := wfs_cons hf
  obtain ⟨c4, cs, m4, ms, rfl, rfl, h4, hf⟩ := wfs_cons hf
  obtain ⟨c5, cs, m5, ms, rfl, rfl, h5, hf⟩ := wfs_cons hf
  obtain ⟨c6, cs, m6, ms, rfl, rfl, h6, hf⟩ := wfs_cons hf
  obtain ⟨c7, cs, m7, ms, rfl, rfl, h7, hf⟩ := wfs_cons hf
  obtain ⟨c8, cs, m8, ms, rfl, rfl, h8, hf⟩ := wfs_cons hf
  obtain ⟨rfl, rfl⟩ := wfs_nil hf
  obtain ⟨a1, rfl, w1, _⟩ := wt_int T_int rfl h1
  obtain ⟨a2, rfl, w2, _⟩ := wt_int T_int64 rfl h2
  obtain ⟨a3, rfl, w3, _⟩ := wt_int T_int64 rfl h3
  obtain ⟨a4, rfl, w4, _⟩ := wt_hash T_api_Hash rfl T_uint8 rfl h4
  obtain ⟨a5, rfl, w5, _⟩ := wt_hash T_api_Hash rfl T_uint8 rfl h5
  obtain ⟨a6, rfl, w6, _⟩ := wt_hash T_api_Hash rfl T_uint8 rfl h6
  obtain ⟨a7, b7, rfl, w7, w7'⟩ := wt_hash2 h7
  obtain ⟨a8, rfl, w8, _⟩ := wt_int T_int rfl h8
  exact ⟨⟨a1, a2, a3, a4, a5, a6, a7, b7, a8⟩, rfl, ⟨i64_wf.1 w1, i64_wf.1 w2, i64_wf.1 w3, w4, w5, w6, w7, w7', i64_wf.1 w8⟩⟩
theorem wt_Pair {G : Heap} {R d : Nat} {v : AVal} {m : Nat} (h : wt T G R (d + 2) t_api_Counts v m) : ∃ a b : Int, v = pairW a b ∧ I64 a ∧ I64 b := by
  obtain ⟨cs, ms, rfl, hf, rfl⟩ := wt_struct T_api_Counts rfl h
  obtain ⟨c1, cs, m1, ms, rfl, rfl, h1, hf⟩ := wfs_cons hf
  obtain ⟨c2, cs, m2, ms, rfl, rfl, h2, hf⟩ := wfs_cons hf
  obtain ⟨rfl, rfl⟩ := wfs_nil hf
  obtain ⟨a, rfl, w1, _⟩ := wt_int T_int rfl h1
  obtain ⟨b, rfl, w2, _⟩ := wt_int T_int rfl h2
  exact ⟨a, b, rfl, i64_wf.1 w1, i64_wf.1 w2⟩
theorem wt_UpdsL {G : Heap} {R d : Nat} {v : AVal} {m : Nat} (h : wt T G R (d + 4) t_sl_api_Update v m) : ∃ l : List UpdM, RoSl 36 G v (l.map UpdM.av) ∧ (∀ u ∈ l, u.ok) ∧ l.length ≤ m := by
  obtain ⟨xs, ms, hro, hall, hms, hR, _⟩ := wt_ro UpdM.av (fun u m => u.ok ∧ 1 ≤ m) T_sl_api_Update rfl T_api_Update (fun c m h => by
    obtain ⟨u, hu, ho, _⟩ := wt_Upd h
    obtain ⟨_, ms, _, _, e⟩ := wt_struct T_api_Update rfl h
    exact ⟨u, hu, ho, by omega⟩) h
  have hlen := hall.length fun c m h => h.2
  refine ⟨xs, hro, fun u hu => ?_, by omega⟩
  obtain ⟨m, hm, _⟩ := hall.mem hu
  exact hm.1
theorem wt_SlotsL {G : Heap} {R d : Nat} {v : AVal} {m : Nat} (h : wt T G R (d + 4) t_sl_api_Slot v m) : ∃ l : List SlotM, RoSl 34 G v (l.map SlotM.av) ∧ (∀ u ∈ l, u.ok) ∧ l.length ≤ m := by
  obtain ⟨xs, ms, hro, hall, hms, hR, _⟩ := wt_ro SlotM.av (fun u m => u.ok ∧ 1 ≤ m) T_sl_api_Slot rfl T_api_Slot (fun c m h => by
    obtain ⟨u, hu, ho⟩ := wt_Slot h
    obtain ⟨_, ms, _, _, e⟩ := wt_struct T_api_Slot rfl h
    exact ⟨u, hu, ho, by omega⟩) h
  have hlen := hall.length fun c m h => h.2
  refine ⟨xs, hro, fun u hu => ?_, by omega⟩
  obtain ⟨m, hm, _⟩ := hall.mem hu
  exact hm.1
theorem wt_State {G : Heap} {R d : Nat} {v : AVal} {m : Nat} (h : wt T G R (d + 5) t_api_State v m) (hm : m ≤ 1048576) : ∃ (f : StF) (vo vp vh : AVal), v = f.s.av vo vp vh ∧ StIn G f vo vp vh := by
  obtain ⟨cs, ms, rfl, hf, rfl⟩ := wt_struct T_api_State rfl h
  obtain ⟨c1, cs, m1, ms, rfl, rfl, h1, hf⟩ := wfs_cons hf
  obtain ⟨c2, cs, m2, ms, rfl, rfl, h2, hf⟩ := wfs_cons hf
  obtain ⟨c3, cs, m3, ms, rfl, rfl, h3, hf⟩ := wfs_cons hf
  obtain ⟨c4, cs, m4, ms, rfl, rfl, h4, hf⟩ := wfs_cons hf
  obtain ⟨c5, cs, m5, ms, rfl, rfl, h5, hf⟩ := wfs_cons hf
  obtain ⟨c6, cs, m6, ms, rfl, rfl, h6, hf⟩ := wfs_cons hf
  obtain ⟨c7, cs, m7, ms, rfl, rfl, h7, hf⟩ := wfs_cons hf
  obtain ⟨c8, cs, m8, ms, rfl, rfl, h8, hf⟩ := wfs_cons hf
  obtain ⟨c9, cs, m9, ms, rfl, rfl, h9, hf⟩ := wfs_cons hf
  obtain ⟨c10, cs, m10, ms, rfl, rfl, h10, hf⟩ := wfs_cons hf
  obtain ⟨c11, cs, m11, ms, rfl, rfl, h11, hf⟩ := wfs_cons hf
  obtain ⟨c12, cs, m12, ms, rfl, rfl, h12, hf⟩ := wfs_cons hf
  obtain ⟨c13, cs, m13, ms, rfl, rfl, h13, hf⟩ := wfs_cons hf
  obtain ⟨c14, cs, m14, ms, rfl, rfl, h14, hf⟩ := wfs_cons hf
  obtain ⟨c15, cs, m15, ms, rfl, rfl, h15, hf⟩ := wfs_cons hf
  obtain ⟨c16, cs, m16, ms, rfl, rfl, h16, hf⟩ := wfs_cons hf
  obtain ⟨c17, cs, m17, ms, rfl, rfl, h17, hf⟩ := wfs_cons hf
  obtain ⟨c18, cs, m18, ms, rfl, rfl, h18, hf⟩ := wfs_cons hf
  obtain ⟨rfl, rfl⟩ := wfs_nil hf
  obtain ⟨a1, rfl, w1, _⟩ := wt_int T_int rfl h1
  obtain ⟨a2, rfl, w2, _⟩ := wt_int T_int64 rfl h2
  obtain ⟨a3, rfl, w3, _⟩ := wt_int T_int64 rfl h3
  obtain ⟨a4, rfl, w4, _⟩ := wt_int T_int64 rfl h4
  obtain ⟨o, ho, oko, lo⟩ := wt_UpdsL h5
  obtain ⟨p, hp, okp, lp⟩ := wt_UpdsL h6
  obtain ⟨a7, rfl, w7, _⟩ := wt_int T_int64 rfl h7
  obtain ⟨a8, rfl, w8, _⟩ := wt_int T_int64 rfl h8
  obtain ⟨a9, rfl, w9, _⟩ := wt_int T_int64 rfl h9
  obtain ⟨a10, b10, rfl, w10, w10'⟩ := wt_Pair h10
  obtain ⟨a11, b11, rfl, w11, w11'⟩ := wt_Pair h11
  obtain ⟨a12, b12, rfl, w12, w12'⟩ := wt_Pair h12
  obtain ⟨a13, rfl, _⟩ := wt_bool T_bool rfl h13
  obtain ⟨a14, b14, rfl, w14, w14'⟩ := wt_hash2 h14
  obtain ⟨a15, rfl, w15, _⟩ := wt_hash T_api_Hash rfl T_uint8 rfl h15
  obtain ⟨hs, hh, okh, lh⟩ := wt_SlotsL h16
  obtain ⟨a17, rfl, w17, _⟩ := wt_int T_int rfl h17
  obtain ⟨a18, rfl, w18, _⟩ := wt_int T_int64 rfl h18
  simp only [List.sum_cons] at hm
  refine ⟨⟨⟨a1, a2, a3, a4, a7, a8, a9, a10, b10, a11, b11, a12, b12, a13, a14, b14, a15, a17, a18⟩, o, p, hs⟩, c5, c6, c16, rfl, ?_⟩
  exact ⟨⟨i64_wf.1 w1, i64_wf.1 w2, i64_wf.1 w3, i64_wf.1 w4, i64_wf.1 w7, i64_wf.1 w8, i64_wf.1 w9, w10, w10', w11, w11', w12, w12', w14, w14', w15, i64_wf.1 w17, i64_wf.1 w18⟩, ho.cap, hp.cap, hh.cap, oko, okp, okh, by show o.length ≤ _; omega, by show p.length ≤ _; omega, by show hs.length * 48 ≤ _; omega⟩

set_option maxHeartbeats 4000000 in
theorem law_DanceRaw {R : Nat} {G : Heap} {c s u m a i : AVal} {m1 m2 m3 m4 m5 m6 : Nat} (hT : Tab G) (h1 : wt T G R 6 t_api_Config c m1) (h2 : wt T G R 6 t_api_State s m2) (h3 : wt T G R 6 t_api_Update u m3) (h4 : wt T G R 6 t_api_Message m m4) (h5 : wt T G R 6 t_int64 a m5) (h6 : wt T G R 6 t_int64 i m6) (hm : m1 + (m2 + (m3 + (m4 + (m5 + m6)))) ≤ 1048576) :
    ACalls P escrowlaw15_DanceRaw.n [c, s, u, m, a, i] G fun v _ => v = .bool true := by
  obtain ⟨c, rfl, hc⟩ := wt_Config h1
  obtain ⟨f, vo, vp, vh, rfl, hS⟩ := wt_State h2 (by omega)
  obtain ⟨u, rfl, hu, _⟩ := wt_Upd h3
  obtain ⟨m, rfl, hmo⟩ := wt_Msg h4
  obtain ⟨a, rfl, wa, _⟩ := wt_int T_int64 rfl h5
  obtain ⟨id, rfl, wi, _⟩ := wt_int T_int64 rfl h6
  have hid := i64_wf.1 wi
  have ho := hS.ok
  have hl := hS.lv
  refine escrowlaw15_DanceRaw.sound ?_
  unfold escrowlaw15_DanceRaw.S
  intro i1 f1
  have s1 := (Sp.nil G).row f1 c.av
  intro i3 f3
  have s3 := s1.row f3 (f.s.av vo vp vh)
  intro i5 f5
  have s5 := s3.row f5 u.av
  intro i7 f7
  have s7 := s5.row f7 m.av
  refine escrowlaw15_fixed.use (hT.mono s7.ro) fun G10 c10 => ?_
  have s10 := s7.tmp c10
  have s10 : Sp [] G [RowL i7 m.av, RowL i5 u.av, RowL i3 (f.s.av vo vp vh), RowL i1 c.av] G10 := s10
  rw [vun_not, wv_some, Bool.not_true, brB_false]
  have copy : ∀ {G1 : Heap} {K : AVal → Heap → Prop}, Sp [] G [RowL i7 m.av, RowL i5 u.av, RowL i3 (f.s.av vo vp vh), RowL i1 c.av] G1 →
      (∀ wo wp wh G2, StIn G2 f wo wp wh → Sp [] G [RowL i7 m.av, RowL i5 u.av, RowL i3 (f.s.av vo vp vh), RowL i1 c.av] G2 → K (f.s.av wo wp wh) G2) → ACalls P escrowlaw15_Copy.n [f.s.av vo vp vh] G1 K := by
    intro G1 K s hK
    refine escrowlaw15_Copy.use (hS.mv s.ch) fun wo wp wh G2 t2 => ?_
    exact hK wo wp wh G2 (StIn.copy (i := 2) (j := 1) (k := 0) hS t2 rfl rfl rfl) (s.tmp t2.ch)
  refine wv_of (St.ld (RowL.own (i := 2) s10 rfl) ho hl) ?_
  refine copy s10 fun wo wp wh G14 hC s14 => ?_
  refine dance_Fixed.use hC fun G16 c16 => ?_
  have s16 := s14.tmp c16
  refine wv_of (St.ld (RowL.own (i := 2) s16 rfl) ho hl) ?_
  refine copy s16 fun wo wp wh G19 hC s19 => ?_
  refine dance_Spendable.use hC fun G21 c21 => ?_
  have s21 := s19.tmp c21
  refine wv_of (St.ld (RowL.own (i := 2) s21 rfl) ho hl) ?_
  refine copy s21 fun wo wp wh G24 hC s24 => ?_
  refine dance_PeerSpendable.use hC fun G26 c26 => ?_
  have s26 := s24.tmp c26
  refine wv_of (St.ld (RowL.own (i := 2) s26 rfl) ho hl) ?_
  refine wv_of (upd_load (i := 1) s26 rfl hu).2.2.2.1 ?_
  refine copy s26 fun wo wp wh G30 hC s30 => ?_
  refine ⟨⟨(upd_load (i := 1) s30 rfl hu).2.2.2.1, trivial⟩, ?_⟩
  refine dance_Offer.use hC hu.hash fun G32 c32 => ?_
  have s32 := s30.tmp c32
  refine wv_of (St.ld (RowL.own (i := 2) s32 rfl) ho hl) ?_
  refine wv_of (upd_load (i := 1) s32 rfl hu).2.2.2.1 ?_
  refine copy s32 fun wo wp wh G36 hC s36 => ?_
  refine ⟨⟨(upd_load (i := 1) s36 rfl hu).2.2.2.1, trivial⟩, ?_⟩
  refine dance_Settle.use hC hid hu.hash fun G38 c38 => ?_
  have s38 := s36.tmp c38
  refine wv_of (St.ld (RowL.own (i := 2) s38 rfl) ho hl) ?_
  refine wv_of (upd_load (i := 1) s38 rfl hu).2.2.2.2.1 ?_
  refine copy s38 fun wo wp wh G42 hC s42 => ?_
  refine ⟨⟨(upd_load (i := 1) s42 rfl hu).2.2.2.2.1, trivial⟩, ?_⟩
  refine dance_Refuse.use hC hid hu.note fun G44 c44 => ?_
  have s44 := s42.tmp c44
  refine wv_of (Cf.ld (RowL.own (i := 3) s44 rfl) hc) ?_
  refine wv_of (St.ld (RowL.own (i := 2) s44 rfl) ho hl) ?_
  refine copy s44 fun wo wp wh G48 hC s48 => ?_
  refine ⟨⟨Cf.ld (RowL.own (i := 3) s48 rfl) hc, trivial⟩, ?_⟩
  refine dance_Sign.use hC fun G50 c50 => ?_
  have s50 := s48.tmp c50
  refine wv_of (Cf.ld (RowL.own (i := 3) s50 rfl) hc) ?_
  refine wv_of (St.ld (RowL.own (i := 2) s50 rfl) ho hl) ?_
  refine copy s50 fun wo wp wh G54 hC s54 => ?_
  refine ⟨⟨Cf.ld (RowL.own (i := 3) s54 rfl) hc, trivial⟩, ?_⟩
  refine dance_Again.use hC hc fun G56 c56 => ?_
  have s56 := s54.tmp c56
  generalize againS c f = W
  refine wv_of (St.ld (RowL.own (i := 2) s56 rfl) ho hl) ?_
  refine wv_of (upd_load (i := 1) s56 rfl hu).2.2.2.2.2 ?_
  refine copy s56 fun wo wp wh G60 hC s60 => ?_
  refine ⟨⟨(upd_load (i := 1) s60 rfl hu).2.2.2.2.2, trivial⟩, ?_⟩
  refine dance_Heard.use hC hu fun G62 c62 => ?_
  have s62 := s60.tmp c62
  refine wv_of (Cf.ld (RowL.own (i := 3) s62 rfl) hc) ?_
  refine wv_of (St.ld (RowL.own (i := 2) s62 rfl) ho hl) ?_
  refine wv_of (msg_load (i := 0) s62 rfl hmo).2.2.2.2.2.2.2.2 ?_
  refine copy s62 fun wo wp wh G67 hC s67 => ?_
  refine ⟨⟨(msg_load (i := 0) s67 rfl hmo).2.2.2.2.2.2.2.2, Cf.ld (RowL.own (i := 3) s67 rfl) hc, trivial⟩, ?_⟩
  refine dance_Came.use hC hc hmo fun w G69 t69 => ?_
  have s69 := s67.tmp t69.ch
  refine wv_of (Cf.ld (RowL.own (i := 3) s69 rfl) hc) ?_
  refine dance_Reveal.use hc fun G72 c72 => ?_
  have s72 := s69.tmp c72
  refine wv_of (St.ld (RowL.own (i := 2) s72 rfl) ho hl) ?_
  refine wv_of (msg_load (i := 0) s72 rfl hmo).2.2.2.2.2.2.2.2 ?_
  refine copy s72 fun wo wp wh G76 hC s76 => ?_
  refine ⟨⟨(msg_load (i := 0) s76 rfl hmo).2.2.2.2.2.2.2.2, trivial⟩, ?_⟩
  refine dance_Revoked.use (hT.mono s76.ro) hC hmo fun G78 c78 => ?_
  have s78 := s76.tmp c78
  refine wv_of (St.ld (RowL.own (i := 2) s78 rfl) ho hl) ?_
  refine copy s78 fun wo wp wh G81 hC s81 => ?_
  refine dance_Cut.use hC fun xo xp xh G83 t83 => ?_
  rfl

end Go.Esc.M
