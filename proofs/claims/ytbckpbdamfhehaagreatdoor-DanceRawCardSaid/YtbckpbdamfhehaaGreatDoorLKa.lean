import Derived.Test.YtbckpbdamfhehaaGreatDoorLNc
import Derived.Test.YtbckpbdamfhehaaGreatDoorLUf
import Derived.Test.YtbckpbdamfhehaaGreatDoorLSf
import Derived.Test.YtbckpbdamfhehaaGreatDoorLFa
import Derived.Test.YtbckpbdamfhehaaGreatDoorLMp
import Derived.Test.YtbckpbdamfhehaaGreatDoorLMc
/- Own work. Chapter 15: beginnings; copies; the first answers; DanceRaw. -/
set_option linter.unusedSimpArgs false
set_option linter.unusedVariables false
set_option maxRecDepth 20000
namespace Go.Esc.M
open Go Go.Esc

def stZ : List AVal := StM.zero.cs .nilSlice .nilSlice .nilSlice
theorem build_st {parts : List (Nat × AVal)} {r : StM} {a b c : AVal} (hs : ∀ p ∈ parts, stZ[p.1]?.map Esc.sz = some (Esc.sz p.2)) (he : setParts stZ parts = r.cs a b c) : vbuild T t_api_State parts = some (r.av a b c) := by
  refine (build_struct (zs := stZ) T_api_State rfl rfl rfl (plOk_of rfl) hs).trans ?_
  rw [he]; rfl
theorem sz_hash2 {a b c d : List UInt8} (ha : a.length = 32) (hb : b.length = 32) (hc : c.length = 32) (hd : d.length = 32) : some (Esc.sz (hash2V a b)) = some (Esc.sz (hash2V c d)) := by
  simp [hash2V, Esc.sz, szs, szh ha, szh hb, szh hc, szh hd]
theorem build_start {a b c d : Int} {x y : List UInt8} (hx : x.length = 32) (hy : y.length = 32) : vbuild T t_api_State [(0, .int .i64 a), (1, .int .i64 b), (2, .int .i64 c), (3, .int .i64 d), (13, hash2V x y), (17, .int .i64 (-1))] = some (({ StM.zero with side := a, cap := b, bo := c, bp := d, ptsA := x, ptsB := y, closed := -1 } : StM).av .nilSlice .nilSlice .nilSlice) := by
  refine build_st (fun p hp => ?_) rfl
  simp only [List.mem_cons, List.not_mem_nil, or_false] at hp
  rcases hp with rfl | rfl | rfl | rfl | rfl | rfl
  · rfl
  · rfl
  · rfl
  · rfl
  · exact sz_hash2 h0_len h0_len hx hy
  · rfl
theorem startS_ok {c : CfM} (h : c.ok) : (startS c).1.ok := by
  unfold startS
  by_cases hb : startB c
  · rw [if_pos hb]; exact StM.zero_ok
  · rw [if_neg hb]
    have h1 : ¬ right c.cap = false := fun hh => hb (.inr (.inr (.inr (.inl hh))))
    have h2 : right c.cap = true := by simpa using h1
    have h3 := right_spec.1 h2
    have h4 : ¬ c.ours < 0 := fun hh => hb (.inr (.inr (.inr (.inr (.inl hh)))))
    have h5 : ¬ c.cap < c.ours := fun hh => hb (.inr (.inr (.inr (.inr (.inr hh)))))
    exact ⟨h.side, h.cap, h.ours, i64_n (c.cap - c.ours) (by omega) (by omega), i64_0, i64_0, i64_0, i64_0, i64_0, i64_0, i64_0, i64_0, i64_0, h.ptsA, h.ptsB, rfl, i64_0, i64_n (-1) (by decide) (by decide)⟩

section
variable {F0 : List AId} {G0 G : Heap} {ps : List LP} {Q : AVal → Heap → Prop}

set_option maxHeartbeats 2000000 in
theorem dance_Start.use {c : CfM} (hc : c.ok) (hQ : ∀ G', Ch [] G [] G' → Q (.tuple [(startS c).1.av .nilSlice .nilSlice .nilSlice, .int .i64 (startS c).2]) G') : ACalls P dance_Start.n [c.av] G Q := by
  refine dance_Start.sound ?_
  unfold dance_Start.S
  rw [zSta]
  have hok := startS_ok hc
  intro i1 f1
  have s1 := (Sp.nil G).row f1 c.av
  intro i3 f3
  have s3 := s1.row f3 (StM.zero.av .nilSlice .nilSlice .nilSlice)
  revert s3
  generalize Heap.upd _ i3 _ = G4
  intro s3
  have hg := RowL.own (i := 1) s3 rfl
  intro J35
  have bad : startB c → J35 (.bool true) G4 := by
    intro hb
    unfold startS at hQ
    rw [if_pos hb] at hQ
    simp -zeta only [J35, brB_true]
    refine wv_of (v := StM.zero.av .nilSlice .nilSlice .nilSlice) rfl ?_
    refine St.st (i := 0) s3 rfl StM.zero_ok lv0 StM.zero_ok lv0 fun G23 s23 => ?_
    refine wv_of (St.ld (RowL.own (i := 0) s23 rfl) StM.zero_ok lv0) ?_
    exact hQ _ s23.ch
  have good : ¬ startB c → J35 (.bool false) G4 := by
    intro hb
    have h2 : right c.cap = true := by
      have h1 : ¬ right c.cap = false := fun hh => hb (.inr (.inr (.inr (.inl hh))))
      simpa using h1
    have h3 := right_spec.1 h2
    have h4 : ¬ c.ours < 0 := fun hh => hb (.inr (.inr (.inr (.inr (.inl hh)))))
    have h5 : ¬ c.cap < c.ours := fun hh => hb (.inr (.inr (.inr (.inr (.inr hh)))))
    unfold startS at hQ hok
    rw [if_neg hb] at hQ hok
    simp -zeta only [J35, brB_false]
    refine wv_of (Cf.ld_side hg hc) ?_
    refine wv_of (Cf.ld_cap hg hc) ?_
    refine wv_of (Cf.ld_ours hg hc) ?_
    refine wv_of (Cf.ld_cap hg hc) ?_
    refine wv_of (Cf.ld_ours hg hc) ?_
    rw [vbin_sub, i64_in (by omega) (by omega), wv_some]
    refine wv_of (Cf.ld_pts hg hc) ?_
    refine wv_of (build_start hc.ptsA hc.ptsB) ?_
    refine St.st (i := 0) s3 rfl StM.zero_ok lv0 hok lv0 fun G33 s33 => ?_
    refine wv_of (St.ld (RowL.own (i := 0) s33 rfl) hok lv0) ?_
    exact hQ _ s33.ch
  refine wv_of (Cf.ld_side hg hc) ?_
  rw [vbin_lss, wv_some, brB_dec]
  refine ⟨fun h => bad (.inl h), fun h1 => ?_⟩
  refine wv_of (Cf.ld_side hg hc) ?_
  rw [vbin_gtr, wv_some, brB_dec]
  refine ⟨fun h => bad (.inr (.inl h)), fun h2 => ?_⟩
  refine wv_of (Cf.ld_cap hg hc) ?_
  rw [vbin_lss, wv_some, brB_dec]
  refine ⟨fun h => bad (.inr (.inr (.inl h))), fun h3 => ?_⟩
  refine wv_of (Cf.ld_cap hg hc) ?_
  refine amount_Right.use ?_
  rw [vun_not, wv_some]
  cases h4 : right c.cap with
  | false => exact bad (.inr (.inr (.inr (.inl h4))))
  | true =>
    rw [Bool.not_true, brB_false]
    refine wv_of (Cf.ld_ours hg hc) ?_
    rw [vbin_lss, wv_some, brB_dec]
    refine ⟨fun h => bad (.inr (.inr (.inr (.inr (.inl h))))), fun h5 => ?_⟩
    refine wv_of (Cf.ld_ours hg hc) ?_
    refine wv_of (Cf.ld_cap hg hc) ?_
    rw [vbin_gtr, wv_some]
    by_cases h6 : c.cap < c.ours
    · rw [decide_eq_true h6]
      exact bad (.inr (.inr (.inr (.inr (.inr h6)))))
    · rw [decide_eq_false h6]
      exact good (by rintro (h | h | h | h | h | h); exact h1 h; exact h2 h; exact h3 h; (rw [h4] at h; cases h); exact h5 h; exact h6 h)

theorem escrowlaw15_Copy.use {f : StF} {vo vp vh : AVal} (hS : StIn G f vo vp vh) (hQ : ∀ wo wp wh G', Sp [] G [OwnL 34 wh (f.h.map SlotM.av), OwnL 36 wp (f.p.map UpdM.av), OwnL 36 wo (f.o.map UpdM.av)] G' → Q (f.s.av wo wp wh) G') : ACalls P escrowlaw15_Copy.n [f.s.av vo vp vh] G Q := by
  have ho := hS.ok
  have hl := hS.lv
  have hlo := hS.lo
  have hlp := hS.lp
  have hlh := hS.lh
  refine escrowlaw15_Copy.sound ?_
  unfold escrowlaw15_Copy.S
  rw [zSta]
  intro i1 f1
  have s1 := (Sp.nil G).row f1 (f.s.av vo vp vh)
  intro i3 f3
  have s3 := s1.row f3 (StM.zero.av .nilSlice .nilSlice .nilSlice)
  revert s3
  generalize Heap.upd _ i3 _ = G4
  intro s3
  refine wv_of (St.ld_ours (RowL.own (i := 1) s3 rfl) ho hl) ?_
  have grow : ∀ {ps : List LP} {G1 : Heap} {x : AVal} {l : List UpdM} {K : AVal → Heap → Prop}, Sp [] G ps G1 → IsSl 36 G x (l.map UpdM.av) → (∀ u ∈ l, u.ok) → l.length ≤ 1048576 → (∀ w G2, Sp [] G (OwnL 36 w (l.map UpdM.av) :: ps) G2 → K w G2) → aAppend T G1 t_sl_api_Update t_sl_api_Update .nilSlice x K := by
    intro ps G1 x l K s hx hok hlen hK
    refine growL (T := T) (ts := t_sl_api_Update) (e := t_api_Update) (si := ti_sl_api_Update) (ie := ti_api_Update) (tx := t_sl_api_Update) (xi := ti_sl_api_Update) (i := 0) (vs := []) (xs := l.map UpdM.av) T_sl_api_Update rfl T_api_Update rfl (by decide) T_sl_api_Update (.inr ⟨_, rfl⟩) (s.nilL 36) rfl (hx.ch' s.ch).elems (upds_uni hok).1 (upds_uni hok).2 (by rw [show ti_api_Update.bytes = 72 from rfl, List.length_map]; simp; omega) fun w G5 s5 => ?_
    exact hK w G5 s5
  refine grow s3 hS.o.isSl hS.oko hS.lo fun wo G7 s7 => ?_
  have lo : Leaf wo := (OwnL.own (i := 0) s7 rfl).leaf
  refine St.st_ours (i := 2) s7 rfl ho hl lo fun G8 s8 => ?_
  refine wv_of (St.ld_peers (RowL.own (i := 2) s8 rfl) ho ⟨lo, hl.2.1, hl.2.2⟩) ?_
  refine grow s8 hS.p.isSl hS.okp hS.lp fun wp G11 s11 => ?_
  have lp : Leaf wp := (OwnL.own (i := 0) s11 rfl).leaf
  refine St.st_peers (i := 3) s11 rfl ho ⟨lo, hl.2.1, hl.2.2⟩ lp fun G12 s12 => ?_
  refine wv_of (St.ld_shelf (RowL.own (i := 3) s12 rfl) ho ⟨lo, lp, hl.2.2⟩) ?_
  refine growL (T := T) (ts := t_sl_api_Slot) (e := t_api_Slot) (si := ti_sl_api_Slot) (ie := ti_api_Slot) (tx := t_sl_api_Slot) (xi := ti_sl_api_Slot) (i := 0) (vs := []) (xs := f.h.map SlotM.av) T_sl_api_Slot rfl T_api_Slot rfl (by decide) T_sl_api_Slot (.inr ⟨_, rfl⟩) (s12.nilL 34) rfl (hS.h.isSl.ch' s12.ch).elems (uni_slots hS.okh) (okvs_slots f.h) (by rw [show ti_api_Slot.bytes = 48 from rfl, List.length_map]; simp; omega) fun wh G15 s15 => ?_
  have lh : Leaf wh := (OwnL.own (i := 0) s15 rfl).leaf
  refine St.st_shelf (i := 4) s15 rfl ho ⟨lo, lp, hl.2.2⟩ lh fun G16 s16 => ?_
  refine wv_of (St.ld (RowL.own (i := 4) s16 rfl) ho ⟨lo, lp, lh⟩) ?_
  refine St.st (i := 3) s16 rfl StM.zero_ok lv0 ho ⟨lo, lp, lh⟩ fun G18 s18 => ?_
  refine wv_of (St.ld (RowL.own (i := 3) s18 rfl) ho ⟨lo, lp, lh⟩) ?_
  exact hQ wo wp wh G18 ((s18.erase 3).erase 3)

/-- What a copy is. -/
theorem StIn.copy {f : StF} {vo vp vh wo wp wh : AVal} {G1 : Heap} {i j k : Nat} (hS : StIn G f vo vp vh) (s : Sp F0 G0 ps G1) (ho : ps[i]? = some (OwnL 36 wo (f.o.map UpdM.av))) (hp : ps[j]? = some (OwnL 36 wp (f.p.map UpdM.av))) (hh : ps[k]? = some (OwnL 34 wh (f.h.map SlotM.av))) : StIn G1 f wo wp wh :=
  ⟨hS.ok, Own.capSl (OwnL.own s ho), Own.capSl (OwnL.own s hp), Own.capSl (OwnL.own s hh), hS.oko, hS.okp, hS.okh, hS.lo, hS.lp, hS.lh⟩

def pointS (s : List UInt8) (n : Int) : List UInt8 := sha (secretS s n).1
theorem pointS_len (s : List UInt8) (n : Int) : (pointS s n).length = 32 := length_sha' _
theorem escrowlaw15_Point.use {s : List UInt8} {n : Int} (hs : s.length = 32) (hQ : ∀ G', Ch [] G [] G' → Q (.agg ((pointS s n).map u8v)) G') : ACalls P escrowlaw15_Point.n [.agg (s.map u8v), .int .i64 n] G Q := by
  refine escrowlaw15_Point.sound ?_
  unfold escrowlaw15_Point.S
  rw [z_hash]
  intro i1 f1
  have s1 := (Sp.nil G).row f1 (.agg (s.map u8v))
  intro i3 f3
  have s3 := s1.row f3 (.agg ((List.replicate 32 (0 : UInt8)).map u8v))
  rw [← z_hash]
  refine wv_of (load_hash hs (RowL.own (i := 1) s3 rfl)) ?_
  refine escrowref09_Secret.use hs fun G7 c7 => ?_
  have s7 := s3.tmp c7
  have hx := secretS_len hs n
  refine wv_of (hi0 _) ?_
  refine wv_of (hi1 _) ?_
  refine newHash s7 hx fun i10 G12 s12 => ?_
  refine wv_of (load_hash hx (RowL.own (i := 0) s12 rfl)) ?_
  refine escrowref09_Point.use hx fun G15 c15 => ?_
  have s15 := s12.tmp c15
  have hz : (sha (secretS s n).1).length = 32 := length_sha' _
  refine hash_store (i := 1) s15 rfl (by simp) hz fun G16 s16 => ?_
  refine wv_of (load_hash hz (RowL.own (i := 1) s16 rfl)) ?_
  exact hQ _ s16.ch

def cf2V (a b : CfM) : AVal := .agg [a.av, b.av]
def CfM.zero : CfM := ⟨0, 0, 0, h0, h0, h0, h0, h0, 0⟩
theorem CfM.zero_ok : CfM.zero.ok := ⟨i64_0, i64_0, i64_0, rfl, rfl, rfl, rfl, rfl, i64_0⟩
def cfZ : List AVal := CfM.zero.cs
theorem cf2_szl {a b : CfM} (ha : a.ok) (hb : b.ok) : [a.av, b.av].map Esc.sz = [164, 164] := by simp [CfM.sz ha, CfM.sz hb]
theorem cf2_fits {a b : CfM} (ha : a.ok) (hb : b.ok) : vfits ti_ar2_api_Config (cf2V a b) = true := by
  simp [vfits, cf2V, Esc.sz, szs, CfM.sz ha, CfM.sz hb, ti_ar2_api_Config, AVal.isAgg, ADesc.isAgg]
theorem cf2_sz {a b : CfM} (ha : a.ok) (hb : b.ok) : Esc.sz (cf2V a b) = 328 := by simp [cf2V, Esc.sz, szs, CfM.sz ha, CfM.sz hb]
theorem cf2_okv (a b : CfM) : Esc.okv (cf2V a b) = true := by simp [cf2V, Esc.okv, okvs, CfM.okv]
theorem zCf2 : z_ar2_api_Config = cf2V CfM.zero CfM.zero := rfl
theorem build_cf {a b c : Int} {x y z p q : List UInt8} (hx : x.length = 32) (hy : y.length = 32) (hz : z.length = 32) (hp : p.length = 32) (hq : q.length = 32) :
    vbuild T t_api_Config [(0, .int .i64 a), (1, .int .i64 b), (2, .int .i64 c), (3, .agg (x.map u8v)), (4, .agg (y.map u8v)), (5, .agg (z.map u8v)), (6, hash2V p q), (7, .int .i64 4096)] = some (CfM.av ⟨a, b, c, x, y, z, p, q, 4096⟩) := by
  refine (build_struct (zs := cfZ) T_api_Config rfl rfl rfl (plOk_of rfl) fun r hr => ?_).trans rfl
  simp only [List.mem_cons, List.not_mem_nil, or_false] at hr
  rcases hr with rfl | rfl | rfl | rfl | rfl | rfl | rfl | rfl
  · rfl
  · rfl
  · rfl
  · exact szHash hx
  · exact szHash hy
  · exact szHash hz
  · exact sz_hash2 h0_len h0_len hp hq
  · rfl
theorem build_h2 {p q : List UInt8} (hp : p.length = 32) (hq : q.length = 32) : vbuild T t_ar2_api_Hash [(0, .agg (p.map u8v)), (1, .agg (q.map u8v))] = some (hash2V p q) := by
  refine (build_array (zs := [.agg (h0.map u8v), .agg (h0.map u8v)]) T_ar2_api_Hash rfl T_api_Hash rfl ?_ fun r hr => ?_).trans rfl
  · simp [Esc.uni, Esc.sz, szh h0_len, ti_api_Hash]
  · simp only [List.mem_cons, List.not_mem_nil, or_false] at hr
    rcases hr with rfl | rfl
    · exact szHash hp
    · exact szHash hq
/-- Both sides' configs. -/
def cfg0 (d : DlM) : CfM := ⟨0, d.cap, d.ours, d.seedsA, d.keysA, d.keysB, pointS d.seedsB 0, pointS d.seedsB 1, 4096⟩
def cfg1 (d : DlM) : CfM := ⟨1, d.cap, IntKind.i64.wrap (d.cap - d.ours), d.seedsB, d.keysB, d.keysA, pointS d.seedsA 0, pointS d.seedsA 1, 4096⟩
theorem cfg0_ok {d : DlM} (h : d.ok) : (cfg0 d).ok := ⟨i64_0, h.cap, h.ours, h.seedsA, h.keysA, h.keysB, pointS_len _ _, pointS_len _ _, i64_n 4096 (by decide) (by decide)⟩
theorem cfg1_ok {d : DlM} (h : d.ok) : (cfg1 d).ok := ⟨i64_n 1 (by decide) (by decide), h.cap, hw64 _, h.seedsB, h.keysB, h.keysA, pointS_len _ _, pointS_len _ _, i64_n 4096 (by decide) (by decide)⟩

set_option maxHeartbeats 4000000 in
theorem escrowlaw15_Configs.use {d : DlM} (hd : d.ok) (hQ : ∀ G', Ch [] G [] G' → Q (cf2V (cfg0 d) (cfg1 d)) G') : ACalls P escrowlaw15_Configs.n [d.av] G Q := by
  refine escrowlaw15_Configs.sound ?_
  unfold escrowlaw15_Configs.S
  rw [zCf2]
  intro i1 f1
  have s1 := (Sp.nil G).row f1 d.av
  intro i3 f3
  have s3 := s1.row f3 (cf2V CfM.zero CfM.zero)
  intro i5 f5
  have s5 := s3.row f5 (cf2V CfM.zero CfM.zero)
  revert s5
  generalize Heap.upd _ i5 _ = G6
  intro s5
  have o0 := cfg0_ok hd
  have o1 := cfg1_ok hd
  obtain ⟨C0, hC0⟩ : ∃ C, C = cfg0 d := ⟨_, rfl⟩
  obtain ⟨C1, hC1⟩ : ∃ C, C = cfg1 d := ⟨_, rfl⟩
  obtain ⟨b0, hb0⟩ : ∃ z, z = pointS d.seedsB 0 := ⟨_, rfl⟩
  obtain ⟨b1, hb1⟩ : ∃ z, z = pointS d.seedsB 1 := ⟨_, rfl⟩
  obtain ⟨a0, ha0⟩ : ∃ z, z = pointS d.seedsA 0 := ⟨_, rfl⟩
  obtain ⟨a1, ha1⟩ : ∃ z, z = pointS d.seedsA 1 := ⟨_, rfl⟩
  have lb0 : b0.length = 32 := by rw [hb0]; exact pointS_len _ _
  have lb1 : b1.length = 32 := by rw [hb1]; exact pointS_len _ _
  have la0 : a0.length = 32 := by rw [ha0]; exact pointS_len _ _
  have la1 : a1.length = 32 := by rw [ha1]; exact pointS_len _ _
  have e0 : C0 = ⟨0, d.cap, d.ours, d.seedsA, d.keysA, d.keysB, b0, b1, 4096⟩ := by rw [hC0, hb0, hb1]; rfl
  have e1 : C1 = ⟨1, d.cap, IntKind.i64.wrap (d.cap - d.ours), d.seedsB, d.keysB, d.keysA, a0, a1, 4096⟩ := by rw [hC1, ha0, ha1]; rfl
  rw [← hC0, ← hC1] at hQ
  rw [← hC0] at o0
  rw [← hC1] at o1
  have zo := CfM.zero_ok
  intro R7 hR7
  refine hR7 _ _ _ _ _ ?_
  rw [vbin_lss, wv_some, decide_eq_true (by decide), brB_true]
  have hg := RowL.own (i := 2) s5 rfl
  refine wv_of (v := .ptr i1 [1] 1) rfl ?_
  refine wv_of (Dl.ld_ours hg hd) ?_
  rw [vbin_eql, wv_some, decide_eq_false (by decide)]
  intro J52
  rw [brB_false]
  simp -zeta only [J52]
  refine wv_of (v := .ptr i1 [0] 0) rfl ?_
  refine wv_of (Dl.ld_cap hg hd) ?_
  refine wv_of (v := .ptr i1 [2] 2) rfl ?_
  refine wv_of (v := .ptr i1 [2, 0] 2) rfl ?_
  refine wv_of (Dl.ld_seedsA hg hd) ?_
  refine wv_of (v := .ptr i1 [3] 66) rfl ?_
  refine wv_of (v := .ptr i1 [3, 0] 66) rfl ?_
  refine wv_of (Dl.ld_keysA hg hd) ?_
  rw [vbin_sub, i64_in (by decide) (by decide), wv_some]
  refine wv_of (v := .ptr i1 [3] 66) rfl ?_
  refine wv_of (v := .ptr i1 [3, 1] 98) rfl ?_
  refine wv_of (Dl.ld_keysB hg hd) ?_
  rw [wv_some]
  refine wv_of (v := .ptr i1 [2] 2) rfl ?_
  refine wv_of (v := .ptr i1 [2, 1] 34) rfl ?_
  refine wv_of (Dl.ld_seedsB hg hd) ?_
  rw [wv_some]
  refine wv_of (v := .ptr i1 [2] 2) rfl ?_
  refine wv_of (v := .ptr i1 [2, 1] 34) rfl ?_
  refine wv_of (Dl.ld_seedsB hg hd) ?_
  refine escrowlaw15_Point.use hd.seedsB fun G45 c45 => ?_
  rw [← hb0]
  have s45 := s5.tmp c45
  have hg := RowL.own (i := 2) s45 rfl
  refine ⟨⟨Dl.ld_seedsB hg hd, Dl.ld_keysB hg hd, Dl.ld_keysA hg hd, Dl.ld_seedsA hg hd, Dl.ld_cap hg hd, trivial⟩, ?_⟩
  refine escrowlaw15_Point.use hd.seedsB fun G47 c47 => ?_
  rw [← hb1]
  have s47 := s45.tmp c47
  have hg := RowL.own (i := 2) s47 rfl
  refine ⟨⟨Dl.ld_keysB hg hd, Dl.ld_keysA hg hd, Dl.ld_seedsA hg hd, Dl.ld_cap hg hd, trivial⟩, ?_⟩
  refine wv_of (build_h2 lb0 lb1) ?_
  refine wv_of (build_cf hd.seedsA hd.keysA hd.keysB lb0 lb1) ?_
  rw [← e0]
  refine wv_of (v := .ptr i5 [0] 0) rfl ?_
  refine wg_of (st1 (c := C0.av) (RowL.own (i := 0) s47 rfl) (cf2_szl zo zo) rfl rfl T_api_Config (CfM.fits o0) (by rw [CfM.sz o0, CfM.sz zo]) (CfM.okv)) ?_
  have s51 := Sp.setRow (j := 0) s47 rfl (cf2V C0 CfM.zero)
  revert s51
  show Sp [] G _ (Heap.upd G47 i5 (.own (.agg ([CfM.zero.av, CfM.zero.av].set 0 C0.av)))) → _
  generalize Heap.upd G47 i5 _ = G51
  intro s51
  refine wv_of (v := .int .i64 1) rfl ?_
  refine hR7 _ _ _ _ _ ?_
  rw [vbin_lss, wv_some, decide_eq_true (by decide), brB_true]
  have hg := RowL.own (i := 2) s51 rfl
  refine wv_of (v := .ptr i1 [1] 1) rfl ?_
  refine wv_of (Dl.ld_ours hg hd) ?_
  rw [vbin_eql, wv_some, decide_eq_true (by decide)]
  intro J52
  rw [brB_true]
  refine wv_of (v := .ptr i1 [0] 0) rfl ?_
  refine wv_of (Dl.ld_cap hg hd) ?_
  refine wv_of (v := .ptr i1 [1] 1) rfl ?_
  refine wv_of (Dl.ld_ours hg hd) ?_
  rw [vbin_sub, wv_some]
  simp -zeta only [J52]
  refine wv_of (v := .ptr i1 [0] 0) rfl ?_
  refine wv_of (Dl.ld_cap hg hd) ?_
  refine wv_of (v := .ptr i1 [2] 2) rfl ?_
  refine wv_of (v := .ptr i1 [2, 1] 34) rfl ?_
  refine wv_of (Dl.ld_seedsB hg hd) ?_
  refine wv_of (v := .ptr i1 [3] 66) rfl ?_
  refine wv_of (v := .ptr i1 [3, 1] 98) rfl ?_
  refine wv_of (Dl.ld_keysB hg hd) ?_
  rw [vbin_sub, i64_in (n := 1 - 1) (by decide) (by decide), wv_some]
  refine wv_of (v := .ptr i1 [3] 66) rfl ?_
  refine wv_of (v := .ptr i1 [3, 0] 66) rfl ?_
  refine wv_of (Dl.ld_keysA hg hd) ?_
  rw [wv_some]
  refine wv_of (v := .ptr i1 [2] 2) rfl ?_
  refine wv_of (v := .ptr i1 [2, 0] 2) rfl ?_
  refine wv_of (Dl.ld_seedsA hg hd) ?_
  rw [wv_some]
  refine wv_of (v := .ptr i1 [2] 2) rfl ?_
  refine wv_of (v := .ptr i1 [2, 0] 2) rfl ?_
  refine wv_of (Dl.ld_seedsA hg hd) ?_
  refine escrowlaw15_Point.use hd.seedsA fun G45 c45 => ?_
  rw [← ha0]
  have s45 := s51.tmp c45
  have hg := RowL.own (i := 2) s45 rfl
  refine ⟨⟨Dl.ld_seedsA hg hd, Dl.ld_keysA hg hd, Dl.ld_keysB hg hd, Dl.ld_seedsB hg hd, Dl.ld_cap hg hd, trivial⟩, ?_⟩
  refine escrowlaw15_Point.use hd.seedsA fun G47 c47 => ?_
  rw [← ha1]
  have s47 := s45.tmp c47
  have hg := RowL.own (i := 2) s47 rfl
  refine ⟨⟨Dl.ld_keysA hg hd, Dl.ld_keysB hg hd, Dl.ld_seedsB hg hd, Dl.ld_cap hg hd, trivial⟩, ?_⟩
  refine wv_of (build_h2 la0 la1) ?_
  refine wv_of (build_cf hd.seedsB hd.keysB hd.keysA la0 la1) ?_
  rw [← e1]
  refine wv_of (v := .ptr i5 [1] 164) rfl ?_
  refine wg_of (st1 (c := C1.av) (RowL.own (i := 0) s47 rfl) (cf2_szl o0 zo) rfl rfl T_api_Config (CfM.fits o1) (by rw [CfM.sz o1, CfM.sz zo]) (CfM.okv)) ?_
  have s51 := Sp.setRow (j := 0) s47 rfl (cf2V C0 C1)
  revert s51
  show Sp [] G _ (Heap.upd G47 i5 (.own (.agg ([C0.av, CfM.zero.av].set 1 C1.av)))) → _
  generalize Heap.upd G47 i5 _ = G51
  intro s51
  refine wv_of (v := .int .i64 2) rfl ?_
  refine hR7 _ _ _ _ _ ?_
  rw [vbin_lss, wv_some, decide_eq_false (by decide), brB_false]
  refine wv_of (whole_load T_ar2_api_Config (RowL.own (i := 0) s51 rfl) (cf2_fits o0 o1)) ?_
  refine wg_of (whole_store (c := cf2V C0 C1) T_ar2_api_Config (RowL.own (i := 1) s51 rfl) (cf2_fits o0 o1) (by rw [cf2_sz zo zo, cf2_sz o0 o1]) (cf2_okv _ _)) ?_
  have s55 := Sp.setRow (j := 1) s51 rfl (cf2V C0 C1)
  refine wv_of (whole_load T_ar2_api_Config (RowL.own (i := 1) s55 rfl) (cf2_fits o0 o1)) ?_
  exact hQ _ s55.ch

end

end Go.Esc.M

/- Own work. Chapter 15: the first answers; DanceRaw. -/
set_option linter.unusedSimpArgs false
set_option linter.unusedVariables false
set_option maxRecDepth 20000
namespace Go.Esc.M
open Go Go.Esc

def d15 : DlM := ⟨1000, 700, h0, h0, h0, h0⟩
theorem d15_ok : d15.ok := ⟨i64_n 1000 (by decide) (by decide), i64_n 700 (by decide) (by decide), rfl, rfl, rfl, rfl⟩
def c15 (a b : List UInt8) : CfM := ⟨0, 1000, 700, h0, h0, h0, a, b, 4096⟩
def s15 (a b : List UInt8) : StM := { StM.zero with side := 0, cap := 1000, bo := 700, bp := 300, ptsA := a, ptsB := b, closed := -1 }
def f15 (a b : List UInt8) : StF := ⟨s15 a b, [], [], []⟩
def h1M : List UInt8 := 1 :: List.replicate 31 0
def u15 : UpdM := ⟨1, 0, 600, h1M, []⟩
theorem u15_ok : u15.ok := ⟨i64_n 1 (by decide) (by decide), i64_0, i64_n 600 (by decide) (by decide), rfl, by decide⟩
theorem start_15 (a b : List UInt8) : startS (c15 a b) = (s15 a b, 0) := rfl
theorem start_no : startS CfM.zero = (StM.zero, 1) := rfl
theorem spendO_15 (a b : List UInt8) : spendO (f15 a b) = 700 := rfl
theorem spendP_15 (a b : List UInt8) : spendP (f15 a b) = 300 := rfl
theorem offer_1 (a b : List UInt8) : offerS (f15 a b) 701 h0 = noR 130 := rfl
theorem offer_2 (a b : List UInt8) : offerS (f15 a b) 0 h0 = noR 80 := rfl
theorem offer_3 (a b : List UInt8) : offerS (f15 a b) 600 h1M = (recOurs u15, 0) := rfl
theorem sign_15 (a b : List UInt8) : signS (f15 a b) = noR 8 := rfl
theorem came_15 (a b : List UInt8) : cameS (c15 a b) (f15 a b) { MsgM.zero with kind := 4, index := 2 } = noC 90 := rfl
theorem rev_15 (a b : List UInt8) : revokedS (f15 a b) { MsgM.zero with kind := 5 } = noR 90 := rfl

section
variable {F0 : List AId} {G0 G : Heap} {ps : List LP} {Q : AVal → Heap → Prop}

theorem f15_in {a b : List UInt8} (ha : a.length = 32) (hb : b.length = 32) (G : Heap) : StIn G (f15 a b) .nilSlice .nilSlice .nilSlice :=
  ⟨⟨i64_0, i64_n 1000 (by decide) (by decide), i64_n 700 (by decide) (by decide), i64_n 300 (by decide) (by decide), i64_0, i64_0, i64_0, i64_0, i64_0, i64_0, i64_0, i64_0, i64_0, ha, hb, rfl, i64_0, i64_n (-1) (by decide) (by decide)⟩, CapSl.nil, CapSl.nil, CapSl.nil, by simp [f15], by simp [f15], by simp [f15], by simp [f15], by simp [f15], by simp [f15]⟩
theorem cf_index {a b : CfM} (ha : a.ok) (hb : b.ok) : vindex T t_ar2_api_Config (cf2V a b) (.int .i64 0) = some a.av := by
  have h1 : Esc.uni 164 [a.av, b.av] = true := by simp [Esc.uni, CfM.sz ha, CfM.sz hb]
  have h2 := CfM.fits ha
  simp only [vindex, cf2V, T_ar2_api_Config, show ti_ar2_api_Config.desc = .array 2 t_api_Config from rfl, T_api_Config]
  have h3 : Esc.uni ti_api_Config.size [a.av, b.av] = true := h1
  simp [h2, h3]
theorem m15_ok : ({ MsgM.zero with kind := 4, index := 2 } : MsgM).ok := ⟨i64_n 4 (by decide) (by decide), i64_0, i64_0, i64_n 2 (by decide) (by decide), i64_0, rfl, rfl, by simp [MsgM.zero]⟩
theorem m16_ok : ({ MsgM.zero with kind := 5 } : MsgM).ok := ⟨i64_n 5 (by decide) (by decide), i64_0, i64_0, i64_0, i64_0, rfl, rfl, by simp [MsgM.zero]⟩

set_option maxHeartbeats 4000000 in
theorem escrowlaw15_fixed.use (hT : Tab G) (hQ : ∀ G', Ch [] G [] G' → Q (.bool true) G') : ACalls P escrowlaw15_fixed.n [] G Q := by
  refine escrowlaw15_fixed.sound ?_
  unfold escrowlaw15_fixed.S
  refine wv_of (v := d15.av) rfl ?_
  refine escrowlaw15_Configs.use d15_ok fun G3 c3 => ?_
  have s3 := (Sp.nil G).tmp c3
  obtain ⟨x, hx⟩ : ∃ z, z = pointS h0 0 := ⟨_, rfl⟩
  obtain ⟨y, hy⟩ : ∃ z, z = pointS h0 1 := ⟨_, rfl⟩
  have lx : x.length = 32 := by rw [hx]; exact pointS_len _ _
  have ly : y.length = 32 := by rw [hy]; exact pointS_len _ _
  have e0 : cfg0 d15 = c15 x y := by rw [hx, hy]; rfl
  obtain ⟨C1, hC1⟩ : ∃ C, C = cfg1 d15 := ⟨_, rfl⟩
  rw [e0, ← hC1]
  have hc : (c15 x y).ok := by rw [← e0]; exact cfg0_ok d15_ok
  have hS := f15_in lx ly
  have hso := (hS G).ok
  refine wv_of (cf_index hc (by rw [hC1]; exact cfg1_ok d15_ok)) ?_
  refine Cf.nw s3 hc fun i5 G7 s7 => ?_
  refine wv_of (Cf.ld (RowL.own (i := 0) s7 rfl) hc) ?_
  refine dance_Start.use hc fun G10 c10 => ?_
  have s10 := s7.tmp c10
  rw [start_15]
  refine wv_of (tv0 _ _) ?_
  refine wv_of (tv1 _ _) ?_
  refine St.nw s10 hso lv0 fun i13 G15 s15 => ?_
  refine wv_of (v := CfM.zero.av) rfl ?_
  refine dance_Start.use CfM.zero_ok fun G18 c18 => ?_
  have s18 := s15.tmp c18
  rw [start_no]
  refine wv_of (tv0 _ _) ?_
  refine wv_of (tv1 _ _) ?_
  refine St.nw s18 StM.zero_ok lv0 fun i21 G23 s23 => ?_
  have s23 : Sp [] G [RowL i21 (StM.zero.av .nilSlice .nilSlice .nilSlice), RowL i13 ((f15 x y).s.av .nilSlice .nilSlice .nilSlice), RowL i5 (c15 x y).av] G23 := s23
  intro J111
  have go : ∀ G2, Sp [] G [RowL i21 (StM.zero.av .nilSlice .nilSlice .nilSlice), RowL i13 ((f15 x y).s.av .nilSlice .nilSlice .nilSlice), RowL i5 (c15 x y).av] G2 → J111 (.bool false) G2 := by
    intro G40 s40
    simp -zeta only [J111, brB_false]
    refine wv_of (St.ld (RowL.own (i := 1) s40 rfl) hso lv0) ?_
    refine wv_of (v := .agg (h0.map u8v)) rfl ?_
    refine dance_Offer.use (hS _) h0_len fun G45 c45 => ?_
    have s45 := s40.tmp c45
    rw [offer_1]
    refine wv_of (tr0 _) ?_
    refine wv_of (tr1 _) ?_
    refine Rc.nw s45 RcM.zero_ok Leaf.nil fun i48 G50 s50 => ?_
    refine wv_of (St.ld (RowL.own (i := 2) s50 rfl) hso lv0) ?_
    refine wv_of (v := .agg (h0.map u8v)) rfl ?_
    refine dance_Offer.use (hS _) h0_len fun G54 c54 => ?_
    have s54 := s50.tmp c54
    rw [offer_2]
    refine wv_of (tr0 _) ?_
    refine wv_of (tr1 _) ?_
    refine Rc.nw s54 RcM.zero_ok Leaf.nil fun i57 G59 s59 => ?_
    refine wv_of (St.ld (RowL.own (i := 3) s59 rfl) hso lv0) ?_
    refine wv_of (v := .agg (h1M.map u8v)) rfl ?_
    refine dance_Offer.use (hS _) (by rfl) fun G63 c63 => ?_
    have s63 := s59.tmp c63
    rw [offer_3]
    refine wv_of (tr0 _) ?_
    refine wv_of (tr1 _) ?_
    refine Rc.nw s63 (recOurs_ok u15_ok) Leaf.nil fun i66 G68 s68 => ?_
    refine wv_of (Cf.ld (RowL.own (i := 5) s68 rfl) hc) ?_
    refine wv_of (St.ld (RowL.own (i := 4) s68 rfl) hso lv0) ?_
    refine dance_Sign.use (hS _) fun G72 c72 => ?_
    have s72 := s68.tmp c72
    rw [sign_15]
    refine wv_of (tr0 _) ?_
    refine wv_of (tr1 _) ?_
    refine Rc.nw s72 RcM.zero_ok Leaf.nil fun i75 G77 s77 => ?_
    refine wv_of (Cf.ld (RowL.own (i := 6) s77 rfl) hc) ?_
    refine wv_of (St.ld (RowL.own (i := 5) s77 rfl) hso lv0) ?_
    refine wv_of (v := ({ MsgM.zero with kind := 4, index := 2 } : MsgM).av) rfl ?_
    refine dance_Came.use (hS _) hc m15_ok fun w G82 t82 => ?_
    rw [came_15] at t82 ⊢
    have s82 := s77.tmp t82.ch
    have lw : Leaf w := (OwnL.own (i := 0) t82 rfl).leaf
    refine wv_of (tv0 _ _) ?_
    refine wv_of (tv1 _ _) ?_
    refine Rc.nw s82 RcM.zero_ok lw fun i85 G87 s87 => ?_
    refine wv_of (St.ld (RowL.own (i := 6) s87 rfl) hso lv0) ?_
    refine wv_of (v := ({ MsgM.zero with kind := 5 } : MsgM).av) rfl ?_
    refine dance_Revoked.use (hT.mono s87.ro) (hS _) m16_ok fun G91 c91 => ?_
    have s91 := s87.tmp c91
    rw [rev_15]
    refine wv_of (tr0 _) ?_
    refine wv_of (tr1 _) ?_
    refine Rc.nw s91 RcM.zero_ok Leaf.nil fun i94 G96 s96 => ?_
    have e3 : ∀ n : Int, vbin T .eql t_api_Errno (.int .i64 n) (.int .i64 n) = some (.bool true) := fun n => ez0
    refine wv_of (e3 130) ?_
    rw [brB_true]
    refine wv_of (e3 80) ?_
    rw [brB_true]
    refine wv_of (e3 0) ?_
    rw [brB_true]
    have hg := RowL.own (i := 3) s96 rfl
    refine wv_of (Rc.ld_kind hg (recOurs_ok u15_ok) Leaf.nil) ?_
    refine wv_of (v := .bool true) rfl ?_
    rw [brB_true]
    refine wv_of (Rc.ld_upd hg (recOurs_ok u15_ok) Leaf.nil) ?_
    refine wv_of (v := .agg (h1M.map u8v)) rfl ?_
    refine wv_of (v := u15.av) rfl ?_
    refine wv_of (v := .bool true) ?_ ?_
    · show vbin T .eql t_api_Update u15.av u15.av = _
      rw [vbin_ueql u15_ok u15_ok, decide_eq_true rfl]
    rw [brB_true]
    refine wv_of (e3 8) ?_
    rw [brB_true]
    refine wv_of (e3 90) ?_
    rw [brB_true]
    refine wv_of (e3 90) ?_
    exact hQ _ s96.ch
  have ne : ∀ {t : TypeId} (n : Int), vbin T .neq t (.int .i64 n) (.int .i64 n) = some (.bool false) := fun n => nz0
  refine wv_of (ne 0) ?_
  rw [brB_false]
  refine wv_of (ne 1) ?_
  rw [brB_false]
  have hg := RowL.own (i := 1) s23 rfl
  refine wv_of (St.ld_bo hg hso lv0) ?_
  refine wv_of (ne 700) ?_
  rw [brB_false]
  refine wv_of (St.ld_bp hg hso lv0) ?_
  refine wv_of (ne 300) ?_
  rw [brB_false]
  refine wv_of (St.ld_closed hg hso lv0) ?_
  refine wv_of (ne (-1)) ?_
  rw [brB_false]
  refine wv_of (St.ld hg hso lv0) ?_
  refine dance_Spendable.use (hS _) fun G34 c34 => ?_
  have s34 := s23.tmp c34
  rw [spendO_15]
  refine wv_of (ne 700) ?_
  rw [brB_false]
  refine wv_of (St.ld (RowL.own (i := 1) s34 rfl) hso lv0) ?_
  refine dance_PeerSpendable.use (hS _) fun G38 c38 => ?_
  have s38 := s34.tmp c38
  rw [spendP_15]
  refine wv_of (ne 300) ?_
  exact go _ s38

end

theorem wt_hash2 {G : Heap} {R d : Nat} {v : AVal} {m : Nat} (h : wt T G R (d + 3) t_ar2_api_Hash v m) : ∃ a b : List UInt8, v = hash2V a b ∧ a.length = 32 ∧ b.length = 32 := by
  rw [wt] at h
  simp only [T_ar2_api_Hash, show ti_ar2_api_Hash.desc = .array 2 t_api_Hash from rfl] at h
  obtain ⟨cs, ms, rfl, hl, hw, _⟩ := h
  match cs, ms, hl, hw with
  | [a, b], [m1, m2], _, ⟨h1, h2, _⟩ =>
    obtain ⟨x, rfl, lx, _⟩ := wt_hash T_api_Hash rfl T_uint8 rfl h1
    obtain ⟨y, rfl, ly, _⟩ := wt_hash T_api_Hash rfl T_uint8 rfl h2
    exact ⟨x, y, rfl, lx, ly⟩
theorem wt_Config {G : Heap} {R d : Nat} {v : AVal} {m : Nat} (h : wt T G R (d + 4) t_api_Config v m) : ∃ c : CfM, v = c.av ∧ c.ok := by
  obtain ⟨cs, ms, rfl, hf, rfl⟩ := wt_struct T_api_Config rfl h
  obtain ⟨c1, cs, m1, ms, rfl, rfl, h1, hf⟩ := wfs_cons hf
  obtain ⟨c2, cs, m2, ms, rfl, rfl, h2, hf⟩ := wfs_cons hf
  obtain ⟨c3, cs, m3, ms, rfl, rfl, h3, hf⟩ := wfs_cons hf
  obtain ⟨c4, cs, m4, ms, rfl, rfl, h4, hf⟩ := wfs_cons hf
  obtain ⟨c5, cs, m5, ms, rfl, rfl, h5, hf⟩ := wfs_cons hf
  obtain ⟨c6, cs, m6, ms, rfl, rfl, h6, hf⟩ := wfs_cons hf
  obtain ⟨c7, cs, m7, ms, rfl, rfl, h7, hf⟩ := wfs_cons hf
  obtain ⟨c8, cs, m8, ms, rfl, rfl, h8, hf⟩ := wfs_cons hf
  obtain ⟨rfl, rfl⟩ := wfs_nil hf
  obtain ⟨a1, rfl, w1, _⟩ := wt_int T_int rfl h1
  obtain ⟨a2, rfl, w2, _⟩ := wt_int T_int64 rfl h2
  obtain ⟨a3, rfl, w3, _⟩ := wt_int T_int64 rfl h3
  obtain ⟨a4, rfl, w4, _⟩ := wt_hash T_api_Hash rfl T_uint8 rfl h4
  obtain ⟨a5, rfl, w5, _⟩ := wt_hash T_api_Hash rfl T_uint8 rfl h5
  obtain ⟨a6, rfl, w6, _⟩ := wt_hash T_api_Hash rfl T_uint8 rfl h6
  obtain ⟨a7, b7, rfl, w7, w7'⟩ := wt_hash2 h7
  obtain ⟨a8, rfl, w8, _⟩ := wt_int T_int rfl h8
  exact ⟨⟨a1, a2, a3, a4, a5, a6, a7, b7, a8⟩, rfl, ⟨i64_wf.1 w1, i64_wf.1 w2, i64_wf.1 w3, w4, w5, w6, w7, w7', i64_wf.1 w8⟩⟩
theorem wt_Pair {G : Heap} {R d : Nat} {v : AVal} {m : Nat} (h : wt T G R (d + 2) t_api_Counts v m) : ∃ a b : Int, v = pairW a b ∧ I64 a ∧ I64 b := by
  obtain ⟨cs, ms, rfl, hf, rfl⟩ := wt_struct T_api_Counts rfl h
  obtain ⟨c1, cs, m1, ms, rfl, rfl, h1, hf⟩ := wfs_cons hf
  obtain ⟨c2, cs, m2, ms, rfl, rfl, h2, hf⟩ := wfs_cons hf
  obtain ⟨rfl, rfl⟩ := wfs_nil hf
  obtain ⟨a, rfl, w1, _⟩ := wt_int T_int rfl h1
  obtain ⟨b, rfl, w2, _⟩ := wt_int T_int rfl h2
  exact ⟨a, b, rfl, i64_wf.1 w1, i64_wf.1 w2⟩
end Go.Esc.M

/- Own work. Chapter 13: lists of any length: that the ledger's functions end. -/
set_option linter.unusedSimpArgs false
set_option linter.unusedVariables false
set_option maxRecDepth 20000
namespace Go.Esc.M
open Go Go.Esc

section
variable {F0 : List AId} {G0 G : Heap} {ps : List LP} {Q : AVal → Heap → Prop}

theorem ledger_wide_plus.any {u l a : Int} (hQ : ∀ u' l' G', Ch [] G [] G' → Q (pairW u' l') G') : ACalls P ledger_wide_plus.n [pairW u l, .int .i64 a] G Q := by
  refine ledger_wide_plus.sound ?_
  unfold ledger_wide_plus.S
  rw [zWide]
  intro i1 f1
  have s1 := (Sp.nil G).row f1 (pairW u l)
  intro i3 f3
  have s3 := s1.row f3 (pairW 0 0)
  obtain ⟨l1, l2, _⟩ := pair_load (RowL.own (i := 1) s3 rfl) T_ledger_wide rfl
  refine wv_of l1 ?_
  refine wv_of (shr30 a) ?_
  rw [vbin_add, wv_some]
  refine wv_of l2 ?_
  refine wv_of (and30 a) ?_
  rw [vbin_add, wv_some]
  refine wv_of (build_wide _ _) ?_
  refine wide_store (i := 0) s3 rfl fun G12 s12 => ?_
  refine wv_of (pair_load (RowL.own (i := 0) s12 rfl) T_ledger_wide rfl).2.2 ?_
  exact hQ _ _ _ s12.ch
theorem ledger_wide_minus.any {u l a : Int} (hQ : ∀ u' l' G', Ch [] G [] G' → Q (pairW u' l') G') : ACalls P ledger_wide_minus.n [pairW u l, .int .i64 a] G Q := by
  refine ledger_wide_minus.sound ?_
  unfold ledger_wide_minus.S
  rw [zWide]
  intro i1 f1
  have s1 := (Sp.nil G).row f1 (pairW u l)
  intro i3 f3
  have s3 := s1.row f3 (pairW 0 0)
  obtain ⟨l1, l2, _⟩ := pair_load (RowL.own (i := 1) s3 rfl) T_ledger_wide rfl
  refine wv_of l1 ?_
  refine wv_of (shr30 a) ?_
  rw [vbin_sub, wv_some]
  refine wv_of l2 ?_
  refine wv_of (and30 a) ?_
  rw [vbin_sub, wv_some]
  refine wv_of (build_wide _ _) ?_
  refine wide_store (i := 0) s3 rfl fun G12 s12 => ?_
  refine wv_of (pair_load (RowL.own (i := 0) s12 rfl) T_ledger_wide rfl).2.2 ?_
  exact hQ _ _ _ s12.ch
theorem ledger_wide_value.any {u l : Int} (hQ : ∀ (r : Int) G', Ch [] G [] G' → Q (.int .i64 r) G') : ACalls P ledger_wide_value.n [pairW u l] G Q := by
  refine ledger_wide_value.sound ?_
  unfold ledger_wide_value.S
  intro i1 f1
  have s1 := (Sp.nil G).row f1 (pairW u l)
  obtain ⟨l1, l2, _⟩ := pair_load (RowL.own (i := 0) s1 rfl) T_ledger_wide rfl
  refine wv_of l1 ?_
  refine wv_of l2 ?_
  refine wv_of (shr30 l) ?_
  rw [vbin_add, wv_some]
  obtain ⟨U, hU⟩ : ∃ U, U = IntKind.i64.wrap (u + l / 1073741824) := ⟨_, rfl⟩
  rw [← hU]
  rw [vbin_lss, wv_some, brB_dec]
  refine ⟨fun h => hQ _ _ s1.ch, fun h => ?_⟩
  rw [vbin_gtr, wv_some, brB_dec]
  refine ⟨fun h2 => hQ _ _ s1.ch, fun h2 => ?_⟩
  obtain ⟨x, hx⟩ : ∃ x : Nat, U = (x : Int) := ⟨U.toNat, by omega⟩
  obtain ⟨y, hy⟩ : ∃ y : Nat, l % 1073741824 = (y : Int) := ⟨(l % 1073741824).toNat, by omega⟩
  rw [hx] at h h2 ⊢
  refine wv_of (shl30 (by omega)) ?_
  refine wv_of l2 ?_
  refine wv_of (and30 l) ?_
  rw [hy]
  refine wv_of (or30 (by omega) (by omega)) ?_
  exact hQ _ _ s1.ch

set_option maxHeartbeats 2000000 in
theorem ledger_Spendable.any {v w : AVal} {base fo fp : Int} {mine others : List UpdM} (hl : CapSl 36 G v (mine.map UpdM.av)) (ho : CapSl 36 G w (others.map UpdM.av)) (hok : ∀ u ∈ mine, u.ok) (hok2 : ∀ u ∈ others, u.ok) (hlen : mine.length ≤ 2000000000000) (hlen2 : others.length ≤ 2000000000000)
    (hQ : ∀ (r : Int) G', Ch [] G [] G' → Q (.int .i64 r) G') : ACalls P ledger_Spendable.n [.int .i64 base, v, w, pairW fo fp] G Q := by
  refine ledger_Spendable.sound ?_
  unfold ledger_Spendable.S
  intro i1 f1
  have s1 := (Sp.nil G).row f1 (pairW fo fp)
  rw [vbin_lss, wv_some, brB_dec]
  refine ⟨fun h => ?_, fun h => ?_⟩
  · exact hQ _ _ s1.ch
  obtain ⟨c0, c1, c2⟩ := count_load (RowL.own (i := 0) s1 rfl)
  refine wv_of c1 ?_
  refine wv_of c0 ?_
  refine ledger_first.use (ho.mv s1.ch) (by omega) fun w1 hw1 => ?_
  refine ⟨⟨c0, trivial⟩, ?_⟩
  have hfl2 := firstN_len others fp
  have hfl := firstN_len mine fo
  refine ledger_removals.use hw1.isSl (firstN_ok hok2) (by omega) fun mid1 es1 G9 hes1 t9 => ?_
  obtain ⟨F9, o9, k9⟩ := t9.out
  have s9 := s1.new o9 k9
  refine ⟨⟨(count_load (RowL.own (i := 1) s9 rfl)).1, trivial⟩, ?_⟩
  refine ledger_first.use (hl.mv s9.ch) (by omega) fun w2 hw2 => ?_
  refine ledger_removals.use hw2.isSl (firstN_ok hok) (by omega) fun mid2 es2 G13 hes2 t13 => ?_
  obtain ⟨F13, o13, k13⟩ := t13.out
  have s13 := s9.new o13 k13
  intro i14 f14
  have s14 := s13.row f14 z_map_int64_int
  intro i16 f16
  have s16 := s14.row f16 z_map_int64_int
  refine wg_of (whole_store (c := .map mid1) T_map_int64_int (RowL.own (i := 1) s16 rfl) rfl rfl rfl) ?_
  have s18 := Sp.setRow (j := 1) s16 rfl (.map mid1)
  refine wg_of (whole_store (c := .map mid2) T_map_int64_int (RowL.own (i := 0) s18 rfl) rfl rfl rfl) ?_
  have s19 := Sp.setRow (j := 0) s18 rfl (.map mid2)
  generalize Heap.upd _ _ _ = G19 at s19 ⊢
  have s19 : Sp [] G [RowL i16 (.map mid2), RowL i14 (.map mid1), MapL mid2 (mapE es2), MapL mid1 (mapE es1), RowL i1 (pairW fo fp)] G19 := s19
  refine wv_of (v := pairW 0 0) rfl ?_
  refine wv_of (v := .int .i64 (capB base)) rfl ?_
  refine ledger_wide_plus.any fun u0 l0 G23 c23 => ?_
  have s23 := s19.tmp c23
  refine newW s23 fun i24 G26 s26 => ?_
  refine ledger_adds.use (hl.isSl.ch' s26.ch) hok (by omega) (test_Spend1 (RowL.own (i := 2) s26 rfl) (MapL.own (i := 4) s26 rfl) hes1) fun x G28 t28 => ?_
  obtain ⟨F28, o28, k28⟩ := t28.out
  have s28 := s26.new o28 k28
  obtain ⟨A, hA⟩ : ∃ A, A = addsL (tSpend1 others fp) mine := ⟨_, rfl⟩
  obtain ⟨B, hB⟩ : ∃ B, B = addsL (tSpend2 mine fo) others := ⟨_, rfl⟩
  have hAl : A.length ≤ 2000000000000 := by have := addsL_len (tSpend1 others fp) mine; rw [hA]; omega
  have hBl : B.length ≤ 2000000000000 := by have := addsL_len (tSpend2 mine fo) others; rw [hB]; omega
  have s28 : Sp [] G [OwnL 1 x (A.map (.int .i64)), RowL i24 (pairW u0 l0), RowL i16 (.map mid2), RowL i14 (.map mid1), MapL mid2 (mapE es2), MapL mid1 (mapE es1), RowL i1 (pairW fo fp)] G28 := by rw [hA]; exact s28
  have alen : ∀ {ps : List LP} {q : Nat} {G' : Heap} {x : AVal} {A : List Int}, Sp [] G ps G' → ps[q]? = some (OwnL 1 x (A.map (.int .i64))) → vlen T G' t_sl_int64 x = some (.int .i64 (A.length : Nat)) := fun sp hq => by
    rw [(OwnL.own sp hq).is.len (i := ti_sl_int64) T_sl_int64 rfl, List.length_map]
  refine wv_of (alen (q := 0) s28 rfl) ?_
  intro R hR
  have loop : ∀ (m j : Nat) (u l : Int) (G' : Heap), A.length - j = m → j ≤ A.length → Sp [] G [OwnL 1 x (A.map (.int .i64)), RowL i24 (pairW u l), RowL i16 (.map mid2), RowL i14 (.map mid1), MapL mid2 (mapE es2), MapL mid1 (mapE es1), RowL i1 (pairW fo fp)] G' →
      R [w, .ptr i16 [] 0, .ptr i24 [] 0, x, .int .i64 (A.length : Int), .int .i64 (j : Int)] G' := by
    intro m
    induction m with
    | zero =>
      intro j u l G' hm hj sp
      have hjl : j = A.length := by omega
      subst hjl
      refine hR _ _ _ _ _ _ _ ?_
      rw [vbin_lss, wv_some, decide_eq_false (by omega), brB_false]
      refine ledger_adds.use (ho.isSl.ch' sp.ch) hok2 (by omega) (test_Spend2 (RowL.own (i := 2) sp rfl) (MapL.own (i := 4) sp rfl) hes2) fun y G47 t47 => ?_
      obtain ⟨F47, o47, k47⟩ := t47.out
      have s47 := sp.new o47 k47
      have s47 : Sp [] G [OwnL 1 y (B.map (.int .i64)), OwnL 1 x (A.map (.int .i64)), RowL i24 (pairW u l), RowL i16 (.map mid2), RowL i14 (.map mid1), MapL mid2 (mapE es2), MapL mid1 (mapE es1), RowL i1 (pairW fo fp)] G47 := by rw [hB]; exact s47
      refine wv_of (alen (q := 0) s47 rfl) ?_
      intro R2 hR2
      have loop2 : ∀ (m j : Nat) (u l : Int) (G' : Heap), B.length - j = m → j ≤ B.length → Sp [] G [OwnL 1 y (B.map (.int .i64)), OwnL 1 x (A.map (.int .i64)), RowL i24 (pairW u l), RowL i16 (.map mid2), RowL i14 (.map mid1), MapL mid2 (mapE es2), MapL mid1 (mapE es1), RowL i1 (pairW fo fp)] G' →
          R2 [.ptr i24 [] 0, y, .int .i64 (B.length : Int), .int .i64 (j : Int)] G' := by
        intro m
        induction m with
        | zero =>
          intro j u l G' hm hj sp
          have hjl : j = B.length := by omega
          subst hjl
          refine hR2 _ _ _ _ _ ?_
          rw [vbin_lss, wv_some, decide_eq_false (by omega), brB_false]
          refine wv_of (pair_load (RowL.own (i := 2) sp rfl) T_ledger_wide rfl).2.2 ?_
          refine ledger_wide_value.any fun r G65 c65 => ?_
          have s65 := sp.tmp c65
          refine wv_of (v := .int .i64 (if r < 0 then 0 else r)) rfl ?_
          refine wv_of (v := .int .i64 (if 1152921504606846976 < (if r < 0 then 0 else r) then 1152921504606846976 else (if r < 0 then 0 else r))) rfl ?_
          exact hQ _ _ s65.ch
        | succ m ih =>
          intro j u l G' hm hj sp
          obtain ⟨a, ha⟩ : ∃ a, B[j]? = some a := ⟨_, List.getElem?_eq_getElem (by omega)⟩
          refine hR2 _ _ _ _ _ ?_
          rw [vbin_lss, wv_some, decide_eq_true (by omega), brB_true]
          obtain ⟨p, e1, e2⟩ := int_at (OwnL.own (i := 0) sp rfl).is ha
          refine wv_of e1 ?_
          refine wv_of e2 ?_
          refine wv_of (pair_load (RowL.own (i := 2) sp rfl) T_ledger_wide rfl).2.2 ?_
          refine ledger_wide_plus.any fun u' l' G60 c60 => ?_
          have s60 := sp.tmp c60
          refine wide_store (i := 2) s60 rfl fun G61 s61 => ?_
          rw [vbin_add, i64_in (by omega) (by omega), wv_some]
          exact ih (j + 1) u' l' G61 (by omega) (by omega) s61
      exact loop2 B.length 0 u l G47 rfl (by omega) s47
    | succ m ih =>
      intro j u l G' hm hj sp
      obtain ⟨a, ha⟩ : ∃ a, A[j]? = some a := ⟨_, List.getElem?_eq_getElem (by omega)⟩
      refine hR _ _ _ _ _ _ _ ?_
      rw [vbin_lss, wv_some, decide_eq_true (by omega), brB_true]
      obtain ⟨p, e1, e2⟩ := int_at (OwnL.own (i := 0) sp rfl).is ha
      refine wv_of e1 ?_
      refine wv_of e2 ?_
      refine wv_of (pair_load (RowL.own (i := 1) sp rfl) T_ledger_wide rfl).2.2 ?_
      refine ledger_wide_minus.any fun u' l' G60 c60 => ?_
      have s60 := sp.tmp c60
      refine wide_store (i := 1) s60 rfl fun G61 s61 => ?_
      rw [vbin_add, i64_in (by omega) (by omega), wv_some]
      exact ih (j + 1) u' l' G61 (by omega) (by omega) s61
  exact loop A.length 0 u0 l0 G28 rfl (by omega) s28

set_option maxHeartbeats 4000000 in
theorem ledger_part.any {v : AVal} {l r : List UpdM} {mid : AId} {es : List (Int × Int)} {mine : Bool} {u1 l1 u2 l2 : Int} (hl : IsSl 36 G v (l.map UpdM.av)) (hok : ∀ u ∈ l, u.ok) (hlen : l.length ≤ 2000000000000) (hm : G mid = some (.map (mapE es))) (hes : ∀ id, lookE es id = optR (remS id r))
    (hQ : ∀ a b c d w G', Sp [] G [OwnL 35 w ((sortP (pensF mine (opens r) l)).map PenM.av)] G' → Q (.tuple [pairW a b, pairW c d, w]) G') :
    ACalls P ledger_part.n [v, .map mid, .bool mine, pairW u1 l1, pairW u2 l2] G Q := by
  refine ledger_part.sound ?_
  unfold ledger_part.S
  rw [zWide]
  intro i1 f1
  have s1 := (Sp.nil G).row f1 (pairW u1 l1)
  intro i3 f3
  have s3 := s1.row f3 (pairW u2 l2)
  intro i5 f5
  have s5 := s3.row f5 (pairW 0 0)
  intro i7 f7
  have s7 := s5.row f7 (pairW 0 0)
  refine wv_of (upd_len (hl.ch' s7.ch)) ?_
  intro R hR
  have loop : ∀ (k j : Nat) (a b c d : Int) (w : AVal) (G' : Heap), l.length - j = k → j ≤ l.length →
      Sp [] G [OwnL 35 w ((pensF mine (opens r) (l.take j)).map PenM.av), RowL i7 (pairW 0 0), RowL i5 (pairW 0 0), RowL i3 (pairW c d), RowL i1 (pairW a b)] G' →
      R [.map mid, .bool mine, .ptr i1 [] 0, .ptr i3 [] 0, .ptr i5 [] 0, .ptr i7 [] 0, w, v, .int .i64 (l.length : Int), .int .i64 (j : Int)] G' := by
    intro k
    induction k with
    | zero =>
      intro j a b c d w G' hk hj sp
      have hjl : j = l.length := by omega
      subst hjl
      rw [List.take_length] at sp
      refine hR _ _ _ _ _ _ _ _ _ _ _ ?_
      rw [vbin_lss, wv_some, decide_eq_false (by omega), brB_false]
      have hpl := pensF_len mine (opens r) l
      refine sortStable.use (pensF_ok hok) (by omega) sp fun G64 s64 => ?_
      refine wv_of (pair_load (RowL.own (i := 4) s64 rfl) T_ledger_wide rfl).2.2 ?_
      refine wv_of (pair_load (RowL.own (i := 3) s64 rfl) T_ledger_wide rfl).2.2 ?_
      refine wide_store (i := 2) s64 rfl fun G67 s67 => ?_
      refine ⟨⟨(pair_load (RowL.own (i := 3) s67 rfl) T_ledger_wide rfl).2.2, trivial⟩, ?_⟩
      refine wide_store (i := 1) s67 rfl fun G68 s68 => ?_
      refine wv_of (pair_load (RowL.own (i := 2) s68 rfl) T_ledger_wide rfl).2.2 ?_
      refine wv_of (pair_load (RowL.own (i := 1) s68 rfl) T_ledger_wide rfl).2.2 ?_
      exact hQ _ _ _ _ _ _ ((((s68.erase 1).erase 1).erase 1).erase 1)
    | succ k ih =>
      intro j a b c d w G' hk hj sp
      obtain ⟨u, hu⟩ : ∃ u, l[j]? = some u := ⟨_, List.getElem?_eq_getElem (by omega)⟩
      have huo := hok u (List.mem_of_getElem? hu)
      have n3 := pensF_next (mine := mine) (f := opens r) hu
      refine hR _ _ _ _ _ _ _ _ _ _ _ ?_
      rw [vbin_lss, wv_some, decide_eq_true (by omega), brB_true]
      have ev : vbin T .add t_int (.int .i64 (j : Int)) (.int .i64 1) = some (.int .i64 ((j + 1 : Nat) : Int)) := by
        rw [vbin_add, i64_in (by omega) (by omega)]
        rfl
      intro J62
      obtain ⟨p, e1, e2⟩ := upd_at (hl.ch' sp.ch) hu
      refine wv_of e1 ?_
      refine wv_of e2 ?_
      refine newU sp huo fun i25 G27 s27 => ?_
      intro J58
      have look : ∀ {G2 : Heap}, Ch [] G [] G2 → vlookup T G2 t_map_int64_int (.map mid) (.int .i64 u.id) false = some (.int .i64 (remS u.id r)) := fun hc => by
        rw [rem_look (ch_own hc hm), hes]
        congr 2
        unfold optR
        split
        · rename_i h; rw [h]; rfl
        · rfl
      have skip : ∀ G33, Sp [] G [RowL i25 u.av, OwnL 35 w ((pensF mine (opens r) (l.take j)).map PenM.av), RowL i7 (pairW 0 0), RowL i5 (pairW 0 0), RowL i3 (pairW c d), RowL i1 (pairW a b)] G33 → stays r u = false → J58 (.bool true) G33 := by
        intro G33 s33 hst
        simp -zeta only [J58, brB_true, J62]
        have ho : opens r u = false := by unfold opens; rw [hst]; rfl
        rw [ho] at n3
        refine wv_of ev (ih (j + 1) a b c d w G33 (by omega) (by omega) ?_)
        rw [n3]
        simpa using s33.erase 0
      have take : ∀ G33, Sp [] G [RowL i25 u.av, OwnL 35 w ((pensF mine (opens r) (l.take j)).map PenM.av), RowL i7 (pairW 0 0), RowL i5 (pairW 0 0), RowL i3 (pairW c d), RowL i1 (pairW a b)] G33 → u.kind = 1 → ¬ remS u.id r = 3 → J58 (.bool false) G33 := by
        intro G33 s33 hk h3
        simp -zeta only [J58, brB_false]
        have hst : stays r u = true := by simp [stays, hk, h3]
        refine wv_of (pair_load (RowL.own (i := 5) s33 rfl) T_ledger_wide rfl).2.2 ?_
        refine wv_of (upd_load (i := 0) s33 rfl huo).2.2.1 ?_
        refine ledger_wide_minus.any fun a' b' G38 c38 => ?_
        have s38 := s33.tmp c38
        refine wide_store (i := 5) s38 rfl fun G39 s39 => ?_
        obtain ⟨q0, q1, q2, q3, q4, q5⟩ := upd_load (i := 0) s39 rfl huo
        refine wv_of q1 ?_
        refine wv_of (look s39.ch) ?_
        rw [vbin_eql, wv_some, brB_dec]
        refine ⟨fun h2 => ?_, fun h2 => ?_⟩
        · have ho : opens r u = false := by simp [opens, h2]
          rw [ho] at n3
          refine wv_of (pair_load (RowL.own (i := 4) s39 rfl) T_ledger_wide rfl).2.2 ?_
          refine wv_of q2 ?_
          refine ledger_wide_plus.any fun c' d' G46 c46 => ?_
          have s46 := s39.tmp c46
          refine wide_store (i := 4) s46 rfl fun G47 s47 => ?_
          simp -zeta only [J62]
          refine wv_of ev (ih (j + 1) a' b' c' d' w G47 (by omega) (by omega) ?_)
          rw [n3]
          simpa using s47.erase 0
        · have ho : opens r u = true := by simp [opens, hst, h2]
          rw [ho] at n3
          refine wv_of q1 ?_
          refine wv_of q2 ?_
          refine wv_of q3 ?_
          refine wv_of (build_pen (p := pend mine u) (pend_ok huo)) ?_
          have hal := pensF_len mine (opens r) (l.take j)
          rw [List.length_take] at hal
          have hb : ti_api_Pending.bytes = 56 := rfl
          refine growV (T := T) (ts := t_sl_api_Pending) (e := t_api_Pending) (si := ti_sl_api_Pending) (ie := ti_api_Pending) (i := 1) (c := (pend mine u).av) T_sl_api_Pending rfl T_api_Pending rfl (by decide) s39 rfl (PenM.sz (pend_ok huo)) (PenM.okv _) (by decide) ?_ fun w' G55 s55 => ?_
          · rw [hb, List.length_map]; omega
          simp -zeta only [J62]
          refine wv_of ev (ih (j + 1) a' b' c d w' G55 (by omega) (by omega) ?_)
          rw [n3]
          have s : Sp [] G [OwnL 35 w' ((pensF mine (opens r) (l.take j)).map PenM.av ++ [(pend mine u).av]), RowL i7 (pairW 0 0), RowL i5 (pairW 0 0), RowL i3 (pairW c d), RowL i1 (pairW a' b')] G55 := s55.erase 0
          simpa using s
      obtain ⟨q0, q1, q2, q3, q4, q5⟩ := upd_load (i := 0) s27 rfl huo
      refine wv_of q0 ?_
      rw [vbin_neq, wv_some]
      by_cases hk1 : u.kind = 1
      · rw [decide_eq_true hk1, Bool.not_true, brB_false]
        refine wv_of q1 ?_
        refine wv_of (look s27.ch) ?_
        rw [vbin_eql, wv_some]
        by_cases h3 : remS u.id r = 3
        · rw [decide_eq_true h3]
          exact skip _ s27 (by simp [stays, h3])
        · rw [decide_eq_false h3]
          exact take _ s27 hk1 h3
      · rw [decide_eq_false hk1, Bool.not_false, brB_true]
        exact skip _ s27 (by simp [stays, hk1])
  exact loop l.length 0 u1 l1 u2 l2 .nilSlice _ rfl (by omega) (s7.nilL 35)

set_option maxHeartbeats 8000000 in
theorem ledger_Fold.any {v w : AVal} {bo bp co cp : Int} {ours peers : List UpdM} (hl : CapSl 36 G v (ours.map UpdM.av)) (hp : CapSl 36 G w (peers.map UpdM.av)) (hok : ∀ u ∈ ours, u.ok) (hok2 : ∀ u ∈ peers, u.ok) (hlen : ours.length ≤ 1954687338211) (hlen2 : peers.length ≤ 1954687338211)
    (hQ : ∀ (o q e : Int) (l : List PenM) x G', (∀ p ∈ l, p.ok) → l.length * 56 ≤ 220000000000000 → Sp [] G [OwnL 35 x (l.map PenM.av)] G' → Q (.tuple [ledV o q x, .int .i64 e]) G') :
    ACalls P ledger_Fold.n [.int .i64 bo, .int .i64 bp, v, w, pairW co cp] G Q := by
  refine ledger_Fold.sound ?_
  unfold ledger_Fold.S
  rw [zLed, zWide]
  intro i1 f1
  have s1 := (Sp.nil G).row f1 (pairW co cp)
  intro i3 f3
  have s3 := s1.row f3 (ledV 0 0 .nilSlice)
  revert s3
  generalize Heap.upd _ i3 _ = G4
  intro s3 J99
  have no : ∀ (e : Int) (G2 : Heap) (j : Nat) (ps : List LP), Sp [] G ps G2 → ps[j]? = some (RowL i3 (ledV 0 0 .nilSlice)) → wv (vbuild T t_api_Ledger []) fun v17 => wg (vstore T G2 t_api_Ledger (.ptr i3 [] 0) v17) fun G18 => wv (vload T G18 t_api_Ledger (.ptr i3 [] 0)) fun v19 => Q (.tuple [v19, .int .i64 e]) G18 := by
    intro e G2 j ps s hj
    refine wv_of (v := ledV 0 0 .nilSlice) rfl ?_
    refine led_store (i := j) s hj rfl nil_leaf fun G18 s18 => ?_
    refine wv_of (led_load (i := j) s18 (by rw [List.getElem?_set_self (List.getElem?_eq_some_iff.1 hj).1]) nil_leaf).2.2.2 ?_
    exact hQ 0 0 e [] .nilSlice G18 (fun p hp => by cases hp) (by simp) (((Sp.nil G).tmp s18.ch).nilL 35)
  have bad : ¬ inC co cp ours peers → J99 (.bool true) G4 := by
    intro h
    simp -zeta only [J99, brB_true]
    exact no 1 G4 0 _ s3 rfl
  have good : inC co cp ours peers → J99 (.bool false) G4 := by
    intro hC
    simp -zeta only [J99, brB_false]
    refine buildV2 (T := T) (ts := t_sl_int64) (e := t_int64) (si := ti_sl_int64) (ie := ti_int64) (a := .int .i64 bo) (b := .int .i64 bp) T_sl_int64 rfl T_int64 rfl s3 rfl rfl (by decide) fun v20 G21 s21 => ?_
    refine amount_Sum.use (xs := [bo, bp]) (OwnL.own (i := 0) s21 rfl).is (by simp) ?_
    refine wv_of (pair0 _) ?_
    refine wv_of (pair1 _) ?_
    rw [vbin_neq, wv_some, brB_ndec]
    refine ⟨fun h => no 1 G21 1 _ s21 rfl, fun h => ?_⟩
    obtain ⟨c1, c2, c3, c4⟩ := hC
    obtain ⟨l1, l2, _⟩ := count_load (RowL.own (i := 2) s21 rfl)
    refine wv_of l1 ?_
    obtain ⟨va, ea, ca⟩ := CapSl.take (ie := ti_api_Update) (k := .i64) (m := co.toNat) (x := co) T_sl_api_Update rfl T_api_Update hl (by omega) (by rw [List.length_map]; omega)
    refine wv_of ea ?_
    refine wv_of l2 ?_
    obtain ⟨vb, eb, cb⟩ := CapSl.take (ie := ti_api_Update) (k := .i64) (m := cp.toNat) (x := cp) T_sl_api_Update rfl T_api_Update hp (by omega) (by rw [List.length_map]; omega)
    refine wv_of eb ?_
    rw [← List.map_take] at ca cb
    obtain ⟨A, hAd⟩ : ∃ A, A = ours.take co.toNat := ⟨_, rfl⟩
    obtain ⟨B, hBd⟩ : ∃ A, A = peers.take cp.toNat := ⟨_, rfl⟩
    rw [← hAd] at ca
    rw [← hBd] at cb
    have okA : ∀ u ∈ A, u.ok := by rw [hAd]; exact fun u hu => hok u (List.mem_of_mem_take hu)
    have okB : ∀ u ∈ B, u.ok := by rw [hBd]; exact fun u hu => hok2 u (List.mem_of_mem_take hu)
    have lA : A.length ≤ 1954687338211 := by rw [hAd, List.length_take]; omega
    have lB : B.length ≤ 1954687338211 := by rw [hBd, List.length_take]; omega
    have iA : IsSl 36 G va (A.map UpdM.av) := ca.isSl
    have iB : IsSl 36 G vb (B.map UpdM.av) := cb.isSl
    intro J98
    have s21 : Sp [] G [OwnL 1 v20 [.int .i64 bo, .int .i64 bp], RowL i3 (ledV 0 0 .nilSlice), RowL i1 (pairW co cp)] G21 := s21
    have bad2 : ∀ G2, Sp [] G [OwnL 1 v20 [.int .i64 bo, .int .i64 bp], RowL i3 (ledV 0 0 .nilSlice), RowL i1 (pairW co cp)] G2 → J98 (.bool true) G2 := by
      intro G2 s2
      simp -zeta only [J98, brB_true]
      exact no 120 G2 1 _ s2 rfl
    have good2 : ∀ G2, Sp [] G [OwnL 1 v20 [.int .i64 bo, .int .i64 bp], RowL i3 (ledV 0 0 .nilSlice), RowL i1 (pairW co cp)] G2 → J98 (.bool false) G2 := by
      intro G2 s2
      simp -zeta only [J98, brB_false]
      refine ledger_removals.use (iB.ch' s2.ch) okB (by omega) fun mid1 es1 G44 hes1 t44 => ?_
      obtain ⟨F44, o44, k44⟩ := t44.out
      have s44 := s2.new o44 k44
      refine wv_of (v := pairW 0 0) rfl ?_
      refine ledger_wide_plus.any fun u0 l0 G47 c47 => ?_
      have s47 := s44.tmp c47
      refine wv_of (v := pairW 0 0) rfl ?_
      refine ledger_wide_plus.any fun u1 l1 G50 c50 => ?_
      have s50 := s47.tmp c50
      refine ledger_part.any (iA.ch' s50.ch) okA (by omega) (MapL.own (i := 0) s50 rfl) hes1 fun a b d e w1 G52 t52 => ?_
      obtain ⟨F52, o52, k52⟩ := t52.out
      have s52 := s50.new o52 k52
      refine wv_of (tv0' _ _ _) ?_
      refine wv_of (tv1' _ _ _) ?_
      refine wv_of (tv2' _ _ _) ?_
      intro i56 f56
      have s57 := s52.row f56 (pairW 0 0)
      intro i58 f58
      have s59 := s57.row f58 (pairW 0 0)
      refine wide_store (i := 1) s59 rfl fun G60 s60 => ?_
      refine wide_store (i := 0) s60 rfl fun G61 s61 => ?_
      have s61 : Sp [] G [RowL i58 (pairW d e), RowL i56 (pairW a b), OwnL 35 w1 ((sortP (pensF true (opens B) A)).map PenM.av), MapL mid1 (mapE es1), OwnL 1 v20 [.int .i64 bo, .int .i64 bp], RowL i3 (ledV 0 0 .nilSlice), RowL i1 (pairW co cp)] G61 := s61
      refine wv_of (pair_load (RowL.own (i := 0) s61 rfl) T_ledger_wide rfl).2.2 ?_
      refine wv_of (pair_load (RowL.own (i := 1) s61 rfl) T_ledger_wide rfl).2.2 ?_
      refine ledger_removals.use (iA.ch' s61.ch) okA (by omega) fun mid2 es2 G65 hes2 t65 => ?_
      obtain ⟨F65, o65, k65⟩ := t65.out
      have s65 := s61.new o65 k65
      refine ⟨⟨(pair_load (RowL.own (i := 2) s65 rfl) T_ledger_wide rfl).2.2, (pair_load (RowL.own (i := 1) s65 rfl) T_ledger_wide rfl).2.2, trivial⟩, ?_⟩
      refine ledger_part.any (iB.ch' s65.ch) okB (by omega) (MapL.own (i := 0) s65 rfl) hes2 fun a2 b2 d2 e2 w2 G67 t67 => ?_
      obtain ⟨F67, o67, k67⟩ := t67.out
      have s67 := s65.new o67 k67
      refine wv_of (tv0' _ _ _) ?_
      refine wv_of (tv1' _ _ _) ?_
      refine wv_of (tv2' _ _ _) ?_
      refine wide_store (i := 2) s67 rfl fun G71 s71 => ?_
      refine wide_store (i := 3) s71 rfl fun G72 s72 => ?_
      have s72 : Sp [] G [OwnL 35 w2 ((sortP (pensF false (opens A) B)).map PenM.av), MapL mid2 (mapE es2), RowL i58 (pairW a2 b2), RowL i56 (pairW d2 e2), OwnL 35 w1 ((sortP (pensF true (opens B) A)).map PenM.av), MapL mid1 (mapE es1), OwnL 1 v20 [.int .i64 bo, .int .i64 bp], RowL i3 (ledV 0 0 .nilSlice), RowL i1 (pairW co cp)] G72 := s72
      refine wv_of (pair_load (RowL.own (i := 3) s72 rfl) T_ledger_wide rfl).2.2 ?_
      refine wv_of (pair_load (RowL.own (i := 2) s72 rfl) T_ledger_wide rfl).2.2 ?_
      refine ledger_wide_value.any fun X G76 c76 => ?_
      have s76 := s72.tmp c76
      refine ⟨⟨(pair_load (RowL.own (i := 2) s76 rfl) T_ledger_wide rfl).2.2, trivial⟩, ?_⟩
      refine ledger_wide_value.any fun Y G78 c78 => ?_
      have s78 := s76.tmp c78
      have hlo := foldO_len A B
      unfold foldO at hlo
      rw [List.length_append] at hlo
      refine growL_pen (i := 4) s78 rfl (OwnL.own (i := 0) s78 rfl).is (sortP_ok (pensF_ok okB)) (by omega) fun w3 G80 s80 => ?_
      have s80 : Sp [] G [OwnL 35 w2 ((sortP (pensF false (opens A) B)).map PenM.av), MapL mid2 (mapE es2), RowL i58 (pairW a2 b2), RowL i56 (pairW d2 e2), OwnL 35 w3 ((foldO A B).map PenM.av), MapL mid1 (mapE es1), OwnL 1 v20 [.int .i64 bo, .int .i64 bp], RowL i3 (ledV 0 0 .nilSlice), RowL i1 (pairW co cp)] G80 := s80
      have lw3 := (OwnL.own (i := 4) s80 rfl).leaf
      refine wv_of (build_led lw3.1) ?_
      intro i82 f82
      have s83 := s80.row f82 (ledV 0 0 .nilSlice)
      refine led_store (i := 0) s83 rfl rfl lw3 fun G84 s84 => ?_
      have s84 : Sp [] G [RowL i82 (ledV X Y w3), OwnL 35 w2 ((sortP (pensF false (opens A) B)).map PenM.av), MapL mid2 (mapE es2), RowL i58 (pairW a2 b2), RowL i56 (pairW d2 e2), OwnL 35 w3 ((foldO A B).map PenM.av), MapL mid1 (mapE es1), OwnL 1 v20 [.int .i64 bo, .int .i64 bp], RowL i3 (ledV 0 0 .nilSlice), RowL i1 (pairW co cp)] G84 := s84
      intro J97
      have low : J97 (.bool true) G84 := by
        simp -zeta only [J97, brB_true]
        exact no 130 G84 8 _ s84 rfl
      have fine : J97 (.bool false) G84 := by
        simp -zeta only [J97, brB_false]
        refine wv_of (led_load (i := 0) s84 rfl lw3).2.2.2 ?_
        refine led_store (i := 8) s84 rfl rfl lw3 fun G95 s95 => ?_
        refine wv_of (led_load (i := 8) s95 rfl lw3).2.2.2 ?_
        refine hQ X Y 0 (foldO A B) w3 G95 (foldO_ok okA okB) (by unfold foldO; rw [List.length_append]; omega) ?_
        exact ((((((((s95.erase 0).erase 0).erase 0).erase 0).erase 0).erase 1).erase 1).erase 1).erase 1
      refine wv_of (led_load (i := 0) s84 rfl lw3).1 ?_
      rw [vbin_lss, wv_some]
      by_cases h1 : X < 0
      · rw [decide_eq_true h1, brB_true]
        exact low
      · rw [decide_eq_false h1, brB_false]
        refine wv_of (led_load (i := 0) s84 rfl lw3).2.1 ?_
        rw [vbin_lss, wv_some]
        by_cases h2 : Y < 0
        · rw [decide_eq_true h2]
          exact low
        · rw [decide_eq_false h2]
          exact fine
    refine contains.use (iA.ch' s21.ch) okA (by omega) fun G35 c35 => ?_
    have s35 := s21.tmp c35
    cases vA : allV A with
    | false => exact bad2 _ s35
    | true =>
      rw [Bool.not_true, brB_false]
      refine contains.use (iB.ch' s35.ch) okB (by omega) fun G37 c37 => ?_
      have s37 := s35.tmp c37
      cases vB : allV B with
      | false => exact bad2 _ s37
      | true => exact good2 _ s37
  obtain ⟨l1, l2, _⟩ := count_load (RowL.own (i := 1) s3 rfl)
  refine wv_of l1 ?_
  rw [vbin_lss, wv_some, brB_dec]
  refine ⟨fun h => bad fun hh => by have := hh.1; omega, fun h1 => ?_⟩
  refine wv_of l1 ?_
  refine wv_of (upd_len (hl.isSl.ch' s3.ch)) ?_
  rw [vbin_gtr, wv_some, brB_dec]
  refine ⟨fun h => bad fun hh => by have := hh.2.1; omega, fun h2 => ?_⟩
  refine wv_of l2 ?_
  rw [vbin_lss, wv_some, brB_dec]
  refine ⟨fun h => bad fun hh => by have := hh.2.2.1; omega, fun h3 => ?_⟩
  refine wv_of l2 ?_
  refine wv_of (upd_len (hp.isSl.ch' s3.ch)) ?_
  rw [vbin_gtr, wv_some]
  by_cases h4 : (peers.length : Int) < cp
  · rw [decide_eq_true h4]
    exact bad fun hh => by have := hh.2.2.2; omega
  · rw [decide_eq_false h4]
    exact good ⟨by omega, by omega, by omega, by omega⟩

end

end Go.Esc.M
