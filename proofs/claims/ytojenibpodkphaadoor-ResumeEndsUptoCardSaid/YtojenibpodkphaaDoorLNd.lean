import Derived.Test.YtojenibpodkphaaDoorLNa
import Derived.Test.YtojenibpodkphaaDoorLFw
import Derived.Test.YtojenibpodkphaaDoorLUh
import Derived.Test.YtojenibpodkphaaDoorLMk
import Derived.Test.YtojenibpodkphaaDoorLDg
import Derived.Test.YtojenibpodkphaaDoorLCr
import Derived.Test.YtojenibpodkphaaDoorLUc
import Derived.Test.YtojenibpodkphaaDoorLVa
/- Own work. Chapter 15: Offer, Settle, Refuse, Sign, Heard, in the program. -/
set_option linter.unusedSimpArgs false
set_option linter.unusedVariables false
set_option maxRecDepth 20000
namespace Go.Esc.M
open Go Go.Esc

theorem pair_eq {t : TypeId} (a b c d : Int) : vbin T .eql t_api_Counts (pairW a b) (pairW c d) = some (.bool (decide (a = c ∧ b = d))) := by
  have : veqD T 9 t_api_Counts (pairW a b) (pairW c d) = some (decide (a = c) && decide (b = d)) := by
    by_cases h1 : a = c <;> by_cases h2 : b = d <;> simp [pairW, veqD, eqF, T_api_Counts, ti_api_Counts, T_int, ti_int, h1, h2, vfits, sz, szs, AVal.isAgg, ADesc.isAgg]
  simp [vbin, pairW] at this ⊢
  rw [this]

section
variable {F0 : List AId} {G0 G : Heap} {ps : List LP} {Q : AVal → Heap → Prop}

end

end Go.Esc.M

/- Own work. Chapter 15: own texts, Came, Again, Reveal, Revoked, Cut, Start, in the program. -/
set_option linter.unusedSimpArgs false
set_option linter.unusedVariables false
set_option maxRecDepth 20000
namespace Go.Esc.M
open Go Go.Esc

theorem secretS_len {s : List UInt8} (h : s.length = 32) (n : Int) : (secretS s n).1.length = 32 := by
  unfold secretS
  cases okN n
  · rfl
  · exact length_down 48 h
theorem textR_len {ow ix o q : Int} {pt : List UInt8} {l : List PenM} (hp : pt.length = 32) (hl : ∀ p ∈ l, p.ok) : (textR ow ix pt o q l).1.length ≤ 1000000 := by
  unfold textR
  split
  · simp
  · cases hs : soundP o q l with
    | false => simp
    | true =>
      have h1 := soundP_length hs
      have h2 : ∀ m : List PenM, (∀ p ∈ m, p.ok) → (m.flatMap PenM.bytes).length = 49 * m.length := by
        intro m hm
        induction m with
        | nil => rfl
        | cons p m ih => rw [List.flatMap_cons, List.length_append, PenM.length_bytes (hm p (by simp)), ih (fun p hp => hm p (by simp [hp])), List.length_cons]; omega
      simp only [cond_true, textB, List.length_append, length_be, hp, h2 l hl]
      omega
def foldF (f : StF) (ca cb : Int) : FoldM := foldS f.s.bo f.s.bp f.o f.p ca cb
theorem foldF_ok {G : Heap} {f : StF} {vo vp vh : AVal} (h : StIn G f vo vp vh) (ca cb : Int) : ∀ p ∈ (foldF f ca cb).l, p.ok := foldS_ok h.oko h.okp
theorem foldF_len (f : StF) (ca cb : Int) : (foldF f ca cb).l.length ≤ f.o.length + f.p.length := foldS_len _ _ _ _ _ _
structure CameM where
  r : RcM
  l : List UpdM
  e : Int
def revealS (c : CfM) (n : Int) : MsgM :=
  if n < 0 ∨ 281474976710653 < n then MsgM.zero else { MsgM.zero with kind := 5, index := n, secret := (secretS c.seed n).1, hash := sha (secretS c.seed (n + 2)).1 }
def againS (c : CfM) (f : StF) : MsgM :=
  { MsgM.zero with kind := 4, index := f.s.rem, hash := mac c.key (textR (IntKind.i64.wrap (1 - f.s.side)) f.s.rem (if f.s.rem ≠ f.s.ack then f.s.ptsB else f.s.ptsA) (foldF f f.s.sgnA f.s.sgnB).q (foldF f f.s.sgnA f.s.sgnB).o (turnL (foldF f f.s.sgnA f.s.sgnB).l)).1 }
def StM.zero : StM := ⟨0, 0, 0, 0, 0, 0, 0, 0, 0, 0, 0, 0, 0, false, h0, h0, h0, 0, 0⟩
theorem StM.zero_ok : StM.zero.ok := ⟨i64_0, i64_0, i64_0, i64_0, i64_0, i64_0, i64_0, i64_0, i64_0, i64_0, i64_0, i64_0, i64_0, rfl, rfl, rfl, i64_0, i64_0⟩
theorem lv0 : Leaf .nilSlice ∧ Leaf .nilSlice ∧ Leaf .nilSlice := ⟨Leaf.nil, Leaf.nil, Leaf.nil⟩
theorem zSta : z_api_State = StM.zero.av .nilSlice .nilSlice .nilSlice := rfl
def startB (c : CfM) : Prop := c.side < 0 ∨ 1 < c.side ∨ c.cap < 1 ∨ right c.cap = false ∨ c.ours < 0 ∨ c.cap < c.ours
instance (c : CfM) : Decidable (startB c) := by unfold startB; infer_instance
def startS (c : CfM) : StM × Int := if startB c then (StM.zero, 1) else ({ StM.zero with side := c.side, cap := c.cap, bo := c.ours, bp := c.cap - c.ours, ptsA := c.ptsA, ptsB := c.ptsB, closed := -1 }, 0)

section
variable {F0 : List AId} {G0 G : Heap} {ps : List LP} {Q : AVal → Heap → Prop}

theorem buildMsgP {parts : List (Nat × AVal)} {r : MsgM} (hs : ∀ p ∈ parts, MsgM.zero.cs[p.1]?.map Esc.sz = some (Esc.sz p.2)) (he : setParts MsgM.zero.cs parts = r.cs) : vbuild T t_api_Message parts = some r.av := by
  refine (build_struct (zs := MsgM.zero.cs) T_api_Message rfl rfl rfl (plOk_of rfl) hs).trans ?_
  rw [he]; rfl
theorem szHash {h : List UInt8} (hl : h.length = 32) : some (Esc.sz (.agg (h0.map u8v))) = some (Esc.sz (.agg (h.map u8v))) := by rw [Esc.sz, Esc.sz, szh hl, szh h0_len]

theorem build_again {x : Int} {h : List UInt8} (hl : h.length = 32) : vbuild T t_api_Message [(0, .int .i64 4), (3, .int .i64 x), (5, .agg (h.map u8v))] = some (MsgM.av { MsgM.zero with kind := 4, index := x, hash := h }) := by
  refine buildMsgP (fun p hp => ?_) rfl
  simp only [List.mem_cons, List.not_mem_nil, or_false] at hp
  rcases hp with rfl | rfl | rfl
  · rfl
  · rfl
  · exact szHash hl

set_option maxHeartbeats 2000000 in
theorem dance_Reveal.use {c : CfM} {n : Int} (hc : c.ok) (hQ : ∀ G', Ch [] G [] G' → Q (revealS c n).av G') : ACalls P dance_Reveal.n [c.av, .int .i64 n] G Q := by
  refine dance_Reveal.sound ?_
  unfold dance_Reveal.S
  rw [zMsg]
  unfold revealS at hQ
  intro i1 f1
  have s1 := (Sp.nil G).row f1 c.av
  intro i3 f3
  have s3 := s1.row f3 MsgM.zero.av
  revert s3
  generalize Heap.upd _ i3 _ = G4
  intro s3 J36
  have bad : (n < 0 ∨ 281474976710653 < n) → J36 (.bool true) G4 := by
    intro hb
    rw [if_pos hb] at hQ
    simp -zeta only [J36, brB_true]
    refine wv_of (v := MsgM.zero.av) rfl ?_
    refine msg_store (i := 0) s3 rfl MsgM.zero_ok MsgM.zero_ok fun G10 s10 => ?_
    refine wv_of (whole_load T_api_Message (RowL.own (i := 0) s10 rfl) (MsgM.fits MsgM.zero_ok)) ?_
    exact hQ _ s10.ch
  have good : ¬ (n < 0 ∨ 281474976710653 < n) → J36 (.bool false) G4 := by
    intro hb
    rw [if_neg hb] at hQ
    simp -zeta only [J36, brB_false]
    have hx := secretS_len hc.seed n
    have hy := secretS_len hc.seed (n + 2)
    refine wv_of (Cf.ld_seed (RowL.own (i := 1) s3 rfl) hc) ?_
    refine seed_Secret.use hc.seed fun G14 c14 => ?_
    have s14 := s3.tmp c14
    refine wv_of (hi0 _) ?_
    refine wv_of (hi1 _) ?_
    refine newHash s14 hx fun i17 G19 s19 => ?_
    refine wv_of (Cf.ld_seed (RowL.own (i := 2) s19 rfl) hc) ?_
    rw [vbin_add, i64_in (by omega) (by omega), wv_some]
    refine seed_Secret.use hc.seed fun G23 c23 => ?_
    have s23 := s19.tmp c23
    refine wv_of (hi0 _) ?_
    refine wv_of (hi1 _) ?_
    refine newHash s23 hy fun i26 G28 s28 => ?_
    refine wv_of (load_hash hx (RowL.own (i := 1) s28 rfl)) ?_
    refine wv_of (load_hash hy (RowL.own (i := 0) s28 rfl)) ?_
    refine seed_Point.use hy fun G32 c32 => ?_
    have s32 := s28.tmp c32
    refine ⟨⟨load_hash hx (RowL.own (i := 1) s32 rfl), trivial⟩, ?_⟩
    have hz : (sha (secretS c.seed (n + 2)).1).length = 32 := length_sha' _
    have hok : ({ MsgM.zero with kind := 5, index := n, secret := (secretS c.seed n).1, hash := sha (secretS c.seed (n + 2)).1 } : MsgM).ok := ⟨i64_n 5 (by decide) (by decide), i64_0, i64_0, i64_n n (by omega) (by omega), i64_0, hz, hx, by simp [MsgM.zero]⟩
    refine wv_of (buildMsgP (r := { MsgM.zero with kind := 5, index := n, secret := (secretS c.seed n).1, hash := sha (secretS c.seed (n + 2)).1 }) (fun p hp => ?_) rfl) ?_
    · simp only [List.mem_cons, List.not_mem_nil, or_false] at hp
      rcases hp with rfl | rfl | rfl | rfl
      · rfl
      · rfl
      · exact szHash hx
      · exact szHash hz
    refine msg_store (i := 2) s32 rfl MsgM.zero_ok hok fun G34 s34 => ?_
    refine wv_of (whole_load T_api_Message (RowL.own (i := 2) s34 rfl) (MsgM.fits hok)) ?_
    exact hQ _ s34.ch
  rw [vbin_lss, wv_some, brB_dec]
  refine ⟨fun h1 => bad (.inl h1), fun h1 => ?_⟩
  rw [vbin_gtr, wv_some]
  by_cases h2 : 281474976710653 < n
  · rw [decide_eq_true h2]
    exact bad (.inr h2)
  · rw [decide_eq_false h2]
    exact good (by omega)

set_option maxHeartbeats 4000000 in
theorem dance_Again.use {f : StF} {c : CfM} {vo vp vh : AVal} (hS : StIn G f vo vp vh) (hc : c.ok) (hQ : ∀ G', Ch [] G [] G' → Q (againS c f).av G') : ACalls P dance_Again.n [c.av, f.s.av vo vp vh] G Q := by
  have ho := hS.ok
  have hl := hS.lv
  have hlo := hS.lo
  have hlp := hS.lp
  refine dance_Again.sound ?_
  unfold dance_Again.S
  rw [zMsg]
  unfold againS at hQ
  intro i1 f1
  have s1 := (Sp.nil G).row f1 c.av
  intro i3 f3
  have s3 := s1.row f3 (f.s.av vo vp vh)
  intro i5 f5
  have s5 := s3.row f5 MsgM.zero.av
  revert s5
  generalize Heap.upd _ i5 _ = G6
  intro s5
  have hg := RowL.own (i := 1) s5 rfl
  refine wv_of (v := .ptr i3 [13, 0] 16) rfl ?_
  refine wv_of (St.ld_ptsA hg ho hl) ?_
  refine newHash s5 ho.ptsA fun i9 G11 s11 => ?_
  have hg := RowL.own (i := 2) s11 rfl
  refine wv_of (St.ld_rem hg ho hl) ?_
  refine wv_of (St.ld_ack hg ho hl) ?_
  rw [vbin_neq, wv_some]
  obtain ⟨pt, hpt⟩ : ∃ pt, pt = if f.s.rem ≠ f.s.ack then f.s.ptsB else f.s.ptsA := ⟨_, rfl⟩
  rw [← hpt] at hQ
  have hp32 : pt.length = 32 := by
    rw [hpt]; split
    · exact ho.ptsB
    · exact ho.ptsA
  intro J49
  have go : ∀ G2, Sp [] G [RowL i9 (.agg (pt.map u8v)), RowL i5 MsgM.zero.av, RowL i3 (f.s.av vo vp vh), RowL i1 c.av] G2 → J49 G2 := by
    intro G18 s18
    simp -zeta only [J49]
    have hg := RowL.own (i := 2) s18 rfl
    refine wv_of (St.ld_bo hg ho hl) ?_
    refine wv_of (St.ld_bp hg ho hl) ?_
    refine wv_of (St.ld_ours hg ho hl) ?_
    refine wv_of (St.ld_peers hg ho hl) ?_
    refine wv_of (St.ld_sgn hg ho hl) ?_
    refine ledger_Fold.use (hS.o.mv s18.ch) (hS.p.mv s18.ch) hS.oko hS.okp hS.lo hS.lp fun x G25 t25 => ?_
    have hFok := foldF_ok hS f.s.sgnA f.s.sgnB
    have hFlen := foldF_len f f.s.sgnA f.s.sgnB
    unfold foldF at hQ hFok hFlen
    obtain ⟨F, hF⟩ : ∃ F, F = foldS f.s.bo f.s.bp f.o f.p f.s.sgnA f.s.sgnB := ⟨_, rfl⟩
    rw [← hF] at hQ hFok hFlen t25 ⊢
    obtain ⟨F25, o25, c25⟩ := t25.out
    have s25 := s18.new o25 c25
    have lx := (OwnL.own (i := 0) s25 rfl).leaf
    refine wv_of (tv0 _ _) ?_
    refine wv_of (tv1 _ _) ?_
    obtain ⟨w1, w2, w3⟩ := led_whole (o := F.o) (q := F.q) lx
    refine newVal s25 T_api_Ledger w1 (by rw [w2]; rfl) w3 fun i28 G30 s30 => ?_
    have hg := RowL.own (i := 4) s30 rfl
    refine wv_of (St.ld_side hg ho hl) ?_
    rw [vbin_sub, wv_some]
    refine wv_of (St.ld_rem hg ho hl) ?_
    refine wv_of (load_hash hp32 (RowL.own (i := 2) s30 rfl)) ?_
    refine wv_of (led_load (i := 0) s30 rfl lx).2.2.2 ?_
    refine commit_Turn.use (OwnL.own (i := 1) s30 rfl).is hFok (by omega) fun y G37 t37 => ?_
    obtain ⟨F37, o37, c37⟩ := t37.out
    have s37 := s30.new o37 c37
    have hg := RowL.own (i := 5) s37 rfl
    refine ⟨⟨load_hash hp32 (RowL.own (i := 3) s37 rfl), St.ld_rem hg ho hl, St.ld_side hg ho hl, trivial⟩, ?_⟩
    have hTok := turnL_ok hFok
    refine commit_Text.use hp32 (OwnL.own (i := 0) s37 rfl).is hTok (by rw [length_turnL]; omega) fun G39 c39 => ?_
    have s39 := s37.tmp c39
    have htl := textR_len (ow := IntKind.i64.wrap (1 - f.s.side)) (ix := f.s.rem) (o := F.q) (q := F.o) hp32 hTok
    obtain ⟨W, hW⟩ : ∃ W, W = textR (IntKind.i64.wrap (1 - f.s.side)) f.s.rem pt F.q F.o (turnL F.l) := ⟨_, rfl⟩
    rw [← hW] at hQ htl ⊢
    refine wv_of (tv0 _ _) ?_
    refine wv_of (tv1 _ _) ?_
    have hg := RowL.own (i := 5) s39 rfl
    refine wv_of (St.ld_rem hg ho hl) ?_
    refine wv_of (Cf.ld_key (RowL.own (i := 6) s39 rfl) hc) ?_
    refine seal_Sign.use hc.key (by omega) fun G45 c45 => ?_
    have s45 := s39.tmp c45
    refine ⟨⟨St.ld_rem (RowL.own (i := 5) s45 rfl) ho hl, trivial⟩, ?_⟩
    have hz : (mac c.key W.1).length = 32 := length_sha _
    revert hQ hz
    generalize mac c.key W.1 = Z
    intro hQ hz
    have hok : ({ MsgM.zero with kind := 4, index := f.s.rem, hash := Z } : MsgM).ok := ⟨i64_n 4 (by decide) (by decide), i64_0, i64_0, ho.rem, i64_0, hz, rfl, by simp [MsgM.zero]⟩
    refine wv_of (build_again hz) ?_
    refine msg_store (i := 4) s45 rfl MsgM.zero_ok hok fun G47 s47 => ?_
    refine wv_of (whole_load T_api_Message (RowL.own (i := 4) s47 rfl) (MsgM.fits hok)) ?_
    exact hQ _ s47.ch
  by_cases h1 : f.s.rem = f.s.ack
  · rw [if_neg (fun hh => hh h1)] at hpt
    rw [decide_eq_true h1, Bool.not_true, brB_false]
    rw [← hpt] at s11
    exact go _ s11
  · rw [if_pos h1] at hpt
    rw [decide_eq_false h1, Bool.not_false, brB_true]
    refine wv_of (v := .ptr i3 [13, 1] 48) rfl ?_
    refine wv_of (St.ld_ptsB hg ho hl) ?_
    refine hash_store (i := 0) s11 rfl ho.ptsA ho.ptsB fun G17 s17 => ?_
    rw [← hpt] at s17
    exact go _ s17

end

end Go.Esc.M

/- Own work. Chapter 15: beginnings; copies; the first answers; DanceRaw. -/
set_option linter.unusedSimpArgs false
set_option linter.unusedVariables false
set_option maxRecDepth 20000
namespace Go.Esc.M
open Go Go.Esc

def stZ : List AVal := StM.zero.cs .nilSlice .nilSlice .nilSlice
theorem build_st {parts : List (Nat × AVal)} {r : StM} {a b c : AVal} (hs : ∀ p ∈ parts, stZ[p.1]?.map Esc.sz = some (Esc.sz p.2)) (he : setParts stZ parts = r.cs a b c) : vbuild T t_api_State parts = some (r.av a b c) := by
  refine (build_struct (zs := stZ) T_api_State rfl rfl rfl (plOk_of rfl) hs).trans ?_
  rw [he]; rfl
theorem sz_hash2 {a b c d : List UInt8} (ha : a.length = 32) (hb : b.length = 32) (hc : c.length = 32) (hd : d.length = 32) : some (Esc.sz (hash2V a b)) = some (Esc.sz (hash2V c d)) := by
  simp [hash2V, Esc.sz, szs, szh ha, szh hb, szh hc, szh hd]
theorem build_start {a b c d : Int} {x y : List UInt8} (hx : x.length = 32) (hy : y.length = 32) : vbuild T t_api_State [(0, .int .i64 a), (1, .int .i64 b), (2, .int .i64 c), (3, .int .i64 d), (13, hash2V x y), (17, .int .i64 (-1))] = some (({ StM.zero with side := a, cap := b, bo := c, bp := d, ptsA := x, ptsB := y, closed := -1 } : StM).av .nilSlice .nilSlice .nilSlice) := by
  refine build_st (fun p hp => ?_) rfl
  simp only [List.mem_cons, List.not_mem_nil, or_false] at hp
  rcases hp with rfl | rfl | rfl | rfl | rfl | rfl
  · rfl
  · rfl
  · rfl
  · rfl
  · exact sz_hash2 h0_len h0_len hx hy
  · rfl
theorem startS_ok {c : CfM} (h : c.ok) : (startS c).1.ok := by
  unfold startS
  by_cases hb : startB c
  · rw [if_pos hb]; exact StM.zero_ok
  · rw [if_neg hb]
    have h1 : ¬ right c.cap = false := fun hh => hb (.inr (.inr (.inr (.inl hh))))
    have h2 : right c.cap = true := by simpa using h1
    have h3 := right_spec.1 h2
    have h4 : ¬ c.ours < 0 := fun hh => hb (.inr (.inr (.inr (.inr (.inl hh)))))
    have h5 : ¬ c.cap < c.ours := fun hh => hb (.inr (.inr (.inr (.inr (.inr hh)))))
    exact ⟨h.side, h.cap, h.ours, i64_n (c.cap - c.ours) (by omega) (by omega), i64_0, i64_0, i64_0, i64_0, i64_0, i64_0, i64_0, i64_0, i64_0, h.ptsA, h.ptsB, rfl, i64_0, i64_n (-1) (by decide) (by decide)⟩

section
variable {F0 : List AId} {G0 G : Heap} {ps : List LP} {Q : AVal → Heap → Prop}

theorem escrowlaw15_Copy.use {f : StF} {vo vp vh : AVal} (hS : StIn G f vo vp vh) (hQ : ∀ wo wp wh G', Sp [] G [OwnL 34 wh (f.h.map SlotM.av), OwnL 36 wp (f.p.map UpdM.av), OwnL 36 wo (f.o.map UpdM.av)] G' → Q (f.s.av wo wp wh) G') : ACalls P escrowlaw15_Copy.n [f.s.av vo vp vh] G Q := by
  have ho := hS.ok
  have hl := hS.lv
  have hlo := hS.lo
  have hlp := hS.lp
  have hlh := hS.lh
  refine escrowlaw15_Copy.sound ?_
  unfold escrowlaw15_Copy.S
  rw [zSta]
  intro i1 f1
  have s1 := (Sp.nil G).row f1 (f.s.av vo vp vh)
  intro i3 f3
  have s3 := s1.row f3 (StM.zero.av .nilSlice .nilSlice .nilSlice)
  revert s3
  generalize Heap.upd _ i3 _ = G4
  intro s3
  refine wv_of (St.ld_ours (RowL.own (i := 1) s3 rfl) ho hl) ?_
  have grow : ∀ {ps : List LP} {G1 : Heap} {x : AVal} {l : List UpdM} {K : AVal → Heap → Prop}, Sp [] G ps G1 → IsSl 36 G x (l.map UpdM.av) → (∀ u ∈ l, u.ok) → l.length ≤ 1048576 → (∀ w G2, Sp [] G (OwnL 36 w (l.map UpdM.av) :: ps) G2 → K w G2) → aAppend T G1 t_sl_api_Update t_sl_api_Update .nilSlice x K := by
    intro ps G1 x l K s hx hok hlen hK
    refine growL (T := T) (ts := t_sl_api_Update) (e := t_api_Update) (si := ti_sl_api_Update) (ie := ti_api_Update) (tx := t_sl_api_Update) (xi := ti_sl_api_Update) (i := 0) (vs := []) (xs := l.map UpdM.av) T_sl_api_Update rfl T_api_Update rfl (by decide) T_sl_api_Update (.inr ⟨_, rfl⟩) (s.nilL 36) rfl (hx.ch' s.ch).elems (upds_uni hok).1 (upds_uni hok).2 (by rw [show ti_api_Update.bytes = 72 from rfl, List.length_map]; simp; omega) fun w G5 s5 => ?_
    exact hK w G5 s5
  refine grow s3 hS.o.isSl hS.oko hS.lo fun wo G7 s7 => ?_
  have lo : Leaf wo := (OwnL.own (i := 0) s7 rfl).leaf
  refine St.st_ours (i := 2) s7 rfl ho hl lo fun G8 s8 => ?_
  refine wv_of (St.ld_peers (RowL.own (i := 2) s8 rfl) ho ⟨lo, hl.2.1, hl.2.2⟩) ?_
  refine grow s8 hS.p.isSl hS.okp hS.lp fun wp G11 s11 => ?_
  have lp : Leaf wp := (OwnL.own (i := 0) s11 rfl).leaf
  refine St.st_peers (i := 3) s11 rfl ho ⟨lo, hl.2.1, hl.2.2⟩ lp fun G12 s12 => ?_
  refine wv_of (St.ld_shelf (RowL.own (i := 3) s12 rfl) ho ⟨lo, lp, hl.2.2⟩) ?_
  refine growL (T := T) (ts := t_sl_api_Slot) (e := t_api_Slot) (si := ti_sl_api_Slot) (ie := ti_api_Slot) (tx := t_sl_api_Slot) (xi := ti_sl_api_Slot) (i := 0) (vs := []) (xs := f.h.map SlotM.av) T_sl_api_Slot rfl T_api_Slot rfl (by decide) T_sl_api_Slot (.inr ⟨_, rfl⟩) (s12.nilL 34) rfl (hS.h.isSl.ch' s12.ch).elems (uni_slots hS.okh) (okvs_slots f.h) (by rw [show ti_api_Slot.bytes = 48 from rfl, List.length_map]; simp; omega) fun wh G15 s15 => ?_
  have lh : Leaf wh := (OwnL.own (i := 0) s15 rfl).leaf
  refine St.st_shelf (i := 4) s15 rfl ho ⟨lo, lp, hl.2.2⟩ lh fun G16 s16 => ?_
  refine wv_of (St.ld (RowL.own (i := 4) s16 rfl) ho ⟨lo, lp, lh⟩) ?_
  refine St.st (i := 3) s16 rfl StM.zero_ok lv0 ho ⟨lo, lp, lh⟩ fun G18 s18 => ?_
  refine wv_of (St.ld (RowL.own (i := 3) s18 rfl) ho ⟨lo, lp, lh⟩) ?_
  exact hQ wo wp wh G18 ((s18.erase 3).erase 3)

/-- What a copy is. -/
theorem StIn.copy {f : StF} {vo vp vh wo wp wh : AVal} {G1 : Heap} {i j k : Nat} (hS : StIn G f vo vp vh) (s : Sp F0 G0 ps G1) (ho : ps[i]? = some (OwnL 36 wo (f.o.map UpdM.av))) (hp : ps[j]? = some (OwnL 36 wp (f.p.map UpdM.av))) (hh : ps[k]? = some (OwnL 34 wh (f.h.map SlotM.av))) : StIn G1 f wo wp wh :=
  ⟨hS.ok, Own.capSl (OwnL.own s ho), Own.capSl (OwnL.own s hp), Own.capSl (OwnL.own s hh), hS.oko, hS.okp, hS.okh, hS.lo, hS.lp, hS.lh⟩

def pointS (s : List UInt8) (n : Int) : List UInt8 := sha (secretS s n).1
theorem pointS_len (s : List UInt8) (n : Int) : (pointS s n).length = 32 := length_sha' _
theorem escrowlaw15_Point.use {s : List UInt8} {n : Int} (hs : s.length = 32) (hQ : ∀ G', Ch [] G [] G' → Q (.agg ((pointS s n).map u8v)) G') : ACalls P escrowlaw15_Point.n [.agg (s.map u8v), .int .i64 n] G Q := by
  refine escrowlaw15_Point.sound ?_
  unfold escrowlaw15_Point.S
  rw [z_hash]
  intro i1 f1
  have s1 := (Sp.nil G).row f1 (.agg (s.map u8v))
  intro i3 f3
  have s3 := s1.row f3 (.agg ((List.replicate 32 (0 : UInt8)).map u8v))
  rw [← z_hash]
  refine wv_of (load_hash hs (RowL.own (i := 1) s3 rfl)) ?_
  refine escrowref09_Secret.use hs fun G7 c7 => ?_
  have s7 := s3.tmp c7
  have hx := secretS_len hs n
  refine wv_of (hi0 _) ?_
  refine wv_of (hi1 _) ?_
  refine newHash s7 hx fun i10 G12 s12 => ?_
  refine wv_of (load_hash hx (RowL.own (i := 0) s12 rfl)) ?_
  refine escrowref09_Point.use hx fun G15 c15 => ?_
  have s15 := s12.tmp c15
  have hz : (sha (secretS s n).1).length = 32 := length_sha' _
  refine hash_store (i := 1) s15 rfl (by simp) hz fun G16 s16 => ?_
  refine wv_of (load_hash hz (RowL.own (i := 1) s16 rfl)) ?_
  exact hQ _ s16.ch

def cf2V (a b : CfM) : AVal := .agg [a.av, b.av]
def CfM.zero : CfM := ⟨0, 0, 0, h0, h0, h0, h0, h0, 0⟩
theorem CfM.zero_ok : CfM.zero.ok := ⟨i64_0, i64_0, i64_0, rfl, rfl, rfl, rfl, rfl, i64_0⟩
def cfZ : List AVal := CfM.zero.cs
theorem cf2_szl {a b : CfM} (ha : a.ok) (hb : b.ok) : [a.av, b.av].map Esc.sz = [164, 164] := by simp [CfM.sz ha, CfM.sz hb]
theorem cf2_fits {a b : CfM} (ha : a.ok) (hb : b.ok) : vfits ti_ar2_api_Config (cf2V a b) = true := by
  simp [vfits, cf2V, Esc.sz, szs, CfM.sz ha, CfM.sz hb, ti_ar2_api_Config, AVal.isAgg, ADesc.isAgg]
theorem cf2_sz {a b : CfM} (ha : a.ok) (hb : b.ok) : Esc.sz (cf2V a b) = 328 := by simp [cf2V, Esc.sz, szs, CfM.sz ha, CfM.sz hb]
theorem cf2_okv (a b : CfM) : Esc.okv (cf2V a b) = true := by simp [cf2V, Esc.okv, okvs, CfM.okv]
theorem zCf2 : z_ar2_api_Config = cf2V CfM.zero CfM.zero := rfl
theorem build_cf {a b c : Int} {x y z p q : List UInt8} (hx : x.length = 32) (hy : y.length = 32) (hz : z.length = 32) (hp : p.length = 32) (hq : q.length = 32) :
    vbuild T t_api_Config [(0, .int .i64 a), (1, .int .i64 b), (2, .int .i64 c), (3, .agg (x.map u8v)), (4, .agg (y.map u8v)), (5, .agg (z.map u8v)), (6, hash2V p q), (7, .int .i64 4096)] = some (CfM.av ⟨a, b, c, x, y, z, p, q, 4096⟩) := by
  refine (build_struct (zs := cfZ) T_api_Config rfl rfl rfl (plOk_of rfl) fun r hr => ?_).trans rfl
  simp only [List.mem_cons, List.not_mem_nil, or_false] at hr
  rcases hr with rfl | rfl | rfl | rfl | rfl | rfl | rfl | rfl
  · rfl
  · rfl
  · rfl
  · exact szHash hx
  · exact szHash hy
  · exact szHash hz
  · exact sz_hash2 h0_len h0_len hp hq
  · rfl
theorem build_h2 {p q : List UInt8} (hp : p.length = 32) (hq : q.length = 32) : vbuild T t_ar2_api_Hash [(0, .agg (p.map u8v)), (1, .agg (q.map u8v))] = some (hash2V p q) := by
  refine (build_array (zs := [.agg (h0.map u8v), .agg (h0.map u8v)]) T_ar2_api_Hash rfl T_api_Hash rfl ?_ fun r hr => ?_).trans rfl
  · simp [Esc.uni, Esc.sz, szh h0_len, ti_api_Hash]
  · simp only [List.mem_cons, List.not_mem_nil, or_false] at hr
    rcases hr with rfl | rfl
    · exact szHash hp
    · exact szHash hq
/-- Both sides' configs. -/
def cfg0 (d : DlM) : CfM := ⟨0, d.cap, d.ours, d.seedsA, d.keysA, d.keysB, pointS d.seedsB 0, pointS d.seedsB 1, 4096⟩
def cfg1 (d : DlM) : CfM := ⟨1, d.cap, IntKind.i64.wrap (d.cap - d.ours), d.seedsB, d.keysB, d.keysA, pointS d.seedsA 0, pointS d.seedsA 1, 4096⟩
theorem cfg0_ok {d : DlM} (h : d.ok) : (cfg0 d).ok := ⟨i64_0, h.cap, h.ours, h.seedsA, h.keysA, h.keysB, pointS_len _ _, pointS_len _ _, i64_n 4096 (by decide) (by decide)⟩
theorem cfg1_ok {d : DlM} (h : d.ok) : (cfg1 d).ok := ⟨i64_n 1 (by decide) (by decide), h.cap, hw64 _, h.seedsB, h.keysB, h.keysA, pointS_len _ _, pointS_len _ _, i64_n 4096 (by decide) (by decide)⟩

set_option maxHeartbeats 4000000 in
theorem escrowlaw15_Configs.use {d : DlM} (hd : d.ok) (hQ : ∀ G', Ch [] G [] G' → Q (cf2V (cfg0 d) (cfg1 d)) G') : ACalls P escrowlaw15_Configs.n [d.av] G Q := by
  refine escrowlaw15_Configs.sound ?_
  unfold escrowlaw15_Configs.S
  rw [zCf2]
  intro i1 f1
  have s1 := (Sp.nil G).row f1 d.av
  intro i3 f3
  have s3 := s1.row f3 (cf2V CfM.zero CfM.zero)
  intro i5 f5
  have s5 := s3.row f5 (cf2V CfM.zero CfM.zero)
  revert s5
  generalize Heap.upd _ i5 _ = G6
  intro s5
  have o0 := cfg0_ok hd
  have o1 := cfg1_ok hd
  obtain ⟨C0, hC0⟩ : ∃ C, C = cfg0 d := ⟨_, rfl⟩
  obtain ⟨C1, hC1⟩ : ∃ C, C = cfg1 d := ⟨_, rfl⟩
  obtain ⟨b0, hb0⟩ : ∃ z, z = pointS d.seedsB 0 := ⟨_, rfl⟩
  obtain ⟨b1, hb1⟩ : ∃ z, z = pointS d.seedsB 1 := ⟨_, rfl⟩
  obtain ⟨a0, ha0⟩ : ∃ z, z = pointS d.seedsA 0 := ⟨_, rfl⟩
  obtain ⟨a1, ha1⟩ : ∃ z, z = pointS d.seedsA 1 := ⟨_, rfl⟩
  have lb0 : b0.length = 32 := by rw [hb0]; exact pointS_len _ _
  have lb1 : b1.length = 32 := by rw [hb1]; exact pointS_len _ _
  have la0 : a0.length = 32 := by rw [ha0]; exact pointS_len _ _
  have la1 : a1.length = 32 := by rw [ha1]; exact pointS_len _ _
  have e0 : C0 = ⟨0, d.cap, d.ours, d.seedsA, d.keysA, d.keysB, b0, b1, 4096⟩ := by rw [hC0, hb0, hb1]; rfl
  have e1 : C1 = ⟨1, d.cap, IntKind.i64.wrap (d.cap - d.ours), d.seedsB, d.keysB, d.keysA, a0, a1, 4096⟩ := by rw [hC1, ha0, ha1]; rfl
  rw [← hC0, ← hC1] at hQ
  rw [← hC0] at o0
  rw [← hC1] at o1
  have zo := CfM.zero_ok
  intro R7 hR7
  refine hR7 _ _ _ _ _ ?_
  rw [vbin_lss, wv_some, decide_eq_true (by decide), brB_true]
  have hg := RowL.own (i := 2) s5 rfl
  refine wv_of (v := .ptr i1 [1] 1) rfl ?_
  refine wv_of (Dl.ld_ours hg hd) ?_
  rw [vbin_eql, wv_some, decide_eq_false (by decide)]
  intro J52
  rw [brB_false]
  simp -zeta only [J52]
  refine wv_of (v := .ptr i1 [0] 0) rfl ?_
  refine wv_of (Dl.ld_cap hg hd) ?_
  refine wv_of (v := .ptr i1 [2] 2) rfl ?_
  refine wv_of (v := .ptr i1 [2, 0] 2) rfl ?_
  refine wv_of (Dl.ld_seedsA hg hd) ?_
  refine wv_of (v := .ptr i1 [3] 66) rfl ?_
  refine wv_of (v := .ptr i1 [3, 0] 66) rfl ?_
  refine wv_of (Dl.ld_keysA hg hd) ?_
  rw [vbin_sub, i64_in (by decide) (by decide), wv_some]
  refine wv_of (v := .ptr i1 [3] 66) rfl ?_
  refine wv_of (v := .ptr i1 [3, 1] 98) rfl ?_
  refine wv_of (Dl.ld_keysB hg hd) ?_
  rw [wv_some]
  refine wv_of (v := .ptr i1 [2] 2) rfl ?_
  refine wv_of (v := .ptr i1 [2, 1] 34) rfl ?_
  refine wv_of (Dl.ld_seedsB hg hd) ?_
  rw [wv_some]
  refine wv_of (v := .ptr i1 [2] 2) rfl ?_
  refine wv_of (v := .ptr i1 [2, 1] 34) rfl ?_
  refine wv_of (Dl.ld_seedsB hg hd) ?_
  refine escrowlaw15_Point.use hd.seedsB fun G45 c45 => ?_
  rw [← hb0]
  have s45 := s5.tmp c45
  have hg := RowL.own (i := 2) s45 rfl
  refine ⟨⟨Dl.ld_seedsB hg hd, Dl.ld_keysB hg hd, Dl.ld_keysA hg hd, Dl.ld_seedsA hg hd, Dl.ld_cap hg hd, trivial⟩, ?_⟩
  refine escrowlaw15_Point.use hd.seedsB fun G47 c47 => ?_
  rw [← hb1]
  have s47 := s45.tmp c47
  have hg := RowL.own (i := 2) s47 rfl
  refine ⟨⟨Dl.ld_keysB hg hd, Dl.ld_keysA hg hd, Dl.ld_seedsA hg hd, Dl.ld_cap hg hd, trivial⟩, ?_⟩
  refine wv_of (build_h2 lb0 lb1) ?_
  refine wv_of (build_cf hd.seedsA hd.keysA hd.keysB lb0 lb1) ?_
  rw [← e0]
  refine wv_of (v := .ptr i5 [0] 0) rfl ?_
  refine wg_of (st1 (c := C0.av) (RowL.own (i := 0) s47 rfl) (cf2_szl zo zo) rfl rfl T_api_Config (CfM.fits o0) (by rw [CfM.sz o0, CfM.sz zo]) (CfM.okv)) ?_
  have s51 := Sp.setRow (j := 0) s47 rfl (cf2V C0 CfM.zero)
  revert s51
  show Sp [] G _ (Heap.upd G47 i5 (.own (.agg ([CfM.zero.av, CfM.zero.av].set 0 C0.av)))) → _
  generalize Heap.upd G47 i5 _ = G51
  intro s51
  refine wv_of (v := .int .i64 1) rfl ?_
  refine hR7 _ _ _ _ _ ?_
  rw [vbin_lss, wv_some, decide_eq_true (by decide), brB_true]
  have hg := RowL.own (i := 2) s51 rfl
  refine wv_of (v := .ptr i1 [1] 1) rfl ?_
  refine wv_of (Dl.ld_ours hg hd) ?_
  rw [vbin_eql, wv_some, decide_eq_true (by decide)]
  intro J52
  rw [brB_true]
  refine wv_of (v := .ptr i1 [0] 0) rfl ?_
  refine wv_of (Dl.ld_cap hg hd) ?_
  refine wv_of (v := .ptr i1 [1] 1) rfl ?_
  refine wv_of (Dl.ld_ours hg hd) ?_
  rw [vbin_sub, wv_some]
  simp -zeta only [J52]
  refine wv_of (v := .ptr i1 [0] 0) rfl ?_
  refine wv_of (Dl.ld_cap hg hd) ?_
  refine wv_of (v := .ptr i1 [2] 2) rfl ?_
  refine wv_of (v := .ptr i1 [2, 1] 34) rfl ?_
  refine wv_of (Dl.ld_seedsB hg hd) ?_
  refine wv_of (v := .ptr i1 [3] 66) rfl ?_
  refine wv_of (v := .ptr i1 [3, 1] 98) rfl ?_
  refine wv_of (Dl.ld_keysB hg hd) ?_
  rw [vbin_sub, i64_in (n := 1 - 1) (by decide) (by decide), wv_some]
  refine wv_of (v := .ptr i1 [3] 66) rfl ?_
  refine wv_of (v := .ptr i1 [3, 0] 66) rfl ?_
  refine wv_of (Dl.ld_keysA hg hd) ?_
  rw [wv_some]
  refine wv_of (v := .ptr i1 [2] 2) rfl ?_
  refine wv_of (v := .ptr i1 [2, 0] 2) rfl ?_
  refine wv_of (Dl.ld_seedsA hg hd) ?_
  rw [wv_some]
  refine wv_of (v := .ptr i1 [2] 2) rfl ?_
  refine wv_of (v := .ptr i1 [2, 0] 2) rfl ?_
  refine wv_of (Dl.ld_seedsA hg hd) ?_
  refine escrowlaw15_Point.use hd.seedsA fun G45 c45 => ?_
  rw [← ha0]
  have s45 := s51.tmp c45
  have hg := RowL.own (i := 2) s45 rfl
  refine ⟨⟨Dl.ld_seedsA hg hd, Dl.ld_keysA hg hd, Dl.ld_keysB hg hd, Dl.ld_seedsB hg hd, Dl.ld_cap hg hd, trivial⟩, ?_⟩
  refine escrowlaw15_Point.use hd.seedsA fun G47 c47 => ?_
  rw [← ha1]
  have s47 := s45.tmp c47
  have hg := RowL.own (i := 2) s47 rfl
  refine ⟨⟨Dl.ld_keysA hg hd, Dl.ld_keysB hg hd, Dl.ld_seedsB hg hd, Dl.ld_cap hg hd, trivial⟩, ?_⟩
  refine wv_of (build_h2 la0 la1) ?_
  refine wv_of (build_cf hd.seedsB hd.keysB hd.keysA la0 la1) ?_
  rw [← e1]
  refine wv_of (v := .ptr i5 [1] 164) rfl ?_
  refine wg_of (st1 (c := C1.av) (RowL.own (i := 0) s47 rfl) (cf2_szl o0 zo) rfl rfl T_api_Config (CfM.fits o1) (by rw [CfM.sz o1, CfM.sz zo]) (CfM.okv)) ?_
  have s51 := Sp.setRow (j := 0) s47 rfl (cf2V C0 C1)
  revert s51
  show Sp [] G _ (Heap.upd G47 i5 (.own (.agg ([C0.av, CfM.zero.av].set 1 C1.av)))) → _
  generalize Heap.upd G47 i5 _ = G51
  intro s51
  refine wv_of (v := .int .i64 2) rfl ?_
  refine hR7 _ _ _ _ _ ?_
  rw [vbin_lss, wv_some, decide_eq_false (by decide), brB_false]
  refine wv_of (whole_load T_ar2_api_Config (RowL.own (i := 0) s51 rfl) (cf2_fits o0 o1)) ?_
  refine wg_of (whole_store (c := cf2V C0 C1) T_ar2_api_Config (RowL.own (i := 1) s51 rfl) (cf2_fits o0 o1) (by rw [cf2_sz zo zo, cf2_sz o0 o1]) (cf2_okv _ _)) ?_
  have s55 := Sp.setRow (j := 1) s51 rfl (cf2V C0 C1)
  refine wv_of (whole_load T_ar2_api_Config (RowL.own (i := 1) s55 rfl) (cf2_fits o0 o1)) ?_
  exact hQ _ s55.ch

end

end Go.Esc.M
