import Derived.Test.YtojenibpodkphaaDoorLNd
import Derived.Test.YtojenibpodkphaaDoorLFc
import Derived.Test.YtojenibpodkphaaDoorLNa
import Derived.Test.YtojenibpodkphaaDoorLMk
import Derived.Test.YtojenibpodkphaaDoorLCr
import Derived.Test.YtojenibpodkphaaDoorLVa
/- Own work. Chapter 15: the first answers; DanceRaw. -/
set_option linter.unusedSimpArgs false
set_option linter.unusedVariables false
set_option maxRecDepth 20000
namespace Go.Esc.M
open Go Go.Esc

def d15 : DlM := ⟨1000, 700, h0, h0, h0, h0⟩
theorem d15_ok : d15.ok := ⟨i64_n 1000 (by decide) (by decide), i64_n 700 (by decide) (by decide), rfl, rfl, rfl, rfl⟩
def c15 (a b : List UInt8) : CfM := ⟨0, 1000, 700, h0, h0, h0, a, b, 4096⟩
def s15 (a b : List UInt8) : StM := { StM.zero with side := 0, cap := 1000, bo := 700, bp := 300, ptsA := a, ptsB := b, closed := -1 }
def f15 (a b : List UInt8) : StF := ⟨s15 a b, [], [], []⟩
theorem start_15 (a b : List UInt8) : startS (c15 a b) = (s15 a b, 0) := rfl
section
variable {F0 : List AId} {G0 G : Heap} {ps : List LP} {Q : AVal → Heap → Prop}

theorem f15_in {a b : List UInt8} (ha : a.length = 32) (hb : b.length = 32) (G : Heap) : StIn G (f15 a b) .nilSlice .nilSlice .nilSlice :=
  ⟨⟨i64_0, i64_n 1000 (by decide) (by decide), i64_n 700 (by decide) (by decide), i64_n 300 (by decide) (by decide), i64_0, i64_0, i64_0, i64_0, i64_0, i64_0, i64_0, i64_0, i64_0, ha, hb, rfl, i64_0, i64_n (-1) (by decide) (by decide)⟩, CapSl.nil, CapSl.nil, CapSl.nil, by simp [f15], by simp [f15], by simp [f15], by simp [f15], by simp [f15], by simp [f15]⟩
theorem cf_index {a b : CfM} (ha : a.ok) (hb : b.ok) : vindex T t_ar2_api_Config (cf2V a b) (.int .i64 0) = some a.av := by
  have h1 : Esc.uni 164 [a.av, b.av] = true := by simp [Esc.uni, CfM.sz ha, CfM.sz hb]
  have h2 := CfM.fits ha
  simp only [vindex, cf2V, T_ar2_api_Config, show ti_ar2_api_Config.desc = .array 2 t_api_Config from rfl, T_api_Config]
  have h3 : Esc.uni ti_api_Config.size [a.av, b.av] = true := h1
  simp [h2, h3]
end

theorem wt_hash2 {G : Heap} {R d : Nat} {v : AVal} {m : Nat} (h : wt T G R (d + 3) t_ar2_api_Hash v m) : ∃ a b : List UInt8, v = hash2V a b ∧ a.length = 32 ∧ b.length = 32 := by
  rw [wt] at h
  simp only [T_ar2_api_Hash, show ti_ar2_api_Hash.desc = .array 2 t_api_Hash from rfl] at h
  obtain ⟨cs, ms, rfl, hl, hw, _⟩ := h
  match cs, ms, hl, hw with
  | [a, b], [m1, m2], _, ⟨h1, h2, _⟩ =>
    obtain ⟨x, rfl, lx, _⟩ := wt_hash T_api_Hash rfl T_uint8 rfl h1
    obtain ⟨y, rfl, ly, _⟩ := wt_hash T_api_Hash rfl T_uint8 rfl h2
    exact ⟨x, y, rfl, lx, ly⟩
theorem wt_Config {G : Heap} {R d : Nat} {v : AVal} {m : Nat} (h : wt T G R (d + 4) t_api_Config v m) : ∃ c : CfM, v = c.av ∧ c.ok := by
  obtain ⟨cs, ms, rfl, hf, rfl⟩ := wt_struct T_api_Config rfl h
  obtain ⟨c1, cs, m1, ms, rfl, rfl, h1, hf⟩ := wfs_cons hf
  obtain ⟨c2, cs, m2, ms, rfl, rfl, h2, hf⟩ := wfs_cons hf
  obtain ⟨c3, cs, m3, ms, rfl, rfl, h3, hf⟩ := wfs_cons hf
  obtain ⟨c4, cs, m4, ms, rfl, rfl, h4, hf⟩ := wfs_cons hf
  obtain ⟨c5, cs, m5, ms, rfl, rfl, h5, hf⟩ := wfs_cons hf
  obtain ⟨c6, cs, m6, ms, rfl, rfl, h6, hf⟩ := wfs_cons hf
  obtain ⟨c7, cs, m7, ms, rfl, rfl, h7, hf⟩ := wfs_cons hf
  obtain ⟨c8, cs, m8, ms, rfl, rfl, h8, hf⟩ := wfs_cons hf
  obtain ⟨rfl, rfl⟩ := wfs_nil hf
  obtain ⟨a1, rfl, w1, _⟩ := wt_int T_int rfl h1
  obtain ⟨a2, rfl, w2, _⟩ := wt_int T_int64 rfl h2
  obtain ⟨a3, rfl, w3, _⟩ := wt_int T_int64 rfl h3
  obtain ⟨a4, rfl, w4, _⟩ := wt_hash T_api_Hash rfl T_uint8 rfl h4
  obtain ⟨a5, rfl, w5, _⟩ := wt_hash T_api_Hash rfl T_uint8 rfl h5
  obtain ⟨a6, rfl, w6, _⟩ := wt_hash T_api_Hash rfl T_uint8 rfl h6
  obtain ⟨a7, b7, rfl, w7, w7'⟩ := wt_hash2 h7
  obtain ⟨a8, rfl, w8, _⟩ := wt_int T_int rfl h8
  exact ⟨⟨a1, a2, a3, a4, a5, a6, a7, b7, a8⟩, rfl, ⟨i64_wf.1 w1, i64_wf.1 w2, i64_wf.1 w3, w4, w5, w6, w7, w7', i64_wf.1 w8⟩⟩
theorem wt_Pair {G : Heap} {R d : Nat} {v : AVal} {m : Nat} (h : wt T G R (d + 2) t_api_Counts v m) : ∃ a b : Int, v = pairW a b ∧ I64 a ∧ I64 b := by
  obtain ⟨cs, ms, rfl, hf, rfl⟩ := wt_struct T_api_Counts rfl h
  obtain ⟨c1, cs, m1, ms, rfl, rfl, h1, hf⟩ := wfs_cons hf
  obtain ⟨c2, cs, m2, ms, rfl, rfl, h2, hf⟩ := wfs_cons hf
  obtain ⟨rfl, rfl⟩ := wfs_nil hf
  obtain ⟨a, rfl, w1, _⟩ := wt_int T_int rfl h1
  obtain ⟨b, rfl, w2, _⟩ := wt_int T_int rfl h2
  exact ⟨a, b, rfl, i64_wf.1 w1, i64_wf.1 w2⟩
theorem wt_UpdsL {G : Heap} {R d : Nat} {v : AVal} {m : Nat} (h : wt T G R (d + 4) t_sl_api_Update v m) : ∃ l : List UpdM, RoSl 36 G v (l.map UpdM.av) ∧ (∀ u ∈ l, u.ok) ∧ l.length ≤ m := by
  obtain ⟨xs, ms, hro, hall, hms, hR, _⟩ := wt_ro UpdM.av (fun u m => u.ok ∧ 1 ≤ m) T_sl_api_Update rfl T_api_Update (fun c m h => by
    obtain ⟨u, hu, ho, _⟩ := wt_Upd h
    obtain ⟨_, ms, _, _, e⟩ := wt_struct T_api_Update rfl h
    exact ⟨u, hu, ho, by omega⟩) h
  have hlen := hall.length fun c m h => h.2
  refine ⟨xs, hro, fun u hu => ?_, by omega⟩
  obtain ⟨m, hm, _⟩ := hall.mem hu
  exact hm.1
theorem wt_SlotsL {G : Heap} {R d : Nat} {v : AVal} {m : Nat} (h : wt T G R (d + 4) t_sl_api_Slot v m) : ∃ l : List SlotM, RoSl 34 G v (l.map SlotM.av) ∧ (∀ u ∈ l, u.ok) ∧ l.length ≤ m := by
  obtain ⟨xs, ms, hro, hall, hms, hR, _⟩ := wt_ro SlotM.av (fun u m => u.ok ∧ 1 ≤ m) T_sl_api_Slot rfl T_api_Slot (fun c m h => by
    obtain ⟨u, hu, ho⟩ := wt_Slot h
    obtain ⟨_, ms, _, _, e⟩ := wt_struct T_api_Slot rfl h
    exact ⟨u, hu, ho, by omega⟩) h
  have hlen := hall.length fun c m h => h.2
  refine ⟨xs, hro, fun u hu => ?_, by omega⟩
  obtain ⟨m, hm, _⟩ := hall.mem hu
  exact hm.1
theorem wt_State {G : Heap} {R d : Nat} {v : AVal} {m : Nat} (h : wt T G R (d + 5) t_api_State v m) (hm : m ≤ 1048576) : ∃ (f : StF) (vo vp vh : AVal), v = f.s.av vo vp vh ∧ StIn G f vo vp vh := by
  obtain ⟨cs, ms, rfl, hf, rfl⟩ := wt_struct T_api_State rfl h
  obtain ⟨c1, cs, m1, ms, rfl, rfl, h1, hf⟩ := wfs_cons hf
  obtain ⟨c2, cs, m2, ms, rfl, rfl, h2, hf⟩ := wfs_cons hf
  obtain ⟨c3, cs, m3, ms, rfl, rfl, h3, hf⟩ := wfs_cons hf
  obtain ⟨c4, cs, m4, ms, rfl, rfl, h4, hf⟩ := wfs_cons hf
  obtain ⟨c5, cs, m5, ms, rfl, rfl, h5, hf⟩ := wfs_cons hf
  obtain ⟨c6, cs, m6, ms, rfl, rfl, h6, hf⟩ := wfs_cons hf
  obtain ⟨c7, cs, m7, ms, rfl, rfl, h7, hf⟩ := wfs_cons hf
  obtain ⟨c8, cs, m8, ms, rfl, rfl, h8, hf⟩ := wfs_cons hf
  obtain ⟨c9, cs, m9, ms, rfl, rfl, h9, hf⟩ := wfs_cons hf
  obtain ⟨c10, cs, m10, ms, rfl, rfl, h10, hf⟩ := wfs_cons hf
  obtain ⟨c11, cs, m11, ms, rfl, rfl, h11, hf⟩ := wfs_cons hf
  obtain ⟨c12, cs, m12, ms, rfl, rfl, h12, hf⟩ := wfs_cons hf
  obtain ⟨c13, cs, m13, ms, rfl, rfl, h13, hf⟩ := wfs_cons hf
  obtain ⟨c14, cs, m14, ms, rfl, rfl, h14, hf⟩ := wfs_cons hf
  obtain ⟨c15, cs, m15, ms, rfl, rfl, h15, hf⟩ := wfs_cons hf
  obtain ⟨c16, cs, m16, ms, rfl, rfl, h16, hf⟩ := wfs_cons hf
  obtain ⟨c17, cs, m17, ms, rfl, rfl, h17, hf⟩ := wfs_cons hf
  obtain ⟨c18, cs, m18, ms, rfl, rfl, h18, hf⟩ := wfs_cons hf
  obtain ⟨rfl, rfl⟩ := wfs_nil hf
  obtain ⟨a1, rfl, w1, _⟩ := wt_int T_int rfl h1
  obtain ⟨a2, rfl, w2, _⟩ := wt_int T_int64 rfl h2
  obtain ⟨a3, rfl, w3, _⟩ := wt_int T_int64 rfl h3
  obtain ⟨a4, rfl, w4, _⟩ := wt_int T_int64 rfl h4
  obtain ⟨o, ho, oko, lo⟩ := wt_UpdsL h5
  obtain ⟨p, hp, okp, lp⟩ := wt_UpdsL h6
  obtain ⟨a7, rfl, w7, _⟩ := wt_int T_int64 rfl h7
  obtain ⟨a8, rfl, w8, _⟩ := wt_int T_int64 rfl h8
  obtain ⟨a9, rfl, w9, _⟩ := wt_int T_int64 rfl h9
  obtain ⟨a10, b10, rfl, w10, w10'⟩ := wt_Pair h10
  obtain ⟨a11, b11, rfl, w11, w11'⟩ := wt_Pair h11
  obtain ⟨a12, b12, rfl, w12, w12'⟩ := wt_Pair h12
  obtain ⟨a13, rfl, _⟩ := wt_bool T_bool rfl h13
  obtain ⟨a14, b14, rfl, w14, w14'⟩ := wt_hash2 h14
  obtain ⟨a15, rfl, w15, _⟩ := wt_hash T_api_Hash rfl T_uint8 rfl h15
  obtain ⟨hs, hh, okh, lh⟩ := wt_SlotsL h16
  obtain ⟨a17, rfl, w17, _⟩ := wt_int T_int rfl h17
  obtain ⟨a18, rfl, w18, _⟩ := wt_int T_int64 rfl h18
  simp only [List.sum_cons] at hm
  refine ⟨⟨⟨a1, a2, a3, a4, a7, a8, a9, a10, b10, a11, b11, a12, b12, a13, a14, b14, a15, a17, a18⟩, o, p, hs⟩, c5, c6, c16, rfl, ?_⟩
  exact ⟨⟨i64_wf.1 w1, i64_wf.1 w2, i64_wf.1 w3, i64_wf.1 w4, i64_wf.1 w7, i64_wf.1 w8, i64_wf.1 w9, w10, w10', w11, w11', w12, w12', w14, w14', w15, i64_wf.1 w17, i64_wf.1 w18⟩, ho.cap, hp.cap, hh.cap, oko, okp, okh, by show o.length ≤ _; omega, by show p.length ≤ _; omega, by show hs.length * 48 ≤ _; omega⟩

end Go.Esc.M

/- Own work. Chapter 18: Hello and Answer. -/
set_option linter.unusedSimpArgs false
set_option linter.unusedVariables false
set_option maxRecDepth 20000
namespace Go.Esc.M
open Go Go.Esc

def helloS (f : StF) : MsgM := { MsgM.zero with kind := 6, index := IntKind.i64.wrap (f.s.loc + 1), next := f.s.ack, secret := if 0 < f.s.ack then (getS f.h (f.s.ack - 1)).1 else h0 }
def provedS (c : CfM) (m : MsgM) : Bool :=
  if 0 < m.next then decide (m.next ≤ 281474976710655) && (decide ((secretS c.seed (m.next - 1)).2 = 0) && decide ((secretS c.seed (m.next - 1)).1 = m.secret))
  else if m.next = 0 then decide (m.secret = h0) else true
def judgedS (c : CfM) (f : StF) (m : MsgM) : Int :=
  if m.kind ≠ 6 then 160 else if provedS c m = false then 100 else if f.s.loc < m.next then 180
  else if m.next < 0 ∨ (m.next ≠ f.s.loc ∧ m.next ≠ IntKind.i64.wrap (f.s.loc - 1)) then 90
  else if m.index ≠ IntKind.i64.wrap (f.s.rem + 1) ∧ (m.index ≠ f.s.rem ∨ f.s.rem ≠ IntKind.i64.wrap (f.s.ack + 1)) then 90 else 0
def updsS (l : List UpdM) (a b : Int) : List MsgM := ((l.take (min b (l.length : Nat)).toNat).drop (max a 0).toNat).map msgOf
def revS (c : CfM) (f : StF) (m : MsgM) (b : Bool) : List MsgM := if m.next = IntKind.i64.wrap (f.s.loc - 1) ∧ f.s.behind = b then [revealS c m.next] else []
def answerS (c : CfM) (f : StF) (m : MsgM) : List MsgM × Int :=
  if judgedS c f m ≠ 0 then ([], judgedS c f m) else
    (((revS c f m true ++ (if m.index = f.s.rem then updsS f.o f.s.heldA f.s.sgnA ++ [againS c f] else [])) ++ revS c f m false) ++ updsS f.o f.s.sgnA (f.o.length : Nat), 0)

theorem helloS_ok {f : StF} {G : Heap} {vo vp vh : AVal} (hS : StIn G f vo vp vh) : (helloS f).ok := by
  refine ⟨i64_n 6 (by decide) (by decide), i64_0, i64_0, hw64 _, hS.ok.ack, rfl, ?_, by simp [helloS, MsgM.zero]⟩
  show (if 0 < f.s.ack then (getS f.h (f.s.ack - 1)).1 else h0).length = 32
  split
  · exact getS_len hS.okh
  · rfl
theorem revealS_ok {c : CfM} (hc : c.ok) {n : Int} (hn : I64 n) : (revealS c n).ok := by
  unfold revealS
  split
  · exact MsgM.zero_ok
  · exact ⟨i64_n 5 (by decide) (by decide), i64_0, i64_0, hn, i64_0, length_sha' _, secretS_len hc.seed n, by simp [MsgM.zero]⟩
theorem againS_ok {c : CfM} {f : StF} (h : f.s.ok) : (againS c f).ok := by
  unfold againS
  exact ⟨i64_n 4 (by decide) (by decide), i64_0, i64_0, h.rem, i64_0, length_sha _, rfl, by simp [MsgM.zero]⟩
theorem updsS_len (l : List UpdM) (a b : Int) : (updsS l a b).length ≤ l.length := by
  unfold updsS
  rw [List.length_map, List.length_drop, List.length_take]
  omega
theorem revS_len (c : CfM) (f : StF) (m : MsgM) (b : Bool) : (revS c f m b).length ≤ 1 := by
  unfold revS; split <;> simp

section
variable {F0 : List AId} {G0 G : Heap} {ps : List LP} {Q : AVal → Heap → Prop}

theorem build_hello {a b : Int} : vbuild T t_api_Message [(0, .int .i64 6), (3, .int .i64 a), (4, .int .i64 b)] = some (MsgM.av { MsgM.zero with kind := 6, index := a, next := b }) :=
  buildMsgP (fun p hp => by
    simp only [List.mem_cons, List.not_mem_nil, or_false] at hp
    rcases hp with rfl | rfl | rfl <;> rfl) rfl
theorem newM {u : MsgM} {K : AId → Heap → Prop} (hs : Sp F0 G0 ps G) (hu : u.ok) (hK : ∀ i G', Sp F0 G0 (RowL i u.av :: ps) G' → K i G') : aNew G (.own z_api_Message) fun i G2 => wg (vstore T G2 t_api_Message (.ptr i [] 0) u.av) fun G3 => K i G3 :=
  newVal hs T_api_Message (MsgM.fits hu) (by rw [MsgM.sz hu]; rfl) (MsgM.okv u) hK

set_option maxHeartbeats 2000000 in
theorem resume_Hello.use {f : StF} {c : CfM} {vo vp vh : AVal} (hT : Tab G) (hS : StIn G f vo vp vh) (hc : c.ok) (hQ : ∀ G', Ch [] G [] G' → Q (helloS f).av G') : ACalls P resume_Hello.n [c.av, f.s.av vo vp vh] G Q := by
  have ho := hS.ok
  have hl := hS.lv
  have hok := helloS_ok hS
  refine resume_Hello.sound ?_
  unfold resume_Hello.S
  rw [zMsg]
  intro i1 f1
  have s1 := (Sp.nil G).row f1 c.av
  intro i3 f3
  have s3 := s1.row f3 (f.s.av vo vp vh)
  intro i5 f5
  have s5 := s3.row f5 MsgM.zero.av
  revert s5
  generalize Heap.upd _ i5 _ = G6
  intro s5
  have hg := RowL.own (i := 1) s5 rfl
  refine wv_of (St.ld_loc hg ho hl) ?_
  rw [vbin_add, wv_some]
  refine wv_of (St.ld_ack hg ho hl) ?_
  refine wv_of build_hello ?_
  have hok0 : ({ MsgM.zero with kind := 6, index := IntKind.i64.wrap (f.s.loc + 1), next := f.s.ack } : MsgM).ok := ⟨i64_n 6 (by decide) (by decide), i64_0, i64_0, hw64 _, ho.ack, rfl, rfl, by simp [MsgM.zero]⟩
  refine newM s5 hok0 fun i11 G13 s13 => ?_
  have hg := RowL.own (i := 2) s13 rfl
  refine wv_of (St.ld_ack hg ho hl) ?_
  rw [vbin_gtr, wv_some, brB_dec]
  have fin : ∀ {G2 : Heap} {m : MsgM}, Sp [] G [RowL i11 m.av, RowL i5 MsgM.zero.av, RowL i3 (f.s.av vo vp vh), RowL i1 c.av] G2 → m = helloS f → 
      wv (vload T G2 t_api_Message (.ptr i11 [] 0)) fun v28 => wg (vstore T G2 t_api_Message (.ptr i5 [] 0) v28) fun G29 => wv (vload T G29 t_api_Message (.ptr i5 [] 0)) fun v30 => Q v30 G29 := by
    intro G2 m s hm
    subst hm
    refine wv_of (whole_load T_api_Message (RowL.own (i := 0) s rfl) (MsgM.fits hok)) ?_
    refine msg_store (i := 1) s rfl MsgM.zero_ok hok fun G29 s29 => ?_
    refine wv_of (whole_load T_api_Message (RowL.own (i := 1) s29 rfl) (MsgM.fits hok)) ?_
    exact hQ _ s29.ch
  refine ⟨fun h1 => ?_, fun h1 => ?_⟩
  · refine wv_of (St.ld_shelf hg ho hl) ?_
    refine wv_of (St.ld_ack hg ho hl) ?_
    have ha := ho.ack
    rw [vbin_sub, i64_in (by have := ha.1; omega) (by have := ha.2; omega), wv_some]
    refine shelf_Get.use (hT.mono s13.ro) (hS.h.isSl.ch' s13.ch) hS.okh hS.lh fun G20 c20 => ?_
    have s20 := s13.tmp c20
    refine wv_of (hi0 _) ?_
    refine wv_of (hi1 _) ?_
    refine msg_secret (i := 0) (getS_len hS.okh) hok0 s20 rfl fun G23 s23 => ?_
    exact fin s23 (by unfold helloS; rw [if_pos h1])
  · exact fin s13 (by unfold helloS; rw [if_neg h1]; rfl)

theorem resume_proved.use {c : CfM} {m : MsgM} (hc : c.ok) (hm : m.ok) (hQ : ∀ G', Ch [] G [] G' → Q (.bool (provedS c m)) G') : ACalls P resume_proved.n [c.av, m.av] G Q := by
  refine resume_proved.sound ?_
  unfold resume_proved.S
  unfold provedS at hQ
  intro i1 f1
  have s1 := (Sp.nil G).row f1 c.av
  intro i3 f3
  have s3 := s1.row f3 m.av
  revert s3
  generalize Heap.upd _ i3 _ = G4
  intro s3
  obtain ⟨_, _, _, _, m4, _, m6, _, _⟩ := msg_load (i := 0) s3 rfl hm
  refine wv_of m4 ?_
  rw [vbin_gtr, wv_some, brB_dec]
  refine ⟨fun h1 => ?_, fun h1 => ?_⟩
  · rw [if_pos h1] at hQ
    refine wv_of (Cf.ld_seed (RowL.own (i := 1) s3 rfl) hc) ?_
    refine wv_of m4 ?_
    have hn := hm.next
    rw [vbin_sub, i64_in (by have := hn.1; omega) (by have := hn.2; omega), wv_some]
    refine seed_Secret.use hc.seed fun G11 c11 => ?_
    have s11 := s3.tmp c11
    have hx := secretS_len hc.seed (m.next - 1)
    obtain ⟨X, hX⟩ : ∃ X, X = secretS c.seed (m.next - 1) := ⟨_, rfl⟩
    rw [← hX] at hQ hx ⊢
    refine wv_of (hi0 _) ?_
    refine wv_of (hi1 _) ?_
    refine newHash s11 hx fun i14 G16 s16 => ?_
    obtain ⟨_, _, _, _, m4, _, m6, _, _⟩ := msg_load (i := 1) s16 rfl hm
    refine wv_of m4 ?_
    rw [vbin_leq, wv_some, brB_dec]
    refine ⟨fun h2 => ?_, fun h2 => ?_⟩
    · rw [decide_eq_true h2, Bool.true_and] at hQ
      rw [vbin_eql, wv_some, brB_dec]
      refine ⟨fun h3 => ?_, fun h3 => ?_⟩
      · rw [decide_eq_true h3, Bool.true_and] at hQ
        refine wv_of (load_hash hx (RowL.own (i := 0) s16 rfl)) ?_
        refine wv_of m6 ?_
        refine wv_of (hash_eql2 hx hm.secret) ?_
        exact hQ _ s16.ch
      · rw [decide_eq_false h3, Bool.false_and] at hQ
        exact hQ _ s16.ch
    · rw [decide_eq_false h2, Bool.false_and] at hQ
      exact hQ _ s16.ch
  · rw [if_neg h1] at hQ
    refine wv_of m4 ?_
    rw [vbin_eql, wv_some, brB_dec]
    refine ⟨fun h2 => ?_, fun h2 => ?_⟩
    · rw [if_pos h2] at hQ
      refine wv_of m6 ?_
      refine wv_of (v := .agg (h0.map u8v)) rfl ?_
      refine wv_of (hash_eql2 hm.secret (by rfl)) ?_
      exact hQ _ s3.ch
    · rw [if_neg h2] at hQ
      exact hQ _ s3.ch

set_option maxHeartbeats 2000000 in
theorem resume_judged.use {f : StF} {c : CfM} {m : MsgM} {vo vp vh : AVal} (hS : StIn G f vo vp vh) (hc : c.ok) (hm : m.ok) (hQ : ∀ G', Ch [] G [] G' → Q (.int .i64 (judgedS c f m)) G') : ACalls P resume_judged.n [c.av, f.s.av vo vp vh, m.av] G Q := by
  have ho := hS.ok
  have hl := hS.lv
  refine resume_judged.sound ?_
  unfold resume_judged.S
  unfold judgedS at hQ
  intro i1 f1
  have s1 := (Sp.nil G).row f1 c.av
  intro i3 f3
  have s3 := s1.row f3 (f.s.av vo vp vh)
  intro i5 f5
  have s5 := s3.row f5 m.av
  revert s5
  generalize Heap.upd _ i5 _ = G6
  intro s5
  obtain ⟨m0, _, _, _, _, _, _, _, mw⟩ := msg_load (i := 0) s5 rfl hm
  refine wv_of m0 ?_
  rw [vbin_neq, wv_some, brB_ndec]
  refine ⟨fun h1 => ?_, fun h1 => ?_⟩
  · rw [if_pos h1] at hQ
    exact hQ _ s5.ch
  rw [if_neg (fun hh => hh h1)] at hQ
  refine wv_of (Cf.ld (RowL.own (i := 2) s5 rfl) hc) ?_
  refine wv_of mw ?_
  refine resume_proved.use hc hm fun G12 c12 => ?_
  have s12 := s5.tmp c12
  rw [vun_not, wv_some]
  cases hp : provedS c m with
  | false =>
    rw [hp, if_pos rfl] at hQ
    rw [Bool.not_false, brB_true]
    exact hQ _ s12.ch
  | true =>
  rw [hp, if_neg (by decide)] at hQ
  rw [Bool.not_true, brB_false]
  have s12 : Sp [] G [RowL i5 m.av, RowL i3 (f.s.av vo vp vh), RowL i1 c.av] G12 := s12
  obtain ⟨m0, _, _, m3, m4, _, _, _, mw⟩ := msg_load (i := 0) s12 rfl hm
  have hg := RowL.own (i := 1) s12 rfl
  refine wv_of m4 ?_
  refine wv_of (St.ld_loc hg ho hl) ?_
  rw [vbin_gtr, wv_some, brB_dec]
  refine ⟨fun h2 => ?_, fun h2 => ?_⟩
  · rw [if_pos h2] at hQ
    exact hQ _ s12.ch
  rw [if_neg h2] at hQ
  intro J42
  have bad : (m.next < 0 ∨ (m.next ≠ f.s.loc ∧ m.next ≠ IntKind.i64.wrap (f.s.loc - 1))) → J42 (.bool true) G12 := by
    intro hb
    rw [if_pos hb] at hQ
    simp -zeta only [J42, brB_true]
    exact hQ _ s12.ch
  have good : ¬ (m.next < 0 ∨ (m.next ≠ f.s.loc ∧ m.next ≠ IntKind.i64.wrap (f.s.loc - 1))) → J42 (.bool false) G12 := by
    intro hb
    rw [if_neg hb] at hQ
    simp -zeta only [J42, brB_false]
    refine wv_of m3 ?_
    refine wv_of (St.ld_rem hg ho hl) ?_
    rw [vbin_add, wv_some, vbin_neq, wv_some, brB_ndec]
    refine ⟨fun h3 => ?_, fun h3 => ?_⟩
    · refine wv_of m3 ?_
      refine wv_of (St.ld_rem hg ho hl) ?_
      rw [vbin_neq, wv_some, brB_ndec]
      refine ⟨fun h4 => ?_, fun h4 => ?_⟩
      · rw [if_pos ⟨h3, .inl h4⟩] at hQ
        exact hQ _ s12.ch
      · refine wv_of (St.ld_rem hg ho hl) ?_
        refine wv_of (St.ld_ack hg ho hl) ?_
        rw [vbin_add, wv_some, vbin_neq, wv_some, brB_ndec]
        refine ⟨fun h5 => ?_, fun h5 => ?_⟩
        · rw [if_pos ⟨h3, .inr h5⟩] at hQ
          exact hQ _ s12.ch
        · rw [if_neg (by rintro ⟨_, h | h⟩; exact h h4; exact h h5)] at hQ
          exact hQ _ s12.ch
    · rw [if_neg (by rintro ⟨h, _⟩; exact h h3)] at hQ
      exact hQ _ s12.ch
  refine wv_of m4 ?_
  rw [vbin_lss, wv_some, brB_dec]
  refine ⟨fun h3 => bad (.inl h3), fun h3 => ?_⟩
  refine wv_of m4 ?_
  refine wv_of (St.ld_loc hg ho hl) ?_
  rw [vbin_neq, wv_some, brB_ndec]
  refine ⟨fun h4 => ?_, fun h4 => good (by rintro (h | ⟨h, _⟩); exact h3 h; exact h h4)⟩
  refine wv_of m4 ?_
  refine wv_of (St.ld_loc hg ho hl) ?_
  rw [vbin_sub, wv_some, vbin_neq, wv_some]
  by_cases h5 : m.next = IntKind.i64.wrap (f.s.loc - 1)
  · rw [decide_eq_true h5]
    exact good (by rintro (h | ⟨_, h⟩); exact h3 h; exact h h5)
  · rw [decide_eq_false h5]
    exact bad (.inr ⟨h4, h5⟩)

/-- A message more behind the list that a row holds. -/
theorem out_add {o : AId} {w : AVal} {l : List MsgM} {x : MsgM} {rest : List LP} {K : Heap → Prop} (hs : Sp F0 G0 (RowL o w :: OwnL 70 w (l.map MsgM.av) :: rest) G) (hx : x.ok) (hlen : l.length ≤ 100000000)
    (hK : ∀ w' G', Sp F0 G0 (RowL o w' :: OwnL 70 w' ((l ++ [x]).map MsgM.av) :: rest) G' → K G') :
    aBuildSlice T t_sl_api_Message 1 [(0, x.av)] G fun v G1 => aAppend T G1 t_sl_api_Message t_sl_api_Message w v fun v2 G2 => wg (vstore T G2 t_sl_api_Message (.ptr o [] 0) v2) K := by
  refine growV (T := T) (ts := t_sl_api_Message) (e := t_api_Message) (si := ti_sl_api_Message) (ie := ti_api_Message) (i := 1) (vs := l.map MsgM.av) T_sl_api_Message rfl T_api_Message rfl (by decide) hs rfl (MsgM.sz hx) (MsgM.okv x) (by decide) (by rw [List.length_map]; simp only [ti_api_Message]; omega) fun w' G' s' => ?_
  have s' : Sp F0 G0 (RowL o w :: OwnL 70 w' (l.map MsgM.av ++ [x.av]) :: rest) G' := s'
  have lw := (OwnL.own (i := 1) hs rfl).leaf
  have lw' := (OwnL.own (i := 1) s' rfl).leaf
  refine wg_of (whole_store T_sl_api_Message (RowL.own (i := 0) s' rfl) (fits_leaf lw' rfl) (by rw [lw.1, lw'.1]) lw'.2.2) ?_
  refine hK w' _ ?_
  rw [List.map_append]
  exact Sp.setRow (j := 0) s' rfl _

theorem msgs_load {o : AId} {w : AVal} {i : Nat} (hs : Sp F0 G0 ps G) (hi : ps[i]? = some (RowL o w)) (hw : Leaf w) : vload T G t_sl_api_Message (.ptr o [] 0) = some w :=
  whole_load T_sl_api_Message (RowL.own hs hi) (fits_leaf hw rfl)

def vmaxI (a b : Int) : Int := if a < b then b else a
def vminI (a b : Int) : Int := if b < a then b else a

set_option maxHeartbeats 4000000 in
theorem resume_Answer_1.use {f : StF} {c : CfM} {m : MsgM} {vo vp vh w : AVal} {l : List MsgM} {o i1 i3 i5 : AId} {a b : Int} (hS : StIn G0 f vo vp vh)
    (hs : Sp [] G0 [RowL o w, OwnL 70 w (l.map MsgM.av), RowL i5 m.av, RowL i3 (f.s.av vo vp vh), RowL i1 c.av] G) (hlen : l.length + f.o.length ≤ 100000000) (ha : I64 a) (hb : I64 b)
    (hQ : ∀ w' G', Sp [] G0 [RowL o w', OwnL 70 w' ((l ++ updsS f.o a b).map MsgM.av), RowL i5 m.av, RowL i3 (f.s.av vo vp vh), RowL i1 c.av] G' → Q (.tuple []) G') :
    ACalls P resume_Answer_1.n [.int .i64 a, .int .i64 b, .ptr i3 [] 0, .ptr o [] 0] G Q := by
  have ho := hS.ok
  have hl := hS.lv
  refine resume_Answer_1.sound ?_
  unfold resume_Answer_1.S
  refine wv_of (v := .int .i64 (vmaxI a 0)) rfl ?_
  have hlo := hS.lo
  obtain ⟨A, hA⟩ : ∃ A : Nat, vmaxI a 0 = (A : Int) ∧ A = (max a 0).toNat := ⟨(max a 0).toNat, by unfold vmaxI; split <;> omega, rfl⟩
  have hA2 : (A : Int) ≤ 9223372036854775807 := by have := ha.2; omega
  rw [hA.1]
  obtain ⟨M, hM⟩ : ∃ M : Nat, M = (min b (f.o.length : Nat)).toNat := ⟨_, rfl⟩
  have hML : M ≤ f.o.length := by omega
  unfold updsS at hQ
  rw [← hA.2, ← hM] at hQ
  intro R hR
  have loop : ∀ (n j : Nat) (w : AVal) (G' : Heap), M - j = n → A ≤ j → (j : Int) ≤ 9223372036854775807 →
      Sp [] G0 [RowL o w, OwnL 70 w ((l ++ ((f.o.take (min j M)).drop A).map msgOf).map MsgM.av), RowL i5 m.av, RowL i3 (f.s.av vo vp vh), RowL i1 c.av] G' →
      R [.int .i64 b, .ptr i3 [] 0, .ptr o [] 0, .int .i64 (j : Int)] G' := by
    intro n
    induction n with
    | zero =>
      intro j w G' hn hj hjm s
      have hS' := hS.mv s.ch
      refine hR _ _ _ _ _ ?_
      have hg := RowL.own (i := 3) s rfl
      refine wv_of (v := .ptr i3 [4] 4) rfl ?_
      refine wv_of (St.ld_ours hg ho hl) ?_
      refine wv_of (upd_len hS'.o.isSl) ?_
      refine wv_of (v := .int .i64 (vminI b (f.o.length : Nat))) rfl ?_
      rw [vbin_lss, wv_some, brB_dec]
      refine ⟨fun h => absurd h (by unfold vminI; split <;> omega), fun _ => ?_⟩
      rw [show min j M = M by omega] at s
      exact hQ w G' s
    | succ n ih =>
      intro j w G' hn hj hjm s
      have hS' := hS.mv s.ch
      obtain ⟨u, hu⟩ : ∃ u, f.o[j]? = some u := ⟨_, List.getElem?_eq_getElem (by omega)⟩
      have huo := hS.oko u (List.mem_of_getElem? hu)
      refine hR _ _ _ _ _ ?_
      have hg := RowL.own (i := 3) s rfl
      refine wv_of (v := .ptr i3 [4] 4) rfl ?_
      refine wv_of (St.ld_ours hg ho hl) ?_
      refine wv_of (upd_len hS'.o.isSl) ?_
      refine wv_of (v := .int .i64 (vminI b (f.o.length : Nat))) rfl ?_
      rw [vbin_lss, wv_some, brB_dec]
      refine ⟨fun _ => ?_, fun h => absurd (show (j : Int) < vminI b (f.o.length : Nat) by unfold vminI; split <;> omega) h⟩
      have lw := (OwnL.own (i := 1) s rfl).leaf
      refine wv_of (msgs_load (i := 0) s rfl lw) ?_
      refine wv_of (v := .ptr i3 [4] 4) rfl ?_
      refine wv_of (St.ld_ours hg ho hl) ?_
      obtain ⟨at_, ha1, ha2⟩ := upd_at hS'.o.isSl hu
      refine wv_of ha1 ?_
      refine wv_of ha2 ?_
      refine msg_Of.use huo fun G19 c19 => ?_
      have s19 := s.tmp c19
      refine ⟨⟨msgs_load (i := 0) s19 rfl lw, trivial⟩, ?_⟩
      have hll : (l ++ ((f.o.take (min j M)).drop A).map msgOf).length ≤ 100000000 := by
        rw [List.length_append, List.length_map, List.length_drop, List.length_take]
        omega
      refine out_add s19 (msgOf_ok huo) hll fun w' G24 s24 => ?_
      rw [vbin_add, i64_in (by omega) (by omega), wv_some]
      refine ih (j + 1) w' G24 (by omega) (by omega) (by omega) ?_
      rw [show min (j + 1) M = j + 1 by omega]
      rw [show min j M = j by omega, List.append_assoc] at s24
      have e : ((f.o.take (j + 1)).drop A).map msgOf = ((f.o.take j).drop A).map msgOf ++ [msgOf u] := by
        rw [List.take_add_one, hu, List.drop_append_of_le_length (by rw [List.length_take]; omega), List.map_append]
        rfl
      rw [e]
      exact s24
  by_cases hAM : A ≤ M
  · refine loop (M - A) A w G rfl (by omega) (by omega) ?_
    rw [show min A M = A by omega, List.drop_eq_nil_of_le (by rw [List.length_take]; omega), List.map_nil, List.append_nil]
    exact hs
  · refine loop 0 A w G (by omega) (by omega) (by omega) ?_
    rw [List.drop_eq_nil_of_le (by rw [List.length_take]; omega), List.map_nil, List.append_nil]
    exact hs

theorem resume_Answer_2.use {f : StF} {c : CfM} {m : MsgM} {vo vp vh w : AVal} {l : List MsgM} {o i1 i3 i5 : AId} {b : Bool} (hS : StIn G0 f vo vp vh) (hc : c.ok) (hm : m.ok)
    (hs : Sp [] G0 [RowL o w, OwnL 70 w (l.map MsgM.av), RowL i5 m.av, RowL i3 (f.s.av vo vp vh), RowL i1 c.av] G) (hlen : l.length ≤ 100000000)
    (hQ : ∀ w' G', Sp [] G0 [RowL o w', OwnL 70 w' ((l ++ revS c f m b).map MsgM.av), RowL i5 m.av, RowL i3 (f.s.av vo vp vh), RowL i1 c.av] G' → Q (.tuple []) G') :
    ACalls P resume_Answer_2.n [.bool b, .ptr i5 [] 0, .ptr i3 [] 0, .ptr o [] 0, .ptr i1 [] 0] G Q := by
  have ho := hS.ok
  have hl := hS.lv
  refine resume_Answer_2.sound ?_
  unfold resume_Answer_2.S
  unfold revS at hQ
  intro J24
  have bad : ¬ (m.next = IntKind.i64.wrap (f.s.loc - 1) ∧ f.s.behind = b) → J24 (.bool false) G := by
    intro hb
    rw [if_neg hb, List.append_nil] at hQ
    simp -zeta only [J24, brB_false]
    exact hQ _ _ hs
  have good : (m.next = IntKind.i64.wrap (f.s.loc - 1) ∧ f.s.behind = b) → J24 (.bool true) G := by
    intro hb
    rw [if_pos hb] at hQ
    simp -zeta only [J24, brB_true]
    have lw := (OwnL.own (i := 1) hs rfl).leaf
    refine wv_of (msgs_load (i := 0) hs rfl lw) ?_
    refine wv_of (Cf.ld (RowL.own (i := 4) hs rfl) hc) ?_
    refine wv_of (v := .ptr i5 [4] 4) rfl ?_
    refine wv_of (msg_load (i := 2) hs rfl hm).2.2.2.2.1 ?_
    refine dance_Reveal.use hc fun G17 c17 => ?_
    have s17 := hs.tmp c17
    refine ⟨⟨msgs_load (i := 0) s17 rfl lw, trivial⟩, ?_⟩
    refine out_add s17 (revealS_ok hc hm.next) hlen fun w' G22 s22 => ?_
    exact hQ w' G22 s22
  refine wv_of (v := .ptr i5 [4] 4) rfl ?_
  refine wv_of (msg_load (i := 2) hs rfl hm).2.2.2.2.1 ?_
  refine wv_of (v := .ptr i3 [6] 6) rfl ?_
  have hg := RowL.own (i := 3) hs rfl
  refine wv_of (St.ld_loc hg ho hl) ?_
  rw [vbin_sub, wv_some, vbin_eql, wv_some, brB_dec]
  refine ⟨fun h1 => ?_, fun h1 => bad fun h => h1 h.1⟩
  refine wv_of (v := .ptr i3 [12] 15) rfl ?_
  refine wv_of (St.ld_behind hg ho hl) ?_
  refine wv_of (v := .bool (f.s.behind == b)) rfl ?_
  cases hb : (f.s.behind == b) with
  | true => exact good ⟨h1, by simpa using hb⟩
  | false => exact bad fun h => by rw [h.2] at hb; simp at hb

set_option maxHeartbeats 4000000 in
theorem resume_Answer.use {f : StF} {c : CfM} {m : MsgM} {vo vp vh : AVal} (hS : StIn G f vo vp vh) (hc : c.ok) (hm : m.ok) (hQ : ∀ w G', Sp [] G [OwnL 70 w ((answerS c f m).1.map MsgM.av)] G' → Q (.tuple [w, .int .i64 (answerS c f m).2]) G') : ACalls P resume_Answer.n [c.av, f.s.av vo vp vh, m.av] G Q := by
  have ho := hS.ok
  have hl := hS.lv
  have hlo := hS.lo
  refine resume_Answer.sound ?_
  unfold resume_Answer.S
  rw [show z_sl_api_Message = .nilSlice from rfl]
  unfold answerS at hQ
  have hAok : (againS c f).ok := againS_ok ho
  obtain ⟨B, hB⟩ : ∃ B, B = againS c f := ⟨_, rfl⟩
  rw [← hB] at hQ hAok
  intro i1 f1
  have s1 := (Sp.nil G).row f1 c.av
  intro i3 f3
  have s3 := s1.row f3 (f.s.av vo vp vh)
  intro i5 f5
  have s5 := s3.row f5 m.av
  revert s5
  generalize Heap.upd _ i5 _ = G6
  intro s5
  refine wv_of (Cf.ld (RowL.own (i := 2) s5 rfl) hc) ?_
  refine wv_of (St.ld (RowL.own (i := 1) s5 rfl) ho hl) ?_
  refine wv_of (msg_load (i := 0) s5 rfl hm).2.2.2.2.2.2.2.2 ?_
  refine resume_judged.use (hS.mv s5.ch) hc hm fun G11 c11 => ?_
  have s11 := s5.tmp c11
  have s11 : Sp [] G [RowL i5 m.av, RowL i3 (f.s.av vo vp vh), RowL i1 c.av] G11 := s11
  rw [vbin_neq, wv_some, brB_ndec]
  refine ⟨fun h1 => ?_, fun h1 => ?_⟩
  · rw [if_pos h1] at hQ
    exact hQ _ _ (((s11.erase 0).erase 0 |>.erase 0).nilL 70)
  rw [if_neg (fun hh => hh h1)] at hQ
  have s12 := s11.nilL 70
  intro i13 f13
  have s13 := s12.row f13 .nilSlice
  revert s13
  generalize Heap.upd _ i13 _ = G14
  intro s13
  have s13 : Sp [] G [RowL i13 .nilSlice, OwnL 70 .nilSlice (([] : List MsgM).map MsgM.av), RowL i5 m.av, RowL i3 (f.s.av vo vp vh), RowL i1 c.av] G14 := s13
  refine resume_Answer_2.use (l := []) hS hc hm s13 (by simp) fun w15 G16 s16 => ?_
  have l16 := revS_len c f m true
  rw [List.nil_append] at s16
  obtain ⟨L, hL⟩ : ∃ L, L = revS c f m true := ⟨_, rfl⟩
  rw [← hL] at s16 l16 hQ
  refine wv_of (msg_load (i := 2) s16 rfl hm).2.2.2.1 ?_
  refine wv_of (St.ld_rem (RowL.own (i := 3) s16 rfl) ho hl) ?_
  rw [vbin_eql, wv_some]
  intro J43
  have go : ∀ (L2 : List MsgM) (w : AVal) (G34 : Heap), L2.length ≤ 50000000 → L2 = L ++ (if m.index = f.s.rem then updsS f.o f.s.heldA f.s.sgnA ++ [B] else []) →
      Sp [] G [RowL i13 w, OwnL 70 w (L2.map MsgM.av), RowL i5 m.av, RowL i3 (f.s.av vo vp vh), RowL i1 c.av] G34 → J43 G34 := by
    intro L2 w G34 h2 he s34
    rw [← he] at hQ
    simp -zeta only [J43]
    refine resume_Answer_2.use hS hc hm s34 (by omega) fun w36 G36 s36 => ?_
    have l36 := revS_len c f m false
    have hg := RowL.own (i := 3) s36 rfl
    refine wv_of (St.ld_sgnA hg ho hl) ?_
    refine wv_of (St.ld_ours hg ho hl) ?_
    refine wv_of (upd_len (hS.mv s36.ch).o.isSl) ?_
    refine resume_Answer_1.use hS s36 (by rw [List.length_append]; omega) ho.sgnA (i64_n _ (by omega) (by omega)) fun w41 G41 s41 => ?_
    refine wv_of (msgs_load (i := 0) s41 rfl (OwnL.own (i := 1) s41 rfl).leaf) ?_
    exact hQ _ _ ((((s41.erase 0).erase 1).erase 1).erase 1)
  by_cases h2 : m.index = f.s.rem
  · rw [decide_eq_true h2, brB_true]
    have hg := RowL.own (i := 3) s16 rfl
    refine wv_of (St.ld_heldA hg ho hl) ?_
    refine wv_of (St.ld_sgnA hg ho hl) ?_
    refine resume_Answer_1.use hS s16 (by omega) ho.heldA ho.sgnA fun w23 G23 s23 => ?_
    have l23 := updsS_len f.o f.s.heldA f.s.sgnA
    have lw := (OwnL.own (i := 1) s23 rfl).leaf
    refine wv_of (msgs_load (i := 0) s23 rfl lw) ?_
    refine wv_of (Cf.ld (RowL.own (i := 4) s23 rfl) hc) ?_
    refine wv_of (St.ld (RowL.own (i := 3) s23 rfl) ho hl) ?_
    refine dance_Again.use (hS.mv s23.ch) hc fun G28 c28 => ?_
    rw [← hB]
    have s28 := s23.tmp c28
    have s28 : Sp [] G [RowL i13 w23, OwnL 70 w23 ((L ++ updsS f.o f.s.heldA f.s.sgnA).map MsgM.av), RowL i5 m.av, RowL i3 (f.s.av vo vp vh), RowL i1 c.av] G28 := s28
    refine ⟨⟨msgs_load (i := 0) s28 rfl lw, trivial⟩, ?_⟩
    refine out_add s28 hAok (by rw [List.length_append]; omega) fun w33 G33 s33 => ?_
    refine go _ _ _ ?_ ?_ s33
    · rw [List.length_append, List.length_append, List.length_singleton]; omega
    · rw [if_pos h2, List.append_assoc]
  · rw [decide_eq_false h2, brB_false]
    refine go L _ _ (by omega) ?_ s16
    rw [if_neg h2, List.append_nil]

end
end Go.Esc.M

/- Own work. Chapter 18: ResumeEnds. -/
set_option linter.unusedSimpArgs false
set_option linter.unusedVariables false
set_option maxRecDepth 20000
namespace Go.Esc.M
open Go Go.Esc

def hi1M : MsgM := { MsgM.zero with kind := 6, index := 1 }
def hi2M : MsgM := { MsgM.zero with kind := 6, index := 2 }
def hi3M (x : List UInt8) : MsgM := { MsgM.zero with kind := 6, index := 1, next := 1, secret := x }
def u5M : UpdM := ⟨1, 0, 5, h0, []⟩
theorem u5M_ok : u5M.ok := ⟨i64_n 1 (by decide) (by decide), i64_0, i64_n 5 (by decide) (by decide), rfl, by decide⟩
theorem hi1M_ok : hi1M.ok := ⟨i64_n 6 (by decide) (by decide), i64_0, i64_0, i64_n 1 (by decide) (by decide), i64_0, rfl, rfl, by simp [hi1M, MsgM.zero]⟩
theorem hi2M_ok : hi2M.ok := ⟨i64_n 6 (by decide) (by decide), i64_0, i64_0, i64_n 2 (by decide) (by decide), i64_0, rfl, rfl, by simp [hi2M, MsgM.zero]⟩
theorem hi3M_ok {x : List UInt8} (h : x.length = 32) : (hi3M x).ok := ⟨i64_n 6 (by decide) (by decide), i64_0, i64_0, i64_n 1 (by decide) (by decide), i64_n 1 (by decide) (by decide), rfl, h, by simp [hi3M, MsgM.zero]⟩
def g15 (a b : List UInt8) : StF := ⟨s15 a b, [u5M], [], []⟩
theorem hello_15 (a b : List UInt8) : helloS (f15 a b) = hi1M := rfl
theorem ans_1 (a b : List UInt8) : answerS (c15 a b) (f15 a b) hi1M = ([], 0) := rfl
theorem ans_2 (a b : List UInt8) : answerS (c15 a b) (f15 a b) hi2M = ([], 90) := rfl
theorem ans_5 (a b : List UInt8) : answerS (c15 a b) (g15 a b) hi1M = ([msgOf u5M], 0) := rfl
theorem sec_0 : ∃ x : List UInt8, secretS h0 0 = (x, 0) ∧ x.length = 32 ∧ x ≠ h0 := by
  have hl := secretS_len h0_len 0
  have e : secretS h0 0 = (downS (pl 0) 48 h0, 0) := by
    unfold secretS
    rw [show okN 0 = true from by decide, cond_true]
  rw [e] at hl
  refine ⟨_, e, hl, fun h => ?_⟩
  have hp : pl 0 = 2 ^ 48 - 1 := by decide
  have hz : h0 = zero32 := by decide
  have := ex_zero
  rw [← hp, ← hz, h] at this
  exact absurd this (by decide)
theorem prov_3 {a b x y : List UInt8} (h : secretS h0 0 = (x, 0)) : provedS (c15 a b) (hi3M y) = decide (x = y) := by
  unfold provedS
  rw [if_pos (show (0 : Int) < (hi3M y).next from (by decide : (0 : Int) < 1))]
  have e : (hi3M y).next - 1 = 0 := rfl
  rw [e, show (c15 a b).seed = h0 from rfl, h, decide_eq_true (show (hi3M y).next ≤ 281474976710655 from (by decide : (1 : Int) ≤ 281474976710655)), Bool.true_and, decide_eq_true (show (0 : Int) = 0 from rfl), Bool.true_and]
  rfl
theorem ans_3 {a b x : List UInt8} (h : secretS h0 0 = (x, 0)) (hx : x ≠ h0) : answerS (c15 a b) (f15 a b) (hi3M h0) = ([], 100) := by
  have hp : provedS (c15 a b) (hi3M h0) = false := by rw [prov_3 h, decide_eq_false hx]
  have hj : judgedS (c15 a b) (f15 a b) (hi3M h0) = 100 := by
    unfold judgedS
    rw [if_neg (show ¬ (hi3M h0).kind ≠ 6 from fun hh => hh rfl), if_pos hp]
  unfold answerS
  rw [hj, if_pos (by decide)]
theorem ans_4 {a b x : List UInt8} (h : secretS h0 0 = (x, 0)) : answerS (c15 a b) (f15 a b) (hi3M x) = ([], 180) := by
  have hp : provedS (c15 a b) (hi3M x) = true := by rw [prov_3 h, decide_eq_true rfl]
  have hj : judgedS (c15 a b) (f15 a b) (hi3M x) = 180 := by
    unfold judgedS
    rw [if_neg (show ¬ (hi3M x).kind ≠ 6 from fun hh => hh rfl), if_neg (by rw [hp]; decide), if_pos (show (f15 a b).s.loc < (hi3M x).next from (by decide : (0 : Int) < 1))]
  unfold answerS
  rw [hj, if_pos (by decide)]

section
variable {F0 : List AId} {G0 G : Heap} {ps : List LP} {Q : AVal → Heap → Prop}

theorem build_hi3 {x : List UInt8} (h : x.length = 32) : vbuild T t_api_Message [(0, .int .i64 6), (3, .int .i64 1), (4, .int .i64 1), (6, .agg (x.map u8v))] = some (hi3M x).av :=
  buildMsgP (fun p hp => by
    simp only [List.mem_cons, List.not_mem_nil, or_false] at hp
    rcases hp with rfl | rfl | rfl | rfl
    · rfl
    · rfl
    · rfl
    · exact szHash h) rfl

set_option maxHeartbeats 2000000 in
theorem escrowref15_Start.use {c : CfM} (hc : c.ok) (hQ : ∀ G', Ch [] G [] G' → Q (.tuple [(startS c).1.av .nilSlice .nilSlice .nilSlice, .int .i64 (startS c).2]) G') : ACalls P escrowref15_Start.n [c.av] G Q := by
  refine escrowref15_Start.sound ?_
  unfold escrowref15_Start.S
  rw [zSta]
  have hok := startS_ok hc
  intro i1 f1
  have s1 := (Sp.nil G).row f1 c.av
  intro i3 f3
  have s3 := s1.row f3 (StM.zero.av .nilSlice .nilSlice .nilSlice)
  revert s3
  generalize Heap.upd _ i3 _ = G4
  intro s3
  have hg := RowL.own (i := 1) s3 rfl
  intro J35
  have bad : startB c → J35 (.bool true) G4 := by
    intro hb
    unfold startS at hQ
    rw [if_pos hb] at hQ
    simp -zeta only [J35, brB_true]
    refine wv_of (v := StM.zero.av .nilSlice .nilSlice .nilSlice) rfl ?_
    refine St.st (i := 0) s3 rfl StM.zero_ok lv0 StM.zero_ok lv0 fun G23 s23 => ?_
    refine wv_of (St.ld (RowL.own (i := 0) s23 rfl) StM.zero_ok lv0) ?_
    exact hQ _ s23.ch
  have good : ¬ startB c → J35 (.bool false) G4 := by
    intro hb
    have h2 : right c.cap = true := by
      have h1 : ¬ right c.cap = false := fun hh => hb (.inr (.inr (.inr (.inl hh))))
      simpa using h1
    have h3 := right_spec.1 h2
    have h4 : ¬ c.ours < 0 := fun hh => hb (.inr (.inr (.inr (.inr (.inl hh)))))
    have h5 : ¬ c.cap < c.ours := fun hh => hb (.inr (.inr (.inr (.inr (.inr hh)))))
    unfold startS at hQ hok
    rw [if_neg hb] at hQ hok
    simp -zeta only [J35, brB_false]
    refine wv_of (Cf.ld_side hg hc) ?_
    refine wv_of (Cf.ld_cap hg hc) ?_
    refine wv_of (Cf.ld_ours hg hc) ?_
    refine wv_of (Cf.ld_cap hg hc) ?_
    refine wv_of (Cf.ld_ours hg hc) ?_
    rw [vbin_sub, i64_in (by omega) (by omega), wv_some]
    refine wv_of (Cf.ld_pts hg hc) ?_
    refine wv_of (build_start hc.ptsA hc.ptsB) ?_
    refine St.st (i := 0) s3 rfl StM.zero_ok lv0 hok lv0 fun G33 s33 => ?_
    refine wv_of (St.ld (RowL.own (i := 0) s33 rfl) hok lv0) ?_
    exact hQ _ s33.ch
  refine wv_of (Cf.ld_side hg hc) ?_
  rw [vbin_lss, wv_some, brB_dec]
  refine ⟨fun h => bad (.inl h), fun h1 => ?_⟩
  refine wv_of (Cf.ld_side hg hc) ?_
  rw [vbin_gtr, wv_some, brB_dec]
  refine ⟨fun h => bad (.inr (.inl h)), fun h2 => ?_⟩
  refine wv_of (Cf.ld_cap hg hc) ?_
  rw [vbin_lss, wv_some, brB_dec]
  refine ⟨fun h => bad (.inr (.inr (.inl h))), fun h3 => ?_⟩
  refine wv_of (Cf.ld_cap hg hc) ?_
  rw [vbin_gtr, wv_some, brB_dec]
  have hr : right c.cap = decide (c.cap ≤ 1152921504606846976) := by
    cases hh : right c.cap with
    | true => rw [decide_eq_true (right_spec.1 hh).2]
    | false =>
      by_cases h : c.cap ≤ 1152921504606846976
      · rw [right_spec.2 ⟨by omega, h⟩] at hh; cases hh
      · rw [decide_eq_false h]
  refine ⟨fun h => bad (.inr (.inr (.inr (.inl (by rw [hr, decide_eq_false (by omega)]))))), fun h4 => ?_⟩
  have h4 : right c.cap = true := by rw [hr, decide_eq_true (by omega)]
  refine wv_of (Cf.ld_ours hg hc) ?_
  rw [vbin_lss, wv_some, brB_dec]
  refine ⟨fun h => bad (.inr (.inr (.inr (.inr (.inl h))))), fun h5 => ?_⟩
  refine wv_of (Cf.ld_ours hg hc) ?_
  refine wv_of (Cf.ld_cap hg hc) ?_
  rw [vbin_gtr, wv_some]
  by_cases h6 : c.cap < c.ours
  · rw [decide_eq_true h6]
    exact bad (.inr (.inr (.inr (.inr (.inr h6)))))
  · rw [decide_eq_false h6]
    exact good (by rintro (h | h | h | h | h | h); exact h1 h; exact h2 h; exact h3 h; (rw [h4] at h; cases h); exact h5 h; exact h6 h)

theorem msg_at {v : AVal} {l : List MsgM} {j : Nat} {u : MsgM} (h : IsSl 70 G v (l.map MsgM.av)) (hj : l[j]? = some u) : ∃ a, viaddr T t_sl_api_Message v (.int .i64 (j : Int)) = some a ∧ vload T G t_api_Message a = some u.av :=
  h.at_ (k := .i64) (i := ti_sl_api_Message) (ie := ti_api_Message) (T := T) (t := t_sl_api_Message) (e := t_api_Message) T_sl_api_Message rfl T_api_Message (by rw [List.getElem?_map, hj]; rfl) rfl
theorem msg_len {v : AVal} {l : List MsgM} (h : IsSl 70 G v (l.map MsgM.av)) : vlen T G t_sl_api_Message v = some (.int .i64 (l.length : Nat)) := by
  rw [h.len (i := ti_sl_api_Message) T_sl_api_Message rfl, List.length_map]

theorem escrowlaw18_same.use {v w : AVal} {a b : List MsgM} (ha : IsSl 70 G v (a.map MsgM.av)) (hb : IsSl 70 G w (b.map MsgM.av)) (oa : ∀ m ∈ a, m.ok) (ob : ∀ m ∈ b, m.ok) (la : a.length ≤ 1000000000) (lb : b.length ≤ 1000000000)
    (hQ : Q (.bool (decide (a = b))) G) : ACalls P escrowlaw18_same.n [v, w] G Q := by
  refine escrowlaw18_same.sound ?_
  unfold escrowlaw18_same.S
  refine wv_of (msg_len ha) ?_
  refine wv_of (msg_len hb) ?_
  rw [vbin_neq, wv_some, brB_ndec]
  refine ⟨fun h1 => ?_, fun h1 => ?_⟩
  · rw [decide_eq_false (fun h => h1 (by rw [h]))] at hQ
    exact hQ
  have hlen : a.length = b.length := by omega
  intro R hR
  have loop : ∀ (n j : Nat), a.length - j = n → j ≤ a.length → a.take j = b.take j → R [v, w, .int .i64 (j : Int)] G := by
    intro n
    induction n with
    | zero =>
      intro j hn hj he
      refine hR _ _ _ _ ?_
      refine wv_of (msg_len ha) ?_
      rw [vbin_lss, wv_some, brB_dec]
      refine ⟨fun h => absurd h (by omega), fun _ => ?_⟩
      have hjl : j = a.length := by omega
      rw [hjl, List.take_length, hlen, List.take_length] at he
      rw [decide_eq_true he] at hQ
      exact hQ
    | succ n ih =>
      intro j hn hj he
      obtain ⟨x, hx⟩ : ∃ x, a[j]? = some x := ⟨_, List.getElem?_eq_getElem (by omega)⟩
      obtain ⟨y, hy⟩ : ∃ y, b[j]? = some y := ⟨_, List.getElem?_eq_getElem (by omega)⟩
      refine hR _ _ _ _ ?_
      refine wv_of (msg_len ha) ?_
      rw [vbin_lss, wv_some, brB_dec]
      refine ⟨fun _ => ?_, fun h => absurd (by omega) h⟩
      obtain ⟨p, p1, p2⟩ := msg_at ha hx
      obtain ⟨q, q1, q2⟩ := msg_at hb hy
      refine wv_of p1 ?_
      refine wv_of p2 ?_
      refine wv_of q1 ?_
      refine wv_of q2 ?_
      rw [vbin_mneq (oa x (List.mem_of_getElem? hx)) (ob y (List.mem_of_getElem? hy)), wv_some, brB_ndec]
      refine ⟨fun h2 => ?_, fun h2 => ?_⟩
      · rw [decide_eq_false (fun h => h2 (by rw [h, hy] at hx; exact (Option.some.inj hx).symm))] at hQ
        exact hQ
      · rw [vbin_add, i64_in (by omega) (by omega), wv_some]
        refine ih (j + 1) (by omega) (by omega) ?_
        rw [List.take_add_one, List.take_add_one, he, hx, hy, h2]
  exact loop a.length 0 rfl (by omega) rfl

theorem escrowlaw15_SameUpdates.use {v w : AVal} {a b : List UpdM} (ha : IsSl 36 G v (a.map UpdM.av)) (hb : IsSl 36 G w (b.map UpdM.av)) (oa : ∀ m ∈ a, m.ok) (ob : ∀ m ∈ b, m.ok) (la : a.length ≤ 1000000000) (lb : b.length ≤ 1000000000)
    (hQ : Q (.bool (decide (a = b))) G) : ACalls P escrowlaw15_SameUpdates.n [v, w] G Q := by
  refine escrowlaw15_SameUpdates.sound ?_
  unfold escrowlaw15_SameUpdates.S
  refine wv_of (upd_len ha) ?_
  refine wv_of (upd_len hb) ?_
  rw [vbin_neq, wv_some, brB_ndec]
  refine ⟨fun h1 => ?_, fun h1 => ?_⟩
  · rw [decide_eq_false (fun h => h1 (by rw [h]))] at hQ
    exact hQ
  have hlen : a.length = b.length := by omega
  intro R hR
  have loop : ∀ (n j : Nat), a.length - j = n → j ≤ a.length → a.take j = b.take j → R [v, w, .int .i64 (j : Int)] G := by
    intro n
    induction n with
    | zero =>
      intro j hn hj he
      refine hR _ _ _ _ ?_
      refine wv_of (upd_len ha) ?_
      rw [vbin_lss, wv_some, brB_dec]
      refine ⟨fun h => absurd h (by omega), fun _ => ?_⟩
      have hjl : j = a.length := by omega
      rw [hjl, List.take_length, hlen, List.take_length] at he
      rw [decide_eq_true he] at hQ
      exact hQ
    | succ n ih =>
      intro j hn hj he
      obtain ⟨x, hx⟩ : ∃ x, a[j]? = some x := ⟨_, List.getElem?_eq_getElem (by omega)⟩
      obtain ⟨y, hy⟩ : ∃ y, b[j]? = some y := ⟨_, List.getElem?_eq_getElem (by omega)⟩
      refine hR _ _ _ _ ?_
      refine wv_of (upd_len ha) ?_
      rw [vbin_lss, wv_some, brB_dec]
      refine ⟨fun _ => ?_, fun h => absurd (by omega) h⟩
      obtain ⟨p, p1, p2⟩ := upd_at ha hx
      obtain ⟨q, q1, q2⟩ := upd_at hb hy
      refine wv_of p1 ?_
      refine wv_of p2 ?_
      refine wv_of q1 ?_
      refine wv_of q2 ?_
      rw [vbin_uneq (oa x (List.mem_of_getElem? hx)) (ob y (List.mem_of_getElem? hy)), wv_some, brB_ndec]
      refine ⟨fun h2 => ?_, fun h2 => ?_⟩
      · rw [decide_eq_false (fun h => h2 (by rw [h, hy] at hx; exact (Option.some.inj hx).symm))] at hQ
        exact hQ
      · rw [vbin_add, i64_in (by omega) (by omega), wv_some]
        refine ih (j + 1) (by omega) (by omega) ?_
        rw [List.take_add_one, List.take_add_one, he, hx, hy, h2]
  exact loop a.length 0 rfl (by omega) rfl

theorem pair_same (a b : Int) : vbin T .eql t_api_Counts (pairW a b) (pairW a b) = some (.bool true) := by
  rw [pair_eq (t := t_api_Counts)]; simp
theorem h2_same {a b : List UInt8} (ha : a.length = 32) (hb : b.length = 32) : vbin T .eql t_ar2_api_Hash (hash2V a b) (hash2V a b) = some (.bool true) := by
  have e1 : ∀ {x : List UInt8}, x.length = 32 → veqD T 8 t_api_Hash (.agg (x.map u8v)) (.agg (x.map u8v)) = some true := fun {x} hx => by
    rw [veqD_arr T_api_Hash rfl T_uint8, eqA_u8 T_uint8 rfl rfl 6 32 x x hx hx]; simp
  have f1 : vfits ti_api_Hash (.agg (a.map u8v)) = true := fits_hash ha
  have f2 : vfits ti_api_Hash (.agg (b.map u8v)) = true := fits_hash hb
  simp only [vbin, hash2V, veqD_arr T_ar2_api_Hash rfl T_api_Hash, eqA, f1, f2, e1 ha, e1 hb, Bool.and_self, if_true]

set_option maxHeartbeats 4000000 in
theorem escrowlaw15_SameState.same {f : StF} {vo vp vh wo wp wh : AVal} (h1 : StIn G f vo vp vh) (h2 : StIn G f wo wp wh) (hQ : ∀ G', Ch [] G [] G' → Q (.bool true) G') : ACalls P escrowlaw15_SameState.n [f.s.av vo vp vh, f.s.av wo wp wh] G Q := by
  have ho := h1.ok
  have hl := h1.lv
  have hm := h2.lv
  have hlh := h1.lh
  have hlo := h1.lo
  have hlp := h1.lp
  refine escrowlaw15_SameState.sound ?_
  unfold escrowlaw15_SameState.S
  intro i1 f1
  have s1 := (Sp.nil G).row f1 (f.s.av vo vp vh)
  intro i3 f3
  have s3 := s1.row f3 (f.s.av wo wp wh)
  revert s3
  generalize Heap.upd _ i3 _ = G4
  intro s3
  have k1 := h1.mv s3.ch
  have k2 := h2.mv s3.ch
  have hg := RowL.own (i := 1) s3 rfl
  have hk := RowL.own (i := 0) s3 rfl
  have ez : ∀ {t : TypeId} (n : Int), vbin T .eql t (.int .i64 n) (.int .i64 n) = some (.bool true) := fun n => ez0
  have eb : ∀ {t : TypeId} (b : Bool), vbin T .eql t_bool (.bool b) (.bool b) = some (.bool true) := fun b => by cases b <;> rfl
  refine wv_of (St.ld_shelf hg ho hl) ?_
  refine wv_of (slots_len k1.h.isSl) ?_
  refine wv_of (St.ld_shelf hk ho hm) ?_
  refine wv_of (slots_len k2.h.isSl) ?_
  rw [vbin_neq, wv_some, decide_eq_true rfl, Bool.not_true, brB_false]
  intro R hR
  have loop : ∀ (n j : Nat), f.h.length - j = n → j ≤ f.h.length → R [.ptr i1 [] 0, .ptr i3 [] 0, .int .i64 (j : Int)] G4 := by
    intro n
    induction n with
    | zero =>
      intro j hn hj
      refine hR _ _ _ _ ?_
      refine wv_of (v := .ptr i1 [15] 112) rfl ?_
      refine wv_of (St.ld_shelf hg ho hl) ?_
      refine wv_of (slots_len k1.h.isSl) ?_
      rw [vbin_lss, wv_some, brB_dec]
      refine ⟨fun h => absurd h (by omega), fun _ => ?_⟩
      refine wv_of (v := .ptr i1 [0] 0) rfl ?_
      refine wv_of (St.ld_side hg ho hl) ?_
      refine wv_of (v := .ptr i3 [0] 0) rfl ?_
      refine wv_of (St.ld_side hk ho hm) ?_
      refine wv_of (ez _) ?_
      rw [brB_true]
      refine wv_of (v := .ptr i1 [1] 1) rfl ?_
      refine wv_of (St.ld_cap hg ho hl) ?_
      refine wv_of (v := .ptr i3 [1] 1) rfl ?_
      refine wv_of (St.ld_cap hk ho hm) ?_
      refine wv_of (ez _) ?_
      rw [brB_true]
      refine wv_of (v := .ptr i1 [2] 2) rfl ?_
      refine wv_of (St.ld_bo hg ho hl) ?_
      refine wv_of (v := .ptr i3 [2] 2) rfl ?_
      refine wv_of (St.ld_bo hk ho hm) ?_
      refine wv_of (ez _) ?_
      rw [brB_true]
      refine wv_of (v := .ptr i1 [3] 3) rfl ?_
      refine wv_of (St.ld_bp hg ho hl) ?_
      refine wv_of (v := .ptr i3 [3] 3) rfl ?_
      refine wv_of (St.ld_bp hk ho hm) ?_
      refine wv_of (ez _) ?_
      rw [brB_true]
      refine wv_of (v := .ptr i1 [4] 4) rfl ?_
      refine wv_of (St.ld_ours hg ho hl) ?_
      refine wv_of (v := .ptr i3 [4] 4) rfl ?_
      refine wv_of (St.ld_ours hk ho hm) ?_
      refine escrowlaw15_SameUpdates.use k1.o.isSl k2.o.isSl h1.oko h1.oko (by omega) (by omega) ?_
      rw [decide_eq_true rfl, brB_true]
      refine wv_of (v := .ptr i1 [5] 5) rfl ?_
      refine wv_of (St.ld_peers hg ho hl) ?_
      refine wv_of (v := .ptr i3 [5] 5) rfl ?_
      refine wv_of (St.ld_peers hk ho hm) ?_
      refine escrowlaw15_SameUpdates.use k1.p.isSl k2.p.isSl h1.okp h1.okp (by omega) (by omega) ?_
      rw [decide_eq_true rfl, brB_true]
      refine wv_of (v := .ptr i1 [6] 6) rfl ?_
      refine wv_of (St.ld_loc hg ho hl) ?_
      refine wv_of (v := .ptr i3 [6] 6) rfl ?_
      refine wv_of (St.ld_loc hk ho hm) ?_
      refine wv_of (ez _) ?_
      rw [brB_true]
      refine wv_of (v := .ptr i1 [7] 7) rfl ?_
      refine wv_of (St.ld_rem hg ho hl) ?_
      refine wv_of (v := .ptr i3 [7] 7) rfl ?_
      refine wv_of (St.ld_rem hk ho hm) ?_
      refine wv_of (ez _) ?_
      rw [brB_true]
      refine wv_of (v := .ptr i1 [8] 8) rfl ?_
      refine wv_of (St.ld_ack hg ho hl) ?_
      refine wv_of (v := .ptr i3 [8] 8) rfl ?_
      refine wv_of (St.ld_ack hk ho hm) ?_
      refine wv_of (ez _) ?_
      rw [brB_true]
      refine wv_of (v := .ptr i1 [9] 9) rfl ?_
      refine wv_of (St.ld_at hg ho hl) ?_
      refine wv_of (v := .ptr i3 [9] 9) rfl ?_
      refine wv_of (St.ld_at hk ho hm) ?_
      refine wv_of (pair_same _ _) ?_
      rw [brB_true]
      refine wv_of (v := .ptr i1 [10] 11) rfl ?_
      refine wv_of (St.ld_sgn hg ho hl) ?_
      refine wv_of (v := .ptr i3 [10] 11) rfl ?_
      refine wv_of (St.ld_sgn hk ho hm) ?_
      refine wv_of (pair_same _ _) ?_
      rw [brB_true]
      refine wv_of (v := .ptr i1 [11] 13) rfl ?_
      refine wv_of (St.ld_held hg ho hl) ?_
      refine wv_of (v := .ptr i3 [11] 13) rfl ?_
      refine wv_of (St.ld_held hk ho hm) ?_
      refine wv_of (pair_same _ _) ?_
      rw [brB_true]
      refine wv_of (v := .ptr i1 [12] 15) rfl ?_
      refine wv_of (St.ld_behind hg ho hl) ?_
      refine wv_of (v := .ptr i3 [12] 15) rfl ?_
      refine wv_of (St.ld_behind hk ho hm) ?_
      refine wv_of (eb (t := t_bool) _) ?_
      rw [brB_true]
      refine wv_of (v := .ptr i1 [13] 16) rfl ?_
      refine wv_of (St.ld_pts hg ho hl) ?_
      refine wv_of (v := .ptr i3 [13] 16) rfl ?_
      refine wv_of (St.ld_pts hk ho hm) ?_
      refine wv_of (h2_same ho.ptsA ho.ptsB) ?_
      rw [brB_true]
      refine wv_of (v := .ptr i1 [14] 80) rfl ?_
      refine wv_of (St.ld_sig hg ho hl) ?_
      refine wv_of (v := .ptr i3 [14] 80) rfl ?_
      refine wv_of (St.ld_sig hk ho hm) ?_
      refine wv_of (hash_eql2 ho.sig ho.sig) ?_
      rw [decide_eq_true rfl, brB_true]
      refine wv_of (v := .ptr i1 [16] 113) rfl ?_
      refine wv_of (St.ld_failed hg ho hl) ?_
      refine wv_of (v := .ptr i3 [16] 113) rfl ?_
      refine wv_of (St.ld_failed hk ho hm) ?_
      refine wv_of (ez _) ?_
      rw [brB_true]
      refine wv_of (v := .ptr i1 [17] 114) rfl ?_
      refine wv_of (St.ld_closed hg ho hl) ?_
      refine wv_of (v := .ptr i3 [17] 114) rfl ?_
      refine wv_of (St.ld_closed hk ho hm) ?_
      refine wv_of (ez _) ?_
      exact hQ _ s3.ch
    | succ n ih =>
      intro j hn hj
      obtain ⟨u, hu⟩ : ∃ u, f.h[j]? = some u := ⟨_, List.getElem?_eq_getElem (by omega)⟩
      have huo := h1.okh u (List.mem_of_getElem? hu)
      refine hR _ _ _ _ ?_
      refine wv_of (v := .ptr i1 [15] 112) rfl ?_
      refine wv_of (St.ld_shelf hg ho hl) ?_
      refine wv_of (slots_len k1.h.isSl) ?_
      rw [vbin_lss, wv_some, brB_dec]
      refine ⟨fun _ => ?_, fun h => absurd (by omega) h⟩
      refine wv_of (v := .ptr i1 [15] 112) rfl ?_
      refine wv_of (St.ld_shelf hg ho hl) ?_
      obtain ⟨a, a1, a2⟩ := slot_at k1.h.isSl rfl hu
      obtain ⟨b, b1, b2⟩ := slot_at k2.h.isSl rfl hu
      refine wv_of a1 ?_
      refine wv_of a2 ?_
      refine wv_of (v := .ptr i3 [15] 112) rfl ?_
      refine wv_of (St.ld_shelf hk ho hm) ?_
      refine wv_of b1 ?_
      refine wv_of b2 ?_
      rw [slot_neq huo huo, wv_some, decide_eq_true rfl, Bool.not_true, brB_false]
      rw [vbin_add, i64_in (by omega) (by omega), wv_some]
      exact ih (j + 1) (by omega) (by omega)
  exact loop f.h.length 0 rfl (by omega)

theorem g15_in {a b : List UInt8} {v : AVal} (ha : a.length = 32) (hb : b.length = 32) {ps : List LP} {G0 G : Heap} {i : Nat} (s : Sp F0 G0 ps G) (hi : ps[i]? = some (OwnL 36 v ([u5M].map UpdM.av))) : StIn G (g15 a b) v .nilSlice .nilSlice :=
  ⟨(f15_in ha hb G).ok, Own.capSl (OwnL.own s hi), CapSl.nil, CapSl.nil, by intro u hu; rw [List.mem_singleton.1 hu]; exact u5M_ok, by simp [g15], by simp [g15], by simp [g15], by simp [g15], by simp [g15]⟩

theorem Sps.app {ps : List LP} {Fs : List (List AId)} {G : Heap} (h : Sps ps Fs G) : ∀ {qs : List LP} {Gs : List (List AId)}, Sps qs Gs G → (∀ j ∈ Gs.flatten, j ∉ Fs.flatten) → Sps (qs ++ ps) (Gs ++ Fs) G
  | [], [], _, _ => h
  | q :: qs, E :: Gs, ⟨h1, h2, h3⟩, hd => by
    refine ⟨h1, fun j hj hm => ?_, Sps.app h h3 fun j hj => hd j (by simp only [List.flatten_cons, List.mem_append]; exact .inr hj)⟩
    have hm : j ∈ (Gs ++ Fs).flatten := hm
    rw [List.flatten_append, List.mem_append] at hm
    rcases hm with hm | hm
    · exact h2 j hj hm
    · exact hd j (by simp only [List.flatten_cons, List.mem_append]; exact .inl hj) hm
  | [], _ :: _, h, _ => h.elim
  | _ :: _, [], h, _ => h.elim
/-- A call that leaves more things. -/
theorem sp_app {G' : Heap} {qs : List LP} (h : Sp F0 G0 ps G) (t : Sp [] G qs G') : Sp F0 G0 (qs ++ ps) G' := by
  obtain ⟨Fs, h1, h2⟩ := h
  obtain ⟨Gs, t1, t2⟩ := t
  refine ⟨Gs ++ Fs, Sps.app (h1.same fun j hj => t2.same (E := Fs.flatten) h1.rows (by simp) j hj) t1 fun j hj hm => ?_, h2.trans ?_⟩
  · rcases t2.row j hj with h' | h'
    · simp at h'
    · have := h1.rows j hm
      rw [h'] at this; cases this
  · have := t2.more (E := Fs.flatten)
    simpa using this

set_option maxHeartbeats 8000000 in
theorem escrowlaw18_first.use (hT : Tab G) (hQ : ∀ G', Ch [] G [] G' → Q (.bool true) G') : ACalls P escrowlaw18_first.n [] G Q := by
  refine escrowlaw18_first.sound ?_
  unfold escrowlaw18_first.S
  refine wv_of (v := d15.av) rfl ?_
  refine escrowlaw15_Configs.use d15_ok fun G3 c3 => ?_
  have s3 := (Sp.nil G).tmp c3
  obtain ⟨x, hx⟩ : ∃ z, z = pointS h0 0 := ⟨_, rfl⟩
  obtain ⟨y, hy⟩ : ∃ z, z = pointS h0 1 := ⟨_, rfl⟩
  have lx : x.length = 32 := by rw [hx]; exact pointS_len _ _
  have ly : y.length = 32 := by rw [hy]; exact pointS_len _ _
  have e0 : cfg0 d15 = c15 x y := by rw [hx, hy]; rfl
  obtain ⟨C1, hC1⟩ : ∃ C, C = cfg1 d15 := ⟨_, rfl⟩
  rw [e0, ← hC1]
  have hc : (c15 x y).ok := by rw [← e0]; exact cfg0_ok d15_ok
  have hS := f15_in lx ly
  have hso := (hS G).ok
  refine wv_of (cf_index hc (by rw [hC1]; exact cfg1_ok d15_ok)) ?_
  refine Cf.nw s3 hc fun i5 G7 s7 => ?_
  refine wv_of (Cf.ld (RowL.own (i := 0) s7 rfl) hc) ?_
  refine escrowref15_Start.use hc fun G10 c10 => ?_
  have s10 := s7.tmp c10
  rw [start_15]
  refine wv_of (tv0 _ _) ?_
  refine wv_of (tv1 _ _) ?_
  refine St.nw s10 hso lv0 fun i13 G15 s15 => ?_
  refine wv_of (Cf.ld_seed (RowL.own (i := 1) s15 rfl) hc) ?_
  obtain ⟨X, hX, lX, nX⟩ := sec_0
  refine escrowref09_Secret.use h0_len fun G18 c18 => ?_
  have s18 := s15.tmp c18
  rw [show (c15 x y).seed = h0 from rfl]
  rw [hX]
  refine wv_of (hi0 _) ?_
  refine wv_of (hi1 _) ?_
  refine newHash s18 lX fun i21 G23 s23 => ?_
  refine wv_of (Cf.ld (RowL.own (i := 2) s23 rfl) hc) ?_
  refine wv_of (St.ld (RowL.own (i := 1) s23 rfl) hso lv0) ?_
  refine resume_Hello.use (hT.mono s23.ro) (hS _) hc fun G27 c27 => ?_
  have s27 := s23.tmp c27
  rw [hello_15]
  refine newM s27 hi1M_ok fun i28 G30 s30 => ?_
  have s30 : Sp [] G [RowL i28 hi1M.av, RowL i21 (.agg (X.map u8v)), RowL i13 ((f15 x y).s.av .nilSlice .nilSlice .nilSlice), RowL i5 (c15 x y).av] G30 := s30
  have ans : ∀ {ps : List LP} {G1 : Heap} {m : MsgM} {e : Int} {K : AVal → Heap → Prop}, Sp [] G ps G1 → m.ok → answerS (c15 x y) (f15 x y) m = ([], e) → (∀ v G2, Sp [] G ps G2 → K (.tuple [v, .int .i64 e]) G2) →
      ACalls P resume_Answer.n [(c15 x y).av, (f15 x y).s.av .nilSlice .nilSlice .nilSlice, m.av] G1 K := by
    intro ps G1 m e K s hm he hK
    refine resume_Answer.use (hS _) hc hm fun w G2 t => ?_
    rw [he]
    exact hK w G2 (s.tmp t.ch)
  refine wv_of (Cf.ld (RowL.own (i := 3) s30 rfl) hc) ?_
  refine wv_of (St.ld (RowL.own (i := 2) s30 rfl) hso lv0) ?_
  refine wv_of (v := hi1M.av) rfl ?_
  refine ans s30 hi1M_ok (ans_1 x y) fun v34 G35 s35 => ?_
  refine wv_of (tv0 _ _) ?_
  refine wv_of (tv1 _ _) ?_
  refine wv_of (Cf.ld (RowL.own (i := 3) s35 rfl) hc) ?_
  refine wv_of (St.ld (RowL.own (i := 2) s35 rfl) hso lv0) ?_
  refine wv_of (v := hi2M.av) rfl ?_
  refine ans s35 hi2M_ok (ans_2 x y) fun v41 G42 s42 => ?_
  refine wv_of (tv0 _ _) ?_
  refine wv_of (tv1 _ _) ?_
  refine wv_of (Cf.ld (RowL.own (i := 3) s42 rfl) hc) ?_
  refine wv_of (St.ld (RowL.own (i := 2) s42 rfl) hso lv0) ?_
  refine wv_of (v := (hi3M h0).av) rfl ?_
  refine ans s42 (hi3M_ok h0_len) (ans_3 hX nX) fun v48 G49 s49 => ?_
  refine wv_of (tv0 _ _) ?_
  refine wv_of (tv1 _ _) ?_
  refine wv_of (Cf.ld (RowL.own (i := 3) s49 rfl) hc) ?_
  refine wv_of (St.ld (RowL.own (i := 2) s49 rfl) hso lv0) ?_
  refine wv_of (load_hash lX (RowL.own (i := 1) s49 rfl)) ?_
  refine wv_of (build_hi3 lX) ?_
  refine ans s49 (hi3M_ok lX) (ans_4 hX) fun v56 G57 s57 => ?_
  refine wv_of (tv0 _ _) ?_
  refine wv_of (tv1 _ _) ?_
  refine wv_of (v := u5M.av) rfl ?_
  refine buildL (T := T) (ts := t_sl_api_Update) (e := t_api_Update) (si := ti_sl_api_Update) (ie := ti_api_Update) (n := 1) (l := [u5M].map UpdM.av) T_sl_api_Update rfl T_api_Update rfl rfl rfl rfl (by simp [UpdM.sz u5M_ok, ti_api_Update]) (by decide) s57 fun v61 G62 s62 => ?_
  have l61 : Leaf v61 := (OwnL.own (i := 0) s62 rfl).leaf
  refine St.st_ours (i := 3) s62 rfl hso lv0 l61 fun G63 s63 => ?_
  have s63 : Sp [] G [OwnL 36 v61 ([u5M].map UpdM.av), RowL i28 hi1M.av, RowL i21 (.agg (X.map u8v)), RowL i13 ((f15 x y).s.av v61 .nilSlice .nilSlice), RowL i5 (c15 x y).av] G63 := s63
  refine wv_of (Cf.ld (RowL.own (i := 4) s63 rfl) hc) ?_
  refine wv_of (St.ld (RowL.own (i := 3) s63 rfl) hso ⟨l61, Leaf.nil, Leaf.nil⟩) ?_
  refine wv_of (v := hi1M.av) rfl ?_
  refine resume_Answer.use (f := g15 x y) (g15_in lx ly s63 (i := 0) rfl) hc hi1M_ok fun w G68 t68 => ?_
  rw [ans_5] at t68 ⊢
  obtain ⟨F68, o68, c68⟩ := t68.out
  have s68 := s63.new o68 c68
  refine wv_of (tv0 _ _) ?_
  refine wv_of (tv1 _ _) ?_
  refine wv_of (msg_load (i := 2) s68 rfl hi1M_ok).2.2.2.2.2.2.2.2 ?_
  refine wv_of (v := hi1M.av) rfl ?_
  refine wv_of (vbin_meql hi1M_ok hi1M_ok) ?_
  rw [decide_eq_true rfl, brB_true]
  have e3 : ∀ n : Int, vbin T .eql t_api_Errno (.int .i64 n) (.int .i64 n) = some (.bool true) := fun n => ez0
  refine wv_of (e3 0) ?_
  rw [brB_true]
  refine wv_of (e3 90) ?_
  rw [brB_true]
  refine wv_of (e3 100) ?_
  rw [brB_true]
  refine wv_of (e3 180) ?_
  rw [brB_true]
  refine wv_of (e3 0) ?_
  rw [brB_true]
  refine wv_of (v := (msgOf u5M).av) rfl ?_
  refine buildL (T := T) (ts := t_sl_api_Message) (e := t_api_Message) (si := ti_sl_api_Message) (ie := ti_api_Message) (n := 1) (l := [msgOf u5M].map MsgM.av) T_sl_api_Message rfl T_api_Message rfl rfl rfl rfl (by simp [MsgM.sz (msgOf_ok u5M_ok), ti_api_Message]) (by decide) s68 fun v80 G81 s81 => ?_
  have ok1 : ∀ m ∈ [msgOf u5M], m.ok := by intro m hm; rw [List.mem_singleton.1 hm]; exact msgOf_ok u5M_ok
  refine escrowlaw18_same.use (OwnL.own (i := 1) s81 rfl).is (OwnL.own (i := 0) s81 rfl).is ok1 ok1 (by simp) (by simp) ?_
  rw [decide_eq_true rfl]
  exact hQ _ s81.ch

set_option maxHeartbeats 4000000 in
theorem law_ResumeEnds {R : Nat} {G : Heap} {c s m : AVal} {m1 m2 m3 : Nat} (hT : Tab G) (h1 : wt T G R 6 t_api_Config c m1) (h2 : wt T G R 6 t_api_State s m2) (h3 : wt T G R 6 t_api_Message m m3) (hm : m1 + (m2 + m3) ≤ 1048576) :
    ACalls P escrowlaw18_ResumeEnds.n [c, s, m] G fun v _ => v = .bool true := by
  obtain ⟨c, rfl, hc⟩ := wt_Config h1
  obtain ⟨f, vo, vp, vh, rfl, hS⟩ := wt_State h2 (by omega)
  obtain ⟨m, rfl, hmo⟩ := wt_Msg h3
  have ho := hS.ok
  have hl := hS.lv
  refine escrowlaw18_ResumeEnds.sound ?_
  unfold escrowlaw18_ResumeEnds.S
  intro i1 f1
  have s1 := (Sp.nil G).row f1 c.av
  intro i3 f3
  have s3 := s1.row f3 (f.s.av vo vp vh)
  intro i5 f5
  have s5 := s3.row f5 m.av
  refine escrowlaw18_first.use (hT.mono s5.ro) fun G8 c8 => ?_
  have s8 := s5.tmp c8
  have s8 : Sp [] G [RowL i5 m.av, RowL i3 (f.s.av vo vp vh), RowL i1 c.av] G8 := s8
  rw [vun_not, wv_some, Bool.not_true, brB_false]
  refine wv_of (St.ld (RowL.own (i := 1) s8 rfl) ho hl) ?_
  refine escrowlaw15_Copy.use (hS.mv s8.ch) fun wo wp wh G12 t12 => ?_
  have hC := StIn.copy (i := 2) (j := 1) (k := 0) hS t12 rfl rfl rfl
  have s12 := s8.tmp t12.ch
  have lC := hC.lv
  have s12 : Sp [] G [OwnL 34 wh (f.h.map SlotM.av), OwnL 36 wp (f.p.map UpdM.av), OwnL 36 wo (f.o.map UpdM.av), RowL i5 m.av, RowL i3 (f.s.av vo vp vh), RowL i1 c.av] G12 := sp_app s8 t12
  refine St.nw s12 ho lC fun i13 G15 s15 => ?_
  have at_ : ∀ {ps : List LP} {G2 : Heap}, Sp [] G (RowL i13 (f.s.av wo wp wh) :: OwnL 34 wh (f.h.map SlotM.av) :: OwnL 36 wp (f.p.map UpdM.av) :: OwnL 36 wo (f.o.map UpdM.av) :: ps) G2 → StIn G2 f wo wp wh := fun s => StIn.copy (i := 3) (j := 2) (k := 1) hS s rfl rfl rfl
  refine wv_of (Cf.ld (RowL.own (i := 6) s15 rfl) hc) ?_
  refine wv_of (St.ld (RowL.own (i := 0) s15 rfl) ho lC) ?_
  refine resume_Hello.use (hT.mono s15.ro) (at_ s15) hc fun G19 c19 => ?_
  have s19 := s15.tmp c19
  refine wg_of (vstore_fld (c := .int .i64 6) (u := .int .i64 m.kind) (RowL.own (i := 4) s19 rfl) rfl rfl T_int rfl rfl rfl) ?_
  have hmo2 : ({ m with kind := 6 } : MsgM).ok := ⟨i64_n 6 (by decide) (by decide), hmo.id, hmo.amount, hmo.index, hmo.next, hmo.hash, hmo.secret, hmo.note⟩
  have s20 := Sp.setRow (j := 4) s19 rfl ({ m with kind := 6 } : MsgM).av
  revert s20
  generalize hm2 : ({ m with kind := 6 } : MsgM) = M2
  rw [hm2] at hmo2
  have e2 : (AVal.agg (m.cs.set 0 (.int .i64 6))) = M2.av := by rw [← hm2]; rfl
  rw [e2]
  generalize Heap.upd _ i5 _ = G20
  intro s20
  have s20 : Sp [] G [RowL i13 (f.s.av wo wp wh), OwnL 34 wh (f.h.map SlotM.av), OwnL 36 wp (f.p.map UpdM.av), OwnL 36 wo (f.o.map UpdM.av), RowL i5 M2.av, RowL i3 (f.s.av vo vp vh), RowL i1 c.av] G20 := s20
  refine wv_of (Cf.ld (RowL.own (i := 6) s20 rfl) hc) ?_
  refine wv_of (St.ld (RowL.own (i := 0) s20 rfl) ho lC) ?_
  refine wv_of (msg_load (i := 4) s20 rfl hmo2).2.2.2.2.2.2.2.2 ?_
  refine resume_Answer.use (at_ s20) hc hmo2 fun w G25 t25 => ?_
  have s25 := s20.tmp t25.ch
  refine wv_of (St.ld (RowL.own (i := 0) s25 rfl) ho lC) ?_
  refine wv_of (St.ld (RowL.own (i := 5) s25 rfl) ho hl) ?_
  refine escrowlaw15_SameState.same (at_ s25) (hS.mv s25.ch) fun G29 c29 => ?_
  rfl
end
end Go.Esc.M
