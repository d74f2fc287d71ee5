import Derived.Test.YtdoelihemgopcaaLNb
import Derived.Test.YtdoelihemgopcaaLDg
import Derived.Test.YtdoelihemgopcaaLSe
import Derived.Test.YtdoelihemgopcaaLUf
import Derived.Test.YtdoelihemgopcaaLHt
import Derived.Test.YtdoelihemgopcaaLFa
/- Own work. Chapter 15: own texts, Came, Again, Reveal, Revoked, Cut, Start, in the program. -/
set_option linter.unusedSimpArgs false
set_option linter.unusedVariables false
set_option maxRecDepth 20000
namespace Go.Esc.M
open Go Go.Esc

structure CameM where
  r : RcM
  l : List UpdM
  e : Int
def StM.zero : StM := ⟨0, 0, 0, 0, 0, 0, 0, 0, 0, 0, 0, 0, 0, false, h0, h0, h0, 0, 0⟩
theorem StM.zero_ok : StM.zero.ok := ⟨i64_0, i64_0, i64_0, i64_0, i64_0, i64_0, i64_0, i64_0, i64_0, i64_0, i64_0, i64_0, i64_0, rfl, rfl, rfl, i64_0, i64_0⟩
theorem lv0 : Leaf .nilSlice ∧ Leaf .nilSlice ∧ Leaf .nilSlice := ⟨Leaf.nil, Leaf.nil, Leaf.nil⟩
theorem zSta : z_api_State = StM.zero.av .nilSlice .nilSlice .nilSlice := rfl
def startB (c : CfM) : Prop := c.side < 0 ∨ 1 < c.side ∨ c.cap < 1 ∨ right c.cap = false ∨ c.ours < 0 ∨ c.cap < c.ours
instance (c : CfM) : Decidable (startB c) := by unfold startB; infer_instance
section
variable {F0 : List AId} {G0 G : Heap} {ps : List LP} {Q : AVal → Heap → Prop}

theorem nil_test {t : TypeId} {si : TI} {e : TypeId} (ht : T t = some si) (hd : si.desc = .slice e) {n : Nat} {v : AVal} {vs : List AVal} (h : IsSl n G v vs) : (v = .nilSlice ∧ vs = [] ∧ vbin T .eql t v .nilSlice = some (.bool true)) ∨ vbin T .eql t v .nilSlice = some (.bool false) := by
  rcases h with ⟨_, _, _, _, _, _, rfl, _⟩ | ⟨rfl, rfl⟩
  · exact .inr (by simp [vbin, veqD, ht, hd])
  · exact .inl ⟨rfl, rfl, by simp [vbin, veqD, ht, hd]⟩
theorem clone_upd.use {v : AVal} {l : List UpdM} (hl : IsSl 36 G v (l.map UpdM.av)) (hok : ∀ u ∈ l, u.ok) (hlen : l.length ≤ 1048576) (hQ : ∀ w G', Sp [] G [OwnL 36 w (l.map UpdM.av)] G' → Q w G') : ACalls P slices_Clone_escrow_api_Update_escrow_api_Update.n [v] G Q := by
  refine slices_Clone_escrow_api_Update_escrow_api_Update.sound ?_
  unfold slices_Clone_escrow_api_Update_escrow_api_Update.S
  rcases nil_test T_sl_api_Update rfl hl with ⟨rfl, h2, h3⟩ | h3
  · refine wv_of h3 ?_
    rw [brB_true]
    have s := (Sp.nil G).nilL 36
    rw [← h2] at s
    exact hQ _ _ s
  · refine wv_of h3 ?_
    rw [brB_false]
    refine buildL (T := T) (ts := t_sl_api_Update) (e := t_api_Update) (si := ti_sl_api_Update) (ie := ti_api_Update) (n := 0) (l := []) T_sl_api_Update rfl T_api_Update rfl rfl rfl rfl (by simp) (by decide) (Sp.nil G) fun v2 G3 s3 => ?_
    refine growL (T := T) (ts := t_sl_api_Update) (e := t_api_Update) (si := ti_sl_api_Update) (ie := ti_api_Update) (tx := t_sl_api_Update) (xi := ti_sl_api_Update) (i := 0) (vs := []) (xs := l.map UpdM.av) T_sl_api_Update rfl T_api_Update rfl (by decide) T_sl_api_Update (.inr ⟨_, rfl⟩) s3 rfl (hl.ch' s3.ch).elems (upds_uni hok).1 (upds_uni hok).2 (by rw [show ti_api_Update.bytes = 72 from rfl, List.length_map]; simp; omega) fun w G5 s5 => ?_
    exact hQ _ _ s5
theorem clone_slot.use {v : AVal} {l : List SlotM} (hl : IsSl 34 G v (l.map SlotM.av)) (hok : ∀ u ∈ l, u.ok) (hlen : l.length * 48 ≤ 140737488351232) (hQ : ∀ w G', Sp [] G [OwnL 34 w (l.map SlotM.av)] G' → Q w G') : ACalls P slices_Clone_escrow_api_Slot_escrow_api_Slot.n [v] G Q := by
  refine slices_Clone_escrow_api_Slot_escrow_api_Slot.sound ?_
  unfold slices_Clone_escrow_api_Slot_escrow_api_Slot.S
  rcases nil_test T_sl_api_Slot rfl hl with ⟨rfl, h2, h3⟩ | h3
  · refine wv_of h3 ?_
    rw [brB_true]
    have s := (Sp.nil G).nilL 34
    rw [← h2] at s
    exact hQ _ _ s
  · refine wv_of h3 ?_
    rw [brB_false]
    refine buildL (T := T) (ts := t_sl_api_Slot) (e := t_api_Slot) (si := ti_sl_api_Slot) (ie := ti_api_Slot) (n := 0) (l := []) T_sl_api_Slot rfl T_api_Slot rfl rfl rfl rfl (by simp) (by decide) (Sp.nil G) fun v2 G3 s3 => ?_
    refine growL (T := T) (ts := t_sl_api_Slot) (e := t_api_Slot) (si := ti_sl_api_Slot) (ie := ti_api_Slot) (tx := t_sl_api_Slot) (xi := ti_sl_api_Slot) (i := 0) (vs := []) (xs := l.map SlotM.av) T_sl_api_Slot rfl T_api_Slot rfl (by decide) T_sl_api_Slot (.inr ⟨_, rfl⟩) s3 rfl (hl.ch' s3.ch).elems (uni_slots hok) (okvs_slots l) (by rw [show ti_api_Slot.bytes = 48 from rfl, List.length_map]; simp; omega) fun w G5 s5 => ?_
    exact hQ _ _ s5

theorem szHash {h : List UInt8} (hl : h.length = 32) : some (Esc.sz (.agg (h0.map u8v))) = some (Esc.sz (.agg (h.map u8v))) := by rw [Esc.sz, Esc.sz, szh hl, szh h0_len]

end

end Go.Esc.M

/- Own work. Chapter 17: a record's change; is it valid; itself as a record. -/
set_option linter.unusedSimpArgs false
set_option linter.unusedVariables false
set_option maxRecDepth 20000
namespace Go.Esc.M
open Go Go.Esc

def isIdx (n : Int) : Bool := decide (0 ≤ n) && decide (n ≤ 281474976710655)
def isCnt (n : Int) : Bool := decide (0 ≤ n) && decide (n ≤ 2048)
def chgV (r : RcM) (v : AVal) : AVal :=
  if r.kind = 1 then .iface t_record_ours (.agg [r.upd.av]) else if r.kind = 2 then .iface t_record_signed (.agg [.int .i64 r.index, pairW r.cntA r.cntB])
  else if r.kind = 3 then .iface t_record_came (.agg [.int .i64 r.index, v, .agg (r.sig.map u8v)]) else if r.kind = 4 then .iface t_record_revoked (.agg [.int .i64 r.index, .agg (r.secret.map u8v), .agg (r.point.map u8v)])
  else if r.kind = 5 then .iface t_record_failed (.agg [.int .i64 r.code]) else if r.kind = 6 then .iface t_record_closed (.agg [.int .i64 r.index]) else .nilIface
def kindK (r : RcM) : Prop := r.kind = 1 ∨ r.kind = 2 ∨ r.kind = 3 ∨ r.kind = 4 ∨ r.kind = 5 ∨ r.kind = 6
def validK (r : RcM) (l : List UpdM) : Bool :=
  if r.kind = 1 then validU r.upd else if r.kind = 2 then isIdx r.index && (isCnt r.cntA && isCnt r.cntB) else if r.kind = 3 then isIdx r.index && (decide (l.length ≤ 512) && l.all validU)
  else if r.kind = 5 then decide (1 ≤ r.code) && decide (r.code ≤ 65535) else isIdx r.index
def namedK (r : RcM) : RcM :=
  if r.kind = 1 then { RcM.zero with kind := 1, upd := r.upd } else if r.kind = 2 then { RcM.zero with kind := 2, index := r.index, cntA := r.cntA, cntB := r.cntB }
  else if r.kind = 3 then { RcM.zero with kind := 3, index := r.index, sig := r.sig } else if r.kind = 4 then { RcM.zero with kind := 4, index := r.index, secret := r.secret, point := r.point }
  else if r.kind = 5 then { RcM.zero with kind := 5, code := r.code } else { RcM.zero with kind := 6, index := r.index }
def listK (r : RcM) (l : List UpdM) : List UpdM := if r.kind = 3 then l else []
def validR (r : RcM) (l : List UpdM) : Bool := decide (1 ≤ r.kind ∧ r.kind ≤ 6) && (validK r l && decide (namedK r = r ∧ listK r l = l))
theorem kind_of {r : RcM} (h : 1 ≤ r.kind ∧ r.kind ≤ 6) : kindK r := by unfold kindK; omega
theorem namedK_ok {r : RcM} (h : r.ok) : (namedK r).ok := by
  unfold namedK
  split
  · exact ⟨i64_n 1 (by decide) (by decide), h.upd, i64_0, i64_0, i64_0, rfl, rfl, rfl, i64_0⟩
  split
  · exact ⟨i64_n 2 (by decide) (by decide), UpdM.zero_ok, h.index, h.cntA, h.cntB, rfl, rfl, rfl, i64_0⟩
  split
  · exact ⟨i64_n 3 (by decide) (by decide), UpdM.zero_ok, h.index, i64_0, i64_0, h.sig, rfl, rfl, i64_0⟩
  split
  · exact ⟨i64_n 4 (by decide) (by decide), UpdM.zero_ok, h.index, i64_0, i64_0, rfl, h.secret, h.point, i64_0⟩
  split
  · exact ⟨i64_n 5 (by decide) (by decide), UpdM.zero_ok, i64_0, i64_0, i64_0, rfl, rfl, rfl, h.code⟩
  · exact ⟨i64_n 6 (by decide) (by decide), UpdM.zero_ok, h.index, i64_0, i64_0, rfl, rfl, rfl, i64_0⟩

section
variable {F0 : List AId} {G0 G : Heap} {ps : List LP} {Q : AVal → Heap → Prop}

theorem record_isIndex.use {n : Int} (hQ : Q (.bool (isIdx n)) G) : ACalls P record_isIndex.n [.int .i64 n] G Q := by
  refine record_isIndex.sound ?_
  unfold record_isIndex.S
  unfold isIdx at hQ
  rw [vbin_geq, wv_some, brB_dec]
  refine ⟨fun h => ?_, fun h => by rwa [decide_eq_false h, Bool.false_and] at hQ⟩
  rw [decide_eq_true h, Bool.true_and] at hQ
  rw [vbin_leq, wv_some]
  exact hQ
theorem record_isCount.use {n : Int} (hQ : Q (.bool (isCnt n)) G) : ACalls P record_isCount.n [.int .i64 n] G Q := by
  refine record_isCount.sound ?_
  unfold record_isCount.S
  unfold isCnt at hQ
  rw [vbin_geq, wv_some, brB_dec]
  refine ⟨fun h => ?_, fun h => by rwa [decide_eq_false h, Bool.false_and] at hQ⟩
  rw [decide_eq_true h, Bool.true_and] at hQ
  rw [vbin_leq, wv_some]
  exact hQ

theorem szHash0 {h : List UInt8} (hl : h.length = 32) : some (Esc.sz (.agg (h0.map u8v))) = some (Esc.sz (.agg (h.map u8v))) := by rw [Esc.sz, Esc.sz, szh hl, szh h0_len]
theorem bs_ours {u : UpdM} (h : u.ok) : vbuild T t_record_ours [(0, u.av)] = some (.agg [u.av]) :=
  (build_struct (zs := [UpdM.zero.av]) T_record_ours rfl rfl rfl (plOk_of rfl) fun p hp => by
    rw [List.mem_singleton.1 hp]
    show some (Esc.sz UpdM.zero.av) = some (Esc.sz u.av)
    rw [UpdM.sz UpdM.zero_ok, UpdM.sz h]).trans rfl
theorem bs_signed {i a b : Int} : vbuild T t_record_signed [(0, .int .i64 i), (1, pairW a b)] = some (.agg [.int .i64 i, pairW a b]) := rfl
theorem bs_came {i : Int} {v : AVal} {s : List UInt8} (hv : Leaf v) (hs : s.length = 32) : vbuild T t_record_came [(0, .int .i64 i), (1, v), (2, .agg (s.map u8v))] = some (.agg [.int .i64 i, v, .agg (s.map u8v)]) :=
  (build_struct (zs := [.int .i64 0, .nilSlice, .agg (h0.map u8v)]) T_record_came rfl rfl rfl (plOk_of rfl) fun p hp => by
    simp only [List.mem_cons, List.not_mem_nil, or_false] at hp
    rcases hp with rfl | rfl | rfl
    · rfl
    · show some 1 = some (Esc.sz v)
      rw [hv.1]
    · exact szHash0 hs).trans rfl
theorem bs_revoked {i : Int} {s t : List UInt8} (hs : s.length = 32) (ht : t.length = 32) : vbuild T t_record_revoked [(0, .int .i64 i), (1, .agg (s.map u8v)), (2, .agg (t.map u8v))] = some (.agg [.int .i64 i, .agg (s.map u8v), .agg (t.map u8v)]) :=
  (build_struct (zs := [.int .i64 0, .agg (h0.map u8v), .agg (h0.map u8v)]) T_record_revoked rfl rfl rfl (plOk_of rfl) fun p hp => by
    simp only [List.mem_cons, List.not_mem_nil, or_false] at hp
    rcases hp with rfl | rfl | rfl
    · rfl
    · exact szHash0 hs
    · exact szHash0 ht).trans rfl

set_option maxHeartbeats 1000000 in
theorem record_of.use {r : RcM} {v : AVal} (hr : r.ok) (hv : Leaf v) (hQ : ∀ G', Ch [] G [] G' → Q (chgV r v) G') : ACalls P record_of.n [r.av v] G Q := by
  refine record_of.sound ?_
  unfold record_of.S
  unfold chgV at hQ
  intro i1 f1
  have s1 := (Sp.nil G).row f1 (r.av v)
  revert s1
  generalize Heap.upd _ i1 _ = G2
  intro s1
  have hg := RowL.own (i := 0) s1 rfl
  refine wv_of (Rc.ld_kind hg hr hv) ?_
  rw [vbin_eql, wv_some, brB_dec]
  refine ⟨fun h => ?_, fun h => ?_⟩
  · rw [if_pos h] at hQ
    refine wv_of (Rc.ld_upd hg hr hv) ?_
    refine wv_of (bs_ours hr.upd) ?_
    exact hQ _ s1.ch
  rw [if_neg h] at hQ
  rw [vbin_eql, wv_some, brB_dec]
  refine ⟨fun h => ?_, fun h => ?_⟩
  · rw [if_pos h] at hQ
    refine wv_of (Rc.ld_index hg hr hv) ?_
    refine wv_of (Rc.ld_cnt hg hr hv) ?_
    refine wv_of bs_signed ?_
    exact hQ _ s1.ch
  rw [if_neg h] at hQ
  rw [vbin_eql, wv_some, brB_dec]
  refine ⟨fun h => ?_, fun h => ?_⟩
  · rw [if_pos h] at hQ
    refine wv_of (Rc.ld_index hg hr hv) ?_
    refine wv_of (Rc.ld_upds hg hr hv) ?_
    refine wv_of (Rc.ld_sig hg hr hv) ?_
    refine wv_of (bs_came hv hr.sig) ?_
    exact hQ _ s1.ch
  rw [if_neg h] at hQ
  rw [vbin_eql, wv_some, brB_dec]
  refine ⟨fun h => ?_, fun h => ?_⟩
  · rw [if_pos h] at hQ
    refine wv_of (Rc.ld_index hg hr hv) ?_
    refine wv_of (Rc.ld_secret hg hr hv) ?_
    refine wv_of (Rc.ld_point hg hr hv) ?_
    refine wv_of (bs_revoked hr.secret hr.point) ?_
    exact hQ _ s1.ch
  rw [if_neg h] at hQ
  rw [vbin_eql, wv_some, brB_dec]
  refine ⟨fun h => ?_, fun h => ?_⟩
  · rw [if_pos h] at hQ
    refine wv_of (Rc.ld_code hg hr hv) ?_
    refine wv_of (v := .agg [.int .i64 r.code]) rfl ?_
    exact hQ _ s1.ch
  rw [if_neg h] at hQ
  rw [vbin_eql, wv_some, brB_dec]
  refine ⟨fun h => ?_, fun h => ?_⟩
  · rw [if_pos h] at hQ
    refine wv_of (Rc.ld_index hg hr hv) ?_
    refine wv_of (v := .agg [.int .i64 r.index]) rfl ?_
    exact hQ _ s1.ch
  rw [if_neg h] at hQ
  exact hQ _ s1.ch

theorem slices_EqualU.use {v w : AVal} {a b : List UpdM} (ha : IsSl 36 G v (a.map UpdM.av)) (hb : IsSl 36 G w (b.map UpdM.av)) (oa : ∀ m ∈ a, m.ok) (ob : ∀ m ∈ b, m.ok) (la : a.length ≤ 140737488351232) (lb : b.length ≤ 140737488351232)
    (hQ : Q (.bool (decide (a = b))) G) : ACalls P slices_Equal_escrow_api_Update_escrow_api_Update.n [v, w] G Q := by
  refine slices_Equal_escrow_api_Update_escrow_api_Update.sound ?_
  unfold slices_Equal_escrow_api_Update_escrow_api_Update.S
  refine wv_of (upd_len ha) ?_
  refine wv_of (upd_len hb) ?_
  rw [vbin_neq, wv_some, brB_ndec]
  refine ⟨fun h1 => ?_, fun h1 => ?_⟩
  · rw [decide_eq_false (fun h => h1 (by rw [h]))] at hQ
    exact hQ
  have hlen : a.length = b.length := by omega
  refine wv_of (upd_len ha) ?_
  intro R hR
  have loop : ∀ (n j : Nat), a.length - j = n → j ≤ a.length → a.take j = b.take j → R [v, w, .int .i64 (a.length : Nat), .int .i64 (j : Int)] G := by
    intro n
    induction n with
    | zero =>
      intro j hn hj he
      refine hR _ _ _ _ _ ?_
      rw [vbin_lss, wv_some, brB_dec]
      refine ⟨fun h => absurd h (by omega), fun _ => ?_⟩
      have hjl : j = a.length := by omega
      rw [hjl, List.take_length, hlen, List.take_length] at he
      rw [decide_eq_true he] at hQ
      exact hQ
    | succ n ih =>
      intro j hn hj he
      obtain ⟨x, hx⟩ : ∃ x, a[j]? = some x := ⟨_, List.getElem?_eq_getElem (by omega)⟩
      obtain ⟨y, hy⟩ : ∃ y, b[j]? = some y := ⟨_, List.getElem?_eq_getElem (by omega)⟩
      refine hR _ _ _ _ _ ?_
      rw [vbin_lss, wv_some, brB_dec]
      refine ⟨fun _ => ?_, fun h => absurd (by omega) h⟩
      obtain ⟨p, p1, p2⟩ := upd_at ha hx
      obtain ⟨q, q1, q2⟩ := upd_at hb hy
      refine wv_of p1 ?_
      refine wv_of p2 ?_
      refine wv_of q1 ?_
      refine wv_of q2 ?_
      rw [vbin_uneq (oa x (List.mem_of_getElem? hx)) (ob y (List.mem_of_getElem? hy)), wv_some, brB_ndec]
      refine ⟨fun h2 => ?_, fun h2 => ?_⟩
      · rw [decide_eq_false (fun h => h2 (by rw [h, hy] at hx; exact (Option.some.inj hx).symm))] at hQ
        exact hQ
      · rw [vbin_add, i64_in (by omega) (by omega), wv_some]
        refine ih (j + 1) (by omega) (by omega) ?_
        rw [List.take_add_one, List.take_add_one, he, hx, hy, h2]
  exact loop a.length 0 rfl (by omega) rfl

set_option maxHeartbeats 1000000 in
theorem record_same.use {r r' : RcM} {v v' : AVal} {l l' : List UpdM} (hr : r.ok) (hr' : r'.ok) (hl : IsSl 36 G v (l.map UpdM.av)) (hl' : IsSl 36 G v' (l'.map UpdM.av)) (lv : Leaf v) (lv' : Leaf v') (ok : ∀ u ∈ l, u.ok) (ok' : ∀ u ∈ l', u.ok) (len : l.length ≤ 140737488351232) (len' : l'.length ≤ 140737488351232)
    (hQ : ∀ G', Ch [] G [] G' → Q (.bool (decide (r = r' ∧ l = l'))) G') : ACalls P record_same.n [r.av v, r'.av v'] G Q := by
  refine record_same.sound ?_
  unfold record_same.S
  intro i1 f1
  have s1 := (Sp.nil G).row f1 (r.av v)
  intro i3 f3
  have s3 := s1.row f3 (r'.av v')
  revert s3
  generalize Heap.upd _ i3 _ = G4
  intro s3
  have hg := RowL.own (i := 1) s3 rfl
  have hk := RowL.own (i := 0) s3 rfl
  have no : ¬ (r = r' ∧ l = l') → Q (.bool false) G4 := fun h => by
    have := hQ _ s3.ch
    rwa [decide_eq_false h] at this
  refine wv_of (Rc.ld_kind hg hr lv) ?_
  refine wv_of (Rc.ld_kind hk hr' lv') ?_
  rw [vbin_eql, wv_some, brB_dec]
  refine ⟨fun e1 => ?_, fun e => no (by rintro ⟨rfl, _⟩; exact e rfl)⟩
  refine wv_of (Rc.ld_upd hg hr lv) ?_
  refine wv_of (Rc.ld_upd hk hr' lv') ?_
  rw [vbin_ueql hr.upd hr'.upd, wv_some, brB_dec]
  refine ⟨fun e2 => ?_, fun e => no (by rintro ⟨rfl, _⟩; exact e rfl)⟩
  refine wv_of (Rc.ld_upds hg hr lv) ?_
  refine wv_of (Rc.ld_upds hk hr' lv') ?_
  refine slices_EqualU.use (hl.ch' s3.ch) (hl'.ch' s3.ch) ok ok' len len' ?_
  rw [brB_dec]
  refine ⟨fun e3 => ?_, fun e => no (by rintro ⟨_, h⟩; exact e h)⟩
  refine wv_of (Rc.ld_index hg hr lv) ?_
  refine wv_of (Rc.ld_index hk hr' lv') ?_
  rw [vbin_eql, wv_some, brB_dec]
  refine ⟨fun e4 => ?_, fun e => no (by rintro ⟨rfl, _⟩; exact e rfl)⟩
  refine wv_of (Rc.ld_cnt hg hr lv) ?_
  refine wv_of (Rc.ld_cnt hk hr' lv') ?_
  rw [pair_eq (t := t_api_Counts), wv_some, brB_dec]
  refine ⟨fun e5 => ?_, fun e => no (by rintro ⟨rfl, _⟩; exact e ⟨rfl, rfl⟩)⟩
  refine wv_of (Rc.ld_sig hg hr lv) ?_
  refine wv_of (Rc.ld_sig hk hr' lv') ?_
  rw [hash_eql2 hr.sig hr'.sig, wv_some, brB_dec]
  refine ⟨fun e6 => ?_, fun e => no (by rintro ⟨rfl, _⟩; exact e rfl)⟩
  refine wv_of (Rc.ld_secret hg hr lv) ?_
  refine wv_of (Rc.ld_secret hk hr' lv') ?_
  rw [hash_eql2 hr.secret hr'.secret, wv_some, brB_dec]
  refine ⟨fun e7 => ?_, fun e => no (by rintro ⟨rfl, _⟩; exact e rfl)⟩
  refine wv_of (Rc.ld_point hg hr lv) ?_
  refine wv_of (Rc.ld_point hk hr' lv') ?_
  rw [hash_eql2 hr.point hr'.point, wv_some, brB_dec]
  refine ⟨fun e8 => ?_, fun e => no (by rintro ⟨rfl, _⟩; exact e rfl)⟩
  refine wv_of (Rc.ld_code hg hr lv) ?_
  refine wv_of (Rc.ld_code hk hr' lv') ?_
  rw [vbin_eql, wv_some]
  by_cases e9 : r.code = r'.code
  · have : r = r' := by
      cases r; cases r'
      simp only at e1 e2 e4 e5 e6 e7 e8 e9
      simp [e1, e2, e4, e5, e6, e7, e8, e9]
    have h := hQ _ s3.ch
    rw [decide_eq_true ⟨this, e3⟩] at h
    rw [decide_eq_true e9]
    exact h
  · rw [decide_eq_false e9]
    exact no (by rintro ⟨rfl, _⟩; exact e9 rfl)

end
end Go.Esc.M

/- Own work. Chapter 17: methods of changes; changed; Write. -/
set_option linter.unusedSimpArgs false
set_option linter.unusedVariables false
set_option maxRecDepth 20000
namespace Go.Esc.M
open Go Go.Esc

def bytesL (l : List UpdM) : List UInt8 := (l.map bytesU).flatten
def bytesK (r : RcM) (l : List UpdM) : List UInt8 :=
  if r.kind = 1 then bytesU r.upd else if r.kind = 2 then be 8 (bits64 r.index) ++ (be 2 r.cntA.toNat ++ be 2 r.cntB.toNat)
  else if r.kind = 3 then be 8 (bits64 r.index) ++ (be 2 l.length ++ (bytesL l ++ r.sig)) else if r.kind = 4 then be 8 (bits64 r.index) ++ (r.secret ++ r.point)
  else if r.kind = 5 then be 2 r.code.toNat else be 8 (bits64 r.index)
def bytesR (r : RcM) (l : List UpdM) : List UInt8 := be 1 r.kind.toNat ++ bytesK r l
theorem bytesU_len {u : UpdM} (h : validU u = true) (hu : u.ok) : (bytesU u).length ≤ 100 := by
  obtain ⟨h0, h1, h2⟩ := valid_spec h
  have hh := hu.hash
  unfold bytesU tailU
  rcases h2 with ⟨hk, _⟩ | ⟨hk, _⟩ | ⟨hk, _, _, hn⟩
  · simp [hk, length_be, hh]
  · simp [hk, length_be, hh]
  · simp [hk, length_be]; omega
theorem bytesL_len {l : List UpdM} (h : ∀ u ∈ l, validU u = true) (ho : ∀ u ∈ l, u.ok) : (bytesL l).length ≤ 100 * l.length := by
  induction l with
  | nil => simp [bytesL]
  | cons u l ih =>
    have h1 := bytesU_len (h u (by simp)) (ho u (by simp))
    have h2 := ih (fun u hu => h u (by simp [hu])) (fun u hu => ho u (by simp [hu]))
    unfold bytesL at h2 ⊢
    simp only [List.map_cons, List.flatten_cons, List.length_append, List.length_cons]
    omega

section
variable {F0 : List AId} {G0 G : Heap} {ps : List LP} {Q : AVal → Heap → Prop}

theorem sg_ld {i : AId} {a b c : Int} (hg : G i = some (.own (.agg [.int .i64 a, pairW b c]))) : vload T G t_int64 (.ptr i [0] 0) = some (.int .i64 a) ∧ vload T G t_api_Counts (.ptr i [1] 1) = some (pairW b c) ∧ vload T G t_int (.ptr i [1, 0] 1) = some (.int .i64 b) ∧ vload T G t_int (.ptr i [1, 1] 2) = some (.int .i64 c) :=
  ⟨ld1 hg (ss := [1, 2]) rfl rfl rfl T_int64 rfl, ld1 hg (ss := [1, 2]) rfl rfl rfl T_api_Counts rfl, ld2 hg (ss := [1, 2]) rfl rfl rfl (ss2 := [1, 1]) rfl rfl rfl rfl T_int rfl, ld2 hg (ss := [1, 2]) rfl rfl rfl (ss2 := [1, 1]) rfl rfl rfl rfl T_int rfl⟩
theorem cm_ld {i : AId} {a : Int} {v : AVal} {s : List UInt8} (hv : Leaf v) (hs : s.length = 32) (hg : G i = some (.own (.agg [.int .i64 a, v, .agg (s.map u8v)]))) : vload T G t_int64 (.ptr i [0] 0) = some (.int .i64 a) ∧ vload T G t_sl_api_Update (.ptr i [1] 1) = some v ∧ vload T G t_api_Hash (.ptr i [2] 2) = some (.agg (s.map u8v)) := by
  have e : [AVal.int .i64 a, v, .agg (s.map u8v)].map Esc.sz = [1, 1, 32] := by simp [Esc.sz, hv.1, szh hs]
  exact ⟨ld1 hg e rfl rfl T_int64 rfl, ld1 hg e rfl rfl T_sl_api_Update (fits_leaf hv rfl), ld1 hg e rfl rfl T_api_Hash (fits_hash hs)⟩
theorem rv_ld {i : AId} {a : Int} {s t : List UInt8} (hs : s.length = 32) (ht : t.length = 32) (hg : G i = some (.own (.agg [.int .i64 a, .agg (s.map u8v), .agg (t.map u8v)]))) : vload T G t_int64 (.ptr i [0] 0) = some (.int .i64 a) ∧ vload T G t_api_Hash (.ptr i [1] 1) = some (.agg (s.map u8v)) ∧ vload T G t_api_Hash (.ptr i [2] 33) = some (.agg (t.map u8v)) := by
  have e : [AVal.int .i64 a, .agg (s.map u8v), .agg (t.map u8v)].map Esc.sz = [1, 32, 32] := by simp [Esc.sz, szh hs, szh ht]
  exact ⟨ld1 hg e rfl rfl T_int64 rfl, ld1 hg e rfl rfl T_api_Hash (fits_hash hs), ld1 hg e rfl rfl T_api_Hash (fits_hash ht)⟩
theorem ow_ld {i : AId} {u : UpdM} (hu : u.ok) (hg : G i = some (.own (.agg [u.av]))) : vload T G t_api_Update (.ptr i [0] 0) = some u.av :=
  ld1 hg (ss := [36]) (by simp [UpdM.sz hu]) rfl rfl T_api_Update (UpdM.fits hu)
theorem fl_ld {i : AId} {a : Int} (hg : G i = some (.own (.agg [.int .i64 a]))) : vload T G t_int (.ptr i [0] 0) = some (.int .i64 a) := ld1 hg (ss := [1]) rfl rfl rfl T_int rfl
theorem cl_ld {i : AId} {a : Int} (hg : G i = some (.own (.agg [.int .i64 a]))) : vload T G t_int64 (.ptr i [0] 0) = some (.int .i64 a) := ld1 hg (ss := [1]) rfl rfl rfl T_int64 rfl

theorem record_came_valid_1.use {u : UpdM} (h : u.ok) (hQ : ∀ G', Ch [] G [] G' → Q (.bool (!validU u)) G') : ACalls P record_came_valid_1.n [u.av] G Q := by
  refine record_came_valid_1.sound ?_
  unfold record_came_valid_1.S
  intro i1 f1
  have s1 := (Sp.nil G).row f1 u.av
  refine wv_of (upd_load (i := 0) s1 rfl h).2.2.2.2.2 ?_
  refine update_Valid.use h fun G5 c5 => ?_
  rw [vun_not, wv_some]
  exact hQ _ (s1.tmp c5).ch

theorem slices_IndexFuncU.use {v : AVal} {l : List UpdM} (hl : IsSl 36 G v (l.map UpdM.av)) (hok : ∀ u ∈ l, u.ok) (hlen : l.length ≤ 140737488351232) (hQ : ∀ n G', Ch [] G [] G' → (decide (n ≥ 0) = !l.all validU) → Q (.int .i64 n) G') :
    ACalls P slices_IndexFunc_escrow_api_Update_escrow_api_Update.n [v, .func (.func record_came_valid_1.n) [] []] G Q := by
  refine slices_IndexFunc_escrow_api_Update_escrow_api_Update.sound ?_
  unfold slices_IndexFunc_escrow_api_Update_escrow_api_Update.S
  refine wv_of (upd_len hl) ?_
  intro R hR
  have loop : ∀ (n j : Nat) (G' : Heap), l.length - j = n → j ≤ l.length → l.all validU = (l.drop j).all validU → Ch [] G [] G' → R [v, .func (.func record_came_valid_1.n) [] [], .int .i64 (l.length : Nat), .int .i64 (j : Int)] G' := by
    intro n
    induction n with
    | zero =>
      intro j G' hn hj he hc
      refine hR _ _ _ _ _ ?_
      rw [vbin_lss, wv_some, brB_dec]
      refine ⟨fun h => absurd h (by omega), fun _ => ?_⟩
      refine hQ _ _ hc ?_
      rw [he, List.drop_eq_nil_of_le (by omega)]
      rfl
    | succ n ih =>
      intro j G' hn hj he hc
      obtain ⟨u, hu⟩ : ∃ u, l[j]? = some u := ⟨_, List.getElem?_eq_getElem (by omega)⟩
      have huo := hok u (List.mem_of_getElem? hu)
      have hdr : l.drop j = u :: l.drop (j + 1) := by
        obtain ⟨hx, rfl⟩ := List.getElem?_eq_some_iff.1 hu
        exact List.drop_eq_getElem_cons hx
      rw [hdr, List.all_cons] at he
      refine hR _ _ _ _ _ ?_
      rw [vbin_lss, wv_some, brB_dec]
      refine ⟨fun _ => ?_, fun h => absurd (by omega) h⟩
      obtain ⟨p, p1, p2⟩ := upd_at (hl.ch' hc) hu
      refine wv_of p1 ?_
      refine wv_of p2 ?_
      show ACalls P record_came_valid_1.n [u.av] G' _
      refine record_came_valid_1.use huo fun G12 c12 => ?_
      have hc2 := hc.trans c12
      cases hv : validU u with
      | false =>
        rw [Bool.not_false, brB_true]
        refine hQ _ _ hc2 ?_
        rw [he, hv, decide_eq_true (by omega)]
        rfl
      | true =>
        rw [Bool.not_true, brB_false, vbin_add, i64_in (by omega) (by omega), wv_some]
        rw [hv, Bool.true_and] at he
        exact ih (j + 1) G12 (by omega) (by omega) he hc2
  exact loop l.length 0 G rfl (by omega) rfl (Ch.refl _ _)

theorem slices_ContainsFuncU.use {v : AVal} {l : List UpdM} (hl : IsSl 36 G v (l.map UpdM.av)) (hok : ∀ u ∈ l, u.ok) (hlen : l.length ≤ 140737488351232) (hQ : ∀ G', Ch [] G [] G' → Q (.bool (!l.all validU)) G') :
    ACalls P slices_ContainsFunc_escrow_api_Update_escrow_api_Update.n [v, .func (.func record_came_valid_1.n) [] []] G Q := by
  refine slices_ContainsFunc_escrow_api_Update_escrow_api_Update.sound ?_
  unfold slices_ContainsFunc_escrow_api_Update_escrow_api_Update.S
  refine slices_IndexFuncU.use hl hok hlen fun n G2 c2 hn => ?_
  rw [vbin_geq, wv_some, hn]
  exact hQ _ c2

set_option maxHeartbeats 2000000 in
/-- Is it valid? -/
theorem chg_valid {r : RcM} {l : List UpdM} {v : AVal} (hr : r.ok) (hv : Leaf v) (hl : IsSl 36 G v (l.map UpdM.av)) (hok : ∀ u ∈ l, u.ok) (hlen : l.length ≤ 140737488351232) (hk : kindK r)
    (hQ : ∀ G', Ch [] G [] G' → Q (.bool (validK r l)) G') : aInvoke cx (chgV r v) "escrow/record.valid" [] G Q := by
  unfold validK at hQ
  unfold chgV
  rcases hk with h | h | h | h | h | h
  · rw [if_pos h] at hQ ⊢
    refine inv_record_ours_valid ?_
    refine record_ours_valid.sound ?_
    unfold record_ours_valid.S
    intro i1 f1
    have s1 := (Sp.nil G).row f1 (.agg [r.upd.av])
    refine wv_of (ow_ld hr.upd (RowL.own (i := 0) s1 rfl)) ?_
    exact update_Valid.use hr.upd fun G5 c5 => hQ _ (s1.tmp c5).ch
  · rw [if_neg (by omega), if_pos h] at hQ ⊢
    refine inv_record_signed_valid ?_
    refine record_signed_valid.sound ?_
    unfold record_signed_valid.S
    intro i1 f1
    have s1 := (Sp.nil G).row f1 (.agg [.int .i64 r.index, pairW r.cntA r.cntB])
    obtain ⟨l0, _, l1, l2⟩ := sg_ld (RowL.own (i := 0) s1 rfl)
    refine wv_of l0 ?_
    refine record_isIndex.use ?_
    cases h1 : isIdx r.index with
    | false => rw [h1, Bool.false_and] at hQ; exact hQ _ s1.ch
    | true =>
      rw [h1, Bool.true_and] at hQ
      rw [brB_true]
      refine wv_of l1 ?_
      refine record_isCount.use ?_
      cases h2 : isCnt r.cntA with
      | false => rw [h2, Bool.false_and] at hQ; exact hQ _ s1.ch
      | true =>
        rw [h2, Bool.true_and] at hQ
        rw [brB_true]
        refine wv_of l2 ?_
        exact record_isCount.use (hQ _ s1.ch)
  · rw [if_neg (by omega), if_neg (by omega), if_pos h] at hQ ⊢
    refine inv_record_came_valid ?_
    refine record_came_valid.sound ?_
    unfold record_came_valid.S
    intro i1 f1
    have s1 := (Sp.nil G).row f1 (.agg [.int .i64 r.index, v, .agg (r.sig.map u8v)])
    obtain ⟨l0, l1, _⟩ := cm_ld hv hr.sig (RowL.own (i := 0) s1 rfl)
    refine wv_of l0 ?_
    refine record_isIndex.use ?_
    cases h1 : isIdx r.index with
    | false => rw [h1, Bool.false_and] at hQ; exact hQ _ s1.ch
    | true =>
      rw [h1, Bool.true_and] at hQ
      rw [brB_true]
      refine wv_of l1 ?_
      refine wv_of (upd_len (hl.ch' s1.ch)) ?_
      rw [vbin_leq, wv_some, brB_dec]
      refine ⟨fun h2 => ?_, fun h2 => ?_⟩
      · rw [decide_eq_true (show l.length ≤ 512 by omega), Bool.true_and] at hQ
        refine wv_of l1 ?_
        refine slices_ContainsFuncU.use (hl.ch' s1.ch) hok hlen fun G11 c11 => ?_
        rw [vun_not, wv_some, Bool.not_not]
        exact hQ _ (s1.tmp c11).ch
      · rw [decide_eq_false (show ¬ l.length ≤ 512 by omega), Bool.false_and] at hQ
        exact hQ _ s1.ch
  · rw [if_neg (by omega), if_neg (by omega), if_neg (by omega), if_neg (by omega)] at hQ
    rw [if_neg (by omega), if_neg (by omega), if_neg (by omega), if_pos h]
    refine inv_record_revoked_valid ?_
    refine record_revoked_valid.sound ?_
    unfold record_revoked_valid.S
    intro i1 f1
    have s1 := (Sp.nil G).row f1 (.agg [.int .i64 r.index, .agg (r.secret.map u8v), .agg (r.point.map u8v)])
    refine wv_of (rv_ld hr.secret hr.point (RowL.own (i := 0) s1 rfl)).1 ?_
    exact record_isIndex.use (hQ _ s1.ch)
  · rw [if_neg (by omega), if_neg (by omega), if_neg (by omega), if_pos h] at hQ
    rw [if_neg (by omega), if_neg (by omega), if_neg (by omega), if_neg (by omega), if_pos h]
    refine inv_record_failed_valid ?_
    refine record_failed_valid.sound ?_
    unfold record_failed_valid.S
    intro i1 f1
    have s1 := (Sp.nil G).row f1 (.agg [.int .i64 r.code])
    have l0 := fl_ld (RowL.own (i := 0) s1 rfl)
    refine wv_of l0 ?_
    rw [vbin_geq, wv_some, brB_dec]
    refine ⟨fun h2 => ?_, fun h2 => ?_⟩
    · rw [decide_eq_true (show 1 ≤ r.code by omega), Bool.true_and] at hQ
      refine wv_of l0 ?_
      rw [vbin_leq, wv_some]
      exact hQ _ s1.ch
    · rw [decide_eq_false (show ¬ 1 ≤ r.code by omega), Bool.false_and] at hQ
      exact hQ _ s1.ch
  · rw [if_neg (by omega), if_neg (by omega), if_neg (by omega), if_neg (by omega)] at hQ
    rw [if_neg (by omega), if_neg (by omega), if_neg (by omega), if_neg (by omega), if_neg (by omega), if_pos h]
    refine inv_record_closed_valid ?_
    refine record_closed_valid.sound ?_
    unfold record_closed_valid.S
    intro i1 f1
    have s1 := (Sp.nil G).row f1 (.agg [.int .i64 r.index])
    refine wv_of (cl_ld (RowL.own (i := 0) s1 rfl)) ?_
    exact record_isIndex.use (hQ _ s1.ch)

end
end Go.Esc.M

/- Own work. Chapter 17: a change as a record; changed. -/
set_option linter.unusedSimpArgs false
set_option linter.unusedVariables false
set_option maxRecDepth 20000
namespace Go.Esc.M
open Go Go.Esc

def mrk (b : Bool) (r : RcM) (v : AVal) : AVal := bif b then chgV r v else .nilIface
theorem nil_chg {r : RcM} {v : AVal} (h : kindK r) : vbin T .eql t_record_change (chgV r v) .nilIface = some (.bool false) := by
  unfold chgV
  rcases h with h | h | h | h | h | h <;> simp [h, vbin, veqD, show T t_record_change = some ti_record_change from T_record_change, ti_record_change]
theorem nil_nil : vbin T .eql t_record_change .nilIface .nilIface = some (.bool true) := rfl
theorem not_kind {r : RcM} {v : AVal} (h : ¬ kindK r) : chgV r v = .nilIface := by
  unfold kindK at h
  unfold chgV
  rw [if_neg (by omega), if_neg (by omega), if_neg (by omega), if_neg (by omega), if_neg (by omega), if_neg (by omega)]

section
variable {F0 : List AId} {G0 G : Heap} {ps : List LP} {Q : AVal → Heap → Prop}

theorem bR1 {u : UpdM} (h : u.ok) : vbuild T t_api_Record [(0, .int .i64 1), (1, u.av)] = some (({ RcM.zero with kind := 1, upd := u } : RcM).av .nilSlice) := build_ours h
theorem bR2 {i a b : Int} : vbuild T t_api_Record [(0, .int .i64 2), (3, .int .i64 i), (4, pairW a b)] = some (({ RcM.zero with kind := 2, index := i, cntA := a, cntB := b } : RcM).av .nilSlice) :=
  build_rc (fun p hp => by
    simp only [List.mem_cons, List.not_mem_nil, or_false] at hp
    rcases hp with rfl | rfl | rfl <;> rfl) rfl
theorem bR3 {i : Int} {v : AVal} {s : List UInt8} (hv : Leaf v) (hs : s.length = 32) : vbuild T t_api_Record [(0, .int .i64 3), (3, .int .i64 i), (2, v), (5, .agg (s.map u8v))] = some (({ RcM.zero with kind := 3, index := i, sig := s } : RcM).av v) :=
  build_rc (fun p hp => by
    simp only [List.mem_cons, List.not_mem_nil, or_false] at hp
    rcases hp with rfl | rfl | rfl | rfl
    · rfl
    · rfl
    · show some 1 = some (Esc.sz v)
      rw [hv.1]
    · exact szHash0 hs) rfl
theorem bR4 {i : Int} {s t : List UInt8} (hs : s.length = 32) (ht : t.length = 32) : vbuild T t_api_Record [(0, .int .i64 4), (3, .int .i64 i), (6, .agg (s.map u8v)), (7, .agg (t.map u8v))] = some (({ RcM.zero with kind := 4, index := i, secret := s, point := t } : RcM).av .nilSlice) :=
  build_rc (fun p hp => by
    simp only [List.mem_cons, List.not_mem_nil, or_false] at hp
    rcases hp with rfl | rfl | rfl | rfl
    · rfl
    · rfl
    · exact szHash0 hs
    · exact szHash0 ht) rfl
theorem bR5 {i : Int} : vbuild T t_api_Record [(0, .int .i64 5), (8, .int .i64 i)] = some (({ RcM.zero with kind := 5, code := i } : RcM).av .nilSlice) := rfl
theorem bR6 {i : Int} : vbuild T t_api_Record [(0, .int .i64 6), (3, .int .i64 i)] = some (({ RcM.zero with kind := 6, index := i } : RcM).av .nilSlice) := rfl

theorem rec_out {i : AId} {r : RcM} {v : AVal} (s : Sp F0 G0 ps G) {j : Nat} (hj : ps[j]? = some (RowL i (RcM.zero.av .nilSlice))) (hr : r.ok) (hv : Leaf v) (hQ : ∀ G', Sp F0 G0 (ps.set j (RowL i (r.av v))) G' → Q (r.av v) G') :
    wg (vstore T G t_api_Record (.ptr i [] 0) (r.av v)) fun G7 => wv (vload T G7 t_api_Record (.ptr i [] 0)) fun v8 => Q v8 G7 := by
  refine Rc.st (i := j) s hj RcM.zero_ok Leaf.nil hr hv fun G7 s7 => ?_
  refine wv_of (Rc.ld (RowL.own (i := j) s7 (by rw [List.getElem?_set_self (List.getElem?_eq_some_iff.1 hj).1])) hr hv) ?_
  exact hQ _ s7

set_option maxHeartbeats 2000000 in
/-- A change as a record. -/
theorem chg_record {r : RcM} {v : AVal} (hr : r.ok) (hv : Leaf v) (hk : kindK r)
    (hQ : ∀ G', Ch [] G [] G' → Q ((namedK r).av (if r.kind = 3 then v else .nilSlice)) G') : aInvoke cx (chgV r v) "escrow/record.record" [] G Q := by
  have hn := namedK_ok hr
  unfold namedK at hn hQ
  unfold chgV
  rcases hk with h | h | h | h | h | h
  · rw [if_pos h] at hn ⊢
    rw [if_pos h, if_neg (by omega)] at hQ
    refine inv_record_ours_record ?_
    refine record_ours_record.sound ?_
    unfold record_ours_record.S
    rw [zRec]
    intro i1 f1
    have s1 := (Sp.nil G).row f1 (.agg [r.upd.av])
    intro i3 f3
    have s3 := s1.row f3 (RcM.zero.av .nilSlice)
    refine wv_of (ow_ld hr.upd (RowL.own (i := 1) s3 rfl)) ?_
    refine wv_of (bR1 hr.upd) ?_
    exact rec_out (j := 0) s3 rfl hn Leaf.nil fun G' s' => hQ _ s'.ch
  · rw [if_neg (by omega), if_pos h] at hn ⊢
    rw [if_neg (by omega), if_pos h, if_neg (by omega)] at hQ
    refine inv_record_signed_record ?_
    refine record_signed_record.sound ?_
    unfold record_signed_record.S
    rw [zRec]
    intro i1 f1
    have s1 := (Sp.nil G).row f1 (.agg [.int .i64 r.index, pairW r.cntA r.cntB])
    intro i3 f3
    have s3 := s1.row f3 (RcM.zero.av .nilSlice)
    obtain ⟨l0, l1, _⟩ := sg_ld (RowL.own (i := 1) s3 rfl)
    refine wv_of l0 ?_
    refine wv_of l1 ?_
    refine wv_of bR2 ?_
    exact rec_out (j := 0) s3 rfl hn Leaf.nil fun G' s' => hQ _ s'.ch
  · rw [if_neg (by omega), if_neg (by omega), if_pos h] at hn ⊢
    rw [if_neg (by omega), if_neg (by omega), if_pos h, if_pos h] at hQ
    refine inv_record_came_record ?_
    refine record_came_record.sound ?_
    unfold record_came_record.S
    rw [zRec]
    intro i1 f1
    have s1 := (Sp.nil G).row f1 (.agg [.int .i64 r.index, v, .agg (r.sig.map u8v)])
    intro i3 f3
    have s3 := s1.row f3 (RcM.zero.av .nilSlice)
    obtain ⟨l0, l1, l2⟩ := cm_ld hv hr.sig (RowL.own (i := 1) s3 rfl)
    refine wv_of l0 ?_
    refine wv_of l1 ?_
    refine wv_of l2 ?_
    refine wv_of (bR3 hv hr.sig) ?_
    exact rec_out (j := 0) s3 rfl hn hv fun G' s' => hQ _ s'.ch
  · rw [if_neg (by omega), if_neg (by omega), if_neg (by omega), if_pos h] at hn ⊢
    rw [if_neg (by omega), if_neg (by omega), if_neg (by omega), if_pos h, if_neg (by omega)] at hQ
    refine inv_record_revoked_record ?_
    refine record_revoked_record.sound ?_
    unfold record_revoked_record.S
    rw [zRec]
    intro i1 f1
    have s1 := (Sp.nil G).row f1 (.agg [.int .i64 r.index, .agg (r.secret.map u8v), .agg (r.point.map u8v)])
    intro i3 f3
    have s3 := s1.row f3 (RcM.zero.av .nilSlice)
    obtain ⟨l0, l1, l2⟩ := rv_ld hr.secret hr.point (RowL.own (i := 1) s3 rfl)
    refine wv_of l0 ?_
    refine wv_of l1 ?_
    refine wv_of l2 ?_
    refine wv_of (bR4 hr.secret hr.point) ?_
    exact rec_out (j := 0) s3 rfl hn Leaf.nil fun G' s' => hQ _ s'.ch
  · rw [if_neg (by omega), if_neg (by omega), if_neg (by omega), if_neg (by omega), if_pos h] at hn ⊢
    rw [if_neg (by omega), if_neg (by omega), if_neg (by omega), if_neg (by omega), if_pos h, if_neg (by omega)] at hQ
    refine inv_record_failed_record ?_
    refine record_failed_record.sound ?_
    unfold record_failed_record.S
    rw [zRec]
    intro i1 f1
    have s1 := (Sp.nil G).row f1 (.agg [.int .i64 r.code])
    intro i3 f3
    have s3 := s1.row f3 (RcM.zero.av .nilSlice)
    refine wv_of (fl_ld (RowL.own (i := 1) s3 rfl)) ?_
    refine wv_of bR5 ?_
    exact rec_out (j := 0) s3 rfl hn Leaf.nil fun G' s' => hQ _ s'.ch
  · rw [if_neg (by omega), if_neg (by omega), if_neg (by omega), if_neg (by omega), if_neg (by omega)] at hn
    rw [if_neg (by omega), if_neg (by omega), if_neg (by omega), if_neg (by omega), if_neg (by omega), if_pos h]
    rw [if_neg (by omega), if_neg (by omega), if_neg (by omega), if_neg (by omega), if_neg (by omega), if_neg (by omega)] at hQ
    refine inv_record_closed_record ?_
    refine record_closed_record.sound ?_
    unfold record_closed_record.S
    rw [zRec]
    intro i1 f1
    have s1 := (Sp.nil G).row f1 (.agg [.int .i64 r.index])
    intro i3 f3
    have s3 := s1.row f3 (RcM.zero.av .nilSlice)
    refine wv_of (cl_ld (RowL.own (i := 1) s3 rfl)) ?_
    refine wv_of bR6 ?_
    exact rec_out (j := 0) s3 rfl hn Leaf.nil fun G' s' => hQ _ s'.ch

set_option maxHeartbeats 2000000 in
theorem record_changed.use {r : RcM} {l : List UpdM} {v : AVal} (hr : r.ok) (hv : Leaf v) (hl : IsSl 36 G v (l.map UpdM.av)) (hok : ∀ u ∈ l, u.ok) (hlen : l.length ≤ 140737488351232)
    (hQ : ∀ G', Ch [] G [] G' → Q (mrk (validR r l) r v) G') : ACalls P record_changed.n [r.av v] G Q := by
  refine record_changed.sound ?_
  unfold record_changed.S
  unfold validR at hQ
  intro i1 f1
  have s1 := (Sp.nil G).row f1 (r.av v)
  revert s1
  generalize Heap.upd _ i1 _ = G2
  intro s1
  refine wv_of (Rc.ld (RowL.own (i := 0) s1 rfl) hr hv) ?_
  refine record_of.use hr hv fun G5 c5 => ?_
  have s5 := s1.tmp c5
  have s5 : Sp [] G [RowL i1 (r.av v)] G5 := s5
  by_cases hk : kindK r
  · have h16 : 1 ≤ r.kind ∧ r.kind ≤ 6 := by unfold kindK at hk; omega
    rw [decide_eq_true h16, Bool.true_and] at hQ
    refine wv_of (nil_chg hk) ?_
    rw [brB_false]
    refine chg_valid hr hv (hl.ch' s5.ch) hok hlen hk fun G8 c8 => ?_
    have s8 := s5.tmp c8
    rw [vun_not, wv_some]
    cases hval : validK r l with
    | false =>
      rw [hval, Bool.false_and] at hQ
      exact hQ _ s8.ch
    | true =>
      rw [hval, Bool.true_and] at hQ
      rw [Bool.not_true, brB_false]
      refine wv_of (Rc.ld (RowL.own (i := 0) s8 rfl) hr hv) ?_
      refine chg_record hr hv hk fun G12 c12 => ?_
      have s12 := s8.tmp c12
      refine ⟨⟨Rc.ld (RowL.own (i := 0) s12 rfl) hr hv, trivial⟩, ?_⟩
      have hw : Leaf (if r.kind = 3 then v else .nilSlice) := by split; exact hv; exact Leaf.nil
      have hlw : IsSl 36 G12 (if r.kind = 3 then v else .nilSlice) ((listK r l).map UpdM.av) := by
        unfold listK
        split
        · exact hl.ch' s12.ch
        · exact .inr ⟨rfl, rfl⟩
      have hokw : ∀ u ∈ listK r l, u.ok := by
        unfold listK
        split
        · exact hok
        · intro u hu; cases hu
      have hlenw : (listK r l).length ≤ 140737488351232 := by
        unfold listK
        split
        · exact hlen
        · simp
      refine record_same.use (namedK_ok hr) hr hlw (hl.ch' s12.ch) hw hv hokw hok hlenw hlen fun G14 c14 => ?_
      have s14 := s12.tmp c14
      rw [vun_not, wv_some]
      by_cases he : namedK r = r ∧ listK r l = l
      · rw [decide_eq_true he] at hQ ⊢
        rw [Bool.not_true, brB_false]
        exact hQ _ s14.ch
      · rw [decide_eq_false he] at hQ ⊢
        rw [Bool.not_false, brB_true]
        exact hQ _ s14.ch
  · rw [not_kind hk]
    refine wv_of nil_nil ?_
    rw [brB_true]
    rw [decide_eq_false (fun h => hk (kind_of h)), Bool.false_and] at hQ
    exact hQ _ s5.ch

end
end Go.Esc.M

/- Own work. Chapter 17: Write, in the program. -/
set_option linter.unusedSimpArgs false
set_option linter.unusedVariables false
set_option maxRecDepth 20000
namespace Go.Esc.M
open Go Go.Esc

def wrR (r : RcM) (l : List UpdM) : List UInt8 × Int := bif validR r l then (bytesR r l, 0) else ([], 170)
theorem valR_spec {r : RcM} {l : List UpdM} (h : validR r l = true) : (1 ≤ r.kind ∧ r.kind ≤ 6) ∧ validK r l = true ∧ namedK r = r ∧ listK r l = l := by
  unfold validR at h
  simp only [Bool.and_eq_true, decide_eq_true_eq] at h
  exact ⟨h.1, h.2.1, h.2.2⟩

section
variable {F0 : List AId} {G0 G : Heap} {ps : List LP} {Q : AVal → Heap → Prop}

theorem u16_convI (n : Int) (h0 : 0 ≤ n) (h1 : n ≤ 65535) : vconv T G t_int t_uint16 (.int .i64 n) = some (.int .u16 (n.toNat : Nat)) := by
  rw [vconv_int T_int T_uint16 rfl, u16_in h0 h1]
  congr 2
  omega

theorem record_raw.use {u : UpdM} {iw : AId} {bs : List UInt8} {i : Nat} (hu : u.ok) (hv : validU u = true) (hs : Sp [] G0 ps G) (hi : ps[i]? = some (WrL iw bs 0)) (hb : bs.length ≤ 1000000)
    (hQ : ∀ G', Sp [] G0 (ps.set i (WrL iw (bs ++ bytesU u) 0)) G' → Q (.tuple []) G') : ACalls P record_raw.n [.ptr iw [] 0, u.av] G Q := by
  refine record_raw.sound ?_
  unfold record_raw.S
  intro i1 f1
  have s1 := hs.row f1 u.av
  refine wv_of (upd_load (i := 0) s1 rfl hu).2.2.2.2.2 ?_
  refine update_Write.use hu fun G5 c5 => ?_
  have s5 := s1.tmp c5
  have hl := bytesU_len hv hu
  rw [show writeR u = (bytesU u, 0) by unfold writeR; rw [hv]; rfl]
  refine wv_of (tv0 _ _) ?_
  refine wv_of (tv1 _ _) ?_
  refine wr (i := i + 1) (xs := bytesU u) s5 hi (fun h k => cursor_Writer_Raw.use h (by show bs.length + (bytesU u).length ≤ _; omega) k) fun G9 s9 => ?_
  exact hQ _ (s9.erase 0)

set_option maxHeartbeats 4000000 in
/-- A change is written. -/
theorem chg_write {r : RcM} {l : List UpdM} {v : AVal} {iw : AId} {bs : List UInt8} {rest : List LP} (hr : r.ok) (hv : Leaf v) (hl : IsSl 36 G0 v (l.map UpdM.av)) (hok : ∀ u ∈ l, u.ok) (hk : kindK r) (hval : validK r l = true)
    (hs : Sp [] G0 (WrL iw bs 0 :: rest) G) (hb : bs.length ≤ 1000)
    (hQ : ∀ G', Sp [] G0 (WrL iw (bs ++ bytesK r l) 0 :: rest) G' → Q (.tuple []) G') : aInvoke cx (chgV r v) "escrow/record.write" [.ptr iw [] 0] G Q := by
  unfold validK at hval
  unfold bytesK at hQ
  unfold chgV
  rcases hk with h | h | h | h | h | h
  · rw [if_pos h] at hval hQ ⊢
    refine inv_record_ours_write ?_
    refine record_ours_write.sound ?_
    unfold record_ours_write.S
    intro i1 f1
    have s1 := hs.row f1 (.agg [r.upd.av])
    refine wv_of (ow_ld hr.upd (RowL.own (i := 0) s1 rfl)) ?_
    refine record_raw.use (i := 1) hr.upd hval s1 rfl (by omega) fun G5 s5 => ?_
    exact hQ _ (s5.erase 0)
  · rw [if_neg (by omega), if_pos h] at hval hQ ⊢
    simp only [Bool.and_eq_true, isIdx, isCnt, decide_eq_true_eq] at hval
    obtain ⟨⟨_, _⟩, ⟨h1, h2⟩, h3, h4⟩ := hval
    refine inv_record_signed_write ?_
    refine record_signed_write.sound ?_
    unfold record_signed_write.S
    intro i1 f1
    have s1 := hs.row f1 (.agg [.int .i64 r.index, pairW r.cntA r.cntB])
    refine wv_of (sg_ld (RowL.own (i := 0) s1 rfl)).1 ?_
    refine wr (i := 1) s1 rfl (fun h k => cursor_Writer_I64.use h (by show bs.length + _ ≤ _; omega) k) fun G5 s5 => ?_
    refine wv_of (sg_ld (RowL.own (i := 0) s5 rfl)).2.2.1 ?_
    refine wv_of (u16_convI _ h1 (by omega)) ?_
    refine wr (i := 1) s5 rfl (fun h k => cursor_Writer_U16.use (by omega) h (by show (bs ++ _).length + _ ≤ _; rw [List.length_append, length_be]; omega) k) fun G9 s9 => ?_
    refine wv_of (sg_ld (RowL.own (i := 0) s9 rfl)).2.2.2 ?_
    refine wv_of (u16_convI _ h3 (by omega)) ?_
    refine wr (i := 1) s9 rfl (fun h k => cursor_Writer_U16.use (by omega) h (by show ((bs ++ _) ++ _).length + _ ≤ _; rw [List.length_append, List.length_append, length_be, length_be]; omega) k) fun G13 s13 => ?_
    refine hQ _ ?_
    have := s13.erase 0
    simp only [List.append_assoc] at this
    exact this
  · rw [if_neg (by omega), if_neg (by omega), if_pos h] at hval hQ ⊢
    simp only [Bool.and_eq_true, isIdx, decide_eq_true_eq, List.all_eq_true] at hval
    obtain ⟨⟨_, _⟩, h1, h2⟩ := hval
    refine inv_record_came_write ?_
    refine record_came_write.sound ?_
    unfold record_came_write.S
    intro i1 f1
    have s1 := hs.row f1 (.agg [.int .i64 r.index, v, .agg (r.sig.map u8v)])
    refine wv_of (cm_ld hv hr.sig (RowL.own (i := 0) s1 rfl)).1 ?_
    refine wr (i := 1) s1 rfl (fun h k => cursor_Writer_I64.use h (by show bs.length + _ ≤ _; omega) k) fun G5 s5 => ?_
    refine wv_of (cm_ld hv hr.sig (RowL.own (i := 0) s5 rfl)).2.1 ?_
    refine wv_of (upd_len (hl.ch' s5.ch)) ?_
    refine wv_of (u16_convI _ (by omega) (by omega)) ?_
    rw [Int.toNat_natCast]
    refine wr (i := 1) s5 rfl (fun h k => cursor_Writer_U16.use (by omega) h (by show (bs ++ _).length + _ ≤ _; rw [List.length_append, length_be]; omega) k) fun G10 s10 => ?_
    refine wv_of (cm_ld hv hr.sig (RowL.own (i := 0) s10 rfl)).2.1 ?_
    refine wv_of (upd_len (hl.ch' s10.ch)) ?_
    intro R hR
    have s10 : Sp [] G0 (RowL i1 (.agg [.int .i64 r.index, v, .agg (r.sig.map u8v)]) :: WrL iw (bs ++ be 8 (bits64 r.index) ++ be 2 l.length) 0 :: rest) G10 := s10
    obtain ⟨B, hB⟩ : ∃ B, B = bs ++ be 8 (bits64 r.index) ++ be 2 l.length := ⟨_, rfl⟩
    have lB : B.length ≤ 2000 := by rw [hB]; simp only [List.length_append, length_be]; omega
    rw [← hB] at s10
    have loop : ∀ (n j : Nat) (G' : Heap), l.length - j = n → j ≤ l.length → Sp [] G0 (RowL i1 (.agg [.int .i64 r.index, v, .agg (r.sig.map u8v)]) :: WrL iw (B ++ bytesL (l.take j)) 0 :: rest) G' →
        R [.ptr iw [] 0, .ptr i1 [] 0, v, .int .i64 (l.length : Nat), .int .i64 (j : Int)] G' := by
      intro n
      induction n with
      | zero =>
        intro j G' hn hj s
        refine hR _ _ _ _ _ _ ?_
        rw [vbin_lss, wv_some, brB_dec]
        refine ⟨fun h => absurd h (by omega), fun _ => ?_⟩
        have hjl : j = l.length := by omega
        rw [hjl, List.take_length] at s
        have hbl := bytesL_len h2 hok
        refine wv_of (v := .ptr i1 [2] 2) rfl ?_
        refine wv_of (cm_ld hv hr.sig (RowL.own (i := 0) s rfl)).2.2 ?_
        refine wr (i := 1) s rfl (fun h k => cursor_Writer_Hash.use hr.sig h (by show (B ++ _).length + _ ≤ _; rw [List.length_append]; omega) k) fun G33 s33 => ?_
        refine hQ _ ?_
        have := s33.erase 0
        rw [hB] at this
        simp only [List.append_assoc] at this
        exact this
      | succ n ih =>
        intro j G' hn hj s
        obtain ⟨u, hu⟩ : ∃ u, l[j]? = some u := ⟨_, List.getElem?_eq_getElem (by omega)⟩
        have hm := List.mem_of_getElem? hu
        have huo := hok u hm
        have hbl := bytesL_len (l := l.take j) (fun u hu => h2 u (List.mem_of_mem_take hu)) (fun u hu => hok u (List.mem_of_mem_take hu))
        rw [List.length_take] at hbl
        refine hR _ _ _ _ _ _ ?_
        rw [vbin_lss, wv_some, brB_dec]
        refine ⟨fun _ => ?_, fun h => absurd (by omega) h⟩
        obtain ⟨p, p1, p2⟩ := upd_at (hl.ch' s.ch) hu
        refine wv_of p1 ?_
        refine wv_of p2 ?_
        refine newU s huo fun i23 G25 s25 => ?_
        refine wv_of (upd_load (i := 0) s25 rfl huo).2.2.2.2.2 ?_
        refine record_raw.use (i := 2) huo (h2 u hm) s25 rfl (by rw [List.length_append]; omega) fun G28 s28 => ?_
        rw [vbin_add, i64_in (by omega) (by omega), wv_some]
        refine ih (j + 1) G28 (by omega) (by omega) ?_
        have e : bytesL (l.take (j + 1)) = bytesL (l.take j) ++ bytesU u := by
          unfold bytesL
          rw [List.take_add_one, hu]
          simp
        rw [e]
        have := s28.erase 0
        simp only [List.append_assoc] at this
        exact this
    exact loop l.length 0 G10 rfl (by omega) (by rw [List.take_zero]; show Sp [] G0 (_ :: WrL iw (B ++ []) 0 :: rest) G10; rw [List.append_nil]; exact s10)
  · rw [if_neg (by omega), if_neg (by omega), if_neg (by omega), if_pos h] at hQ ⊢
    refine inv_record_revoked_write ?_
    refine record_revoked_write.sound ?_
    unfold record_revoked_write.S
    intro i1 f1
    have s1 := hs.row f1 (.agg [.int .i64 r.index, .agg (r.secret.map u8v), .agg (r.point.map u8v)])
    refine wv_of (rv_ld hr.secret hr.point (RowL.own (i := 0) s1 rfl)).1 ?_
    refine wr (i := 1) s1 rfl (fun h k => cursor_Writer_I64.use h (by show bs.length + _ ≤ _; omega) k) fun G5 s5 => ?_
    refine wv_of (rv_ld hr.secret hr.point (RowL.own (i := 0) s5 rfl)).2.1 ?_
    refine wr (i := 1) s5 rfl (fun h k => cursor_Writer_Hash.use hr.secret h (by show (bs ++ _).length + _ ≤ _; rw [List.length_append, length_be]; omega) k) fun G8 s8 => ?_
    refine wv_of (rv_ld hr.secret hr.point (RowL.own (i := 0) s8 rfl)).2.2 ?_
    refine wr (i := 1) s8 rfl (fun h k => cursor_Writer_Hash.use hr.point h (by show ((bs ++ _) ++ _).length + _ ≤ _; rw [List.length_append, List.length_append, length_be, hr.secret]; omega) k) fun G11 s11 => ?_
    refine hQ _ ?_
    have := s11.erase 0
    simp only [List.append_assoc] at this
    exact this
  · rw [if_neg (by omega), if_neg (by omega), if_neg (by omega), if_pos h] at hval
    rw [if_neg (by omega), if_neg (by omega), if_neg (by omega), if_neg (by omega), if_pos h] at hQ ⊢
    simp only [Bool.and_eq_true, decide_eq_true_eq] at hval
    refine inv_record_failed_write ?_
    refine record_failed_write.sound ?_
    unfold record_failed_write.S
    intro i1 f1
    have s1 := hs.row f1 (.agg [.int .i64 r.code])
    refine wv_of (fl_ld (RowL.own (i := 0) s1 rfl)) ?_
    refine wv_of (u16_convI _ (by omega) (by omega)) ?_
    refine wr (i := 1) s1 rfl (fun h k => cursor_Writer_U16.use (by omega) h (by show bs.length + _ ≤ _; omega) k) fun G5 s5 => ?_
    exact hQ _ (s5.erase 0)
  · rw [if_neg (by omega), if_neg (by omega), if_neg (by omega), if_neg (by omega), if_neg (by omega)] at hQ
    rw [if_neg (by omega), if_neg (by omega), if_neg (by omega), if_neg (by omega), if_neg (by omega), if_pos h]
    refine inv_record_closed_write ?_
    refine record_closed_write.sound ?_
    unfold record_closed_write.S
    intro i1 f1
    have s1 := hs.row f1 (.agg [.int .i64 r.index])
    refine wv_of (cl_ld (RowL.own (i := 0) s1 rfl)) ?_
    refine wr (i := 1) s1 rfl (fun h k => cursor_Writer_I64.use h (by show bs.length + _ ≤ _; omega) k) fun G5 s5 => ?_
    exact hQ _ (s5.erase 0)

set_option maxHeartbeats 1000000 in
theorem record_Write.use {r : RcM} {l : List UpdM} {v : AVal} (hr : r.ok) (hv : Leaf v) (hl : IsSl 36 G v (l.map UpdM.av)) (hok : ∀ u ∈ l, u.ok) (hlen : l.length ≤ 140737488351232)
    (hQ : ∀ G', Ch [] G [] G' → Q (.tuple [.str (wrR r l).1, .int .i64 (wrR r l).2]) G') : ACalls P record_Write.n [r.av v] G Q := by
  refine record_Write.sound ?_
  unfold record_Write.S
  unfold wrR at hQ
  intro i1 f1
  have s1 := (Sp.nil G).row f1 (r.av v)
  revert s1
  generalize Heap.upd _ i1 _ = G2
  intro s1
  refine wv_of (Rc.ld (RowL.own (i := 0) s1 rfl) hr hv) ?_
  refine record_changed.use hr hv (hl.ch' s1.ch) hok hlen fun G5 c5 => ?_
  have s5 := s1.tmp c5
  cases hval : validR r l with
  | false =>
    rw [hval] at hQ
    refine wv_of nil_nil ?_
    rw [brB_true]
    exact hQ _ s5.ch
  | true =>
    rw [hval] at hQ
    obtain ⟨hk16, hvk, _, _⟩ := valR_spec hval
    have hk := kind_of hk16
    refine wv_of (nil_chg hk) ?_
    rw [brB_false]
    refine cursor_New.use fun iw G8 w8 c8 => ?_
    have s8 := s5.new (p := WrL iw [] 0) w8 c8
    refine wv_of (Rc.ld_kind (RowL.own (i := 1) s8 rfl) hr hv) ?_
    refine wv_of (u8_conv _ (by omega) (by omega)) ?_
    refine wr (i := 0) s8 rfl (fun h k => cursor_Writer_U8.use (by omega) h (by simp) k) fun G12 s12 => ?_
    refine chg_write (bs := be 1 r.kind.toNat) (rest := [RowL i1 (r.av v)]) hr hv hl hok hk hvk s12 (by rw [length_be]; omega) fun G14 s14 => ?_
    obtain ⟨F, hw⟩ := s14.get (i := 0) rfl
    refine cursor_Writer_Out.use (st := (bytesR r l, 0)) hw ?_
    rw [vext0, wv_some, vext1, wv_some, if_pos rfl]
    exact hQ _ s14.ch

end
end Go.Esc.M
